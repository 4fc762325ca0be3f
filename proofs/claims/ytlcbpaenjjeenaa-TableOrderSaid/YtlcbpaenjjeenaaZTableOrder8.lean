/- A part of the proof: words, contracts, plain lemmas. Conditions: none. -/
import Derived.Test.YtlcbpaenjjeenaaZTableOrder3
import Derived.Test.YtlcbpaenjjeenaaZTableOrder7
import Derived.Shelf.SlSortCmp.NoneTotal
import Derived.Test.YtlcbpaenjjeenaaZTableOrder6
section
namespace Go.Proofs.Ytlcbpaenjjeenaa.Q
open Go.RowKit Go.Sort Go.Proofs.YtlcbpaenjjeenaaW.PrintWords Go.Proofs.YtlcbpaenjjeenaaW.PrintLast Go.Proofs.YtlcbpaenjjeenaaW.PrintMore
structure FlatKd {α : Type} (d : Kd α) (enc : α → List Value) : Prop where
  hM : ∀ w base ok x cs, d.M w base ok x cs ↔ cs = enc x
  len : ∀ x, (enc x).length = d.sz
  one : ∀ x, ∀ v ∈ enc x, v.oneCell' = true
  pos : 0 < d.sz
section
variable {α : Type} [Inhabited α] {d : Kd α} {enc : α → List Value} {w : World} {base : Nat} {ok : Nat → Prop} {xs : List α} {inner : List Value}
theorem flat_get {sz : Nat} (F : FlatKd d enc) (hsz : d.sz = sz) (xs : List α) (t : Nat) (ht : t < xs.length * sz) : (flatK enc sz xs.toArray)[t]? = (enc (xs.getD (t / sz) default))[t % sz]? := by
  subst hsz
  have h0 := F.pos
  have hj : t / d.sz < xs.length := Nat.div_lt_of_lt_mul (by rwa [Nat.mul_comm] at ht)
  have hm : t % d.sz < d.sz := Nat.mod_lt _ h0
  have e := get_flatK enc d.sz xs.toArray t (by simpa using ht)
  have hs : t < (flatK enc d.sz xs.toArray).size := by simpa using ht
  rw [getElem!_pos _ t hs] at e
  rw [Array.getElem?_eq_getElem hs, e]
  have e2 : (xs.toArray)[t / d.sz]! = xs.getD (t / d.sz) default := by
    rw [getElem!_pos _ _ (by simpa using hj)]
    simp [List.getD_eq_getElem?_getD, List.getElem?_eq_getElem hj]
  rw [e2]
  have hl : t % d.sz < (enc (xs.getD (t / d.sz) default)).length := by rw [F.len]; exact hm
  rw [List.getElem?_eq_getElem hl]
  congr 1
  exact getElem!_pos (enc (xs.getD (t / d.sz) default)) (t % d.sz) hl
theorem reps_flat (F : FlatKd d enc) (hr : Reps (d.M w base ok) d.sz xs inner) : inner = (flatK enc d.sz xs.toArray).toList := by
  apply List.ext_getElem?
  intro t
  have h0 := F.pos
  rcases Nat.lt_or_ge t (xs.length * d.sz) with ht | ht
  · have hj : t / d.sz < xs.length := Nat.div_lt_of_lt_mul (by rwa [Nat.mul_comm] at ht)
    have hm : t % d.sz < d.sz := Nat.mod_lt _ h0
    have e0 : (flatK enc d.sz xs.toArray).toList[t]? = (flatK enc d.sz xs.toArray)[t]? := Array.getElem?_toList ..
    rw [e0, flat_get F rfl xs t ht]
    have h := (F.hM _ _ _ _ _).1 (hr.2 (t / d.sz) _ (List.getElem?_eq_getElem hj))
    rw [show xs.getD (t / d.sz) default = xs[t / d.sz] by simp [List.getD_eq_getElem?_getD, List.getElem?_eq_getElem hj], ← h]
    rw [List.getElem?_take, if_pos hm, List.getElem?_drop]
    congr 1
    rw [Nat.mul_comm]
    exact (Nat.div_add_mod t d.sz).symm
  · rw [List.getElem?_eq_none (by rw [hr.1]; exact ht), List.getElem?_eq_none (by rw [Array.length_toList, size_flatK]; simpa using ht)]
theorem flat_reps (F : FlatKd d enc) (xs : List α) : Reps (d.M w base ok) d.sz xs (flatK enc d.sz xs.toArray).toList := by
  refine ⟨by simp, fun j p hp => ?_⟩
  rw [F.hM]
  have hj := (List.getElem?_eq_some_iff.1 hp).1
  have h0 := F.pos
  apply List.ext_getElem?
  intro i
  rcases Nat.lt_or_ge i d.sz with hi | hi
  · have hlt : j * d.sz + i < xs.length * d.sz := by
      have := Nat.mul_le_mul_right d.sz (show j + 1 ≤ xs.length from hj)
      rw [Nat.add_mul, Nat.one_mul] at this
      omega
    have e1 : (j * d.sz + i) / d.sz = j := by rw [Nat.add_comm, Nat.add_mul_div_right _ _ h0, Nat.div_eq_of_lt hi, Nat.zero_add]
    have e2 : (j * d.sz + i) % d.sz = i := by rw [Nat.add_comm, Nat.add_mul_mod_self_right, Nat.mod_eq_of_lt hi]
    rw [List.getElem?_take, if_pos hi, List.getElem?_drop, Array.getElem?_toList, flat_get F rfl xs _ hlt, e1, e2]
    rw [List.getD_eq_getElem?_getD, hp]; rfl
  · rw [List.getElem?_eq_none (by rw [List.length_take]; omega), List.getElem?_eq_none (by rw [F.len]; exact hi)]
theorem holdsK_of (F : FlatKd d enc) {e g n cap : Nat} (h : d.R e w base ok (.slice (some ⟨g, 0, none⟩) n cap) xs) : n = xs.length ∧ HoldsK enc d.sz w g 0 xs.toArray ∧ g < w.heap.size ∧ base ≤ g ∧ ok g := by
  obtain ⟨h0, inner, ho, hr⟩ := h
  have hn : n = xs.length := by
    rcases ho.2 with ⟨h', _⟩ | ⟨g', cap', cur, h', _⟩
    · cases h'
    · injection h' with _ h2 _
  subst hn
  obtain rfl := reps_flat F hr
  refine ⟨rfl, fun t ht => ?_, own_lt ho g (by simp [Value.ownBlock]), own_base ho g (by simp [Value.ownBlock]), h0 g (by simp [Value.ownBlock])⟩
  have ht' : t < xs.length * d.sz := by simpa using ht
  rw [Nat.zero_add]
  refine ⟨?_, ho.frozenAt t⟩
  rw [ho.cellAt t ht', Array.getElem?_toList, Array.getElem?_eq_getElem ht, getElem!_pos _ t ht]
  rfl
theorem heap_sortWorldK (enc : α → List Value) (k : Nat) (w : World) (g m : Nat) (d' : Array α) (os : Array Obj) : (sortWorldK enc k w g 0 m d' os).heap = (w.heap.modify g (onCells (putCells id 0 (flatK enc k d')))) ++ os := rfl
theorem sortWorldK_kept (enc : α → List Value) (k : Nat) (w : World) (g m : Nat) (d' : Array α) (os : Array Obj) (i : Nat) (hi : i < w.heap.size) (hne : i ≠ g) : (sortWorldK enc k w g 0 m d' os).heap[i]? = w.heap[i]? := by
  rw [heap_sortWorldK, Array.getElem?_append_left (by simpa using hi), Array.getElem?_modify, if_neg (Ne.symm hne)]
theorem own_sorted {sz : Nat} {e g n cap : Nat} {F0 : List Value} {k : Nat} {d' : Array α} (ho : w.ownsRow base e sz (.slice (some ⟨g, 0, none⟩) n cap) n F0) (hs : (flatK enc k d').size = n * sz) (m : Nat) (os : Array Obj) :
    (sortWorldK enc k w g 0 m d' os).ownsRow base e sz (.slice (some ⟨g, 0, none⟩) n cap) n (flatK enc k d').toList := by
  refine ⟨by rw [Array.length_toList]; exact hs, .inr ?_⟩
  rcases ho.2 with ⟨h', _⟩ | ⟨g', cap', cur, h', hb, hg, hnc, hcm, hcs, htake⟩
  · cases h'
  · injection h' with h1 _ h3
    injection h1 with h1
    injection h1 with h1
    subst h1 h3
    have hlt : g < w.heap.size := (Array.getElem?_eq_some_iff.1 hg).1
    refine ⟨g, cap, putCells id 0 (flatK enc k d') cur, rfl, hb, ?_, hnc, hcm, by simp [putCells, hcs], ?_⟩
    · rw [heap_sortWorldK, Array.getElem?_append_left (by simpa using hlt), Array.getElem?_modify, if_pos rfl, hg]
      rfl
    · have hle : n * sz ≤ cur.size := by rw [hcs]; exact Nat.mul_le_mul_right _ hnc
      apply List.ext_getElem?
      intro t
      rcases Nat.lt_or_ge t (n * sz) with ht | ht
      · rw [List.getElem?_take, if_pos ht, Array.getElem?_toList, Array.getElem?_toList]
        unfold putCells
        rw [Array.getElem?_mapIdx, Array.getElem?_eq_getElem (show t < cur.size by omega), Option.map_some, if_pos ⟨Nat.zero_le _, by omega⟩, Array.getElem?_eq_getElem (show t < (flatK enc k d').size by omega)]
        rw [getElem!_pos _ _ (by omega)]
        simp
      · rw [List.getElem?_eq_none (by rw [List.length_take]; omega), List.getElem?_eq_none (by rw [Array.length_toList]; omega)]
theorem R_sorted (F : FlatKd d enc) {e g n cap : Nat} (h : d.R e w base ok (.slice (some ⟨g, 0, none⟩) n cap) xs) (ys : List α) (hl : ys.length = xs.length) (m : Nat) (os : Array Obj) :
    d.R e (sortWorldK enc d.sz w g 0 m ys.toArray os) base ok (.slice (some ⟨g, 0, none⟩) n cap) ys := by
  obtain ⟨hn, _⟩ := holdsK_of F h
  obtain ⟨h0, inner, ho, hr⟩ := h
  subst hn
  refine ⟨h0, _, ?_, flat_reps F ys⟩
  have h2 := own_sorted (enc := enc) (k := d.sz) (d' := ys.toArray) (sz := d.sz) ho (by simp [hl]) m os
  rw [← hl] at h2 ⊢
  exact h2
end
def srtL {α : Type} [Inhabited α] (cf : α → α → Int) (l : List α) : List α := (pdq (ltOf cf) l.toArray 0 l.toArray.size (Lib.bitLen l.toArray.size) true true).toList
theorem srtL_spec {α : Type} [Inhabited α] {cf : α → α → Int} (hO : SWO (ltOf cf)) (l : List α) : (srtL cf l).Perm l ∧ (srtL cf l).Pairwise (fun x y => ltOf cf y x = false) := by
  obtain ⟨⟨h1, h2, h3⟩, h4⟩ := pdq_sorts (ltOf cf) hO l.toArray 0 l.toArray.size (Lib.bitLen l.toArray.size) true true (Nat.zero_le _) (Nat.le_refl _) (Or.inl rfl)
  unfold srtL
  generalize pdq (ltOf cf) l.toArray 0 l.toArray.size (Lib.bitLen l.toArray.size) true true = r at *
  constructor
  · have e1 : r.extract 0 l.toArray.size = r := by rw [← h1]; exact Array.extract_size
    rw [e1] at h3
    simpa using h3
  · rw [List.pairwise_iff_getElem]
    intro i j hi hj hij
    have := h4 i j (Nat.zero_le _) hij (by rw [← h1]; simpa using hj)
    rw [getElem!_pos r j (by simpa using hj), getElem!_pos r i (by simpa using hi)] at this
    simpa using this
theorem srtL_length {α : Type} [Inhabited α] {cf : α → α → Int} (hO : SWO (ltOf cf)) (l : List α) : (srtL cf l).length = l.length := (srtL_spec hO l).1.length_eq
theorem srtL_nil {α : Type} [Inhabited α] {cf : α → α → Int} (hO : SWO (ltOf cf)) : srtL cf [] = [] := List.eq_nil_of_length_eq_zero (srtL_length hO [])
theorem sort_calls {α : Type} [Inhabited α] {d : Kd α} {enc : α → List Value} (F : FlatKd d enc) {cf : α → α → Int} (hO : SWO (ltOf cf)) {ρ : Go.Shelf.Ren} (L : SlLaysF0.n6 Try.prog ρ) (aE : ∀ w, (isAgg (ρ.t 24)).run Try.prog w = .ok true w) (zE : ∀ w, (Go.sizeOf (ρ.t 24)).run Try.prog w = .ok d.sz w)
    (g : Nat) (eg : ∀ args w, (callFunc g args).run Try.prog w = .ok (.enter g args) w) (hcl : ∀ x y W, Calls Try.prog g #[.agg (enc x).toArray, .agg (enc y).toArray] W fun e w' => e = .returned (.int .i64 (cf x y)) ∧ BelowD W.heap.size W w')
    (e : Nat) (P0 : Nat → Prop) (v : Value) (l : List α) (w0 w : World) (hB : Below w0.heap.size w0 w) (ho : d.R e w w0.heap.size P0 v l) (hl : l.length < 4611686018427387904) :
    Calls Try.prog (ρ.f 6) #[v, .func (.func g) #[] #[]] w fun e' w' => e' = .returned (.tuple #[]) ∧ d.R e w' w0.heap.size (fun k => P0 k ∨ w.heap.size ≤ k) v (srtL cf l) ∧ Below w0.heap.size w0 w' ∧ Kept w w' P0 := by
  by_cases h0 : l.length = 0
  · obtain rfl : l = [] := List.eq_nil_of_length_eq_zero h0
    obtain ⟨A, c, rfl⟩ := Kd.R_slice ho
    refine (AnyF.slices_SortFunc_none L A c _ w).mono ?_
    rintro e' w' ⟨rfl, rfl⟩
    exact ⟨rfl, by rw [srtL_nil hO]; exact Kd.R_mono ho (fun _ h => .inl h), hB, Kept.refl _ _⟩
  · obtain ⟨b, cap, rfl, _, _⟩ := Kd.R_form ho (by omega)
    obtain ⟨_, hH, hlt, hbase, hok⟩ := holdsK_of F ho
    have hc : CmpLays Try.prog g #[] enc d.sz cf b 0 l.toArray.size w := by
      intro m os dk _ x y
      refine (hcl x y _).mono ?_
      rintro e' w' ⟨rfl, hb⟩
      exact ⟨rfl, hb.grow⟩
    have hcon := AnyQ.slices_SortFunc_eq L d.sz aE zE enc F.len F.one cf hO g #[] b 0 cap l.toArray w eg hc hH hlt (by simpa using hl)
    refine hcon.mono ?_
    rintro e' w' ⟨rfl, n, os, rfl⟩
    have hs := R_sorted F ho (srtL cf l) (srtL_length hO l) n os
    have e2 : (srtL cf l).toArray = pdq (ltOf cf) l.toArray 0 l.toArray.size (Lib.bitLen l.toArray.size) true true := by unfold srtL; simp
    rw [e2] at hs
    refine ⟨rfl, Kd.R_mono hs (fun _ h => .inl h), ⟨hB.os, hB.tape, hB.output, ?_, fun i hi => ?_⟩, ?_, fun i hi hn => ?_⟩
    · refine Nat.le_trans hB.size ?_
      rw [heap_sortWorldK, Array.size_append, Array.size_modify]
      exact Nat.le_add_right _ _
    · have := hB.size
      rw [sortWorldK_kept _ _ _ _ _ _ _ _ (by omega) (by omega)]
      exact hB.block i hi
    · rw [heap_sortWorldK, Array.size_append, Array.size_modify]
      exact Nat.le_add_right _ _
    · exact sortWorldK_kept _ _ _ _ _ _ _ _ hi (fun h => hn (h ▸ hok))
end Go.Proofs.Ytlcbpaenjjeenaa.Q
end
section
namespace Go.Proofs.Ytlcbpaenjjeenaa.Q
open Go.Sort hiding rd
open Go.RowKit Go.Proofs.YtlcbpaenjjeenaaW.PrintWords Go.Proofs.YtlcbpaenjjeenaaW.PrintLast Go.Proofs.YtlcbpaenjjeenaaW.PrintMore
def cmpI (a b : Int) : Int := if a < b then -1 else if b < a then 1 else 0
theorem cmp_eq (a b : Int) : cmp_Compare_int.f a b = some (cmpI a b) := by
  unfold cmp_Compare_int.f cmp_isNaN_int.f cmpI
  simp only [bne_self_eq_false, Option.bind_some, Bool.false_eq_true, if_false, gt_iff_lt]
  (repeat' split) <;> rfl
def orI : List Int → Int
  | [] => 0
  | x :: r => if x = 0 then orI r else x
theorem or_loop (l : List Int) (hl : l.length ≤ 7) (d : Nat) : ∀ (i k : Nat), i + d = l.length → d < k → cmp_Or_int.l0 k 0 l (l.length : Int) (i : Int) = some (orI (l.drop i)) := by
  induction d with
  | zero =>
    intro i k hi hk
    obtain ⟨k, rfl⟩ : ∃ m, k = m + 1 := ⟨k - 1, by omega⟩
    rw [cmp_Or_int.l0, if_neg (by omega), List.drop_eq_nil_of_le (by omega)]
    rfl
  | succ d ih =>
    intro i k hi hk
    obtain ⟨k, rfl⟩ : ∃ m, k = m + 1 := ⟨k - 1, by omega⟩
    have hlt : i < l.length := by omega
    have hr : rd l (i : Int) = l[i] := by unfold rd; simp [List.getD_eq_getElem?_getD, List.getElem?_eq_getElem hlt]
    have hw : wrap64 ((i : Int) + 1) = ((i + 1 : Nat) : Int) := by unfold wrap64; omega
    rw [cmp_Or_int.l0, if_pos (by omega), if_pos (by omega), if_pos (by omega), hr, hw, List.drop_eq_getElem_cons hlt, orI]
    by_cases c : l[i] = 0
    · rw [if_pos c, if_pos c]
      exact ih (i + 1) k (by omega) (by omega)
    · rw [if_neg c, if_neg c]
theorem or_eq (l : List Int) (hl : l.length ≤ 7) : cmp_Or_int.f 8 l = some (orI l) := or_loop l hl l.length 0 8 (by omega) (by omega)
theorem or_2 (a b : Int) : cmp_Or_int.f 8 [a, b] = some (if a = 0 then if b = 0 then 0 else b else a) := or_eq _ (by simp)
theorem or_3 (a b c : Int) : cmp_Or_int.f 8 [a, b, c] = some (if a = 0 then if b = 0 then if c = 0 then 0 else c else b else a) := or_eq _ (by simp)
def sortMove_ren : Go.Shelf.Ren := ⟨fun | 6 => 53 | 15 => 57 | 14 => 60 | 28 => 70 | 29 => 71 | 20 => 80 | 21 => 81 | 22 => 82 | 23 => 83 | 24 => 84 | 25 => 85 | 26 => 86 | 27 => 87 | 46 => 96 | 47 => 89 | 48 => 90 | 49 => 97 | 50 => 98 | 57 => 101 | n => n, fun | 22 => 50 | 24 => 56 | 25 => 81 | 3 => 3 | 39 => 68 | 0 => 0 | 53 => 99 | 55 => 88 | 4 => 4 | 46 => 93 | 45 => 92 | 50 => 43 | 5 => 5 | 9 => 9 | 66 => 111 | 70 => 115 | 76 => 121 | 77 => 122 | n => n, fun | n => n⟩
theorem sortMove : Go.Proofs.SlLaysF0.n6 Try.prog sortMove_ren := { mixed := by kernel_rfl, f6 := ⟨Try.f53.name, by decide, Try.func53.trans (congrArg some (by kernel_rfl))⟩, f14 := ⟨Try.f60.name, by decide, Try.func60.trans (congrArg some (by kernel_rfl))⟩, f15 := Try.func57.trans (congrArg some (by kernel_rfl)), f20 := ⟨Try.f80.name, by decide, Try.func80.trans (congrArg some (by kernel_rfl))⟩, f21 := ⟨Try.f81.name, by decide, Try.func81.trans (congrArg some (by kernel_rfl))⟩, f22 := ⟨Try.f82.name, by decide, Try.func82.trans (congrArg some (by kernel_rfl))⟩, f23 := ⟨Try.f83.name, by decide, Try.func83.trans (congrArg some (by kernel_rfl))⟩, f24 := ⟨Try.f84.name, by decide, Try.func84.trans (congrArg some (by kernel_rfl))⟩, f25 := ⟨Try.f85.name, by decide, Try.func85.trans (congrArg some (by kernel_rfl))⟩, f26 := ⟨Try.f86.name, by decide, Try.func86.trans (congrArg some (by kernel_rfl))⟩, f27 := ⟨Try.f87.name, by decide, Try.func87.trans (congrArg some (by kernel_rfl))⟩, f28 := Try.func70.trans (congrArg some (by kernel_rfl)), f29 := Try.func71.trans (congrArg some (by kernel_rfl)), f46 := ⟨Try.f96.name, by decide, Try.func96.trans (congrArg some (by kernel_rfl))⟩, f47 := Try.func89.trans (congrArg some (by kernel_rfl)), f48 := Try.func90.trans (congrArg some (by kernel_rfl)), f49 := ⟨Try.f97.name, by decide, Try.func97.trans (congrArg some (by kernel_rfl))⟩, f50 := ⟨Try.f98.name, by decide, Try.func98.trans (congrArg some (by kernel_rfl))⟩, f57 := ⟨Try.f101.name, by decide, Try.func101.trans (congrArg some (by kernel_rfl))⟩, t0 := Try.underlying0, a0 := Try.isAgg0, z0 := Try.sizeOf0, v0 := Try.zeroValue0, t3 := Try.underlying3, a3 := Try.isAgg3, z3 := Try.sizeOf3, v3 := Try.zeroValue3, t4 := Try.underlying4, a4 := Try.isAgg4, z4 := Try.sizeOf4, v4 := Try.zeroValue4, t5 := Try.underlying5, a5 := Try.isAgg5, z5 := Try.sizeOf5, v5 := Try.zeroValue5, t9 := Try.underlying9, a9 := Try.isAgg9, z9 := Try.sizeOf9, v9 := Try.zeroValue9, t22 := Try.underlying50, a22 := Try.isAgg50, z22 := Try.sizeOf50, v22 := Try.zeroValue50, t25 := Try.underlying81, a25 := Try.isAgg81, z25 := Try.sizeOf81, v25 := Try.zeroValue81, t39 := Try.underlying68, a39 := Try.isAgg68, z39 := Try.sizeOf68, v39 := Try.zeroValue68, t45 := Try.underlying92, a45 := Try.isAgg92, z45 := Try.sizeOf92, v45 := Try.zeroValue92, t46 := Try.underlying93, a46 := Try.isAgg93, z46 := Try.sizeOf93, v46 := Try.zeroValue93, t50 := Try.underlying43, a50 := Try.isAgg43, z50 := Try.sizeOf43, v50 := Try.zeroValue43, t53 := Try.underlying99, a53 := Try.isAgg99, z53 := Try.sizeOf99, v53 := Try.zeroValue99, t55 := Try.underlying88, a55 := Try.isAgg88, z55 := Try.sizeOf88, v55 := Try.zeroValue88, t66 := Try.underlying111, a66 := Try.isAgg111, z66 := Try.sizeOf111, v66 := Try.zeroValue111, t70 := Try.underlying115, a70 := Try.isAgg115, z70 := Try.sizeOf115, v70 := Try.zeroValue115, t76 := Try.underlying121, a76 := Try.isAgg121, z76 := Try.sizeOf121, v76 := Try.zeroValue121, t77 := Try.underlying122, a77 := Try.isAgg122, z77 := Try.sizeOf122, v77 := Try.zeroValue122 }
def cfMove (x y : S56) : Int := if x.f1 < y.f1 then -1 else if y.f1 < x.f1 then 1 else if x.f0 < y.f0 then -1 else if y.f0 < x.f0 then 1 else 0
def encMove (x : S56) : List Value := [.int .i64 x.f0, .int .i64 x.f1, .int .i64 x.f2]
instance : Inhabited S56 := ⟨z56⟩
theorem flatMove : FlatKd k56 encMove :=
  ⟨fun w base ok x cs => ⟨fun h => k56_openM h, fun h => by rw [h]; exact k56_mkM w base ok x⟩, fun _ => rfl, fun x v hv => by
    simp only [encMove, List.mem_cons, List.not_mem_nil, or_false] at hv
    rcases hv with rfl | rfl | rfl <;> rfl, by decide⟩
def ltMove (x y : S56) : Prop := x.f1 < y.f1 ∨ x.f1 = y.f1 ∧ (x.f0 < y.f0)
theorem ltMove_eq (x y : S56) : (ltOf cfMove x y = true) ↔ ltMove x y := by
  unfold ltOf cfMove ltMove
  rw [decide_eq_true_iff]
  (repeat' split) <;> omega
theorem swoMove : SWO (ltOf cfMove) where
  irrefl x := by rw [← Bool.not_eq_true, ltMove_eq]; unfold ltMove; omega
  trans x y z h1 h2 := by rw [ltMove_eq] at *; unfold ltMove at *; omega
  ntrans x y z h1 h2 := by rw [← Bool.not_eq_true, ltMove_eq] at *; unfold ltMove at *; omega
theorem table_Moves_3_val (x y : S56) : table_Moves_3.f 8 x.f0 x.f1 x.f2 y.f0 y.f1 y.f2 = some (cfMove x y) := by
  unfold table_Moves_3.f cfMove
  simp only [cmp_eq, Option.bind_some]
  rw [or_2]
  simp only [Option.bind_some]
  congr 1
  unfold cmpI; (repeat' split) <;> omega
theorem table_Moves_3_lays (x y : S56) (W : World) : Calls Try.prog 54 #[.agg (encMove x).toArray, .agg (encMove y).toArray] W fun e w' => e = .returned (.int .i64 (cfMove x y)) ∧ BelowD W.heap.size W w' :=
  table_Moves_3.callsD 8 x.f0 x.f1 x.f2 y.f0 y.f1 y.f2 (cfMove x y) W (table_Moves_3_val x y)
def api_Move_53.f (l : List (S56)) : Option (List (S56)) := if l.length < 4611686018427387904 then some (srtL cfMove l) else none
theorem api_Move_53.calls (P0_ : Nat → Prop) (u9000_ : Value) (l0 : List (S56)) (r : List S56) (w0 w : World) (hB : Below w0.heap.size w0 w) (ho0 : Kd.R k56 56 w w0.heap.size P0_ u9000_ l0) (h : api_Move_53.f l0 = some r) :
    Calls Try.prog 53 #[u9000_, .func (.func 54) #[] #[]] w fun e w' => e = .returned (.tuple #[]) ∧ Kd.R k56 56 w' w0.heap.size (fun k_ => (P0_ k_ ∨ w.heap.size ≤ k_)) u9000_ r ∧ Below w0.heap.size w0 w' ∧ Kept w w' (fun k_ => P0_ k_) := by
  unfold api_Move_53.f at h
  split at h
  · rename_i hl
    injection h with h
    subst h
    exact sort_calls flatMove swoMove sortMove Try.isAgg56 Try.sizeOf56 54 (enters_of Try.func54 (by kernel_rfl) rfl) table_Moves_3_lays 56 P0_ u9000_ l0 w0 w hB ho0 hl
  · cases h
def sortArc_ren : Go.Shelf.Ren := ⟨fun | 6 => 40 | 15 => 57 | 14 => 56 | 28 => 70 | 29 => 71 | 20 => 62 | 21 => 63 | 22 => 64 | 23 => 65 | 24 => 66 | 25 => 67 | 26 => 68 | 27 => 69 | 46 => 88 | 47 => 89 | 48 => 90 | 49 => 91 | 50 => 92 | 57 => 99 | n => n, fun | 22 => 22 | 24 => 42 | 25 => 64 | 3 => 3 | 39 => 68 | 0 => 0 | 53 => 99 | 55 => 88 | 4 => 4 | 46 => 93 | 45 => 92 | 50 => 43 | 5 => 5 | 9 => 9 | 66 => 111 | 70 => 115 | 76 => 121 | 77 => 122 | n => n, fun | n => n⟩
theorem sortArc : Go.Proofs.SlLaysF0.n6 Try.prog sortArc_ren := { mixed := by kernel_rfl, f6 := ⟨Try.f40.name, by decide, Try.func40.trans (congrArg some (by kernel_rfl))⟩, f14 := ⟨Try.f56.name, by decide, Try.func56.trans (congrArg some (by kernel_rfl))⟩, f15 := Try.func57.trans (congrArg some (by kernel_rfl)), f20 := ⟨Try.f62.name, by decide, Try.func62.trans (congrArg some (by kernel_rfl))⟩, f21 := ⟨Try.f63.name, by decide, Try.func63.trans (congrArg some (by kernel_rfl))⟩, f22 := ⟨Try.f64.name, by decide, Try.func64.trans (congrArg some (by kernel_rfl))⟩, f23 := ⟨Try.f65.name, by decide, Try.func65.trans (congrArg some (by kernel_rfl))⟩, f24 := ⟨Try.f66.name, by decide, Try.func66.trans (congrArg some (by kernel_rfl))⟩, f25 := ⟨Try.f67.name, by decide, Try.func67.trans (congrArg some (by kernel_rfl))⟩, f26 := ⟨Try.f68.name, by decide, Try.func68.trans (congrArg some (by kernel_rfl))⟩, f27 := ⟨Try.f69.name, by decide, Try.func69.trans (congrArg some (by kernel_rfl))⟩, f28 := Try.func70.trans (congrArg some (by kernel_rfl)), f29 := Try.func71.trans (congrArg some (by kernel_rfl)), f46 := ⟨Try.f88.name, by decide, Try.func88.trans (congrArg some (by kernel_rfl))⟩, f47 := Try.func89.trans (congrArg some (by kernel_rfl)), f48 := Try.func90.trans (congrArg some (by kernel_rfl)), f49 := ⟨Try.f91.name, by decide, Try.func91.trans (congrArg some (by kernel_rfl))⟩, f50 := ⟨Try.f92.name, by decide, Try.func92.trans (congrArg some (by kernel_rfl))⟩, f57 := ⟨Try.f99.name, by decide, Try.func99.trans (congrArg some (by kernel_rfl))⟩, t0 := Try.underlying0, a0 := Try.isAgg0, z0 := Try.sizeOf0, v0 := Try.zeroValue0, t3 := Try.underlying3, a3 := Try.isAgg3, z3 := Try.sizeOf3, v3 := Try.zeroValue3, t4 := Try.underlying4, a4 := Try.isAgg4, z4 := Try.sizeOf4, v4 := Try.zeroValue4, t5 := Try.underlying5, a5 := Try.isAgg5, z5 := Try.sizeOf5, v5 := Try.zeroValue5, t9 := Try.underlying9, a9 := Try.isAgg9, z9 := Try.sizeOf9, v9 := Try.zeroValue9, t22 := Try.underlying22, a22 := Try.isAgg22, z22 := Try.sizeOf22, v22 := Try.zeroValue22, t25 := Try.underlying64, a25 := Try.isAgg64, z25 := Try.sizeOf64, v25 := Try.zeroValue64, t39 := Try.underlying68, a39 := Try.isAgg68, z39 := Try.sizeOf68, v39 := Try.zeroValue68, t45 := Try.underlying92, a45 := Try.isAgg92, z45 := Try.sizeOf92, v45 := Try.zeroValue92, t46 := Try.underlying93, a46 := Try.isAgg93, z46 := Try.sizeOf93, v46 := Try.zeroValue93, t50 := Try.underlying43, a50 := Try.isAgg43, z50 := Try.sizeOf43, v50 := Try.zeroValue43, t53 := Try.underlying99, a53 := Try.isAgg99, z53 := Try.sizeOf99, v53 := Try.zeroValue99, t55 := Try.underlying88, a55 := Try.isAgg88, z55 := Try.sizeOf88, v55 := Try.zeroValue88, t66 := Try.underlying111, a66 := Try.isAgg111, z66 := Try.sizeOf111, v66 := Try.zeroValue111, t70 := Try.underlying115, a70 := Try.isAgg115, z70 := Try.sizeOf115, v70 := Try.zeroValue115, t76 := Try.underlying121, a76 := Try.isAgg121, z76 := Try.sizeOf121, v76 := Try.zeroValue121, t77 := Try.underlying122, a77 := Try.isAgg122, z77 := Try.sizeOf122, v77 := Try.zeroValue122 }
def cfArc (x y : S42) : Int := if x.f0 < y.f0 then -1 else if y.f0 < x.f0 then 1 else if x.f1 < y.f1 then -1 else if y.f1 < x.f1 then 1 else if x.f3 < y.f3 then -1 else if y.f3 < x.f3 then 1 else 0
def encArc (x : S42) : List Value := [.int .i64 x.f0, .int .i64 x.f1, .int .i64 x.f2, .int .i64 x.f3]
instance : Inhabited S42 := ⟨z42⟩
theorem flatArc : FlatKd k42 encArc :=
  ⟨fun w base ok x cs => ⟨fun h => k42_openM h, fun h => by rw [h]; exact k42_mkM w base ok x⟩, fun _ => rfl, fun x v hv => by
    simp only [encArc, List.mem_cons, List.not_mem_nil, or_false] at hv
    rcases hv with rfl | rfl | rfl | rfl <;> rfl, by decide⟩
def ltArc (x y : S42) : Prop := x.f0 < y.f0 ∨ x.f0 = y.f0 ∧ (x.f1 < y.f1 ∨ x.f1 = y.f1 ∧ (x.f3 < y.f3))
theorem ltArc_eq (x y : S42) : (ltOf cfArc x y = true) ↔ ltArc x y := by
  unfold ltOf cfArc ltArc
  rw [decide_eq_true_iff]
  (repeat' split) <;> omega
theorem swoArc : SWO (ltOf cfArc) where
  irrefl x := by rw [← Bool.not_eq_true, ltArc_eq]; unfold ltArc; omega
  trans x y z h1 h2 := by rw [ltArc_eq] at *; unfold ltArc at *; omega
  ntrans x y z h1 h2 := by rw [← Bool.not_eq_true, ltArc_eq] at *; unfold ltArc at *; omega
theorem table_compare_val (x y : S42) : table_compare.f 8 x.f0 x.f1 x.f2 x.f3 y.f0 y.f1 y.f2 y.f3 = some (cfArc x y) := by
  unfold table_compare.f cfArc
  simp only [cmp_eq, Option.bind_some]
  rw [or_3]
  simp only [Option.bind_some]
  congr 1
  unfold cmpI; (repeat' split) <;> omega
theorem table_compare_lays (x y : S42) (W : World) : Calls Try.prog 41 #[.agg (encArc x).toArray, .agg (encArc y).toArray] W fun e w' => e = .returned (.int .i64 (cfArc x y)) ∧ BelowD W.heap.size W w' :=
  table_compare.callsD 8 x.f0 x.f1 x.f2 x.f3 y.f0 y.f1 y.f2 y.f3 (cfArc x y) W (table_compare_val x y)
def api_Arc_40.f (l : List (S42)) : Option (List (S42)) := if l.length < 4611686018427387904 then some (srtL cfArc l) else none
theorem api_Arc_40.calls (P0_ : Nat → Prop) (u9000_ : Value) (l0 : List (S42)) (r : List S42) (w0 w : World) (hB : Below w0.heap.size w0 w) (ho0 : Kd.R k42 42 w w0.heap.size P0_ u9000_ l0) (h : api_Arc_40.f l0 = some r) :
    Calls Try.prog 40 #[u9000_, .func (.func 41) #[] #[]] w fun e w' => e = .returned (.tuple #[]) ∧ Kd.R k42 42 w' w0.heap.size (fun k_ => (P0_ k_ ∨ w.heap.size ≤ k_)) u9000_ r ∧ Below w0.heap.size w0 w' ∧ Kept w w' (fun k_ => P0_ k_) := by
  unfold api_Arc_40.f at h
  split at h
  · rename_i hl
    injection h with h
    subst h
    exact sort_calls flatArc swoArc sortArc Try.isAgg42 Try.sizeOf42 41 (enters_of Try.func41 (by kernel_rfl) rfl) table_compare_lays 42 P0_ u9000_ l0 w0 w hB ho0 hl
  · cases h
def sortSlot_ren : Go.Shelf.Ren := ⟨fun | 6 => 44 | 15 => 57 | 14 => 58 | 28 => 70 | 29 => 71 | 20 => 72 | 21 => 73 | 22 => 74 | 23 => 75 | 24 => 76 | 25 => 77 | 26 => 78 | 27 => 79 | 46 => 93 | 47 => 89 | 48 => 90 | 49 => 94 | 50 => 95 | 57 => 100 | n => n, fun | 22 => 45 | 24 => 70 | 25 => 75 | 3 => 3 | 39 => 68 | 0 => 0 | 53 => 99 | 55 => 88 | 4 => 4 | 46 => 93 | 45 => 92 | 50 => 43 | 5 => 5 | 9 => 9 | 66 => 111 | 70 => 115 | 76 => 121 | 77 => 122 | n => n, fun | n => n⟩
theorem sortSlot : Go.Proofs.SlLaysF0.n6 Try.prog sortSlot_ren := { mixed := by kernel_rfl, f6 := ⟨Try.f44.name, by decide, Try.func44.trans (congrArg some (by kernel_rfl))⟩, f14 := ⟨Try.f58.name, by decide, Try.func58.trans (congrArg some (by kernel_rfl))⟩, f15 := Try.func57.trans (congrArg some (by kernel_rfl)), f20 := ⟨Try.f72.name, by decide, Try.func72.trans (congrArg some (by kernel_rfl))⟩, f21 := ⟨Try.f73.name, by decide, Try.func73.trans (congrArg some (by kernel_rfl))⟩, f22 := ⟨Try.f74.name, by decide, Try.func74.trans (congrArg some (by kernel_rfl))⟩, f23 := ⟨Try.f75.name, by decide, Try.func75.trans (congrArg some (by kernel_rfl))⟩, f24 := ⟨Try.f76.name, by decide, Try.func76.trans (congrArg some (by kernel_rfl))⟩, f25 := ⟨Try.f77.name, by decide, Try.func77.trans (congrArg some (by kernel_rfl))⟩, f26 := ⟨Try.f78.name, by decide, Try.func78.trans (congrArg some (by kernel_rfl))⟩, f27 := ⟨Try.f79.name, by decide, Try.func79.trans (congrArg some (by kernel_rfl))⟩, f28 := Try.func70.trans (congrArg some (by kernel_rfl)), f29 := Try.func71.trans (congrArg some (by kernel_rfl)), f46 := ⟨Try.f93.name, by decide, Try.func93.trans (congrArg some (by kernel_rfl))⟩, f47 := Try.func89.trans (congrArg some (by kernel_rfl)), f48 := Try.func90.trans (congrArg some (by kernel_rfl)), f49 := ⟨Try.f94.name, by decide, Try.func94.trans (congrArg some (by kernel_rfl))⟩, f50 := ⟨Try.f95.name, by decide, Try.func95.trans (congrArg some (by kernel_rfl))⟩, f57 := ⟨Try.f100.name, by decide, Try.func100.trans (congrArg some (by kernel_rfl))⟩, t0 := Try.underlying0, a0 := Try.isAgg0, z0 := Try.sizeOf0, v0 := Try.zeroValue0, t3 := Try.underlying3, a3 := Try.isAgg3, z3 := Try.sizeOf3, v3 := Try.zeroValue3, t4 := Try.underlying4, a4 := Try.isAgg4, z4 := Try.sizeOf4, v4 := Try.zeroValue4, t5 := Try.underlying5, a5 := Try.isAgg5, z5 := Try.sizeOf5, v5 := Try.zeroValue5, t9 := Try.underlying9, a9 := Try.isAgg9, z9 := Try.sizeOf9, v9 := Try.zeroValue9, t22 := Try.underlying45, a22 := Try.isAgg45, z22 := Try.sizeOf45, v22 := Try.zeroValue45, t25 := Try.underlying75, a25 := Try.isAgg75, z25 := Try.sizeOf75, v25 := Try.zeroValue75, t39 := Try.underlying68, a39 := Try.isAgg68, z39 := Try.sizeOf68, v39 := Try.zeroValue68, t45 := Try.underlying92, a45 := Try.isAgg92, z45 := Try.sizeOf92, v45 := Try.zeroValue92, t46 := Try.underlying93, a46 := Try.isAgg93, z46 := Try.sizeOf93, v46 := Try.zeroValue93, t50 := Try.underlying43, a50 := Try.isAgg43, z50 := Try.sizeOf43, v50 := Try.zeroValue43, t53 := Try.underlying99, a53 := Try.isAgg99, z53 := Try.sizeOf99, v53 := Try.zeroValue99, t55 := Try.underlying88, a55 := Try.isAgg88, z55 := Try.sizeOf88, v55 := Try.zeroValue88, t66 := Try.underlying111, a66 := Try.isAgg111, z66 := Try.sizeOf111, v66 := Try.zeroValue111, t70 := Try.underlying115, a70 := Try.isAgg115, z70 := Try.sizeOf115, v70 := Try.zeroValue115, t76 := Try.underlying121, a76 := Try.isAgg121, z76 := Try.sizeOf121, v76 := Try.zeroValue121, t77 := Try.underlying122, a77 := Try.isAgg122, z77 := Try.sizeOf122, v77 := Try.zeroValue122 }
def cfSlot (x y : S70) : Int := if x.f1 < y.f1 then -1 else if y.f1 < x.f1 then 1 else if x.f0 < y.f0 then -1 else if y.f0 < x.f0 then 1 else 0
def encSlot (x : S70) : List Value := [.int .i64 x.f0, .int .i64 x.f1]
instance : Inhabited S70 := ⟨z70⟩
theorem flatSlot : FlatKd k70 encSlot :=
  ⟨fun w base ok x cs => ⟨fun h => k70_openM h, fun h => by rw [h]; exact k70_mkM w base ok x⟩, fun _ => rfl, fun x v hv => by
    simp only [encSlot, List.mem_cons, List.not_mem_nil, or_false] at hv
    rcases hv with rfl | rfl <;> rfl, by decide⟩
def ltSlot (x y : S70) : Prop := x.f1 < y.f1 ∨ x.f1 = y.f1 ∧ (x.f0 < y.f0)
theorem ltSlot_eq (x y : S70) : (ltOf cfSlot x y = true) ↔ ltSlot x y := by
  unfold ltOf cfSlot ltSlot
  rw [decide_eq_true_iff]
  (repeat' split) <;> omega
theorem swoSlot : SWO (ltOf cfSlot) where
  irrefl x := by rw [← Bool.not_eq_true, ltSlot_eq]; unfold ltSlot; omega
  trans x y z h1 h2 := by rw [ltSlot_eq] at *; unfold ltSlot at *; omega
  ntrans x y z h1 h2 := by rw [← Bool.not_eq_true, ltSlot_eq] at *; unfold ltSlot at *; omega
theorem table_Slots_1_val (x y : S70) : table_Slots_1.f 8 x.f0 x.f1 y.f0 y.f1 = some (cfSlot x y) := by
  unfold table_Slots_1.f cfSlot
  simp only [cmp_eq, Option.bind_some]
  rw [or_2]
  simp only [Option.bind_some]
  congr 1
  unfold cmpI; (repeat' split) <;> omega
theorem table_Slots_1_lays (x y : S70) (W : World) : Calls Try.prog 45 #[.agg (encSlot x).toArray, .agg (encSlot y).toArray] W fun e w' => e = .returned (.int .i64 (cfSlot x y)) ∧ BelowD W.heap.size W w' :=
  table_Slots_1.callsD 8 x.f0 x.f1 y.f0 y.f1 (cfSlot x y) W (table_Slots_1_val x y)
def api_Slot_44.f (l : List (S70)) : Option (List (S70)) := if l.length < 4611686018427387904 then some (srtL cfSlot l) else none
theorem api_Slot_44.calls (P0_ : Nat → Prop) (u9000_ : Value) (l0 : List (S70)) (r : List S70) (w0 w : World) (hB : Below w0.heap.size w0 w) (ho0 : Kd.R k70 70 w w0.heap.size P0_ u9000_ l0) (h : api_Slot_44.f l0 = some r) :
    Calls Try.prog 44 #[u9000_, .func (.func 45) #[] #[]] w fun e w' => e = .returned (.tuple #[]) ∧ Kd.R k70 70 w' w0.heap.size (fun k_ => (P0_ k_ ∨ w.heap.size ≤ k_)) u9000_ r ∧ Below w0.heap.size w0 w' ∧ Kept w w' (fun k_ => P0_ k_) := by
  unfold api_Slot_44.f at h
  split at h
  · rename_i hl
    injection h with h
    subst h
    exact sort_calls flatSlot swoSlot sortSlot Try.isAgg70 Try.sizeOf70 45 (enters_of Try.func45 (by kernel_rfl) rfl) table_Slots_1_lays 70 P0_ u9000_ l0 w0 w hB ho0 hl
  · cases h
end Go.Proofs.Ytlcbpaenjjeenaa.Q
end
