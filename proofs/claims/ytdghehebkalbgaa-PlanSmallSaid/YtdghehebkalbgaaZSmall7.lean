/- A part of the proof: words, contracts, plain lemmas. Conditions: none. -/
import Derived.Test.YtdghehebkalbgaaZSmall4
import Derived.Test.YtdghehebkalbgaaZSmall5
import Derived.Shelf.SlSortCmp.NoneTotal
import Derived.Laws.Externs
import Derived.Test.YtdghehebkalbgaaZSmall6
section
namespace Go.Proofs.Ytdghehebkalbgaa.Q
open Go.RowKit Go.Sort Go.Proofs.YtdghehebkalbgaaW.PrintWords Go.Proofs.YtdghehebkalbgaaW.PrintLast Go.Proofs.YtdghehebkalbgaaW.PrintMore
structure FlatKd {α : Type} (d : Kd α) (enc : α → List Value) : Prop where
  hM : ∀ w base ok x cs, d.M w base ok x cs ↔ cs = enc x
  len : ∀ x, (enc x).length = d.sz
  one : ∀ x, ∀ v ∈ enc x, v.oneCell' = true
  pos : 0 < d.sz
section
variable {α : Type} [Inhabited α] {d : Kd α} {enc : α → List Value} {w : World} {base : Nat} {ok : Nat → Prop} {xs : List α} {inner : List Value}
theorem flat_get {sz : Nat} (F : FlatKd d enc) (hsz : d.sz = sz) (xs : List α) (t : Nat) (ht : t < xs.length * sz) : (flatK enc sz xs.toArray)[t]? = (enc (xs.getD (t / sz) default))[t % sz]? := by
  subst hsz
  have h0 := F.pos
  have hj : t / d.sz < xs.length := Nat.div_lt_of_lt_mul (by rwa [Nat.mul_comm] at ht)
  have hm : t % d.sz < d.sz := Nat.mod_lt _ h0
  have e := get_flatK enc d.sz xs.toArray t (by simpa using ht)
  have hs : t < (flatK enc d.sz xs.toArray).size := by simpa using ht
  rw [getElem!_pos _ t hs] at e
  rw [Array.getElem?_eq_getElem hs, e]
  have e2 : (xs.toArray)[t / d.sz]! = xs.getD (t / d.sz) default := by
    rw [getElem!_pos _ _ (by simpa using hj)]
    simp [List.getD_eq_getElem?_getD, List.getElem?_eq_getElem hj]
  rw [e2]
  have hl : t % d.sz < (enc (xs.getD (t / d.sz) default)).length := by rw [F.len]; exact hm
  rw [List.getElem?_eq_getElem hl]
  congr 1
  exact getElem!_pos (enc (xs.getD (t / d.sz) default)) (t % d.sz) hl
theorem reps_flat (F : FlatKd d enc) (hr : Reps (d.M w base ok) d.sz xs inner) : inner = (flatK enc d.sz xs.toArray).toList := by
  apply List.ext_getElem?
  intro t
  have h0 := F.pos
  rcases Nat.lt_or_ge t (xs.length * d.sz) with ht | ht
  · have hj : t / d.sz < xs.length := Nat.div_lt_of_lt_mul (by rwa [Nat.mul_comm] at ht)
    have hm : t % d.sz < d.sz := Nat.mod_lt _ h0
    have e0 : (flatK enc d.sz xs.toArray).toList[t]? = (flatK enc d.sz xs.toArray)[t]? := Array.getElem?_toList ..
    rw [e0, flat_get F rfl xs t ht]
    have h := (F.hM _ _ _ _ _).1 (hr.2 (t / d.sz) _ (List.getElem?_eq_getElem hj))
    rw [show xs.getD (t / d.sz) default = xs[t / d.sz] by simp [List.getD_eq_getElem?_getD, List.getElem?_eq_getElem hj], ← h]
    rw [List.getElem?_take, if_pos hm, List.getElem?_drop]
    congr 1
    rw [Nat.mul_comm]
    exact (Nat.div_add_mod t d.sz).symm
  · rw [List.getElem?_eq_none (by rw [hr.1]; exact ht), List.getElem?_eq_none (by rw [Array.length_toList, size_flatK]; simpa using ht)]
theorem flat_reps (F : FlatKd d enc) (xs : List α) : Reps (d.M w base ok) d.sz xs (flatK enc d.sz xs.toArray).toList := by
  refine ⟨by simp, fun j p hp => ?_⟩
  rw [F.hM]
  have hj := (List.getElem?_eq_some_iff.1 hp).1
  have h0 := F.pos
  apply List.ext_getElem?
  intro i
  rcases Nat.lt_or_ge i d.sz with hi | hi
  · have hlt : j * d.sz + i < xs.length * d.sz := by
      have := Nat.mul_le_mul_right d.sz (show j + 1 ≤ xs.length from hj)
      rw [Nat.add_mul, Nat.one_mul] at this
      omega
    have e1 : (j * d.sz + i) / d.sz = j := by rw [Nat.add_comm, Nat.add_mul_div_right _ _ h0, Nat.div_eq_of_lt hi, Nat.zero_add]
    have e2 : (j * d.sz + i) % d.sz = i := by rw [Nat.add_comm, Nat.add_mul_mod_self_right, Nat.mod_eq_of_lt hi]
    rw [List.getElem?_take, if_pos hi, List.getElem?_drop, Array.getElem?_toList, flat_get F rfl xs _ hlt, e1, e2]
    rw [List.getD_eq_getElem?_getD, hp]; rfl
  · rw [List.getElem?_eq_none (by rw [List.length_take]; omega), List.getElem?_eq_none (by rw [F.len]; exact hi)]
theorem holdsK_of (F : FlatKd d enc) {e g n cap : Nat} (h : d.R e w base ok (.slice (some ⟨g, 0, none⟩) n cap) xs) : n = xs.length ∧ HoldsK enc d.sz w g 0 xs.toArray ∧ g < w.heap.size ∧ base ≤ g ∧ ok g := by
  obtain ⟨h0, inner, ho, hr⟩ := h
  have hn : n = xs.length := by
    rcases ho.2 with ⟨h', _⟩ | ⟨g', cap', cur, h', _⟩
    · cases h'
    · injection h' with _ h2 _
  subst hn
  obtain rfl := reps_flat F hr
  refine ⟨rfl, fun t ht => ?_, own_lt ho g (by simp [Value.ownBlock]), own_base ho g (by simp [Value.ownBlock]), h0 g (by simp [Value.ownBlock])⟩
  have ht' : t < xs.length * d.sz := by simpa using ht
  rw [Nat.zero_add]
  refine ⟨?_, ho.frozenAt t⟩
  rw [ho.cellAt t ht', Array.getElem?_toList, Array.getElem?_eq_getElem ht, getElem!_pos _ t ht]
  rfl
theorem heap_sortWorldK (enc : α → List Value) (k : Nat) (w : World) (g m : Nat) (d' : Array α) (os : Array Obj) : (sortWorldK enc k w g 0 m d' os).heap = (w.heap.modify g (onCells (putCells id 0 (flatK enc k d')))) ++ os := rfl
theorem sortWorldK_kept (enc : α → List Value) (k : Nat) (w : World) (g m : Nat) (d' : Array α) (os : Array Obj) (i : Nat) (hi : i < w.heap.size) (hne : i ≠ g) : (sortWorldK enc k w g 0 m d' os).heap[i]? = w.heap[i]? := by
  rw [heap_sortWorldK, Array.getElem?_append_left (by simpa using hi), Array.getElem?_modify, if_neg (Ne.symm hne)]
theorem own_sorted {sz : Nat} {e g n cap : Nat} {F0 : List Value} {k : Nat} {d' : Array α} (ho : w.ownsRow base e sz (.slice (some ⟨g, 0, none⟩) n cap) n F0) (hs : (flatK enc k d').size = n * sz) (m : Nat) (os : Array Obj) :
    (sortWorldK enc k w g 0 m d' os).ownsRow base e sz (.slice (some ⟨g, 0, none⟩) n cap) n (flatK enc k d').toList := by
  refine ⟨by rw [Array.length_toList]; exact hs, .inr ?_⟩
  rcases ho.2 with ⟨h', _⟩ | ⟨g', cap', cur, h', hb, hg, hnc, hcm, hcs, htake⟩
  · cases h'
  · injection h' with h1 _ h3
    injection h1 with h1
    injection h1 with h1
    subst h1 h3
    have hlt : g < w.heap.size := (Array.getElem?_eq_some_iff.1 hg).1
    refine ⟨g, cap, putCells id 0 (flatK enc k d') cur, rfl, hb, ?_, hnc, hcm, by simp [putCells, hcs], ?_⟩
    · rw [heap_sortWorldK, Array.getElem?_append_left (by simpa using hlt), Array.getElem?_modify, if_pos rfl, hg]
      rfl
    · have hle : n * sz ≤ cur.size := by rw [hcs]; exact Nat.mul_le_mul_right _ hnc
      apply List.ext_getElem?
      intro t
      rcases Nat.lt_or_ge t (n * sz) with ht | ht
      · rw [List.getElem?_take, if_pos ht, Array.getElem?_toList, Array.getElem?_toList]
        unfold putCells
        rw [Array.getElem?_mapIdx, Array.getElem?_eq_getElem (show t < cur.size by omega), Option.map_some, if_pos ⟨Nat.zero_le _, by omega⟩, Array.getElem?_eq_getElem (show t < (flatK enc k d').size by omega)]
        rw [getElem!_pos _ _ (by omega)]
        simp
      · rw [List.getElem?_eq_none (by rw [List.length_take]; omega), List.getElem?_eq_none (by rw [Array.length_toList]; omega)]
theorem R_sorted (F : FlatKd d enc) {e g n cap : Nat} (h : d.R e w base ok (.slice (some ⟨g, 0, none⟩) n cap) xs) (ys : List α) (hl : ys.length = xs.length) (m : Nat) (os : Array Obj) :
    d.R e (sortWorldK enc d.sz w g 0 m ys.toArray os) base ok (.slice (some ⟨g, 0, none⟩) n cap) ys := by
  obtain ⟨hn, _⟩ := holdsK_of F h
  obtain ⟨h0, inner, ho, hr⟩ := h
  subst hn
  refine ⟨h0, _, ?_, flat_reps F ys⟩
  have h2 := own_sorted (enc := enc) (k := d.sz) (d' := ys.toArray) (sz := d.sz) ho (by simp [hl]) m os
  rw [← hl] at h2 ⊢
  exact h2
end
def srtL {α : Type} [Inhabited α] (cf : α → α → Int) (l : List α) : List α := (pdq (ltOf cf) l.toArray 0 l.toArray.size (Lib.bitLen l.toArray.size) true true).toList
theorem srtL_spec {α : Type} [Inhabited α] {cf : α → α → Int} (hO : SWO (ltOf cf)) (l : List α) : (srtL cf l).Perm l ∧ (srtL cf l).Pairwise (fun x y => ltOf cf y x = false) := by
  obtain ⟨⟨h1, h2, h3⟩, h4⟩ := pdq_sorts (ltOf cf) hO l.toArray 0 l.toArray.size (Lib.bitLen l.toArray.size) true true (Nat.zero_le _) (Nat.le_refl _) (Or.inl rfl)
  unfold srtL
  generalize pdq (ltOf cf) l.toArray 0 l.toArray.size (Lib.bitLen l.toArray.size) true true = r at *
  constructor
  · have e1 : r.extract 0 l.toArray.size = r := by rw [← h1]; exact Array.extract_size
    rw [e1] at h3
    simpa using h3
  · rw [List.pairwise_iff_getElem]
    intro i j hi hj hij
    have := h4 i j (Nat.zero_le _) hij (by rw [← h1]; simpa using hj)
    rw [getElem!_pos r j (by simpa using hj), getElem!_pos r i (by simpa using hi)] at this
    simpa using this
theorem srtL_length {α : Type} [Inhabited α] {cf : α → α → Int} (hO : SWO (ltOf cf)) (l : List α) : (srtL cf l).length = l.length := (srtL_spec hO l).1.length_eq
theorem srtL_nil {α : Type} [Inhabited α] {cf : α → α → Int} (hO : SWO (ltOf cf)) : srtL cf [] = [] := List.eq_nil_of_length_eq_zero (srtL_length hO [])
theorem sort_calls {α : Type} [Inhabited α] {d : Kd α} {enc : α → List Value} (F : FlatKd d enc) {cf : α → α → Int} (hO : SWO (ltOf cf)) {ρ : Go.Shelf.Ren} (L : SlLaysF0.n6 Try.prog ρ) (aE : ∀ w, (isAgg (ρ.t 24)).run Try.prog w = .ok true w) (zE : ∀ w, (Go.sizeOf (ρ.t 24)).run Try.prog w = .ok d.sz w)
    (g : Nat) (eg : ∀ args w, (callFunc g args).run Try.prog w = .ok (.enter g args) w) (hcl : ∀ x y W, Calls Try.prog g #[.agg (enc x).toArray, .agg (enc y).toArray] W fun e w' => e = .returned (.int .i64 (cf x y)) ∧ BelowD W.heap.size W w')
    (e : Nat) (P0 : Nat → Prop) (v : Value) (l : List α) (w0 w : World) (hB : Below w0.heap.size w0 w) (ho : d.R e w w0.heap.size P0 v l) (hl : l.length < 4611686018427387904) :
    Calls Try.prog (ρ.f 6) #[v, .func (.func g) #[] #[]] w fun e' w' => e' = .returned (.tuple #[]) ∧ d.R e w' w0.heap.size (fun k => P0 k ∨ w.heap.size ≤ k) v (srtL cf l) ∧ Below w0.heap.size w0 w' ∧ Kept w w' P0 := by
  by_cases h0 : l.length = 0
  · obtain rfl : l = [] := List.eq_nil_of_length_eq_zero h0
    obtain ⟨A, c, rfl⟩ := Kd.R_slice ho
    refine (AnyF.slices_SortFunc_none L A c _ w).mono ?_
    rintro e' w' ⟨rfl, rfl⟩
    exact ⟨rfl, by rw [srtL_nil hO]; exact Kd.R_mono ho (fun _ h => .inl h), hB, Kept.refl _ _⟩
  · obtain ⟨b, cap, rfl, _, _⟩ := Kd.R_form ho (by omega)
    obtain ⟨_, hH, hlt, hbase, hok⟩ := holdsK_of F ho
    have hc : CmpLays Try.prog g #[] enc d.sz cf b 0 l.toArray.size w := by
      intro m os dk _ x y
      refine (hcl x y _).mono ?_
      rintro e' w' ⟨rfl, hb⟩
      exact ⟨rfl, hb.grow⟩
    have hcon := AnyQ.slices_SortFunc_eq L d.sz aE zE enc F.len F.one cf hO g #[] b 0 cap l.toArray w eg hc hH hlt (by simpa using hl)
    refine hcon.mono ?_
    rintro e' w' ⟨rfl, n, os, rfl⟩
    have hs := R_sorted F ho (srtL cf l) (srtL_length hO l) n os
    have e2 : (srtL cf l).toArray = pdq (ltOf cf) l.toArray 0 l.toArray.size (Lib.bitLen l.toArray.size) true true := by unfold srtL; simp
    rw [e2] at hs
    refine ⟨rfl, Kd.R_mono hs (fun _ h => .inl h), ⟨hB.os, hB.tape, hB.output, ?_, fun i hi => ?_⟩, ?_, fun i hi hn => ?_⟩
    · refine Nat.le_trans hB.size ?_
      rw [heap_sortWorldK, Array.size_append, Array.size_modify]
      exact Nat.le_add_right _ _
    · have := hB.size
      rw [sortWorldK_kept _ _ _ _ _ _ _ _ (by omega) (by omega)]
      exact hB.block i hi
    · rw [heap_sortWorldK, Array.size_append, Array.size_modify]
      exact Nat.le_add_right _ _
    · exact sortWorldK_kept _ _ _ _ _ _ _ _ hi (fun h => hn (h ▸ hok))
end Go.Proofs.Ytdghehebkalbgaa.Q
end
section
namespace Go.Proofs.Ytdghehebkalbgaa.Q
open Go.Sort hiding rd
open Go.RowKit Go.Proofs.YtdghehebkalbgaaW.PrintWords Go.Proofs.YtdghehebkalbgaaW.PrintLast Go.Proofs.YtdghehebkalbgaaW.PrintMore
def cmpI (a b : Int) : Int := if a < b then -1 else if b < a then 1 else 0
theorem cmp_eq (a b : Int) : cmp_Compare_int.f a b = some (cmpI a b) := by
  unfold cmp_Compare_int.f cmp_isNaN_int.f cmpI
  simp only [bne_self_eq_false, Option.bind_some, Bool.false_eq_true, if_false, gt_iff_lt]
  (repeat' split) <;> rfl
def orI : List Int → Int
  | [] => 0
  | x :: r => if x = 0 then orI r else x
theorem or_loop (l : List Int) (hl : l.length ≤ 7) (d : Nat) : ∀ (i k : Nat), i + d = l.length → d < k → cmp_Or_int.l0 k 0 l (l.length : Int) (i : Int) = some (orI (l.drop i)) := by
  induction d with
  | zero =>
    intro i k hi hk
    obtain ⟨k, rfl⟩ : ∃ m, k = m + 1 := ⟨k - 1, by omega⟩
    rw [cmp_Or_int.l0, if_neg (by omega), List.drop_eq_nil_of_le (by omega)]
    rfl
  | succ d ih =>
    intro i k hi hk
    obtain ⟨k, rfl⟩ : ∃ m, k = m + 1 := ⟨k - 1, by omega⟩
    have hlt : i < l.length := by omega
    have hr : rd l (i : Int) = l[i] := by unfold rd; simp [List.getD_eq_getElem?_getD, List.getElem?_eq_getElem hlt]
    have hw : wrap64 ((i : Int) + 1) = ((i + 1 : Nat) : Int) := by unfold wrap64; omega
    rw [cmp_Or_int.l0, if_pos (by omega), if_pos (by omega), if_pos (by omega), hr, hw, List.drop_eq_getElem_cons hlt, orI]
    by_cases c : l[i] = 0
    · rw [if_pos c, if_pos c]
      exact ih (i + 1) k (by omega) (by omega)
    · rw [if_neg c, if_neg c]
theorem or_eq (l : List Int) (hl : l.length ≤ 7) : cmp_Or_int.f 8 l = some (orI l) := or_loop l hl l.length 0 8 (by omega) (by omega)
theorem or_2 (a b : Int) : cmp_Or_int.f 8 [a, b] = some (if a = 0 then if b = 0 then 0 else b else a) := or_eq _ (by simp)
def sortMove_ren : Go.Shelf.Ren := ⟨fun | 6 => 43 | 15 => 52 | 14 => 51 | 28 => 67 | 29 => 68 | 20 => 59 | 21 => 60 | 22 => 61 | 23 => 62 | 24 => 63 | 25 => 64 | 26 => 65 | 27 => 66 | 46 => 71 | 47 => 72 | 48 => 73 | 49 => 74 | 50 => 75 | 57 => 76 | n => n, fun | 22 => 25 | 24 => 45 | 25 => 82 | 3 => 3 | 39 => 71 | 0 => 0 | 53 => 101 | 55 => 90 | 4 => 4 | 46 => 95 | 45 => 94 | 50 => 64 | 5 => 5 | 9 => 9 | 66 => 103 | 70 => 107 | 76 => 109 | 77 => 110 | n => n, fun | n => n⟩
theorem sortMove : Go.Proofs.SlLaysF0.n6 Try.prog sortMove_ren := { mixed := by kernel_rfl, f6 := ⟨Try.f43.name, by decide, Try.func43.trans (congrArg some (by kernel_rfl))⟩, f14 := ⟨Try.f51.name, by decide, Try.func51.trans (congrArg some (by kernel_rfl))⟩, f15 := Try.func52.trans (congrArg some (by kernel_rfl)), f20 := ⟨Try.f59.name, by decide, Try.func59.trans (congrArg some (by kernel_rfl))⟩, f21 := ⟨Try.f60.name, by decide, Try.func60.trans (congrArg some (by kernel_rfl))⟩, f22 := ⟨Try.f61.name, by decide, Try.func61.trans (congrArg some (by kernel_rfl))⟩, f23 := ⟨Try.f62.name, by decide, Try.func62.trans (congrArg some (by kernel_rfl))⟩, f24 := ⟨Try.f63.name, by decide, Try.func63.trans (congrArg some (by kernel_rfl))⟩, f25 := ⟨Try.f64.name, by decide, Try.func64.trans (congrArg some (by kernel_rfl))⟩, f26 := ⟨Try.f65.name, by decide, Try.func65.trans (congrArg some (by kernel_rfl))⟩, f27 := ⟨Try.f66.name, by decide, Try.func66.trans (congrArg some (by kernel_rfl))⟩, f28 := Try.func67.trans (congrArg some (by kernel_rfl)), f29 := Try.func68.trans (congrArg some (by kernel_rfl)), f46 := ⟨Try.f71.name, by decide, Try.func71.trans (congrArg some (by kernel_rfl))⟩, f47 := Try.func72.trans (congrArg some (by kernel_rfl)), f48 := Try.func73.trans (congrArg some (by kernel_rfl)), f49 := ⟨Try.f74.name, by decide, Try.func74.trans (congrArg some (by kernel_rfl))⟩, f50 := ⟨Try.f75.name, by decide, Try.func75.trans (congrArg some (by kernel_rfl))⟩, f57 := ⟨Try.f76.name, by decide, Try.func76.trans (congrArg some (by kernel_rfl))⟩, t0 := Try.underlying0, a0 := Try.isAgg0, z0 := Try.sizeOf0, v0 := Try.zeroValue0, t3 := Try.underlying3, a3 := Try.isAgg3, z3 := Try.sizeOf3, v3 := Try.zeroValue3, t4 := Try.underlying4, a4 := Try.isAgg4, z4 := Try.sizeOf4, v4 := Try.zeroValue4, t5 := Try.underlying5, a5 := Try.isAgg5, z5 := Try.sizeOf5, v5 := Try.zeroValue5, t9 := Try.underlying9, a9 := Try.isAgg9, z9 := Try.sizeOf9, v9 := Try.zeroValue9, t22 := Try.underlying25, a22 := Try.isAgg25, z22 := Try.sizeOf25, v22 := Try.zeroValue25, t25 := Try.underlying82, a25 := Try.isAgg82, z25 := Try.sizeOf82, v25 := Try.zeroValue82, t39 := Try.underlying71, a39 := Try.isAgg71, z39 := Try.sizeOf71, v39 := Try.zeroValue71, t45 := Try.underlying94, a45 := Try.isAgg94, z45 := Try.sizeOf94, v45 := Try.zeroValue94, t46 := Try.underlying95, a46 := Try.isAgg95, z46 := Try.sizeOf95, v46 := Try.zeroValue95, t50 := Try.underlying64, a50 := Try.isAgg64, z50 := Try.sizeOf64, v50 := Try.zeroValue64, t53 := Try.underlying101, a53 := Try.isAgg101, z53 := Try.sizeOf101, v53 := Try.zeroValue101, t55 := Try.underlying90, a55 := Try.isAgg90, z55 := Try.sizeOf90, v55 := Try.zeroValue90, t66 := Try.underlying103, a66 := Try.isAgg103, z66 := Try.sizeOf103, v66 := Try.zeroValue103, t70 := Try.underlying107, a70 := Try.isAgg107, z70 := Try.sizeOf107, v70 := Try.zeroValue107, t76 := Try.underlying109, a76 := Try.isAgg109, z76 := Try.sizeOf109, v76 := Try.zeroValue109, t77 := Try.underlying110, a77 := Try.isAgg110, z77 := Try.sizeOf110, v77 := Try.zeroValue110 }
def cfMove (x y : S45) : Int := if x.f1 < y.f1 then -1 else if y.f1 < x.f1 then 1 else if x.f0 < y.f0 then -1 else if y.f0 < x.f0 then 1 else 0
def encMove (x : S45) : List Value := [.int .i64 x.f0, .int .i64 x.f1, .int .i64 x.f2]
instance : Inhabited S45 := ⟨z45⟩
theorem flatMove : FlatKd k45 encMove :=
  ⟨fun w base ok x cs => ⟨fun h => k45_openM h, fun h => by rw [h]; exact k45_mkM w base ok x⟩, fun _ => rfl, fun x v hv => by
    simp only [encMove, List.mem_cons, List.not_mem_nil, or_false] at hv
    rcases hv with rfl | rfl | rfl <;> rfl, by decide⟩
def ltMove (x y : S45) : Prop := x.f1 < y.f1 ∨ x.f1 = y.f1 ∧ (x.f0 < y.f0)
theorem ltMove_eq (x y : S45) : (ltOf cfMove x y = true) ↔ ltMove x y := by
  unfold ltOf cfMove ltMove
  rw [decide_eq_true_iff]
  (repeat' split) <;> omega
theorem swoMove : SWO (ltOf cfMove) where
  irrefl x := by rw [← Bool.not_eq_true, ltMove_eq]; unfold ltMove; omega
  trans x y z h1 h2 := by rw [ltMove_eq] at *; unfold ltMove at *; omega
  ntrans x y z h1 h2 := by rw [← Bool.not_eq_true, ltMove_eq] at *; unfold ltMove at *; omega
theorem table_Moves_3_val (x y : S45) : table_Moves_3.f 8 x.f0 x.f1 x.f2 y.f0 y.f1 y.f2 = some (cfMove x y) := by
  unfold table_Moves_3.f cfMove
  simp only [cmp_eq, Option.bind_some]
  rw [or_2]
  simp only [Option.bind_some]
  congr 1
  unfold cmpI; (repeat' split) <;> omega
theorem table_Moves_3_lays (x y : S45) (W : World) : Calls Try.prog 44 #[.agg (encMove x).toArray, .agg (encMove y).toArray] W fun e w' => e = .returned (.int .i64 (cfMove x y)) ∧ BelowD W.heap.size W w' :=
  table_Moves_3.callsD 8 x.f0 x.f1 x.f2 y.f0 y.f1 y.f2 (cfMove x y) W (table_Moves_3_val x y)
def api_Move_43.f (l : List (S45)) : Option (List (S45)) := if l.length < 4611686018427387904 then some (srtL cfMove l) else none
theorem api_Move_43.calls (P0_ : Nat → Prop) (u9000_ : Value) (l0 : List (S45)) (r : List S45) (w0 w : World) (hB : Below w0.heap.size w0 w) (ho0 : Kd.R k45 45 w w0.heap.size P0_ u9000_ l0) (h : api_Move_43.f l0 = some r) :
    Calls Try.prog 43 #[u9000_, .func (.func 44) #[] #[]] w fun e w' => e = .returned (.tuple #[]) ∧ Kd.R k45 45 w' w0.heap.size (fun k_ => (P0_ k_ ∨ w.heap.size ≤ k_)) u9000_ r ∧ Below w0.heap.size w0 w' ∧ Kept w w' (fun k_ => P0_ k_) := by
  unfold api_Move_43.f at h
  split at h
  · rename_i hl
    injection h with h
    subst h
    exact sort_calls flatMove swoMove sortMove Try.isAgg45 Try.sizeOf45 44 (enters_of Try.func44 (by kernel_rfl) rfl) table_Moves_3_lays 45 P0_ u9000_ l0 w0 w hB ho0 hl
  · cases h
end Go.Proofs.Ytdghehebkalbgaa.Q
end
section
namespace Go.Proofs.Ytdghehebkalbgaa.Q
open Go.RowKit Go.Proofs.YtdghehebkalbgaaW.PrintWords Go.Proofs.YtdghehebkalbgaaW.PrintLast Go.Proofs.YtdghehebkalbgaaW.PrintMore
def sumFit (n : Int) : Int × Bool := if -9223372036854775808 ≤ n ∧ n ≤ 9223372036854775807 then (n, true) else (0, false)
def sumOk (l : List Int) : Bool := l.all (fun x => decide (-9223372036854775808 ≤ x) && decide (x ≤ 9223372036854775807)) && decide (l.length ≤ 1152921504606846976)
def checked_Sum.f (l : List Int) : Option (Int × Bool) := if sumOk l = true then some (sumFit l.sum) else none
def lowH (l : List Int) (j : Nat) : Int := (l.take j).sum % 18446744073709551616
def highH (l : List Int) (j : Nat) : Int := (l.take j).sum / 18446744073709551616
theorem sumOk_at {l : List Int} (h : sumOk l = true) (i : Nat) (hi : i < l.length) : -9223372036854775808 ≤ l[i] ∧ l[i] ≤ 9223372036854775807 := by
  simp only [sumOk, Bool.and_eq_true, List.all_eq_true, decide_eq_true_eq] at h
  exact h.1 _ (List.getElem_mem hi)
theorem take_sum (l : List Int) (j : Nat) (hj : j < l.length) : (l.take (j + 1)).sum = (l.take j).sum + l[j] := by
  rw [List.take_succ_eq_append_getElem hj, List.sum_append]; simp
theorem take_bd {l : List Int} (h : sumOk l = true) (j : Nat) : j ≤ l.length → -9223372036854775808 * (j : Int) ≤ (l.take j).sum ∧ (l.take j).sum ≤ 9223372036854775807 * (j : Int) := by
  induction j with
  | zero => simp
  | succ j ih =>
    intro hj
    have := ih (by omega)
    have := sumOk_at h j (by omega)
    rw [take_sum l j (by omega)]
    omega
theorem sumOk_len {l : List Int} (h : sumOk l = true) : l.length ≤ 1152921504606846976 := by
  simp only [sumOk, Bool.and_eq_true, decide_eq_true_eq] at h
  exact h.2
theorem high_bd {l : List Int} (h : sumOk l = true) (j : Nat) (hj : j ≤ l.length) : -1152921504606846976 ≤ highH l j ∧ highH l j ≤ 1152921504606846976 := by
  have := take_bd h j hj
  have := sumOk_len h
  unfold highH
  omega
theorem low_bd (l : List Int) (j : Nat) : 0 ≤ lowH l j ∧ lowH l j < 18446744073709551616 := by unfold lowH; omega
theorem rd_at {l : List Int} {j : Nat} (hj : j < l.length) : rd l (j : Int) = l[j] := by
  unfold rd; simp [List.getD_eq_getElem?_getD, List.getElem?_eq_getElem hj]
theorem wu64 (n : Int) : IntKind.u64.wrap n = n % 18446744073709551616 := by simp [IntKind.wrap, IntKind.bits, IntKind.signed]
theorem w64_id {n : Int} (h0 : -9223372036854775808 ≤ n) (h1 : n ≤ 9223372036854775807) : wrap64 n = n := by unfold wrap64; omega
theorem low_step {l : List Int} (j : Nat) (hj : j < l.length) : (lowH l j + IntKind.u64.wrap (rd l (j : Int))) % 18446744073709551616 = lowH l (j + 1) := by
  unfold lowH
  rw [rd_at hj, take_sum l j hj]
  rw [wu64]
  omega
theorem high_step {l : List Int} (h : sumOk l = true) (j : Nat) (hj : j < l.length) : wrap64 (highH l j + wrap64 (rd l (j : Int) / 9223372036854775808 + wrap64 ((lowH l j + IntKind.u64.wrap (rd l (j : Int))) / 18446744073709551616))) = highH l (j + 1) := by
  have h1 := high_bd h (j + 1) hj
  have h2 := high_bd h j (by omega)
  have h3 := sumOk_at h j hj
  have h0 := take_bd h j (by omega)
  unfold highH lowH at *
  rw [rd_at hj]
  rw [take_sum l j hj] at *
  rw [wu64]
  generalize (l.take j).sum = s at *
  generalize l[j] = a at *
  have k1 : 0 ≤ (s % 18446744073709551616 + a % 18446744073709551616) / 18446744073709551616 ∧ (s % 18446744073709551616 + a % 18446744073709551616) / 18446744073709551616 ≤ 1 := by omega
  have k2 : -1 ≤ a / 9223372036854775808 ∧ a / 9223372036854775808 ≤ 0 := by omega
  have k3 : s / 18446744073709551616 + (a / 9223372036854775808 + (s % 18446744073709551616 + a % 18446744073709551616) / 18446744073709551616) = (s + a) / 18446744073709551616 := by omega
  rw [← k3] at h1 ⊢
  generalize (s % 18446744073709551616 + a % 18446744073709551616) / 18446744073709551616 = c at *
  generalize a / 9223372036854775808 = b at *
  rw [w64_id (n := c) (by omega) (by omega), w64_id (n := b + c) (by omega) (by omega), w64_id (by omega) (by omega)]
theorem sum_end {l : List Int} (r : Int × Bool) (hr : sumFit l.sum = r) : (if (highH l l.length != wrap64 (lowH l l.length) / 9223372036854775808) = true then ((0 : Int), false) else (wrap64 (lowH l l.length), true)) = r := by
  rw [← hr]
  unfold highH lowH sumFit
  rw [List.take_length]
  by_cases c : -9223372036854775808 ≤ l.sum ∧ l.sum ≤ 9223372036854775807
  · rw [if_pos c, if_neg]
    · exact Prod.ext (by show wrap64 _ = _; unfold wrap64; omega) rfl
    · simp only [bne_iff_ne, ne_eq, Decidable.not_not]; unfold wrap64; omega
  · rw [if_neg c, if_pos]
    simp only [bne_iff_ne, ne_eq]; unfold wrap64; omega
theorem add64_run (x y : Int) (hx : 0 ≤ x) (hy : 0 ≤ y) (w : World) : (callFunc 58 #[.int .u64 x, .int .u64 y, .int .u64 0]).run Try.prog w =
    .ok (.value (.tuple #[.int .u64 ((x + y) % 18446744073709551616), .int .u64 ((x + y) / 18446744073709551616)])) w := by
  rw [run_callFunc_extern Try.func58 (by kernel_rfl) (by kernel_rfl) (by kernel_rfl) (e := add64Entry) (by kernel_rfl), run_add64 x y 0 hx hy (by decide) (by decide)]
  simp only [Result.andThen, Int.add_zero]
set_option maxHeartbeats 1000000 in
set_option maxRecDepth 100000 in
theorem checked_Sum.calls (A0 : Option Addr) (c0 : Nat) (l0 : List Int) (r1 : Int) (r2 : Bool) (w : World) (hr0 : Kd.C (Kd.int .i64) w A0 l0.length l0) (hc0 : l0.length ≤ c0) (h : checked_Sum.f l0 = some (r1, r2)) :
    Calls Try.prog 50 #[.slice A0 l0.length c0] w fun e w' => e = .returned (.tuple #[.int .i64 r1, .bool r2]) ∧ Drawn0 w w' := by
  have HR0 := am_ hr0
  have HC0 := am_ hc0
  clear hr0 hc0
  have hk : sumOk l0 = true := by
    unfold checked_Sum.f at h
    by_cases c : sumOk l0 = true
    · exact c
    · rw [if_neg c] at h; exact absurd h (by simp)
  have hv : sumFit l0.sum = (r1, r2) := by
    unfold checked_Sum.f at h
    rw [if_pos hk] at h
    exact Option.some.inj h
  have HK := am_ hk
  have HV := am_ (sum_end _ hv)
  have HLEN := am_ (sumOk_len hk)
  clear h hk hv
  go_enter Try.func50, Try.ntmps50
  go_wp2
  go_loopg [4, 5, 11] l0.length (fun kq v4 v5 v11 w' => ∃ j : Nat, v4 = .int .i64 (highH l0 j) ∧ v5 = .int .u64 (lowH l0 j) ∧ v11 = .int .i64 j ∧ Aside0 (j + kq = l0.length) ∧ Drawn0 w w')
  case atStart => exact ⟨0, rfl, rfl, rfl, ⟨by omega⟩, Drawn0.refl _⟩
  case round =>
    obtain ⟨j, rfl, rfl, rfl, HJ, ⟨m1, rfl⟩⟩ := hrel
    cases gk with
    | zero =>
      have c1 : decide ((j : Int) < (l0.length : Int)) = false := decide_eq_false (by have := HJ.out; omega)
      have c2 : decide (j < l0.length) = false := decide_eq_false (by have := HJ.out; omega)
      have hj : j = l0.length := by have := HJ.out; omega
      have HV1 := HV.out
      rw [← hj] at HV1
      have HV2 := am_ HV1
      clear HV HV1 hj
      by_cases c3 : (highH l0 j != wrap64 (lowH l0 j) / 9223372036854775808) = true
      · have H := HV2.out
        rw [if_pos c3] at H
        simp only [Prod.mk.injEq] at H
        obtain ⟨rfl, rfl⟩ := H
        clear HV2
        go_wp2
        go_ret2
        exact ⟨rfl, by repeat (first | exact Drawn0.refl _ | apply Drawn0.step)⟩
      · have H := HV2.out
        rw [if_neg c3] at H
        simp only [Prod.mk.injEq] at H
        obtain ⟨rfl, rfl⟩ := H
        have c4 : (highH l0 j != wrap64 (lowH l0 j) / 9223372036854775808) = false := by simpa using c3
        clear HV2 c3
        go_wp2
        go_ret2
        exact ⟨rfl, by repeat (first | exact Drawn0.refl _ | apply Drawn0.step)⟩
    | succ gk =>
      have c1 : decide ((j : Int) < (l0.length : Int)) = true := decide_eq_true (by have := HJ.out; omega)
      have c2 : decide (j < l0.length) = true := decide_eq_true (by have := HJ.out; omega)
      obtain ⟨ad, e220, hx220⟩ := Kd.at_int HR0.out (j : Int) (by omega) (by have := HJ.out; omega)
      cases e220
      have hx : w.cell? (ad.add j) = some (.int .i64 (rd l0 (j : Int))) := by simpa using hx220
      clear hx220
      have p1 := eq_true (show (0 : Int) ≤ (j : Int) by omega)
      have p2 := eq_true (show (j : Int) < (l0.length : Int) by have := HJ.out; omega)
      have HS := am_ (high_step HK.out j (by have := HJ.out; omega))
      have HT := am_ (low_step (l := l0) j (by have := HJ.out; omega))
      have hl1 := (low_bd l0 j).1
      have hl2 : 0 ≤ IntKind.u64.wrap (rd l0 (j : Int)) := by rw [wu64]; omega
      have LB := am_ hl1
      go_wp2_with (simp only [add64_run _ _ hl1 hl2])
      go_roundg gk
      case measure => omega
      case rel => exact ⟨j + 1, congrArg (Value.int .i64) HS.out, congrArg (Value.int .u64) HT.out, congrArg (Value.int .i64) (by have := HJ.out; have := HLEN.out; rw [w64_id (by omega) (by omega)]; rfl), ⟨by have := HJ.out; omega⟩, by repeat (first | exact Drawn0.refl _ | apply Drawn0.step)⟩
end Go.Proofs.Ytdghehebkalbgaa.Q
end
section
namespace Go.Proofs.Ytdghehebkalbgaa.P
theorem sorted_ext {α : Type} {lt : α → α → Prop} (irr : ∀ x, ¬ lt x x) (asym : ∀ x y, lt x y → ¬ lt y x) : ∀ {a b : List α}, a.Pairwise lt → b.Pairwise lt → (∀ x, x ∈ a ↔ x ∈ b) → a = b
  | [], [], _, _, _ => rfl
  | [], y :: b, _, _, h => absurd ((h y).2 List.mem_cons_self) (by simp)
  | x :: a, [], _, _, h => absurd ((h x).1 List.mem_cons_self) (by simp)
  | x :: a, y :: b, ha, hb, h => by
    rw [List.pairwise_cons] at ha hb
    have hxy : x = y := by
      rcases List.mem_cons.1 ((h x).1 List.mem_cons_self) with e | hx
      · exact e
      · rcases List.mem_cons.1 ((h y).2 List.mem_cons_self) with e | hy
        · exact e.symm
        · exact absurd (ha.1 y hy) (asym _ _ (hb.1 x hx))
    subst hxy
    rw [sorted_ext irr asym ha.2 hb.2 (fun z => by
      constructor
      · intro hz
        rcases List.mem_cons.1 ((h z).1 (List.mem_cons_of_mem _ hz)) with e | hz'
        · exact absurd (ha.1 z hz) (by rw [e]; exact irr _)
        · exact hz'
      · intro hz
        rcases List.mem_cons.1 ((h z).2 (List.mem_cons_of_mem _ hz)) with e | hz'
        · exact absurd (hb.1 z hz) (by rw [e]; exact irr _)
        · exact hz')]
section
variable {α κ : Type} [DecidableEq κ]
def once : List κ → List κ → List κ
  | acc, [] => acc
  | acc, k :: r => once (if k ∈ acc then acc else acc ++ [k]) r
def keysOf (key : α → κ) (l : List α) : List κ := once [] (l.map key)
theorem once_append (acc a b : List κ) : once acc (a ++ b) = once (once acc a) b := by
  induction a generalizing acc with
  | nil => rfl
  | cons x a ih => simp only [List.cons_append, once]; exact ih _
theorem keysOf_snoc (key : α → κ) (l : List α) (x : α) : keysOf key (l ++ [x]) = if key x ∈ keysOf key l then keysOf key l else keysOf key l ++ [key x] := by
  unfold keysOf
  rw [List.map_append, once_append]
  rfl
theorem mem_once (acc l : List κ) (k : κ) : k ∈ once acc l ↔ k ∈ acc ∨ k ∈ l := by
  induction l generalizing acc with
  | nil => simp [once]
  | cons x l ih =>
    simp only [once]
    rw [ih]
    split
    · rename_i h
      constructor
      · rintro (h1 | h1)
        · exact .inl h1
        · exact .inr (List.mem_cons_of_mem _ h1)
      · rintro (h1 | h1)
        · exact .inl h1
        · rcases List.mem_cons.1 h1 with rfl | h2
          · exact .inl h
          · exact .inr h2
    · constructor
      · rintro (h1 | h1)
        · rcases List.mem_append.1 h1 with h1 | h1
          · exact .inl h1
          · rw [List.mem_singleton.1 h1]; exact .inr List.mem_cons_self
        · exact .inr (List.mem_cons_of_mem _ h1)
      · rintro (h1 | h1)
        · exact .inl (List.mem_append_left _ h1)
        · rcases List.mem_cons.1 h1 with rfl | h2
          · exact .inl (List.mem_append_right _ (List.mem_singleton.2 rfl))
          · exact .inr h2
theorem nodup_once (acc l : List κ) (h : acc.Nodup) : (once acc l).Nodup := by
  induction l generalizing acc with
  | nil => exact h
  | cons x l ih =>
    simp only [once]
    refine ih _ ?_
    split
    · exact h
    · rename_i hx
      rw [List.nodup_append]
      refine ⟨h, by simp, ?_⟩
      intro a ha b hb
      rw [List.mem_singleton.1 hb]
      rintro rfl
      exact hx ha
theorem mem_keysOf (key : α → κ) (l : List α) (k : κ) : k ∈ keysOf key l ↔ ∃ x ∈ l, key x = k := by
  unfold keysOf
  rw [mem_once]
  simp [eq_comm]
theorem once_length_le (acc l : List κ) : (once acc l).length ≤ acc.length + l.length := by
  induction l generalizing acc with
  | nil => simp [once]
  | cons x l ih =>
    simp only [once]
    refine Nat.le_trans (ih _) ?_
    split
    · simp only [List.length_cons]; omega
    · simp only [List.length_append, List.length_cons, List.length_nil]; omega
theorem keysOf_length_le (key : α → κ) (l : List α) : (keysOf key l).length ≤ l.length := by
  have := once_length_le [] (l.map key)
  rw [List.length_map] at this
  unfold keysOf
  simpa using this
theorem nodup_keysOf (key : α → κ) (l : List α) : (keysOf key l).Nodup := nodup_once _ _ List.nodup_nil
def idxFrom (key : α → κ) (k : κ) : Nat → List α → List Int
  | _, [] => []
  | i, x :: r => if key x = k then (i : Int) :: idxFrom key k (i + 1) r else idxFrom key k (i + 1) r
def idxs (key : α → κ) (l : List α) (k : κ) : List Int := idxFrom key k 0 l
theorem idxFrom_append (key : α → κ) (k : κ) (i : Nat) (a b : List α) : idxFrom key k i (a ++ b) = idxFrom key k i a ++ idxFrom key k (i + a.length) b := by
  induction a generalizing i with
  | nil => simp [idxFrom]
  | cons x a ih =>
    simp only [List.cons_append, idxFrom, ih, List.length_cons]
    rw [show i + 1 + a.length = i + (a.length + 1) by omega]
    split <;> simp
theorem idxs_snoc (key : α → κ) (l : List α) (x : α) (k : κ) : idxs key (l ++ [x]) k = if key x = k then idxs key l k ++ [(l.length : Int)] else idxs key l k := by
  unfold idxs
  rw [idxFrom_append]
  simp only [idxFrom, Nat.zero_add]
  split <;> simp
theorem idxs_fresh (key : α → κ) (l : List α) (k : κ) (h : ∀ x ∈ l, key x ≠ k) : idxs key l k = [] := by
  suffices H : ∀ (l : List α) (i : Nat), (∀ x ∈ l, key x ≠ k) → idxFrom key k i l = [] from H l 0 h
  intro l
  induction l with
  | nil => intro i _; rfl
  | cons x l ih =>
    intro i h
    rw [idxFrom, if_neg (h x List.mem_cons_self)]
    exact ih _ (fun y hy => h y (List.mem_cons_of_mem _ hy))
theorem idxFrom_bd (key : α → κ) (k : κ) (l : List α) (i : Nat) : ∀ j ∈ idxFrom key k i l, (i : Int) ≤ j ∧ j < (i : Int) + (l.length : Int) := by
  induction l generalizing i with
  | nil => intro j hj; cases hj
  | cons x l ih =>
    intro j hj
    rw [idxFrom] at hj
    simp only [List.length_cons]
    split at hj
    · rcases List.mem_cons.1 hj with rfl | hj
      · omega
      · have := ih (i + 1) j hj; omega
    · have := ih (i + 1) j hj; omega
theorem idxs_bd (key : α → κ) (l : List α) (k : κ) : ∀ j ∈ idxs key l k, 0 ≤ j ∧ j < (l.length : Int) := by
  intro j hj
  have := idxFrom_bd key k l 0 j hj
  omega
theorem idxFrom_key (key : α → κ) (k : κ) (d : α) (pre l : List α) : ∀ j ∈ idxFrom key k pre.length l, key ((pre ++ l).getD j.toNat d) = k := by
  induction l generalizing pre with
  | nil => intro j hj; cases hj
  | cons x l ih =>
    intro j hj
    have e : pre ++ x :: l = (pre ++ [x]) ++ l := by simp
    have hi : ∀ j ∈ idxFrom key k (pre.length + 1) l, key ((pre ++ x :: l).getD j.toNat d) = k := by
      intro j hj
      rw [e]
      exact ih (pre ++ [x]) j (by simpa using hj)
    rw [idxFrom] at hj
    split at hj
    · rename_i hk
      rcases List.mem_cons.1 hj with rfl | hj
      · simp [List.getD_eq_getElem?_getD, hk]
      · exact hi j hj
    · exact hi j hj
theorem idxs_key (key : α → κ) (l : List α) (k : κ) (d : α) : ∀ j ∈ idxs key l k, key (l.getD j.toNat d) = k := fun j hj => idxFrom_key key k d [] l j hj
theorem idxFrom_length (key : α → κ) (k : κ) (l : List α) (i : Nat) : (idxFrom key k i l).length = (l.filter (fun x => decide (key x = k))).length := by
  induction l generalizing i with
  | nil => rfl
  | cons x l ih =>
    rw [idxFrom, List.filter_cons]
    by_cases h : key x = k
    · simp [h, ih]
    · simp [h, ih]
theorem idxs_length_le (key : α → κ) (l : List α) (k : κ) : (idxs key l k).length ≤ l.length := by
  unfold idxs
  rw [idxFrom_length]
  exact List.length_filter_le _ _
theorem idxs_ne (key : α → κ) (l : List α) (k : κ) (h : ∃ x ∈ l, key x = k) : idxs key l k ≠ [] := by
  obtain ⟨x, hx, hk⟩ := h
  intro e
  have := idxFrom_length key k l 0
  rw [show idxFrom key k 0 l = [] from e] at this
  have h2 : x ∈ l.filter (fun x => decide (key x = k)) := by simp [hx, hk]
  rw [List.eq_nil_of_length_eq_zero this.symm] at h2
  cases h2
def sumK (key : α → κ) (val : α → Int) (l : List α) (k : κ) : Int := ((l.filter (fun x => decide (key x = k))).map val).sum
theorem idxFrom_vals (key : α → κ) (val : α → Int) (k : κ) (d : α) (pre l : List α) : (idxFrom key k pre.length l).map (fun j => val ((pre ++ l).getD j.toNat d)) = (l.filter (fun x => decide (key x = k))).map val := by
  induction l generalizing pre with
  | nil => rfl
  | cons x l ih =>
    have e : pre ++ x :: l = (pre ++ [x]) ++ l := by simp
    have hi := ih (pre ++ [x])
    rw [List.length_append, List.length_singleton, ← e] at hi
    rw [idxFrom, List.filter_cons]
    by_cases h : key x = k
    · simp only [h, if_true, decide_true, List.map_cons, hi]
      congr 1
      simp [List.getD_eq_getElem?_getD]
    · simp only [h, if_false, decide_false, hi, Bool.false_eq_true]
theorem idxs_vals (key : α → κ) (val : α → Int) (l : List α) (k : κ) (d : α) : (idxs key l k).map (fun j => val (l.getD j.toNat d)) = (l.filter (fun x => decide (key x = k))).map val := idxFrom_vals key val k d [] l
end
section
variable {α κ : Type} [DecidableEq κ]
def groups (key : α → κ) (l : List α) : List (List Int) := (keysOf key l).map (idxs key l)
theorem groups_length (key : α → κ) (l : List α) : (groups key l).length = (keysOf key l).length := by simp [groups]
omit [DecidableEq κ] in
theorem nodup_at {l : List κ} (h : l.Nodup) {i j : Nat} {k : κ} (hi : l[i]? = some k) (hj : l[j]? = some k) : i = j := by
  obtain ⟨hi1, hi2⟩ := List.getElem?_eq_some_iff.1 hi
  obtain ⟨hj1, hj2⟩ := List.getElem?_eq_some_iff.1 hj
  rcases Nat.lt_trichotomy i j with hlt | rfl | hlt
  · exact absurd (hi2.trans hj2.symm) (List.pairwise_iff_getElem.1 h i j hi1 hj1 hlt)
  · rfl
  · exact absurd (hj2.trans hi2.symm) (List.pairwise_iff_getElem.1 h j i hj1 hi1 hlt)
theorem groups_old (key : α → κ) (p : List α) (x : α) (j : Nat) (hj : (keysOf key p)[j]? = some (key x)) :
    (groups key p).set j (idxs key p (key x) ++ [(p.length : Int)]) = groups key (p ++ [x]) := by
  have hm : key x ∈ keysOf key p := List.mem_of_getElem? hj
  unfold groups
  rw [keysOf_snoc, if_pos hm]
  apply List.ext_getElem?
  intro i
  rw [List.getElem?_set, List.getElem?_map, List.getElem?_map, List.length_map]
  by_cases e : j = i
  · subst e
    have hlt := (List.getElem?_eq_some_iff.1 hj).1
    rw [if_pos rfl, if_pos hlt, hj]
    simp only [Option.map_some]
    rw [idxs_snoc, if_pos rfl]
  · rw [if_neg e]
    cases hi : (keysOf key p)[i]? with
    | none => rfl
    | some k =>
      simp only [Option.map_some]
      rw [idxs_snoc, if_neg]
      rintro rfl
      exact e (nodup_at (nodup_keysOf key p) hj hi)
theorem groups_new (key : α → κ) (p : List α) (x : α) (h : key x ∉ keysOf key p) : groups key p ++ [[(p.length : Int)]] = groups key (p ++ [x]) := by
  unfold groups
  rw [keysOf_snoc, if_neg h, List.map_append, List.map_singleton]
  congr 1
  · apply List.map_congr_left
    intro k hk
    rw [idxs_snoc, if_neg]
    rintro rfl
    exact h hk
  · rw [idxs_snoc, if_pos rfl, idxs_fresh key p (key x) (fun y hy e => h ((mem_keysOf key p _).2 ⟨y, hy, e⟩))]
    rfl
theorem groups_get (key : α → κ) (p : List α) (j : Nat) (k : κ) (hj : (keysOf key p)[j]? = some k) : (groups key p)[j]? = some (idxs key p k) := by
  unfold groups
  rw [List.getElem?_map, hj]; rfl
end
def row {β : Type} (V : Nat) (g : Nat → β) : List β := (List.range V).map g
def mat (H V : Nat) (f : Nat → Nat → Int) : List (List Int) := row H (fun a => row V (f a))
section
variable {β : Type}
theorem row_length (V : Nat) (g : Nat → β) : (row V g).length = V := by simp [row]
theorem row_get? (V : Nat) (g : Nat → β) (v : Nat) (h : v < V) : (row V g)[v]? = some (g v) := by
  unfold row
  rw [List.getElem?_map, List.getElem?_range h]; rfl
theorem row_none (V : Nat) (g : Nat → β) (v : Nat) (h : V ≤ v) : (row V g)[v]? = none := List.getElem?_eq_none (by rw [row_length]; exact h)
theorem row_getD (V : Nat) (g : Nat → β) (v : Nat) (h : v < V) (d : β) : (row V g).getD v d = g v := by
  rw [List.getD_eq_getElem?_getD, row_get? V g v h]; rfl
theorem row_get (V : Nat) (g : Nat → β) (v : Nat) (h : v < (row V g).length) : (row V g)[v] = g v := by simp [row]
theorem row_ext {V : Nat} {g g' : Nat → β} (h : ∀ v, v < V → g v = g' v) : row V g = row V g' := by
  unfold row
  exact List.map_congr_left (fun v hv => h v (List.mem_range.1 hv))
theorem row_set (V : Nat) (g : Nat → β) (v : Nat) (x : β) : (row V g).set v x = row V (fun u => if u = v then x else g u) := by
  apply List.ext_getElem?
  intro i
  rcases Nat.lt_or_ge i V with hi | hi
  · rw [List.getElem?_set, row_get? _ _ _ hi, row_length]
    by_cases e : v = i
    · subst e; simp [hi, row_get? _ _ _ hi]
    · rw [if_neg e, row_get? _ _ _ hi, if_neg (Ne.symm e)]
  · rw [row_none _ _ _ hi, List.getElem?_eq_none (by rw [List.length_set, row_length]; exact hi)]
theorem row_snoc (V : Nat) (g : Nat → β) : row V g ++ [g V] = row (V + 1) g := by
  unfold row
  rw [List.range_succ, List.map_append]; rfl
end
theorem mat_length (H V : Nat) (f : Nat → Nat → Int) : (mat H V f).length = H := row_length _ _
theorem mat_ext {H V : Nat} {f f' : Nat → Nat → Int} (h : ∀ a v, a < H → v < V → f a v = f' a v) : mat H V f = mat H V f' := row_ext fun a ha => row_ext fun v hv => h a v ha hv
theorem mat_set (H V : Nat) (f : Nat → Nat → Int) (a : Nat) (g : Nat → Int) : (mat H V f).set a (row V g) = mat H V (fun u => if u = a then g else f u) := by
  unfold mat
  rw [row_set]
  refine row_ext fun u _ => ?_
  by_cases e : u = a
  · simp only [e, if_true]
  · simp only [e, if_false]
theorem mat_put (H V : Nat) (f : Nat → Nat → Int) (a v : Nat) (x : Int) : (mat H V f).set a ((row V (f a)).set v x) = mat H V (fun u w => if u = a ∧ w = v then x else f u w) := by
  rw [row_set, mat_set]
  refine mat_ext fun u w _ _ => ?_
  by_cases e : u = a
  · subst e
    by_cases e2 : w = v <;> simp [e2]
  · simp [e]
theorem row_replicate {β : Type} (V : Nat) (x : β) : List.replicate V x = row V (fun _ => x) := by
  unfold row
  apply List.ext_getElem?
  intro i
  rcases Nat.lt_or_ge i V with hi | hi
  · rw [List.getElem?_replicate, if_pos hi, List.getElem?_map, List.getElem?_range hi]; rfl
  · rw [List.getElem?_replicate, if_neg (by omega), List.getElem?_eq_none (by simpa using hi)]
end Go.Proofs.Ytdghehebkalbgaa.P
end
section
namespace Go.Proofs.Ytdghehebkalbgaa.P
open Go.RowKit Go.Proofs.Ytdghehebkalbgaa.Q Go.Proofs.YtdghehebkalbgaaW.PrintWords
theorem wf_i64 {n : Int} (h0 : -9223372036854775808 ≤ n) (h1 : n ≤ 9223372036854775807) : (Lit.int .i64 n).wf = true := by
  simp [Lit.wf, IntKind.min, IntKind.max, IntKind.bits, IntKind.signed]
  omega
def keyM (x : S45) : (Int × Int) := (x.f0, x.f1)
def LogOkM (es : List ((Int × Int) × Int)) (p : List S45) : Prop := (∀ k n, lookM es k = some n ↔ ∃ j : Nat, (keysOf keyM p)[j]? = some k ∧ n = (j : Int)) ∧ es.length ≤ p.length
theorem logOkM_nil : LogOkM [] [] := ⟨fun k n => by simp [lookM, keysOf, once], Nat.le_refl _⟩
theorem gatherM_loop (l : List S45) (hlen : l.length ≤ 1048576) (hw : ∀ x ∈ l, good2 (keyM x) = true) (d : Nat) : ∀ (i k : Nat) (es : List ((Int × Int) × Int)), i + d = l.length → d < k → LogOkM es (l.take i) →
    api_Move_2_int.l0 k (groups keyM (l.take i)) es l (l.length : Int) (i : Int) = some (groups keyM l) := by
  induction d with
  | zero =>
    intro i k es hi hk hes
    obtain ⟨k, rfl⟩ : ∃ m, k = m + 1 := ⟨k - 1, by omega⟩
    rw [api_Move_2_int.l0, if_neg (by omega), List.take_of_length_le (by omega)]
  | succ d ih =>
    intro i k es hi hk hes
    obtain ⟨k, rfl⟩ : ∃ m, k = m + 1 := ⟨k - 1, by omega⟩
    have hlt : i < l.length := by omega
    have hr : rd_T45 l (i : Int) = l[i] := by unfold rd_T45; simp [List.getD_eq_getElem?_getD, List.getElem?_eq_getElem hlt]
    have hgood := hw l[i] (List.getElem_mem hlt)
    have htl : (l.take i).length = i := by rw [List.length_take]; omega
    have hkl : (keysOf keyM (l.take i)).length ≤ i := by
      have h1 := keysOf_length_le keyM (l.take i)
      omega
    have hstep : l.take (i + 1) = l.take i ++ [l[i]] := List.take_succ_eq_append_getElem hlt
    have hwrap : wrap64 ((i : Int) + 1) = ((i + 1 : Nat) : Int) := by unfold wrap64; omega
    have hlook : lookF good2 es (keyM l[i]) = some ((lookM es (keyM l[i])).getD 0, (lookM es (keyM l[i])).isSome) := by unfold lookF; rw [if_pos hgood]
    rw [api_Move_2_int.l0, if_pos (by omega), if_pos (by omega), if_pos (by omega), hr]
    simp only [table_Moves_1.f, Option.bind_some]
    rw [show ((l[i].f0, l[i].f1) : (Int × Int)) = keyM l[i] from rfl, hlook]
    simp only [Option.bind_some]
    cases hL : lookM es (keyM l[i]) with
    | some n =>
      obtain ⟨j, hj, rfl⟩ := (hes.1 _ _).1 hL
      have hjl := (List.getElem?_eq_some_iff.1 hj).1
      have hrd : rd_L3 (groups keyM (l.take i)) (j : Int) = idxs keyM (l.take i) (keyM l[i]) := by
        unfold rd_L3
        rw [Int.toNat_natCast, List.getD_eq_getElem?_getD, groups_get _ _ _ _ hj]; rfl
      have hle := idxs_length_le keyM (l.take i) (keyM l[i])
      simp only [Option.getD_some, Option.isSome_some, if_true]
      rw [if_pos (by omega), if_pos (by rw [groups_length]; omega), hrd, if_pos (by omega), Int.toNat_natCast, hwrap]
      have e := groups_old keyM (l.take i) l[i] j hj
      rw [htl] at e
      rw [e, ← hstep]
      refine ih (i + 1) k es (by omega) (by omega) ⟨fun k' n' => ?_, by rw [hstep, List.length_append]; have := hes.2; omega⟩
      rw [hstep, keysOf_snoc, if_pos (List.mem_of_getElem? hj)]
      exact hes.1 k' n'
    | none =>
      have hno : keyM l[i] ∉ keysOf keyM (l.take i) := by
        intro hm
        obtain ⟨j, hj⟩ := List.getElem?_of_mem hm
        have := (hes.1 (keyM l[i]) (j : Int)).2 ⟨j, hj, rfl⟩
        rw [hL] at this
        cases this
      have hput : putF good2 es (keyM l[i]) ((groups keyM (l.take i)).length : Int) = some (es ++ [(keyM l[i], ((groups keyM (l.take i)).length : Int))]) := by
        have hwf : (Lit.int .i64 ((groups keyM (l.take i)).length : Int)).wf = true := wf_i64 (by omega) (by rw [groups_length]; omega)
        unfold putF
        rw [if_pos ⟨hgood, hwf, by have := hes.2; omega⟩]
      have hgl : ((groups keyM (l.take i)).length : Int) = ((keysOf keyM (l.take i)).length : Int) := by rw [groups_length]
      have hrd : rd_L3 (groups keyM (l.take i) ++ [[]]) ((groups keyM (l.take i)).length : Int) = [] := by
        unfold rd_L3
        rw [Int.toNat_natCast, List.getD_eq_getElem?_getD, List.getElem?_append_right (Nat.le_refl _)]; simp
      simp only [Option.getD_none, Option.isSome_none, Bool.false_eq_true, if_false]
      rw [hput]
      simp only [Option.bind_some]
      rw [if_pos (by rw [groups_length]; omega), if_pos (by omega), if_pos (by rw [List.length_append, List.length_singleton]; omega), hrd, if_pos (by decide), Int.toNat_natCast, hwrap]
      have e : (groups keyM (l.take i) ++ [[]]).set (groups keyM (l.take i)).length ([] ++ [(i : Int)]) = groups keyM (l.take (i + 1)) := by
        rw [hstep, ← groups_new _ _ _ hno, htl, List.set_append_right _ _ (Nat.le_refl _)]
        simp
      rw [e]
      refine ih (i + 1) k _ (by omega) (by omega) ⟨fun k' n' => ?_, by rw [hstep, List.length_append, List.length_append]; have := hes.2; simp; omega⟩
      rw [hstep, keysOf_snoc, if_neg hno, lookM_snoc, groups_length]
      by_cases ek : keyM l[i] = k'
      · rw [if_pos ek]
        subst ek
        constructor
        · intro h
          injection h with h
          exact ⟨(keysOf keyM (l.take i)).length, by simp, h.symm⟩
        · rintro ⟨j, hj, rfl⟩
          rcases Nat.lt_trichotomy j (keysOf keyM (l.take i)).length with h1 | h1 | h1
          · rw [List.getElem?_append_left h1] at hj
            exact absurd (List.mem_of_getElem? hj) hno
          · rw [h1]
          · rw [List.getElem?_eq_none (by rw [List.length_append, List.length_singleton]; omega)] at hj
            cases hj
      · rw [if_neg ek, hes.1]
        constructor
        · rintro ⟨j, hj, rfl⟩
          exact ⟨j, by rw [List.getElem?_append_left (List.getElem?_eq_some_iff.1 hj).1]; exact hj, rfl⟩
        · rintro ⟨j, hj, rfl⟩
          rcases Nat.lt_trichotomy j (keysOf keyM (l.take i)).length with h1 | h1 | h1
          · rw [List.getElem?_append_left h1] at hj
            exact ⟨j, hj, rfl⟩
          · rw [h1] at hj
            simp at hj
            exact absurd hj ek
          · rw [List.getElem?_eq_none (by rw [List.length_append, List.length_singleton]; omega)] at hj
            cases hj
theorem gatherM_eq (l : List S45) (hlen : l.length ≤ 1048576) (hw : ∀ x ∈ l, good2 (keyM x) = true) {k : Nat} (hk : l.length < k) : api_Move_2_int.f k l = some (groups keyM l) := by
  have h := gatherM_loop l hlen hw l.length 0 k [] (by omega) hk logOkM_nil
  exact h
end Go.Proofs.Ytdghehebkalbgaa.P
end
