/- A part of the proof: words, contracts, plain lemmas. Conditions: none. -/
import Derived.Shelf.SlSortCmp.NoneTotal
import Derived.Test.YtfhkkbpkajfdlaaZExpandRuns13
import Derived.Test.YtfhkkbpkajfdlaaZExpandRuns14
set_option linter.unusedSimpArgs false
set_option linter.unusedVariables false
section
namespace Go.Proofs.Ytfhkkbpkajfdlaa.Q
open Go.RowKit Go.Sort Go.Proofs.YtfhkkbpkajfdlaaW.PrintWords Go.Proofs.YtfhkkbpkajfdlaaW.PrintLast Go.Proofs.YtfhkkbpkajfdlaaW.PrintMore
structure FlatKd {α : Type} (d : Kd α) (enc : α → List Value) : Prop where
 hM : ∀ w base ok x cs, d.M w base ok x cs ↔ cs = enc x
 len : ∀ x, (enc x).length = d.sz
 one : ∀ x, ∀ v ∈ enc x, v.oneCell' = true
 pos : 0 < d.sz
section
variable {α : Type} [Inhabited α] {d : Kd α} {enc : α → List Value} {w : World} {base : Nat} {ok : Nat → Prop} {xs : List α} {inner : List Value}
theorem flat_get {sz : Nat} (F : FlatKd d enc) (hsz : d.sz = sz) (xs : List α) (t : Nat) (ht : t < xs.length * sz) : (flatK enc sz xs.toArray)[t]? = (enc (xs.getD (t / sz) default))[t % sz]? := by
 subst hsz
 have h0 := F.pos
 have hj : t / d.sz < xs.length := Nat.div_lt_of_lt_mul (by rwa [Nat.mul_comm] at ht)
 have hm : t % d.sz < d.sz := Nat.mod_lt _ h0
 have e := get_flatK enc d.sz xs.toArray t (by simpa using ht)
 have hs : t < (flatK enc d.sz xs.toArray).size := by simpa using ht
 rw [getElem!_pos _ t hs] at e
 rw [Array.getElem?_eq_getElem hs, e]
 have e2 : (xs.toArray)[t / d.sz]! = xs.getD (t / d.sz) default := by
  rw [getElem!_pos _ _ (by simpa using hj)]
  simp [List.getD_eq_getElem?_getD, List.getElem?_eq_getElem hj]
 rw [e2]
 have hl : t % d.sz < (enc (xs.getD (t / d.sz) default)).length := by rw [F.len]; exact hm
 rw [List.getElem?_eq_getElem hl]
 congr 1
 exact getElem!_pos (enc (xs.getD (t / d.sz) default)) (t % d.sz) hl
theorem reps_flat (F : FlatKd d enc) (hr : Reps (d.M w base ok) d.sz xs inner) : inner = (flatK enc d.sz xs.toArray).toList := by
 apply List.ext_getElem?
 intro t
 have h0 := F.pos
 rcases Nat.lt_or_ge t (xs.length * d.sz) with ht | ht
 ·have hj : t / d.sz < xs.length := Nat.div_lt_of_lt_mul (by rwa [Nat.mul_comm] at ht)
  have hm : t % d.sz < d.sz := Nat.mod_lt _ h0
  have e0 : (flatK enc d.sz xs.toArray).toList[t]? = (flatK enc d.sz xs.toArray)[t]? := Array.getElem?_toList ..
  rw [e0, flat_get F rfl xs t ht]
  have h := (F.hM _ _ _ _ _).1 (hr.2 (t / d.sz) _ (List.getElem?_eq_getElem hj))
  rw [show xs.getD (t / d.sz) default = xs[t / d.sz] by simp [List.getD_eq_getElem?_getD, List.getElem?_eq_getElem hj], ← h]
  rw [List.getElem?_take, if_pos hm, List.getElem?_drop]
  congr 1
  rw [Nat.mul_comm]
  exact (Nat.div_add_mod t d.sz).symm
 ·rw [List.getElem?_eq_none (by rw [hr.1]; exact ht), List.getElem?_eq_none (by rw [Array.length_toList, size_flatK]; simpa using ht)]
theorem flat_reps (F : FlatKd d enc) (xs : List α) : Reps (d.M w base ok) d.sz xs (flatK enc d.sz xs.toArray).toList := by
 refine ⟨by simp, fun j p hp => ?_⟩
 rw [F.hM]
 have hj := (List.getElem?_eq_some_iff.1 hp).1
 have h0 := F.pos
 apply List.ext_getElem?
 intro i
 rcases Nat.lt_or_ge i d.sz with hi | hi
 ·have hlt : j * d.sz + i < xs.length * d.sz := by
   have := Nat.mul_le_mul_right d.sz (show j + 1 ≤ xs.length from hj)
   rw [Nat.add_mul, Nat.one_mul] at this
   omega
  have e1 : (j * d.sz + i) / d.sz = j := by rw [Nat.add_comm, Nat.add_mul_div_right _ _ h0, Nat.div_eq_of_lt hi, Nat.zero_add]
  have e2 : (j * d.sz + i) % d.sz = i := by rw [Nat.add_comm, Nat.add_mul_mod_self_right, Nat.mod_eq_of_lt hi]
  rw [List.getElem?_take, if_pos hi, List.getElem?_drop, Array.getElem?_toList, flat_get F rfl xs _ hlt, e1, e2]
  rw [List.getD_eq_getElem?_getD, hp]; rfl
 ·rw [List.getElem?_eq_none (by rw [List.length_take]; omega), List.getElem?_eq_none (by rw [F.len]; exact hi)]
theorem holdsK_of (F : FlatKd d enc) {e g n cap : Nat} (h : d.R e w base ok (.slice (some ⟨g, 0, none⟩) n cap) xs) : n = xs.length ∧ HoldsK enc d.sz w g 0 xs.toArray ∧ g < w.heap.size ∧ base ≤ g ∧ ok g := by
 obtain ⟨h0, inner, ho, hr⟩ := h
 have hn : n = xs.length := by
  rcases ho.2 with ⟨h', _⟩ | ⟨g', cap', cur, h', _⟩
  ·cases h'
  ·injection h' with _ h2 _
 subst hn
 obtain rfl := reps_flat F hr
 refine ⟨rfl, fun t ht => ?_, own_lt ho g (by simp [Value.ownBlock]), own_base ho g (by simp [Value.ownBlock]), h0 g (by simp [Value.ownBlock])⟩
 have ht' : t < xs.length * d.sz := by simpa using ht
 rw [Nat.zero_add]
 refine ⟨?_, ho.frozenAt t⟩
 rw [ho.cellAt t ht', Array.getElem?_toList, Array.getElem?_eq_getElem ht, getElem!_pos _ t ht]
 rfl
theorem heap_sortWorldK (enc : α → List Value) (k : Nat) (w : World) (g m : Nat) (d' : Array α) (os : Array Obj) : (sortWorldK enc k w g 0 m d' os).heap = (w.heap.modify g (onCells (putCells id 0 (flatK enc k d')))) ++ os := rfl
theorem sortWorldK_kept (enc : α → List Value) (k : Nat) (w : World) (g m : Nat) (d' : Array α) (os : Array Obj) (i : Nat) (hi : i < w.heap.size) (hne : i ≠ g) : (sortWorldK enc k w g 0 m d' os).heap[i]? = w.heap[i]? := by
 rw [heap_sortWorldK, Array.getElem?_append_left (by simpa using hi), Array.getElem?_modify, if_neg (Ne.symm hne)]
theorem own_sorted {sz : Nat} {e g n cap : Nat} {F0 : List Value} {k : Nat} {d' : Array α} (ho : w.ownsRow base e sz (.slice (some ⟨g, 0, none⟩) n cap) n F0) (hs : (flatK enc k d').size = n * sz) (m : Nat) (os : Array Obj) :
 (sortWorldK enc k w g 0 m d' os).ownsRow base e sz (.slice (some ⟨g, 0, none⟩) n cap) n (flatK enc k d').toList := by
 refine ⟨by rw [Array.length_toList]; exact hs, .inr ?_⟩
 rcases ho.2 with ⟨h', _⟩ | ⟨g', cap', cur, h', hb, hg, hnc, hcm, hcs, htake⟩
 ·cases h'
 ·injection h' with h1 _ h3
  injection h1 with h1
  injection h1 with h1
  subst h1 h3
  have hlt : g < w.heap.size := (Array.getElem?_eq_some_iff.1 hg).1
  refine ⟨g, cap, putCells id 0 (flatK enc k d') cur, rfl, hb, ?_, hnc, hcm, by simp [putCells, hcs], ?_⟩
  ·rw [heap_sortWorldK, Array.getElem?_append_left (by simpa using hlt), Array.getElem?_modify, if_pos rfl, hg]
   rfl
  ·have hle : n * sz ≤ cur.size := by rw [hcs]; exact Nat.mul_le_mul_right _ hnc
   apply List.ext_getElem?
   intro t
   rcases Nat.lt_or_ge t (n * sz) with ht | ht
   ·rw [List.getElem?_take, if_pos ht, Array.getElem?_toList, Array.getElem?_toList]
    unfold putCells
    rw [Array.getElem?_mapIdx, Array.getElem?_eq_getElem (show t < cur.size by omega), Option.map_some, if_pos ⟨Nat.zero_le _, by omega⟩, Array.getElem?_eq_getElem (show t < (flatK enc k d').size by omega)]
    rw [getElem!_pos _ _ (by omega)]
    simp
   ·rw [List.getElem?_eq_none (by rw [List.length_take]; omega), List.getElem?_eq_none (by rw [Array.length_toList]; omega)]
theorem R_sorted (F : FlatKd d enc) {e g n cap : Nat} (h : d.R e w base ok (.slice (some ⟨g, 0, none⟩) n cap) xs) (ys : List α) (hl : ys.length = xs.length) (m : Nat) (os : Array Obj) :
 d.R e (sortWorldK enc d.sz w g 0 m ys.toArray os) base ok (.slice (some ⟨g, 0, none⟩) n cap) ys := by
 obtain ⟨hn, _⟩ := holdsK_of F h
 obtain ⟨h0, inner, ho, hr⟩ := h
 subst hn
 refine ⟨h0, _, ?_, flat_reps F ys⟩
 have h2 := own_sorted (enc := enc) (k := d.sz) (d' := ys.toArray) (sz := d.sz) ho (by simp [hl]) m os
 rw [← hl] at h2 ⊢
 exact h2
end
def srtL {α : Type} [Inhabited α] (cf : α → α → Int) (l : List α) : List α := (pdq (ltOf cf) l.toArray 0 l.toArray.size (Lib.bitLen l.toArray.size) true true).toList
theorem srtL_spec {α : Type} [Inhabited α] {cf : α → α → Int} (hO : SWO (ltOf cf)) (l : List α) : (srtL cf l).Perm l ∧ (srtL cf l).Pairwise (fun x y => ltOf cf y x = false) := by
 obtain ⟨⟨h1, h2, h3⟩, h4⟩ := pdq_sorts (ltOf cf) hO l.toArray 0 l.toArray.size (Lib.bitLen l.toArray.size) true true (Nat.zero_le _) (Nat.le_refl _) (Or.inl rfl)
 unfold srtL
 generalize pdq (ltOf cf) l.toArray 0 l.toArray.size (Lib.bitLen l.toArray.size) true true = r at *
 constructor
 ·have e1 : r.extract 0 l.toArray.size = r := by rw [← h1]; exact Array.extract_size
  rw [e1] at h3
  simpa using h3
 ·rw [List.pairwise_iff_getElem]
  intro i j hi hj hij
  have := h4 i j (Nat.zero_le _) hij (by rw [← h1]; simpa using hj)
  rw [getElem!_pos r j (by simpa using hj), getElem!_pos r i (by simpa using hi)] at this
  simpa using this
theorem srtL_length {α : Type} [Inhabited α] {cf : α → α → Int} (hO : SWO (ltOf cf)) (l : List α) : (srtL cf l).length = l.length := (srtL_spec hO l).1.length_eq
theorem srtL_nil {α : Type} [Inhabited α] {cf : α → α → Int} (hO : SWO (ltOf cf)) : srtL cf [] = [] := List.eq_nil_of_length_eq_zero (srtL_length hO [])
theorem sort_calls {α : Type} [Inhabited α] {d : Kd α} {enc : α → List Value} (F : FlatKd d enc) {cf : α → α → Int} (hO : SWO (ltOf cf)) {ρ : Go.Shelf.Ren} (L : SlLaysF0.n6 Try.prog ρ) (aE : ∀ w, (isAgg (ρ.t 24)).run Try.prog w = .ok true w) (zE : ∀ w, (Go.sizeOf (ρ.t 24)).run Try.prog w = .ok d.sz w)
 (g : Nat) (eg : ∀ args w, (callFunc g args).run Try.prog w = .ok (.enter g args) w) (hcl : ∀ x y W, Calls Try.prog g #[.agg (enc x).toArray, .agg (enc y).toArray] W fun e w' => e = .returned (.int .i64 (cf x y)) ∧ BelowD W.heap.size W w')
 (e : Nat) (P0 : Nat → Prop) (v : Value) (l : List α) (w0 w : World) (hB : Below w0.heap.size w0 w) (ho : d.R e w w0.heap.size P0 v l) (hl : l.length < 4611686018427387904) :
 Calls Try.prog (ρ.f 6) #[v, .func (.func g) #[] #[]] w fun e' w' => e' = .returned (.tuple #[]) ∧ d.R e w' w0.heap.size (fun k => P0 k ∨ w.heap.size ≤ k) v (srtL cf l) ∧ Below w0.heap.size w0 w' ∧ Kept w w' P0 := by
 by_cases h0 : l.length = 0
 ·obtain rfl : l = [] := List.eq_nil_of_length_eq_zero h0
  obtain ⟨A, c, rfl⟩ := Kd.R_slice ho
  refine (AnyF.slices_SortFunc_none L A c _ w).mono ?_
  rintro e' w' ⟨rfl, rfl⟩
  exact ⟨rfl, by rw [srtL_nil hO]; exact Kd.R_mono ho (fun _ h => .inl h), hB, Kept.refl _ _⟩
 ·obtain ⟨b, cap, rfl, _, _⟩ := Kd.R_form ho (by omega)
  obtain ⟨_, hH, hlt, hbase, hok⟩ := holdsK_of F ho
  have hc : CmpLays Try.prog g #[] enc d.sz cf b 0 l.toArray.size w := by
   intro m os dk _ x y
   refine (hcl x y _).mono ?_
   rintro e' w' ⟨rfl, hb⟩
   exact ⟨rfl, hb.grow⟩
  have hcon := AnyQ.slices_SortFunc_eq L d.sz aE zE enc F.len F.one cf hO g #[] b 0 cap l.toArray w eg hc hH hlt (by simpa using hl)
  refine hcon.mono ?_
  rintro e' w' ⟨rfl, n, os, rfl⟩
  have hs := R_sorted F ho (srtL cf l) (srtL_length hO l) n os
  have e2 : (srtL cf l).toArray = pdq (ltOf cf) l.toArray 0 l.toArray.size (Lib.bitLen l.toArray.size) true true := by unfold srtL; simp
  rw [e2] at hs
  refine ⟨rfl, Kd.R_mono hs (fun _ h => .inl h), ⟨hB.os, hB.tape, hB.output, ?_, fun i hi => ?_⟩, ?_, fun i hi hn => ?_⟩
  ·refine Nat.le_trans hB.size ?_
   rw [heap_sortWorldK, Array.size_append, Array.size_modify]
   exact Nat.le_add_right _ _
  ·have := hB.size
   rw [sortWorldK_kept _ _ _ _ _ _ _ _ (by omega) (by omega)]
   exact hB.block i hi
  ·rw [heap_sortWorldK, Array.size_append, Array.size_modify]
   exact Nat.le_add_right _ _
  ·exact sortWorldK_kept _ _ _ _ _ _ _ _ hi (fun h => hn (h ▸ hok))
end Go.Proofs.Ytfhkkbpkajfdlaa.Q
end
section
namespace Go.Proofs.Ytfhkkbpkajfdlaa.Q
open Go.Sort hiding rd
open Go.RowKit Go.Proofs.YtfhkkbpkajfdlaaW.PrintWords Go.Proofs.YtfhkkbpkajfdlaaW.PrintLast Go.Proofs.YtfhkkbpkajfdlaaW.PrintMore
def cmpI (a b : Int) : Int := if a < b then -1 else if b < a then 1 else 0
theorem cmp_eq (a b : Int) : cmp_Compare_int.f a b = some (cmpI a b) := by
 unfold cmp_Compare_int.f cmp_isNaN_int.f cmpI
 simp only [bne_self_eq_false, Option.bind_some, Bool.false_eq_true, if_false, gt_iff_lt]
 (repeat' split) <;> rfl
def orI : List Int → Int
 | [] => 0
 | x :: r => if x = 0 then orI r else x
theorem or_loop (l : List Int) (hl : l.length ≤ 7) (d : Nat) : ∀ (i k : Nat), i + d = l.length → d < k → cmp_Or_int.l0 k 0 l (l.length : Int) (i : Int) = some (orI (l.drop i)) := by
 induction d with
 | zero =>
  intro i k hi hk
  obtain ⟨k, rfl⟩ : ∃ m, k = m + 1 := ⟨k - 1, by omega⟩
  rw [cmp_Or_int.l0, if_neg (by omega), List.drop_eq_nil_of_le (by omega)]
  rfl
 | succ d ih =>
  intro i k hi hk
  obtain ⟨k, rfl⟩ : ∃ m, k = m + 1 := ⟨k - 1, by omega⟩
  have hlt : i < l.length := by omega
  have hr : rd l (i : Int) = l[i] := by unfold rd; simp [List.getD_eq_getElem?_getD, List.getElem?_eq_getElem hlt]
  have hw : wrap64 ((i : Int) + 1) = ((i + 1 : Nat) : Int) := by unfold wrap64; omega
  rw [cmp_Or_int.l0, if_pos (by omega), if_pos (by omega), if_pos (by omega), hr, hw, List.drop_eq_getElem_cons hlt, orI]
  by_cases c : l[i] = 0
  ·rw [if_pos c, if_pos c]
   exact ih (i + 1) k (by omega) (by omega)
  ·rw [if_neg c, if_neg c]
theorem or_eq (l : List Int) (hl : l.length ≤ 7) : cmp_Or_int.f 8 l = some (orI l) := or_loop l hl l.length 0 8 (by omega) (by omega)
theorem or_2 (a b : Int) : cmp_Or_int.f 8 [a, b] = some (if a = 0 then if b = 0 then 0 else b else a) := or_eq _ (by simp)
def sortMove_ren : Go.Shelf.Ren := ⟨fun | 6 => 78 | 15 => 90 | 14 => 89 | 28 => 102 | 29 => 103 | 20 => 94 | 21 => 95 | 22 => 96 | 23 => 97 | 24 => 98 | 25 => 99 | 26 => 100 | 27 => 101 | 46 => 104 | 47 => 105 | 48 => 106 | 49 => 107 | 50 => 108 | 57 => 109 | n => n, fun | 22 => 45 | 24 => 85 | 25 => 126 | 3 => 3 | 39 => 128 | 0 => 0 | 53 => 145 | 55 => 134 | 4 => 4 | 46 => 139 | 45 => 138 | 50 => 99 | 5 => 5 | 9 => 9 | 66 => 147 | 70 => 151 | 76 => 153 | 77 => 105 | n => n, fun | n => n⟩
theorem sortMove : Go.Proofs.SlLaysF0.n6 Try.prog sortMove_ren := { mixed := by kernel_rfl, f6 := ⟨Try.f78.name, by decide, Try.func78.trans (congrArg some (by kernel_rfl))⟩, f14 := ⟨Try.f89.name, by decide, Try.func89.trans (congrArg some (by kernel_rfl))⟩, f15 := Try.func90.trans (congrArg some (by kernel_rfl)), f20 := ⟨Try.f94.name, by decide, Try.func94.trans (congrArg some (by kernel_rfl))⟩, f21 := ⟨Try.f95.name, by decide, Try.func95.trans (congrArg some (by kernel_rfl))⟩, f22 := ⟨Try.f96.name, by decide, Try.func96.trans (congrArg some (by kernel_rfl))⟩, f23 := ⟨Try.f97.name, by decide, Try.func97.trans (congrArg some (by kernel_rfl))⟩, f24 := ⟨Try.f98.name, by decide, Try.func98.trans (congrArg some (by kernel_rfl))⟩, f25 := ⟨Try.f99.name, by decide, Try.func99.trans (congrArg some (by kernel_rfl))⟩, f26 := ⟨Try.f100.name, by decide, Try.func100.trans (congrArg some (by kernel_rfl))⟩, f27 := ⟨Try.f101.name, by decide, Try.func101.trans (congrArg some (by kernel_rfl))⟩, f28 := Try.func102.trans (congrArg some (by kernel_rfl)), f29 := Try.func103.trans (congrArg some (by kernel_rfl)), f46 := ⟨Try.f104.name, by decide, Try.func104.trans (congrArg some (by kernel_rfl))⟩, f47 := Try.func105.trans (congrArg some (by kernel_rfl)), f48 := Try.func106.trans (congrArg some (by kernel_rfl)), f49 := ⟨Try.f107.name, by decide, Try.func107.trans (congrArg some (by kernel_rfl))⟩, f50 := ⟨Try.f108.name, by decide, Try.func108.trans (congrArg some (by kernel_rfl))⟩, f57 := ⟨Try.f109.name, by decide, Try.func109.trans (congrArg some (by kernel_rfl))⟩, t0 := Try.underlying0, a0 := Try.isAgg0, z0 := Try.sizeOf0, v0 := Try.zeroValue0, t3 := Try.underlying3, a3 := Try.isAgg3, z3 := Try.sizeOf3, v3 := Try.zeroValue3, t4 := Try.underlying4, a4 := Try.isAgg4, z4 := Try.sizeOf4, v4 := Try.zeroValue4, t5 := Try.underlying5, a5 := Try.isAgg5, z5 := Try.sizeOf5, v5 := Try.zeroValue5, t9 := Try.underlying9, a9 := Try.isAgg9, z9 := Try.sizeOf9, v9 := Try.zeroValue9, t22 := Try.underlying45, a22 := Try.isAgg45, z22 := Try.sizeOf45, v22 := Try.zeroValue45, t25 := Try.underlying126, a25 := Try.isAgg126, z25 := Try.sizeOf126, v25 := Try.zeroValue126, t39 := Try.underlying128, a39 := Try.isAgg128, z39 := Try.sizeOf128, v39 := Try.zeroValue128, t45 := Try.underlying138, a45 := Try.isAgg138, z45 := Try.sizeOf138, v45 := Try.zeroValue138, t46 := Try.underlying139, a46 := Try.isAgg139, z46 := Try.sizeOf139, v46 := Try.zeroValue139, t50 := Try.underlying99, a50 := Try.isAgg99, z50 := Try.sizeOf99, v50 := Try.zeroValue99, t53 := Try.underlying145, a53 := Try.isAgg145, z53 := Try.sizeOf145, v53 := Try.zeroValue145, t55 := Try.underlying134, a55 := Try.isAgg134, z55 := Try.sizeOf134, v55 := Try.zeroValue134, t66 := Try.underlying147, a66 := Try.isAgg147, z66 := Try.sizeOf147, v66 := Try.zeroValue147, t70 := Try.underlying151, a70 := Try.isAgg151, z70 := Try.sizeOf151, v70 := Try.zeroValue151, t76 := Try.underlying153, a76 := Try.isAgg153, z76 := Try.sizeOf153, v76 := Try.zeroValue153, t77 := Try.underlying105, a77 := Try.isAgg105, z77 := Try.sizeOf105, v77 := Try.zeroValue105 }
def cfMove (x y : S85) : Int := if x.f1 < y.f1 then -1 else if y.f1 < x.f1 then 1 else if x.f0 < y.f0 then -1 else if y.f0 < x.f0 then 1 else 0
def encMove (x : S85) : List Value := [.int .i64 x.f0, .int .i64 x.f1, .int .i64 x.f2]
instance : Inhabited S85 := ⟨z85⟩
theorem flatMove : FlatKd k85 encMove :=
 ⟨fun w base ok x cs => ⟨fun h => k85_openM h, fun h => by rw [h]; exact k85_mkM w base ok x⟩, fun _ => rfl, fun x v hv => by
  simp only [encMove, List.mem_cons, List.not_mem_nil, or_false] at hv
  rcases hv with rfl | rfl | rfl <;> rfl, by decide⟩
def ltMove (x y : S85) : Prop := x.f1 < y.f1 ∨ x.f1 = y.f1 ∧ (x.f0 < y.f0)
theorem ltMove_eq (x y : S85) : (ltOf cfMove x y = true) ↔ ltMove x y := by
 unfold ltOf cfMove ltMove
 rw [decide_eq_true_iff]
 (repeat' split) <;> omega
theorem swoMove : SWO (ltOf cfMove) where
 irrefl x := by rw [← Bool.not_eq_true, ltMove_eq]; unfold ltMove; omega
 trans x y z h1 h2 := by rw [ltMove_eq] at *; unfold ltMove at *; omega
 ntrans x y z h1 h2 := by rw [← Bool.not_eq_true, ltMove_eq] at *; unfold ltMove at *; omega
theorem table_Moves_3_val (x y : S85) : table_Moves_3.f 8 x.f0 x.f1 x.f2 y.f0 y.f1 y.f2 = some (cfMove x y) := by
 unfold table_Moves_3.f cfMove
 simp only [cmp_eq, Option.bind_some]
 rw [or_2]
 simp only [Option.bind_some]
 congr 1
 unfold cmpI; (repeat' split) <;> omega
theorem table_Moves_3_lays (x y : S85) (W : World) : Calls Try.prog 79 #[.agg (encMove x).toArray, .agg (encMove y).toArray] W fun e w' => e = .returned (.int .i64 (cfMove x y)) ∧ BelowD W.heap.size W w' :=
 table_Moves_3.callsD 8 x.f0 x.f1 x.f2 y.f0 y.f1 y.f2 (cfMove x y) W (table_Moves_3_val x y)
def api_Move_78.f (l : List (S85)) : Option (List (S85)) := if l.length < 4611686018427387904 then some (srtL cfMove l) else none
theorem api_Move_78.calls (P0_ : Nat → Prop) (u9000_ : Value) (l0 : List (S85)) (r : List S85) (w0 w : World) (hB : Below w0.heap.size w0 w) (ho0 : Kd.R k85 85 w w0.heap.size P0_ u9000_ l0) (h : api_Move_78.f l0 = some r) :
 Calls Try.prog 78 #[u9000_, .func (.func 79) #[] #[]] w fun e w' => e = .returned (.tuple #[]) ∧ Kd.R k85 85 w' w0.heap.size (fun k_ => (P0_ k_ ∨ w.heap.size ≤ k_)) u9000_ r ∧ Below w0.heap.size w0 w' ∧ Kept w w' (fun k_ => P0_ k_) := by
 unfold api_Move_78.f at h
 split at h
 ·rename_i hl
  injection h with h
  subst h
  exact sort_calls flatMove swoMove sortMove Try.isAgg85 Try.sizeOf85 79 (enters_of Try.func79 (by kernel_rfl) rfl) table_Moves_3_lays 85 P0_ u9000_ l0 w0 w hB ho0 hl
 ·cases h
end Go.Proofs.Ytfhkkbpkajfdlaa.Q
end
section
namespace Go.Proofs.Ytfhkkbpkajfdlaa.Q
open Go.RowKit Go.Proofs.YtfhkkbpkajfdlaaW.PrintWords Go.Proofs.YtfhkkbpkajfdlaaW.PrintLast Go.Proofs.YtfhkkbpkajfdlaaW.PrintMore
def table_Moves.l0 : Nat → List (S85) → List (S85) → List (List Int) → Int → Int → Option ((List (S85)) × Int)
 | 0, _, _, _, _, _ => none
 | k + 1, x0, x4, x11, x12, x13 => if x13 < x12 then (if 0 ≤ x13 then (if x13 < (x11.length : Int) then (if 0 < ((rd_L3 x11 x13).length : Int) then (if 0 ≤ (rd (rd_L3 x11 x13) 0) then (if (rd (rd_L3 x11 x13) 0) < (x0.length : Int) then ((api_Move_76.f k x0 (rd_L3 x11 x13)).bind fun bt150 => (if bt150.2 = true then (if bt150.1 = 0 then (table_Moves.l0 k x0 x4 x11 x12 (wrap64 (x13 + 1))) else (if x4.length < 5864062014805 then (table_Moves.l0 k x0 (x4 ++ [(⟨(rd_T85 x0 (rd (rd_L3 x11 x13) 0)).f0, (rd_T85 x0 (rd (rd_L3 x11 x13) 0)).f1, bt150.1⟩ : S85)]) x11 x12 (wrap64 (x13 + 1))) else (none))) else (some (([] : List (S85)), 10)))) else (none)) else (none)) else (none)) else (none)) else (none)) else ((api_Move_78.f x4).bind fun t145 => (some (t145, 0)))
def table_Moves.f (k : Nat) (l0 : List (S85)) : Option ((List (S85)) × Int) := (api_Move_2_int.f k l0).bind fun t142 => (table_Moves.l0 k l0 (([] : List (S85))) t142 (t142.length : Int) 0)
set_option maxHeartbeats 8000000 in
set_option maxRecDepth 100000 in
theorem table_Moves.calls (k : Nat) (A0 : Option Addr) (c0 : Nat) (l0 : List (S85)) (r1 : List (S85)) (r2 : Int) (w : World) (hr0 : Kd.C k85 w A0 l0.length l0) (hc0 : l0.length ≤ c0) (h : table_Moves.f k l0 = some (r1, r2)) :
  Calls Try.prog 50 #[.slice A0 l0.length c0] w fun e w' => ∃ v0_ : Value, e = .returned (.tuple #[v0_, .int .i64 r2]) ∧ Kd.R k85 85 w' w.heap.size (fun _ => True) v0_ r1 ∧ Below w.heap.size w w' := by
 have hu85 := Try.underlying85; have HR0 := am_ hr0; have HC0 := am_ hc0; clear hr0 hc0; have HB := am_ (Below.refl w.heap.size w); have H : ((api_Move_2_int.f k l0).bind fun t142 => (table_Moves.l0 k l0 (([] : List (S85))) t142 (t142.length : Int) 0)) = some (r1, r2) := h; clear h; obtain ⟨y139, hy_⟩ : ∃ y_ : List (S85), y_ = (([] : List (S85))) := ⟨_, rfl⟩
 replace H : ((api_Move_2_int.f k l0).bind fun t142 => (table_Moves.l0 k l0 y139 t142 (t142.length : Int) 0)) = some (r1, r2) := hyH_
 have Ny139 := am_ hy_; clear hy_; replace H := Option.bind_eq_some_iff.mp H; obtain ⟨t142, A20, H⟩ := H; replace H : (table_Moves.l0 k l0 y139 t142 (t142.length : Int) 0) = some (r1, r2) := H; have A2 := am_ A20; clear A20; have H' := am_ H; clear H
 go_enter Try.func50, Try.ntmps50
 go_wp2_with (first | ((with_reducible refine gate_dst (N := 9) rfl ?_); refine Kd.R_lit k85 _ 85 ?hg (N := 9) ?hd (xs := ([] : List (S85))) (inner := []) (ok := fun _ => True) (okp := fun _ => True) ?hr ?hp (fun _ hk => hk) trivial (Below.refl _ _) (Nat.le_refl _) (by simp) ?_; (case hd => rfl); (case hg => rfl); (case hr => first | (go_simp; done) | (go_simp; rfl)); (case hp => exact (Reps.none _ _)); intro v140 w3 ho4 hb hg_ hnew_; clear hg_ hnew_; (first | rw [← Ny139.out] at ho4 | (simp only [Int.reduceToNat] at ho4; rw [← Ny139.out] at ho4)); have HO141 := am_ (Kd.R_lower ho4 (below_size hb_)); replace HB := hst_ hb; clear hb ho4) | ((with_reducible refine gate_callee (f := 74) rfl ?_); refine cl_ 11 Try.func74 (api_Move_2_int.calls k _ _ l0  t142 _ (cb_ HR0.out) HC0.out A2.out) ?_; rintro e w5 ⟨v143, rfl, ho0, hb⟩; refine ⟨_, rfl, ?_⟩; replace HO141 := am_ (Kd.R_below (rq_ HO141.out) hb); have HO144 := am_ (Kd.S_lower ho0 (below_size hb_)); replace HB := hst_ hb; (try clear hb); (try clear hb2); (try clear hk); (try clear hi); (try clear ho0); obtain ⟨Ao6, co6, eo6⟩ := Kd.S_slice HO144.out; subst eo6))
 go_loopg [4, 13] k (fun kq v4 v13 w' => ∃ (x4_1 : List (S85)) (x13_1 : Int), v13 = .int .i64 x13_1 ∧ Aside0 (table_Moves.l0 kq l0 x4_1 t142 (t142.length : Int) x13_1 = some (r1, r2)) ∧ Aside0 (kq ≤ k) ∧ Aside0 (Kd.R k85 85 w' w.heap.size (fun _ => True) v4 x4_1) ∧ Aside0 (Kd.S (Kd.slice 3 (Kd.int .i64)) 42 w' w.heap.size (fun _ => True) (.slice Ao6 t142.length co6) t142) ∧ Aside0 (Below w.heap.size w w'))
 case atStart => exact ⟨(y139), (0), rs_, H', ⟨Nat.le_refl _⟩, ⟨rq_ HO141.out⟩, ⟨sq_ HO144.out⟩, ⟨hb_⟩⟩
 case round =>
  clear H'
  try clear p2
  try clear c5
  obtain ⟨x4_1, x13_1, rfl, HA, HK1, HO_4, HO_11, HB⟩ := hrel
  cases gk with
  | zero => exact absurd HA.out (by simp [table_Moves.l0])
  | succ k1 =>
   have H := HA.out; clear HA; simp only [table_Moves.l0] at H
   by_cases c7 : x13_1 < (t142.length : Int)
   ·rw [if_pos c7] at H
    have c7b0 := decide_eq_true c7; clear c7
    replace H := ifn_ H; obtain ⟨c8, H⟩ := H
    have c8b0 := decide_eq_true c8; clear c8
    replace H := ifn_ H; obtain ⟨c9, H⟩ := H
    have c9b0 := decide_eq_true c9; clear c9
    replace H := ifn_ H; obtain ⟨c10, H⟩ := H
    have c10b0 := decide_eq_true c10; have c10b1 : decide (0 < (rd_L3 t142 x13_1).length) = true := decide_eq_true (by omega); clear c10
    replace H := ifn_ H; obtain ⟨c11, H⟩ := H
    have c11b0 := decide_eq_true c11; clear c11
    replace H := ifn_ H; obtain ⟨c12, H⟩ := H
    have c12b0 := decide_eq_true c12; clear c12; replace H := Option.bind_eq_some_iff.mp H; obtain ⟨⟨t150, t151⟩, A130, H⟩ := H; replace H : (if t151 = true then (if t150 = 0 then (table_Moves.l0 k1 l0 x4_1 t142 (t142.length : Int) (wrap64 (x13_1 + 1))) else (if x4_1.length < 5864062014805 then (table_Moves.l0 k1 l0 (x4_1 ++ [(⟨(rd_T85 l0 (rd (rd_L3 t142 x13_1) 0)).f0, (rd_T85 l0 (rd (rd_L3 t142 x13_1) 0)).f1, t150⟩ : S85)]) t142 (t142.length : Int) (wrap64 (x13_1 + 1))) else (none))) else (some (([] : List (S85)), 10))) = some (r1, r2) := H; have A13 := am_ A130; clear A130
    by_cases c14 : t151 = true
    ·subst c14
     have H1 : (if t150 = 0 then (table_Moves.l0 k1 l0 x4_1 t142 (t142.length : Int) (wrap64 (x13_1 + 1))) else (if x4_1.length < 5864062014805 then (table_Moves.l0 k1 l0 (x4_1 ++ [(⟨(rd_T85 l0 (rd (rd_L3 t142 x13_1) 0)).f0, (rd_T85 l0 (rd (rd_L3 t142 x13_1) 0)).f1, t150⟩ : S85)]) t142 (t142.length : Int) (wrap64 (x13_1 + 1))) else (none))) = some (r1, r2) := by rw [if_pos rfl] at H; exact H
     clear H; have H := H1; clear H1
     by_cases c15 : t150 = 0
     ·rw [if_pos c15] at H
      obtain ⟨c15b0, c15b1⟩ := eqb_ c15; clear c15; have H' := am_ H; clear H; have p146 : 0 ≤ (x13_1 : Int) := of_decide_eq_true sm_; have q146 : x13_1 < (t142.length : Int) := of_decide_eq_true sm_; obtain ⟨ad146, A146_0, c146_0, e146, hx146_0, hl146_0, hi146_0⟩ := at_L3 (Kd.S_reads' HO_11.out).2.2 x13_1 p146 q146; cases e146; obtain ⟨ce146, hce146, hMe146, hcc146⟩ := Kd.S_get HO_11.out [] x13_1 p146 (by first | exact q146 | exact of_decide_eq_true sm_ | (have e_ := (Kd.S_reads' HO_11.out).1; omega)); obtain ⟨ve146_0, rfl, ge146_0⟩ := hMe146; have hv146_0 := hcc146 0 _ rfl; rw [Nat.add_zero, show ((Kd.slice 3 (Kd.int .i64))).sz = 1 from rfl, Nat.mul_one] at hv146_0; replace hv146_0 := Option.some.inj (hv146_0.symm.trans hx146_0); rw [hv146_0] at ge146_0; have HL146_0 := am_ (show Kd.R (Kd.int .i64) 3 _ _ _ _ (rd_L3 t142 x13_1) from ge146_0); clear hv146_0 ge146_0; clear hcc146 hce146; have HR146_0 := am_ hi146_0; have HC146_0 := am_ hl146_0; clear hi146_0 hl146_0; replace p146 := eq_true p146; replace q146 := eq_true q146; have p147 : 0 ≤ (0 : Int) := (by omega); have q147 : 0 < ((rd_L3 t142 x13_1).length : Int) := of_decide_eq_true sm_; obtain ⟨ad147, e147, hx147_0⟩ := Kd.at_int q4_ 0 p147 q147; cases e147; have qi147 : (0 < (rd_L3 t142 x13_1).length) = True := eq_true (by omega)
      (try rw [show ((0 : Int)).toNat = 0 from rfl] at hx147_0)
      (try rw [Addr.add_zero'] at hx147_0)
      replace p147 := eq_true p147; replace q147 := eq_true q147; have p148 := od_ (p := 0 ≤ ((rd (rd_L3 t142 x13_1) 0) : Int)); have q148 := od_ (p := (rd (rd_L3 t142 x13_1) 0) < (l0.length : Int)); obtain ⟨ad148, e148, hx148_0, hx148_1, hx148_2⟩ := tr3_ HB.out (at_T85 HR0.out (rd (rd_L3 t142 x13_1) 0) p148 q148); cases e148; replace p148 := eq_true p148; replace q148 := eq_true q148
      go_wp2_with (first | ((with_reducible refine gate_dst (N := 7) rfl ?_); refine bx_ 7 #[.int .i64 0, .int .i64 0, .int .i64 0] 85 ?_; intro gb149 hg w16 BK149 hb; replace HO_4 := am_ (Kd.R_below (Kd.R_elderB (rq_ HO_4.out) gb149 (Nat.le_of_eq hg.symm)) hb); replace HO_11 := am_ (Kd.S_below (sq_ HO_11.out) hb); replace HL146_0 := am_ (Kd.R_below (rq_ HL146_0.out) hb); replace HR146_0 := am_ (Kd.C_below q4_ hb); have GE149 := ge_ (w := w) hg; replace HB := hst_ hb; clear hb hg; obtain ⟨hcz17_0, hcz17_1, hcz17_2, hfz17_0, hfz17_1, hfz17_2⟩ := cf3_ BK149.out) | ((with_reducible refine gate_callee (f := 76) rfl ?_); refine goesL_ (some 26) rfl rfl Try.func76 (by kernel_rfl) rfl #[.slice (some ad148) l0.length c0, .slice (some ad147) (rd_L3 t142 x13_1).length c146_0, .func (.func 77) #[] #[]] rfl mt_ ?_; (with_reducible refine (api_Move_76.calls k1 _ _ l0 _ _ (rd_L3 t142 x13_1)  t150 true _ ?side1 ?side2 ?side3 ?side4 A13.out).mono ?_); (case side1 => exact Kd.C_below HR0.out hb_); (case side2 => exact HC0.out); (case side3 => repeat (first | exact ((Kd.R_reads' q0_).2.2) | (with_reducible refine Kd.C_alloc ?_ _) | (with_reducible refine Kd.C_drewN ?_ _) | (with_reducible refine Kd.C_drew ?_))); (case side4 => exact HC146_0.out); rintro e w18 ⟨rfl, hb⟩; refine ⟨_, rfl, ?_⟩; replace HO_4 := am_ (Kd.R_below q5_ hb); replace HO_11 := am_ (Kd.S_below q7_ hb); replace HR146_0 := am_ (Kd.C_below ((Kd.R_reads' q0_).2.2) hb); replace HL146_0 := am_ (Kd.R_below q0_ hb); replace BK149 := am_ (blk_below (g := gb149) (o := .cells #[.int .i64 ((rd_T85 l0 (rd (rd_L3 t142 x13_1) 0)).f0), .int .i64 ((rd_T85 l0 (rd (rd_L3 t142 x13_1) 0)).f1), .int .i64 ((rd_T85 l0 (rd (rd_L3 t142 x13_1) 0)).f2)] 85 (0, 0)) q6_ hb); replace HB := hst_ hb; (try clear hb); (try clear hb2); (try clear hk); (try clear hi); obtain ⟨hcz19_0, hcz19_1, hcz19_2, hfz19_0, hfz19_1, hfz19_2⟩ := cf3_ BK149.out))
      go_roundg k1
      case measure => have := HK1.out; omega
      case rel => exact ⟨(x4_1), (wrap64 (x13_1 + 1)), rs_, H', ⟨by have := HK1.out; omega⟩, ⟨by refine rq_ ?_; exact Kd.R_mono (Kd.R_far (p := ⟨gb149, 2, none⟩) (Kd.R_mono HO_4.out (fun k_ hk => (⟨hk, hk.2⟩ : _ ∧ k_ ≠ gb149))) (fun _ hk => hk.2) (.int .i64 t150)) (fun _ hk => trivial)⟩, ⟨by refine sq_ ?_; exact Kd.S_mono (Kd.S_far (p := ⟨gb149, 2, none⟩) (Kd.S_types HO_11.out BK149.out (by decide)) (fun _ hk => hk.2) (.int .i64 t150)) (fun _ hk => trivial)⟩, ⟨hb_⟩⟩
     ·rw [if_neg c15] at H
      obtain ⟨c15b0, c15b1⟩ := neb_ c15
      replace H := ifn_ H; obtain ⟨c20, H⟩ := H
      have LMc20 := am_ c20; clear c20; obtain ⟨y152, hy_⟩ : ∃ y_ : List (S85), y_ = (x4_1 ++ [(⟨(rd_T85 l0 (rd (rd_L3 t142 x13_1) 0)).f0, (rd_T85 l0 (rd (rd_L3 t142 x13_1) 0)).f1, t150⟩ : S85)]) := ⟨_, rfl⟩
      replace H : (table_Moves.l0 k1 l0 y152 t142 (t142.length : Int) (wrap64 (x13_1 + 1))) = some (r1, r2) := hyH_
      have Ny152 := am_ hy_; clear hy_; have H' := am_ H; clear H; have p146 : 0 ≤ (x13_1 : Int) := of_decide_eq_true sm_; have q146 : x13_1 < (t142.length : Int) := of_decide_eq_true sm_; obtain ⟨ad146, A146_0, c146_0, e146, hx146_0, hl146_0, hi146_0⟩ := at_L3 (Kd.S_reads' HO_11.out).2.2 x13_1 p146 q146; cases e146; obtain ⟨ce146, hce146, hMe146, hcc146⟩ := Kd.S_get HO_11.out [] x13_1 p146 (by first | exact q146 | exact of_decide_eq_true sm_ | (have e_ := (Kd.S_reads' HO_11.out).1; omega)); obtain ⟨ve146_0, rfl, ge146_0⟩ := hMe146; have hv146_0 := hcc146 0 _ rfl; rw [Nat.add_zero, show ((Kd.slice 3 (Kd.int .i64))).sz = 1 from rfl, Nat.mul_one] at hv146_0; replace hv146_0 := Option.some.inj (hv146_0.symm.trans hx146_0); rw [hv146_0] at ge146_0; have HL146_0 := am_ (show Kd.R (Kd.int .i64) 3 _ _ _ _ (rd_L3 t142 x13_1) from ge146_0); clear hv146_0 ge146_0; clear hcc146 hce146; have HR146_0 := am_ hi146_0; have HC146_0 := am_ hl146_0; clear hi146_0 hl146_0; replace p146 := eq_true p146; replace q146 := eq_true q146; have p147 : 0 ≤ (0 : Int) := (by omega); have q147 : 0 < ((rd_L3 t142 x13_1).length : Int) := of_decide_eq_true sm_; obtain ⟨ad147, e147, hx147_0⟩ := Kd.at_int q4_ 0 p147 q147; cases e147; have qi147 : (0 < (rd_L3 t142 x13_1).length) = True := eq_true (by omega)
      (try rw [show ((0 : Int)).toNat = 0 from rfl] at hx147_0)
      (try rw [Addr.add_zero'] at hx147_0)
      replace p147 := eq_true p147; replace q147 := eq_true q147; have p148 := od_ (p := 0 ≤ ((rd (rd_L3 t142 x13_1) 0) : Int)); have q148 := od_ (p := (rd (rd_L3 t142 x13_1) 0) < (l0.length : Int)); obtain ⟨ad148, e148, hx148_0, hx148_1, hx148_2⟩ := tr3_ HB.out (at_T85 HR0.out (rd (rd_L3 t142 x13_1) 0) p148 q148); cases e148; replace p148 := eq_true p148; replace q148 := eq_true q148
      go_wp2_with (first | ((with_reducible refine gate_dst (N := 7) rfl ?_); refine bx_ 7 #[.int .i64 0, .int .i64 0, .int .i64 0] 85 ?_; intro gb149 hg w21 BK149 hb; replace HO_4 := am_ (Kd.R_below (Kd.R_elderB (rq_ HO_4.out) gb149 (Nat.le_of_eq hg.symm)) hb); replace HO_11 := am_ (Kd.S_below (sq_ HO_11.out) hb); replace HL146_0 := am_ (Kd.R_below (rq_ HL146_0.out) hb); replace HR146_0 := am_ (Kd.C_below q4_ hb); have GE149 := ge_ (w := w) hg; replace HB := hst_ hb; clear hb hg; obtain ⟨hcz22_0, hcz22_1, hcz22_2, hfz22_0, hfz22_1, hfz22_2⟩ := cf3_ BK149.out) | ((with_reducible refine gate_callee (f := 76) rfl ?_); refine goesL_ (some 26) rfl rfl Try.func76 (by kernel_rfl) rfl #[.slice (some ad148) l0.length c0, .slice (some ad147) (rd_L3 t142 x13_1).length c146_0, .func (.func 77) #[] #[]] rfl mt_ ?_; (with_reducible refine (api_Move_76.calls k1 _ _ l0 _ _ (rd_L3 t142 x13_1)  t150 true _ ?side1 ?side2 ?side3 ?side4 A13.out).mono ?_); (case side1 => exact Kd.C_below HR0.out hb_); (case side2 => exact HC0.out); (case side3 => repeat (first | exact ((Kd.R_reads' q0_).2.2) | (with_reducible refine Kd.C_alloc ?_ _) | (with_reducible refine Kd.C_drewN ?_ _) | (with_reducible refine Kd.C_drew ?_))); (case side4 => exact HC146_0.out); rintro e w23 ⟨rfl, hb⟩; refine ⟨_, rfl, ?_⟩; replace HO_4 := am_ (Kd.R_below q5_ hb); replace HO_11 := am_ (Kd.S_below q7_ hb); replace HR146_0 := am_ (Kd.C_below ((Kd.R_reads' q0_).2.2) hb); replace HL146_0 := am_ (Kd.R_below q0_ hb); replace BK149 := am_ (blk_below (g := gb149) (o := .cells #[.int .i64 ((rd_T85 l0 (rd (rd_L3 t142 x13_1) 0)).f0), .int .i64 ((rd_T85 l0 (rd (rd_L3 t142 x13_1) 0)).f1), .int .i64 ((rd_T85 l0 (rd (rd_L3 t142 x13_1) 0)).f2)] 85 (0, 0)) q6_ hb); replace HB := hst_ hb; (try clear hb); (try clear hb2); (try clear hk); (try clear hi); obtain ⟨hcz24_0, hcz24_1, hcz24_2, hfz24_0, hfz24_1, hfz24_2⟩ := cf3_ BK149.out) | ((with_reducible refine gate_builtin (b := .append) (xs := #[.tmp 35, .tmp 37]) rfl ?_); at_builtin; refine Kd.R_append k85 (w0 := w) w.heap.size rfl (.tmp 35) (.tmp 37) 45 85 (.agg #[(.int .i64 0), (.int .i64 0), (.int .i64 0)]) 24 rfl Try.underlying45 info85 rfl (by decide) (by omega) u4 x4_1 (⟨(rd_T85 l0 (rd (rd_L3 t142 x13_1) 0)).f0, (rd_T85 l0 (rd (rd_L3 t142 x13_1) 0)).f1, t150⟩ : S85) [.int .i64 ((rd_T85 l0 (rd (rd_L3 t142 x13_1) 0)).f0), .int .i64 ((rd_T85 l0 (rd (rd_L3 t142 x13_1) 0)).f1), .int .i64 t150] (fun k_ => k_ ≠ gb149) (fun _ => False) rfl (by first | (go_simp; done) | (go_simp; rfl)) ?aP (fun _ hk => hk.elim) ?aF ?aO ?aB ?aS ?aL ?_; (case aP => exact k85_mkM _ _ _ (⟨(rd_T85 l0 (rd (rd_L3 t142 x13_1) 0)).f0, (rd_T85 l0 (rd (rd_L3 t142 x13_1) 0)).f1, t150⟩ : S85)); (case aB => exact hb_); (case aF => exact (fun k_ hk => Kd.freshB (g := gb149) (o := .cells #[.int .i64 ((rd_T85 l0 (rd (rd_L3 t142 x13_1) 0)).f0), .int .i64 ((rd_T85 l0 (rd (rd_L3 t142 x13_1) 0)).f1), .int .i64 t150] 85 (0, 0)) (by refine bq_ ?_; refine blk_put (cs := #[.int .i64 ((rd_T85 l0 (rd (rd_L3 t142 x13_1) 0)).f0), .int .i64 ((rd_T85 l0 (rd (rd_L3 t142 x13_1) 0)).f1), .int .i64 ((rd_T85 l0 (rd (rd_L3 t142 x13_1) 0)).f2)]) ?_ 2 _ rfl; refine bq_ ?_; exact BK149.out) k_ hk)); (case aO => exact (by refine rq_ ?_; exact Kd.R_mono (Kd.R_far (p := ⟨gb149, 2, none⟩) (Kd.R_mono HO_4.out (fun k_ hk => (⟨hk, hk.2⟩ : _ ∧ k_ ≠ gb149))) (fun _ hk => hk.2) (.int .i64 t150)) (fun _ hk => hk.1.2))); (case aS => exact (below_size hb_)); (case aL => have := LMc20.out; omega); intro v153 w25 ho hb hg hat; rw [← Ny152.out] at ho; replace HO_11 := am_ (Kd.S_over' (by refine sq_ ?_; exact (Kd.S_mono (Kd.S_far (p := ⟨gb149, 2, none⟩) (Kd.S_types HO_11.out BK149.out (by decide)) (fun _ hk => hk.2) (.int .i64 t150)) (fun _ h_ => h_.1))) (Kd.R_typed (by refine rq_ ?_; exact (Kd.R_mono (Kd.R_far (p := ⟨gb149, 2, none⟩) (Kd.R_mono HO_4.out (fun k_ hk => (⟨hk, hk.2⟩ : _ ∧ k_ ≠ gb149))) (fun _ hk => hk.2) (.int .i64 t150)) (fun _ h_ => h_.1)))) (by decide) hg); replace HL146_0 := am_ (Kd.R_over' (by refine rq_ ?_; exact (Kd.R_mono (Kd.R_far (p := ⟨gb149, 2, none⟩) (Kd.R_types HL146_0.out BK149.out (by decide)) (fun _ hk => hk.2) (.int .i64 t150)) (fun _ h_ => h_.1))) (Kd.R_typed (by refine rq_ ?_; exact (Kd.R_mono (Kd.R_far (p := ⟨gb149, 2, none⟩) (Kd.R_mono HO_4.out (fun k_ hk => (⟨hk, hk.2⟩ : _ ∧ k_ ≠ gb149))) (fun _ hk => hk.2) (.int .i64 t150)) (fun _ h_ => h_.1)))) (by decide) hg); replace BK149 := am_ (blk_grown (g := gb149) (o := .cells #[.int .i64 ((rd_T85 l0 (rd (rd_L3 t142 x13_1) 0)).f0), .int .i64 ((rd_T85 l0 (rd (rd_L3 t142 x13_1) 0)).f1), .int .i64 t150] 85 (0, 0)) (by refine bq_ ?_; refine blk_put (cs := #[.int .i64 ((rd_T85 l0 (rd (rd_L3 t142 x13_1) 0)).f0), .int .i64 ((rd_T85 l0 (rd (rd_L3 t142 x13_1) 0)).f1), .int .i64 ((rd_T85 l0 (rd (rd_L3 t142 x13_1) 0)).f2)]) ?_ 2 _ rfl; refine bq_ ?_; exact BK149.out) hg (Kd.R_away HO_4.out (fun _ hk => hk.2))); replace HB := am_ (hb); have HO154 := am_ (ho); clear HO_4; clear ho hb hg hat))
      go_roundg k1
      case measure => have := HK1.out; omega
      case rel => exact ⟨(y152), (wrap64 (x13_1 + 1)), rs_, H', ⟨by have := HK1.out; omega⟩, ⟨by refine rq_ ?_; exact Kd.R_mono HO154.out (fun _ hk => trivial)⟩, ⟨sq_ HO_11.out⟩, ⟨hb_⟩⟩
    ·replace c14 := Bool.eq_false_iff.mpr c14
     subst c14
     have H1 : (some (([] : List (S85)), 10)) = some (r1, r2) := by rw [if_neg (show ¬ (false = true) by decide)] at H; exact H
     clear H; have H := H1; clear H1; simp only [Option.some.injEq, Prod.mk.injEq] at H; obtain ⟨rfl, rfl⟩ := H; have p146 : 0 ≤ (x13_1 : Int) := of_decide_eq_true sm_; have q146 : x13_1 < (t142.length : Int) := of_decide_eq_true sm_; obtain ⟨ad146, A146_0, c146_0, e146, hx146_0, hl146_0, hi146_0⟩ := at_L3 (Kd.S_reads' HO_11.out).2.2 x13_1 p146 q146; cases e146; obtain ⟨ce146, hce146, hMe146, hcc146⟩ := Kd.S_get HO_11.out [] x13_1 p146 (by first | exact q146 | exact of_decide_eq_true sm_ | (have e_ := (Kd.S_reads' HO_11.out).1; omega)); obtain ⟨ve146_0, rfl, ge146_0⟩ := hMe146; have hv146_0 := hcc146 0 _ rfl; rw [Nat.add_zero, show ((Kd.slice 3 (Kd.int .i64))).sz = 1 from rfl, Nat.mul_one] at hv146_0; replace hv146_0 := Option.some.inj (hv146_0.symm.trans hx146_0); rw [hv146_0] at ge146_0; have HL146_0 := am_ (show Kd.R (Kd.int .i64) 3 _ _ _ _ (rd_L3 t142 x13_1) from ge146_0); clear hv146_0 ge146_0; clear hcc146 hce146; have HR146_0 := am_ hi146_0; have HC146_0 := am_ hl146_0; clear hi146_0 hl146_0; replace p146 := eq_true p146; replace q146 := eq_true q146; have p147 : 0 ≤ (0 : Int) := (by omega); have q147 : 0 < ((rd_L3 t142 x13_1).length : Int) := of_decide_eq_true sm_; obtain ⟨ad147, e147, hx147_0⟩ := Kd.at_int q4_ 0 p147 q147; cases e147; have qi147 : (0 < (rd_L3 t142 x13_1).length) = True := eq_true (by omega)
     (try rw [show ((0 : Int)).toNat = 0 from rfl] at hx147_0)
     (try rw [Addr.add_zero'] at hx147_0)
     replace p147 := eq_true p147; replace q147 := eq_true q147; have p148 := od_ (p := 0 ≤ ((rd (rd_L3 t142 x13_1) 0) : Int)); have q148 := od_ (p := (rd (rd_L3 t142 x13_1) 0) < (l0.length : Int)); obtain ⟨ad148, e148, hx148_0, hx148_1, hx148_2⟩ := tr3_ HB.out (at_T85 HR0.out (rd (rd_L3 t142 x13_1) 0) p148 q148); cases e148; replace p148 := eq_true p148; replace q148 := eq_true q148
     go_wp2_with (first | ((with_reducible refine gate_dst (N := 7) rfl ?_); refine bx_ 7 #[.int .i64 0, .int .i64 0, .int .i64 0] 85 ?_; intro gb149 hg w26 BK149 hb; replace HO_4 := am_ (Kd.R_below (Kd.R_elderB (rq_ HO_4.out) gb149 (Nat.le_of_eq hg.symm)) hb); replace HO_11 := am_ (Kd.S_below (sq_ HO_11.out) hb); replace HL146_0 := am_ (Kd.R_below (rq_ HL146_0.out) hb); replace HR146_0 := am_ (Kd.C_below q4_ hb); have GE149 := ge_ (w := w) hg; replace HB := hst_ hb; clear hb hg; obtain ⟨hcz27_0, hcz27_1, hcz27_2, hfz27_0, hfz27_1, hfz27_2⟩ := cf3_ BK149.out) | ((with_reducible refine gate_callee (f := 76) rfl ?_); refine goesL_ (some 26) rfl rfl Try.func76 (by kernel_rfl) rfl #[.slice (some ad148) l0.length c0, .slice (some ad147) (rd_L3 t142 x13_1).length c146_0, .func (.func 77) #[] #[]] rfl mt_ ?_; (with_reducible refine (api_Move_76.calls k1 _ _ l0 _ _ (rd_L3 t142 x13_1)  t150 false _ ?side1 ?side2 ?side3 ?side4 A13.out).mono ?_); (case side1 => exact Kd.C_below HR0.out hb_); (case side2 => exact HC0.out); (case side3 => repeat (first | exact ((Kd.R_reads' q0_).2.2) | (with_reducible refine Kd.C_alloc ?_ _) | (with_reducible refine Kd.C_drewN ?_ _) | (with_reducible refine Kd.C_drew ?_))); (case side4 => exact HC146_0.out); rintro e w28 ⟨rfl, hb⟩; refine ⟨_, rfl, ?_⟩; replace HO_4 := am_ (Kd.R_below q5_ hb); replace HO_11 := am_ (Kd.S_below q7_ hb); replace HR146_0 := am_ (Kd.C_below ((Kd.R_reads' q0_).2.2) hb); replace HL146_0 := am_ (Kd.R_below q0_ hb); replace BK149 := am_ (blk_below (g := gb149) (o := .cells #[.int .i64 ((rd_T85 l0 (rd (rd_L3 t142 x13_1) 0)).f0), .int .i64 ((rd_T85 l0 (rd (rd_L3 t142 x13_1) 0)).f1), .int .i64 ((rd_T85 l0 (rd (rd_L3 t142 x13_1) 0)).f2)] 85 (0, 0)) q6_ hb); replace HB := hst_ hb; (try clear hb); (try clear hb2); (try clear hk); (try clear hi); obtain ⟨hcz29_0, hcz29_1, hcz29_2, hfz29_0, hfz29_1, hfz29_2⟩ := cf3_ BK149.out))
     go_ret2
     exact ⟨_, er_, ni_, hb_⟩
   ·rw [if_neg c7] at H
    have c7b0 := decide_eq_false c7; clear c7; replace H := Option.bind_eq_some_iff.mp H; obtain ⟨t145, A300, H⟩ := H; replace H : (some (t145, 0)) = some (r1, r2) := H; have A30 := am_ A300; clear A300; simp only [Option.some.injEq, Prod.mk.injEq] at H; obtain ⟨rfl, rfl⟩ := H; obtain ⟨Ao31, co31, eo31⟩ := Kd.R_slice HO_4.out; subst eo31
    go_wp2_with (first | ((with_reducible refine gate_callee (f := 78) rfl ?_); refine goesL_ (some 41) rfl rfl Try.func78 (by kernel_rfl) rfl #[.slice Ao31 x4_1.length co31, .func (.func 79) #[] #[]] rfl mt_ ?_; (with_reducible refine (api_Move_78.calls (fun k_ => some k_ = (.slice Ao31 x4_1.length co31 : Value).ownBlock) (.slice Ao31 x4_1.length co31) x4_1  t145 w _ ?side1 ?side2 A30.out).mono ?_); (case side1 => repeat (first | (with_reducible first | exact HB.out | apply below_alloc | apply pw_below_drewN | apply below_drew1) | exact HB.out)); (case side2 => exact Kd.R_tight rfl HO_4.out); rintro e w32 ⟨rfl, hy0, hb, hkp⟩; refine ⟨_, rfl, ?_⟩; replace HO_11 := am_ (Kd.S_mono (ok' := fun k_ => True) (Kd.S_keptB ((Kd.S_apart' HO_11.out (Kd.R_typed HO_4.out) (by decide))) hkp (fun k_ hk_ hs_ => (hk_.2) hs_)) (fun k_ hk_ => trivial)); replace HO_4 := am_ (Kd.R_reok rfl hy0 (fun k_ e_ => HO_4.out.1 k_ e_)); replace HB := am_ (hb); (try clear hb); (try clear hkp); (try clear hy0)))
    go_ret2
    exact ⟨_, er_, by refine rq_ ?_; exact HO_4.out, hb_⟩
def ebbtideref01_Sum.l0 : Nat → List Int → Int → Int → Int → Option (Int × Bool)
 | 0, _, _, _, _ => none
 | k + 1, x0, x4, x5, x6 => if x6 < (x0.length : Int) then (if 0 ≤ x6 then (ebbtideref01_Sum.l0 k x0 (wrap64 (x4 + ((rd x0 x6) / 4294967296))) (wrap64 (x5 + (Go.bits .and .i64 (rd x0 x6) 4294967295))) (wrap64 (x6 + 1))) else (none)) else (if (wrap64 (x4 + (x5 / 4294967296))) < (-2147483648) then (some (0, false)) else (if (wrap64 (x4 + (x5 / 4294967296))) ≥ 2147483648 then (some (0, false)) else (some (wrap64 ((wrap64 ((wrap64 (x4 + (x5 / 4294967296))) * 4294967296)) + (Go.bits .and .i64 x5 4294967295)), true))))
def ebbtideref01_Sum.f (k : Nat) (l0 : List Int) : Option (Int × Bool) := ebbtideref01_Sum.l0 k l0 0 0 0
set_option maxHeartbeats 8000000 in
set_option maxRecDepth 100000 in
theorem ebbtideref01_Sum.calls (k : Nat) (A0 : Option Addr) (c0 : Nat) (l0 : List Int) (r1 : Int) (r2 : Bool) (w : World) (hr0 : Kd.C (Kd.int .i64) w A0 l0.length l0) (hc0 : l0.length ≤ c0) (h : ebbtideref01_Sum.f k l0 = some (r1, r2)) :
  Calls Try.prog 53 #[.slice A0 l0.length c0] w fun e w' => e = .returned (.tuple #[.int .i64 r1, .bool r2]) ∧ Drawn0 w w' := by
 have HR0 := am_ hr0; have HC0 := am_ hc0; clear hr0 hc0; have H : (ebbtideref01_Sum.l0 k l0 0 0 0) = some (r1, r2) := h; clear h; have H' := am_ H; clear H
 go_enter Try.func53, Try.ntmps53
 go_wp2
 go_loopg [4, 5, 6] k (fun kq v4 v5 v6 w' => ∃ (x4_1 : Int) (x5_1 : Int) (x6_1 : Int), v4 = .int .i64 x4_1 ∧ v5 = .int .i64 x5_1 ∧ v6 = .int .i64 x6_1 ∧ Aside0 (ebbtideref01_Sum.l0 kq l0 x4_1 x5_1 x6_1 = some (r1, r2)) ∧ Aside0 (kq ≤ k) ∧ Drawn0 w w')
 case atStart => exact ⟨(0), (0), (0), rs_, rs_, rs_, H', ⟨Nat.le_refl _⟩, by repeat (first | exact Drawn0.refl _ | apply Drawn0.step)⟩
 case round =>
  clear H'; obtain ⟨x4_1, x5_1, x6_1, rfl, rfl, rfl, HA, HK1, ⟨m1, rfl⟩⟩ := hrel
  cases gk with
  | zero => exact absurd HA.out (by simp [ebbtideref01_Sum.l0])
  | succ k1 =>
   have H := HA.out; clear HA; simp only [ebbtideref01_Sum.l0] at H
   by_cases c2 : x6_1 < (l0.length : Int)
   ·rw [if_pos c2] at H
    have c2b0 := decide_eq_true c2; clear c2
    replace H := ifn_ H; obtain ⟨c3, H⟩ := H
    have c3b0 := decide_eq_true c3; clear c3; have H' := am_ H; clear H; have p561 : 0 ≤ (x6_1 : Int) := of_decide_eq_true sm_; have q561 : x6_1 < (l0.length : Int) := of_decide_eq_true sm_; obtain ⟨ad561, e561, hx561_0⟩ := Kd.at_int HR0.out x6_1 p561 q561; cases e561; replace p561 := eq_true p561; replace q561 := eq_true q561; have p562 : 0 ≤ (x6_1 : Int) := of_decide_eq_true sm_; have q562 : x6_1 < (l0.length : Int) := of_decide_eq_true sm_; obtain ⟨ad562, e562, hx562_0⟩ := Kd.at_int HR0.out x6_1 p562 q562; obtain rfl : ad561 = ad562 := (by injection e562); replace p562 := eq_true p562; replace q562 := eq_true q562
    go_wp2
    go_roundg k1
    case measure => have := HK1.out; omega
    case rel => exact ⟨(wrap64 (x4_1 + ((rd l0 x6_1) / 4294967296))), (wrap64 (x5_1 + (Go.bits .and .i64 (rd l0 x6_1) 4294967295))), (wrap64 (x6_1 + 1)), rs_, rs_, rs_, H', ⟨by have := HK1.out; omega⟩, by repeat (first | exact Drawn0.refl _ | apply Drawn0.step)⟩
   ·rw [if_neg c2] at H
    have c2b0 := decide_eq_false c2; clear c2
    by_cases c4 : (wrap64 (x4_1 + (x5_1 / 4294967296))) < (-2147483648)
    ·rw [if_pos c4] at H
     have c4b0 := decide_eq_true c4; clear c4; simp only [Option.some.injEq, Prod.mk.injEq] at H; obtain ⟨rfl, rfl⟩ := H
     go_wp2
     go_ret2
     exact ⟨by first | rfl | (simp; done) | (simp [*]; done), by repeat (first | exact Drawn0.refl _ | apply Drawn0.step)⟩
    ·rw [if_neg c4] at H
     have c4b0 := decide_eq_false c4; clear c4
     by_cases c5 : (wrap64 (x4_1 + (x5_1 / 4294967296))) ≥ 2147483648
     ·rw [if_pos c5] at H
      have c5b0 := decide_eq_true c5; clear c5; simp only [Option.some.injEq, Prod.mk.injEq] at H; obtain ⟨rfl, rfl⟩ := H
      go_wp2
      go_ret2
      exact ⟨by first | rfl | (simp; done) | (simp [*]; done), by repeat (first | exact Drawn0.refl _ | apply Drawn0.step)⟩
     ·rw [if_neg c5] at H
      have c5b0 := decide_eq_false c5; clear c5; simp only [Option.some.injEq, Prod.mk.injEq] at H; obtain ⟨rfl, rfl⟩ := H
      go_wp2
      go_ret2
      exact ⟨by first | rfl | (simp; done) | (simp [*]; done), by repeat (first | exact Drawn0.refl _ | apply Drawn0.step)⟩
end Go.Proofs.Ytfhkkbpkajfdlaa.Q
end
