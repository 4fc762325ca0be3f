/- A part of the proof: words, contracts, plain lemmas. Conditions: none. -/
import Derived.Test.YtfhkkbpkajfdlaaZExpandRuns15
section
namespace Go.Proofs.Ytfhkkbpkajfdlaa.P
open Go.RowKit Go.Proofs.Ytfhkkbpkajfdlaa.Q Go.Proofs.YtfhkkbpkajfdlaaW.PrintWords Go.Proofs.YtfhkkbpkajfdlaaW.PrintLast Go.Proofs.YtfhkkbpkajfdlaaW.PrintMore
theorem wi64 (n : Int) : IntKind.i64.wrap n = wrap64 n := by
 simp [IntKind.wrap, IntKind.bits, IntKind.signed, wrap64]; split <;> omega
theorem ofInt_nat (a : Int) : ((BitVec.ofInt 64 a).toNat : Int) = a % 18446744073709551616 := by
 rw [BitVec.toNat_ofInt]
 omega
theorem w64_id {n : Int} (h0 : -9223372036854775808 ≤ n) (h1 : n ≤ 9223372036854775807) : wrap64 n = n := by unfold wrap64; omega
theorem and_low {a : Int} (_h0 : -9223372036854775808 ≤ a) (_h1 : a ≤ 9223372036854775807) : Go.bits .and .i64 a 4294967295 = a % 4294967296 := by
 show IntKind.i64.wrap ((BitVec.ofInt 64 a &&& BitVec.ofInt 64 4294967295).toNat) = _
 have ha := ofInt_nat a
 have hm : (BitVec.ofInt 64 4294967295).toNat = 2 ^ 32 - 1 := by decide
 rw [wi64, BitVec.toNat_and, hm, Nat.and_two_pow_sub_one_eq_mod]
 unfold wrap64
 omega
def sh (l : List Int) : Int := (l.map fun x => x / 4294967296).sum
def sl (l : List Int) : Int := (l.map fun x => x % 4294967296).sum
theorem halves (l : List Int) : l.sum = sh l * 4294967296 + sl l := by
 unfold sh sl
 induction l with
 | nil => rfl
 | cons x r ih => simp only [List.map_cons, List.sum_cons, ih]; omega
theorem half_bd (l : List Int) (h : ∀ x ∈ l, -9223372036854775808 ≤ x ∧ x ≤ 9223372036854775807) : -2147483648 * (l.length : Int) ≤ sh l ∧ sh l ≤ 2147483647 * (l.length : Int) ∧ 0 ≤ sl l ∧ sl l ≤ 4294967295 * (l.length : Int) := by
 unfold sh sl
 induction l with
 | nil => simp
 | cons x r ih =>
  have := ih (fun y hy => h y (List.mem_cons_of_mem _ hy))
  have := h x List.mem_cons_self
  simp only [List.map_cons, List.sum_cons, List.length_cons]
  omega
theorem rsum_loop (l : List Int) (hl : l.length ≤ 1048576) (hw : ∀ x ∈ l, -9223372036854775808 ≤ x ∧ x ≤ 9223372036854775807) (d : Nat) : ∀ (j k : Nat), j + d = l.length → d < k →
 ebbtideref01_Sum.l0 k l (sh (l.take j)) (sl (l.take j)) (j : Int) = some (sumFit l.sum) := by
 induction d with
 | zero =>
  intro j k hj hk
  obtain ⟨k, rfl⟩ : ∃ m, k = m + 1 := ⟨k - 1, by omega⟩
  have hb := half_bd l hw
  have hs := halves l
  rw [ebbtideref01_Sum.l0, if_neg (by omega), List.take_of_length_le (by omega), and_low (by omega) (by omega), w64_id (n := sh l + sl l / 4294967296) (by omega) (by omega)]
  unfold sumFit
  by_cases c : -9223372036854775808 ≤ l.sum ∧ l.sum ≤ 9223372036854775807
  ·rw [if_pos c, if_neg (by omega), if_neg (by omega), w64_id (n := (sh l + sl l / 4294967296) * 4294967296) (by omega) (by omega), w64_id (by omega) (by omega)]
   exact congrArg some (Prod.ext (by show _ = _; simp only; omega) rfl)
  ·rw [if_neg c]
   by_cases c1 : sh l + sl l / 4294967296 < -2147483648
   ·rw [if_pos c1]
   ·rw [if_neg c1, if_pos (by omega)]
 | succ d ih =>
  intro j k hj hk
  obtain ⟨k, rfl⟩ : ∃ m, k = m + 1 := ⟨k - 1, by omega⟩
  have hlt : j < l.length := by omega
  have hx := hw l[j] (List.getElem_mem hlt)
  have hb := half_bd (l.take j) (fun x hx => hw x (List.mem_of_mem_take hx))
  have hlen : (l.take j).length = j := by rw [List.length_take]; omega
  rw [hlen] at hb
  have e1 : sh (l.take (j + 1)) = sh (l.take j) + l[j] / 4294967296 := by unfold sh; rw [List.take_succ_eq_append_getElem hlt, List.map_append, List.sum_append]; simp
  have e2 : sl (l.take (j + 1)) = sl (l.take j) + l[j] % 4294967296 := by unfold sl; rw [List.take_succ_eq_append_getElem hlt, List.map_append, List.sum_append]; simp
  rw [ebbtideref01_Sum.l0, if_pos (by omega), if_pos (by omega), rd_at hlt, and_low hx.1 hx.2, w64_id (n := sh (l.take j) + l[j] / 4294967296) (by omega) (by omega), w64_id (n := sl (l.take j) + l[j] % 4294967296) (by omega) (by omega), w64_id (n := (j : Int) + 1) (by omega) (by omega), ← e1, ← e2]
  exact ih (j + 1) k (by omega) (by omega)
theorem csum_eq {l : List Int} (hl : l.length ≤ 1152921504606846976) (hw : ∀ x ∈ l, -9223372036854775808 ≤ x ∧ x ≤ 9223372036854775807) : checked_Sum.f l = some (sumFit l.sum) := by
 unfold checked_Sum.f
 rw [if_pos]
 simp only [sumOk, Bool.and_eq_true, List.all_eq_true, decide_eq_true_eq]
 exact ⟨hw, hl⟩
theorem rsum_eq {l : List Int} (hl : l.length ≤ 1048576) (hw : ∀ x ∈ l, -9223372036854775808 ≤ x ∧ x ≤ 9223372036854775807) {k : Nat} (hk : l.length < k) : ebbtideref01_Sum.f k l = some (sumFit l.sum) :=
 rsum_loop l hl hw l.length 0 k (by omega) hk
end Go.Proofs.Ytfhkkbpkajfdlaa.P
end
section
namespace Go.Proofs.Ytfhkkbpkajfdlaa.P
def row {β : Type} (V : Nat) (g : Nat → β) : List β := (List.range V).map g
def mat (H V : Nat) (f : Nat → Nat → Int) : List (List Int) := row H (fun a => row V (f a))
section
variable {β : Type}
theorem row_length (V : Nat) (g : Nat → β) : (row V g).length = V := by simp [row]
theorem row_get? (V : Nat) (g : Nat → β) (v : Nat) (h : v < V) : (row V g)[v]? = some (g v) := by
 unfold row
 rw [List.getElem?_map, List.getElem?_range h]; rfl
theorem row_none (V : Nat) (g : Nat → β) (v : Nat) (h : V ≤ v) : (row V g)[v]? = none := List.getElem?_eq_none (by rw [row_length]; exact h)
theorem row_getD (V : Nat) (g : Nat → β) (v : Nat) (h : v < V) (d : β) : (row V g).getD v d = g v := by
 rw [List.getD_eq_getElem?_getD, row_get? V g v h]; rfl
theorem row_get (V : Nat) (g : Nat → β) (v : Nat) (h : v < (row V g).length) : (row V g)[v] = g v := by simp [row]
theorem row_ext {V : Nat} {g g' : Nat → β} (h : ∀ v, v < V → g v = g' v) : row V g = row V g' := by
 unfold row
 exact List.map_congr_left (fun v hv => h v (List.mem_range.1 hv))
theorem row_set (V : Nat) (g : Nat → β) (v : Nat) (x : β) : (row V g).set v x = row V (fun u => if u = v then x else g u) := by
 apply List.ext_getElem?
 intro i
 rcases Nat.lt_or_ge i V with hi | hi
 ·rw [List.getElem?_set, row_get? _ _ _ hi, row_length]
  by_cases e : v = i
  ·subst e; simp [hi, row_get? _ _ _ hi]
  ·rw [if_neg e, row_get? _ _ _ hi, if_neg (Ne.symm e)]
 ·rw [row_none _ _ _ hi, List.getElem?_eq_none (by rw [List.length_set, row_length]; exact hi)]
theorem row_snoc (V : Nat) (g : Nat → β) : row V g ++ [g V] = row (V + 1) g := by
 unfold row
 rw [List.range_succ, List.map_append]; rfl
end
theorem mat_length (H V : Nat) (f : Nat → Nat → Int) : (mat H V f).length = H := row_length _ _
theorem mat_ext {H V : Nat} {f f' : Nat → Nat → Int} (h : ∀ a v, a < H → v < V → f a v = f' a v) : mat H V f = mat H V f' := row_ext fun a ha => row_ext fun v hv => h a v ha hv
theorem mat_set (H V : Nat) (f : Nat → Nat → Int) (a : Nat) (g : Nat → Int) : (mat H V f).set a (row V g) = mat H V (fun u => if u = a then g else f u) := by
 unfold mat
 rw [row_set]
 refine row_ext fun u _ => ?_
 by_cases e : u = a
 ·simp only [e, if_true]
 ·simp only [e, if_false]
theorem mat_put (H V : Nat) (f : Nat → Nat → Int) (a v : Nat) (x : Int) : (mat H V f).set a ((row V (f a)).set v x) = mat H V (fun u w => if u = a ∧ w = v then x else f u w) := by
 rw [row_set, mat_set]
 refine mat_ext fun u w _ _ => ?_
 by_cases e : u = a
 ·subst e
  by_cases e2 : w = v <;> simp [e2]
 ·simp [e]
theorem row_replicate {β : Type} (V : Nat) (x : β) : List.replicate V x = row V (fun _ => x) := by
 unfold row
 apply List.ext_getElem?
 intro i
 rcases Nat.lt_or_ge i V with hi | hi
 ·rw [List.getElem?_replicate, if_pos hi, List.getElem?_map, List.getElem?_range hi]; rfl
 ·rw [List.getElem?_replicate, if_neg (by omega), List.getElem?_eq_none (by simpa using hi)]
theorem sorted_ext {α : Type} {lt : α → α → Prop} (irr : ∀ x, ¬ lt x x) (asym : ∀ x y, lt x y → ¬ lt y x) : ∀ {a b : List α}, a.Pairwise lt → b.Pairwise lt → (∀ x, x ∈ a ↔ x ∈ b) → a = b
 | [], [], _, _, _ => rfl
 | [], y :: b, _, _, h => absurd ((h y).2 List.mem_cons_self) (by simp)
 | x :: a, [], _, _, h => absurd ((h x).1 List.mem_cons_self) (by simp)
 | x :: a, y :: b, ha, hb, h => by
  rw [List.pairwise_cons] at ha hb
  have hxy : x = y := by
   rcases List.mem_cons.1 ((h x).1 List.mem_cons_self) with e | hx
   ·exact e
   ·rcases List.mem_cons.1 ((h y).2 List.mem_cons_self) with e | hy
    ·exact e.symm
    ·exact absurd (ha.1 y hy) (asym _ _ (hb.1 x hx))
  subst hxy
  rw [sorted_ext irr asym ha.2 hb.2 (fun z => by
   constructor
   ·intro hz
    rcases List.mem_cons.1 ((h z).1 (List.mem_cons_of_mem _ hz)) with e | hz'
    ·exact absurd (ha.1 z hz) (by rw [e]; exact irr _)
    ·exact hz'
   ·intro hz
    rcases List.mem_cons.1 ((h z).2 (List.mem_cons_of_mem _ hz)) with e | hz'
    ·exact absurd (hb.1 z hz) (by rw [e]; exact irr _)
    ·exact hz')]
section
variable {α κ : Type} [DecidableEq κ]
def once : List κ → List κ → List κ
 | acc, [] => acc
 | acc, k :: r => once (if k ∈ acc then acc else acc ++ [k]) r
def keysOf (key : α → κ) (l : List α) : List κ := once [] (l.map key)
theorem once_append (acc a b : List κ) : once acc (a ++ b) = once (once acc a) b := by
 induction a generalizing acc with
 | nil => rfl
 | cons x a ih => simp only [List.cons_append, once]; exact ih _
theorem keysOf_snoc (key : α → κ) (l : List α) (x : α) : keysOf key (l ++ [x]) = if key x ∈ keysOf key l then keysOf key l else keysOf key l ++ [key x] := by
 unfold keysOf
 rw [List.map_append, once_append]
 rfl
theorem mem_once (acc l : List κ) (k : κ) : k ∈ once acc l ↔ k ∈ acc ∨ k ∈ l := by
 induction l generalizing acc with
 | nil => simp [once]
 | cons x l ih =>
  simp only [once]
  rw [ih]
  split
  ·rename_i h
   constructor
   ·rintro (h1 | h1)
    ·exact .inl h1
    ·exact .inr (List.mem_cons_of_mem _ h1)
   ·rintro (h1 | h1)
    ·exact .inl h1
    ·rcases List.mem_cons.1 h1 with rfl | h2
     ·exact .inl h
     ·exact .inr h2
  ·constructor
   ·rintro (h1 | h1)
    ·rcases List.mem_append.1 h1 with h1 | h1
     ·exact .inl h1
     ·rw [List.mem_singleton.1 h1]; exact .inr List.mem_cons_self
    ·exact .inr (List.mem_cons_of_mem _ h1)
   ·rintro (h1 | h1)
    ·exact .inl (List.mem_append_left _ h1)
    ·rcases List.mem_cons.1 h1 with rfl | h2
     ·exact .inl (List.mem_append_right _ (List.mem_singleton.2 rfl))
     ·exact .inr h2
theorem nodup_once (acc l : List κ) (h : acc.Nodup) : (once acc l).Nodup := by
 induction l generalizing acc with
 | nil => exact h
 | cons x l ih =>
  simp only [once]
  refine ih _ ?_
  split
  ·exact h
  ·rename_i hx
   rw [List.nodup_append]
   refine ⟨h, by simp, ?_⟩
   intro a ha b hb
   rw [List.mem_singleton.1 hb]
   rintro rfl
   exact hx ha
theorem mem_keysOf (key : α → κ) (l : List α) (k : κ) : k ∈ keysOf key l ↔ ∃ x ∈ l, key x = k := by
 unfold keysOf
 rw [mem_once]
 simp [eq_comm]
theorem once_length_le (acc l : List κ) : (once acc l).length ≤ acc.length + l.length := by
 induction l generalizing acc with
 | nil => simp [once]
 | cons x l ih =>
  simp only [once]
  refine Nat.le_trans (ih _) ?_
  split
  ·simp only [List.length_cons]; omega
  ·simp only [List.length_append, List.length_cons, List.length_nil]; omega
theorem keysOf_length_le (key : α → κ) (l : List α) : (keysOf key l).length ≤ l.length := by
 have := once_length_le [] (l.map key)
 rw [List.length_map] at this
 unfold keysOf
 simpa using this
theorem nodup_keysOf (key : α → κ) (l : List α) : (keysOf key l).Nodup := nodup_once _ _ List.nodup_nil
def idxFrom (key : α → κ) (k : κ) : Nat → List α → List Int
 | _, [] => []
 | i, x :: r => if key x = k then (i : Int) :: idxFrom key k (i + 1) r else idxFrom key k (i + 1) r
def idxs (key : α → κ) (l : List α) (k : κ) : List Int := idxFrom key k 0 l
theorem idxFrom_append (key : α → κ) (k : κ) (i : Nat) (a b : List α) : idxFrom key k i (a ++ b) = idxFrom key k i a ++ idxFrom key k (i + a.length) b := by
 induction a generalizing i with
 | nil => simp [idxFrom]
 | cons x a ih =>
  simp only [List.cons_append, idxFrom, ih, List.length_cons]
  rw [show i + 1 + a.length = i + (a.length + 1) by omega]
  split <;> simp
theorem idxs_snoc (key : α → κ) (l : List α) (x : α) (k : κ) : idxs key (l ++ [x]) k = if key x = k then idxs key l k ++ [(l.length : Int)] else idxs key l k := by
 unfold idxs
 rw [idxFrom_append]
 simp only [idxFrom, Nat.zero_add]
 split <;> simp
theorem idxs_fresh (key : α → κ) (l : List α) (k : κ) (h : ∀ x ∈ l, key x ≠ k) : idxs key l k = [] := by
 suffices H : ∀ (l : List α) (i : Nat), (∀ x ∈ l, key x ≠ k) → idxFrom key k i l = [] from H l 0 h
 intro l
 induction l with
 | nil => intro i _; rfl
 | cons x l ih =>
  intro i h
  rw [idxFrom, if_neg (h x List.mem_cons_self)]
  exact ih _ (fun y hy => h y (List.mem_cons_of_mem _ hy))
theorem idxFrom_bd (key : α → κ) (k : κ) (l : List α) (i : Nat) : ∀ j ∈ idxFrom key k i l, (i : Int) ≤ j ∧ j < (i : Int) + (l.length : Int) := by
 induction l generalizing i with
 | nil => intro j hj; cases hj
 | cons x l ih =>
  intro j hj
  rw [idxFrom] at hj
  simp only [List.length_cons]
  split at hj
  ·rcases List.mem_cons.1 hj with rfl | hj
   ·omega
   ·have := ih (i + 1) j hj; omega
  ·have := ih (i + 1) j hj; omega
theorem idxs_bd (key : α → κ) (l : List α) (k : κ) : ∀ j ∈ idxs key l k, 0 ≤ j ∧ j < (l.length : Int) := by
 intro j hj
 have := idxFrom_bd key k l 0 j hj
 omega
theorem idxFrom_key (key : α → κ) (k : κ) (d : α) (pre l : List α) : ∀ j ∈ idxFrom key k pre.length l, key ((pre ++ l).getD j.toNat d) = k := by
 induction l generalizing pre with
 | nil => intro j hj; cases hj
 | cons x l ih =>
  intro j hj
  have e : pre ++ x :: l = (pre ++ [x]) ++ l := by simp
  have hi : ∀ j ∈ idxFrom key k (pre.length + 1) l, key ((pre ++ x :: l).getD j.toNat d) = k := by
   intro j hj
   rw [e]
   exact ih (pre ++ [x]) j (by simpa using hj)
  rw [idxFrom] at hj
  split at hj
  ·rename_i hk
   rcases List.mem_cons.1 hj with rfl | hj
   ·simp [List.getD_eq_getElem?_getD, hk]
   ·exact hi j hj
  ·exact hi j hj
theorem idxs_key (key : α → κ) (l : List α) (k : κ) (d : α) : ∀ j ∈ idxs key l k, key (l.getD j.toNat d) = k := fun j hj => idxFrom_key key k d [] l j hj
theorem idxFrom_length (key : α → κ) (k : κ) (l : List α) (i : Nat) : (idxFrom key k i l).length = (l.filter (fun x => decide (key x = k))).length := by
 induction l generalizing i with
 | nil => rfl
 | cons x l ih =>
  rw [idxFrom, List.filter_cons]
  by_cases h : key x = k
  ·simp [h, ih]
  ·simp [h, ih]
theorem idxs_length_le (key : α → κ) (l : List α) (k : κ) : (idxs key l k).length ≤ l.length := by
 unfold idxs
 rw [idxFrom_length]
 exact List.length_filter_le _ _
theorem idxs_ne (key : α → κ) (l : List α) (k : κ) (h : ∃ x ∈ l, key x = k) : idxs key l k ≠ [] := by
 obtain ⟨x, hx, hk⟩ := h
 intro e
 have := idxFrom_length key k l 0
 rw [show idxFrom key k 0 l = [] from e] at this
 have h2 : x ∈ l.filter (fun x => decide (key x = k)) := by simp [hx, hk]
 rw [List.eq_nil_of_length_eq_zero this.symm] at h2
 cases h2
def sumK (key : α → κ) (val : α → Int) (l : List α) (k : κ) : Int := ((l.filter (fun x => decide (key x = k))).map val).sum
theorem sumK_cons (key : α → κ) (val : α → Int) (x : α) (l : List α) (k : κ) : sumK key val (x :: l) k = (if key x = k then val x else 0) + sumK key val l k := by
 unfold sumK
 rw [List.filter_cons]
 by_cases h : key x = k
 ·simp [h]
 ·simp [h]
theorem idxFrom_vals (key : α → κ) (val : α → Int) (k : κ) (d : α) (pre l : List α) : (idxFrom key k pre.length l).map (fun j => val ((pre ++ l).getD j.toNat d)) = (l.filter (fun x => decide (key x = k))).map val := by
 induction l generalizing pre with
 | nil => rfl
 | cons x l ih =>
  have e : pre ++ x :: l = (pre ++ [x]) ++ l := by simp
  have hi := ih (pre ++ [x])
  rw [List.length_append, List.length_singleton, ← e] at hi
  rw [idxFrom, List.filter_cons]
  by_cases h : key x = k
  ·simp only [h, if_true, decide_true, List.map_cons, hi]
   congr 1
   simp [List.getD_eq_getElem?_getD]
  ·simp only [h, if_false, decide_false, hi, Bool.false_eq_true]
theorem idxs_vals (key : α → κ) (val : α → Int) (l : List α) (k : κ) (d : α) : (idxs key l k).map (fun j => val (l.getD j.toNat d)) = (l.filter (fun x => decide (key x = k))).map val := idxFrom_vals key val k d [] l
end
section
variable {α κ : Type} [DecidableEq κ]
def groups (key : α → κ) (l : List α) : List (List Int) := (keysOf key l).map (idxs key l)
theorem groups_length (key : α → κ) (l : List α) : (groups key l).length = (keysOf key l).length := by simp [groups]
omit [DecidableEq κ] in
theorem nodup_at {l : List κ} (h : l.Nodup) {i j : Nat} {k : κ} (hi : l[i]? = some k) (hj : l[j]? = some k) : i = j := by
 obtain ⟨hi1, hi2⟩ := List.getElem?_eq_some_iff.1 hi
 obtain ⟨hj1, hj2⟩ := List.getElem?_eq_some_iff.1 hj
 rcases Nat.lt_trichotomy i j with hlt | rfl | hlt
 ·exact absurd (hi2.trans hj2.symm) (List.pairwise_iff_getElem.1 h i j hi1 hj1 hlt)
 ·rfl
 ·exact absurd (hj2.trans hi2.symm) (List.pairwise_iff_getElem.1 h j i hj1 hi1 hlt)
theorem groups_old (key : α → κ) (p : List α) (x : α) (j : Nat) (hj : (keysOf key p)[j]? = some (key x)) :
 (groups key p).set j (idxs key p (key x) ++ [(p.length : Int)]) = groups key (p ++ [x]) := by
 have hm : key x ∈ keysOf key p := List.mem_of_getElem? hj
 unfold groups
 rw [keysOf_snoc, if_pos hm]
 apply List.ext_getElem?
 intro i
 rw [List.getElem?_set, List.getElem?_map, List.getElem?_map, List.length_map]
 by_cases e : j = i
 ·subst e
  have hlt := (List.getElem?_eq_some_iff.1 hj).1
  rw [if_pos rfl, if_pos hlt, hj]
  simp only [Option.map_some]
  rw [idxs_snoc, if_pos rfl]
 ·rw [if_neg e]
  cases hi : (keysOf key p)[i]? with
  | none => rfl
  | some k =>
   simp only [Option.map_some]
   rw [idxs_snoc, if_neg]
   rintro rfl
   exact e (nodup_at (nodup_keysOf key p) hj hi)
theorem groups_new (key : α → κ) (p : List α) (x : α) (h : key x ∉ keysOf key p) : groups key p ++ [[(p.length : Int)]] = groups key (p ++ [x]) := by
 unfold groups
 rw [keysOf_snoc, if_neg h, List.map_append, List.map_singleton]
 congr 1
 ·apply List.map_congr_left
  intro k hk
  rw [idxs_snoc, if_neg]
  rintro rfl
  exact h hk
 ·rw [idxs_snoc, if_pos rfl, idxs_fresh key p (key x) (fun y hy e => h ((mem_keysOf key p _).2 ⟨y, hy, e⟩))]
  rfl
theorem groups_get (key : α → κ) (p : List α) (j : Nat) (k : κ) (hj : (keysOf key p)[j]? = some k) : (groups key p)[j]? = some (idxs key p k) := by
 unfold groups
 rw [List.getElem?_map, hj]; rfl
end
end Go.Proofs.Ytfhkkbpkajfdlaa.P
end
section
namespace Go.Proofs.Ytfhkkbpkajfdlaa.P
open Go.RowKit Go.Proofs.Ytfhkkbpkajfdlaa.Q Go.Proofs.YtfhkkbpkajfdlaaW.PrintWords
theorem wf_i64 {n : Int} (h0 : -9223372036854775808 ≤ n) (h1 : n ≤ 9223372036854775807) : (Lit.int .i64 n).wf = true := by
 simp [Lit.wf, IntKind.min, IntKind.max, IntKind.bits, IntKind.signed]
 omega
def keyM (x : S85) : (Int × Int) := (x.f0, x.f1)
def LogOkM (es : List ((Int × Int) × Int)) (p : List S85) : Prop := (∀ k n, lookM es k = some n ↔ ∃ j : Nat, (keysOf keyM p)[j]? = some k ∧ n = (j : Int)) ∧ es.length ≤ p.length
theorem logOkM_nil : LogOkM [] [] := ⟨fun k n => by simp [lookM, keysOf, once], Nat.le_refl _⟩
theorem gatherM_loop (l : List S85) (hlen : l.length ≤ 1048576) (hw : ∀ x ∈ l, good2 (keyM x) = true) (d : Nat) : ∀ (i k : Nat) (es : List ((Int × Int) × Int)), i + d = l.length → d < k → LogOkM es (l.take i) →
 api_Move_2_int.l0 k (groups keyM (l.take i)) es l (l.length : Int) (i : Int) = some (groups keyM l) := by
 induction d with
 | zero =>
  intro i k es hi hk hes
  obtain ⟨k, rfl⟩ : ∃ m, k = m + 1 := ⟨k - 1, by omega⟩
  rw [api_Move_2_int.l0, if_neg (by omega), List.take_of_length_le (by omega)]
 | succ d ih =>
  intro i k es hi hk hes
  obtain ⟨k, rfl⟩ : ∃ m, k = m + 1 := ⟨k - 1, by omega⟩
  have hlt : i < l.length := by omega
  have hr : rd_T85 l (i : Int) = l[i] := by unfold rd_T85; simp [List.getD_eq_getElem?_getD, List.getElem?_eq_getElem hlt]
  have hgood := hw l[i] (List.getElem_mem hlt)
  have htl : (l.take i).length = i := by rw [List.length_take]; omega
  have hkl : (keysOf keyM (l.take i)).length ≤ i := by
   have h1 := keysOf_length_le keyM (l.take i)
   omega
  have hstep : l.take (i + 1) = l.take i ++ [l[i]] := List.take_succ_eq_append_getElem hlt
  have hwrap : wrap64 ((i : Int) + 1) = ((i + 1 : Nat) : Int) := by unfold wrap64; omega
  have hlook : lookF good2 es (keyM l[i]) = some ((lookM es (keyM l[i])).getD 0, (lookM es (keyM l[i])).isSome) := by unfold lookF; rw [if_pos hgood]
  rw [api_Move_2_int.l0, if_pos (by omega), if_pos (by omega), if_pos (by omega), hr]
  simp only [table_Moves_1.f, Option.bind_some]
  rw [show ((l[i].f0, l[i].f1) : (Int × Int)) = keyM l[i] from rfl, hlook]
  simp only [Option.bind_some]
  cases hL : lookM es (keyM l[i]) with
  | some n =>
   obtain ⟨j, hj, rfl⟩ := (hes.1 _ _).1 hL
   have hjl := (List.getElem?_eq_some_iff.1 hj).1
   have hrd : rd_L3 (groups keyM (l.take i)) (j : Int) = idxs keyM (l.take i) (keyM l[i]) := by
    unfold rd_L3
    rw [Int.toNat_natCast, List.getD_eq_getElem?_getD, groups_get _ _ _ _ hj]; rfl
   have hle := idxs_length_le keyM (l.take i) (keyM l[i])
   simp only [Option.getD_some, Option.isSome_some, if_true]
   rw [if_pos (by omega), if_pos (by rw [groups_length]; omega), hrd, if_pos (by omega), Int.toNat_natCast, hwrap]
   have e := groups_old keyM (l.take i) l[i] j hj
   rw [htl] at e
   rw [e, ← hstep]
   refine ih (i + 1) k es (by omega) (by omega) ⟨fun k' n' => ?_, by rw [hstep, List.length_append]; have := hes.2; omega⟩
   rw [hstep, keysOf_snoc, if_pos (List.mem_of_getElem? hj)]
   exact hes.1 k' n'
  | none =>
   have hno : keyM l[i] ∉ keysOf keyM (l.take i) := by
    intro hm
    obtain ⟨j, hj⟩ := List.getElem?_of_mem hm
    have := (hes.1 (keyM l[i]) (j : Int)).2 ⟨j, hj, rfl⟩
    rw [hL] at this
    cases this
   have hput : putF good2 es (keyM l[i]) ((groups keyM (l.take i)).length : Int) = some (es ++ [(keyM l[i], ((groups keyM (l.take i)).length : Int))]) := by
    have hwf : (Lit.int .i64 ((groups keyM (l.take i)).length : Int)).wf = true := wf_i64 (by omega) (by rw [groups_length]; omega)
    unfold putF
    rw [if_pos ⟨hgood, hwf, by have := hes.2; omega⟩]
   have hgl : ((groups keyM (l.take i)).length : Int) = ((keysOf keyM (l.take i)).length : Int) := by rw [groups_length]
   have hrd : rd_L3 (groups keyM (l.take i) ++ [[]]) ((groups keyM (l.take i)).length : Int) = [] := by
    unfold rd_L3
    rw [Int.toNat_natCast, List.getD_eq_getElem?_getD, List.getElem?_append_right (Nat.le_refl _)]; simp
   simp only [Option.getD_none, Option.isSome_none, Bool.false_eq_true, if_false]
   rw [hput]
   simp only [Option.bind_some]
   rw [if_pos (by rw [groups_length]; omega), if_pos (by omega), if_pos (by rw [List.length_append, List.length_singleton]; omega), hrd, if_pos (by decide), Int.toNat_natCast, hwrap]
   have e : (groups keyM (l.take i) ++ [[]]).set (groups keyM (l.take i)).length ([] ++ [(i : Int)]) = groups keyM (l.take (i + 1)) := by
    rw [hstep, ← groups_new _ _ _ hno, htl, List.set_append_right _ _ (Nat.le_refl _)]
    simp
   rw [e]
   refine ih (i + 1) k _ (by omega) (by omega) ⟨fun k' n' => ?_, by rw [hstep, List.length_append, List.length_append]; have := hes.2; simp; omega⟩
   rw [hstep, keysOf_snoc, if_neg hno, lookM_snoc, groups_length]
   by_cases ek : keyM l[i] = k'
   ·rw [if_pos ek]
    subst ek
    constructor
    ·intro h
     injection h with h
     exact ⟨(keysOf keyM (l.take i)).length, by simp, h.symm⟩
    ·rintro ⟨j, hj, rfl⟩
     rcases Nat.lt_trichotomy j (keysOf keyM (l.take i)).length with h1 | h1 | h1
     ·rw [List.getElem?_append_left h1] at hj
      exact absurd (List.mem_of_getElem? hj) hno
     ·rw [h1]
     ·rw [List.getElem?_eq_none (by rw [List.length_append, List.length_singleton]; omega)] at hj
      cases hj
   ·rw [if_neg ek, hes.1]
    constructor
    ·rintro ⟨j, hj, rfl⟩
     exact ⟨j, by rw [List.getElem?_append_left (List.getElem?_eq_some_iff.1 hj).1]; exact hj, rfl⟩
    ·rintro ⟨j, hj, rfl⟩
     rcases Nat.lt_trichotomy j (keysOf keyM (l.take i)).length with h1 | h1 | h1
     ·rw [List.getElem?_append_left h1] at hj
      exact ⟨j, hj, rfl⟩
     ·rw [h1] at hj
      simp at hj
      exact absurd hj ek
     ·rw [List.getElem?_eq_none (by rw [List.length_append, List.length_singleton]; omega)] at hj
      cases hj
theorem gatherM_eq (l : List S85) (hlen : l.length ≤ 1048576) (hw : ∀ x ∈ l, good2 (keyM x) = true) {k : Nat} (hk : l.length < k) : api_Move_2_int.f k l = some (groups keyM l) := by
 have h := gatherM_loop l hlen hw l.length 0 k [] (by omega) hk logOkM_nil
 exact h
def mlt (a b : S85) : Prop := a.f1 < b.f1 ∨ a.f1 = b.f1 ∧ a.f0 < b.f0
instance (a b : S85) : Decidable (mlt a b) := by unfold mlt; exact inferInstance
def msum (l : List S85) (k : Int × Int) : Int := sumK keyM S85.f2 l k
def fits (n : Int) : Prop := -9223372036854775808 ≤ n ∧ n ≤ 9223372036854775807
instance (n : Int) : Decidable (fits n) := by unfold fits; exact inferInstance
def AllFit (l : List S85) : Prop := ∀ k ∈ keysOf keyM l, fits (msum l k)
instance (l : List S85) : Decidable (AllFit l) := by unfold AllFit; exact inferInstance
structure IsMerge (l r : List S85) : Prop where
 sorted : r.Pairwise mlt
 mem : ∀ m, m ∈ r ↔ keyM m ∈ keysOf keyM l ∧ m.f2 = msum l (keyM m) ∧ m.f2 ≠ 0
theorem mlt_irrefl (x : S85) : ¬ mlt x x := by unfold mlt; omega
theorem mlt_asym (x y : S85) (h : mlt x y) : ¬ mlt y x := by unfold mlt at *; omega
theorem isMerge_unique {l r r' : List S85} (h : IsMerge l r) (h' : IsMerge l r') : r = r' :=
 sorted_ext mlt_irrefl mlt_asym h.sorted h'.sorted (fun x => by rw [h.mem, h'.mem])
theorem s85_ext {x y : S85} (h0 : x.f0 = y.f0) (h1 : x.f1 = y.f1) (h2 : x.f2 = y.f2) : x = y := by
 cases x; cases y; simp_all
theorem isMerge_congr {l l' r : List S85} (hk : ∀ k, k ∈ keysOf keyM l ↔ k ∈ keysOf keyM l') (hs : ∀ k, k ∈ keysOf keyM l → msum l k = msum l' k) (h : IsMerge l r) : IsMerge l' r :=
 ⟨h.sorted, fun m => by
  rw [h.mem, hk]
  constructor
  ·rintro ⟨h1, h2, h3⟩; exact ⟨h1, by rw [h2, hs _ ((hk _).2 h1)], h3⟩
  ·rintro ⟨h1, h2, h3⟩; exact ⟨h1, by rw [h2, hs _ ((hk _).2 h1)], h3⟩⟩
theorem sorted_keys {r : List S85} (h : r.Pairwise mlt) : (r.map keyM).Nodup := by
 rw [List.Nodup, List.pairwise_map]
 refine h.imp ?_
 intro a b hab e
 unfold keyM at e
 have e0 := congrArg Prod.fst e
 have e1 := congrArg Prod.snd e
 simp only at e0 e1
 unfold mlt at hab
 omega
theorem msum_nodup {r : List S85} (h : (r.map keyM).Nodup) {m : S85} (hm : m ∈ r) : msum r (keyM m) = m.f2 := by
 induction r with
 | nil => cases hm
 | cons x r ih =>
  rw [List.map_cons, List.nodup_cons] at h
  unfold msum
  rw [sumK_cons]
  rcases List.mem_cons.1 hm with rfl | hm'
  ·have hz : ∀ (r : List S85) (k : Int × Int), k ∉ r.map keyM → sumK keyM S85.f2 r k = 0 := by
    intro r k hk
    unfold sumK
    rw [List.filter_eq_nil_iff.2 (fun y hy => by
     simp only [decide_eq_true_eq]
     intro e
     exact hk (List.mem_map.2 ⟨y, hy, e⟩))]
    rfl
   rw [hz r _ h.1]
   simp
  ·have hne : keyM x ≠ keyM m := fun e => h.1 (e ▸ List.mem_map_of_mem hm')
   rw [if_neg hne, Int.zero_add]
   exact ih h.2 hm'
def wsum (c : Int × Int → Int) (l : List S85) : Int := (l.map fun x => c (keyM x) * x.f2).sum
theorem wsum_cons (c : Int × Int → Int) (x : S85) (l : List S85) : wsum c (x :: l) = c (keyM x) * x.f2 + wsum c l := by unfold wsum; simp
theorem wsum_append (c : Int × Int → Int) (a b : List S85) : wsum c (a ++ b) = wsum c a + wsum c b := by unfold wsum; simp
theorem wsum_nil (c : Int × Int → Int) : wsum c [] = 0 := rfl
theorem sum_zero {α : Type} (K : List α) (f : α → Int) (h : ∀ k ∈ K, f k = 0) : (K.map f).sum = 0 := by
 induction K with
 | nil => rfl
 | cons x K ih => rw [List.map_cons, List.sum_cons, h x List.mem_cons_self, ih (fun k hk => h k (List.mem_cons_of_mem _ hk))]; rfl
theorem sum_add {α : Type} (K : List α) (f g : α → Int) : (K.map fun k => f k + g k).sum = (K.map f).sum + (K.map g).sum := by
 induction K with
 | nil => rfl
 | cons x K ih => simp only [List.map_cons, List.sum_cons, ih]; omega
theorem wsum_congr {c c' : Int × Int → Int} {l : List S85} (h : ∀ x ∈ l, c (keyM x) = c' (keyM x)) : wsum c l = wsum c' l := by
 unfold wsum
 congr 1
 exact List.map_congr_left fun x hx => by rw [h x hx]
theorem wsum_add (c c' : Int × Int → Int) (l : List S85) : wsum (fun k => c k + c' k) l = wsum c l + wsum c' l := by
 unfold wsum
 rw [← sum_add]
 congr 1
 exact List.map_congr_left fun x _ => by rw [Int.add_mul]
theorem wsum_zero {c : Int × Int → Int} {l : List S85} (h : ∀ x ∈ l, c (keyM x) = 0) : wsum c l = 0 := by
 unfold wsum
 exact sum_zero _ _ fun x hx => by rw [h x hx, Int.zero_mul]
theorem wsum_bd {c : Int × Int → Int} {l : List S85} {B : Int} (hB : 0 ≤ B) (hc : ∀ x ∈ l, -1 ≤ c (keyM x) ∧ c (keyM x) ≤ 1) (hn : ∀ x ∈ l, 0 ≤ x.f2 ∧ x.f2 ≤ B) : -(B * l.length) ≤ wsum c l ∧ wsum c l ≤ B * l.length := by
 induction l with
 | nil => simp [wsum_nil]
 | cons x l ih =>
  have hi := ih (fun y hy => hc y (List.mem_cons_of_mem _ hy)) (fun y hy => hn y (List.mem_cons_of_mem _ hy))
  have h1 := hc x List.mem_cons_self
  have h2 := hn x List.mem_cons_self
  rw [wsum_cons, List.length_cons]
  have e : B * ((l.length + 1 : Nat) : Int) = B * (l.length : Int) + B := by rw [Int.natCast_add, Int.mul_add]; simp
  rw [e]
  have h3 : c (keyM x) = -1 ∨ c (keyM x) = 0 ∨ c (keyM x) = 1 := by omega
  rcases h3 with h3 | h3 | h3 <;> rw [h3] <;> omega
end Go.Proofs.Ytfhkkbpkajfdlaa.P
end
section
namespace Go.Proofs.Ytfhkkbpkajfdlaa.P
open Go.Sort hiding rd
open Go.RowKit Go.Proofs.Ytfhkkbpkajfdlaa.Q Go.Proofs.YtfhkkbpkajfdlaaW.PrintWords Go.Proofs.YtfhkkbpkajfdlaaW.PrintLast Go.Proofs.YtfhkkbpkajfdlaaW.PrintMore
theorem ev_const {α : Type} {g : Nat → Option α} {r : α} (h : ∀ k, g (k + 1) = some r) : Ev g r := Ev.step h (Ev.now r)
def OkM (x : S85) : Prop := fits x.f0 ∧ fits x.f1 ∧ fits x.f2
theorem w1 {i : Nat} (h : i ≤ 4611686018427387904) : wrap64 ((i : Int) + 1) = ((i + 1 : Nat) : Int) := by unfold wrap64; omega
theorem rd_row {V : Nat} {g : Nat → Int} {i : Nat} (h : i < V) : rd (row V g) (i : Int) = g i := by unfold rd; rw [Int.toNat_natCast, row_getD _ _ _ h]
theorem rd_of {l : List Int} {i : Nat} (h : i < l.length) : rd l (i : Int) = l[i] := by unfold rd; simp [List.getD_eq_getElem?_getD, List.getElem?_eq_getElem h]
theorem rdM_of {l : List S85} {i : Nat} (h : i < l.length) : rd_T85 l (i : Int) = l[i] := by unfold rd_T85; simp [List.getD_eq_getElem?_getD, List.getElem?_eq_getElem h]
theorem rdL_of {l : List (List Int)} {i : Nat} (h : i < l.length) : rd_L3 l (i : Int) = l[i] := by unfold rd_L3; simp [List.getD_eq_getElem?_getD, List.getElem?_eq_getElem h]
theorem total_ev (l : List S85) (g : List Int) (hg : ∀ j ∈ g, 0 ≤ j ∧ j < (l.length : Int)) (hlen : g.length ≤ 1048576) (hl : ∀ x ∈ l, fits x.f2) :
 Ev (fun k => api_Move_76.f k l g) (sumFit ((g.map fun j => (l.getD j.toNat z85).f2).sum)) := by
 have hloop : ∀ (d i : Nat), i + d = g.length → Ev (fun k => api_Move_76.l0 k l (row g.length (fun j => if j < i then (rd_T85 l (g.getD j 0)).f2 else 0)) g (g.length : Int) (i : Int)) (sumFit ((g.map fun j => (l.getD j.toNat z85).f2).sum)) := by
  intro d
  induction d with
  | zero =>
   intro i hi
   have e : row g.length (fun j => if j < i then (rd_T85 l (g.getD j 0)).f2 else 0) = g.map fun j => (l.getD j.toNat z85).f2 := by
    apply List.ext_getElem?
    intro j
    rcases Nat.lt_or_ge j g.length with hj | hj
    ·rw [row_get? _ _ _ hj, if_pos (by omega), List.getElem?_map, List.getElem?_eq_getElem hj, List.getD_eq_getElem?_getD, List.getElem?_eq_getElem hj]; rfl
    ·rw [row_none _ _ _ hj, List.getElem?_eq_none (by rw [List.length_map]; exact hj)]
   have hs : checked_Sum.f (g.map fun j => (l.getD j.toNat z85).f2) = some (sumFit ((g.map fun j => (l.getD j.toNat z85).f2).sum)) := by
    refine csum_eq (by rw [List.length_map]; omega) (fun x hx => ?_)
    obtain ⟨j, hj, rfl⟩ := List.mem_map.1 hx
    have h1 := hg j hj
    have h2 : j.toNat < l.length := by omega
    rw [List.getD_eq_getElem?_getD, List.getElem?_eq_getElem h2]
    exact hl _ (List.getElem_mem h2)
   exact ev_const fun k => by rw [api_Move_76.l0, if_neg (by omega), e, hs]; rfl
  | succ d ih =>
   intro i hi
   have hlt : i < g.length := by omega
   have h1 := hg g[i] (List.getElem_mem hlt)
   have hlen2 := row_length g.length (fun j => if j < i then (rd_T85 l (g.getD j 0)).f2 else 0)
   refine Ev.step (fun k => ?_) (ih (i + 1) (by omega))
   rw [api_Move_76.l0, if_pos (by omega), if_pos (by omega), if_pos (by omega), rd_of hlt, if_pos h1.1, if_pos h1.2]
   simp only [table_Moves_2.f, Option.bind_some]
   rw [if_pos (by rw [hlen2]; omega), Int.toNat_natCast, row_set, w1 (by omega)]
   congr 1
   refine row_ext fun j hj => ?_
   by_cases c : j = i
   ·subst c
    rw [if_pos rfl, if_pos (by omega), List.getD_eq_getElem?_getD, List.getElem?_eq_getElem hlt]; rfl
   ·rw [if_neg c]
    by_cases c2 : j < i
    ·rw [if_pos c2, if_pos (by omega)]
    ·rw [if_neg c2, if_neg (by omega)]
 have h0 := hloop g.length 0 (by omega)
 refine Ev.congr (fun k => ?_) h0
 have e : row g.length (fun j => if j < 0 then (rd_T85 l (g.getD j 0)).f2 else 0) = row g.length (fun _ => (0 : Int)) := row_ext fun j _ => by rw [if_neg (by omega)]
 rw [e]
 unfold api_Move_76.f
 rw [if_pos (by omega), if_pos (by omega), Int.toNat_natCast, row_replicate]
 rfl
def rawOf (l : List S85) (K : List (Int × Int)) : List S85 := K.filterMap fun k => if msum l k = 0 then none else some ⟨k.1, k.2, msum l k⟩
noncomputable def mergeL (l : List S85) : List S85 := srtL cfMove (rawOf l (keysOf keyM l))
noncomputable def mergeR (l : List S85) : List S85 × Int := if AllFit l then (mergeL l, 0) else ([], 10)
theorem sumFit_pos {n : Int} (h : fits n) : sumFit n = (n, true) := by unfold sumFit; exact if_pos h
theorem sumFit_neg {n : Int} (h : ¬ fits n) : sumFit n = (0, false) := by unfold sumFit; exact if_neg h
theorem total_group (l : List S85) (hlen : l.length ≤ 1048576) (hl : ∀ x ∈ l, OkM x) (k : Int × Int) : Ev (fun n => api_Move_76.f n l (idxs keyM l k)) (sumFit (msum l k)) := by
 have h := total_ev l (idxs keyM l k) (idxs_bd keyM l k) (Nat.le_trans (idxs_length_le keyM l k) hlen) (fun x hx => (hl x hx).2.2)
 rw [idxs_vals keyM S85.f2 l k z85] at h
 exact h
theorem rawOf_length (l : List S85) (K : List (Int × Int)) : (rawOf l K).length ≤ K.length := List.length_filterMap_le _ _
def FitAll (l : List S85) (K : List (Int × Int)) : Prop := ∀ k ∈ K, fits (msum l k)
noncomputable instance (l : List S85) (K : List (Int × Int)) : Decidable (FitAll l K) := Classical.propDecidable _
theorem moves_loop (l : List S85) (hlen : l.length ≤ 1048576) (hl : ∀ x ∈ l, OkM x) (d : Nat) : ∀ (i : Nat), i + d = (keysOf keyM l).length →
 Ev (fun k => table_Moves.l0 k l (rawOf l ((keysOf keyM l).take i)) (groups keyM l) ((groups keyM l).length : Int) (i : Int))
  (if FitAll l ((keysOf keyM l).drop i) then (mergeL l, 0) else ([], 10)) := by
 have hkl := keysOf_length_le keyM l
 induction d with
 | zero =>
  intro i hi
  rw [List.drop_eq_nil_of_le (by omega), if_pos (by intro k hk; cases hk), List.take_of_length_le (by omega)]
  refine ev_const fun k => ?_
  rw [table_Moves.l0, if_neg (by rw [groups_length]; omega)]
  unfold api_Move_78.f
  have := rawOf_length l (keysOf keyM l)
  rw [if_pos (by omega)]
  rfl
 | succ d ih =>
  intro i hi
  have hlt : i < (keysOf keyM l).length := by omega
  have hlg : i < (groups keyM l).length := by rw [groups_length]; exact hlt
  obtain ⟨key, hkey⟩ : ∃ key, (keysOf keyM l)[i]? = some key := ⟨_, List.getElem?_eq_getElem hlt⟩
  have hmem := List.mem_of_getElem? hkey
  have hgi : rd_L3 (groups keyM l) (i : Int) = idxs keyM l key := by
   have h2 := groups_get keyM l i key hkey
   rw [rdL_of hlg]
   rw [List.getElem?_eq_getElem hlg] at h2
   exact Option.some.inj h2
  have hne := idxs_ne keyM l key ((mem_keysOf _ _ _).1 hmem)
  have hpos : 0 < (idxs keyM l key).length := List.length_pos_iff.2 hne
  have hmem0 : rd (idxs keyM l key) 0 ∈ idxs keyM l key := by
   have := rd_of hpos
   rw [show ((0 : Nat) : Int) = 0 from rfl] at this
   rw [this]
   exact List.getElem_mem hpos
  have hb := idxs_bd keyM l key _ hmem0
  have hk0 := idxs_key keyM l key z85 _ hmem0
  have ht := total_group l hlen hl key
  have hdrop : (keysOf keyM l).drop i = key :: (keysOf keyM l).drop (i + 1) := by
   rw [List.drop_eq_getElem_cons hlt]
   rw [List.getElem?_eq_getElem hlt] at hkey
   rw [Option.some.inj hkey]
  have htake : (keysOf keyM l).take (i + 1) = (keysOf keyM l).take i ++ [key] := by
   rw [List.take_succ_eq_append_getElem hlt]
   rw [List.getElem?_eq_getElem hlt] at hkey
   rw [Option.some.inj hkey]
  have hraw : (rawOf l ((keysOf keyM l).take i)).length ≤ l.length := by
   have h1 := rawOf_length l ((keysOf keyM l).take i)
   rw [List.length_take] at h1
   omega
  have hstep : ∀ k, table_Moves.l0 (k + 1) l (rawOf l ((keysOf keyM l).take i)) (groups keyM l) ((groups keyM l).length : Int) (i : Int) =
   (api_Move_76.f k l (idxs keyM l key)).bind fun bt => if bt.2 = true then (if bt.1 = 0 then table_Moves.l0 k l (rawOf l ((keysOf keyM l).take i)) (groups keyM l) ((groups keyM l).length : Int) ((i + 1 : Nat) : Int) else table_Moves.l0 k l (rawOf l ((keysOf keyM l).take i) ++ [⟨key.1, key.2, bt.1⟩]) (groups keyM l) ((groups keyM l).length : Int) ((i + 1 : Nat) : Int)) else some ([], 10) := by
   intro k
   rw [table_Moves.l0, if_pos (by omega), if_pos (by omega), if_pos (by omega), hgi, if_pos (by omega), if_pos hb.1, if_pos hb.2]
   have hl9 : (rawOf l ((keysOf keyM l).take i)).length < 5864062014805 := by omega
   have hw9 : wrap64 ((i : Int) + 1) = ((i + 1 : Nat) : Int) := w1 (by omega)
   have e0 : (rd_T85 l (rd (idxs keyM l key) 0)).f0 = key.1 := congrArg Prod.fst hk0
   have e1 : (rd_T85 l (rd (idxs keyM l key) 0)).f1 = key.2 := congrArg Prod.snd hk0
   simp only [e0, e1, hl9, hw9, if_true]
  refine Ev.step hstep ?_
  refine Ev.bind ht ?_
  rw [hdrop]
  by_cases hf : fits (msum l key)
  ·rw [sumFit_pos hf]
   have hif : (if FitAll l (key :: (keysOf keyM l).drop (i + 1)) then (mergeL l, (0 : Int)) else ([], 10)) = (if FitAll l ((keysOf keyM l).drop (i + 1)) then (mergeL l, 0) else ([], 10)) := by
    by_cases c : FitAll l ((keysOf keyM l).drop (i + 1))
    ·rw [if_pos c, if_pos (by intro k hk; rcases List.mem_cons.1 hk with rfl | hk; exact hf; exact c k hk)]
    ·rw [if_neg c, if_neg (fun h => c (fun k hk => h k (List.mem_cons_of_mem _ hk)))]
   rw [hif]
   have hi2 := ih (i + 1) (by omega)
   rw [htake] at hi2
   unfold rawOf at hi2
   rw [List.filterMap_append] at hi2
   simp only [if_true]
   by_cases hz : msum l key = 0
   ·simp only [hz, if_true]
    simp only [List.filterMap_cons, hz, if_true, List.filterMap_nil, List.append_nil] at hi2
    exact hi2
   ·simp only [hz, if_false]
    simp only [List.filterMap_cons, hz, if_false, List.filterMap_nil] at hi2
    exact hi2
  ·rw [sumFit_neg hf, if_neg (fun h => hf (h key List.mem_cons_self))]
   exact Ev.now _
theorem okM_good {x : S85} (h : OkM x) : good2 (keyM x) = true := by
 obtain ⟨h0, h1, _⟩ := h
 unfold fits at h0 h1
 unfold good2 keyM
 rw [wf_i64 h0.1 h0.2, wf_i64 h1.1 h1.2]
 rfl
theorem moves_ev (l : List S85) (hlen : l.length ≤ 1048576) (hl : ∀ x ∈ l, OkM x) : Ev (fun k => table_Moves.f k l) (mergeR l) := by
 unfold table_Moves.f
 refine Ev.bind (a := groups keyM l) ⟨l.length + 1, fun k hk => gatherM_eq l hlen (fun x hx => okM_good (hl x hx)) (by omega)⟩ ?_
 have h := moves_loop l hlen hl (keysOf keyM l).length 0 (by omega)
 have e : (if FitAll l ((keysOf keyM l).drop 0) then (mergeL l, (0 : Int)) else ([], 10)) = mergeR l := by
  unfold mergeR
  by_cases c : AllFit l
  ·rw [if_pos c, if_pos (show FitAll l ((keysOf keyM l).drop 0) from c)]
  ·rw [if_neg c, if_neg (show ¬ FitAll l ((keysOf keyM l).drop 0) from c)]
 rw [e] at h
 exact h
theorem lt_move (x y : S85) : (ltOf cfMove x y = true) ↔ mlt x y := ltMove_eq x y
theorem mergeL_is (l : List S85) : IsMerge l (mergeL l) := by
 obtain ⟨hp, hs⟩ := srtL_spec swoMove (rawOf l (keysOf keyM l))
 have hmem : ∀ m, m ∈ mergeL l ↔ keyM m ∈ keysOf keyM l ∧ m.f2 = msum l (keyM m) ∧ m.f2 ≠ 0 := by
  intro m
  unfold mergeL
  rw [hp.mem_iff]
  unfold rawOf
  rw [List.mem_filterMap]
  constructor
  ·rintro ⟨k, hk, he⟩
   split at he
   ·cases he
   ·rename_i hz
    injection he with he
    subst he
    exact ⟨hk, rfl, hz⟩
  ·rintro ⟨h1, h2, h3⟩
   refine ⟨keyM m, h1, ?_⟩
   rw [if_neg (by rw [← h2]; exact h3), ← h2]
   rfl
 refine ⟨?_, hmem⟩
 have hnd : ((mergeL l).map keyM).Nodup := by
  have h1 : ((rawOf l (keysOf keyM l)).map keyM).Nodup := by
   have h2 : (rawOf l (keysOf keyM l)).map keyM = (keysOf keyM l).filter (fun k => decide (msum l k ≠ 0)) := by
    unfold rawOf
    generalize keysOf keyM l = K
    induction K with
    | nil => rfl
    | cons k K ih =>
     rw [List.filterMap_cons, List.filter_cons]
     by_cases hz : msum l k = 0
     ·simp [hz, ih]
     ·simp [hz, ih]; rfl
   rw [h2]
   exact (nodup_keysOf keyM l).sublist List.filter_sublist
  exact ((hp.map keyM).nodup_iff).2 h1
 have hpair : (mergeL l).Pairwise (fun x y => ltOf cfMove y x = false ∧ keyM x ≠ keyM y) := by
  rw [List.pairwise_and_iff]
  exact ⟨hs, by rw [List.Nodup, List.pairwise_map] at hnd; exact hnd⟩
 refine hpair.imp ?_
 rintro x y ⟨h1, h2⟩
 rw [← Bool.not_eq_true, lt_move] at h1
 have h3 : ¬ (x.f0 = y.f0 ∧ x.f1 = y.f1) := fun h => h2 (by unfold keyM; rw [h.1, h.2])
 unfold mlt at *
 omega
theorem mergeL_length (l : List S85) : (mergeL l).length ≤ l.length := by
 unfold mergeL
 rw [srtL_length swoMove]
 exact Nat.le_trans (rawOf_length _ _) (keysOf_length_le _ _)
end Go.Proofs.Ytfhkkbpkajfdlaa.P
end
