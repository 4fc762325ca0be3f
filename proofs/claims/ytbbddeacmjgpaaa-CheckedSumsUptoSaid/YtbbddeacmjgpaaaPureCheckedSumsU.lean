/-
  What is proved: the sum of at most 1048576 numbers, and whether it fits, is the reference's. Conditions: at most 1048576 numbers (beyond 2^31 of them the reference's own low half may pass 63 bits).
-/
import Derived.Test.YtbbddeacmjgpaaaStCheckedSumsU
import Derived.Test.YtbbddeacmjgpaaaN
namespace Go.Proofs.Ytbbddeacmjgpaaa.Pure
open Go.RowKit Go.Proofs.Ytbbddeacmjgpaaa.Q Go.Proofs.YtbbddeacmjgpaaaW.PrintWords Go.Proofs.YtbbddeacmjgpaaaW.PrintLast Go.Proofs.YtbbddeacmjgpaaaW.PrintMore
open Go.Proofs.Ytbbddeacmjgpaaa.R
theorem and_low {a : Int} (_h0 : -9223372036854775808 ≤ a) (_h1 : a ≤ 9223372036854775807) : Go.bits .and .i64 a 4294967295 = a % 4294967296 := by
  show IntKind.i64.wrap ((BitVec.ofInt 64 a &&& BitVec.ofInt 64 4294967295).toNat) = _
  have ha := M.ofInt_nat a
  have hm : (BitVec.ofInt 64 4294967295).toNat = 2 ^ 32 - 1 := by decide
  rw [M.wi64, BitVec.toNat_and, hm, Nat.and_two_pow_sub_one_eq_mod]
  unfold wrap64
  omega
def sh (l : List Int) : Int := (l.map fun x => x / 4294967296).sum
def sl (l : List Int) : Int := (l.map fun x => x % 4294967296).sum
theorem halves (l : List Int) : l.sum = sh l * 4294967296 + sl l := by
  unfold sh sl
  induction l with
  | nil => rfl
  | cons x r ih => simp only [List.map_cons, List.sum_cons, ih]; omega
theorem half_bd (l : List Int) (h : ∀ x ∈ l, -9223372036854775808 ≤ x ∧ x ≤ 9223372036854775807) : -2147483648 * (l.length : Int) ≤ sh l ∧ sh l ≤ 2147483647 * (l.length : Int) ∧ 0 ≤ sl l ∧ sl l ≤ 4294967295 * (l.length : Int) := by
  unfold sh sl
  induction l with
  | nil => simp
  | cons x r ih =>
    have := ih (fun y hy => h y (List.mem_cons_of_mem _ hy))
    have := h x List.mem_cons_self
    simp only [List.map_cons, List.sum_cons, List.length_cons]
    omega
theorem rsum_loop (l : List Int) (hl : l.length ≤ 1048576) (hw : ∀ x ∈ l, -9223372036854775808 ≤ x ∧ x ≤ 9223372036854775807) (d : Nat) : ∀ (j k : Nat), j + d = l.length → d < k →
    ebbtideref01_Sum.l0 k l (sh (l.take j)) (sl (l.take j)) (j : Int) = some (sumFit l.sum) := by
  induction d with
  | zero =>
    intro j k hj hk
    obtain ⟨k, rfl⟩ : ∃ m, k = m + 1 := ⟨k - 1, by omega⟩
    have hb := half_bd l hw
    have hs := halves l
    rw [ebbtideref01_Sum.l0, if_neg (by omega), List.take_of_length_le (by omega), and_low (by omega) (by omega), M.w64_id (n := sh l + sl l / 4294967296) (by omega) (by omega)]
    unfold sumFit
    by_cases c : -9223372036854775808 ≤ l.sum ∧ l.sum ≤ 9223372036854775807
    · rw [if_pos c, if_neg (by omega), if_neg (by omega), M.w64_id (n := (sh l + sl l / 4294967296) * 4294967296) (by omega) (by omega), M.w64_id (by omega) (by omega)]
      exact congrArg some (Prod.ext (by show _ = _; simp only; omega) rfl)
    · rw [if_neg c]
      by_cases c1 : sh l + sl l / 4294967296 < -2147483648
      · rw [if_pos c1]
      · rw [if_neg c1, if_pos (by omega)]
  | succ d ih =>
    intro j k hj hk
    obtain ⟨k, rfl⟩ : ∃ m, k = m + 1 := ⟨k - 1, by omega⟩
    have hlt : j < l.length := by omega
    have hx := hw l[j] (List.getElem_mem hlt)
    have hb := half_bd (l.take j) (fun x hx => hw x (List.mem_of_mem_take hx))
    have hlen : (l.take j).length = j := by rw [List.length_take]; omega
    rw [hlen] at hb
    have e1 : sh (l.take (j + 1)) = sh (l.take j) + l[j] / 4294967296 := by unfold sh; rw [List.take_succ_eq_append_getElem hlt, List.map_append, List.sum_append]; simp
    have e2 : sl (l.take (j + 1)) = sl (l.take j) + l[j] % 4294967296 := by unfold sl; rw [List.take_succ_eq_append_getElem hlt, List.map_append, List.sum_append]; simp
    rw [ebbtideref01_Sum.l0, if_pos (by omega), if_pos (by omega), rd_at hlt, and_low hx.1 hx.2, M.w64_id (n := sh (l.take j) + l[j] / 4294967296) (by omega) (by omega), M.w64_id (n := sl (l.take j) + l[j] % 4294967296) (by omega) (by omega), M.w64_id (n := (j : Int) + 1) (by omega) (by omega), ← e1, ← e2]
    exact ih (j + 1) k (by omega) (by omega)
theorem wfs {l : List Int} (h : ∀ x ∈ l, gInt .i64 1048576 x) : ∀ x ∈ l, -9223372036854775808 ≤ x ∧ x ≤ 9223372036854775807 := fun x hx => Go.bounds_i64 (h x hx)
theorem csum_eq {l : List Int} (hl : l.length ≤ 1152921504606846976) (hw : ∀ x ∈ l, -9223372036854775808 ≤ x ∧ x ≤ 9223372036854775807) : checked_Sum.f l = some (sumFit l.sum) := by
  unfold checked_Sum.f
  rw [if_pos]
  simp only [sumOk, Bool.and_eq_true, List.all_eq_true, decide_eq_true_eq]
  exact ⟨hw, hl⟩
theorem rsum_eq {l : List Int} (hl : l.length ≤ 1048576) (hw : ∀ x ∈ l, -9223372036854775808 ≤ x ∧ x ≤ 9223372036854775807) {k : Nat} (hk : l.length < k) : ebbtideref01_Sum.f k l = some (sumFit l.sum) :=
  rsum_loop l hl hw l.length 0 k (by omega) hk
theorem CheckedSumsU : CheckedSums.PureU := by
  intro l ⟨_, h1, h2⟩
  have hw := wfs h2
  refine ⟨1048600, ?_⟩
  unfold ebbtidelaw01_CheckedSums.f
  rw [csum_eq (by omega) hw, rsum_eq h1 hw (by omega), at_rounds (fun k => ebbtidelaw01_awake.mono k) (by decide) M.awake_true]
  simp
end Go.Proofs.Ytbbddeacmjgpaaa.Pure
