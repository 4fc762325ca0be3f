/-
  What is proved: the sum of two lists is the sum of both sums, if they fit. Conditions: at most 1048576 numbers.
-/
import Derived.Test.YtbbddeacmjgpaaaStCheckedPartsU
import Derived.Test.YtbbddeacmjgpaaaN
namespace Go.Proofs.Ytbbddeacmjgpaaa.Pure
open Go.RowKit Go.Proofs.Ytbbddeacmjgpaaa.Q Go.Proofs.YtbbddeacmjgpaaaW.PrintWords Go.Proofs.YtbbddeacmjgpaaaW.PrintLast Go.Proofs.YtbbddeacmjgpaaaW.PrintMore
open Go.Proofs.Ytbbddeacmjgpaaa.R
theorem wfs {l : List Int} (h : ∀ x ∈ l, gInt .i64 1048576 x) : ∀ x ∈ l, -9223372036854775808 ≤ x ∧ x ≤ 9223372036854775807 := fun x hx => Go.bounds_i64 (h x hx)
theorem csum_eq {l : List Int} (hl : l.length ≤ 1152921504606846976) (hw : ∀ x ∈ l, -9223372036854775808 ≤ x ∧ x ≤ 9223372036854775807) : checked_Sum.f l = some (sumFit l.sum) := by
  unfold checked_Sum.f
  rw [if_pos]
  simp only [sumOk, Bool.and_eq_true, List.all_eq_true, decide_eq_true_eq]
  exact ⟨hw, hl⟩
theorem CheckedPartsU : CheckedParts.PureU := by
  intro a b ⟨_, a1, a2⟩ ⟨_, b1, b2⟩
  have ha := wfs a2
  have hb := wfs b2
  refine ⟨20, ?_⟩
  unfold ebbtidelaw01_CheckedParts.f
  rw [M.awake_true]
  simp only [Option.bind_some, if_true]
  rw [csum_eq (by omega) ha, csum_eq (by omega) hb]
  simp only [Option.bind_some, List.nil_append, List.length_nil, Nat.zero_add]
  rw [if_pos (by omega), if_pos (by omega), csum_eq (l := a ++ b) (by rw [List.length_append]; omega) (fun x hx => (List.mem_append.1 hx).elim (ha x) (hb x)), List.sum_append]
  simp only [Option.bind_some]
  unfold sumFit
  by_cases c : -9223372036854775808 ≤ a.sum ∧ a.sum ≤ 9223372036854775807
  · rw [if_pos c]
    simp only [if_true]
    by_cases d : -9223372036854775808 ≤ b.sum ∧ b.sum ≤ 9223372036854775807
    · rw [if_pos d]
      simp only [if_true]
      rw [M.cadd_eq c.1 c.2 d.1 d.2]
      simp only [Option.bind_some, M.fitS]
      simp
    · rw [if_neg d]; rfl
  · rw [if_neg c]; rfl
end Go.Proofs.Ytbbddeacmjgpaaa.Pure
