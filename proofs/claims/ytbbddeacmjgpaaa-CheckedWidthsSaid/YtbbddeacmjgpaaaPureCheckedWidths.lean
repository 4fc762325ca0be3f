/-
  What is proved: what is narrowed fits, is narrowed already, and fits into more bits. Conditions: none.
-/
import Derived.Test.YtbbddeacmjgpaaaN
namespace Go.Proofs.Ytbbddeacmjgpaaa.Pure
open Go.RowKit Go.Proofs.Ytbbddeacmjgpaaa.Q Go.Proofs.Ytbbddeacmjgpaaa.M Go.Proofs.YtbbddeacmjgpaaaW.PrintWords Go.Proofs.YtbbddeacmjgpaaaW.PrintLast Go.Proofs.YtbbddeacmjgpaaaW.PrintMore
theorem CheckedWidths : ebbtidelaw01_CheckedWidths.Pure := by
  intro a b m wa wb wm
  have hb := Go.bounds_i64 wb
  have hm := Go.bounds_i64 wm
  refine ⟨20, ?_⟩
  unfold ebbtidelaw01_CheckedWidths.f
  rw [awake_true]
  simp only [Option.bind_some, if_true]
  rw [cnarrow_eq a b hb.1 hb.2 19]
  simp only [Option.bind_some, narrowS]
  by_cases c : 1 ≤ b ∧ b ≤ 64
  · rw [if_pos c]
    simp only [if_true]
    rw [cnarrow_eq _ b hb.1 hb.2 19]
    simp only [Option.bind_some, narrowS]
    rw [if_pos c]
    simp only [if_true]
    have hr := lowS_range a (b - 1).toNat
    have hi := lowS_id hr.1 hr.2
    rw [hi, if_pos rfl, cfits_eq _ b hb.1 hb.2 19]
    simp only [Option.bind_some, fitsS]
    rw [decide_eq_true c, hi, decide_eq_true rfl, if_pos (by decide), cfits_eq a b hb.1 hb.2 19]
    simp only [Option.bind_some, fitsS]
    have hsame : decide (lowS a (b - 1).toNat = a) = (a == lowS a (b - 1).toNat) := by
      by_cases e : a = lowS a (b - 1).toNat
      · rw [decide_eq_true e.symm, eq_comm]; exact beq_iff_eq.mpr e
      · rw [decide_eq_false (Ne.symm e), eq_comm]; exact beq_eq_false_iff_ne.mpr e
    rw [decide_eq_true c, show (true && decide (lowS a (b - 1).toNat = a)) = (a == lowS a (b - 1).toNat) by rw [Bool.true_and]; exact hsame, if_neg (by simp)]
    by_cases m1 : m < b
    · rw [if_pos m1]
    · rw [if_neg m1]
      by_cases m2 : m > 64
      · rw [if_pos m2]
      · rw [if_neg m2, cfits_eq _ m hm.1 hm.2 19]
        simp only [Option.bind_some, fitsS]
        have hp : (2 : Int) ^ (b - 1).toNat ≤ 2 ^ (m - 1).toNat := by
          rw [show (m - 1).toNat = (b - 1).toNat + ((m - 1).toNat - (b - 1).toNat) by omega, Int.pow_add]
          have h1 := pow_pos2 (b - 1).toNat
          have h2 : (1 : Int) ≤ 2 ^ ((m - 1).toNat - (b - 1).toNat) := pow_pos2 _
          have h3 := Int.mul_le_mul_of_nonneg_left h2 (show (0 : Int) ≤ 2 ^ (b - 1).toNat by omega)
          rw [Int.mul_one] at h3
          exact h3
        rw [decide_eq_true (by omega), lowS_id (by omega) (by omega), decide_eq_true rfl]
        rfl
  · rw [if_neg c]
    simp only [Bool.false_eq_true, if_false, if_true]
    by_cases b1 : b < 1
    · rw [if_pos b1]
    · rw [if_neg b1, decide_eq_true (by omega)]

end Go.Proofs.Ytbbddeacmjgpaaa.Pure
