/-
  What is proved: a product divided by a factor is the other one, and products that don't fit have no factor 0. Conditions: none.
-/
import Derived.Test.YtbbddeacmjgpaaaN
namespace Go.Proofs.Ytbbddeacmjgpaaa.Pure
open Go.RowKit Go.Proofs.Ytbbddeacmjgpaaa.Q Go.Proofs.Ytbbddeacmjgpaaa.M Go.Proofs.YtbbddeacmjgpaaaW.PrintWords Go.Proofs.YtbbddeacmjgpaaaW.PrintLast Go.Proofs.YtbbddeacmjgpaaaW.PrintMore
theorem CheckedTimes : ebbtidelaw01_CheckedTimes.Pure := by
  intro a b wa wb
  have ha := Go.bounds_i64 wa
  have hb := Go.bounds_i64 wb
  refine ⟨20, ?_⟩
  unfold ebbtidelaw01_CheckedTimes.f
  rw [awake_true]
  simp only [Option.bind_some, if_true]
  rw [cmul_eq ha.1 ha.2 hb.1 hb.2 18, cmul_eq hb.1 hb.2 ha.1 ha.2 18, Int.mul_comm b a]
  simp only [Option.bind_some]
  rw [if_neg (by simp), ebbtidelaw01_CheckedTimes.j0, if_neg (by simp)]
  unfold fitS
  by_cases c : -9223372036854775808 ≤ a * b ∧ a * b ≤ 9223372036854775807
  · rw [if_pos c, if_pos rfl]
    by_cases a0 : a = 0
    · subst a0; simp
    · rw [if_neg a0]
      by_cases b0 : b = 0
      · subst b0; simp
      · rw [if_neg b0]
        simp only [if_true]
        rw [Int.mul_tdiv_cancel a b0, M.w64_id ha.1 ha.2, if_pos rfl, Int.mul_tmod_left]
        rfl
  · rw [if_neg c]
    simp only [Bool.false_eq_true, if_false, if_true]
    rw [if_neg (by intro h; subst h; exact c (by simp))]
    refine congrArg some (bne_iff_ne.mpr ?_)
    intro h; subst h; exact c (by simp)

end Go.Proofs.Ytbbddeacmjgpaaa.Pure
