/-
  What is proved: what was added can be taken away, in any order. Conditions: none.
-/
import Derived.Test.YtbbddeacmjgpaaaN
namespace Go.Proofs.Ytbbddeacmjgpaaa.Pure
open Go.RowKit Go.Proofs.Ytbbddeacmjgpaaa.Q Go.Proofs.Ytbbddeacmjgpaaa.M Go.Proofs.YtbbddeacmjgpaaaW.PrintWords Go.Proofs.YtbbddeacmjgpaaaW.PrintLast Go.Proofs.YtbbddeacmjgpaaaW.PrintMore
theorem CheckedUndoes : ebbtidelaw01_CheckedUndoes.Pure := by
  intro a b wa wb
  have ha := Go.bounds_i64 wa
  have hb := Go.bounds_i64 wb
  refine ⟨20, ?_⟩
  unfold ebbtidelaw01_CheckedUndoes.f
  rw [awake_true]
  simp only [Option.bind_some, if_true]
  rw [cadd_eq ha.1 ha.2 hb.1 hb.2, cadd_eq hb.1 hb.2 ha.1 ha.2, Int.add_comm b a]
  simp only [Option.bind_some]
  rw [if_neg (by simp), ebbtidelaw01_CheckedUndoes.j0, if_neg (by simp)]
  unfold fitS
  by_cases c : -9223372036854775808 ≤ a + b ∧ a + b ≤ 9223372036854775807
  · rw [if_pos c, if_pos rfl, csub_eq c.1 c.2 hb.1 hb.2]
    simp only [Option.bind_some, if_true]
    have e : a + b - b = a := by omega
    unfold fitS
    rw [e, if_pos ha]
    simp
  · rw [if_neg c]
    simp only [Bool.false_eq_true, if_false, if_true]
    refine congrArg some (beq_iff_eq.mpr (decide_eq_decide.mpr ?_))
    omega

end Go.Proofs.Ytbbddeacmjgpaaa.Pure
