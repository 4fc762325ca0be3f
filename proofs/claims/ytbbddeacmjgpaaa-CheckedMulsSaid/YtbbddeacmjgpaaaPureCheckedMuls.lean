/-
  What is proved: the checked product of any two 64-bit numbers, and whether it fits, is the reference's. Conditions: none.
-/
import Derived.Test.YtbbddeacmjgpaaaN
namespace Go.Proofs.Ytbbddeacmjgpaaa.Pure
open Go.RowKit Go.Proofs.Ytbbddeacmjgpaaa.Q Go.Proofs.Ytbbddeacmjgpaaa.M Go.Proofs.YtbbddeacmjgpaaaW.PrintWords Go.Proofs.YtbbddeacmjgpaaaW.PrintLast Go.Proofs.YtbbddeacmjgpaaaW.PrintMore
theorem CheckedMuls : ebbtidelaw01_CheckedMuls.Pure := by
  intro a b wa wb
  have ha := Go.bounds_i64 wa
  have hb := Go.bounds_i64 wb
  refine ⟨20, ?_⟩
  unfold ebbtidelaw01_CheckedMuls.f
  rw [cmul_eq ha.1 ha.2 hb.1 hb.2 18, rmul_eq ha.1 ha.2 hb.1 hb.2 18, awake_true]
  simp

end Go.Proofs.Ytbbddeacmjgpaaa.Pure
