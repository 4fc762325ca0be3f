/-
  What is proved: sums, differences and negatives of any 64-bit numbers, and whether they fit, are the reference's. Conditions: none.
-/
import Derived.Test.YtbbddeacmjgpaaaN
namespace Go.Proofs.Ytbbddeacmjgpaaa.Pure
open Go.RowKit Go.Proofs.Ytbbddeacmjgpaaa.Q Go.Proofs.Ytbbddeacmjgpaaa.M Go.Proofs.YtbbddeacmjgpaaaW.PrintWords Go.Proofs.YtbbddeacmjgpaaaW.PrintLast Go.Proofs.YtbbddeacmjgpaaaW.PrintMore
theorem CheckedAdds : ebbtidelaw01_CheckedAdds.Pure := by
  intro a b wa wb
  have ha := Go.bounds_i64 wa
  have hb := Go.bounds_i64 wb
  refine ⟨20, ?_⟩
  unfold ebbtidelaw01_CheckedAdds.f checked_Neg.f ebbtideref01_Neg.f
  rw [cadd_eq ha.1 ha.2 hb.1 hb.2, radd_eq ha.1 ha.2 hb.1 hb.2, csub_eq ha.1 ha.2 hb.1 hb.2, rsub_eq ha.1 ha.2 hb.1 hb.2, csub_eq (by decide) (by decide) ha.1 ha.2, rsub_eq (by decide) (by decide) ha.1 ha.2, awake_true]
  simp

end Go.Proofs.Ytbbddeacmjgpaaa.Pure
