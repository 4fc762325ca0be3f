/-
  What is proved: any number, shifted by any places, is the reference's, or does not fit. Conditions: none.
-/
import Derived.Test.YtbbddeacmjgpaaaN
namespace Go.Proofs.Ytbbddeacmjgpaaa.Pure
open Go.RowKit Go.Proofs.Ytbbddeacmjgpaaa.Q Go.Proofs.Ytbbddeacmjgpaaa.M Go.Proofs.YtbbddeacmjgpaaaW.PrintWords Go.Proofs.YtbbddeacmjgpaaaW.PrintLast Go.Proofs.YtbbddeacmjgpaaaW.PrintMore
theorem awake_100 : ebbtidelaw01_awake.f 100 = some true := at_rounds (fun k => ebbtidelaw01_awake.mono k) (by decide) awake_true
theorem CheckedShifts : ebbtidelaw01_CheckedShifts.Pure := by
  intro a n wa wn
  have ha := Go.bounds_i64 wa
  refine ⟨100, ?_⟩
  unfold ebbtidelaw01_CheckedShifts.f
  rw [cshl_eq ha.1 ha.2 n 99, rshl_eq ha.1 ha.2 n (by omega), cshr_eq, rshr_eq ha.1 ha.2 n (by omega), awake_100]
  simp

end Go.Proofs.Ytbbddeacmjgpaaa.Pure
