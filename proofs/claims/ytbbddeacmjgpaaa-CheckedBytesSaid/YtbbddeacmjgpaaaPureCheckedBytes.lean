/-
  What is proved: any number as bytes, and any bytes as a number, are the reference's, or there is none. Conditions: none.
-/
import Derived.Test.YtbbddeacmjgpaaaN
namespace Go.Proofs.Ytbbddeacmjgpaaa.Pure
open Go.RowKit Go.Proofs.Ytbbddeacmjgpaaa.Q Go.Proofs.Ytbbddeacmjgpaaa.M Go.Proofs.YtbbddeacmjgpaaaW.PrintWords Go.Proofs.YtbbddeacmjgpaaaW.PrintLast Go.Proofs.YtbbddeacmjgpaaaW.PrintMore
theorem awake_100 : ebbtidelaw01_awake.f 100 = some true := at_rounds (fun k => ebbtidelaw01_awake.mono k) (by decide) awake_true
theorem CheckedBytes : ebbtidelaw01_CheckedBytes.Pure := by
  intro a n s wa wn hs
  have ha := Go.bounds_i64 wa
  refine ⟨100, ?_⟩
  unfold ebbtidelaw01_CheckedBytes.f
  rw [cbytes_eq a n (by omega), rbytes_eq ha.1 ha.2 n (by omega), rof_eq s (by omega), awake_100]
  unfold checked_Of.f
  simp

end Go.Proofs.Ytbbddeacmjgpaaa.Pure
