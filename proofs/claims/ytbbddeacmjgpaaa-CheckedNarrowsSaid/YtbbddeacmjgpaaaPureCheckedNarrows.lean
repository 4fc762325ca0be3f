/-
  What is proved: any 64-bit number in any number of bits, and whether it fits, is the reference's. Conditions: none.
-/
import Derived.Test.YtbbddeacmjgpaaaN
namespace Go.Proofs.Ytbbddeacmjgpaaa.Pure
open Go.RowKit Go.Proofs.Ytbbddeacmjgpaaa.Q Go.Proofs.Ytbbddeacmjgpaaa.M Go.Proofs.YtbbddeacmjgpaaaW.PrintWords Go.Proofs.YtbbddeacmjgpaaaW.PrintLast Go.Proofs.YtbbddeacmjgpaaaW.PrintMore
theorem awake_100 : ebbtidelaw01_awake.f 100 = some true := at_rounds (fun k => ebbtidelaw01_awake.mono k) (by decide) awake_true
theorem CheckedNarrows : ebbtidelaw01_CheckedNarrows.Pure := by
  intro a b wa wb
  have ha := Go.bounds_i64 wa
  have hb := Go.bounds_i64 wb
  refine ⟨100, ?_⟩
  unfold ebbtidelaw01_CheckedNarrows.f
  rw [cnarrow_eq a b hb.1 hb.2 99, rnarrow_eq ha.1 ha.2 b (by omega), awake_100, cfits_eq a b hb.1 hb.2 99, rfits_eq ha.1 ha.2 b (by omega)]
  simp

end Go.Proofs.Ytbbddeacmjgpaaa.Pure
