/-
  What is proved: any two halves as one number, and any number as two, are the reference's. Conditions: none.
-/
import Derived.Test.YtbbddeacmjgpaaaN
namespace Go.Proofs.Ytbbddeacmjgpaaa.Pure
open Go.RowKit Go.Proofs.Ytbbddeacmjgpaaa.Q Go.Proofs.Ytbbddeacmjgpaaa.M Go.Proofs.YtbbddeacmjgpaaaW.PrintWords Go.Proofs.YtbbddeacmjgpaaaW.PrintLast Go.Proofs.YtbbddeacmjgpaaaW.PrintMore
theorem awake_100 : ebbtidelaw01_awake.f 100 = some true := at_rounds (fun k => ebbtidelaw01_awake.mono k) (by decide) awake_true
theorem CheckedPacks : ebbtidelaw01_CheckedPacks.Pure := by
  intro h l a wh wl wa
  have hh := Go.bounds_i32 wh
  have hl := Go.bounds_i32 wl
  have ha := Go.bounds_i64 wa
  refine ⟨100, ?_⟩
  unfold ebbtidelaw01_CheckedPacks.f
  rw [runpack_eq ha.1 ha.2 (by omega), awake_100, cpack_eq hh.1 hh.2 hl.1 hl.2, rpack_eq hh.1 hh.2 hl.1 hl.2]
  simp [checked_Unpack.f]

end Go.Proofs.Ytbbddeacmjgpaaa.Pure
