/-
  The one plain statement of the law CheckedSums, over the printed functions. Conditions: what a reading of the arguments gives (all of it at most 1048576 values and letters).
-/
import Derived.Test.YtbbddeacmjgpaaaRd
import Derived.Test.YtbbddeacmjgpaaaQx7
namespace Go.Proofs.Ytbbddeacmjgpaaa.R
open Go.RowKit Go.Proofs.Ytbbddeacmjgpaaa.Q Go.Proofs.YtbbddeacmjgpaaaW.PrintWords Go.Proofs.YtbbddeacmjgpaaaW.PrintLast Go.Proofs.YtbbddeacmjgpaaaW.PrintMore
def CheckedSums.PureU : Prop := ∀ (x0 : List Int), gList (gInt .i64) 1048576 x0 → ∃ k, ebbtidelaw01_CheckedSums.f k x0 = some true
end Go.Proofs.Ytbbddeacmjgpaaa.R
