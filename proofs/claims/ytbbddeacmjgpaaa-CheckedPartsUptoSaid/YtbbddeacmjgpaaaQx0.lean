/- What is proved: each named Go function, called, answers as its plain Lean function tells (x-texts), or the row of a law out of its plain statement (Law-texts). Conditions: those written in each statement. Written by a program of this session. -/
import Derived.Test.YtbbddeacmjgpaaaProg
import Derived.Below
import Derived.Deep.Draws
import Derived.Deep.AppendLies
import Derived.Maps.AppendAt
import Derived.OwnWalk
import Derived.Laws.BytesArg
import Derived.Laws.MakeOwn
import Derived.Laws.OwnMore
import Derived.Deep.OwnRows
import Derived.Tactics
import Derived.Lib.ConvBytes
import Derived.Laws.Slices
import Derived.WalkKit
import Derived.KernelRfl
import Derived.RowKit3
import Derived.Deep.LoopGhost
import Derived.Deep.QuietTactic
import Derived.BigQuiet
import Derived.WideLaws
import Derived.Deep.DeepCutAuto
import Derived.Deep.CutBlock
import Derived.Deep.RegionHeld3
import Derived.Laws.Rows
import Derived.Lib.AppendStr
import Derived.ArgAppend
import Derived.Laws.IdiomCopy
import Derived.OrdersHeld
import Derived.Laws.BitsLemmas
import Derived.RowKit
import Derived.Test.YtbbddeacmjgpaaaWWords
import Derived.Test.YtbbddeacmjgpaaaWLast
import Derived.Test.YtbbddeacmjgpaaaWTab
import Derived.Test.YtbbddeacmjgpaaaWFour
import Derived.Test.YtbbddeacmjgpaaaWQPut
import Derived.Test.YtbbddeacmjgpaaaWApart
import Derived.Test.YtbbddeacmjgpaaaWArr
import Derived.Test.YtbbddeacmjgpaaaWZeros
import Derived.Test.YtbbddeacmjgpaaaWFoot
import Derived.Test.YtbbddeacmjgpaaaWKept
import Derived.Test.YtbbddeacmjgpaaaWShare
import Derived.Test.YtbbddeacmjgpaaaWN
import Derived.Test.YtbbddeacmjgpaaaWFootNe
import Derived.Test.YtbbddeacmjgpaaaWAt
import Derived.Test.YtbbddeacmjgpaaaWEqStruct
import Derived.Test.YtbbddeacmjgpaaaWRepsOne
import Derived.Test.YtbbddeacmjgpaaaWInv
import Derived.Test.YtbbddeacmjgpaaaWInvWords
import Derived.Test.YtbbddeacmjgpaaaWGuard
import Derived.Test.YtbbddeacmjgpaaaWNEv
import Derived.Test.YtbbddeacmjgpaaaWMore
namespace Go.Proofs.Ytbbddeacmjgpaaa.Q
open Go.RowKit Go.Proofs.YtbbddeacmjgpaaaW.PrintWords Go.Proofs.YtbbddeacmjgpaaaW.PrintLast Go.Proofs.YtbbddeacmjgpaaaW.PrintMore
attribute [local go_sem] max2_int min2_int max_two min_two max_three min_three max_four min_four   -- for this text's walks alone
set_option linter.unusedVariables false
set_option linter.unusedSimpArgs false



def errW : Option Int → Value
  | none => .nilIface
  | some c => .iface 0 (.int .i64 c)
theorem errW_none : errW none = .nilIface := rfl
theorem errW_some (c : Int) : errW (some c) = .iface 0 (.int .i64 c) := rfl

theorem info3 : (Try.prog.info? 3).map (fun i => (i.zero, i.size, i.bytes)) = some (some (.int .i64 0), 1, 8) := by kernel_rfl
theorem info5 : (Try.prog.info? 5).map (fun i => (i.zero, i.size, i.bytes)) = some (some (.int .u8 0), 1, 1) := by kernel_rfl
-- the values' own types

end Go.Proofs.Ytbbddeacmjgpaaa.Q
