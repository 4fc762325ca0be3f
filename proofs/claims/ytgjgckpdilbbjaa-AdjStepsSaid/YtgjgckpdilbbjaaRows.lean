/-
  No cell of these rows narrows 'for every input' (looked for: loops, veiled, ifaces, maps, wideKeys, modest, calm, conditions, laid).
  DERIVED. THE GIVEN ROWS OF THIS SEAT. 7 by the template 'for every input the law returns true; each argument reads behind the call as it read before'; 0 by the template 'total and deterministic' (their statements: YtgjgckpdilbbjaaTotals.lean).
  GIVEN WITH THE SEED: the statements are not yours to turn. If you find one false, say at which input.
  Laid BY PROGRAM, IN A SANDBOX (cutbox-rows.mjs): the forced cells as the released guide's own fill.sh prints them over the translation c0bd57a0a9140266… (all of the seat's roots in one cut). By AI agents, Wed Nov 11 2026. No macro, syntax, notation, axiom, sorry.
-/
import Derived.Test.YtgjgckpdilbbjaaChecked
import GoSem.Claim
import GoSem.ClaimJoined
import GoSem.ClaimMapViews
import Derived.JoinedTies
import Derived.KernelRfl
namespace Go.Proofs.Ytgjgckpdilbbjaa
/- THE CELL 'sum', in the pinned program and in every row, IS THE sha256 OF THE DUMP (.gsa) THAT YtgjgckpdilbbjaaProg.lean LOADS. Nothing in Lean hashes anything: it is a label: what it is worth is what the hold of that sum in a sandbox is worth. -/
noncomputable def Try.pinned : Pinned := { name := "ytgjgckpdilbbjaa", sum := "c0bd57a0a9140266b8b56254f0eb0184a92ebb2eef4c9574da675b795a07c08e", checked := Try.checked }
namespace Rows
def none {H : Type} : Left H := { results := [], args := [] }

/-- 'ebbtidelaw06.AdjHops': WHATEVER THE INPUT: true; the input reads as it did. -/
def adjHopsSpec : ChangeSpec := { name := "adjHops", fn := fun _ => fun
  | [d1, d2] => { results := [.lit (.bool true)], args := [d1, d2] }
  | _ => none }
def adjHopsRow : OpenClaim := { program := "ytgjgckpdilbbjaa", sum := "c0bd57a0a9140266b8b56254f0eb0184a92ebb2eef4c9574da675b795a07c08e", func := "ebbtide/ebbtidelaw06.AdjHops", spec := "adjHops", unfollowed := true, recurses := true, apart := false }
def AdjHopsSaid : Prop := adjHopsRow.holds Try.pinned (OpenSpec.ofChange adjHopsSpec)

/-- ITS FALSE NEIGHBOUR: 'it returns false'. Refute it at one input. -/
def adjHopsWrong : ChangeSpec := { name := "adjHops", fn := fun _ => fun
  | [d1, d2] => { results := [.lit (.bool false)], args := [d1, d2] }
  | _ => none }
def AdjHopsWrongFalsely : Prop := adjHopsRow.holds Try.pinned (OpenSpec.ofChange adjHopsWrong)

/-- 'ebbtidelaw06.AdjOrders': WHATEVER THE INPUT: true; the input reads as it did. -/
def adjOrdersSpec : ChangeSpec := { name := "adjOrders", fn := fun _ => fun
  | [d] => { results := [.lit (.bool true)], args := [d] }
  | _ => none }
def adjOrdersRow : OpenClaim := { program := "ytgjgckpdilbbjaa", sum := "c0bd57a0a9140266b8b56254f0eb0184a92ebb2eef4c9574da675b795a07c08e", func := "ebbtide/ebbtidelaw06.AdjOrders", spec := "adjOrders", unfollowed := true, recurses := true, apart := false }
def AdjOrdersSaid : Prop := adjOrdersRow.holds Try.pinned (OpenSpec.ofChange adjOrdersSpec)

/-- ITS FALSE NEIGHBOUR: 'it returns false'. Refute it at one input. -/
def adjOrdersWrong : ChangeSpec := { name := "adjOrders", fn := fun _ => fun
  | [d] => { results := [.lit (.bool false)], args := [d] }
  | _ => none }
def AdjOrdersWrongFalsely : Prop := adjOrdersRow.holds Try.pinned (OpenSpec.ofChange adjOrdersWrong)

/-- 'ebbtidelaw06.AdjFastest': WHATEVER THE INPUT: true; the input reads as it did. -/
def adjFastestSpec : ChangeSpec := { name := "adjFastest", fn := fun _ => fun
  | [d1, d2] => { results := [.lit (.bool true)], args := [d1, d2] }
  | _ => none }
def adjFastestRow : OpenClaim := { program := "ytgjgckpdilbbjaa", sum := "c0bd57a0a9140266b8b56254f0eb0184a92ebb2eef4c9574da675b795a07c08e", func := "ebbtide/ebbtidelaw06.AdjFastest", spec := "adjFastest", unfollowed := true, recurses := true, apart := false }
def AdjFastestSaid : Prop := adjFastestRow.holds Try.pinned (OpenSpec.ofChange adjFastestSpec)

/-- ITS FALSE NEIGHBOUR: 'it returns false'. Refute it at one input. -/
def adjFastestWrong : ChangeSpec := { name := "adjFastest", fn := fun _ => fun
  | [d1, d2] => { results := [.lit (.bool false)], args := [d1, d2] }
  | _ => none }
def AdjFastestWrongFalsely : Prop := adjFastestRow.holds Try.pinned (OpenSpec.ofChange adjFastestWrong)

/-- 'ebbtidelaw06.AdjSteps': WHATEVER THE INPUT: true; the input reads as it did. -/
def adjStepsSpec : ChangeSpec := { name := "adjSteps", fn := fun _ => fun
  | [d1, d2] => { results := [.lit (.bool true)], args := [d1, d2] }
  | _ => none }
def adjStepsRow : OpenClaim := { program := "ytgjgckpdilbbjaa", sum := "c0bd57a0a9140266b8b56254f0eb0184a92ebb2eef4c9574da675b795a07c08e", func := "ebbtide/ebbtidelaw06.AdjSteps", spec := "adjSteps", unfollowed := true, recurses := true, apart := false }
def AdjStepsSaid : Prop := adjStepsRow.holds Try.pinned (OpenSpec.ofChange adjStepsSpec)

/-- ITS FALSE NEIGHBOUR: 'it returns false'. Refute it at one input. -/
def adjStepsWrong : ChangeSpec := { name := "adjSteps", fn := fun _ => fun
  | [d1, d2] => { results := [.lit (.bool false)], args := [d1, d2] }
  | _ => none }
def AdjStepsWrongFalsely : Prop := adjStepsRow.holds Try.pinned (OpenSpec.ofChange adjStepsWrong)

/-- 'ebbtidelaw06.AdjForward': WHATEVER THE INPUT: true; the input reads as it did. -/
def adjForwardSpec : ChangeSpec := { name := "adjForward", fn := fun _ => fun
  | [d] => { results := [.lit (.bool true)], args := [d] }
  | _ => none }
def adjForwardRow : OpenClaim := { program := "ytgjgckpdilbbjaa", sum := "c0bd57a0a9140266b8b56254f0eb0184a92ebb2eef4c9574da675b795a07c08e", func := "ebbtide/ebbtidelaw06.AdjForward", spec := "adjForward", unfollowed := true, recurses := true, apart := false }
def AdjForwardSaid : Prop := adjForwardRow.holds Try.pinned (OpenSpec.ofChange adjForwardSpec)

/-- ITS FALSE NEIGHBOUR: 'it returns false'. Refute it at one input. -/
def adjForwardWrong : ChangeSpec := { name := "adjForward", fn := fun _ => fun
  | [d] => { results := [.lit (.bool false)], args := [d] }
  | _ => none }
def AdjForwardWrongFalsely : Prop := adjForwardRow.holds Try.pinned (OpenSpec.ofChange adjForwardWrong)

/-- 'ebbtidelaw06.AdjLists': WHATEVER THE INPUT: true; the input reads as it did. -/
def adjListsSpec : ChangeSpec := { name := "adjLists", fn := fun _ => fun
  | [d] => { results := [.lit (.bool true)], args := [d] }
  | _ => none }
def adjListsRow : OpenClaim := { program := "ytgjgckpdilbbjaa", sum := "c0bd57a0a9140266b8b56254f0eb0184a92ebb2eef4c9574da675b795a07c08e", func := "ebbtide/ebbtidelaw06.AdjLists", spec := "adjLists", unfollowed := true, recurses := true, apart := false }
def AdjListsSaid : Prop := adjListsRow.holds Try.pinned (OpenSpec.ofChange adjListsSpec)

/-- ITS FALSE NEIGHBOUR: 'it returns false'. Refute it at one input. -/
def adjListsWrong : ChangeSpec := { name := "adjLists", fn := fun _ => fun
  | [d] => { results := [.lit (.bool false)], args := [d] }
  | _ => none }
def AdjListsWrongFalsely : Prop := adjListsRow.holds Try.pinned (OpenSpec.ofChange adjListsWrong)

/-- 'ebbtidelaw06.AdjOnce': WHATEVER THE INPUT: true; the input reads as it did. -/
def adjOnceSpec : ChangeSpec := { name := "adjOnce", fn := fun _ => fun
  | [d] => { results := [.lit (.bool true)], args := [d] }
  | _ => none }
def adjOnceRow : OpenClaim := { program := "ytgjgckpdilbbjaa", sum := "c0bd57a0a9140266b8b56254f0eb0184a92ebb2eef4c9574da675b795a07c08e", func := "ebbtide/ebbtidelaw06.AdjOnce", spec := "adjOnce", unfollowed := true, recurses := true, apart := false }
def AdjOnceSaid : Prop := adjOnceRow.holds Try.pinned (OpenSpec.ofChange adjOnceSpec)

/-- ITS FALSE NEIGHBOUR: 'it returns false'. Refute it at one input. -/
def adjOnceWrong : ChangeSpec := { name := "adjOnce", fn := fun _ => fun
  | [d] => { results := [.lit (.bool false)], args := [d] }
  | _ => none }
def AdjOnceWrongFalsely : Prop := adjOnceRow.holds Try.pinned (OpenSpec.ofChange adjOnceWrong)

/- THE SECOND FORM. 'bulk': how many values and letters a reading holds, each counted each time it is reached (what is shared counts as often as it is met; a slice's spare places count too). A statement '..UptoSaid' is the law's where the arguments, and the package variables that the reading takes, are together of bulk at most 1048576: NARROWER than '..Said'. Prove '..Said' where nothing that the law and all that it calls make is longer than what came in: it says more and counts as full. Else prove '..UptoSaid'. A law counts once. -/
mutual
def uptoBulk {H : Type} : DataW H → Nat
  | .lit (.string bytes) => bytes.length + 1
  | .lit _ => 1
  | .nil => 1
  | .ptr d => uptoBulk d + 1
  | .slice elems spare => uptoBulkAll elems + uptoBulkAll spare + 1
  | .agg parts => uptoBulkAll parts + 1
  | .iface _ d => uptoBulk d + 1
  | .map entries => uptoBulkEntries entries + 1
  | .held _ => 1
def uptoBulkAll {H : Type} : List (DataW H) → Nat
  | [] => 0
  | d :: r => uptoBulk d + uptoBulkAll r
def uptoBulkEntries {H : Type} : List (Lit × DataW H) → Nat
  | [] => 0
  | x :: r => uptoBulkEntry x + uptoBulkEntries r
def uptoBulkEntry {H : Type} : Lit × DataW H → Nat
  | (.string bytes, d) => bytes.length + uptoBulk d + 1
  | (_, d) => uptoBulk d + 1
 end
def uptoSmall : (H : Type) → List (DataW H) → Bool := fun _ ds => decide (uptoBulkAll ds ≤ 1048576)
def OpenSpec.upto (s : _root_.Go.ChangeSpec) : _root_.Go.OpenSpec := { _root_.Go.OpenSpec.ofChange s with cond := some uptoSmall }

/-- 'ebbtidelaw06.AdjHops', WHERE WHAT IT READS IS OF BULK AT MOST 1048576: true; the input reads as it did. -/
def adjHopsUptoRow : OpenClaim := { program := "ytgjgckpdilbbjaa", sum := "c0bd57a0a9140266b8b56254f0eb0184a92ebb2eef4c9574da675b795a07c08e", func := "ebbtide/ebbtidelaw06.AdjHops", spec := "adjHops", unfollowed := true, recurses := true, apart := false, narrowed := true }
def AdjHopsUptoSaid : Prop := adjHopsUptoRow.holds Try.pinned (OpenSpec.upto adjHopsSpec)

/-- 'ebbtidelaw06.AdjOrders', WHERE WHAT IT READS IS OF BULK AT MOST 1048576: true; the input reads as it did. -/
def adjOrdersUptoRow : OpenClaim := { program := "ytgjgckpdilbbjaa", sum := "c0bd57a0a9140266b8b56254f0eb0184a92ebb2eef4c9574da675b795a07c08e", func := "ebbtide/ebbtidelaw06.AdjOrders", spec := "adjOrders", unfollowed := true, recurses := true, apart := false, narrowed := true }
def AdjOrdersUptoSaid : Prop := adjOrdersUptoRow.holds Try.pinned (OpenSpec.upto adjOrdersSpec)

/-- 'ebbtidelaw06.AdjFastest', WHERE WHAT IT READS IS OF BULK AT MOST 1048576: true; the input reads as it did. -/
def adjFastestUptoRow : OpenClaim := { program := "ytgjgckpdilbbjaa", sum := "c0bd57a0a9140266b8b56254f0eb0184a92ebb2eef4c9574da675b795a07c08e", func := "ebbtide/ebbtidelaw06.AdjFastest", spec := "adjFastest", unfollowed := true, recurses := true, apart := false, narrowed := true }
def AdjFastestUptoSaid : Prop := adjFastestUptoRow.holds Try.pinned (OpenSpec.upto adjFastestSpec)

/-- 'ebbtidelaw06.AdjSteps', WHERE WHAT IT READS IS OF BULK AT MOST 1048576: true; the input reads as it did. -/
def adjStepsUptoRow : OpenClaim := { program := "ytgjgckpdilbbjaa", sum := "c0bd57a0a9140266b8b56254f0eb0184a92ebb2eef4c9574da675b795a07c08e", func := "ebbtide/ebbtidelaw06.AdjSteps", spec := "adjSteps", unfollowed := true, recurses := true, apart := false, narrowed := true }
def AdjStepsUptoSaid : Prop := adjStepsUptoRow.holds Try.pinned (OpenSpec.upto adjStepsSpec)

/-- 'ebbtidelaw06.AdjForward', WHERE WHAT IT READS IS OF BULK AT MOST 1048576: true; the input reads as it did. -/
def adjForwardUptoRow : OpenClaim := { program := "ytgjgckpdilbbjaa", sum := "c0bd57a0a9140266b8b56254f0eb0184a92ebb2eef4c9574da675b795a07c08e", func := "ebbtide/ebbtidelaw06.AdjForward", spec := "adjForward", unfollowed := true, recurses := true, apart := false, narrowed := true }
def AdjForwardUptoSaid : Prop := adjForwardUptoRow.holds Try.pinned (OpenSpec.upto adjForwardSpec)

/-- 'ebbtidelaw06.AdjLists', WHERE WHAT IT READS IS OF BULK AT MOST 1048576: true; the input reads as it did. -/
def adjListsUptoRow : OpenClaim := { program := "ytgjgckpdilbbjaa", sum := "c0bd57a0a9140266b8b56254f0eb0184a92ebb2eef4c9574da675b795a07c08e", func := "ebbtide/ebbtidelaw06.AdjLists", spec := "adjLists", unfollowed := true, recurses := true, apart := false, narrowed := true }
def AdjListsUptoSaid : Prop := adjListsUptoRow.holds Try.pinned (OpenSpec.upto adjListsSpec)

/-- 'ebbtidelaw06.AdjOnce', WHERE WHAT IT READS IS OF BULK AT MOST 1048576: true; the input reads as it did. -/
def adjOnceUptoRow : OpenClaim := { program := "ytgjgckpdilbbjaa", sum := "c0bd57a0a9140266b8b56254f0eb0184a92ebb2eef4c9574da675b795a07c08e", func := "ebbtide/ebbtidelaw06.AdjOnce", spec := "adjOnce", unfollowed := true, recurses := true, apart := false, narrowed := true }
def AdjOnceUptoSaid : Prop := adjOnceUptoRow.holds Try.pinned (OpenSpec.upto adjOnceSpec)

end Rows
end Go.Proofs.Ytgjgckpdilbbjaa
