/-
  No cell of these rows narrows 'for every input' (looked for: loops, veiled, ifaces, maps, wideKeys, modest, calm, conditions, laid).
  DERIVED. THE GIVEN ROWS OF THIS SEAT. 5 by the template 'for every input the law returns true; each argument reads behind the call as it read before'; 0 by the template 'total and deterministic' (their statements: YtloebciamfbjfaaTotals.lean).
  GIVEN WITH THE SEED: the statements are not yours to turn. If you find one false, say at which input.
  Laid BY PROGRAM, IN A SANDBOX (cutbox-rows.mjs): the forced cells as the released guide's own fill.sh prints them over the translation 49fa3374c53bcd13… (all of the seat's roots in one cut). By AI agents, Wed Nov 11 2026. No macro, syntax, notation, axiom, sorry.
-/
import Derived.Test.YtloebciamfbjfaaChecked
import GoSem.Claim
import GoSem.ClaimJoined
import GoSem.ClaimMapViews
import Derived.JoinedTies
import Derived.KernelRfl
namespace Go.Proofs.Ytloebciamfbjfaa
/- THE CELL 'sum', in the pinned program and in every row, IS THE sha256 OF THE DUMP (.gsa) THAT YtloebciamfbjfaaProg.lean LOADS. Nothing in Lean hashes anything: it is a label: what it is worth is what the hold of that sum in a sandbox is worth. -/
noncomputable def Try.pinned : Pinned := { name := "ytloebciamfbjfaa", sum := "49fa3374c53bcd13bbcdbae9945cb77862033ec7b3b2ed53e33a95584c235a3b", checked := Try.checked }
namespace Rows
def none {H : Type} : Left H := { results := [], args := [] }

/-- 'ebbtidelaw02.PilePlays': WHATEVER THE INPUT: true; the input reads as it did. -/
def pilePlaysSpec : ChangeSpec := { name := "pilePlays", fn := fun _ => fun
  | [d1, d2] => { results := [.lit (.bool true)], args := [d1, d2] }
  | _ => none }
def pilePlaysRow : OpenClaim := { program := "ytloebciamfbjfaa", sum := "49fa3374c53bcd13bbcdbae9945cb77862033ec7b3b2ed53e33a95584c235a3b", func := "ebbtide/ebbtidelaw02.PilePlays", spec := "pilePlays", unfollowed := true, recurses := true, apart := false }
def PilePlaysSaid : Prop := pilePlaysRow.holds Try.pinned (OpenSpec.ofChange pilePlaysSpec)

/-- ITS FALSE NEIGHBOUR: 'it returns false'. Refute it at one input. -/
def pilePlaysWrong : ChangeSpec := { name := "pilePlays", fn := fun _ => fun
  | [d1, d2] => { results := [.lit (.bool false)], args := [d1, d2] }
  | _ => none }
def PilePlaysWrongFalsely : Prop := pilePlaysRow.holds Try.pinned (OpenSpec.ofChange pilePlaysWrong)

/-- 'ebbtidelaw02.PileQueues': WHATEVER THE INPUT: true; the input reads as it did. -/
def pileQueuesSpec : ChangeSpec := { name := "pileQueues", fn := fun _ => fun
  | [d1, d2] => { results := [.lit (.bool true)], args := [d1, d2] }
  | _ => none }
def pileQueuesRow : OpenClaim := { program := "ytloebciamfbjfaa", sum := "49fa3374c53bcd13bbcdbae9945cb77862033ec7b3b2ed53e33a95584c235a3b", func := "ebbtide/ebbtidelaw02.PileQueues", spec := "pileQueues", unfollowed := true, recurses := true, apart := false }
def PileQueuesSaid : Prop := pileQueuesRow.holds Try.pinned (OpenSpec.ofChange pileQueuesSpec)

/-- ITS FALSE NEIGHBOUR: 'it returns false'. Refute it at one input. -/
def pileQueuesWrong : ChangeSpec := { name := "pileQueues", fn := fun _ => fun
  | [d1, d2] => { results := [.lit (.bool false)], args := [d1, d2] }
  | _ => none }
def PileQueuesWrongFalsely : Prop := pileQueuesRow.holds Try.pinned (OpenSpec.ofChange pileQueuesWrong)

/-- 'ebbtidelaw02.PileRounds': WHATEVER THE INPUT: true; the input reads as it did. -/
def pileRoundsSpec : ChangeSpec := { name := "pileRounds", fn := fun _ => fun
  | [d1, d2] => { results := [.lit (.bool true)], args := [d1, d2] }
  | _ => none }
def pileRoundsRow : OpenClaim := { program := "ytloebciamfbjfaa", sum := "49fa3374c53bcd13bbcdbae9945cb77862033ec7b3b2ed53e33a95584c235a3b", func := "ebbtide/ebbtidelaw02.PileRounds", spec := "pileRounds", unfollowed := true, recurses := true, apart := false }
def PileRoundsSaid : Prop := pileRoundsRow.holds Try.pinned (OpenSpec.ofChange pileRoundsSpec)

/-- ITS FALSE NEIGHBOUR: 'it returns false'. Refute it at one input. -/
def pileRoundsWrong : ChangeSpec := { name := "pileRounds", fn := fun _ => fun
  | [d1, d2] => { results := [.lit (.bool false)], args := [d1, d2] }
  | _ => none }
def PileRoundsWrongFalsely : Prop := pileRoundsRow.holds Try.pinned (OpenSpec.ofChange pileRoundsWrong)

/-- 'ebbtidelaw02.PileSorts': WHATEVER THE INPUT: true; the input reads as it did. -/
def pileSortsSpec : ChangeSpec := { name := "pileSorts", fn := fun _ => fun
  | [d] => { results := [.lit (.bool true)], args := [d] }
  | _ => none }
def pileSortsRow : OpenClaim := { program := "ytloebciamfbjfaa", sum := "49fa3374c53bcd13bbcdbae9945cb77862033ec7b3b2ed53e33a95584c235a3b", func := "ebbtide/ebbtidelaw02.PileSorts", spec := "pileSorts", unfollowed := true, recurses := true, apart := false }
def PileSortsSaid : Prop := pileSortsRow.holds Try.pinned (OpenSpec.ofChange pileSortsSpec)

/-- ITS FALSE NEIGHBOUR: 'it returns false'. Refute it at one input. -/
def pileSortsWrong : ChangeSpec := { name := "pileSorts", fn := fun _ => fun
  | [d] => { results := [.lit (.bool false)], args := [d] }
  | _ => none }
def PileSortsWrongFalsely : Prop := pileSortsRow.holds Try.pinned (OpenSpec.ofChange pileSortsWrong)

/-- 'ebbtidelaw02.PileOrders': WHATEVER THE INPUT: true; the input reads as it did. -/
def pileOrdersSpec : ChangeSpec := { name := "pileOrders", fn := fun _ => fun
  | [d] => { results := [.lit (.bool true)], args := [d] }
  | _ => none }
def pileOrdersRow : OpenClaim := { program := "ytloebciamfbjfaa", sum := "49fa3374c53bcd13bbcdbae9945cb77862033ec7b3b2ed53e33a95584c235a3b", func := "ebbtide/ebbtidelaw02.PileOrders", spec := "pileOrders", unfollowed := true, recurses := true, apart := false }
def PileOrdersSaid : Prop := pileOrdersRow.holds Try.pinned (OpenSpec.ofChange pileOrdersSpec)

/-- ITS FALSE NEIGHBOUR: 'it returns false'. Refute it at one input. -/
def pileOrdersWrong : ChangeSpec := { name := "pileOrders", fn := fun _ => fun
  | [d] => { results := [.lit (.bool false)], args := [d] }
  | _ => none }
def PileOrdersWrongFalsely : Prop := pileOrdersRow.holds Try.pinned (OpenSpec.ofChange pileOrdersWrong)

/- THE SECOND FORM. 'bulk': how many values and letters a reading holds, each counted each time it is reached (what is shared counts as often as it is met; a slice's spare places count too). A statement '..UptoSaid' is the law's where the arguments, and the package variables that the reading takes, are together of bulk at most 1048576: NARROWER than '..Said'. Prove '..Said' where nothing that the law and all that it calls make is longer than what came in: it says more and counts as full. Else prove '..UptoSaid'. A law counts once. -/
mutual
def uptoBulk {H : Type} : DataW H → Nat
  | .lit (.string bytes) => bytes.length + 1
  | .lit _ => 1
  | .nil => 1
  | .ptr d => uptoBulk d + 1
  | .slice elems spare => uptoBulkAll elems + uptoBulkAll spare + 1
  | .agg parts => uptoBulkAll parts + 1
  | .iface _ d => uptoBulk d + 1
  | .map entries => uptoBulkEntries entries + 1
  | .held _ => 1
def uptoBulkAll {H : Type} : List (DataW H) → Nat
  | [] => 0
  | d :: r => uptoBulk d + uptoBulkAll r
def uptoBulkEntries {H : Type} : List (Lit × DataW H) → Nat
  | [] => 0
  | x :: r => uptoBulkEntry x + uptoBulkEntries r
def uptoBulkEntry {H : Type} : Lit × DataW H → Nat
  | (.string bytes, d) => bytes.length + uptoBulk d + 1
  | (_, d) => uptoBulk d + 1
 end
def uptoSmall : (H : Type) → List (DataW H) → Bool := fun _ ds => decide (uptoBulkAll ds ≤ 1048576)
def OpenSpec.upto (s : _root_.Go.ChangeSpec) : _root_.Go.OpenSpec := { _root_.Go.OpenSpec.ofChange s with cond := some uptoSmall }

/-- 'ebbtidelaw02.PilePlays', WHERE WHAT IT READS IS OF BULK AT MOST 1048576: true; the input reads as it did. -/
def pilePlaysUptoRow : OpenClaim := { program := "ytloebciamfbjfaa", sum := "49fa3374c53bcd13bbcdbae9945cb77862033ec7b3b2ed53e33a95584c235a3b", func := "ebbtide/ebbtidelaw02.PilePlays", spec := "pilePlays", unfollowed := true, recurses := true, apart := false, narrowed := true }
def PilePlaysUptoSaid : Prop := pilePlaysUptoRow.holds Try.pinned (OpenSpec.upto pilePlaysSpec)

/-- 'ebbtidelaw02.PileQueues', WHERE WHAT IT READS IS OF BULK AT MOST 1048576: true; the input reads as it did. -/
def pileQueuesUptoRow : OpenClaim := { program := "ytloebciamfbjfaa", sum := "49fa3374c53bcd13bbcdbae9945cb77862033ec7b3b2ed53e33a95584c235a3b", func := "ebbtide/ebbtidelaw02.PileQueues", spec := "pileQueues", unfollowed := true, recurses := true, apart := false, narrowed := true }
def PileQueuesUptoSaid : Prop := pileQueuesUptoRow.holds Try.pinned (OpenSpec.upto pileQueuesSpec)

/-- 'ebbtidelaw02.PileRounds', WHERE WHAT IT READS IS OF BULK AT MOST 1048576: true; the input reads as it did. -/
def pileRoundsUptoRow : OpenClaim := { program := "ytloebciamfbjfaa", sum := "49fa3374c53bcd13bbcdbae9945cb77862033ec7b3b2ed53e33a95584c235a3b", func := "ebbtide/ebbtidelaw02.PileRounds", spec := "pileRounds", unfollowed := true, recurses := true, apart := false, narrowed := true }
def PileRoundsUptoSaid : Prop := pileRoundsUptoRow.holds Try.pinned (OpenSpec.upto pileRoundsSpec)

/-- 'ebbtidelaw02.PileSorts', WHERE WHAT IT READS IS OF BULK AT MOST 1048576: true; the input reads as it did. -/
def pileSortsUptoRow : OpenClaim := { program := "ytloebciamfbjfaa", sum := "49fa3374c53bcd13bbcdbae9945cb77862033ec7b3b2ed53e33a95584c235a3b", func := "ebbtide/ebbtidelaw02.PileSorts", spec := "pileSorts", unfollowed := true, recurses := true, apart := false, narrowed := true }
def PileSortsUptoSaid : Prop := pileSortsUptoRow.holds Try.pinned (OpenSpec.upto pileSortsSpec)

/-- 'ebbtidelaw02.PileOrders', WHERE WHAT IT READS IS OF BULK AT MOST 1048576: true; the input reads as it did. -/
def pileOrdersUptoRow : OpenClaim := { program := "ytloebciamfbjfaa", sum := "49fa3374c53bcd13bbcdbae9945cb77862033ec7b3b2ed53e33a95584c235a3b", func := "ebbtide/ebbtidelaw02.PileOrders", spec := "pileOrders", unfollowed := true, recurses := true, apart := false, narrowed := true }
def PileOrdersUptoSaid : Prop := pileOrdersUptoRow.holds Try.pinned (OpenSpec.upto pileOrdersSpec)

end Rows
end Go.Proofs.Ytloebciamfbjfaa
