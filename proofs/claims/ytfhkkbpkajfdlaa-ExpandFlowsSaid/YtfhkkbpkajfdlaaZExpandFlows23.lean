/- A part of the proof: words, contracts, plain lemmas. Conditions: none. -/
import Derived.Test.YtfhkkbpkajfdlaaZExpandFlows4
import Derived.Test.YtfhkkbpkajfdlaaZExpandFlows5
import Derived.Test.YtfhkkbpkajfdlaaZExpandFlows10
import Derived.Test.YtfhkkbpkajfdlaaZExpandFlows12
import Derived.Test.YtfhkkbpkajfdlaaZExpandFlows18
section
namespace Go.Proofs.Ytfhkkbpkajfdlaa.Q
open Go.RowKit Go.Proofs.YtfhkkbpkajfdlaaW.PrintWords Go.Proofs.YtfhkkbpkajfdlaaW.PrintLast Go.Proofs.YtfhkkbpkajfdlaaW.PrintMore
attribute [local go_sem] max2_int min2_int max_two min_two min_four
set_option linter.unusedVariables false
set_option linter.unusedSimpArgs false
theorem eqA85 (d : Nat) (w : World) (x0 y0 : Int) (x1 y1 : Int) (x2 y2 : Int) :
  (Op.equalIn (d + 2) 85 (.agg #[.int .i64 x0, .int .i64 x1, .int .i64 x2]) (.agg #[.int .i64 y0, .int .i64 y1, .int .i64 y2])).run Try.prog w = .ok (x0 == y0 && (x1 == y1 && (x2 == y2))) w := by
 refine eqA_of Try.underlying85 (by kernel_rfl) ?_; refine eqf_cons (by rfl) (by go_simp; rfl) (by go_simp; rfl) (by go_simp) ?_; refine eqf_cons (by rfl) (by go_simp; rfl) (by go_simp; rfl) (by go_simp) ?_; exact eqf_last (by rfl) (by go_simp; rfl) (by go_simp; rfl) (by go_simp)
end Go.Proofs.Ytfhkkbpkajfdlaa.Q
end
section
namespace Go.Proofs.Ytfhkkbpkajfdlaa.P
set_option linter.unusedSimpArgs false
set_option linter.unusedVariables false
open Go.RowKit Go.Proofs.Ytfhkkbpkajfdlaa.Q Go.Proofs.YtfhkkbpkajfdlaaW.PrintWords Go.Proofs.YtfhkkbpkajfdlaaW.PrintLast Go.Proofs.YtfhkkbpkajfdlaaW.PrintMore
theorem rdK_of {l : List S83} {i : Nat} (h : i < l.length) : rd_T83 l (i : Int) = l[i] := by unfold rd_T83; simp [List.getD_eq_getElem?_getD, List.getElem?_eq_getElem h]
section
variable {V H s t : Int} {hold : Bool} {l0 : List S54}
theorem kinds_eq : gridKinds V H hold s t l0 = kindsB V H hold s t l0 (H.toNat + 1) ++ kEnds s (H.toNat + 1) ++ kEnds t (H.toNat + 1) := by unfold gridKinds; rw [rAts_kinds]
theorem gridKinds_length : (gridKinds V H hold s t l0).length = (gridArcs V H hold s t l0).length := by
 rw [kinds_eq]
 unfold gridArcs
 rw [arcs1, List.length_append, List.length_append, List.length_append, List.length_append, List.length_map, kEnds_length, kEnds_length, firstsA_length, lastsA_length]
end
end Go.Proofs.Ytfhkkbpkajfdlaa.P
end
