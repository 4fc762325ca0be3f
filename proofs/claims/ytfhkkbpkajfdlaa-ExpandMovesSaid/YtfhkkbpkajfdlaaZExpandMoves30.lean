/- A part of the proof: words, contracts, plain lemmas. Conditions: none. -/
import Derived.Test.YtfhkkbpkajfdlaaZExpandMoves26
import Derived.Test.YtfhkkbpkajfdlaaZExpandMoves29
import Derived.Test.YtfhkkbpkajfdlaaZExpandMoves28
import Derived.Test.YtfhkkbpkajfdlaaRows
import Derived.WalkKit
import Derived.ProofKit
import Derived.OpenShut
import Derived.ShutString
import Derived.ChangeOld
import Derived.Below
import Derived.SizedLaws
section
namespace Go.Proofs.Ytfhkkbpkajfdlaa.R
open Go.RowKit Go.Proofs.Ytfhkkbpkajfdlaa.Q Go.Proofs.YtfhkkbpkajfdlaaW.PrintWords Go.Proofs.YtfhkkbpkajfdlaaW.PrintLast Go.Proofs.YtfhkkbpkajfdlaaW.PrintMore
def ExpandMoves.Pure : Prop := ∀ N0 : Nat, ∀ N1 : Nat, ∀ N2 : Nat, ∀ (x0 : S41) (x1 : List Int) (x2 : List Int), g41 N0 x0 → gList (gInt .i64) N1 x1 → gList (gInt .i64) N2 x2 → ∃ k, ebbtidelaw15_ExpandMoves.f k x0.f0 x0.f1 x0.f2 x0.f3 x0.f4 x0.f5 x1 x2 = some true
end Go.Proofs.Ytfhkkbpkajfdlaa.R
end
section
namespace Go.Proofs.Ytfhkkbpkajfdlaa.Pure
open Go.RowKit Go.Proofs.Ytfhkkbpkajfdlaa.Q Go.Proofs.Ytfhkkbpkajfdlaa.P Go.Proofs.YtfhkkbpkajfdlaaW.PrintWords Go.Proofs.YtfhkkbpkajfdlaaW.PrintLast Go.Proofs.YtfhkkbpkajfdlaaW.PrintMore
open Go.Proofs.Ytfhkkbpkajfdlaa.R
theorem more_loop {n : Int} {b : Bool} {l : List S54} {s t h : Int} (more : List Int) (A : List S54) (hA : A.length ≤ 300000) (r : Bool) (hr : ∀ lf, Ev (fun k => (expand_Moves.f k n b l s t h lf).bind fun bt454 => ((ebbtideref15_Moves.f k n b l s t h lf).bind fun bt458 => ((ebbtidelaw15_awake.f k).bind fun t462 => (if t462 = true then ((ebbtideref03_SameMoves.f k bt454.1 bt458.1).bind fun t463 => (if t463 = true then (some (bt454.2 == bt458.2)) else (some false))) else (some false))))) r) :
    ∀ d i : Nat, i + d = A.length → ∀ out : List Int, out.length = i → Ev (fun k => ebbtidelaw15_ExpandMoves.l0 k more s t h A out (i : Int) n b l) r := by
  intro d
  induction d with
  | zero =>
    intro i hi out ho
    refine Ev.step (fun k => ?_) (hr out)
    rw [ebbtidelaw15_ExpandMoves.l0, if_neg (by omega)]
  | succ d ih =>
    intro i hi out ho
    by_cases c : i < more.length
    · refine Ev.step (fun k => ?_) (ih (i + 1) (by omega) (out ++ [Go.bits .and .i64 (rd more (i : Int)) 7]) (by rw [List.length_append, ho]; rfl))
      rw [ebbtidelaw15_ExpandMoves.l0, if_pos (by omega), if_pos (by omega), if_pos (by omega), if_pos (by omega), wrap1 (by omega)]
    · refine Ev.step (fun k => ?_) (ih (i + 1) (by omega) (out ++ [0]) (by rw [List.length_append, ho]; rfl))
      rw [ebbtidelaw15_ExpandMoves.l0, if_pos (by omega), if_neg (by omega), if_pos (by omega), wrap1 (by omega)]
theorem ExpandMoves : ExpandMoves.Pure := by
  intro N0 N1 N2 x0 x1 x2 g _ _
  apply Ev.rounds
  obtain ⟨n, arcs, s, t, h, hs, hr⟩ := read12_ev 8 (Nat.le_refl _) x0 g
  have hh : 0 ≤ h ∧ h ≤ 1024 := ⟨hs.hor.1, by have := hs.hor.2; omega⟩
  have hsm : ∀ lf, Ev (fun k => ebbtideref03_SameMoves.f k (movesR n x0.f1 arcs s t h lf).1 (movesR n x0.f1 arcs s t h lf).1) true := fun lf => sameMoves_ev _ (by have := movesR_length n x0.f1 arcs s t h lf; omega)
  unfold ebbtidelaw15_ExpandMoves.f
  refine Ev.bind (a := (n, x0.f1, arcs, s, t, h)) hr ?_
  refine Ev.bind (moves15_ev n x0.f1 arcs s t h x1) (Ev.bind (rmoves15_ev n x0.f1 arcs s t h x1) (Ev.bind (hsm x1) ?_))
  simp only [if_true, bne_self_eq_false]
  refine Ev.step (f := fun k => ((ebbtideref15_Arcs.f k n x0.f1 arcs s t h).bind fun bt441 => (ebbtidelaw15_ExpandMoves.l0 k x2 s t h bt441.1 ([] : List Int) 0 n x0.f1 arcs))) (fun k => ?_) ?_
  · rw [ebbtidelaw15_ExpandMoves.j0, if_neg Bool.false_ne_true]
  · refine Ev.bind (arcs_ev hs.net hh ⟨hs.ends.1, hs.ends.2.1⟩ ⟨hs.ends.2.2.1, hs.ends.2.2.2.1⟩) ?_
    refine more_loop x2 _ (gridArcs_length hs.net hh) true (fun lf => ?_) _ 0 (Nat.zero_add _) [] rfl
    refine Ev.bind (moves15_ev n x0.f1 arcs s t h lf) (Ev.bind (rmoves15_ev n x0.f1 arcs s t h lf) (Ev.bind awake15_ev ?_))
    simp only [if_true]
    refine Ev.bind (hsm lf) ?_
    simp only [if_true, beq_self_eq_true]
    exact Ev.now _
end Go.Proofs.Ytfhkkbpkajfdlaa.Pure
end
section
namespace Go.Proofs.Ytfhkkbpkajfdlaa
open Go Go.RowKit
def ioHead : List Char := List.map Char.ofNat [104, 97, 114, 110, 101, 115, 115, 32, 53, 97, 52, 98, 49, 100, 102, 98, 102, 48, 99, 51, 55, 54, 100, 49, 48, 99, 102, 101, 49, 101, 100, 101, 53, 51, 57, 51, 100, 99, 57, 100, 102, 101, 50, 57, 49, 54, 57, 99, 50, 100, 99, 49, 55, 50, 50, 101, 97, 53, 54, 56, 48, 100, 54, 51, 50, 54, 98, 49, 56, 99, 52, 52, 32, 99, 117, 116, 32]
def ioRest : List Char := List.map Char.ofNat [97, 116, 32, 101, 98, 98, 116, 105, 100, 101, 47, 101, 98, 98, 116, 105, 100, 101, 108, 97, 119, 49, 53, 46, 69, 120, 112, 97, 110, 100, 70, 105, 116, 115, 32, 101, 98, 98, 116, 105, 100, 101, 47, 101, 98, 98, 116, 105, 100, 101, 108, 97, 119, 49, 53, 46, 69, 120, 112, 97, 110, 100, 66, 117, 105, 108, 100, 115, 32, 101, 98, 98, 116, 105, 100, 101, 47, 101, 98, 98, 116, 105, 100, 101, 108, 97, 119, 49, 53, 46, 69, 120, 112, 97, 110, 100, 66, 97, 99, 107, 32, 101, 98, 98, 116, 105, 100, 101, 47, 101, 98, 98, 116, 105, 100, 101, 108, 97, 119, 49, 53, 46, 69, 120, 112, 97, 110, 100, 77, 111, 118, 101, 115, 32, 101, 98, 98, 116, 105, 100, 101, 47, 101, 98, 98, 116, 105, 100, 101, 108, 97, 119, 49, 53, 46, 69, 120, 112, 97, 110, 100, 82, 117, 110, 115, 32, 101, 98, 98, 116, 105, 100, 101, 47, 101, 98, 98, 116, 105, 100, 101, 108, 97, 119, 49, 53, 46, 69, 120, 112, 97, 110, 100, 70, 108, 111, 119, 115, 32, 101, 98, 98, 116, 105, 100, 101, 47, 101, 98, 98, 116, 105, 100, 101, 108, 97, 119, 49, 53, 46, 69, 120, 112, 97, 110, 100, 80, 108, 97, 110, 115]
set_option maxRecDepth 100000 in
theorem io_eq : Try.pinned.checked.prog.initOrder = String.ofList (ioHead ++ ioRest) := by kernel_rfl
theorem io_toList : Try.pinned.checked.prog.initOrder.toList = ioHead ++ ioRest := by rw [io_eq]; exact String.toList_ofList
def ioCut : List Char := List.map Char.ofNat [99, 117, 116]
set_option maxRecDepth 100000 in
theorem io_words (r : List Char) : behindMainWord (wordsSigns (ioHead ++ r)) = ioCut :: wordsSigns r := by kernel_rfl
theorem io_behind : ∃ X, behindMainWord (wordsSigns Try.pinned.checked.prog.initOrder.toList) = ioCut :: X := ⟨_, by rw [io_toList]; exact io_words _⟩
theorem io_cut : ioCut = "cut".toList := by decide +kernel
theorem io_strip (X : List (List Char)) : stripLifts liftWords (ioCut :: X) = ([], ioCut :: X) := by kernel_rfl
theorem headLifts_cut (P : Program) (h : ∃ X, behindMainWord (wordsSigns P.initOrder.toList) = ioCut :: X) : P.headLifts = [] := by
  obtain ⟨X, e⟩ := h
  unfold Program.headLifts
  rw [e, io_strip]
  rfl
theorem mayEnter_cut (P : Program) (h : ∃ X, behindMainWord (wordsSigns P.initOrder.toList) = ioCut :: X) (h1 : P.laysLater = false) (h2 : P.bearsReflect = false) (h3 : P.doorFits [] = true) : P.mayEnter = true := by
  obtain ⟨X, e⟩ := h
  unfold Program.mayEnter
  rw [e]
  simp only [io_strip, h1, h2, h3]
  rw [io_cut]
  simp
theorem liftsFinal_cut (P : Program) (h : ∃ X, behindMainWord (wordsSigns P.initOrder.toList) = ioCut :: X) : P.liftsFinal = false := by
  have h0 := headLifts_cut P h
  obtain ⟨X, e⟩ := h
  unfold Program.liftsFinal
  rw [e, h0]
  rw [io_cut]
  simp
theorem make_cut (P : Program) (h : ∃ X, behindMainWord (wordsSigns P.initOrder.toList) = ioCut :: X) : P.make = some .cut := by
  obtain ⟨X, e⟩ := h
  unfold Program.make
  rw [e]
  simp only [io_cut]
  rw [if_neg (by decide +kernel), if_pos (by simp)]
theorem p_mayEnter : Try.pinned.checked.prog.mayEnter = true := mayEnter_cut _ io_behind (by kernel_rfl) (by kernel_rfl) (by kernel_rfl)
theorem p_liftsFinal : Try.pinned.checked.prog.liftsFinal = false := liftsFinal_cut _ io_behind
theorem p_make : Try.pinned.checked.prog.make = some .cut := make_cut _ io_behind
theorem p_laidOut : laidOutB Try.pinned.checked.prog = true := by kernel_rfl
theorem p_mapsRowed : mapsRowed Try.pinned.checked.prog = true := by kernel_rfl
theorem p_stopsHeard : Try.pinned.checked.prog.stopsHeard = true := by kernel_rfl
theorem p_stops : Try.pinned.checked.prog.stops = [] := by kernel_rfl
theorem p_stopKnobs : Try.pinned.checked.prog.stopKnobs = [] := by kernel_rfl
end Go.Proofs.Ytfhkkbpkajfdlaa
end
section
namespace Go.Proofs.Ytfhkkbpkajfdlaa.expandMoves
open Go.ChangeShapes Go.WideShapes Go.ChangeAt Go.RowKit
open Go.ChangeMaps (open_string shut_string)
open Go.Proofs.Ytfhkkbpkajfdlaa.Q Go.Proofs.Ytfhkkbpkajfdlaa.R Go.Proofs.YtfhkkbpkajfdlaaW.PrintWords
set_option linter.unusedVariables false
theorem own : ownKnob Try.prog.godebug = none := by kernel_rfl
theorem laidOut : laidOutB Try.prog = true := by kernel_rfl
theorem open41 {w : World} {x : S41} {cs : List Value} (h : k41.K w x cs) : ∃ (A2 : Option Addr) (c2 : Nat), cs = [.int .u8 x.f0, .bool x.f1, .slice A2 x.f2.length c2, .int .u8 x.f3, .int .u8 x.f4, .int .u8 x.f5] ∧ x.f2.length ≤ c2 ∧ Kd.C k80 w A2 x.f2.length x.f2 := by
  obtain ⟨_, _, rfl, rfl, ⟨_, _, rfl, rfl, ⟨_, _, rfl, ⟨A2, c2, rfl, l2, g2⟩, ⟨_, _, rfl, rfl, ⟨_, _, rfl, rfl, rfl⟩⟩⟩⟩⟩ := h
  exact ⟨A2, c2, rfl, l2, g2⟩
set_option maxRecDepth 100000 in
theorem lifted (os : Os) (started : os.Started) (H : Type) (enc : TypeId × Value → H) :
    ReturnsInHanded {} Try.checked os 6 .any (Rows.expandMovesSpec.pre6 enc Try.prog Try.f6 Rows.expandMovesRow.domain false) (Rows.expandMovesSpec.post enc Try.prog Try.f6 false true false false) := by
  refine returnsInHanded_of_change_sized (C := Try.checked) own started (by kernel_rfl) Try.func6
    (ChangeSpec.witness6 (enc := enc) (C := Try.checked) false ⟨#[], #[.agg #[.int .u8 0, .bool false, .slice none 0 0, .int .u8 0, .int .u8 0, .int .u8 0], .slice none 0 0, .slice none 0 0], []⟩ 8 (by kernel_rfl) (by kernel_rfl) (by kernel_rfl) (by kernel_rfl)) ?_
  intro W base args ds gs before hval0 hW hcnd hsz0 _
  have hval : ∀ (j : Nat) t v, Try.f6.params[j]? = some t → args[j]? = some v → Value.okWide Try.prog W .any base t v := hval0
  have hW' := hW
  obtain ⟨p, q, hA0, hV, rfl, hfz, hnd⟩ := hW
  have hA : DataW.TrodAll enc Try.prog W 0 (fun _ => true) true Try.f6.params.toList args.toList ds p := hA0
  rw [Try.params6] at hA hval
  obtain ⟨v0, vs0, d0, ds0, p0, q0, hargs, rfl, rfl, h0, r0⟩ := trodAll_cons hA
  obtain ⟨v1, vs1, d1, ds1, p1, q1, rfl, rfl, rfl, h1, r1⟩ := trodAll_cons r0
  obtain ⟨v2, vs2, d2, ds2, p2, q2, rfl, rfl, rfl, h2, r2⟩ := trodAll_cons r1
  obtain ⟨rfl, rfl, rfl⟩ := trodAll_nil r2
  obtain rfl : args = #[v0, v1, v2] := by cases args; simp_all
  obtain ⟨rfl, rfl⟩ := trodVars_none hV
  have k0 := h0
  have lt0 : ∀ x ∈ p0, x.block < W.heap.size := by obtain ⟨m, hm⟩ := k0; exact DataW.trod_lt m _ _ _ hm
  obtain ⟨fu0, hf0⟩ := h0
  obtain ⟨x0, K0, G0⟩ := reads41 enc W 0 (fun _ => true) true fu0 _ _ hf0
  obtain ⟨cs0, rfl, hsz0⟩ := okWide_struct Try.underlying41 (hval 0 41 v0 rfl rfl)
  have K0' : (k41).K W x0 cs0.toList := K0
  obtain ⟨ao0_2, co0_2, es0, hc0_2, hr0_2⟩ := open41 K0'
  obtain rfl : cs0 = _ := Array.toList_inj.1 es0
  have k1 := h1
  have lt1 : ∀ x ∈ p1, x.block < W.heap.size := by obtain ⟨m, hm⟩ := k1; exact DataW.trod_lt m _ _ _ hm
  obtain ⟨fu1, hf1⟩ := h1
  obtain ⟨x1, K1, G1⟩ := (readsSlice Try.underlying42 (by kernel_rfl) (readsInt Try.underlying3)) enc W 0 (fun _ => true) true fu1 _ _ hf1
  obtain ⟨a1, len1, cap1, rfl⟩ := okWide_slice Try.underlying42 (hval 1 42 v1 rfl rfl)
  obtain ⟨A1, c1, ek1, hc1, hr1⟩ := K1
  simp only [Value.cells, List.cons.injEq, and_true] at ek1
  injection ek1 with ea1 el1 ec1
  subst ea1 el1 ec1
  have k2 := h2
  have lt2 : ∀ x ∈ p2, x.block < W.heap.size := by obtain ⟨m, hm⟩ := k2; exact DataW.trod_lt m _ _ _ hm
  obtain ⟨fu2, hf2⟩ := h2
  obtain ⟨x2, K2, G2⟩ := (readsSlice Try.underlying42 (by kernel_rfl) (readsInt Try.underlying3)) enc W 0 (fun _ => true) true fu2 _ _ hf2
  obtain ⟨a2, len2, cap2, rfl⟩ := okWide_slice Try.underlying42 (hval 2 42 v2 rfl rfl)
  obtain ⟨A2, c2, ek2, hc2, hr2⟩ := K2
  simp only [Value.cells, List.cons.injEq, and_true] at ek2
  injection ek2 with ea2 el2 ec2
  subst ea2 el2 ec2
  have h := Pure.ExpandMoves _ _ _ x0 x1 x2 (G0 _ (Nat.le_refl _)) (G1 _ (Nat.le_refl _)) (G2 _ (Nat.le_refl _))
  obtain ⟨k, h⟩ := h
  refine (ebbtidelaw15_ExpandMoves.calls k x0.f0 x0.f1 _ _ x0.f2 x0.f3 x0.f4 x0.f5 _ _ x1 _ _ x2 true W hr0_2 hc0_2 hr1 hc1 hr2 hc2 h).mono fun e W' ⟨he, bel0⟩ => ?_
  have bel : Below W.heap.size W W' := bel0
  subst he
  exact ⟨_, rfl, _, _, _, [], _, [], hW', trodAll_mk1 (shut_bool Try.underlying4 _), (trodAll_cons_mk (Below.trod laidOut (by kernel_rfl) (of_decide_eq_true (by kernel_rfl)) k0 bel lt0) (trodAll_cons_mk (Below.trod laidOut (by kernel_rfl) (of_decide_eq_true (by kernel_rfl)) k1 bel lt1) (trodAll_cons_mk (Below.trod laidOut (by kernel_rfl) (of_decide_eq_true (by kernel_rfl)) k2 bel lt2) trodAll_mk0))), rfl, bel.frame _, fun h => by cases h⟩
theorem andI {a b : Bool} (x : a = true) (y : b = true) : (a && b) = true := by rw [x, y]; rfl
set_option maxRecDepth 100000 in
set_option maxHeartbeats 8000000 in
theorem closed : joinedFacts Try.pinned.checked.prog 6 Try.f6 Rows.expandMovesSpec Rows.expandMovesRow = true := by
  unfold joinedFacts
  exact (andI (andI (andI (andI (andI (andI (andI (andI (andI (andI (andI (andI (andI (andI (andI (andI (andI (andI (andI (andI (andI (andI (andI (andI (andI (andI (andI (andI (andI (andI (andI (by as_aux_lemma => kernel_rfl)
    p_laidOut)
    p_mapsRowed)
    (by as_aux_lemma => kernel_rfl))
    (by as_aux_lemma => kernel_rfl))
    (by as_aux_lemma => kernel_rfl))
    (by rw [p_stops]; rfl))
    (by as_aux_lemma => kernel_rfl))
    (by rw [p_stopKnobs]; rfl))
    (by as_aux_lemma => kernel_rfl))
    (by as_aux_lemma => kernel_rfl))
    (by as_aux_lemma => kernel_rfl))
    (by as_aux_lemma => kernel_rfl))
    (by as_aux_lemma => kernel_rfl))
    (by as_aux_lemma => kernel_rfl))
    (by as_aux_lemma => kernel_rfl))
    (by as_aux_lemma => kernel_rfl))
    (by as_aux_lemma => kernel_rfl))
    (by as_aux_lemma => kernel_rfl))
    (by as_aux_lemma => kernel_rfl))
    (by as_aux_lemma => kernel_rfl))
    (by as_aux_lemma => kernel_rfl))
    (by as_aux_lemma => kernel_rfl))
    (by as_aux_lemma => kernel_rfl))
    p_stopsHeard)
    p_mayEnter)
    (by rw [p_liftsFinal]; rfl))
    (by rw [p_make]; rfl))
    (by as_aux_lemma => kernel_rfl))
    (by as_aux_lemma => kernel_rfl))
    (by as_aux_lemma => kernel_rfl))
    (by as_aux_lemma => kernel_rfl))
theorem proved : Rows.ExpandMovesSaid :=
  OpenClaim.holds_of_wide 6 Try.f6 rfl rfl rfl rfl rfl rfl rfl ⟨rfl, rfl, rfl, rfl, rfl⟩ rfl rfl rfl rfl rfl (by kernel_rfl) Try.func6 closed
    (of_decide_eq_true (by kernel_rfl)) (by unfold Func.isWrapper; first | (rw [if_pos (by decide +kernel)]; kernel_rfl) | (rw [if_neg (by decide +kernel)]; exact ⟨rfl, rfl⟩))
    (fun os started H enc _ => lifted os started H enc)
#print axioms proved
end Go.Proofs.Ytfhkkbpkajfdlaa.expandMoves
namespace Go.Proofs.Ytfhkkbpkajfdlaa
theorem expandMoves_holds : Rows.ExpandMovesSaid := expandMoves.proved
end Go.Proofs.Ytfhkkbpkajfdlaa
end
