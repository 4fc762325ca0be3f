/- A part of the proof: words, contracts, plain lemmas. Conditions: none. -/
import Derived.Test.YtloebciamfbjfaaRows
import Derived.WalkKit
import Derived.ProofKit
import Derived.OpenShut
import Derived.ShutString
import Derived.Test.YtloebciamfbjfaaZPileRounds9
import Derived.ChangeOld
import Derived.Below
import Derived.SizedLaws
section
namespace Go.Proofs.Ytloebciamfbjfaa
open Go Go.RowKit
def ioHead : List Char := List.map Char.ofNat [104, 97, 114, 110, 101, 115, 115, 32, 102, 56, 48, 50, 52, 56, 55, 98, 101, 56, 98, 56, 54, 50, 49, 99, 48, 49, 54, 99, 50, 55, 50, 100, 57, 54, 102, 102, 98, 51, 54, 99, 50, 52, 99, 100, 99, 50, 52, 49, 97, 57, 55, 48, 50, 56, 52, 55, 102, 56, 102, 99, 52, 97, 97, 53, 98, 97, 48, 101, 49, 55, 53, 102, 32, 99, 117, 116, 32]
def ioRest : List Char := List.map Char.ofNat [97, 116, 32, 101, 98, 98, 116, 105, 100, 101, 47, 101, 98, 98, 116, 105, 100, 101, 108, 97, 119, 48, 50, 46, 80, 105, 108, 101, 80, 108, 97, 121, 115, 32, 101, 98, 98, 116, 105, 100, 101, 47, 101, 98, 98, 116, 105, 100, 101, 108, 97, 119, 48, 50, 46, 80, 105, 108, 101, 81, 117, 101, 117, 101, 115, 32, 101, 98, 98, 116, 105, 100, 101, 47, 101, 98, 98, 116, 105, 100, 101, 108, 97, 119, 48, 50, 46, 80, 105, 108, 101, 82, 111, 117, 110, 100, 115, 32, 101, 98, 98, 116, 105, 100, 101, 47, 101, 98, 98, 116, 105, 100, 101, 108, 97, 119, 48, 50, 46, 80, 105, 108, 101, 83, 111, 114, 116, 115, 32, 101, 98, 98, 116, 105, 100, 101, 47, 101, 98, 98, 116, 105, 100, 101, 108, 97, 119, 48, 50, 46, 80, 105, 108, 101, 79, 114, 100, 101, 114, 115]
set_option maxRecDepth 100000 in
theorem io_eq : Try.pinned.checked.prog.initOrder = String.ofList (ioHead ++ ioRest) := by kernel_rfl
theorem io_toList : Try.pinned.checked.prog.initOrder.toList = ioHead ++ ioRest := by rw [io_eq]; exact String.toList_ofList
def ioCut : List Char := List.map Char.ofNat [99, 117, 116]
set_option maxRecDepth 100000 in
theorem io_words (r : List Char) : behindMainWord (wordsSigns (ioHead ++ r)) = ioCut :: wordsSigns r := by kernel_rfl
theorem io_behind : ∃ X, behindMainWord (wordsSigns Try.pinned.checked.prog.initOrder.toList) = ioCut :: X := ⟨_, by rw [io_toList]; exact io_words _⟩
theorem io_cut : ioCut = "cut".toList := by decide +kernel
theorem io_strip (X : List (List Char)) : stripLifts liftWords (ioCut :: X) = ([], ioCut :: X) := by kernel_rfl
theorem headLifts_cut (P : Program) (h : ∃ X, behindMainWord (wordsSigns P.initOrder.toList) = ioCut :: X) : P.headLifts = [] := by
  obtain ⟨X, e⟩ := h
  unfold Program.headLifts
  rw [e, io_strip]
  rfl
theorem mayEnter_cut (P : Program) (h : ∃ X, behindMainWord (wordsSigns P.initOrder.toList) = ioCut :: X) (h1 : P.laysLater = false) (h2 : P.bearsReflect = false) (h3 : P.doorFits [] = true) : P.mayEnter = true := by
  obtain ⟨X, e⟩ := h
  unfold Program.mayEnter
  rw [e]
  simp only [io_strip, h1, h2, h3]
  rw [io_cut]
  simp
theorem liftsFinal_cut (P : Program) (h : ∃ X, behindMainWord (wordsSigns P.initOrder.toList) = ioCut :: X) : P.liftsFinal = false := by
  have h0 := headLifts_cut P h
  obtain ⟨X, e⟩ := h
  unfold Program.liftsFinal
  rw [e, h0]
  rw [io_cut]
  simp
theorem make_cut (P : Program) (h : ∃ X, behindMainWord (wordsSigns P.initOrder.toList) = ioCut :: X) : P.make = some .cut := by
  obtain ⟨X, e⟩ := h
  unfold Program.make
  rw [e]
  simp only [io_cut]
  rw [if_neg (by decide +kernel), if_pos (by simp)]
theorem p_mayEnter : Try.pinned.checked.prog.mayEnter = true := mayEnter_cut _ io_behind (by kernel_rfl) (by kernel_rfl) (by kernel_rfl)
theorem p_liftsFinal : Try.pinned.checked.prog.liftsFinal = false := liftsFinal_cut _ io_behind
theorem p_make : Try.pinned.checked.prog.make = some .cut := make_cut _ io_behind
theorem p_laidOut : laidOutB Try.pinned.checked.prog = true := by kernel_rfl
theorem p_mapsRowed : mapsRowed Try.pinned.checked.prog = true := by kernel_rfl
theorem p_stopsHeard : Try.pinned.checked.prog.stopsHeard = true := by kernel_rfl
theorem p_stops : Try.pinned.checked.prog.stops = [] := by kernel_rfl
theorem p_stopKnobs : Try.pinned.checked.prog.stopKnobs = [] := by kernel_rfl
end Go.Proofs.Ytloebciamfbjfaa
end
section
namespace Go.Proofs.Ytloebciamfbjfaa.pileRounds
open Go.ChangeShapes Go.WideShapes Go.ChangeAt Go.RowKit
open Go.ChangeMaps (open_string shut_string)
open Go.Proofs.Ytloebciamfbjfaa.Q Go.Proofs.Ytloebciamfbjfaa.R Go.Proofs.YtloebciamfbjfaaW.PrintWords
set_option linter.unusedVariables false
theorem own : ownKnob Try.prog.godebug = none := by kernel_rfl
theorem laidOut : laidOutB Try.prog = true := by kernel_rfl
set_option maxRecDepth 100000 in
theorem lifted (os : Os) (started : os.Started) (H : Type) (enc : TypeId × Value → H) :
    ReturnsInHanded {} Try.checked os 5 .any (Rows.pileRoundsSpec.pre6 enc Try.prog Try.f5 Rows.pileRoundsRow.domain false) (Rows.pileRoundsSpec.post enc Try.prog Try.f5 false true false false) := by
  refine returnsInHanded_of_change_sized (C := Try.checked) own started (by kernel_rfl) Try.func5
    (ChangeSpec.witness6 (enc := enc) (C := Try.checked) false ⟨#[], #[.slice none 0 0, .int .i64 0], []⟩ 8 (by kernel_rfl) (by kernel_rfl) (by kernel_rfl) (by kernel_rfl)) ?_
  intro W base args ds gs before hval0 hW hcnd hsz0 _
  have hval : ∀ (j : Nat) t v, Try.f5.params[j]? = some t → args[j]? = some v → Value.okWide Try.prog W .any base t v := hval0
  have hW' := hW
  obtain ⟨p, q, hA0, hV, rfl, hfz, hnd⟩ := hW
  have hA : DataW.TrodAll enc Try.prog W 0 (fun _ => true) true Try.f5.params.toList args.toList ds p := hA0
  rw [Try.params5] at hA hval
  obtain ⟨v0, vs0, d0, ds0, p0, q0, hargs, rfl, rfl, h0, r0⟩ := trodAll_cons hA
  obtain ⟨v1, vs1, d1, ds1, p1, q1, rfl, rfl, rfl, h1, r1⟩ := trodAll_cons r0
  obtain ⟨rfl, rfl, rfl⟩ := trodAll_nil r1
  obtain rfl : args = #[v0, v1] := by cases args; simp_all
  obtain ⟨rfl, rfl⟩ := trodVars_none hV
  have k0 := h0
  have lt0 : ∀ x ∈ p0, x.block < W.heap.size := by obtain ⟨m, hm⟩ := k0; exact DataW.trod_lt m _ _ _ hm
  obtain ⟨fu0, hf0⟩ := h0
  obtain ⟨x0, K0, G0⟩ := (readsSlice Try.underlying52 (by kernel_rfl) (readsInt Try.underlying3)) enc W 0 (fun _ => true) true fu0 _ _ hf0
  obtain ⟨a0, len0, cap0, rfl⟩ := okWide_slice Try.underlying52 (hval 0 52 v0 rfl rfl)
  obtain ⟨A0, c0, ek0, hc0, hr0⟩ := K0
  simp only [Value.cells, List.cons.injEq, and_true] at ek0
  injection ek0 with ea0 el0 ec0
  subst ea0 el0 ec0
  have k1 := h1
  have lt1 : ∀ x ∈ p1, x.block < W.heap.size := by obtain ⟨m, hm⟩ := k1; exact DataW.trod_lt m _ _ _ hm
  obtain ⟨fu1, hf1⟩ := h1
  obtain ⟨x1, K1, G1⟩ := (readsInt Try.underlying3) enc W 0 (fun _ => true) true fu1 _ _ hf1
  obtain ⟨z1, rfl⟩ := okWide_int Try.underlying3 (hval 1 3 v1 rfl rfl)
  obtain rfl : x1 = z1 := Eq.symm (by simpa [Value.cells, Kd.int, Kd.scalar] using K1)
  have h := Pure.PileRounds _ _ x0 x1 (G0 _ (Nat.le_refl _)) (G1 _ (Nat.le_refl _))
  obtain ⟨k, h⟩ := h
  refine (ebbtidelaw02_PileRounds.calls k _ _ x0 x1 true W hr0 hc0 h).mono fun e W' ⟨he, bel0⟩ => ?_
  have bel : Below W.heap.size W W' := bel0
  subst he
  exact ⟨_, rfl, _, _, _, [], _, [], hW', trodAll_mk1 (shut_bool Try.underlying4 _), (trodAll_cons_mk (Below.trod laidOut (by kernel_rfl) (of_decide_eq_true (by kernel_rfl)) k0 bel lt0) (trodAll_cons_mk (Below.trod laidOut (by kernel_rfl) (of_decide_eq_true (by kernel_rfl)) k1 bel lt1) trodAll_mk0)), rfl, bel.frame _, fun h => by cases h⟩
theorem andI {a b : Bool} (x : a = true) (y : b = true) : (a && b) = true := by rw [x, y]; rfl
set_option maxRecDepth 100000 in
set_option maxHeartbeats 8000000 in
theorem closed : joinedFacts Try.pinned.checked.prog 5 Try.f5 Rows.pileRoundsSpec Rows.pileRoundsRow = true := by
  unfold joinedFacts
  exact (andI (andI (andI (andI (andI (andI (andI (andI (andI (andI (andI (andI (andI (andI (andI (andI (andI (andI (andI (andI (andI (andI (andI (andI (andI (andI (andI (andI (andI (andI (andI (by as_aux_lemma => kernel_rfl)
    p_laidOut)
    p_mapsRowed)
    (by as_aux_lemma => kernel_rfl))
    (by as_aux_lemma => kernel_rfl))
    (by as_aux_lemma => kernel_rfl))
    (by rw [p_stops]; rfl))
    (by as_aux_lemma => kernel_rfl))
    (by rw [p_stopKnobs]; rfl))
    (by as_aux_lemma => kernel_rfl))
    (by as_aux_lemma => kernel_rfl))
    (by as_aux_lemma => kernel_rfl))
    (by as_aux_lemma => kernel_rfl))
    (by as_aux_lemma => kernel_rfl))
    (by as_aux_lemma => kernel_rfl))
    (by as_aux_lemma => kernel_rfl))
    (by as_aux_lemma => kernel_rfl))
    (by as_aux_lemma => kernel_rfl))
    (by as_aux_lemma => kernel_rfl))
    (by as_aux_lemma => kernel_rfl))
    (by as_aux_lemma => kernel_rfl))
    (by as_aux_lemma => kernel_rfl))
    (by as_aux_lemma => kernel_rfl))
    (by as_aux_lemma => kernel_rfl))
    p_stopsHeard)
    p_mayEnter)
    (by rw [p_liftsFinal]; rfl))
    (by rw [p_make]; rfl))
    (by as_aux_lemma => kernel_rfl))
    (by as_aux_lemma => kernel_rfl))
    (by as_aux_lemma => kernel_rfl))
    (by as_aux_lemma => kernel_rfl))
theorem proved : Rows.PileRoundsSaid :=
  OpenClaim.holds_of_wide 5 Try.f5 rfl rfl rfl rfl rfl rfl rfl ⟨rfl, rfl, rfl, rfl, rfl⟩ rfl rfl rfl rfl rfl (by kernel_rfl) Try.func5 closed
    (of_decide_eq_true (by kernel_rfl)) (by unfold Func.isWrapper; first | (rw [if_pos (by decide +kernel)]; kernel_rfl) | (rw [if_neg (by decide +kernel)]; exact ⟨rfl, rfl⟩))
    (fun os started H enc _ => lifted os started H enc)
#print axioms proved
end Go.Proofs.Ytloebciamfbjfaa.pileRounds
namespace Go.Proofs.Ytloebciamfbjfaa
theorem pileRounds_holds : Rows.PileRoundsSaid := pileRounds.proved
end Go.Proofs.Ytloebciamfbjfaa
end
