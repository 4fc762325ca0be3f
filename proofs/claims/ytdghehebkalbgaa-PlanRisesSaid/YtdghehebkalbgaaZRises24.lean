/- Parts of the proof: words, plain functions and contracts of the law's functions. Conditions: none. -/
import Derived.Test.YtdghehebkalbgaaZRises19
import Derived.Test.YtdghehebkalbgaaZRises23
import Derived.Test.YtdghehebkalbgaaZRises22
import Derived.Test.YtdghehebkalbgaaRows
import Derived.WalkKit
import Derived.ProofKit
import Derived.OpenShut
import Derived.ShutString
import Derived.ChangeOld
import Derived.Below
import Derived.SizedLaws
section
namespace Go.Proofs.Ytdghehebkalbgaa.R
open Go.RowKit Go.Proofs.Ytdghehebkalbgaa.Q Go.Proofs.YtdghehebkalbgaaW.PrintWords Go.Proofs.YtdghehebkalbgaaW.PrintLast Go.Proofs.YtdghehebkalbgaaW.PrintMore
def PlanRises.Pure : Prop := ∀ N0 : Nat, ∀ (x0 : S38), g38 N0 x0 → ∃ k, ebbtidelaw14_PlanRises.f k x0.f0.f0 x0.f0.f1 x0.f0.f2 x0.f0.f3 x0.f0.f4 x0.f0.f5 x0.f1 = some true
end Go.Proofs.Ytdghehebkalbgaa.R
end
section
namespace Go.Proofs.Ytdghehebkalbgaa.Pure
open Go.RowKit Go.Proofs.Ytdghehebkalbgaa.Q Go.Proofs.Ytdghehebkalbgaa.P Go.Proofs.YtdghehebkalbgaaW.PrintWords Go.Proofs.YtdghehebkalbgaaW.PrintLast Go.Proofs.YtdghehebkalbgaaW.PrintMore
open Go.Proofs.Ytdghehebkalbgaa.R
theorem PlanRises : PlanRises.Pure := by
  intro N0 x0 g
  apply Ev.rounds
  obtain ⟨n, arcs, s, t, h, l, hs, hr⟩ := read_ev x0 g
  have hlen := small_len hs
  have hl := small_ok hs
  have hh := hs.hor
  unfold ebbtidelaw14_PlanRises.f
  refine Ev.bind awake14_ev ?_
  simp only [if_true]
  refine Ev.bind hr ?_
  refine Ev.bind (checkP_ev hlen hl) (Ev.bind (arrivedP_ev hlen hl) ?_)
  unfold arrivedR
  by_cases c : (planR x0.f0.f1 n arcs s t h l).2 = 0
  · obtain ⟨c1, c2, e⟩ := planR_ok c
    have ho := mergedR_ok c1
    have hlast := planR_later c (by omega)
    have hmono := fun a b => @stk_t_le arcs s t h _ ho.may ho.ends.2.2.1 a b
    have hpos := stk_t_pos ho.may ho.ends.2.2.1 0
    have eL : ((row (tH h) (fun a => stk arcs (mergedR n arcs s t h l).1 a t.toNat)).length : Int) = h + 1 := by rw [row_length]; unfold tH; omega
    have hfin : Ev (fun k => (plan_Check.f k n x0.f0.f1 arcs s t (wrap64 (h + 1)) l).bind fun bt490 => (if true = true then (if bt490.2 = 0 then (some (bt490.1 == (planR x0.f0.f1 n arcs s t h l).1)) else (some false)) else (some false))) true := by
      rw [show wrap64 (h + 1) = h + 1 by unfold wrap64; omega]
      refine Ev.bind (checkP_ev hlen hl) ?_
      rw [hlast]
      simp only [c, if_true, beq_self_eq_true]
      exact Ev.now _
    have hread : ∀ a : Nat, a < tH h → rd (row (tH h) (fun a => stk arcs (mergedR n arcs s t h l).1 a t.toNat)) (a : Int) = stk arcs (mergedR n arcs s t h l).1 a t.toNat := fun a ha => rd_row ha
    have hval : (planR x0.f0.f1 n arcs s t h l).1 = stk arcs (mergedR n arcs s t h l).1 h.toNat t.toNat := by rw [e]
    simp only [c, if_true]
    generalize (mergedR n arcs s t h l).1 = M at *
    generalize hR : (planR x0.f0.f1 n arcs s t h l).1 = R at *
    have hloop : ∀ d i : Nat, i + 1 + d = tH h → Ev (fun k => ebbtidelaw14_PlanRises.l0 k true s t h l R (row (tH h) (fun a => stk arcs M a t.toNat)) ((i + 1 : Nat) : Int) n x0.f0.f1 arcs) true := by
      intro d
      induction d with
      | zero =>
        intro i hi
        refine Ev.step (fun k => ?_) hfin
        rw [ebbtidelaw14_PlanRises.l0, if_neg (by unfold tH at hi; omega)]
      | succ d ih =>
        intro i hi
        have hu : tH h = h.toNat + 1 := rfl
        have hm := hmono i (i + 1) (by omega)
        refine Ev.step (fun k => ?_) (ih (i + 1) (by omega))
        have e1 : wrap64 (((i + 1 : Nat) : Int) - 1) = (i : Int) := by unfold wrap64; omega
        have e2 := hread i (by omega)
        have e3 := hread (i + 1) (by omega)
        rw [ebbtidelaw14_PlanRises.l0, if_pos (by omega), if_pos (by omega), if_pos (by omega), e1, if_pos (by omega), if_pos (by omega), e2, e3, if_neg (by omega), wrap1 (by omega)]
    have e0 : rd (row (tH h) (fun a => stk arcs M a t.toNat)) 0 = stk arcs M 0 t.toNat := hread 0 (by unfold tH; omega)
    have eh : rd (row (tH h) (fun a => stk arcs M a t.toNat)) h = stk arcs M h.toNat t.toNat := by
      have := hread h.toNat (by unfold tH; omega)
      rw [show ((h.toNat : Nat) : Int) = h by omega] at this
      exact this
    have ew : wrap64 (h + 1) = h + 1 := by unfold wrap64; omega
    have q1 : h < h + 1 := by omega
    have q2 : 0 < h + 1 := by omega
    have q3 : ¬ stk arcs M 0 t.toNat < 0 := by omega
    simp only [eL, ew, if_true, hh.1, q1, q2, eh, hval, e0, q3, decide_false]
    refine Ev.step (f := fun k => ebbtidelaw14_PlanRises.l0 k true s t h l (stk arcs M h.toNat t.toNat) (row (tH h) (fun a => stk arcs M a t.toNat)) 1 n x0.f0.f1 arcs) (fun k => by rw [ebbtidelaw14_PlanRises.j0, if_neg (by decide)]) ?_
    have h1 := hloop h.toNat 0 (by unfold tH; omega)
    rw [hval] at h1
    exact h1
  · simp only [c, if_false, if_true]
    exact Ev.now _
end Go.Proofs.Ytdghehebkalbgaa.Pure
end
section
namespace Go.Proofs.Ytdghehebkalbgaa
open Go Go.RowKit
def ioHead : List Char := List.map Char.ofNat [104, 97, 114, 110, 101, 115, 115, 32, 101, 102, 52, 99, 51, 53, 52, 51, 51, 100, 55, 50, 52, 53, 100, 55, 48, 55, 54, 100, 51, 99, 50, 49, 98, 54, 54, 52, 52, 56, 49, 50, 97, 99, 57, 53, 98, 55, 99, 98, 55, 51, 55, 102, 101, 49, 102, 57, 51, 99, 52, 49, 98, 97, 49, 50, 50, 102, 54, 56, 56, 97, 98, 55, 32, 99, 117, 116, 32]
def ioRest : List Char := List.map Char.ofNat [97, 116, 32, 101, 98, 98, 116, 105, 100, 101, 47, 101, 98, 98, 116, 105, 100, 101, 108, 97, 119, 49, 52, 46, 80, 108, 97, 110, 83, 116, 111, 99, 107, 115, 32, 101, 98, 98, 116, 105, 100, 101, 47, 101, 98, 98, 116, 105, 100, 101, 108, 97, 119, 49, 52, 46, 80, 108, 97, 110, 83, 109, 97, 108, 108, 32, 101, 98, 98, 116, 105, 100, 101, 47, 101, 98, 98, 116, 105, 100, 101, 108, 97, 119, 49, 52, 46, 80, 108, 97, 110, 66, 97, 108, 97, 110, 99, 101, 115, 32, 101, 98, 98, 116, 105, 100, 101, 47, 101, 98, 98, 116, 105, 100, 101, 108, 97, 119, 49, 52, 46, 80, 108, 97, 110, 82, 105, 115, 101, 115, 32, 101, 98, 98, 116, 105, 100, 101, 47, 101, 98, 98, 116, 105, 100, 101, 108, 97, 119, 49, 52, 46, 80, 108, 97, 110, 77, 101, 114, 103, 101, 115, 32, 101, 98, 98, 116, 105, 100, 101, 47, 101, 98, 98, 116, 105, 100, 101, 108, 97, 119, 49, 52, 46, 80, 108, 97, 110, 67, 104, 101, 99, 107, 115, 32, 101, 98, 98, 116, 105, 100, 101, 47, 101, 98, 98, 116, 105, 100, 101, 108, 97, 119, 49, 52, 46, 80, 108, 97, 110, 83, 116, 105, 108, 108]
set_option maxRecDepth 100000 in
theorem io_eq : Try.pinned.checked.prog.initOrder = String.ofList (ioHead ++ ioRest) := by kernel_rfl
theorem io_toList : Try.pinned.checked.prog.initOrder.toList = ioHead ++ ioRest := by rw [io_eq]; exact String.toList_ofList
def ioCut : List Char := List.map Char.ofNat [99, 117, 116]
set_option maxRecDepth 100000 in
theorem io_words (r : List Char) : behindMainWord (wordsSigns (ioHead ++ r)) = ioCut :: wordsSigns r := by kernel_rfl
theorem io_behind : ∃ X, behindMainWord (wordsSigns Try.pinned.checked.prog.initOrder.toList) = ioCut :: X := ⟨_, by rw [io_toList]; exact io_words _⟩
theorem io_cut : ioCut = "cut".toList := by decide +kernel
theorem io_strip (X : List (List Char)) : stripLifts liftWords (ioCut :: X) = ([], ioCut :: X) := by kernel_rfl
theorem headLifts_cut (P : Program) (h : ∃ X, behindMainWord (wordsSigns P.initOrder.toList) = ioCut :: X) : P.headLifts = [] := by
  obtain ⟨X, e⟩ := h
  unfold Program.headLifts
  rw [e, io_strip]
  rfl
theorem mayEnter_cut (P : Program) (h : ∃ X, behindMainWord (wordsSigns P.initOrder.toList) = ioCut :: X) (h1 : P.laysLater = false) (h2 : P.bearsReflect = false) (h3 : P.doorFits [] = true) : P.mayEnter = true := by
  obtain ⟨X, e⟩ := h
  unfold Program.mayEnter
  rw [e]
  simp only [io_strip, h1, h2, h3]
  rw [io_cut]
  simp
theorem liftsFinal_cut (P : Program) (h : ∃ X, behindMainWord (wordsSigns P.initOrder.toList) = ioCut :: X) : P.liftsFinal = false := by
  have h0 := headLifts_cut P h
  obtain ⟨X, e⟩ := h
  unfold Program.liftsFinal
  rw [e, h0]
  rw [io_cut]
  simp
theorem make_cut (P : Program) (h : ∃ X, behindMainWord (wordsSigns P.initOrder.toList) = ioCut :: X) : P.make = some .cut := by
  obtain ⟨X, e⟩ := h
  unfold Program.make
  rw [e]
  simp only [io_cut]
  rw [if_neg (by decide +kernel), if_pos (by simp)]
theorem p_mayEnter : Try.pinned.checked.prog.mayEnter = true := mayEnter_cut _ io_behind (by kernel_rfl) (by kernel_rfl) (by kernel_rfl)
theorem p_liftsFinal : Try.pinned.checked.prog.liftsFinal = false := liftsFinal_cut _ io_behind
theorem p_make : Try.pinned.checked.prog.make = some .cut := make_cut _ io_behind
theorem p_laidOut : laidOutB Try.pinned.checked.prog = true := by kernel_rfl
theorem p_mapsRowed : mapsRowed Try.pinned.checked.prog = true := by kernel_rfl
theorem p_stopsHeard : Try.pinned.checked.prog.stopsHeard = true := by kernel_rfl
theorem p_stops : Try.pinned.checked.prog.stops = [] := by kernel_rfl
theorem p_stopKnobs : Try.pinned.checked.prog.stopKnobs = [] := by kernel_rfl
end Go.Proofs.Ytdghehebkalbgaa
end
section
namespace Go.Proofs.Ytdghehebkalbgaa.planRises
open Go.ChangeShapes Go.WideShapes Go.ChangeAt Go.RowKit
open Go.ChangeMaps (open_string shut_string)
open Go.Proofs.Ytdghehebkalbgaa.Q Go.Proofs.Ytdghehebkalbgaa.R Go.Proofs.YtdghehebkalbgaaW.PrintWords
set_option linter.unusedVariables false
theorem own : ownKnob Try.prog.godebug = none := by kernel_rfl
theorem laidOut : laidOutB Try.prog = true := by kernel_rfl
theorem open38 {w : World} {x : S38} {cs : List Value} (h : k38.K w x cs) : ∃ (A2 : Option Addr) (c2 : Nat) (A6 : Option Addr) (c6 : Nat), cs = [.int .u8 x.f0.f0, .bool x.f0.f1, .slice A2 x.f0.f2.length c2, .int .u8 x.f0.f3, .int .u8 x.f0.f4, .int .u8 x.f0.f5, .slice A6 x.f1.length c6] ∧ x.f0.f2.length ≤ c2 ∧ Kd.C k70 w A2 x.f0.f2.length x.f0.f2 ∧ x.f1.length ≤ c6 ∧ Kd.C k63 w A6 x.f1.length x.f1 := by
  obtain ⟨_, _, rfl, ⟨_, _, rfl, rfl, ⟨_, _, rfl, rfl, ⟨_, _, rfl, ⟨A2, c2, rfl, l2, g2⟩, ⟨_, _, rfl, rfl, ⟨_, _, rfl, rfl, rfl⟩⟩⟩⟩⟩, ⟨A6, c6, rfl, l6, g6⟩⟩ := h
  exact ⟨A2, c2, A6, c6, rfl, l2, g2, l6, g6⟩
set_option maxRecDepth 100000 in
theorem lifted (os : Os) (started : os.Started) (H : Type) (enc : TypeId × Value → H) :
    ReturnsInHanded {} Try.checked os 6 .any (Rows.planRisesSpec.pre6 enc Try.prog Try.f6 Rows.planRisesRow.domain false) (Rows.planRisesSpec.post enc Try.prog Try.f6 false true false false) := by
  refine returnsInHanded_of_change_sized (C := Try.checked) own started (by kernel_rfl) Try.func6
    (ChangeSpec.witness6 (enc := enc) (C := Try.checked) false ⟨#[], #[.agg #[.int .u8 0, .bool false, .slice none 0 0, .int .u8 0, .int .u8 0, .int .u8 0, .slice none 0 0]], []⟩ 8 (by kernel_rfl) (by kernel_rfl) (by kernel_rfl) (by kernel_rfl)) ?_
  intro W base args ds gs before hval0 hW hcnd hsz0 _
  have hval : ∀ (j : Nat) t v, Try.f6.params[j]? = some t → args[j]? = some v → Value.okWide Try.prog W .any base t v := hval0
  have hW' := hW
  obtain ⟨p, q, hA0, hV, rfl, hfz, hnd⟩ := hW
  have hA : DataW.TrodAll enc Try.prog W 0 (fun _ => true) true Try.f6.params.toList args.toList ds p := hA0
  rw [Try.params6] at hA hval
  obtain ⟨v0, vs0, d0, ds0, p0, q0, hargs, rfl, rfl, h0, r0⟩ := trodAll_cons hA
  obtain ⟨rfl, rfl, rfl⟩ := trodAll_nil r0
  obtain rfl : args = #[v0] := by cases args; simp_all
  obtain ⟨rfl, rfl⟩ := trodVars_none hV
  have k0 := h0
  have lt0 : ∀ x ∈ p0, x.block < W.heap.size := by obtain ⟨m, hm⟩ := k0; exact DataW.trod_lt m _ _ _ hm
  obtain ⟨fu0, hf0⟩ := h0
  obtain ⟨x0, K0, G0⟩ := reads38 enc W 0 (fun _ => true) true fu0 _ _ hf0
  obtain ⟨cs0, rfl, hsz0⟩ := okWide_struct Try.underlying38 (hval 0 38 v0 rfl rfl)
  have K0' : (k38).K W x0 cs0.toList := K0
  obtain ⟨ao0_2, co0_2, ao0_6, co0_6, es0, hc0_2, hr0_2, hc0_6, hr0_6⟩ := open38 K0'
  obtain rfl : cs0 = _ := Array.toList_inj.1 es0
  have h := Pure.PlanRises _ x0 (G0 _ (Nat.le_refl _))
  obtain ⟨k, h⟩ := h
  refine (ebbtidelaw14_PlanRises.calls k x0.f0.f0 x0.f0.f1 _ _ x0.f0.f2 x0.f0.f3 x0.f0.f4 x0.f0.f5 _ _ x0.f1 true W hr0_2 hc0_2 hr0_6 hc0_6 h).mono fun e W' ⟨he, bel0⟩ => ?_
  have bel : Below W.heap.size W W' := bel0
  subst he
  exact ⟨_, rfl, _, _, _, [], _, [], hW', trodAll_mk1 (shut_bool Try.underlying4 _), (trodAll_cons_mk (Below.trod laidOut (by kernel_rfl) (of_decide_eq_true (by kernel_rfl)) k0 bel lt0) trodAll_mk0), rfl, bel.frame _, fun h => by cases h⟩
theorem andI {a b : Bool} (x : a = true) (y : b = true) : (a && b) = true := by rw [x, y]; rfl
set_option maxRecDepth 100000 in
set_option maxHeartbeats 8000000 in
theorem closed : joinedFacts Try.pinned.checked.prog 6 Try.f6 Rows.planRisesSpec Rows.planRisesRow = true := by
  unfold joinedFacts
  exact (andI (andI (andI (andI (andI (andI (andI (andI (andI (andI (andI (andI (andI (andI (andI (andI (andI (andI (andI (andI (andI (andI (andI (andI (andI (andI (andI (andI (andI (andI (andI (by as_aux_lemma => kernel_rfl)
    p_laidOut)
    p_mapsRowed)
    (by as_aux_lemma => kernel_rfl))
    (by as_aux_lemma => kernel_rfl))
    (by as_aux_lemma => kernel_rfl))
    (by rw [p_stops]; rfl))
    (by as_aux_lemma => kernel_rfl))
    (by rw [p_stopKnobs]; rfl))
    (by as_aux_lemma => kernel_rfl))
    (by as_aux_lemma => kernel_rfl))
    (by as_aux_lemma => kernel_rfl))
    (by as_aux_lemma => kernel_rfl))
    (by as_aux_lemma => kernel_rfl))
    (by as_aux_lemma => kernel_rfl))
    (by as_aux_lemma => kernel_rfl))
    (by as_aux_lemma => kernel_rfl))
    (by as_aux_lemma => kernel_rfl))
    (by as_aux_lemma => kernel_rfl))
    (by as_aux_lemma => kernel_rfl))
    (by as_aux_lemma => kernel_rfl))
    (by as_aux_lemma => kernel_rfl))
    (by as_aux_lemma => kernel_rfl))
    (by as_aux_lemma => kernel_rfl))
    p_stopsHeard)
    p_mayEnter)
    (by rw [p_liftsFinal]; rfl))
    (by rw [p_make]; rfl))
    (by as_aux_lemma => kernel_rfl))
    (by as_aux_lemma => kernel_rfl))
    (by as_aux_lemma => kernel_rfl))
    (by as_aux_lemma => kernel_rfl))
theorem proved : Rows.PlanRisesSaid :=
  OpenClaim.holds_of_wide 6 Try.f6 rfl rfl rfl rfl rfl rfl rfl ⟨rfl, rfl, rfl, rfl, rfl⟩ rfl rfl rfl rfl rfl (by kernel_rfl) Try.func6 closed
    (of_decide_eq_true (by kernel_rfl)) (by unfold Func.isWrapper; first | (rw [if_pos (by decide +kernel)]; kernel_rfl) | (rw [if_neg (by decide +kernel)]; exact ⟨rfl, rfl⟩))
    (fun os started H enc _ => lifted os started H enc)
#print axioms proved
end Go.Proofs.Ytdghehebkalbgaa.planRises
namespace Go.Proofs.Ytdghehebkalbgaa
theorem planRises_holds : Rows.PlanRisesSaid := planRises.proved
end Go.Proofs.Ytdghehebkalbgaa
end
