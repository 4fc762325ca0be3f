/- Parts of the proof: words, plain functions and contracts of the law's functions. Conditions: none. -/
import Derived.Test.YtdghehebkalbgaaZMerges23
import Derived.Test.YtdghehebkalbgaaZMerges27
import Derived.Test.YtdghehebkalbgaaZMerges26
import Derived.Test.YtdghehebkalbgaaRows
import Derived.WalkKit
import Derived.ProofKit
import Derived.OpenShut
import Derived.ShutString
import Derived.ChangeOld
import Derived.Below
import Derived.SizedLaws
section
namespace Go.Proofs.Ytdghehebkalbgaa.R
open Go.RowKit Go.Proofs.Ytdghehebkalbgaa.Q Go.Proofs.YtdghehebkalbgaaW.PrintWords Go.Proofs.YtdghehebkalbgaaW.PrintLast Go.Proofs.YtdghehebkalbgaaW.PrintMore
def PlanMerges.Pure : Prop := ∀ N0 : Nat, ∀ (x0 : S38), g38 N0 x0 → ∃ k, ebbtidelaw14_PlanMerges.f k x0.f0.f0 x0.f0.f1 x0.f0.f2 x0.f0.f3 x0.f0.f4 x0.f0.f5 x0.f1 = some true
end Go.Proofs.Ytdghehebkalbgaa.R
end
section
namespace Go.Proofs.Ytdghehebkalbgaa.Pure
open Go.RowKit Go.Proofs.Ytdghehebkalbgaa.Q Go.Proofs.Ytdghehebkalbgaa.P Go.Proofs.YtdghehebkalbgaaW.PrintWords Go.Proofs.YtdghehebkalbgaaW.PrintLast Go.Proofs.YtdghehebkalbgaaW.PrintMore
open Go.Proofs.Ytdghehebkalbgaa.R
theorem PlanMerges : PlanMerges.Pure := by
  intro N0 x0 g
  apply Ev.rounds
  obtain ⟨n, arcs, s, t, h, l, hs, hr⟩ := read_ev x0 g
  have hlen := small_len hs
  have hl := small_ok hs
  have h30 := hs.len
  have hf := small_fit hs
  have hb : Ev (fun k => ebbtidelaw14_PlanMerges.l0 k true s t h l (bk l) (-1) n x0.f0.f1 arcs) true := by
    have em : mergeR l = (mergeL l, 0) := by unfold mergeR; rw [if_pos hf]
    have hmv := fun (m : S45) (hm : m ∈ mergeL l) => ((mergeL_is l).mem m).1 hm
    have hl2 : ∀ x ∈ mergeL l, OkM x := fun x hx => by
      obtain ⟨y, hy, hk⟩ := (mem_keysOf _ _ _).1 (hmv x hx).1
      have h1 := hl y hy
      have e0 : y.f0 = x.f0 := congrArg Prod.fst hk
      have e1 : y.f1 = x.f1 := congrArg Prod.snd hk
      have h2 := hf _ (hmv x hx).1
      rw [← (hmv x hx).2.1] at h2
      exact ⟨e0 ▸ h1.1, e1 ▸ h1.2.1, h2⟩
    have hlen2 : (mergeL l).length ≤ 1048576 := Nat.le_trans (mergeL_length l) hlen
    have hl3 : ∀ x ∈ bk l, OkM x := fun x hx => by
      obtain ⟨y, hy, e0, e1, e2⟩ := bk_mem hx
      have h1 := hl y hy
      refine ⟨e0 ▸ h1.1, e1 ▸ h1.2.1, ?_⟩
      rcases e2 with e2 | e2
      · exact e2 ▸ h1.2.2
      · rw [e2]; unfold fits; omega
    have hlen3 : (bk l).length ≤ 1048576 := by rw [bk_length]; omega
    have p2 : planR x0.f0.f1 n arcs s t h (mergeL l) = planR x0.f0.f1 n arcs s t h l := planR_congr (mergedR_congr (isMerge_fit hf (mergeL_is l)) hf (mergeL_idem l))
    have p3 : planR x0.f0.f1 n arcs s t h (bk l) = planR x0.f0.f1 n arcs s t h l := planR_congr (mergedR_congr (bk_fit hf) hf (bk_merge l).symm)
    refine Ev.step (fun k => by rw [ebbtidelaw14_PlanMerges.l0, if_neg (by decide)]) ?_
    refine Ev.bind (rmoves_ev l hlen hl) ?_
    rw [em]
    refine Ev.bind (checkP_ev hlen hl) (Ev.bind (checkP_ev hlen2 hl2) (Ev.bind (checkP_ev hlen3 hl3) ?_))
    rw [p2, p3]
    simp only [if_true, beq_self_eq_true]
    exact Ev.now _
  have hloop : ∀ i : Nat, i ≤ l.length → Ev (fun k => ebbtidelaw14_PlanMerges.l0 k true s t h l (bk (l.drop i)) ((i : Int) - 1) n x0.f0.f1 arcs) true := by
    intro i
    induction i with
    | zero => intro _; exact hb
    | succ i ih =>
      intro hi
      have hlt : i < l.length := by omega
      refine Ev.step (fun k => ?_) (ih (by omega))
      have e1 : ((i + 1 : Nat) : Int) - 1 = (i : Int) := by omega
      have e2 : wrap64 ((i : Int) - 1) = (i : Int) - 1 := by unfold wrap64; omega
      have e3 : (bk (l.drop (i + 1))).length ≤ 60 := by rw [bk_length, List.length_drop]; omega
      rw [e1, ebbtidelaw14_PlanMerges.l0, if_pos (by omega), if_pos (by omega), if_pos (by omega), rdM_of hlt, e2]
      simp only [Option.bind_some]
      rw [if_pos (by simp; omega), List.drop_eq_getElem_cons hlt, bk]
  have h0 := hloop l.length (Nat.le_refl _)
  rw [List.drop_eq_nil_of_le (Nat.le_refl _)] at h0
  unfold ebbtidelaw14_PlanMerges.f
  refine Ev.bind awake14_ev ?_
  simp only [if_true]
  refine Ev.bind hr ?_
  have e : wrap64 ((l.length : Int) - 1) = (l.length : Int) - 1 := by unfold wrap64; omega
  simp only [e]
  exact h0
end Go.Proofs.Ytdghehebkalbgaa.Pure
end
section
namespace Go.Proofs.Ytdghehebkalbgaa
open Go Go.RowKit
def ioHead : List Char := List.map Char.ofNat [104, 97, 114, 110, 101, 115, 115, 32, 101, 102, 52, 99, 51, 53, 52, 51, 51, 100, 55, 50, 52, 53, 100, 55, 48, 55, 54, 100, 51, 99, 50, 49, 98, 54, 54, 52, 52, 56, 49, 50, 97, 99, 57, 53, 98, 55, 99, 98, 55, 51, 55, 102, 101, 49, 102, 57, 51, 99, 52, 49, 98, 97, 49, 50, 50, 102, 54, 56, 56, 97, 98, 55, 32, 99, 117, 116, 32]
def ioRest : List Char := List.map Char.ofNat [97, 116, 32, 101, 98, 98, 116, 105, 100, 101, 47, 101, 98, 98, 116, 105, 100, 101, 108, 97, 119, 49, 52, 46, 80, 108, 97, 110, 83, 116, 111, 99, 107, 115, 32, 101, 98, 98, 116, 105, 100, 101, 47, 101, 98, 98, 116, 105, 100, 101, 108, 97, 119, 49, 52, 46, 80, 108, 97, 110, 83, 109, 97, 108, 108, 32, 101, 98, 98, 116, 105, 100, 101, 47, 101, 98, 98, 116, 105, 100, 101, 108, 97, 119, 49, 52, 46, 80, 108, 97, 110, 66, 97, 108, 97, 110, 99, 101, 115, 32, 101, 98, 98, 116, 105, 100, 101, 47, 101, 98, 98, 116, 105, 100, 101, 108, 97, 119, 49, 52, 46, 80, 108, 97, 110, 82, 105, 115, 101, 115, 32, 101, 98, 98, 116, 105, 100, 101, 47, 101, 98, 98, 116, 105, 100, 101, 108, 97, 119, 49, 52, 46, 80, 108, 97, 110, 77, 101, 114, 103, 101, 115, 32, 101, 98, 98, 116, 105, 100, 101, 47, 101, 98, 98, 116, 105, 100, 101, 108, 97, 119, 49, 52, 46, 80, 108, 97, 110, 67, 104, 101, 99, 107, 115, 32, 101, 98, 98, 116, 105, 100, 101, 47, 101, 98, 98, 116, 105, 100, 101, 108, 97, 119, 49, 52, 46, 80, 108, 97, 110, 83, 116, 105, 108, 108]
set_option maxRecDepth 100000 in
theorem io_eq : Try.pinned.checked.prog.initOrder = String.ofList (ioHead ++ ioRest) := by kernel_rfl
theorem io_toList : Try.pinned.checked.prog.initOrder.toList = ioHead ++ ioRest := by rw [io_eq]; exact String.toList_ofList
def ioCut : List Char := List.map Char.ofNat [99, 117, 116]
set_option maxRecDepth 100000 in
theorem io_words (r : List Char) : behindMainWord (wordsSigns (ioHead ++ r)) = ioCut :: wordsSigns r := by kernel_rfl
theorem io_behind : ∃ X, behindMainWord (wordsSigns Try.pinned.checked.prog.initOrder.toList) = ioCut :: X := ⟨_, by rw [io_toList]; exact io_words _⟩
theorem io_cut : ioCut = "cut".toList := by decide +kernel
theorem io_strip (X : List (List Char)) : stripLifts liftWords (ioCut :: X) = ([], ioCut :: X) := by kernel_rfl
theorem headLifts_cut (P : Program) (h : ∃ X, behindMainWord (wordsSigns P.initOrder.toList) = ioCut :: X) : P.headLifts = [] := by
  obtain ⟨X, e⟩ := h
  unfold Program.headLifts
  rw [e, io_strip]
  rfl
theorem mayEnter_cut (P : Program) (h : ∃ X, behindMainWord (wordsSigns P.initOrder.toList) = ioCut :: X) (h1 : P.laysLater = false) (h2 : P.bearsReflect = false) (h3 : P.doorFits [] = true) : P.mayEnter = true := by
  obtain ⟨X, e⟩ := h
  unfold Program.mayEnter
  rw [e]
  simp only [io_strip, h1, h2, h3]
  rw [io_cut]
  simp
theorem liftsFinal_cut (P : Program) (h : ∃ X, behindMainWord (wordsSigns P.initOrder.toList) = ioCut :: X) : P.liftsFinal = false := by
  have h0 := headLifts_cut P h
  obtain ⟨X, e⟩ := h
  unfold Program.liftsFinal
  rw [e, h0]
  rw [io_cut]
  simp
theorem make_cut (P : Program) (h : ∃ X, behindMainWord (wordsSigns P.initOrder.toList) = ioCut :: X) : P.make = some .cut := by
  obtain ⟨X, e⟩ := h
  unfold Program.make
  rw [e]
  simp only [io_cut]
  rw [if_neg (by decide +kernel), if_pos (by simp)]
theorem p_mayEnter : Try.pinned.checked.prog.mayEnter = true := mayEnter_cut _ io_behind (by kernel_rfl) (by kernel_rfl) (by kernel_rfl)
theorem p_liftsFinal : Try.pinned.checked.prog.liftsFinal = false := liftsFinal_cut _ io_behind
theorem p_make : Try.pinned.checked.prog.make = some .cut := make_cut _ io_behind
theorem p_laidOut : laidOutB Try.pinned.checked.prog = true := by kernel_rfl
theorem p_mapsRowed : mapsRowed Try.pinned.checked.prog = true := by kernel_rfl
theorem p_stopsHeard : Try.pinned.checked.prog.stopsHeard = true := by kernel_rfl
theorem p_stops : Try.pinned.checked.prog.stops = [] := by kernel_rfl
theorem p_stopKnobs : Try.pinned.checked.prog.stopKnobs = [] := by kernel_rfl
end Go.Proofs.Ytdghehebkalbgaa
end
section
namespace Go.Proofs.Ytdghehebkalbgaa.planMerges
open Go.ChangeShapes Go.WideShapes Go.ChangeAt Go.RowKit
open Go.ChangeMaps (open_string shut_string)
open Go.Proofs.Ytdghehebkalbgaa.Q Go.Proofs.Ytdghehebkalbgaa.R Go.Proofs.YtdghehebkalbgaaW.PrintWords
set_option linter.unusedVariables false
theorem own : ownKnob Try.prog.godebug = none := by kernel_rfl
theorem laidOut : laidOutB Try.prog = true := by kernel_rfl
theorem open38 {w : World} {x : S38} {cs : List Value} (h : k38.K w x cs) : ∃ (A2 : Option Addr) (c2 : Nat) (A6 : Option Addr) (c6 : Nat), cs = [.int .u8 x.f0.f0, .bool x.f0.f1, .slice A2 x.f0.f2.length c2, .int .u8 x.f0.f3, .int .u8 x.f0.f4, .int .u8 x.f0.f5, .slice A6 x.f1.length c6] ∧ x.f0.f2.length ≤ c2 ∧ Kd.C k70 w A2 x.f0.f2.length x.f0.f2 ∧ x.f1.length ≤ c6 ∧ Kd.C k63 w A6 x.f1.length x.f1 := by
  obtain ⟨_, _, rfl, ⟨_, _, rfl, rfl, ⟨_, _, rfl, rfl, ⟨_, _, rfl, ⟨A2, c2, rfl, l2, g2⟩, ⟨_, _, rfl, rfl, ⟨_, _, rfl, rfl, rfl⟩⟩⟩⟩⟩, ⟨A6, c6, rfl, l6, g6⟩⟩ := h
  exact ⟨A2, c2, A6, c6, rfl, l2, g2, l6, g6⟩
set_option maxRecDepth 100000 in
theorem lifted (os : Os) (started : os.Started) (H : Type) (enc : TypeId × Value → H) :
    ReturnsInHanded {} Try.checked os 7 .any (Rows.planMergesSpec.pre6 enc Try.prog Try.f7 Rows.planMergesRow.domain false) (Rows.planMergesSpec.post enc Try.prog Try.f7 false true false false) := by
  refine returnsInHanded_of_change_sized (C := Try.checked) own started (by kernel_rfl) Try.func7
    (ChangeSpec.witness6 (enc := enc) (C := Try.checked) false ⟨#[], #[.agg #[.int .u8 0, .bool false, .slice none 0 0, .int .u8 0, .int .u8 0, .int .u8 0, .slice none 0 0]], []⟩ 8 (by kernel_rfl) (by kernel_rfl) (by kernel_rfl) (by kernel_rfl)) ?_
  intro W base args ds gs before hval0 hW hcnd hsz0 _
  have hval : ∀ (j : Nat) t v, Try.f7.params[j]? = some t → args[j]? = some v → Value.okWide Try.prog W .any base t v := hval0
  have hW' := hW
  obtain ⟨p, q, hA0, hV, rfl, hfz, hnd⟩ := hW
  have hA : DataW.TrodAll enc Try.prog W 0 (fun _ => true) true Try.f7.params.toList args.toList ds p := hA0
  rw [Try.params7] at hA hval
  obtain ⟨v0, vs0, d0, ds0, p0, q0, hargs, rfl, rfl, h0, r0⟩ := trodAll_cons hA
  obtain ⟨rfl, rfl, rfl⟩ := trodAll_nil r0
  obtain rfl : args = #[v0] := by cases args; simp_all
  obtain ⟨rfl, rfl⟩ := trodVars_none hV
  have k0 := h0
  have lt0 : ∀ x ∈ p0, x.block < W.heap.size := by obtain ⟨m, hm⟩ := k0; exact DataW.trod_lt m _ _ _ hm
  obtain ⟨fu0, hf0⟩ := h0
  obtain ⟨x0, K0, G0⟩ := reads38 enc W 0 (fun _ => true) true fu0 _ _ hf0
  obtain ⟨cs0, rfl, hsz0⟩ := okWide_struct Try.underlying38 (hval 0 38 v0 rfl rfl)
  have K0' : (k38).K W x0 cs0.toList := K0
  obtain ⟨ao0_2, co0_2, ao0_6, co0_6, es0, hc0_2, hr0_2, hc0_6, hr0_6⟩ := open38 K0'
  obtain rfl : cs0 = _ := Array.toList_inj.1 es0
  have h := Pure.PlanMerges _ x0 (G0 _ (Nat.le_refl _))
  obtain ⟨k, h⟩ := h
  refine (ebbtidelaw14_PlanMerges.calls k x0.f0.f0 x0.f0.f1 _ _ x0.f0.f2 x0.f0.f3 x0.f0.f4 x0.f0.f5 _ _ x0.f1 true W hr0_2 hc0_2 hr0_6 hc0_6 h).mono fun e W' ⟨he, bel0⟩ => ?_
  have bel : Below W.heap.size W W' := bel0
  subst he
  exact ⟨_, rfl, _, _, _, [], _, [], hW', trodAll_mk1 (shut_bool Try.underlying4 _), (trodAll_cons_mk (Below.trod laidOut (by kernel_rfl) (of_decide_eq_true (by kernel_rfl)) k0 bel lt0) trodAll_mk0), rfl, bel.frame _, fun h => by cases h⟩
theorem andI {a b : Bool} (x : a = true) (y : b = true) : (a && b) = true := by rw [x, y]; rfl
set_option maxRecDepth 100000 in
set_option maxHeartbeats 8000000 in
theorem closed : joinedFacts Try.pinned.checked.prog 7 Try.f7 Rows.planMergesSpec Rows.planMergesRow = true := by
  unfold joinedFacts
  exact (andI (andI (andI (andI (andI (andI (andI (andI (andI (andI (andI (andI (andI (andI (andI (andI (andI (andI (andI (andI (andI (andI (andI (andI (andI (andI (andI (andI (andI (andI (andI (by as_aux_lemma => kernel_rfl)
    p_laidOut)
    p_mapsRowed)
    (by as_aux_lemma => kernel_rfl))
    (by as_aux_lemma => kernel_rfl))
    (by as_aux_lemma => kernel_rfl))
    (by rw [p_stops]; rfl))
    (by as_aux_lemma => kernel_rfl))
    (by rw [p_stopKnobs]; rfl))
    (by as_aux_lemma => kernel_rfl))
    (by as_aux_lemma => kernel_rfl))
    (by as_aux_lemma => kernel_rfl))
    (by as_aux_lemma => kernel_rfl))
    (by as_aux_lemma => kernel_rfl))
    (by as_aux_lemma => kernel_rfl))
    (by as_aux_lemma => kernel_rfl))
    (by as_aux_lemma => kernel_rfl))
    (by as_aux_lemma => kernel_rfl))
    (by as_aux_lemma => kernel_rfl))
    (by as_aux_lemma => kernel_rfl))
    (by as_aux_lemma => kernel_rfl))
    (by as_aux_lemma => kernel_rfl))
    (by as_aux_lemma => kernel_rfl))
    (by as_aux_lemma => kernel_rfl))
    p_stopsHeard)
    p_mayEnter)
    (by rw [p_liftsFinal]; rfl))
    (by rw [p_make]; rfl))
    (by as_aux_lemma => kernel_rfl))
    (by as_aux_lemma => kernel_rfl))
    (by as_aux_lemma => kernel_rfl))
    (by as_aux_lemma => kernel_rfl))
theorem proved : Rows.PlanMergesSaid :=
  OpenClaim.holds_of_wide 7 Try.f7 rfl rfl rfl rfl rfl rfl rfl ⟨rfl, rfl, rfl, rfl, rfl⟩ rfl rfl rfl rfl rfl (by kernel_rfl) Try.func7 closed
    (of_decide_eq_true (by kernel_rfl)) (by unfold Func.isWrapper; first | (rw [if_pos (by decide +kernel)]; kernel_rfl) | (rw [if_neg (by decide +kernel)]; exact ⟨rfl, rfl⟩))
    (fun os started H enc _ => lifted os started H enc)
#print axioms proved
end Go.Proofs.Ytdghehebkalbgaa.planMerges
namespace Go.Proofs.Ytdghehebkalbgaa
theorem planMerges_holds : Rows.PlanMergesSaid := planMerges.proved
end Go.Proofs.Ytdghehebkalbgaa
end
