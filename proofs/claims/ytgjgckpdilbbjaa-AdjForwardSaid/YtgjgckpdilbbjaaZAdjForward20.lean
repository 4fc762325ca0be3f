/- A part of the proof: words, contracts, plain lemmas. Conditions: none. -/
import Derived.Test.YtgjgckpdilbbjaaZAdjForward18
import Derived.Test.YtgjgckpdilbbjaaZAdjForward19
import Derived.Test.YtgjgckpdilbbjaaRows
import Derived.WalkKit
import Derived.ProofKit
import Derived.OpenShut
import Derived.ShutString
import Derived.ChangeOld
import Derived.Below
import Derived.SizedLaws
section
namespace Go.Proofs.Ytgjgckpdilbbjaa.R
open Go.RowKit Go.Proofs.Ytgjgckpdilbbjaa.Q Go.Proofs.YtgjgckpdilbbjaaW.PrintWords Go.Proofs.YtgjgckpdilbbjaaW.PrintLast Go.Proofs.YtgjgckpdilbbjaaW.PrintMore
def AdjForward.Pure : Prop := ∀ N0 : Nat, ∀ (x0 : S24), g24 N0 x0 → ∃ k, ebbtidelaw06_AdjForward.f k x0.f0 x0.f1 x0.f2 = some true
end Go.Proofs.Ytgjgckpdilbbjaa.R
end
section
namespace Go.Proofs.Ytgjgckpdilbbjaa.Pure
set_option linter.unusedSimpArgs false
set_option linter.unusedVariables false
open Go.RowKit Go.Proofs.Ytgjgckpdilbbjaa.Q Go.Proofs.Ytgjgckpdilbbjaa.P Go.Proofs.YtgjgckpdilbbjaaW.PrintWords Go.Proofs.YtgjgckpdilbbjaaW.PrintLast Go.Proofs.YtgjgckpdilbbjaaW.PrintMore
open Go.Proofs.Ytgjgckpdilbbjaa.R
def Ats (lr at_ : List Int) (n i : Nat) : Prop := at_.length = n ∧ ∀ u : Nat, u < n → (∀ p : Nat, p < i → lr[p]? = some (u : Int) → rd at_ (u : Int) = (p : Int) + 1) ∧ ((u : Int) ∉ lr.take i → rd at_ (u : Int) = 0)
theorem forward_l1 {n : Nat} {b : Bool} {l : List S37} (hl : l.length ≤ 200) (hfl : ∀ a ∈ l, (0 ≤ a.f0 ∧ a.f0 < (n : Int)) ∧ (0 ≤ a.f1 ∧ a.f1 < (n : Int))) {at_ : List Int} (ha : at_.length = n) (hlt : ∀ a ∈ l, rd at_ a.f0 < rd at_ a.f1) (d : Nat) : ∀ i, i + d = l.length → Ev (fun k => ebbtidelaw06_AdjForward.l1 k true at_ (i : Int) (n : Int) b l) true := by
  induction d with
  | zero => intro i hi; exact ev_cst fun k => by rw [ebbtidelaw06_AdjForward.l1, if_neg (by omega)]
  | succ d ih =>
    intro i hi
    have hm := rdT_mem (l := l) (i := i) (by omega)
    obtain ⟨⟨h1, h2⟩, h3, h4⟩ := hfl _ hm
    have := hlt _ hm
    refine Ev.step (fun k => ?_) (ih (i + 1) (by omega))
    rw [ebbtidelaw06_AdjForward.l1, if_pos (by omega), if_pos (by omega), if_pos h1, if_pos (by rw [ha]; exact h2), if_pos h3, if_pos (by rw [ha]; exact h4), if_neg (by omega), wrap1 (by omega)]
theorem forward_l0 {n : Nat} {b : Bool} {l lr : List Int} {ars : List S37} (hn : n ≤ 50) (hlr : lr.length = n) (hg : P.Good ars n lr)
    (next : ∀ at_, Ats lr at_ n lr.length → Ev (fun k => ebbtidelaw06_AdjForward.l1 k true at_ 0 (n : Int) b ars) true) (d : Nat) : ∀ i at_, i + d = lr.length → Ats lr at_ n i → Ev (fun k => ebbtidelaw06_AdjForward.l0 k true lr at_ (i : Int) (n : Int) b ars) true := by
  induction d with
  | zero =>
    intro i at_ hi h
    have e : i = lr.length := by omega
    subst e
    refine Ev.step (fun k => ?_) (next at_ h)
    rw [ebbtidelaw06_AdjForward.l0, if_neg (by omega)]
  | succ d ih =>
    intro i at_ hi h
    have hil : i < lr.length := by omega
    have hrd : rd lr (i : Int) = lr[i] := by unfold rd; rw [Int.toNat_natCast, List.getD_eq_getElem?_getD, List.getElem?_eq_getElem hil]; rfl
    have hr := hg.rng _ (List.getElem_mem hil)
    obtain ⟨u, hu⟩ : ∃ u : Nat, lr[i] = (u : Int) := ⟨lr[i].toNat, by omega⟩
    have hun : u < n := by omega
    have hnot : (u : Int) ∉ lr.take i := by
      rw [← hu]
      have hn := hg.nod
      rw [← List.take_append_drop i lr, List.drop_eq_getElem_cons hil] at hn
      intro hin
      exact (List.nodup_append.1 hn).2.2 _ hin _ List.mem_cons_self rfl
    have h0 := (h.2 u hun).2 hnot
    refine Ev.step (fun k => ?_) (ih (i + 1) (at_.set u ((i : Int) + 1)) (by omega) ⟨by rw [List.length_set]; exact h.1, fun w hw => ?_⟩)
    · rw [ebbtidelaw06_AdjForward.l0, if_pos (by omega), if_pos (by omega), hrd, hu, if_neg (by omega), if_neg (by omega), if_pos (by omega), if_pos (by rw [h.1]; omega), h0, if_neg (by decide), Int.toNat_natCast, wrap1 (by omega)]
      rfl
    · rw [rd_set (by rw [h.1]; exact hun)]
      have htk : lr.take (i + 1) = lr.take i ++ [(u : Int)] := by rw [List.take_succ_eq_append_getElem hil, hu]
      by_cases c : w = u
      · subst c
        rw [if_pos rfl]
        refine ⟨fun p hp e => ?_, fun g => absurd (by rw [htk]; simp) g⟩
        by_cases c2 : p = i
        · subst c2; rfl
        · exfalso
          refine hnot ?_
          have hpl : p < lr.length := by omega
          rw [List.getElem?_eq_getElem hpl] at e
          have e := Option.some.inj e
          rw [← e]
          exact List.mem_iff_getElem.2 ⟨p, by rw [List.length_take]; omega, List.getElem_take⟩
      · rw [if_neg c]
        refine ⟨fun p hp e => ?_, fun g => (h.2 w hw).2 (fun g2 => g (by rw [htk]; exact List.mem_append.2 (Or.inl g2)))⟩
        by_cases c2 : p = i
        · subst c2
          rw [List.getElem?_eq_getElem hil, hu] at e
          have := Option.some.inj e
          exact absurd (Int.ofNat_inj.1 this).symm c
        · exact (h.2 w hw).1 p (by omega) e
theorem AdjForward : AdjForward.Pure := by
  intro N0 x0 _
  obtain ⟨n, b, l⟩ := x0
  apply Ev.rounds
  show Ev (fun k => ebbtidelaw06_AdjForward.f k n b l) true
  unfold ebbtidelaw06_AdjForward.f
  refine Ev.bind awake06_ev ?_
  simp only [if_true]
  by_cases c : checkErr n l = 0
  · have hN := checkErr_ok.1 c
    have hlo := hN.lo
    have hhi := hN.hi
    have hll := hN.len
    have hnn : (n.toNat : Int) = n := by omega
    obtain ⟨lr, hg, _, he⟩ := order_both b hN (fun _ _ => True) (fun _ _ _ => trivial) (fun _ _ _ _ _ _ _ _ => trivial)
    refine Ev.bind he ?_
    by_cases c2 : (lr.length : Int) < n
    · simp only [if_pos c2, if_true, Bool.not_false]
      refine Ev.step (f := fun _ => some true) (fun k => ?_) (Ev.now _)
      rw [ebbtidelaw06_AdjForward.j0, if_pos rfl, if_pos rfl]
      rfl
    · simp only [if_neg c2, if_true, Bool.not_true]
      have hle := nodup_ints hg.nod hg.rng
      have hlr : lr.length = n.toNat := by omega
      have hfl : ∀ a ∈ l, (0 ≤ a.f0 ∧ a.f0 < (n.toNat : Int)) ∧ (0 ≤ a.f1 ∧ a.f1 < (n.toNat : Int)) := fun a ha => by
        have := hN.arcs a ha
        have h0 := this.f0; have h1 := this.f1
        omega
      have hall : ∀ u : Nat, u < n.toNat → (u : Int) ∈ lr := fun u hu => Classical.byContradiction (fun g => by
        have := nodup_ints (n := n.toNat) (q := (u : Int) :: lr) (List.nodup_cons.2 ⟨g, hg.nod⟩) (fun x hx => by
          rcases List.mem_cons.1 hx with rfl | hx
          · omega
          · exact hg.rng x hx)
        rw [List.length_cons] at this
        omega)
      have hmain := forward_l0 (b := b) (l := lr) (by omega) hlr hg (fun at_ hA => by
        refine forward_l1 (n := n.toNat) (b := b) hll hfl hA.1 (fun a ha => ?_) l.length 0 (by omega)
        obtain ⟨h1, h2⟩ := hfl a ha
        have e0 : a.f0 = ((a.f0.toNat : Nat) : Int) := by omega
        have e1 : a.f1 = ((a.f1.toNat : Nat) : Int) := by omega
        have hin := hall a.f1.toNat (by omega)
        rw [← e1] at hin
        obtain ⟨p, hp, ep⟩ := List.mem_iff_getElem.1 hin
        have ep2 : lr[p]? = some a.f1 := by rw [List.getElem?_eq_getElem hp, ep]
        obtain ⟨p', hp', ep'⟩ := hg.fw a ha p ep2
        have g1 := (hA.2 a.f1.toNat (by omega)).1 p hp (by rw [← e1]; exact ep2)
        have g0 := (hA.2 a.f0.toNat (by omega)).1 p' (by omega) (by rw [← e0]; exact ep')
        rw [← e1] at g1
        rw [← e0] at g0
        omega) lr.length 0 (List.replicate n.toNat 0) (by omega) ⟨by simp, fun u hu => ⟨fun p hp => absurd hp (Nat.not_lt_zero p), fun _ => rd_replicate hu⟩⟩
      rw [hnn] at hmain
      refine Ev.step (fun k => ?_) hmain
      rw [ebbtidelaw06_AdjForward.j0, if_neg (by decide), if_pos (by omega), if_pos (by omega), if_pos (by omega)]
      rfl
  · have he : Ev (fun k => adj_Order.f k n b l) ([], false, checkErr n l) := by
      unfold adj_Order.f
      refine Ev.bind (check_ev n b l) ?_
      simp only [if_neg c]
      exact Ev.now _
    refine Ev.bind he ?_
    simp only [if_neg c]
    refine Ev.step (f := fun _ => some true) (fun k => ?_) (Ev.now _)
    rw [ebbtidelaw06_AdjForward.j0, if_pos rfl, if_pos rfl]
    rfl
end Go.Proofs.Ytgjgckpdilbbjaa.Pure
end
section
namespace Go.Proofs.Ytgjgckpdilbbjaa
open Go Go.RowKit
def ioHead : List Char := List.map Char.ofNat [104, 97, 114, 110, 101, 115, 115, 32, 50, 102, 54, 100, 99, 57, 98, 50, 54, 49, 49, 51, 56, 102, 56, 55, 99, 56, 48, 102, 57, 52, 51, 56, 102, 55, 97, 101, 98, 97, 101, 57, 54, 52, 48, 99, 51, 57, 98, 98, 100, 54, 53, 49, 48, 53, 54, 97, 56, 54, 99, 56, 52, 98, 54, 53, 53, 56, 53, 52, 100, 53, 51, 100, 32, 99, 117, 116, 32]
def ioRest : List Char := List.map Char.ofNat [97, 116, 32, 101, 98, 98, 116, 105, 100, 101, 47, 101, 98, 98, 116, 105, 100, 101, 108, 97, 119, 48, 54, 46, 65, 100, 106, 72, 111, 112, 115, 32, 101, 98, 98, 116, 105, 100, 101, 47, 101, 98, 98, 116, 105, 100, 101, 108, 97, 119, 48, 54, 46, 65, 100, 106, 79, 114, 100, 101, 114, 115, 32, 101, 98, 98, 116, 105, 100, 101, 47, 101, 98, 98, 116, 105, 100, 101, 108, 97, 119, 48, 54, 46, 65, 100, 106, 70, 97, 115, 116, 101, 115, 116, 32, 101, 98, 98, 116, 105, 100, 101, 47, 101, 98, 98, 116, 105, 100, 101, 108, 97, 119, 48, 54, 46, 65, 100, 106, 83, 116, 101, 112, 115, 32, 101, 98, 98, 116, 105, 100, 101, 47, 101, 98, 98, 116, 105, 100, 101, 108, 97, 119, 48, 54, 46, 65, 100, 106, 70, 111, 114, 119, 97, 114, 100, 32, 101, 98, 98, 116, 105, 100, 101, 47, 101, 98, 98, 116, 105, 100, 101, 108, 97, 119, 48, 54, 46, 65, 100, 106, 76, 105, 115, 116, 115, 32, 101, 98, 98, 116, 105, 100, 101, 47, 101, 98, 98, 116, 105, 100, 101, 108, 97, 119, 48, 54, 46, 65, 100, 106, 79, 110, 99, 101]
set_option maxRecDepth 100000 in
theorem io_eq : Try.pinned.checked.prog.initOrder = String.ofList (ioHead ++ ioRest) := by kernel_rfl
theorem io_toList : Try.pinned.checked.prog.initOrder.toList = ioHead ++ ioRest := by rw [io_eq]; exact String.toList_ofList
def ioCut : List Char := List.map Char.ofNat [99, 117, 116]
set_option maxRecDepth 100000 in
theorem io_words (r : List Char) : behindMainWord (wordsSigns (ioHead ++ r)) = ioCut :: wordsSigns r := by kernel_rfl
theorem io_behind : ∃ X, behindMainWord (wordsSigns Try.pinned.checked.prog.initOrder.toList) = ioCut :: X := ⟨_, by rw [io_toList]; exact io_words _⟩
theorem io_cut : ioCut = "cut".toList := by decide +kernel
theorem io_strip (X : List (List Char)) : stripLifts liftWords (ioCut :: X) = ([], ioCut :: X) := by kernel_rfl
theorem headLifts_cut (P : Program) (h : ∃ X, behindMainWord (wordsSigns P.initOrder.toList) = ioCut :: X) : P.headLifts = [] := by
  obtain ⟨X, e⟩ := h
  unfold Program.headLifts
  rw [e, io_strip]
  rfl
theorem mayEnter_cut (P : Program) (h : ∃ X, behindMainWord (wordsSigns P.initOrder.toList) = ioCut :: X) (h1 : P.laysLater = false) (h2 : P.bearsReflect = false) (h3 : P.doorFits [] = true) : P.mayEnter = true := by
  obtain ⟨X, e⟩ := h
  unfold Program.mayEnter
  rw [e]
  simp only [io_strip, h1, h2, h3]
  rw [io_cut]
  simp
theorem liftsFinal_cut (P : Program) (h : ∃ X, behindMainWord (wordsSigns P.initOrder.toList) = ioCut :: X) : P.liftsFinal = false := by
  have h0 := headLifts_cut P h
  obtain ⟨X, e⟩ := h
  unfold Program.liftsFinal
  rw [e, h0]
  rw [io_cut]
  simp
theorem make_cut (P : Program) (h : ∃ X, behindMainWord (wordsSigns P.initOrder.toList) = ioCut :: X) : P.make = some .cut := by
  obtain ⟨X, e⟩ := h
  unfold Program.make
  rw [e]
  simp only [io_cut]
  rw [if_neg (by decide +kernel), if_pos (by simp)]
theorem p_mayEnter : Try.pinned.checked.prog.mayEnter = true := mayEnter_cut _ io_behind (by kernel_rfl) (by kernel_rfl) (by kernel_rfl)
theorem p_liftsFinal : Try.pinned.checked.prog.liftsFinal = false := liftsFinal_cut _ io_behind
theorem p_make : Try.pinned.checked.prog.make = some .cut := make_cut _ io_behind
theorem p_laidOut : laidOutB Try.pinned.checked.prog = true := by kernel_rfl
theorem p_mapsRowed : mapsRowed Try.pinned.checked.prog = true := by kernel_rfl
theorem p_stopsHeard : Try.pinned.checked.prog.stopsHeard = true := by kernel_rfl
theorem p_stops : Try.pinned.checked.prog.stops = [] := by kernel_rfl
theorem p_stopKnobs : Try.pinned.checked.prog.stopKnobs = [] := by kernel_rfl
end Go.Proofs.Ytgjgckpdilbbjaa
end
section
namespace Go.Proofs.Ytgjgckpdilbbjaa.adjForward
open Go.ChangeShapes Go.WideShapes Go.ChangeAt Go.RowKit
open Go.ChangeMaps (open_string shut_string)
open Go.Proofs.Ytgjgckpdilbbjaa.Q Go.Proofs.Ytgjgckpdilbbjaa.R Go.Proofs.YtgjgckpdilbbjaaW.PrintWords
set_option linter.unusedVariables false
theorem own : ownKnob Try.prog.godebug = none := by kernel_rfl
theorem laidOut : laidOutB Try.prog = true := by kernel_rfl
theorem open24 {w : World} {x : S24} {cs : List Value} (h : k24.K w x cs) : ∃ (A2 : Option Addr) (c2 : Nat), cs = [.int .i64 x.f0, .bool x.f1, .slice A2 x.f2.length c2] ∧ x.f2.length ≤ c2 ∧ Kd.C k37 w A2 x.f2.length x.f2 := by
  obtain ⟨_, _, rfl, rfl, ⟨_, _, rfl, rfl, ⟨A2, c2, rfl, l2, g2⟩⟩⟩ := h
  exact ⟨A2, c2, rfl, l2, g2⟩
set_option maxRecDepth 100000 in
theorem lifted (os : Os) (started : os.Started) (H : Type) (enc : TypeId × Value → H) :
    ReturnsInHanded {} Try.checked os 7 .any (Rows.adjForwardSpec.pre6 enc Try.prog Try.f7 Rows.adjForwardRow.domain false) (Rows.adjForwardSpec.post enc Try.prog Try.f7 false true false false) := by
  refine returnsInHanded_of_change_sized (C := Try.checked) own started (by kernel_rfl) Try.func7
    (ChangeSpec.witness6 (enc := enc) (C := Try.checked) false ⟨#[], #[.agg #[.int .i64 0, .bool false, .slice none 0 0]], []⟩ 8 (by kernel_rfl) (by kernel_rfl) (by kernel_rfl) (by kernel_rfl)) ?_
  intro W base args ds gs before hval0 hW hcnd hsz0 _
  have hval : ∀ (j : Nat) t v, Try.f7.params[j]? = some t → args[j]? = some v → Value.okWide Try.prog W .any base t v := hval0
  have hW' := hW
  obtain ⟨p, q, hA0, hV, rfl, hfz, hnd⟩ := hW
  have hA : DataW.TrodAll enc Try.prog W 0 (fun _ => true) true Try.f7.params.toList args.toList ds p := hA0
  rw [Try.params7] at hA hval
  obtain ⟨v0, vs0, d0, ds0, p0, q0, hargs, rfl, rfl, h0, r0⟩ := trodAll_cons hA
  obtain ⟨rfl, rfl, rfl⟩ := trodAll_nil r0
  obtain rfl : args = #[v0] := by cases args; simp_all
  obtain ⟨rfl, rfl⟩ := trodVars_none hV
  have k0 := h0
  have lt0 : ∀ x ∈ p0, x.block < W.heap.size := by obtain ⟨m, hm⟩ := k0; exact DataW.trod_lt m _ _ _ hm
  obtain ⟨fu0, hf0⟩ := h0
  obtain ⟨x0, K0, G0⟩ := reads24 enc W 0 (fun _ => true) true fu0 _ _ hf0
  obtain ⟨cs0, rfl, hsz0⟩ := okWide_struct Try.underlying24 (hval 0 24 v0 rfl rfl)
  have K0' : (k24).K W x0 cs0.toList := K0
  obtain ⟨ao0_2, co0_2, es0, hc0_2, hr0_2⟩ := open24 K0'
  obtain rfl : cs0 = _ := Array.toList_inj.1 es0
  have h := Pure.AdjForward _ x0 (G0 _ (Nat.le_refl _))
  obtain ⟨k, h⟩ := h
  refine (ebbtidelaw06_AdjForward.calls k x0.f0 x0.f1 _ _ x0.f2 true W hr0_2 hc0_2 h).mono fun e W' ⟨he, bel0⟩ => ?_
  have bel : Below W.heap.size W W' := bel0
  subst he
  exact ⟨_, rfl, _, _, _, [], _, [], hW', trodAll_mk1 (shut_bool Try.underlying4 _), (trodAll_cons_mk (Below.trod laidOut (by kernel_rfl) (of_decide_eq_true (by kernel_rfl)) k0 bel lt0) trodAll_mk0), rfl, bel.frame _, fun h => by cases h⟩
theorem andI {a b : Bool} (x : a = true) (y : b = true) : (a && b) = true := by rw [x, y]; rfl
set_option maxRecDepth 100000 in
set_option maxHeartbeats 8000000 in
theorem closed : joinedFacts Try.pinned.checked.prog 7 Try.f7 Rows.adjForwardSpec Rows.adjForwardRow = true := by
  unfold joinedFacts
  exact (andI (andI (andI (andI (andI (andI (andI (andI (andI (andI (andI (andI (andI (andI (andI (andI (andI (andI (andI (andI (andI (andI (andI (andI (andI (andI (andI (andI (andI (andI (andI (by as_aux_lemma => kernel_rfl)
    p_laidOut)
    p_mapsRowed)
    (by as_aux_lemma => kernel_rfl))
    (by as_aux_lemma => kernel_rfl))
    (by as_aux_lemma => kernel_rfl))
    (by rw [p_stops]; rfl))
    (by as_aux_lemma => kernel_rfl))
    (by rw [p_stopKnobs]; rfl))
    (by as_aux_lemma => kernel_rfl))
    (by as_aux_lemma => kernel_rfl))
    (by as_aux_lemma => kernel_rfl))
    (by as_aux_lemma => kernel_rfl))
    (by as_aux_lemma => kernel_rfl))
    (by as_aux_lemma => kernel_rfl))
    (by as_aux_lemma => kernel_rfl))
    (by as_aux_lemma => kernel_rfl))
    (by as_aux_lemma => kernel_rfl))
    (by as_aux_lemma => kernel_rfl))
    (by as_aux_lemma => kernel_rfl))
    (by as_aux_lemma => kernel_rfl))
    (by as_aux_lemma => kernel_rfl))
    (by as_aux_lemma => kernel_rfl))
    (by as_aux_lemma => kernel_rfl))
    p_stopsHeard)
    p_mayEnter)
    (by rw [p_liftsFinal]; rfl))
    (by rw [p_make]; rfl))
    (by as_aux_lemma => kernel_rfl))
    (by as_aux_lemma => kernel_rfl))
    (by as_aux_lemma => kernel_rfl))
    (by as_aux_lemma => kernel_rfl))
theorem proved : Rows.AdjForwardSaid :=
  OpenClaim.holds_of_wide 7 Try.f7 rfl rfl rfl rfl rfl rfl rfl ⟨rfl, rfl, rfl, rfl, rfl⟩ rfl rfl rfl rfl rfl (by kernel_rfl) Try.func7 closed
    (of_decide_eq_true (by kernel_rfl)) (by unfold Func.isWrapper; first | (rw [if_pos (by decide +kernel)]; kernel_rfl) | (rw [if_neg (by decide +kernel)]; exact ⟨rfl, rfl⟩))
    (fun os started H enc _ => lifted os started H enc)
#print axioms proved
end Go.Proofs.Ytgjgckpdilbbjaa.adjForward
namespace Go.Proofs.Ytgjgckpdilbbjaa
theorem adjForward_holds : Rows.AdjForwardSaid := adjForward.proved
end Go.Proofs.Ytgjgckpdilbbjaa
end
