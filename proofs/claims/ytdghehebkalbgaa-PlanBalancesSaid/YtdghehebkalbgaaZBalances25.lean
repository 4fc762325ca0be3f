/- Parts of the proof: words, plain functions and contracts of the law's functions. Conditions: none. -/
import Derived.Test.YtdghehebkalbgaaZBalances20
import Derived.Test.YtdghehebkalbgaaZBalances24
import Derived.Test.YtdghehebkalbgaaZBalances23
import Derived.Test.YtdghehebkalbgaaRows
import Derived.WalkKit
import Derived.ProofKit
import Derived.OpenShut
import Derived.ShutString
import Derived.ChangeOld
import Derived.Below
import Derived.SizedLaws
section
namespace Go.Proofs.Ytdghehebkalbgaa.R
open Go.RowKit Go.Proofs.Ytdghehebkalbgaa.Q Go.Proofs.YtdghehebkalbgaaW.PrintWords Go.Proofs.YtdghehebkalbgaaW.PrintLast Go.Proofs.YtdghehebkalbgaaW.PrintMore
def PlanBalances.Pure : Prop := ∀ N0 : Nat, ∀ (x0 : S38), g38 N0 x0 → ∃ k, ebbtidelaw14_PlanBalances.f k x0.f0.f0 x0.f0.f1 x0.f0.f2 x0.f0.f3 x0.f0.f4 x0.f0.f5 x0.f1 = some true
end Go.Proofs.Ytdghehebkalbgaa.R
end
section
namespace Go.Proofs.Ytdghehebkalbgaa.Pure
open Go.RowKit Go.Proofs.Ytdghehebkalbgaa.Q Go.Proofs.Ytdghehebkalbgaa.P Go.Proofs.YtdghehebkalbgaaW.PrintWords Go.Proofs.YtdghehebkalbgaaW.PrintLast Go.Proofs.YtdghehebkalbgaaW.PrintMore
open Go.Proofs.Ytdghehebkalbgaa.R
theorem PlanBalances : PlanBalances.Pure := by
  intro N0 x0 g
  apply Ev.rounds
  obtain ⟨n, arcs, s, t, h, l, hs, hr⟩ := read_ev x0 g
  have hlen := small_len hs
  have hl := small_ok hs
  have hh := hs.hor
  have h30 := hs.len
  have h2 := hs.two
  have hnet := hs.net
  have hends := hs.ends
  unfold ebbtidelaw14_PlanBalances.f
  refine Ev.bind awake14_ev ?_
  simp only [if_true]
  refine Ev.bind hr ?_
  refine Ev.bind (stocksP_ev hlen hl) ?_
  unfold stocksR
  by_cases c : (mergedR n arcs s t h l).2 = 0
  · have ho := mergedR_ok c
    have hmax := merged_len hlen c
    simp only [c, if_true]
    have hsrc : (planR x0.f0.f1 n arcs s t h l).2 = 0 → stk arcs (mergedR n arcs s t h l).1 h.toNat s.toNat = -(planR x0.f0.f1 n arcs s t h l).1 := fun k => source_left k
    have hall := fun a => all_nothing hnet ho.may a
    have hway : ∀ a : Nat, wsum (cWay arcs (a : Int)) (mergedR n arcs s t h l).1 = wsum (cWay arcs (a : Int)) l := fun a => by
      rw [ho.is]; exact wsum_merge _ (mergeL_is l)
    have hbd : ∀ a v : Nat, -1099511627776 ≤ stk arcs (mergedR n arcs s t h l).1 a v ∧ stk arcs (mergedR n arcs s t h l).1 a v ≤ 1099511627776 := fun a v =>
      stk_bd hnet hmax ho.may (fun _ h => h) (Nat.le_refl _) _ (cStk_bd arcs (v : Int) (a : Int))
    have hcheck := checkP_ev (hold := x0.f0.f1) (n := n) (arcs := arcs) (s := s) (t := t) (h := h) hlen hl
    generalize (mergedR n arcs s t h l).1 = M at *
    generalize planR x0.f0.f1 n arcs s t h l = R at *
    have eL : ((SM n arcs h M).length : Int) = h + 1 := by unfold SM; rw [mat_length]; unfold tH; omega
    have hrow : ∀ a : Nat, a < tH h → rd_L3 (SM n arcs h M) (a : Int) = row (tV n) (stk arcs M a) := fun a ha => rdL_row ha
    have hget : ∀ a v : Nat, v < tV n → rd (row (tV n) (stk arcs M a)) (v : Int) = stk arcs M a v := fun a v hv => rd_row hv
    have eV : ((tV n : Nat) : Int) = n := by unfold tV; omega
    have eH : tH h = h.toNat + 1 := rfl
    have hfin : Ev (fun k => ebbtidelaw14_PlanBalances.l0 k true s t h l (SM n arcs h M) ((tH h : Nat) : Int) n x0.f0.f1 arcs) true := by
      refine Ev.step (fun k => by rw [ebbtidelaw14_PlanBalances.l0, if_neg (by omega)]) ?_
      refine Ev.bind hcheck ?_
      simp only [if_true]
      by_cases c3 : R.2 = 0
      · have e1 := hrow h.toNat (by omega)
        have e2 := hget h.toNat s.toNat (by unfold tV; omega)
        rw [show ((h.toNat : Nat) : Int) = h by omega] at e1
        rw [show ((s.toNat : Nat) : Int) = s by omega] at e2
        have e3 := hsrc c3
        have e4 := hbd h.toNat s.toNat
        have e5 : wrap64 (-R.1) = -R.1 := by unfold wrap64; omega
        have q1 : h < ((SM n arcs h M).length : Int) := by omega
        have q2 : s < ((row (tV n) (stk arcs M h.toNat)).length : Int) := by rw [row_length]; omega
        simp only [c3, if_true, hh.1, q1, hends.1, e1, q2, e2, e3, e5, beq_self_eq_true]
        exact Ev.now _
      · simp only [c3, if_false]
        exact Ev.now _
    have hloop : ∀ d a : Nat, a + d = tH h → Ev (fun k => ebbtidelaw14_PlanBalances.l0 k true s t h l (SM n arcs h M) (a : Int) n x0.f0.f1 arcs) true := by
      intro d
      induction d with
      | zero => intro a ha; rw [show a = tH h by omega]; exact hfin
      | succ d ih =>
        intro a ha
        have hnext := ih (a + 1) (by omega)
        have e1 := hrow a (by omega)
        have hnodes : ∀ e v : Nat, v + e = tV n → Ev (fun k => ebbtidelaw14_PlanBalances.l2 k true s t h l (SM n arcs h M) (a : Int) (wsum (cWay arcs (a : Int)) l + psum (stk arcs M a) v) (v : Int) n x0.f0.f1 arcs) true := by
          intro e
          induction e with
          | zero =>
            intro v hv
            have hz := hall a
            rw [hway] at hz
            refine Ev.step (fun k => ?_) hnext
            rw [ebbtidelaw14_PlanBalances.l2, if_neg (by omega), show v = tV n by omega, hz, if_pos rfl, wrap1 (by omega)]
          | succ e ih2 =>
            intro v hv
            have hv2 : v < tV n := by omega
            refine Ev.step (fun k => ?_) (ih2 (v + 1) (by omega))
            have hb1 := wsum_bd (c := cWay arcs (a : Int)) (l := l) (B := 3) (by decide) (fun x _ => by unfold cWay; split <;> omega) (fun x hx => (hs.mv x hx).2.2.2.2)
            have hb2 : ∀ w : Nat, -(1099511627776 * (w : Int)) ≤ psum (stk arcs M a) w ∧ psum (stk arcs M a) w ≤ 1099511627776 * (w : Int) := by
              intro w
              induction w with
              | zero => exact ⟨by simp [psum], by simp [psum]⟩
              | succ w ihw =>
                have := hbd a w
                rw [psum]
                omega
            have hb3 := hb2 v
            have hb4 := hbd a v
            have hw : wrap64 (wsum (cWay arcs (a : Int)) l + psum (stk arcs M a) v + stk arcs M a v) = wsum (cWay arcs (a : Int)) l + psum (stk arcs M a) (v + 1) := by
              rw [psum]
              rw [w64 (by omega) (by omega)]
              omega
            rw [ebbtidelaw14_PlanBalances.l2, if_pos (by omega), if_pos (by omega), if_pos (by omega), if_pos (by omega), e1, if_pos (by rw [row_length]; omega), hget a v hv2, hw, wrap1 (by omega)]
        have hmoves : ∀ e i : Nat, i + e = l.length → Ev (fun k => ebbtidelaw14_PlanBalances.l1 k true s t h l (SM n arcs h M) (a : Int) (wsum (cWay arcs (a : Int)) (l.take i)) (i : Int) n x0.f0.f1 arcs) true := by
          intro e
          induction e with
          | zero =>
            intro i hi
            have h0 := hnodes (tV n) 0 (by omega)
            rw [psum, Int.add_zero] at h0
            refine Ev.step (fun k => ?_) h0
            rw [ebbtidelaw14_PlanBalances.l1, if_neg (by omega), if_pos (by omega), if_pos (by omega), e1, if_pos (by rw [row_length]; omega), List.take_of_length_le (by omega)]
            rfl
          | succ e ih2 =>
            intro i hi
            have hlt : i < l.length := by omega
            have hm := hs.mv l[i] (List.getElem_mem hlt)
            have hok := arcAt_ok hnet hm.1 hm.2.1
            have h3 := hok.f3
            have hb1 := wsum_bd (c := cWay arcs (a : Int)) (l := l.take i) (B := 3) (by decide) (fun x _ => by unfold cWay; split <;> omega) (fun x hx => (hs.mv x (List.mem_of_mem_take hx)).2.2.2.2)
            have hb2 : (l.take i).length ≤ 30 := by rw [List.length_take]; omega
            have hst : wsum (cWay arcs (a : Int)) (l.take (i + 1)) = wsum (cWay arcs (a : Int)) (l.take i) + cWay arcs (a : Int) (keyM l[i]) * l[i].f2 := by
              rw [List.take_succ_eq_append_getElem hlt, wsum_append, wsum_cons, wsum_nil, Int.add_zero]
            have hi2 := ih2 (i + 1) (by omega)
            rw [hst] at hi2
            have ew : wrap64 (l[i].f1 + (rd_T47 arcs l[i].f0).f3) = l[i].f1 + (arcAt arcs l[i].f0).f3 := w64 (show _ ≤ l[i].f1 + (arcAt arcs l[i].f0).f3 by omega) (show l[i].f1 + (arcAt arcs l[i].f0).f3 ≤ _ by omega)
            have ea : wrap64 (wsum (cWay arcs (a : Int)) (l.take i) + l[i].f2) = wsum (cWay arcs (a : Int)) (l.take i) + l[i].f2 := w64 (by omega) (by omega)
            have ec : cWay arcs (a : Int) (keyM l[i]) = if l[i].f1 ≤ (a : Int) ∧ l[i].f1 + (arcAt arcs l[i].f0).f3 > (a : Int) then 1 else 0 := rfl
            rw [ec] at hi2
            refine Ev.step (fun k => ?_) hi2
            rw [ebbtidelaw14_PlanBalances.l1, if_pos (by omega), if_pos (by omega), rdM_of hlt, ew, ea, wrap1 (by omega)]
            by_cases k1 : l[i].f1 ≤ (a : Int)
            · rw [if_pos k1, if_pos hm.1, if_pos hm.2.1]
              by_cases k2 : l[i].f1 + (arcAt arcs l[i].f0).f3 > (a : Int)
              · rw [if_pos k2, if_pos ⟨k1, k2⟩, Int.one_mul]
              · rw [if_neg k2, if_neg (fun h => k2 h.2), Int.zero_mul, Int.add_zero]
            · rw [if_neg k1, if_neg (fun h => k1 h.1), Int.zero_mul, Int.add_zero]
        refine Ev.step (fun k => ?_) (hmoves l.length 0 (by omega))
        rw [ebbtidelaw14_PlanBalances.l0, if_pos (by omega)]
        rfl
    have ew : wrap64 (h + 1) = h + 1 := by unfold wrap64; omega
    simp only [eL, ew, if_true]
    exact hloop (tH h) 0 (by omega)
  · simp only [c, if_false]
    exact Ev.now _
end Go.Proofs.Ytdghehebkalbgaa.Pure
end
section
namespace Go.Proofs.Ytdghehebkalbgaa
open Go Go.RowKit
def ioHead : List Char := List.map Char.ofNat [104, 97, 114, 110, 101, 115, 115, 32, 101, 102, 52, 99, 51, 53, 52, 51, 51, 100, 55, 50, 52, 53, 100, 55, 48, 55, 54, 100, 51, 99, 50, 49, 98, 54, 54, 52, 52, 56, 49, 50, 97, 99, 57, 53, 98, 55, 99, 98, 55, 51, 55, 102, 101, 49, 102, 57, 51, 99, 52, 49, 98, 97, 49, 50, 50, 102, 54, 56, 56, 97, 98, 55, 32, 99, 117, 116, 32]
def ioRest : List Char := List.map Char.ofNat [97, 116, 32, 101, 98, 98, 116, 105, 100, 101, 47, 101, 98, 98, 116, 105, 100, 101, 108, 97, 119, 49, 52, 46, 80, 108, 97, 110, 83, 116, 111, 99, 107, 115, 32, 101, 98, 98, 116, 105, 100, 101, 47, 101, 98, 98, 116, 105, 100, 101, 108, 97, 119, 49, 52, 46, 80, 108, 97, 110, 83, 109, 97, 108, 108, 32, 101, 98, 98, 116, 105, 100, 101, 47, 101, 98, 98, 116, 105, 100, 101, 108, 97, 119, 49, 52, 46, 80, 108, 97, 110, 66, 97, 108, 97, 110, 99, 101, 115, 32, 101, 98, 98, 116, 105, 100, 101, 47, 101, 98, 98, 116, 105, 100, 101, 108, 97, 119, 49, 52, 46, 80, 108, 97, 110, 82, 105, 115, 101, 115, 32, 101, 98, 98, 116, 105, 100, 101, 47, 101, 98, 98, 116, 105, 100, 101, 108, 97, 119, 49, 52, 46, 80, 108, 97, 110, 77, 101, 114, 103, 101, 115, 32, 101, 98, 98, 116, 105, 100, 101, 47, 101, 98, 98, 116, 105, 100, 101, 108, 97, 119, 49, 52, 46, 80, 108, 97, 110, 67, 104, 101, 99, 107, 115, 32, 101, 98, 98, 116, 105, 100, 101, 47, 101, 98, 98, 116, 105, 100, 101, 108, 97, 119, 49, 52, 46, 80, 108, 97, 110, 83, 116, 105, 108, 108]
set_option maxRecDepth 100000 in
theorem io_eq : Try.pinned.checked.prog.initOrder = String.ofList (ioHead ++ ioRest) := by kernel_rfl
theorem io_toList : Try.pinned.checked.prog.initOrder.toList = ioHead ++ ioRest := by rw [io_eq]; exact String.toList_ofList
def ioCut : List Char := List.map Char.ofNat [99, 117, 116]
set_option maxRecDepth 100000 in
theorem io_words (r : List Char) : behindMainWord (wordsSigns (ioHead ++ r)) = ioCut :: wordsSigns r := by kernel_rfl
theorem io_behind : ∃ X, behindMainWord (wordsSigns Try.pinned.checked.prog.initOrder.toList) = ioCut :: X := ⟨_, by rw [io_toList]; exact io_words _⟩
theorem io_cut : ioCut = "cut".toList := by decide +kernel
theorem io_strip (X : List (List Char)) : stripLifts liftWords (ioCut :: X) = ([], ioCut :: X) := by kernel_rfl
theorem headLifts_cut (P : Program) (h : ∃ X, behindMainWord (wordsSigns P.initOrder.toList) = ioCut :: X) : P.headLifts = [] := by
  obtain ⟨X, e⟩ := h
  unfold Program.headLifts
  rw [e, io_strip]
  rfl
theorem mayEnter_cut (P : Program) (h : ∃ X, behindMainWord (wordsSigns P.initOrder.toList) = ioCut :: X) (h1 : P.laysLater = false) (h2 : P.bearsReflect = false) (h3 : P.doorFits [] = true) : P.mayEnter = true := by
  obtain ⟨X, e⟩ := h
  unfold Program.mayEnter
  rw [e]
  simp only [io_strip, h1, h2, h3]
  rw [io_cut]
  simp
theorem liftsFinal_cut (P : Program) (h : ∃ X, behindMainWord (wordsSigns P.initOrder.toList) = ioCut :: X) : P.liftsFinal = false := by
  have h0 := headLifts_cut P h
  obtain ⟨X, e⟩ := h
  unfold Program.liftsFinal
  rw [e, h0]
  rw [io_cut]
  simp
theorem make_cut (P : Program) (h : ∃ X, behindMainWord (wordsSigns P.initOrder.toList) = ioCut :: X) : P.make = some .cut := by
  obtain ⟨X, e⟩ := h
  unfold Program.make
  rw [e]
  simp only [io_cut]
  rw [if_neg (by decide +kernel), if_pos (by simp)]
theorem p_mayEnter : Try.pinned.checked.prog.mayEnter = true := mayEnter_cut _ io_behind (by kernel_rfl) (by kernel_rfl) (by kernel_rfl)
theorem p_liftsFinal : Try.pinned.checked.prog.liftsFinal = false := liftsFinal_cut _ io_behind
theorem p_make : Try.pinned.checked.prog.make = some .cut := make_cut _ io_behind
theorem p_laidOut : laidOutB Try.pinned.checked.prog = true := by kernel_rfl
theorem p_mapsRowed : mapsRowed Try.pinned.checked.prog = true := by kernel_rfl
theorem p_stopsHeard : Try.pinned.checked.prog.stopsHeard = true := by kernel_rfl
theorem p_stops : Try.pinned.checked.prog.stops = [] := by kernel_rfl
theorem p_stopKnobs : Try.pinned.checked.prog.stopKnobs = [] := by kernel_rfl
end Go.Proofs.Ytdghehebkalbgaa
end
section
namespace Go.Proofs.Ytdghehebkalbgaa.planBalances
open Go.ChangeShapes Go.WideShapes Go.ChangeAt Go.RowKit
open Go.ChangeMaps (open_string shut_string)
open Go.Proofs.Ytdghehebkalbgaa.Q Go.Proofs.Ytdghehebkalbgaa.R Go.Proofs.YtdghehebkalbgaaW.PrintWords
set_option linter.unusedVariables false
theorem own : ownKnob Try.prog.godebug = none := by kernel_rfl
theorem laidOut : laidOutB Try.prog = true := by kernel_rfl
theorem open38 {w : World} {x : S38} {cs : List Value} (h : k38.K w x cs) : ∃ (A2 : Option Addr) (c2 : Nat) (A6 : Option Addr) (c6 : Nat), cs = [.int .u8 x.f0.f0, .bool x.f0.f1, .slice A2 x.f0.f2.length c2, .int .u8 x.f0.f3, .int .u8 x.f0.f4, .int .u8 x.f0.f5, .slice A6 x.f1.length c6] ∧ x.f0.f2.length ≤ c2 ∧ Kd.C k70 w A2 x.f0.f2.length x.f0.f2 ∧ x.f1.length ≤ c6 ∧ Kd.C k63 w A6 x.f1.length x.f1 := by
  obtain ⟨_, _, rfl, ⟨_, _, rfl, rfl, ⟨_, _, rfl, rfl, ⟨_, _, rfl, ⟨A2, c2, rfl, l2, g2⟩, ⟨_, _, rfl, rfl, ⟨_, _, rfl, rfl, rfl⟩⟩⟩⟩⟩, ⟨A6, c6, rfl, l6, g6⟩⟩ := h
  exact ⟨A2, c2, A6, c6, rfl, l2, g2, l6, g6⟩
set_option maxRecDepth 100000 in
theorem lifted (os : Os) (started : os.Started) (H : Type) (enc : TypeId × Value → H) :
    ReturnsInHanded {} Try.checked os 5 .any (Rows.planBalancesSpec.pre6 enc Try.prog Try.f5 Rows.planBalancesRow.domain false) (Rows.planBalancesSpec.post enc Try.prog Try.f5 false true false false) := by
  refine returnsInHanded_of_change_sized (C := Try.checked) own started (by kernel_rfl) Try.func5
    (ChangeSpec.witness6 (enc := enc) (C := Try.checked) false ⟨#[], #[.agg #[.int .u8 0, .bool false, .slice none 0 0, .int .u8 0, .int .u8 0, .int .u8 0, .slice none 0 0]], []⟩ 8 (by kernel_rfl) (by kernel_rfl) (by kernel_rfl) (by kernel_rfl)) ?_
  intro W base args ds gs before hval0 hW hcnd hsz0 _
  have hval : ∀ (j : Nat) t v, Try.f5.params[j]? = some t → args[j]? = some v → Value.okWide Try.prog W .any base t v := hval0
  have hW' := hW
  obtain ⟨p, q, hA0, hV, rfl, hfz, hnd⟩ := hW
  have hA : DataW.TrodAll enc Try.prog W 0 (fun _ => true) true Try.f5.params.toList args.toList ds p := hA0
  rw [Try.params5] at hA hval
  obtain ⟨v0, vs0, d0, ds0, p0, q0, hargs, rfl, rfl, h0, r0⟩ := trodAll_cons hA
  obtain ⟨rfl, rfl, rfl⟩ := trodAll_nil r0
  obtain rfl : args = #[v0] := by cases args; simp_all
  obtain ⟨rfl, rfl⟩ := trodVars_none hV
  have k0 := h0
  have lt0 : ∀ x ∈ p0, x.block < W.heap.size := by obtain ⟨m, hm⟩ := k0; exact DataW.trod_lt m _ _ _ hm
  obtain ⟨fu0, hf0⟩ := h0
  obtain ⟨x0, K0, G0⟩ := reads38 enc W 0 (fun _ => true) true fu0 _ _ hf0
  obtain ⟨cs0, rfl, hsz0⟩ := okWide_struct Try.underlying38 (hval 0 38 v0 rfl rfl)
  have K0' : (k38).K W x0 cs0.toList := K0
  obtain ⟨ao0_2, co0_2, ao0_6, co0_6, es0, hc0_2, hr0_2, hc0_6, hr0_6⟩ := open38 K0'
  obtain rfl : cs0 = _ := Array.toList_inj.1 es0
  have h := Pure.PlanBalances _ x0 (G0 _ (Nat.le_refl _))
  obtain ⟨k, h⟩ := h
  refine (ebbtidelaw14_PlanBalances.calls k x0.f0.f0 x0.f0.f1 _ _ x0.f0.f2 x0.f0.f3 x0.f0.f4 x0.f0.f5 _ _ x0.f1 true W hr0_2 hc0_2 hr0_6 hc0_6 h).mono fun e W' ⟨he, bel0⟩ => ?_
  have bel : Below W.heap.size W W' := bel0
  subst he
  exact ⟨_, rfl, _, _, _, [], _, [], hW', trodAll_mk1 (shut_bool Try.underlying4 _), (trodAll_cons_mk (Below.trod laidOut (by kernel_rfl) (of_decide_eq_true (by kernel_rfl)) k0 bel lt0) trodAll_mk0), rfl, bel.frame _, fun h => by cases h⟩
theorem andI {a b : Bool} (x : a = true) (y : b = true) : (a && b) = true := by rw [x, y]; rfl
set_option maxRecDepth 100000 in
set_option maxHeartbeats 8000000 in
theorem closed : joinedFacts Try.pinned.checked.prog 5 Try.f5 Rows.planBalancesSpec Rows.planBalancesRow = true := by
  unfold joinedFacts
  exact (andI (andI (andI (andI (andI (andI (andI (andI (andI (andI (andI (andI (andI (andI (andI (andI (andI (andI (andI (andI (andI (andI (andI (andI (andI (andI (andI (andI (andI (andI (andI (by as_aux_lemma => kernel_rfl)
    p_laidOut)
    p_mapsRowed)
    (by as_aux_lemma => kernel_rfl))
    (by as_aux_lemma => kernel_rfl))
    (by as_aux_lemma => kernel_rfl))
    (by rw [p_stops]; rfl))
    (by as_aux_lemma => kernel_rfl))
    (by rw [p_stopKnobs]; rfl))
    (by as_aux_lemma => kernel_rfl))
    (by as_aux_lemma => kernel_rfl))
    (by as_aux_lemma => kernel_rfl))
    (by as_aux_lemma => kernel_rfl))
    (by as_aux_lemma => kernel_rfl))
    (by as_aux_lemma => kernel_rfl))
    (by as_aux_lemma => kernel_rfl))
    (by as_aux_lemma => kernel_rfl))
    (by as_aux_lemma => kernel_rfl))
    (by as_aux_lemma => kernel_rfl))
    (by as_aux_lemma => kernel_rfl))
    (by as_aux_lemma => kernel_rfl))
    (by as_aux_lemma => kernel_rfl))
    (by as_aux_lemma => kernel_rfl))
    (by as_aux_lemma => kernel_rfl))
    p_stopsHeard)
    p_mayEnter)
    (by rw [p_liftsFinal]; rfl))
    (by rw [p_make]; rfl))
    (by as_aux_lemma => kernel_rfl))
    (by as_aux_lemma => kernel_rfl))
    (by as_aux_lemma => kernel_rfl))
    (by as_aux_lemma => kernel_rfl))
theorem proved : Rows.PlanBalancesSaid :=
  OpenClaim.holds_of_wide 5 Try.f5 rfl rfl rfl rfl rfl rfl rfl ⟨rfl, rfl, rfl, rfl, rfl⟩ rfl rfl rfl rfl rfl (by kernel_rfl) Try.func5 closed
    (of_decide_eq_true (by kernel_rfl)) (by unfold Func.isWrapper; first | (rw [if_pos (by decide +kernel)]; kernel_rfl) | (rw [if_neg (by decide +kernel)]; exact ⟨rfl, rfl⟩))
    (fun os started H enc _ => lifted os started H enc)
#print axioms proved
end Go.Proofs.Ytdghehebkalbgaa.planBalances
namespace Go.Proofs.Ytdghehebkalbgaa
theorem planBalances_holds : Rows.PlanBalancesSaid := planBalances.proved
end Go.Proofs.Ytdghehebkalbgaa
end
