/- A part of the proof: words, contracts, plain lemmas. Conditions: none. -/
import Derived.Test.YtgjgckpdilbbjaaZAdjFastest3
import Derived.Test.YtgjgckpdilbbjaaZAdjFastest17
import Derived.Test.YtgjgckpdilbbjaaZAdjFastest18
import Derived.Test.YtgjgckpdilbbjaaZAdjFastest20
import Derived.Test.YtgjgckpdilbbjaaZAdjFastest13
import Derived.Test.YtgjgckpdilbbjaaZAdjFastest21
import Derived.Test.YtgjgckpdilbbjaaRows
import Derived.WalkKit
import Derived.ProofKit
import Derived.OpenShut
import Derived.ShutString
import Derived.ChangeOld
import Derived.Below
import Derived.SizedLaws
section
namespace Go.Proofs.Ytgjgckpdilbbjaa.Q
open Go.RowKit Go.Proofs.YtgjgckpdilbbjaaW.PrintWords Go.Proofs.YtgjgckpdilbbjaaW.PrintLast Go.Proofs.YtgjgckpdilbbjaaW.PrintMore
attribute [local go_sem] max2_int min2_int max_two min_four
set_option linter.unusedVariables false
set_option linter.unusedSimpArgs false
def ebbtidelaw06_AdjFastest.f (k : Nat) (a0_0 : Int) (a0_1 : Bool) (l0_2 : List (S37)) (a1 : Int) : Option (Bool) := (adj_Fastest.f k a0_0 a0_1 l0_2 a1).bind fun bt224 => ((ebbtideref06_Fastest.f k a0_0 a0_1 l0_2 a1).bind fun bt228 => ((ebbtidelaw06_awake.f k).bind fun t232 => (if t232 = true then ((ebbtideref03_SameInts.f k bt224.1 bt228.1).bind fun t233 => (if t233 = true then (some (bt224.2 == bt228.2)) else (some false))) else (some false))))
set_option maxHeartbeats 8000000 in
set_option maxRecDepth 100000 in
theorem ebbtidelaw06_AdjFastest.calls (k : Nat) (a0_0 : Int) (a0_1 : Bool) (A0_2 : Option Addr) (c0_2 : Nat) (l0_2 : List (S37)) (a1 : Int) (r : Bool) (w : World) (hr0_2 : Kd.C k37 w A0_2 l0_2.length l0_2) (hc0_2 : l0_2.length ≤ c0_2) (h : ebbtidelaw06_AdjFastest.f k a0_0 a0_1 l0_2 a1 = some r) (hrt : r = true := by first | rfl | exact HRT.out | assumption) :
  Calls Try.prog 5 #[.agg #[.int .i64 a0_0, .bool a0_1, .slice A0_2 l0_2.length c0_2], .int .i64 a1] w fun e w' => e = .returned (.bool r) ∧ Below w.heap.size w w' := by
 have HRT := Aside0.mk hrt; clear hrt; have hu24 := Try.underlying24; have HR0_2 := Aside0.mk hr0_2; have HC0_2 := Aside0.mk hc0_2; clear hr0_2 hc0_2; have HB := Aside0.mk (Below.refl w.heap.size w); have H : ((adj_Fastest.f k a0_0 a0_1 l0_2 a1).bind fun bt224 => ((ebbtideref06_Fastest.f k a0_0 a0_1 l0_2 a1).bind fun bt228 => ((ebbtidelaw06_awake.f k).bind fun t232 => (if t232 = true then ((ebbtideref03_SameInts.f k bt224.1 bt228.1).bind fun t233 => (if t233 = true then (some (bt224.2 == bt228.2)) else (some false))) else (some false))))) = some r := h; clear h; replace H := Option.bind_eq_some_iff.mp H; obtain ⟨⟨t224, t227⟩, A30, H⟩ := H; replace H : ((ebbtideref06_Fastest.f k a0_0 a0_1 l0_2 a1).bind fun bt228 => ((ebbtidelaw06_awake.f k).bind fun t232 => (if t232 = true then ((ebbtideref03_SameInts.f k t224 bt228.1).bind fun t233 => (if t233 = true then (some (t227 == bt228.2)) else (some false))) else (some false)))) = some r := H; have A3 := Aside0.mk A30; clear A30; replace H := Option.bind_eq_some_iff.mp H; obtain ⟨⟨t228, t231⟩, A40, H⟩ := H; replace H : ((ebbtidelaw06_awake.f k).bind fun t232 => (if t232 = true then ((ebbtideref03_SameInts.f k t224 t228).bind fun t233 => (if t233 = true then (some (t227 == t231)) else (some false))) else (some false))) = some r := H; have A4 := Aside0.mk A40; clear A40; replace H := Option.bind_eq_some_iff.mp H; obtain ⟨t232, A50, H⟩ := H; replace H : (if t232 = true then ((ebbtideref03_SameInts.f k t224 t228).bind fun t233 => (if t233 = true then (some (t227 == t231)) else (some false))) else (some false)) = some r := H; have A5 := Aside0.mk A50; clear A50
 by_cases c6 : t232 = true
 ·subst c6
  have H1 : ((ebbtideref03_SameInts.f k t224 t228).bind fun t233 => (if t233 = true then (some (t227 == t231)) else (some false))) = some r := by rw [if_pos rfl] at H; exact H
  clear H; have H := H1; clear H1; replace H := Option.bind_eq_some_iff.mp H; obtain ⟨t233, A70, H⟩ := H; replace H : (if t233 = true then (some (t227 == t231)) else (some false)) = some r := H; have A7 := Aside0.mk A70; clear A70
  by_cases c8 : t233 = true
  ·subst c8
   have H1 : (some (t227 == t231)) = some r := by rw [if_pos rfl] at H; exact H
   clear H; have H := H1; clear H1; obtain rfl := Option.some.inj H
   go_enter Try.func5, Try.ntmps5
   go_wp2_with (first | ((with_reducible refine gate_dst (N := 2) rfl ?_); refine box_event ?hg (N := 2) ?hd (cs := #[.int .i64 a0_0, .bool a0_1, .slice A0_2 l0_2.length c0_2]) (t := 24) ?hr ?_; (case hd => rfl); (case hg => rfl); (case hr => first | (go_simp; done) | (go_simp; rfl)); intro gb223 hg w9 hbox hb; have n0_ := Aside0.mk (below_step (by repeat (first | (with_reducible first | exact HB.out | apply below_alloc | apply pw_below_drewN | apply below_drew1) | exact HB.out)) hb); have n1_ := Aside0.mk (hbox); have n2_ := Aside0.mk ((by rw [hg]; exact (below_size (by repeat (first | (with_reducible first | exact HB.out | apply below_alloc | apply pw_below_drewN | apply below_drew1) | exact HB.out))) : w.heap.size ≤ gb223)); have n3_ := Aside0.mk ((by rw [hg]; exact (below_size (by repeat (first | (with_reducible first | exact HB.out | apply below_alloc | apply pw_below_drewN | apply below_drew1) | exact HB.out))) : w.heap.size ≤ gb223)); clear HB; have HB := n0_; have BK223 := n1_; have GW223 := n2_; have GE223 := n3_; clear n0_ n1_ n2_ n3_; clear hb hbox hg; have hcz10_0 : w9.cell? ⟨gb223, 0, none⟩ = some (.int .i64 a0_0) := (blk_cell BK223.out 0).trans rfl; have hcz10_1 : w9.cell? ⟨gb223, 1, none⟩ = some (.bool a0_1) := (blk_cell BK223.out 1).trans rfl; have hcz10_2 : w9.cell? ⟨gb223, 2, none⟩ = some (.slice A0_2 l0_2.length c0_2) := (blk_cell BK223.out 2).trans rfl; have hfz10_0 := blk_frozen BK223.out 0; have hfz10_1 := blk_frozen BK223.out 1; have hfz10_2 := blk_frozen BK223.out 2) | ((with_reducible refine gate_callee (f := 17) rfl ?_); refine goesL_ (some 12) rfl rfl Try.func17 (by kernel_rfl) rfl #[.agg #[.int .i64 a0_0, .bool a0_1, .slice A0_2 l0_2.length c0_2], .int .i64 a1] rfl (by (try simp only [List.map_toArray, List.map_cons, List.map_nil]); first | done | rfl | (simp only [List.length_drop, List.length_take]; rfl)) ?_; (with_reducible refine (adj_Fastest.calls k a0_0 a0_1 _ _ l0_2 a1 t224 t227 _ ?side1 ?side2 A3.out).mono ?_); (case side1 => repeat (first | exact (Kd.C_below HR0_2.out HB.out) | (with_reducible refine Kd.C_alloc ?_ _) | (with_reducible refine Kd.C_drewN ?_ _) | (with_reducible refine Kd.C_drew ?_))); (case side2 => exact HC0_2.out); rintro e w11 ⟨v225, rfl, ho0, hb⟩; refine ⟨_, rfl, ?_⟩; have n0_ := Aside0.mk (Kd.R_lower ho0 (below_size (by repeat (first | (with_reducible first | exact HB.out | apply below_alloc | apply pw_below_drewN | apply below_drew1 | refine below_set ?_ GE223.out) | exact HB.out)))); have n1_ := Aside0.mk (blk_below (g := gb223) (o := .cells #[.int .i64 a0_0, .bool a0_1, .slice A0_2 l0_2.length c0_2] 24 (0, 0)) (by (with_reducible repeat (first | refine blk_drewN ?_ _ | refine blk_drew ?_ | refine blk_alloc ?_ _)); exact BK223.out) hb); have n2_ := Aside0.mk (below_step (by repeat (first | (with_reducible first | exact HB.out | apply below_alloc | apply pw_below_drewN | apply below_drew1 | refine below_set ?_ GE223.out) | exact HB.out)) hb); clear BK223; clear HB; have HO226 := n0_; have BK223 := n1_; have HB := n2_; clear n0_ n1_ n2_; (try clear hb); (try clear hb2); (try clear hk); (try clear hi); (try clear ho0); have hcz12_0 : w11.cell? ⟨gb223, 0, none⟩ = some (.int .i64 a0_0) := (blk_cell BK223.out 0).trans rfl; have hcz12_1 : w11.cell? ⟨gb223, 1, none⟩ = some (.bool a0_1) := (blk_cell BK223.out 1).trans rfl; have hcz12_2 : w11.cell? ⟨gb223, 2, none⟩ = some (.slice A0_2 l0_2.length c0_2) := (blk_cell BK223.out 2).trans rfl; have hfz12_0 := blk_frozen BK223.out 0; have hfz12_1 := blk_frozen BK223.out 1; have hfz12_2 := blk_frozen BK223.out 2) | ((with_reducible refine gate_callee (f := 18) rfl ?_); refine goesL_ (some 18) rfl rfl Try.func18 (by kernel_rfl) rfl #[.agg #[.int .i64 a0_0, .bool a0_1, .slice A0_2 l0_2.length c0_2], .int .i64 a1] rfl (by (try simp only [List.map_toArray, List.map_cons, List.map_nil]); first | done | rfl | (simp only [List.length_drop, List.length_take]; rfl)) ?_; (with_reducible refine (ebbtideref06_Fastest.calls k a0_0 a0_1 _ _ l0_2 a1 t228 t231 _ ?side1 ?side2 A4.out).mono ?_); (case side1 => repeat (first | exact (Kd.C_below HR0_2.out HB.out) | (with_reducible refine Kd.C_alloc ?_ _) | (with_reducible refine Kd.C_drewN ?_ _) | (with_reducible refine Kd.C_drew ?_))); (case side2 => exact HC0_2.out); rintro e w13 ⟨v229, rfl, ho0, hb⟩; refine ⟨_, rfl, ?_⟩; have n0_ := Aside0.mk (Kd.R_elder' (by (with_reducible repeat (first | apply Kd.R_alloc | apply Kd.R_drewN | apply Kd.R_drew)); exact HO226.out) (Kd.R_base ho0) hb); have n1_ := Aside0.mk (Kd.R_lower (Kd.R_new' ho0 (Kd.R_lt (by (with_reducible repeat (first | apply Kd.R_alloc | apply Kd.R_drewN | apply Kd.R_drew)); exact HO226.out))) (below_size (by repeat (first | (with_reducible first | exact HB.out | apply below_alloc | apply pw_below_drewN | apply below_drew1 | refine below_set ?_ GE223.out) | exact HB.out)))); have n2_ := Aside0.mk (blk_below (g := gb223) (o := .cells #[.int .i64 a0_0, .bool a0_1, .slice A0_2 l0_2.length c0_2] 24 (0, 0)) (by (with_reducible repeat (first | refine blk_drewN ?_ _ | refine blk_drew ?_ | refine blk_alloc ?_ _)); exact BK223.out) hb); have n3_ := Aside0.mk (below_step (by repeat (first | (with_reducible first | exact HB.out | apply below_alloc | apply pw_below_drewN | apply below_drew1 | refine below_set ?_ GE223.out) | exact HB.out)) hb); clear HO226; clear BK223; clear HB; have HO226 := n0_; have HO230 := n1_; have BK223 := n2_; have HB := n3_; clear n0_ n1_ n2_ n3_; (try clear hb); (try clear hb2); (try clear hk); (try clear hi); (try clear ho0)) | ((with_reducible refine gate_callee (f := 12) rfl ?_); refine goesL_ (some 21) rfl rfl Try.func12 (by kernel_rfl) rfl #[] rfl (by (try simp only [List.map_toArray, List.map_cons, List.map_nil]); first | done | rfl | (simp only [List.length_drop, List.length_take]; rfl)) ?_; (with_reducible refine (ebbtidelaw06_awake.calls k  true _ A5.out).mono ?_); rintro e w14 ⟨rfl, hb⟩; refine ⟨_, rfl, ?_⟩; have n0_ := Aside0.mk (Kd.R_below (by (with_reducible repeat (first | apply Kd.R_alloc | apply Kd.R_drewN | apply Kd.R_drew)); exact HO226.out) hb); have n1_ := Aside0.mk (Kd.R_below (by (with_reducible repeat (first | apply Kd.R_alloc | apply Kd.R_drewN | apply Kd.R_drew)); exact HO230.out) hb); have n2_ := Aside0.mk (blk_below (g := gb223) (o := .cells #[.int .i64 a0_0, .bool a0_1, .slice A0_2 l0_2.length c0_2] 24 (0, 0)) (by (with_reducible repeat (first | refine blk_drewN ?_ _ | refine blk_drew ?_ | refine blk_alloc ?_ _)); exact BK223.out) hb); have n3_ := Aside0.mk (below_step (by repeat (first | (with_reducible first | exact HB.out | apply below_alloc | apply pw_below_drewN | apply below_drew1 | refine below_set ?_ GE223.out) | exact HB.out)) hb); clear HO226; clear HO230; clear BK223; clear HB; have HO226 := n0_; have HO230 := n1_; have BK223 := n2_; have HB := n3_; clear n0_ n1_ n2_ n3_; (try clear hb); (try clear hb2); (try clear hk); (try clear hi); obtain ⟨Ao15, co15, eo15⟩ := Kd.R_slice HO226.out; subst eo15; obtain ⟨Ao16, co16, eo16⟩ := Kd.R_slice HO230.out; subst eo16) | (go_at_call 13; (with_reducible refine (ebbtideref03_SameInts.calls k _ _ t224 _ _ t228 true _ ?side1 ?side2 ?side3 ?side4 A7.out).mono ?_); (case side1 => repeat (first | exact (Kd.R_reads' HO226.out).2.2 | (with_reducible refine Kd.C_alloc ?_ _) | (with_reducible refine Kd.C_drewN ?_ _) | (with_reducible refine Kd.C_drew ?_))); (case side2 => exact (Kd.R_reads' HO226.out).2.1); (case side3 => repeat (first | exact (Kd.R_reads' HO230.out).2.2 | (with_reducible refine Kd.C_alloc ?_ _) | (with_reducible refine Kd.C_drewN ?_ _) | (with_reducible refine Kd.C_drew ?_))); (case side4 => exact (Kd.R_reads' HO230.out).2.1); rintro e w' ⟨rfl, ⟨nd, rfl⟩⟩))
   go_ret
   exact ⟨by first | rfl | (simp [errW_none, errW_some] <;> rfl) | (simp [*, errW_none, errW_some] <;> rfl), by repeat (first | (with_reducible first | exact HB.out | apply below_alloc | apply pw_below_drewN | apply below_drew1 | refine below_set ?_ GE223.out) | exact HB.out)⟩
  ·replace c8 := Bool.eq_false_iff.mpr c8
   subst c8
   have H1 : (some false) = some r := by rw [if_neg (show ¬ (false = true) by decide)] at H; exact H
   clear H; have H := H1; clear H1; exact absurd ((Option.some.inj H).trans HRT.out) (by decide)
 ·replace c6 := Bool.eq_false_iff.mpr c6
  subst c6
  have H1 : (some false) = some r := by rw [if_neg (show ¬ (false = true) by decide)] at H; exact H
  clear H; have H := H1; clear H1; exact absurd ((Option.some.inj H).trans HRT.out) (by decide)
end Go.Proofs.Ytgjgckpdilbbjaa.Q
end
section
namespace Go.Proofs.Ytgjgckpdilbbjaa.R
open Go.RowKit Go.Proofs.Ytgjgckpdilbbjaa.Q Go.Proofs.YtgjgckpdilbbjaaW.PrintWords Go.Proofs.YtgjgckpdilbbjaaW.PrintLast Go.Proofs.YtgjgckpdilbbjaaW.PrintMore
def AdjFastest.Pure : Prop := ∀ N0 : Nat, ∀ N1 : Nat, ∀ (x0 : S24) (x1 : Int), g24 N0 x0 → gInt .i64 N1 x1 → ∃ k, ebbtidelaw06_AdjFastest.f k x0.f0 x0.f1 x0.f2 x1 = some true
end Go.Proofs.Ytgjgckpdilbbjaa.R
end
section
namespace Go.Proofs.Ytgjgckpdilbbjaa.Pure
set_option linter.unusedSimpArgs false
set_option linter.unusedVariables false
open Go.RowKit Go.Proofs.Ytgjgckpdilbbjaa.Q Go.Proofs.Ytgjgckpdilbbjaa.P Go.Proofs.YtgjgckpdilbbjaaW.PrintWords Go.Proofs.YtgjgckpdilbbjaaW.PrintLast Go.Proofs.YtgjgckpdilbbjaaW.PrintMore
open Go.Proofs.Ytgjgckpdilbbjaa.R
theorem AdjFastest : AdjFastest.Pure := by
  intro N0 N1 x0 v _ _
  obtain ⟨n, b, l⟩ := x0
  apply Ev.rounds
  show Ev (fun k => ebbtidelaw06_AdjFastest.f k n b l v) true
  obtain ⟨r, hlen, _, _, h1, h2⟩ := fast_both n b l v
  unfold ebbtidelaw06_AdjFastest.f
  refine Ev.bind h1 (Ev.bind h2 (Ev.bind awake06_ev ?_))
  simp only [if_true]
  refine Ev.bind (sameInts_ev r (by omega)) ?_
  simp only [if_true, beq_self_eq_true]
  exact Ev.now _
end Go.Proofs.Ytgjgckpdilbbjaa.Pure
end
section
namespace Go.Proofs.Ytgjgckpdilbbjaa
open Go Go.RowKit
def ioHead : List Char := List.map Char.ofNat [104, 97, 114, 110, 101, 115, 115, 32, 50, 102, 54, 100, 99, 57, 98, 50, 54, 49, 49, 51, 56, 102, 56, 55, 99, 56, 48, 102, 57, 52, 51, 56, 102, 55, 97, 101, 98, 97, 101, 57, 54, 52, 48, 99, 51, 57, 98, 98, 100, 54, 53, 49, 48, 53, 54, 97, 56, 54, 99, 56, 52, 98, 54, 53, 53, 56, 53, 52, 100, 53, 51, 100, 32, 99, 117, 116, 32]
def ioRest : List Char := List.map Char.ofNat [97, 116, 32, 101, 98, 98, 116, 105, 100, 101, 47, 101, 98, 98, 116, 105, 100, 101, 108, 97, 119, 48, 54, 46, 65, 100, 106, 72, 111, 112, 115, 32, 101, 98, 98, 116, 105, 100, 101, 47, 101, 98, 98, 116, 105, 100, 101, 108, 97, 119, 48, 54, 46, 65, 100, 106, 79, 114, 100, 101, 114, 115, 32, 101, 98, 98, 116, 105, 100, 101, 47, 101, 98, 98, 116, 105, 100, 101, 108, 97, 119, 48, 54, 46, 65, 100, 106, 70, 97, 115, 116, 101, 115, 116, 32, 101, 98, 98, 116, 105, 100, 101, 47, 101, 98, 98, 116, 105, 100, 101, 108, 97, 119, 48, 54, 46, 65, 100, 106, 83, 116, 101, 112, 115, 32, 101, 98, 98, 116, 105, 100, 101, 47, 101, 98, 98, 116, 105, 100, 101, 108, 97, 119, 48, 54, 46, 65, 100, 106, 70, 111, 114, 119, 97, 114, 100, 32, 101, 98, 98, 116, 105, 100, 101, 47, 101, 98, 98, 116, 105, 100, 101, 108, 97, 119, 48, 54, 46, 65, 100, 106, 76, 105, 115, 116, 115, 32, 101, 98, 98, 116, 105, 100, 101, 47, 101, 98, 98, 116, 105, 100, 101, 108, 97, 119, 48, 54, 46, 65, 100, 106, 79, 110, 99, 101]
set_option maxRecDepth 100000 in
theorem io_eq : Try.pinned.checked.prog.initOrder = String.ofList (ioHead ++ ioRest) := by kernel_rfl
theorem io_toList : Try.pinned.checked.prog.initOrder.toList = ioHead ++ ioRest := by rw [io_eq]; exact String.toList_ofList
def ioCut : List Char := List.map Char.ofNat [99, 117, 116]
set_option maxRecDepth 100000 in
theorem io_words (r : List Char) : behindMainWord (wordsSigns (ioHead ++ r)) = ioCut :: wordsSigns r := by kernel_rfl
theorem io_behind : ∃ X, behindMainWord (wordsSigns Try.pinned.checked.prog.initOrder.toList) = ioCut :: X := ⟨_, by rw [io_toList]; exact io_words _⟩
theorem io_cut : ioCut = "cut".toList := by decide +kernel
theorem io_strip (X : List (List Char)) : stripLifts liftWords (ioCut :: X) = ([], ioCut :: X) := by kernel_rfl
theorem headLifts_cut (P : Program) (h : ∃ X, behindMainWord (wordsSigns P.initOrder.toList) = ioCut :: X) : P.headLifts = [] := by
  obtain ⟨X, e⟩ := h
  unfold Program.headLifts
  rw [e, io_strip]
  rfl
theorem mayEnter_cut (P : Program) (h : ∃ X, behindMainWord (wordsSigns P.initOrder.toList) = ioCut :: X) (h1 : P.laysLater = false) (h2 : P.bearsReflect = false) (h3 : P.doorFits [] = true) : P.mayEnter = true := by
  obtain ⟨X, e⟩ := h
  unfold Program.mayEnter
  rw [e]
  simp only [io_strip, h1, h2, h3]
  rw [io_cut]
  simp
theorem liftsFinal_cut (P : Program) (h : ∃ X, behindMainWord (wordsSigns P.initOrder.toList) = ioCut :: X) : P.liftsFinal = false := by
  have h0 := headLifts_cut P h
  obtain ⟨X, e⟩ := h
  unfold Program.liftsFinal
  rw [e, h0]
  rw [io_cut]
  simp
theorem make_cut (P : Program) (h : ∃ X, behindMainWord (wordsSigns P.initOrder.toList) = ioCut :: X) : P.make = some .cut := by
  obtain ⟨X, e⟩ := h
  unfold Program.make
  rw [e]
  simp only [io_cut]
  rw [if_neg (by decide +kernel), if_pos (by simp)]
theorem p_mayEnter : Try.pinned.checked.prog.mayEnter = true := mayEnter_cut _ io_behind (by kernel_rfl) (by kernel_rfl) (by kernel_rfl)
theorem p_liftsFinal : Try.pinned.checked.prog.liftsFinal = false := liftsFinal_cut _ io_behind
theorem p_make : Try.pinned.checked.prog.make = some .cut := make_cut _ io_behind
theorem p_laidOut : laidOutB Try.pinned.checked.prog = true := by kernel_rfl
theorem p_mapsRowed : mapsRowed Try.pinned.checked.prog = true := by kernel_rfl
theorem p_stopsHeard : Try.pinned.checked.prog.stopsHeard = true := by kernel_rfl
theorem p_stops : Try.pinned.checked.prog.stops = [] := by kernel_rfl
theorem p_stopKnobs : Try.pinned.checked.prog.stopKnobs = [] := by kernel_rfl
end Go.Proofs.Ytgjgckpdilbbjaa
end
section
namespace Go.Proofs.Ytgjgckpdilbbjaa.adjFastest
open Go.ChangeShapes Go.WideShapes Go.ChangeAt Go.RowKit
open Go.ChangeMaps (open_string shut_string)
open Go.Proofs.Ytgjgckpdilbbjaa.Q Go.Proofs.Ytgjgckpdilbbjaa.R Go.Proofs.YtgjgckpdilbbjaaW.PrintWords
set_option linter.unusedVariables false
theorem own : ownKnob Try.prog.godebug = none := by kernel_rfl
theorem laidOut : laidOutB Try.prog = true := by kernel_rfl
theorem open24 {w : World} {x : S24} {cs : List Value} (h : k24.K w x cs) : ∃ (A2 : Option Addr) (c2 : Nat), cs = [.int .i64 x.f0, .bool x.f1, .slice A2 x.f2.length c2] ∧ x.f2.length ≤ c2 ∧ Kd.C k37 w A2 x.f2.length x.f2 := by
  obtain ⟨_, _, rfl, rfl, ⟨_, _, rfl, rfl, ⟨A2, c2, rfl, l2, g2⟩⟩⟩ := h
  exact ⟨A2, c2, rfl, l2, g2⟩
set_option maxRecDepth 100000 in
theorem lifted (os : Os) (started : os.Started) (H : Type) (enc : TypeId × Value → H) :
    ReturnsInHanded {} Try.checked os 5 .any (Rows.adjFastestSpec.pre6 enc Try.prog Try.f5 Rows.adjFastestRow.domain false) (Rows.adjFastestSpec.post enc Try.prog Try.f5 false true false false) := by
  refine returnsInHanded_of_change_sized (C := Try.checked) own started (by kernel_rfl) Try.func5
    (ChangeSpec.witness6 (enc := enc) (C := Try.checked) false ⟨#[], #[.agg #[.int .i64 0, .bool false, .slice none 0 0], .int .i64 0], []⟩ 8 (by kernel_rfl) (by kernel_rfl) (by kernel_rfl) (by kernel_rfl)) ?_
  intro W base args ds gs before hval0 hW hcnd hsz0 _
  have hval : ∀ (j : Nat) t v, Try.f5.params[j]? = some t → args[j]? = some v → Value.okWide Try.prog W .any base t v := hval0
  have hW' := hW
  obtain ⟨p, q, hA0, hV, rfl, hfz, hnd⟩ := hW
  have hA : DataW.TrodAll enc Try.prog W 0 (fun _ => true) true Try.f5.params.toList args.toList ds p := hA0
  rw [Try.params5] at hA hval
  obtain ⟨v0, vs0, d0, ds0, p0, q0, hargs, rfl, rfl, h0, r0⟩ := trodAll_cons hA
  obtain ⟨v1, vs1, d1, ds1, p1, q1, rfl, rfl, rfl, h1, r1⟩ := trodAll_cons r0
  obtain ⟨rfl, rfl, rfl⟩ := trodAll_nil r1
  obtain rfl : args = #[v0, v1] := by cases args; simp_all
  obtain ⟨rfl, rfl⟩ := trodVars_none hV
  have k0 := h0
  have lt0 : ∀ x ∈ p0, x.block < W.heap.size := by obtain ⟨m, hm⟩ := k0; exact DataW.trod_lt m _ _ _ hm
  obtain ⟨fu0, hf0⟩ := h0
  obtain ⟨x0, K0, G0⟩ := reads24 enc W 0 (fun _ => true) true fu0 _ _ hf0
  obtain ⟨cs0, rfl, hsz0⟩ := okWide_struct Try.underlying24 (hval 0 24 v0 rfl rfl)
  have K0' : (k24).K W x0 cs0.toList := K0
  obtain ⟨ao0_2, co0_2, es0, hc0_2, hr0_2⟩ := open24 K0'
  obtain rfl : cs0 = _ := Array.toList_inj.1 es0
  have k1 := h1
  have lt1 : ∀ x ∈ p1, x.block < W.heap.size := by obtain ⟨m, hm⟩ := k1; exact DataW.trod_lt m _ _ _ hm
  obtain ⟨fu1, hf1⟩ := h1
  obtain ⟨x1, K1, G1⟩ := (readsInt Try.underlying3) enc W 0 (fun _ => true) true fu1 _ _ hf1
  obtain ⟨z1, rfl⟩ := okWide_int Try.underlying3 (hval 1 3 v1 rfl rfl)
  obtain rfl : x1 = z1 := Eq.symm (by simpa [Value.cells, Kd.int, Kd.scalar] using K1)
  have h := Pure.AdjFastest _ _ x0 x1 (G0 _ (Nat.le_refl _)) (G1 _ (Nat.le_refl _))
  obtain ⟨k, h⟩ := h
  refine (ebbtidelaw06_AdjFastest.calls k x0.f0 x0.f1 _ _ x0.f2 x1 true W hr0_2 hc0_2 h).mono fun e W' ⟨he, bel0⟩ => ?_
  have bel : Below W.heap.size W W' := bel0
  subst he
  exact ⟨_, rfl, _, _, _, [], _, [], hW', trodAll_mk1 (shut_bool Try.underlying4 _), (trodAll_cons_mk (Below.trod laidOut (by kernel_rfl) (of_decide_eq_true (by kernel_rfl)) k0 bel lt0) (trodAll_cons_mk (Below.trod laidOut (by kernel_rfl) (of_decide_eq_true (by kernel_rfl)) k1 bel lt1) trodAll_mk0)), rfl, bel.frame _, fun h => by cases h⟩
theorem andI {a b : Bool} (x : a = true) (y : b = true) : (a && b) = true := by rw [x, y]; rfl
set_option maxRecDepth 100000 in
set_option maxHeartbeats 8000000 in
theorem closed : joinedFacts Try.pinned.checked.prog 5 Try.f5 Rows.adjFastestSpec Rows.adjFastestRow = true := by
  unfold joinedFacts
  exact (andI (andI (andI (andI (andI (andI (andI (andI (andI (andI (andI (andI (andI (andI (andI (andI (andI (andI (andI (andI (andI (andI (andI (andI (andI (andI (andI (andI (andI (andI (andI (by as_aux_lemma => kernel_rfl)
    p_laidOut)
    p_mapsRowed)
    (by as_aux_lemma => kernel_rfl))
    (by as_aux_lemma => kernel_rfl))
    (by as_aux_lemma => kernel_rfl))
    (by rw [p_stops]; rfl))
    (by as_aux_lemma => kernel_rfl))
    (by rw [p_stopKnobs]; rfl))
    (by as_aux_lemma => kernel_rfl))
    (by as_aux_lemma => kernel_rfl))
    (by as_aux_lemma => kernel_rfl))
    (by as_aux_lemma => kernel_rfl))
    (by as_aux_lemma => kernel_rfl))
    (by as_aux_lemma => kernel_rfl))
    (by as_aux_lemma => kernel_rfl))
    (by as_aux_lemma => kernel_rfl))
    (by as_aux_lemma => kernel_rfl))
    (by as_aux_lemma => kernel_rfl))
    (by as_aux_lemma => kernel_rfl))
    (by as_aux_lemma => kernel_rfl))
    (by as_aux_lemma => kernel_rfl))
    (by as_aux_lemma => kernel_rfl))
    (by as_aux_lemma => kernel_rfl))
    p_stopsHeard)
    p_mayEnter)
    (by rw [p_liftsFinal]; rfl))
    (by rw [p_make]; rfl))
    (by as_aux_lemma => kernel_rfl))
    (by as_aux_lemma => kernel_rfl))
    (by as_aux_lemma => kernel_rfl))
    (by as_aux_lemma => kernel_rfl))
theorem proved : Rows.AdjFastestSaid :=
  OpenClaim.holds_of_wide 5 Try.f5 rfl rfl rfl rfl rfl rfl rfl ⟨rfl, rfl, rfl, rfl, rfl⟩ rfl rfl rfl rfl rfl (by kernel_rfl) Try.func5 closed
    (of_decide_eq_true (by kernel_rfl)) (by unfold Func.isWrapper; first | (rw [if_pos (by decide +kernel)]; kernel_rfl) | (rw [if_neg (by decide +kernel)]; exact ⟨rfl, rfl⟩))
    (fun os started H enc _ => lifted os started H enc)
#print axioms proved
end Go.Proofs.Ytgjgckpdilbbjaa.adjFastest
namespace Go.Proofs.Ytgjgckpdilbbjaa
theorem adjFastest_holds : Rows.AdjFastestSaid := adjFastest.proved
end Go.Proofs.Ytgjgckpdilbbjaa
end
