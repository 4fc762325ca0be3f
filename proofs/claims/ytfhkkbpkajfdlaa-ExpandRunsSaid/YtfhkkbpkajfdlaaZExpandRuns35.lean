/- A part of the proof: words, contracts, plain lemmas. Conditions: none. -/
import Derived.ShutString
import Derived.ChangeOld
import Derived.SizedLaws
import Derived.Test.YtfhkkbpkajfdlaaZExpandRuns33
import Derived.Test.YtfhkkbpkajfdlaaZExpandRuns34
set_option linter.unusedSectionVars false
set_option linter.unusedSimpArgs false
set_option linter.unusedVariables false
section
namespace Go.Proofs.Ytfhkkbpkajfdlaa.R
open Go.RowKit Go.Proofs.Ytfhkkbpkajfdlaa.Q Go.Proofs.YtfhkkbpkajfdlaaW.PrintWords Go.Proofs.YtfhkkbpkajfdlaaW.PrintLast Go.Proofs.YtfhkkbpkajfdlaaW.PrintMore
def ExpandRuns.Pure : Prop := ∀ N0 : Nat, ∀ (x0 : S41), g41 N0 x0 → ∃ k, ebbtidelaw15_ExpandRuns.f k x0.f0 x0.f1 x0.f2 x0.f3 x0.f4 x0.f5 = some true
end Go.Proofs.Ytfhkkbpkajfdlaa.R
end
section
namespace Go.Proofs.Ytfhkkbpkajfdlaa.Pure
open Go.RowKit Go.Proofs.Ytfhkkbpkajfdlaa.Q Go.Proofs.Ytfhkkbpkajfdlaa.P Go.Proofs.YtfhkkbpkajfdlaaW.PrintWords Go.Proofs.YtfhkkbpkajfdlaaW.PrintLast Go.Proofs.YtfhkkbpkajfdlaaW.PrintMore
open Go.Proofs.Ytfhkkbpkajfdlaa.R
section
variable {n : Int} {hold : Bool} {arcs : List S54} {s t h : Int} (hs : Small n arcs s t h [])
include hs
theorem runs_arc {N : Nat} (hN : (N : Int) = (h + 1) * n + 2) {j : Nat} (hj : j < (gridArcs n h hold s t arcs).length) :
 ((0 ≤ (gridArcs n h hold s t arcs)[j].f0 ∧ (gridArcs n h hold s t arcs)[j].f0 < (N : Int)) ∧ (0 ≤ (gridArcs n h hold s t arcs)[j].f1 ∧ (gridArcs n h hold s t arcs)[j].f1 < (N : Int))) ∧ 0 ≤ (gridArcs n h hold s t arcs)[j].f2 ∧ (gridArcs n h hold s t arcs)[j].f2 ≤ 1099511627776 := by
 obtain ⟨s0, s1, t0, t1, st⟩ := hs.ends
 have hh := hs.hor
 have hjK : j < (gridKinds n h hold s t arcs).length := by rw [gridKinds_length]; exact hj
 have e2 : gridArcs n h hold s t arcs = (gridKinds n h hold s t arcs).map (arcAll n h s arcs) := arcs_all st
 have e3 : (gridArcs n h hold s t arcs)[j] = arcAll n h s arcs (gridKinds n h hold s t arcs)[j] := by simp only [e2, List.getElem_map]
 have hm := List.getElem_mem hjK
 rw [e3]
 generalize (gridKinds n h hold s t arcs)[j] = k at hm
 have en := arc_ends hs.net ⟨s0, s1⟩ ⟨t0, t1⟩ st hh.1 hm
 rw [← hN] at en
 refine ⟨en, ?_⟩
 rcases kind_cases hh.1 hm with ⟨h0, hk⟩ | ⟨h1, hw⟩ | ⟨h0, h1, hk, k0, k1⟩
 ·have ha := (arcAt_ok hs.net hk.i0 hk.i1).f2
  rw [arcAll_mv h0]
  omega
 ·rw [arcAll_wt hw.n0]; omega
 ·rw [arcAll_wt h0]; omega
theorem runs_end {N : Nat} (hN : (N : Int) = (h + 1) * n + 2) (hN2 : N ≤ 100000) {f : List Int} (hf : Fits (gridArcs n h hold s t arcs) f) (hz : ∀ v, v ≠ (h + 1) * n → v ≠ (h + 1) * n + 1 → bal (gridArcs n h hold s t arcs) f v = 0) :
 ∀ d i : Nat, i + d = f.length → Ev (fun k => ebbtidelaw15_ExpandRuns.l1 k true s t h f (sm (fun p : S54 × Int => if p.1.f0 = (h + 1) * n then p.2 else 0) (((gridArcs n h hold s t arcs).zip f).take i)) (i : Int) n hold arcs (N : Int) false (gridArcs n h hold s t arcs)) true := by
 have he := hs.ends
 have hh := hs.hor
 have hn := hs.net
 have hfl := hf.len
 have hA : (gridArcs n h hold s t arcs).length ≤ 300000 := gridArcs_length hn (by omega)
 have hzl : ((gridArcs n h hold s t arcs).zip f).length = f.length := by rw [List.length_zip]; omega
 have h0n : 0 ≤ (h + 1) * n := Int.mul_nonneg (by omega) (by have := hs.two; omega)
 intro d
 induction d with
 | zero =>
  intro i hi
  rw [List.take_of_length_le (by omega)]
  have hval : sm (fun p : S54 × Int => if p.1.f0 = (h + 1) * n then p.2 else 0) ((gridArcs n h hold s t arcs).zip f) = sm (eA s) ((gridKinds n h hold s t arcs).zip f) := by
   rw [arcs_all he.2.2.2.2, List.zip_map_left, sm_map]
   exact sm_congr fun p hp => fl_first hn he ⟨hh.1, by omega⟩ hf hz (fl_mem hn he ⟨hh.1, by omega⟩ hf hp).1
  have hmv : Ev (fun k => expand_Moves.f k n hold arcs s t h f) (toldL f (movesK (gridKinds n h hold s t arcs)), 0) := by
   have h1 := moves15_ev n hold arcs s t h f
   have e1 : movesR n hold arcs s t h f = (toldL f (movesK (gridKinds n h hold s t arcs)), 0) := by
    unfold movesR
    rw [if_pos (small_exp hs), if_pos hfl, if_pos, gridMoves_eq]
    refine within_all fun j hj => ?_
    rw [rdI_of (by omega), rdA_of hj]
    exact ⟨hf.lo j (by omega), hf.hi j (by omega) hj⟩
   rw [e1] at h1
   exact h1
  have hlen : (toldL f (movesK (gridKinds n h hold s t arcs))).length ≤ 1048576 := by
   have h1 := toldL_length f (movesK (gridKinds n h hold s t arcs))
   have h2 := movesK_len (gridKinds n h hold s t arcs)
   rw [gridKinds_length] at h2
   omega
  have hok : ∀ x ∈ toldL f (movesK (gridKinds n h hold s t arcs)), OkM x := fun x hx => by
   have h1 := fl_may hn he ⟨hh.1, by omega⟩ hf hx
   have a0 := h1.1.a0
   have a1 := h1.1.a1
   have b0 := h1.1.b0
   have b1 := h1.1.b1
   have hl := hn.len
   have o3 := (arcAt_ok hn a0 a1).f3
   unfold OkM fits
   omega
  have hch : Ev (fun k => ebbtideref14_Check.f k n hold arcs s t h (toldL f (movesK (gridKinds n h hold s t arcs)))) (sm (eA s) ((gridKinds n h hold s t arcs).zip f), 0) := by
   have h1 := checkQ_ev (n := n) (hold := hold) (arcs := arcs) (s := s) (t := t) (h := h) hlen hok
   rw [fl_plan hn he ⟨hh.1, by omega⟩ hf hz] at h1
   exact h1
  rw [hval]
  refine Ev.step (f := fun k => (expand_Moves.f k n hold arcs s t h f).bind fun bt391 => ((ebbtideref14_Check.f k n hold arcs s t h bt391.1).bind fun bt395 => (if bt391.2 = 0 then (if bt395.2 = 0 then (some (bt395.1 == sm (eA s) ((gridKinds n h hold s t arcs).zip f))) else (some false)) else (some false)))) (fun k => ?_) (Ev.bind hmv (Ev.bind hch ?_))
  ·rw [ebbtidelaw15_ExpandRuns.l1, if_neg (by omega)]
   simp only [if_true]
  ·simp only [if_true, beq_self_eq_true]
   exact Ev.now _
 | succ d ih =>
  intro i hi
  have hlt : i < f.length := by omega
  have hltA : i < (gridArcs n h hold s t arcs).length := by omega
  have hnext := ih (i + 1) (by omega)
  rw [List.take_succ_eq_append_getElem (by omega), sm_snoc, List.getElem_zip] at hnext
  have hlo := hf.lo i hlt
  have hhi := hf.hi i hlt hltA
  have hcap := (runs_arc hs hN hltA).2
  have hbd := sm_bd (f := fun p : S54 × Int => if p.1.f0 = (h + 1) * n then p.2 else 0) (B := 1099511627776) (l := ((gridArcs n h hold s t arcs).zip f).take i) (fun p hp => by
   obtain ⟨j, hj, e⟩ := List.getElem_of_mem (List.mem_of_mem_take hp)
   rw [hzl] at hj
   rw [List.getElem_zip] at e
   subst e
   have h1 := hf.lo j hj
   have h2 := hf.hi j hj (by omega)
   have h3 := (runs_arc hs hN (hold := hold) (j := j) (by omega)).2
   simp only
   split <;> omega)
  have hln : (((gridArcs n h hold s t arcs).zip f).take i).length ≤ 300000 := by rw [List.length_take]; omega
  have w2 : wrap64 ((N : Int) - 2) = (h + 1) * n := by rw [w64v (by omega) (by omega)]; omega
  refine Ev.step (fun k => ?_) hnext
  rw [ebbtidelaw15_ExpandRuns.l1, if_pos (by omega), if_pos (by omega), if_pos (by omega), rdA_of hltA, rdI_of hlt, w2, wrap1 (by omega)]
  simp only
  by_cases c : (gridArcs n h hold s t arcs)[i].f0 = (h + 1) * n
  ·rw [if_pos c, if_pos c, w64v (by omega) (by omega)]
  ·rw [if_neg c, if_neg c, Int.add_zero]
theorem runs_loop {N : Nat} (hN : (N : Int) = (h + 1) * n + 2) (hN2 : N ≤ 100000) :
 ∀ d i : Nat, i + d = (gridArcs n h hold s t arcs).length → Ev (fun k => ebbtidelaw15_ExpandRuns.l0 k true s t h (i : Int) n hold arcs (N : Int) false (gridArcs n h hold s t arcs)) true := by
 have hh := hs.hor
 have hA : (gridArcs n h hold s t arcs).length ≤ 300000 := gridArcs_length hs.net (by omega)
 have h0n : 0 ≤ (h + 1) * n := Int.mul_nonneg (by omega) (by have := hs.two; omega)
 intro d
 induction d with
 | zero =>
  intro i hi
  have w2 : wrap64 ((N : Int) - 2) = (h + 1) * n := by rw [w64v (by omega) (by omega)]; omega
  have w1 : wrap64 ((N : Int) - 1) = (h + 1) * n + 1 := by rw [w64v (by omega) (by omega)]; omega
  obtain ⟨R, h1, h2, h3⟩ := best_ev (N := N) hN2 hA (fun j hj => (runs_arc hs hN hj).2) (fun a ha => by
   obtain ⟨j, hj, e⟩ := List.getElem_of_mem ha
   subst e
   exact (runs_arc hs hN hj).1) (nn := (N : Int)) (bb := false) (s := (h + 1) * n) (t := (h + 1) * n + 1) ⟨h0n, by omega⟩ (by omega)
  refine Ev.step (f := fun k => (ebbtideref09_Best.f k (N : Int) false (gridArcs n h hold s t arcs) ((h + 1) * n) ((h + 1) * n + 1)).bind fun t386 => (ebbtidelaw15_ExpandRuns.l1 k true s t h t386 0 0 n hold arcs (N : Int) false (gridArcs n h hold s t arcs))) (fun k => ?_) (Ev.bind h1 ?_)
  ·rw [ebbtidelaw15_ExpandRuns.l0, if_neg (by omega), w2, w1]
  ·exact runs_end hs hN hN2 h2 h3 R.length 0 (by omega)
 | succ d ih =>
  intro i hi
  have hlt : i < (gridArcs n h hold s t arcs).length := by omega
  have ha := runs_arc hs hN hlt
  refine Ev.step (fun k => ?_) (ih (i + 1) (by omega))
  rw [ebbtidelaw15_ExpandRuns.l0, if_pos (by omega), if_pos (by omega), rdA_of hlt, if_neg (by omega), if_neg (by omega), if_neg (by omega), if_neg (by omega), if_neg (by omega), wrap1 (by omega)]
end
theorem ExpandRuns : ExpandRuns.Pure := by
 intro N0 x0 g
 apply Ev.rounds
 obtain ⟨n, arcs, s, t, h, hsm, hr⟩ := read12_ev 6 (by omega) x0 g
 have hs : Small n arcs s t h [] := ⟨hsm.two, hsm.net, hsm.ends, hsm.hor, by simp, by simp⟩
 unfold ebbtidelaw15_ExpandRuns.f
 refine Ev.bind awake15_ev ?_
 simp only [if_true]
 have eb : buildR n x0.f1 arcs s t h = ((h + 1) * n + 2, false, gridArcs n h x0.f1 s t arcs, 0) := by
  unfold buildR
  rw [if_pos (small_exp hs)]
 have hB := build_ev n x0.f1 arcs s t h
 rw [eb] at hB
 refine Ev.bind hr (Ev.bind hB ?_)
 simp only [if_true]
 have hh := hs.hor
 have h2 := hs.two
 have hNle : (h + 1) * n ≤ 40 := by
  have := Int.mul_le_mul (show h + 1 ≤ 8 by omega) (show n ≤ 5 by omega) (by omega) (by omega)
  omega
 have hN0 : 0 ≤ (h + 1) * n := Int.mul_nonneg (by omega) (by omega)
 obtain ⟨N, hN⟩ := Int.eq_ofNat_of_zero_le (show 0 ≤ (h + 1) * n + 2 by omega)
 have w1 : wrap64 (h + 1) = h + 1 := w64v (by omega) (by omega)
 have w2 : wrap64 ((h + 1) * n) = (h + 1) * n := w64v (by omega) (by omega)
 have w3 : wrap64 ((h + 1) * n + 2) = (h + 1) * n + 2 := w64v (by omega) (by omega)
 rw [w1, w2, w3, bne_self_eq_false, hN]
 refine Ev.step (fun k => ?_) (runs_loop (hold := x0.f1) hs hN.symm (by omega) (gridArcs n h x0.f1 s t arcs).length 0 (by omega))
 rw [ebbtidelaw15_ExpandRuns.j0, if_neg Bool.false_ne_true]
 rfl
end Go.Proofs.Ytfhkkbpkajfdlaa.Pure
end
section
namespace Go.Proofs.Ytfhkkbpkajfdlaa
open Go Go.RowKit
def ioHead : List Char := List.map Char.ofNat [104, 97, 114, 110, 101, 115, 115, 32, 53, 97, 52, 98, 49, 100, 102, 98, 102, 48, 99, 51, 55, 54, 100, 49, 48, 99, 102, 101, 49, 101, 100, 101, 53, 51, 57, 51, 100, 99, 57, 100, 102, 101, 50, 57, 49, 54, 57, 99, 50, 100, 99, 49, 55, 50, 50, 101, 97, 53, 54, 56, 48, 100, 54, 51, 50, 54, 98, 49, 56, 99, 52, 52, 32, 99, 117, 116, 32]
def ioRest : List Char := List.map Char.ofNat [97, 116, 32, 101, 98, 98, 116, 105, 100, 101, 47, 101, 98, 98, 116, 105, 100, 101, 108, 97, 119, 49, 53, 46, 69, 120, 112, 97, 110, 100, 70, 105, 116, 115, 32, 101, 98, 98, 116, 105, 100, 101, 47, 101, 98, 98, 116, 105, 100, 101, 108, 97, 119, 49, 53, 46, 69, 120, 112, 97, 110, 100, 66, 117, 105, 108, 100, 115, 32, 101, 98, 98, 116, 105, 100, 101, 47, 101, 98, 98, 116, 105, 100, 101, 108, 97, 119, 49, 53, 46, 69, 120, 112, 97, 110, 100, 66, 97, 99, 107, 32, 101, 98, 98, 116, 105, 100, 101, 47, 101, 98, 98, 116, 105, 100, 101, 108, 97, 119, 49, 53, 46, 69, 120, 112, 97, 110, 100, 77, 111, 118, 101, 115, 32, 101, 98, 98, 116, 105, 100, 101, 47, 101, 98, 98, 116, 105, 100, 101, 108, 97, 119, 49, 53, 46, 69, 120, 112, 97, 110, 100, 82, 117, 110, 115, 32, 101, 98, 98, 116, 105, 100, 101, 47, 101, 98, 98, 116, 105, 100, 101, 108, 97, 119, 49, 53, 46, 69, 120, 112, 97, 110, 100, 70, 108, 111, 119, 115, 32, 101, 98, 98, 116, 105, 100, 101, 47, 101, 98, 98, 116, 105, 100, 101, 108, 97, 119, 49, 53, 46, 69, 120, 112, 97, 110, 100, 80, 108, 97, 110, 115]
set_option maxRecDepth 100000 in
theorem io_eq : Try.pinned.checked.prog.initOrder = String.ofList (ioHead ++ ioRest) := by kernel_rfl
theorem io_toList : Try.pinned.checked.prog.initOrder.toList = ioHead ++ ioRest := by rw [io_eq]; exact String.toList_ofList
def ioCut : List Char := List.map Char.ofNat [99, 117, 116]
set_option maxRecDepth 100000 in
theorem io_words (r : List Char) : behindMainWord (wordsSigns (ioHead ++ r)) = ioCut :: wordsSigns r := by kernel_rfl
theorem io_behind : ∃ X, behindMainWord (wordsSigns Try.pinned.checked.prog.initOrder.toList) = ioCut :: X := ⟨_, by rw [io_toList]; exact io_words _⟩
theorem io_cut : ioCut = "cut".toList := by decide +kernel
theorem io_strip (X : List (List Char)) : stripLifts liftWords (ioCut :: X) = ([], ioCut :: X) := by kernel_rfl
theorem headLifts_cut (P : Program) (h : ∃ X, behindMainWord (wordsSigns P.initOrder.toList) = ioCut :: X) : P.headLifts = [] := by
 obtain ⟨X, e⟩ := h
 unfold Program.headLifts
 rw [e, io_strip]
 rfl
theorem mayEnter_cut (P : Program) (h : ∃ X, behindMainWord (wordsSigns P.initOrder.toList) = ioCut :: X) (h1 : P.laysLater = false) (h2 : P.bearsReflect = false) (h3 : P.doorFits [] = true) : P.mayEnter = true := by
 obtain ⟨X, e⟩ := h
 unfold Program.mayEnter
 rw [e]
 simp only [io_strip, h1, h2, h3]
 rw [io_cut]
 simp
theorem liftsFinal_cut (P : Program) (h : ∃ X, behindMainWord (wordsSigns P.initOrder.toList) = ioCut :: X) : P.liftsFinal = false := by
 have h0 := headLifts_cut P h
 obtain ⟨X, e⟩ := h
 unfold Program.liftsFinal
 rw [e, h0]
 rw [io_cut]
 simp
theorem make_cut (P : Program) (h : ∃ X, behindMainWord (wordsSigns P.initOrder.toList) = ioCut :: X) : P.make = some .cut := by
 obtain ⟨X, e⟩ := h
 unfold Program.make
 rw [e]
 simp only [io_cut]
 rw [if_neg (by decide +kernel), if_pos (by simp)]
theorem p_mayEnter : Try.pinned.checked.prog.mayEnter = true := mayEnter_cut _ io_behind (by kernel_rfl) (by kernel_rfl) (by kernel_rfl)
theorem p_liftsFinal : Try.pinned.checked.prog.liftsFinal = false := liftsFinal_cut _ io_behind
theorem p_make : Try.pinned.checked.prog.make = some .cut := make_cut _ io_behind
theorem p_laidOut : laidOutB Try.pinned.checked.prog = true := by kernel_rfl
theorem p_mapsRowed : mapsRowed Try.pinned.checked.prog = true := by kernel_rfl
theorem p_stopsHeard : Try.pinned.checked.prog.stopsHeard = true := by kernel_rfl
theorem p_stops : Try.pinned.checked.prog.stops = [] := by kernel_rfl
theorem p_stopKnobs : Try.pinned.checked.prog.stopKnobs = [] := by kernel_rfl
end Go.Proofs.Ytfhkkbpkajfdlaa
end
section
namespace Go.Proofs.Ytfhkkbpkajfdlaa.expandRuns
open Go.ChangeShapes Go.WideShapes Go.ChangeAt Go.RowKit
open Go.ChangeMaps (open_string shut_string)
open Go.Proofs.Ytfhkkbpkajfdlaa.Q Go.Proofs.Ytfhkkbpkajfdlaa.R Go.Proofs.YtfhkkbpkajfdlaaW.PrintWords
theorem own : ownKnob Try.prog.godebug = none := by kernel_rfl
theorem laidOut : laidOutB Try.prog = true := by kernel_rfl
theorem open41 {w : World} {x : S41} {cs : List Value} (h : k41.K w x cs) : ∃ (A2 : Option Addr) (c2 : Nat), cs = [.int .u8 x.f0, .bool x.f1, .slice A2 x.f2.length c2, .int .u8 x.f3, .int .u8 x.f4, .int .u8 x.f5] ∧ x.f2.length ≤ c2 ∧ Kd.C k80 w A2 x.f2.length x.f2 := by
 obtain ⟨_, _, rfl, rfl, ⟨_, _, rfl, rfl, ⟨_, _, rfl, ⟨A2, c2, rfl, l2, g2⟩, ⟨_, _, rfl, rfl, ⟨_, _, rfl, rfl, rfl⟩⟩⟩⟩⟩ := h
 exact ⟨A2, c2, rfl, l2, g2⟩
set_option maxRecDepth 100000 in
theorem lifted (os : Os) (started : os.Started) (H : Type) (enc : TypeId × Value → H) :
 ReturnsInHanded {} Try.checked os 7 .any (Rows.expandRunsSpec.pre6 enc Try.prog Try.f7 Rows.expandRunsRow.domain false) (Rows.expandRunsSpec.post enc Try.prog Try.f7 false true false false) := by
 refine returnsInHanded_of_change_sized (C := Try.checked) own started (by kernel_rfl) Try.func7
  (ChangeSpec.witness6 (enc := enc) (C := Try.checked) false ⟨#[], #[.agg #[.int .u8 0, .bool false, .slice none 0 0, .int .u8 0, .int .u8 0, .int .u8 0]], []⟩ 8 (by kernel_rfl) (by kernel_rfl) (by kernel_rfl) (by kernel_rfl)) ?_
 intro W base args ds gs before hval0 hW hcnd hsz0 _
 have hval : ∀ (j : Nat) t v, Try.f7.params[j]? = some t → args[j]? = some v → Value.okWide Try.prog W .any base t v := hval0
 have hW' := hW
 obtain ⟨p, q, hA0, hV, rfl, hfz, hnd⟩ := hW
 have hA : DataW.TrodAll enc Try.prog W 0 (fun _ => true) true Try.f7.params.toList args.toList ds p := hA0
 rw [Try.params7] at hA hval
 obtain ⟨v0, vs0, d0, ds0, p0, q0, hargs, rfl, rfl, h0, r0⟩ := trodAll_cons hA
 obtain ⟨rfl, rfl, rfl⟩ := trodAll_nil r0
 obtain rfl : args = #[v0] := by cases args; simp_all
 obtain ⟨rfl, rfl⟩ := trodVars_none hV
 have k0 := h0
 have lt0 : ∀ x ∈ p0, x.block < W.heap.size := by obtain ⟨m, hm⟩ := k0; exact DataW.trod_lt m _ _ _ hm
 obtain ⟨fu0, hf0⟩ := h0
 obtain ⟨x0, K0, G0⟩ := reads41 enc W 0 (fun _ => true) true fu0 _ _ hf0
 obtain ⟨cs0, rfl, hsz0⟩ := okWide_struct Try.underlying41 (hval 0 41 v0 rfl rfl)
 have K0' : (k41).K W x0 cs0.toList := K0
 obtain ⟨ao0_2, co0_2, es0, hc0_2, hr0_2⟩ := open41 K0'
 obtain rfl : cs0 = _ := Array.toList_inj.1 es0
 have h := Pure.ExpandRuns _ x0 (G0 _ (Nat.le_refl _))
 obtain ⟨k, h⟩ := h
 refine (ebbtidelaw15_ExpandRuns.calls k x0.f0 x0.f1 _ _ x0.f2 x0.f3 x0.f4 x0.f5 true W hr0_2 hc0_2 h).mono fun e W' ⟨he, bel0⟩ => ?_
 have bel : Below W.heap.size W W' := bel0
 subst he
 exact ⟨_, rfl, _, _, _, [], _, [], hW', trodAll_mk1 (shut_bool Try.underlying4 _), (trodAll_cons_mk (Below.trod laidOut (by kernel_rfl) (of_decide_eq_true (by kernel_rfl)) k0 bel lt0) trodAll_mk0), rfl, bel.frame _, fun h => by cases h⟩
theorem andI {a b : Bool} (x : a = true) (y : b = true) : (a && b) = true := by rw [x, y]; rfl
set_option maxRecDepth 100000 in
set_option maxHeartbeats 8000000 in
theorem closed : joinedFacts Try.pinned.checked.prog 7 Try.f7 Rows.expandRunsSpec Rows.expandRunsRow = true := by
 unfold joinedFacts
 exact (andI (andI (andI (andI (andI (andI (andI (andI (andI (andI (andI (andI (andI (andI (andI (andI (andI (andI (andI (andI (andI (andI (andI (andI (andI (andI (andI (andI (andI (andI (andI (by as_aux_lemma => kernel_rfl)
  p_laidOut)
  p_mapsRowed)
  (by as_aux_lemma => kernel_rfl))
  (by as_aux_lemma => kernel_rfl))
  (by as_aux_lemma => kernel_rfl))
  (by rw [p_stops]; rfl))
  (by as_aux_lemma => kernel_rfl))
  (by rw [p_stopKnobs]; rfl))
  (by as_aux_lemma => kernel_rfl))
  (by as_aux_lemma => kernel_rfl))
  (by as_aux_lemma => kernel_rfl))
  (by as_aux_lemma => kernel_rfl))
  (by as_aux_lemma => kernel_rfl))
  (by as_aux_lemma => kernel_rfl))
  (by as_aux_lemma => kernel_rfl))
  (by as_aux_lemma => kernel_rfl))
  (by as_aux_lemma => kernel_rfl))
  (by as_aux_lemma => kernel_rfl))
  (by as_aux_lemma => kernel_rfl))
  (by as_aux_lemma => kernel_rfl))
  (by as_aux_lemma => kernel_rfl))
  (by as_aux_lemma => kernel_rfl))
  (by as_aux_lemma => kernel_rfl))
  p_stopsHeard)
  p_mayEnter)
  (by rw [p_liftsFinal]; rfl))
  (by rw [p_make]; rfl))
  (by as_aux_lemma => kernel_rfl))
  (by as_aux_lemma => kernel_rfl))
  (by as_aux_lemma => kernel_rfl))
  (by as_aux_lemma => kernel_rfl))
theorem proved : Rows.ExpandRunsSaid :=
 OpenClaim.holds_of_wide 7 Try.f7 rfl rfl rfl rfl rfl rfl rfl ⟨rfl, rfl, rfl, rfl, rfl⟩ rfl rfl rfl rfl rfl (by kernel_rfl) Try.func7 closed
  (of_decide_eq_true (by kernel_rfl)) (by unfold Func.isWrapper; first | (rw [if_pos (by decide +kernel)]; kernel_rfl) | (rw [if_neg (by decide +kernel)]; exact ⟨rfl, rfl⟩))
  (fun os started H enc _ => lifted os started H enc)
#print axioms proved
end Go.Proofs.Ytfhkkbpkajfdlaa.expandRuns
namespace Go.Proofs.Ytfhkkbpkajfdlaa
theorem expandRuns_holds : Rows.ExpandRunsSaid := expandRuns.proved
end Go.Proofs.Ytfhkkbpkajfdlaa
end
