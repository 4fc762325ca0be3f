/- A part of the proof: words, contracts, plain lemmas. Conditions: none. -/
import Derived.Test.YtfhkkbpkajfdlaaZExpandFlows4
import Derived.Test.YtfhkkbpkajfdlaaZExpandFlows5
section
namespace Go.Proofs.Ytfhkkbpkajfdlaa.Q
open Go.RowKit Go.Proofs.YtfhkkbpkajfdlaaW.PrintWords Go.Proofs.YtfhkkbpkajfdlaaW.PrintLast Go.Proofs.YtfhkkbpkajfdlaaW.PrintMore
set_option linter.unusedVariables false
set_option linter.unusedSimpArgs false
mutual
def ebbtideref15_Arcs.l0 : Nat → Int → Int → Int → List (S54) → List (S83) → Int → Int → Int → Bool → List (S54) → Option ((List (S54)) × (List (S83)))
 | 0, _, _, _, _, _, _, _, _, _, _ => none
 | k + 1, x1, x2, x3, x10, x11, x12, x13, x306000, x306001, x306002 => if x13 ≤ x3 then (ebbtideref15_Arcs.l1 k x1 x2 x3 x10 x11 x12 x13 0 x306000 x306001 x306002) else (ebbtideref15_Arcs.l3 k x1 x2 x3 x10 x11 x12 0)
def ebbtideref15_Arcs.l1 : Nat → Int → Int → Int → List (S54) → List (S83) → Int → Int → Int → Int → Bool → List (S54) → Option ((List (S54)) × (List (S83)))
 | 0, _, _, _, _, _, _, _, _, _, _, _ => none
 | k + 1, x1, x2, x3, x10, x11, x12, x13, x14, x306000, x306001, x306002 => if x14 < (x306002.length : Int) then (if 0 ≤ x14 then (if (wrap64 (x13 + ((rd_T54 x306002 x14).f3))) ≤ x3 then (if ((rd_T54 x306002 x14).f1) = x1 then (ebbtideref15_Arcs.l1 k x1 x2 x3 x10 x11 x12 x13 (wrap64 (x14 + 1)) x306000 x306001 x306002) else (if ((rd_T54 x306002 x14).f0) = x2 then (ebbtideref15_Arcs.l1 k x1 x2 x3 x10 x11 x12 x13 (wrap64 (x14 + 1)) x306000 x306001 x306002) else (if x10.length < 4398046511104 then (if x11.length < 4398046511104 then (ebbtideref15_Arcs.l1 k x1 x2 x3 (x10 ++ [(⟨wrap64 ((wrap64 (x13 * x12)) + ((rd_T54 x306002 x14).f0)), wrap64 ((wrap64 ((wrap64 (x13 + ((rd_T54 x306002 x14).f3))) * x12)) + ((rd_T54 x306002 x14).f1)), (rd_T54 x306002 x14).f2, 0⟩ : S54)]) (x11 ++ [(⟨true, false, x14, 0, x13⟩ : S83)]) x12 x13 (wrap64 (x14 + 1)) x306000 x306001 x306002) else (none)) else (none)))) else (ebbtideref15_Arcs.l1 k x1 x2 x3 x10 x11 x12 x13 (wrap64 (x14 + 1)) x306000 x306001 x306002)) else (none)) else (ebbtideref15_Arcs.l2 k x1 x2 x3 x10 x11 x12 x13 0 x306000 x306001 x306002)
def ebbtideref15_Arcs.l2 : Nat → Int → Int → Int → List (S54) → List (S83) → Int → Int → Int → Int → Bool → List (S54) → Option ((List (S54)) × (List (S83)))
 | 0, _, _, _, _, _, _, _, _, _, _, _ => none
 | k + 1, x1, x2, x3, x10, x11, x12, x13, x16, x306000, x306001, x306002 => if x16 < x12 then (if x306001 = true then (ebbtideref15_Arcs.j3 k x1 x2 x3 x10 x11 x12 x13 x16 (decide (x13 < x3)) x306000 x306001 x306002) else (ebbtideref15_Arcs.j3 k x1 x2 x3 x10 x11 x12 x13 x16 false x306000 x306001 x306002)) else (ebbtideref15_Arcs.j3 k x1 x2 x3 x10 x11 x12 x13 x16 false x306000 x306001 x306002)
def ebbtideref15_Arcs.j3 : Nat → Int → Int → Int → List (S54) → List (S83) → Int → Int → Int → Bool → Int → Bool → List (S54) → Option ((List (S54)) × (List (S83)))
 | 0, _, _, _, _, _, _, _, _, _, _, _, _ => none
 | k + 1, x1, x2, x3, x10, x11, x12, x13, x16, x94, x306000, x306001, x306002 => if x94 = true then (if x16 = x1 then (ebbtideref15_Arcs.l2 k x1 x2 x3 x10 x11 x12 x13 (wrap64 (x16 + 1)) x306000 x306001 x306002) else (if x16 = x2 then (ebbtideref15_Arcs.l2 k x1 x2 x3 x10 x11 x12 x13 (wrap64 (x16 + 1)) x306000 x306001 x306002) else (if x10.length < 4398046511104 then (if x11.length < 4398046511104 then (ebbtideref15_Arcs.l2 k x1 x2 x3 (x10 ++ [(⟨wrap64 ((wrap64 (x13 * x12)) + x16), wrap64 ((wrap64 ((wrap64 (x13 + 1)) * x12)) + x16), 1099511627776, 0⟩ : S54)]) (x11 ++ [(⟨false, true, 0, x16, x13⟩ : S83)]) x12 x13 (wrap64 (x16 + 1)) x306000 x306001 x306002) else (none)) else (none)))) else (ebbtideref15_Arcs.l0 k x1 x2 x3 x10 x11 x12 (wrap64 (x13 + 1)) x306000 x306001 x306002)
def ebbtideref15_Arcs.l3 : Nat → Int → Int → Int → List (S54) → List (S83) → Int → Int → Option ((List (S54)) × (List (S83)))
 | 0, _, _, _, _, _, _, _ => none
 | k + 1, x1, x2, x3, x10, x11, x12, x17 => if x17 ≤ x3 then (if x10.length < 4398046511104 then (if x11.length < 4398046511104 then (ebbtideref15_Arcs.l3 k x1 x2 x3 (x10 ++ [(⟨wrap64 ((wrap64 (x3 + 1)) * x12), wrap64 ((wrap64 (x17 * x12)) + x1), 1099511627776, 0⟩ : S54)]) (x11 ++ [(⟨false, false, 0, x1, x17⟩ : S83)]) x12 (wrap64 (x17 + 1))) else (none)) else (none)) else (ebbtideref15_Arcs.l4 k x2 x3 x10 x11 x12 0)
def ebbtideref15_Arcs.l4 : Nat → Int → Int → List (S54) → List (S83) → Int → Int → Option ((List (S54)) × (List (S83)))
 | 0, _, _, _, _, _, _ => none
 | k + 1, x2, x3, x10, x11, x12, x18 => if x18 ≤ x3 then (if x10.length < 4398046511104 then (if x11.length < 4398046511104 then (ebbtideref15_Arcs.l4 k x2 x3 (x10 ++ [(⟨wrap64 ((wrap64 (x18 * x12)) + x2), wrap64 ((wrap64 ((wrap64 (x3 + 1)) * x12)) + 1), 1099511627776, 0⟩ : S54)]) (x11 ++ [(⟨false, false, 0, x2, x18⟩ : S83)]) x12 (wrap64 (x18 + 1))) else (none)) else (none)) else (some (x10, x11))
end
def ebbtideref15_Arcs.f (k : Nat) (a0_0 : Int) (a0_1 : Bool) (l0_2 : List (S54)) (a1 : Int) (a2 : Int) (a3 : Int) : Option ((List (S54)) × (List (S83))) := ebbtideref15_Arcs.l0 k a1 a2 a3 ([] : List (S54)) ([] : List (S83)) a0_0 0 a0_0 a0_1 l0_2
set_option maxHeartbeats 8000000 in
set_option maxRecDepth 100000 in
theorem ebbtideref15_Arcs.calls (k : Nat) (a0_0 : Int) (a0_1 : Bool) (A0_2 : Option Addr) (c0_2 : Nat) (l0_2 : List (S54)) (a1 : Int) (a2 : Int) (a3 : Int) (r1 : List (S54)) (r2 : List (S83)) (w : World) (hr0_2 : Kd.C k54 w A0_2 l0_2.length l0_2) (hc0_2 : l0_2.length ≤ c0_2) (h : ebbtideref15_Arcs.f k a0_0 a0_1 l0_2 a1 a2 a3 = some (r1, r2)) :
  Calls Try.prog 24 #[.agg #[.int .i64 a0_0, .bool a0_1, .slice A0_2 l0_2.length c0_2], .int .i64 a1, .int .i64 a2, .int .i64 a3] w fun e w' => ∃ v0_ v1_ : Value, e = .returned (.tuple #[v0_, v1_]) ∧ Kd.R k54 54 w' w.heap.size (fun _ => True) v0_ r1 ∧ Kd.R k83 83 w' w.heap.size (fun _ => True) v1_ r2 ∧ Below w.heap.size w w' := by
 have hu24 := Try.underlying24; have hu54 := Try.underlying54; have hu83 := Try.underlying83; have HR0_2 := am_ hr0_2; have HC0_2 := am_ hc0_2; clear hr0_2 hc0_2; have HB := am_ (Below.refl w.heap.size w); have H : (ebbtideref15_Arcs.l0 k a1 a2 a3 ([] : List (S54)) ([] : List (S83)) a0_0 0 a0_0 a0_1 l0_2) = some (r1, r2) := h; clear h; have H' := am_ H; clear H
 go_enter Try.func24, Try.ntmps24
 go_wp2_with (first | ((with_reducible refine gate_dst (N := 4) rfl ?_); refine bx_ 4 #[.int .i64 a0_0, .bool a0_1, .slice A0_2 l0_2.length c0_2] 24 ?_; intro gb305 hg w5 BK305 hb; have GE305 := ge_ (w := w) hg; replace HB := hst_ hb; clear hb hg; obtain ⟨hcz6_0, hcz6_1, hcz6_2, hfz6_0, hfz6_1, hfz6_2⟩ := cf3_ BK305.out))
 go_loopg [10, 11, 13] k (fun kq v10 v11 v13 w' => ∃ (x10_1 : List (S54)) (x11_1 : List (S83)) (x13_1 : Int), v13 = .int .i64 x13_1 ∧ Aside0 (ebbtideref15_Arcs.l0 kq a1 a2 a3 x10_1 x11_1 a0_0 x13_1 a0_0 a0_1 l0_2 = some (r1, r2)) ∧ Aside0 (kq ≤ k) ∧ Aside0 (Kd.R k54 54 w' w.heap.size (fun _ => True) v10 x10_1) ∧ Aside0 (Kd.R k83 83 w' w.heap.size (fun _ => True) v11 x11_1) ∧ Aside0 (w'.heap[gb305]? = some (.cells #[.int .i64 a0_0, .bool a0_1, (.slice A0_2 l0_2.length c0_2)] 24 (0, 0))) ∧ Aside0 (Below w.heap.size w w'))
 case atStart => exact ⟨(([] : List (S54))), (([] : List (S83))), (0), rs_, H', ⟨Nat.le_refl _⟩, ⟨ni_⟩, ⟨ni_⟩, ⟨bq_ BK305.out⟩, ⟨hb_⟩⟩
 case round =>
  clear H'
  try clear c2
  try clear p2
  try clear hcz6_0 hcz6_1 hcz6_2 hfz6_0 hfz6_1 hfz6_2
  obtain ⟨x10_1, x11_1, x13_1, rfl, HA, HK1, HO_10, HO_11, BK305, HB⟩ := hrel
  cases gk with
  | zero => exact absurd HA.out (by simp [ebbtideref15_Arcs.l0])
  | succ k1 =>
   have H := HA.out; clear HA; simp only [ebbtideref15_Arcs.l0] at H
   by_cases c7 : x13_1 ≤ a3
   ·rw [if_pos c7] at H
    have c7b0 := decide_eq_true c7; clear c7; have H' := am_ H; clear H
    go_wp2
    go_loopg [10, 11, 14] k1 (fun kq v10 v11 v14 w' => ∃ (x10_2 : List (S54)) (x11_2 : List (S83)) (x14_2 : Int), v14 = .int .i64 x14_2 ∧ Aside0 (ebbtideref15_Arcs.l1 kq a1 a2 a3 x10_2 x11_2 a0_0 x13_1 x14_2 a0_0 a0_1 l0_2 = some (r1, r2)) ∧ Aside0 (kq ≤ k1) ∧ Aside0 (Kd.R k54 54 w' w.heap.size (fun _ => True) v10 x10_2) ∧ Aside0 (Kd.R k83 83 w' w.heap.size (fun _ => True) v11 x11_2) ∧ Aside0 (w'.heap[gb305]? = some (.cells #[.int .i64 a0_0, .bool a0_1, (.slice A0_2 l0_2.length c0_2)] 24 (0, 0))) ∧ Aside0 (Below w.heap.size w w'))
    case atStart => exact ⟨(x10_1), (x11_1), (0), rs_, H', ⟨Nat.le_refl _⟩, ⟨rq_ HO_10.out⟩, ⟨rq_ HO_11.out⟩, ⟨bq_ BK305.out⟩, ⟨hb_⟩⟩
    case round =>
     clear H'
     try clear c2
     try clear p2
     try clear c7
     try clear c7b0
     try clear hcz6_0 hcz6_1 hcz6_2 hfz6_0 hfz6_1 hfz6_2
     try clear p2
     obtain ⟨x10_2, x11_2, x14_2, rfl, HA, HK2, HO_10, HO_11, BK305, HB⟩ := hrel
     cases gk with
     | zero => exact absurd HA.out (by simp [ebbtideref15_Arcs.l1])
     | succ k2 =>
      have H := HA.out; clear HA; simp only [ebbtideref15_Arcs.l1] at H
      by_cases c8 : x14_2 < (l0_2.length : Int)
      ·rw [if_pos c8] at H
       have c8b0 := decide_eq_true c8; clear c8
       replace H := ifn_ H; obtain ⟨c9, H⟩ := H
       have c9b0 := decide_eq_true c9; clear c9
       by_cases c10 : (wrap64 (x13_1 + ((rd_T54 l0_2 x14_2).f3))) ≤ a3
       ·rw [if_pos c10] at H
        have c10b0 := decide_eq_true c10; clear c10
        by_cases c11 : ((rd_T54 l0_2 x14_2).f1) = a1
        ·rw [if_pos c11] at H
         obtain ⟨c11b0, c11b1⟩ := eqb_ c11; clear c11; have H' := am_ H; clear H; obtain ⟨hcz12_0, hcz12_1, hcz12_2, hfz12_0, hfz12_1, hfz12_2⟩ := cf3_ BK305.out; have p306 := od_ (p := 0 ≤ (x14_2 : Int)); have q306 := od_ (p := x14_2 < (l0_2.length : Int)); obtain ⟨ad306, e306, hx306_0, hx306_1, hx306_2, hx306_3⟩ := tr4_ HB.out (at_T54 HR0_2.out x14_2 p306 q306); cases e306; replace p306 := eq_true p306; replace q306 := eq_true q306
         go_wp2_with (first | ((with_reducible refine gate_dst (N := 15) rfl ?_); refine bx_ 15 #[.int .i64 0, .int .i64 0, .int .i64 0, .int .i64 0] 54 ?_; intro gb307 hg w13 BK307 hb; replace HO_10 := am_ (Kd.R_below (Kd.R_elderB (rq_ HO_10.out) gb307 (Nat.le_of_eq hg.symm)) hb); replace HO_11 := am_ (Kd.R_below (rq_ HO_11.out) hb); have GE307 := ge_ (w := w) hg; replace HB := hst_ hb; have NB305_307 := am_ (nl_ BK305.out hg); have NB307_305 := am_ (ng_ BK305.out hg); replace BK305 := am_ (bb_ BK305.out hb); clear hb hg; have hnb14 := NB307_305.out; have hnc14 := NB305_307.out; obtain ⟨hcz15_0, hcz15_1, hcz15_2, hcz15_3, hfz15_0, hfz15_1, hfz15_2, hfz15_3⟩ := cf4_ BK307.out))
         go_roundg k2
         case measure => have := HK1.out; have := HK2.out; omega
         case rel => exact ⟨(x10_2), (x11_2), (wrap64 (x14_2 + 1)), rs_, H', ⟨by have := HK1.out; have := HK2.out; omega⟩, ⟨by refine rq_ ?_; exact Kd.R_mono (rf4_ (Kd.R_mono HO_10.out (fun k_ hk => (⟨hk, hk.2⟩ : _ ∧ k_ ≠ gb307)))) (fun _ hk => trivial)⟩, ⟨by refine rq_ ?_; exact Kd.R_mono (rf4_ (Kd.R_types HO_11.out BK307.out (by decide))) (fun _ hk => trivial)⟩, ⟨by refine bq_ ?_; refine blk_far ?_ NB305_307.out _; refine bq_ ?_; refine blk_far ?_ NB305_307.out _; refine bq_ ?_; refine blk_far ?_ NB305_307.out _; refine bq_ ?_; refine blk_far ?_ NB305_307.out _; refine bq_ ?_; exact BK305.out⟩, ⟨hb_⟩⟩
        ·rw [if_neg c11] at H
         obtain ⟨c11b0, c11b1⟩ := neb_ c11
         by_cases c16 : ((rd_T54 l0_2 x14_2).f0) = a2
         ·rw [if_pos c16] at H
          obtain ⟨c16b0, c16b1⟩ := eqb_ c16; clear c16; have H' := am_ H; clear H; obtain ⟨hcz17_0, hcz17_1, hcz17_2, hfz17_0, hfz17_1, hfz17_2⟩ := cf3_ BK305.out; have p306 := od_ (p := 0 ≤ (x14_2 : Int)); have q306 := od_ (p := x14_2 < (l0_2.length : Int)); obtain ⟨ad306, e306, hx306_0, hx306_1, hx306_2, hx306_3⟩ := tr4_ HB.out (at_T54 HR0_2.out x14_2 p306 q306); cases e306; replace p306 := eq_true p306; replace q306 := eq_true q306
          go_wp2_with (first | ((with_reducible refine gate_dst (N := 15) rfl ?_); refine bx_ 15 #[.int .i64 0, .int .i64 0, .int .i64 0, .int .i64 0] 54 ?_; intro gb307 hg w18 BK307 hb; replace HO_10 := am_ (Kd.R_below (Kd.R_elderB (rq_ HO_10.out) gb307 (Nat.le_of_eq hg.symm)) hb); replace HO_11 := am_ (Kd.R_below (rq_ HO_11.out) hb); have GE307 := ge_ (w := w) hg; replace HB := hst_ hb; have NB305_307 := am_ (nl_ BK305.out hg); have NB307_305 := am_ (ng_ BK305.out hg); replace BK305 := am_ (bb_ BK305.out hb); clear hb hg; have hnb19 := NB307_305.out; have hnc19 := NB305_307.out; obtain ⟨hcz20_0, hcz20_1, hcz20_2, hcz20_3, hfz20_0, hfz20_1, hfz20_2, hfz20_3⟩ := cf4_ BK307.out))
          go_roundg k2
          case measure => have := HK1.out; have := HK2.out; omega
          case rel => exact ⟨(x10_2), (x11_2), (wrap64 (x14_2 + 1)), rs_, H', ⟨by have := HK1.out; have := HK2.out; omega⟩, ⟨by refine rq_ ?_; exact Kd.R_mono (rf4_ (Kd.R_mono HO_10.out (fun k_ hk => (⟨hk, hk.2⟩ : _ ∧ k_ ≠ gb307)))) (fun _ hk => trivial)⟩, ⟨by refine rq_ ?_; exact Kd.R_mono (rf4_ (Kd.R_types HO_11.out BK307.out (by decide))) (fun _ hk => trivial)⟩, ⟨by refine bq_ ?_; refine blk_far ?_ NB305_307.out _; refine bq_ ?_; refine blk_far ?_ NB305_307.out _; refine bq_ ?_; refine blk_far ?_ NB305_307.out _; refine bq_ ?_; refine blk_far ?_ NB305_307.out _; refine bq_ ?_; exact BK305.out⟩, ⟨hb_⟩⟩
         ·rw [if_neg c16] at H
          obtain ⟨c16b0, c16b1⟩ := neb_ c16
          replace H := ifn_ H; obtain ⟨c21, H⟩ := H
          have LMc21 := am_ c21; clear c21; obtain ⟨y308, hy_⟩ : ∃ y_ : List (S54), y_ = (x10_2 ++ [(⟨wrap64 ((wrap64 (x13_1 * a0_0)) + ((rd_T54 l0_2 x14_2).f0)), wrap64 ((wrap64 ((wrap64 (x13_1 + ((rd_T54 l0_2 x14_2).f3))) * a0_0)) + ((rd_T54 l0_2 x14_2).f1)), (rd_T54 l0_2 x14_2).f2, 0⟩ : S54)]) := ⟨_, rfl⟩
          replace H : (if x11_2.length < 4398046511104 then (ebbtideref15_Arcs.l1 k2 a1 a2 a3 y308 (x11_2 ++ [(⟨true, false, x14_2, 0, x13_1⟩ : S83)]) a0_0 x13_1 (wrap64 (x14_2 + 1)) a0_0 a0_1 l0_2) else (none)) = some (r1, r2) := hyH_
          have Ny308 := am_ hy_; clear hy_
          replace H := ifn_ H; obtain ⟨c22, H⟩ := H
          have LMc22 := am_ c22; clear c22; obtain ⟨y311, hy_⟩ : ∃ y_ : List (S83), y_ = (x11_2 ++ [(⟨true, false, x14_2, 0, x13_1⟩ : S83)]) := ⟨_, rfl⟩
          replace H : (ebbtideref15_Arcs.l1 k2 a1 a2 a3 y308 y311 a0_0 x13_1 (wrap64 (x14_2 + 1)) a0_0 a0_1 l0_2) = some (r1, r2) := hyH_
          have Ny311 := am_ hy_; clear hy_; have H' := am_ H; clear H; obtain ⟨hcz23_0, hcz23_1, hcz23_2, hfz23_0, hfz23_1, hfz23_2⟩ := cf3_ BK305.out; have p306 := od_ (p := 0 ≤ (x14_2 : Int)); have q306 := od_ (p := x14_2 < (l0_2.length : Int)); obtain ⟨ad306, e306, hx306_0, hx306_1, hx306_2, hx306_3⟩ := tr4_ HB.out (at_T54 HR0_2.out x14_2 p306 q306); cases e306; replace p306 := eq_true p306; replace q306 := eq_true q306
          go_wp2_with (first | ((with_reducible refine gate_dst (N := 15) rfl ?_); refine bx_ 15 #[.int .i64 0, .int .i64 0, .int .i64 0, .int .i64 0] 54 ?_; intro gb307 hg w24 BK307 hb; replace HO_10 := am_ (Kd.R_below (Kd.R_elderB (rq_ HO_10.out) gb307 (Nat.le_of_eq hg.symm)) hb); replace HO_11 := am_ (Kd.R_below (rq_ HO_11.out) hb); have GE307 := ge_ (w := w) hg; replace HB := hst_ hb; have NB305_307 := am_ (nl_ BK305.out hg); have NB307_305 := am_ (ng_ BK305.out hg); replace BK305 := am_ (bb_ BK305.out hb); clear hb hg; have hnb25 := NB307_305.out; have hnc25 := NB305_307.out; obtain ⟨hcz26_0, hcz26_1, hcz26_2, hcz26_3, hfz26_0, hfz26_1, hfz26_2, hfz26_3⟩ := cf4_ BK307.out) | ((with_reducible refine gate_builtin (b := .append) (xs := #[.tmp 56, .tmp 75]) rfl ?_); at_builtin; refine Kd.R_append k54 (w0 := w) w.heap.size rfl (.tmp 56) (.tmp 75) 22 54 (.agg #[(.int .i64 0), (.int .i64 0), (.int .i64 0), (.int .i64 0)]) 32 rfl Try.underlying22 info54 rfl (by decide) (by omega) u10 x10_2 (⟨wrap64 ((wrap64 (x13_1 * a0_0)) + ((rd_T54 l0_2 x14_2).f0)), wrap64 ((wrap64 ((wrap64 (x13_1 + ((rd_T54 l0_2 x14_2).f3))) * a0_0)) + ((rd_T54 l0_2 x14_2).f1)), (rd_T54 l0_2 x14_2).f2, 0⟩ : S54) [.int .i64 (wrap64 ((wrap64 (x13_1 * a0_0)) + ((rd_T54 l0_2 x14_2).f0))), .int .i64 (wrap64 ((wrap64 ((wrap64 (x13_1 + ((rd_T54 l0_2 x14_2).f3))) * a0_0)) + ((rd_T54 l0_2 x14_2).f1))), .int .i64 ((rd_T54 l0_2 x14_2).f2), .int .i64 0] (fun k_ => k_ ≠ gb307) (fun _ => False) rfl (by first | (go_simp; done) | (go_simp; rfl)) ?aP (fun _ hk => hk.elim) ?aF ?aO ?aB ?aS ?aL ?_; (case aP => exact k54_mkM _ _ _ (⟨wrap64 ((wrap64 (x13_1 * a0_0)) + ((rd_T54 l0_2 x14_2).f0)), wrap64 ((wrap64 ((wrap64 (x13_1 + ((rd_T54 l0_2 x14_2).f3))) * a0_0)) + ((rd_T54 l0_2 x14_2).f1)), (rd_T54 l0_2 x14_2).f2, 0⟩ : S54)); (case aB => exact hb_); (case aF => exact (fun k_ hk => Kd.freshB (g := gb307) (o := .cells #[.int .i64 ((rd_T54 l0_2 x14_2).f0), .int .i64 ((rd_T54 l0_2 x14_2).f1), .int .i64 ((rd_T54 l0_2 x14_2).f2), .int .i64 ((rd_T54 l0_2 x14_2).f3)] 54 (0, 0)) q12_ k_ hk)); (case aO => exact (by refine rq_ ?_; exact Kd.R_mono (rf4_ (Kd.R_mono HO_10.out (fun k_ hk => (⟨hk, hk.2⟩ : _ ∧ k_ ≠ gb307)))) (fun _ hk => hk.1.2))); (case aS => exact (below_size hb_)); (case aL => have := LMc21.out; omega); intro v309 w27 ho hb hg hat; rw [← Ny308.out] at ho; replace HO_11 := am_ (Kd.R_over' (by refine rq_ ?_; exact (Kd.R_mono (rf4_ (Kd.R_types HO_11.out BK307.out (by decide))) (fun _ h_ => h_.1))) (Kd.R_typed (by refine rq_ ?_; exact (Kd.R_mono (rf4_ (Kd.R_mono HO_10.out (fun k_ hk => (⟨hk, hk.2⟩ : _ ∧ k_ ≠ gb307)))) (fun _ h_ => h_.1)))) (by decide) hg); replace BK305 := am_ (blk_grown (g := gb305) (o := .cells #[.int .i64 a0_0, .bool a0_1, .slice (some ad306) l0_2.length c0_2] 24 (0, 0)) (by refine bq_ ?_; refine blk_far ?_ NB305_307.out _; refine bq_ ?_; refine blk_far ?_ NB305_307.out _; refine bq_ ?_; refine blk_far ?_ NB305_307.out _; refine bq_ ?_; refine blk_far ?_ NB305_307.out _; refine bq_ ?_; exact BK305.out) hg (Kd.R_ne HO_10.out BK305.out (by decide))); replace BK307 := am_ (blk_grown (g := gb307) (o := .cells #[.int .i64 ((rd_T54 l0_2 x14_2).f0), .int .i64 ((rd_T54 l0_2 x14_2).f1), .int .i64 ((rd_T54 l0_2 x14_2).f2), .int .i64 ((rd_T54 l0_2 x14_2).f3)] 54 (0, 0)) q12_ hg (Kd.R_away HO_10.out (fun _ hk => hk.2))); replace HB := am_ (hb); have HO310 := am_ (ho); clear HO_10; clear ho hb hg hat) | ((with_reducible refine gate_builtin (b := .append) (xs := #[.tmp 77, .tmp 81]) rfl ?_); at_builtin; refine Kd.R_append k83 (w0 := w) w.heap.size rfl (.tmp 77) (.tmp 81) 49 83 (.agg #[(.bool false), (.bool false), (.int .i64 0), (.int .i64 0), (.int .i64 0)]) 32 rfl Try.underlying49 info83 rfl (by decide) (by omega) u11 x11_2 (⟨true, false, x14_2, 0, x13_1⟩ : S83) [.bool true, .bool false, .int .i64 x14_2, .int .i64 0, .int .i64 x13_1] (fun _ => True) (fun _ => False) rfl rfl ?aP (fun _ hk => hk.elim) ?aF ?aO ?aB ?aS ?aL ?_; (case aP => exact k83_mkM _ _ _ (⟨true, false, x14_2, 0, x13_1⟩ : S83)); (case aB => exact hb_); (case aF => exact (fun _ _ => trivial)); (case aO => exact (rq_ HO_11.out)); (case aS => exact (below_size hb_)); (case aL => have := LMc22.out; omega); intro v312 w28 ho hb hg hat; rw [← Ny311.out] at ho; replace BK305 := am_ (bg_ BK305.out hg (Kd.R_ne HO_11.out BK305.out (by decide))); replace BK307 := am_ (bg_ BK307.out hg (Kd.R_ne HO_11.out BK307.out (by decide))); replace HO310 := am_ (Kd.R_over' (rq_ HO310.out) (Kd.R_typed (rq_ HO_11.out)) (by decide) hg); replace HB := am_ (hb); have HO313 := am_ (ho); clear HO_11; clear ho hb hg hat))
          go_roundg k2
          case measure => have := HK1.out; have := HK2.out; omega
          case rel => exact ⟨(y308), (y311), (wrap64 (x14_2 + 1)), rs_, H', ⟨by have := HK1.out; have := HK2.out; omega⟩, ⟨by refine rq_ ?_; exact Kd.R_mono HO310.out (fun _ hk => trivial)⟩, ⟨rq_ HO313.out⟩, ⟨bq_ BK305.out⟩, ⟨hb_⟩⟩
       ·rw [if_neg c10] at H
        have c10b0 := decide_eq_false c10; clear c10; have H' := am_ H; clear H; obtain ⟨hcz29_0, hcz29_1, hcz29_2, hfz29_0, hfz29_1, hfz29_2⟩ := cf3_ BK305.out; have p306 := od_ (p := 0 ≤ (x14_2 : Int)); have q306 := od_ (p := x14_2 < (l0_2.length : Int)); obtain ⟨ad306, e306, hx306_0, hx306_1, hx306_2, hx306_3⟩ := tr4_ HB.out (at_T54 HR0_2.out x14_2 p306 q306); cases e306; replace p306 := eq_true p306; replace q306 := eq_true q306
        go_wp2_with (first | ((with_reducible refine gate_dst (N := 15) rfl ?_); refine bx_ 15 #[.int .i64 0, .int .i64 0, .int .i64 0, .int .i64 0] 54 ?_; intro gb307 hg w30 BK307 hb; replace HO_10 := am_ (Kd.R_below (Kd.R_elderB (rq_ HO_10.out) gb307 (Nat.le_of_eq hg.symm)) hb); replace HO_11 := am_ (Kd.R_below (rq_ HO_11.out) hb); have GE307 := ge_ (w := w) hg; replace HB := hst_ hb; have NB305_307 := am_ (nl_ BK305.out hg); have NB307_305 := am_ (ng_ BK305.out hg); replace BK305 := am_ (bb_ BK305.out hb); clear hb hg; have hnb31 := NB307_305.out; have hnc31 := NB305_307.out; obtain ⟨hcz32_0, hcz32_1, hcz32_2, hcz32_3, hfz32_0, hfz32_1, hfz32_2, hfz32_3⟩ := cf4_ BK307.out))
        go_roundg k2
        case measure => have := HK1.out; have := HK2.out; omega
        case rel => exact ⟨(x10_2), (x11_2), (wrap64 (x14_2 + 1)), rs_, H', ⟨by have := HK1.out; have := HK2.out; omega⟩, ⟨by refine rq_ ?_; exact Kd.R_mono (rf4_ (Kd.R_mono HO_10.out (fun k_ hk => (⟨hk, hk.2⟩ : _ ∧ k_ ≠ gb307)))) (fun _ hk => trivial)⟩, ⟨by refine rq_ ?_; exact Kd.R_mono (rf4_ (Kd.R_types HO_11.out BK307.out (by decide))) (fun _ hk => trivial)⟩, ⟨by refine bq_ ?_; refine blk_far ?_ NB305_307.out _; refine bq_ ?_; refine blk_far ?_ NB305_307.out _; refine bq_ ?_; refine blk_far ?_ NB305_307.out _; refine bq_ ?_; refine blk_far ?_ NB305_307.out _; refine bq_ ?_; exact BK305.out⟩, ⟨hb_⟩⟩
      ·rw [if_neg c8] at H
       have c8b0 := decide_eq_false c8; clear c8; have H' := am_ H; clear H; obtain ⟨hcz33_0, hcz33_1, hcz33_2, hfz33_0, hfz33_1, hfz33_2⟩ := cf3_ BK305.out
       go_wp2
       go_loopg [10, 11, 16] k2 (fun kq v10 v11 v16 w' => ∃ (x10_3 : List (S54)) (x11_3 : List (S83)) (x16_3 : Int), v16 = .int .i64 x16_3 ∧ Aside0 (ebbtideref15_Arcs.l2 kq a1 a2 a3 x10_3 x11_3 a0_0 x13_1 x16_3 a0_0 a0_1 l0_2 = some (r1, r2)) ∧ Aside0 (kq ≤ k2) ∧ Aside0 (Kd.R k54 54 w' w.heap.size (fun _ => True) v10 x10_3) ∧ Aside0 (Kd.R k83 83 w' w.heap.size (fun _ => True) v11 x11_3) ∧ Aside0 (w'.heap[gb305]? = some (.cells #[.int .i64 a0_0, .bool a0_1, (.slice A0_2 l0_2.length c0_2)] 24 (0, 0))) ∧ Aside0 (Below w.heap.size w w'))
       case atStart => exact ⟨(x10_2), (x11_2), (0), rs_, H', ⟨Nat.le_refl _⟩, ⟨rq_ HO_10.out⟩, ⟨rq_ HO_11.out⟩, ⟨bq_ BK305.out⟩, ⟨hb_⟩⟩
       case round =>
        clear H'
        try clear c1
        try clear c2
        try clear p2
        try clear c3
        try clear p3
        try clear q3
        try clear hx3
        try clear p6
        try clear c7
        try clear c7b0
        try clear c8
        try clear c8b0
        try clear c9
        try clear c9b0
        try clear c10
        try clear c10b0
        try clear c11
        try clear c11b0
        try clear c11b1
        try clear c14
        try clear c16
        try clear c16b0
        try clear c16b1
        try clear c19
        try clear c21
        try clear c22
        try clear c24
        try clear c25
        try clear p30
        try clear q30
        try clear hx30
        try clear c31
        try clear hcz12_0 hcz12_1 hcz12_2
        try clear hcz15_0 hcz15_1 hcz15_2 hcz15_3
        try clear hcz17_0 hcz17_1 hcz17_2
        try clear hcz20_0 hcz20_1 hcz20_2 hcz20_3
        try clear hcz23_0 hcz23_1 hcz23_2
        try clear hcz26_0 hcz26_1 hcz26_2 hcz26_3
        try clear hcz29_0 hcz29_1 hcz29_2
        try clear hcz32_0 hcz32_1 hcz32_2 hcz32_3
        try clear hcz33_0 hcz33_1 hcz33_2
        try clear hcz6_0 hcz6_1 hcz6_2
        try clear hfz12_0 hfz12_1 hfz12_2
        try clear hfz15_0 hfz15_1 hfz15_2 hfz15_3
        try clear hfz17_0 hfz17_1 hfz17_2
        try clear hfz20_0 hfz20_1 hfz20_2 hfz20_3
        try clear hfz23_0 hfz23_1 hfz23_2
        try clear hfz26_0 hfz26_1 hfz26_2 hfz26_3
        try clear hfz29_0 hfz29_1 hfz29_2
        try clear hfz32_0 hfz32_1 hfz32_2 hfz32_3
        try clear hfz33_0 hfz33_1 hfz33_2
        try clear hfz6_0 hfz6_1 hfz6_2
        try clear hx306_0
        try clear hx306_1
        try clear hx306_2
        try clear hx306_3
        try clear p2
        try clear p306
        try clear q306
        obtain ⟨x10_3, x11_3, x16_3, rfl, HA, HK3, HO_10, HO_11, BK305, HB⟩ := hrel
        cases gk with
        | zero => exact absurd HA.out (by simp [ebbtideref15_Arcs.l2])
        | succ k3 =>
         have H := HA.out; clear HA; simp only [ebbtideref15_Arcs.l2] at H; have HC34 := am_ H; clear H
         go_upto_region 15 with (fail)
         go_cut [94] (fun v94 wc => ∃ (kq : Nat) (x94_33 : Bool), v94 = .bool x94_33 ∧ Aside0 (ebbtideref15_Arcs.j3 kq a1 a2 a3 x10_3 x11_3 a0_0 x13_1 x16_3 x94_33 a0_0 a0_1 l0_2 = some (r1, r2)) ∧ Aside0 (kq ≤ k3) ∧ Aside0 (Kd.R k54 54 wc w.heap.size (fun _ => True) u10 x10_3) ∧ Aside0 (Kd.R k83 83 wc w.heap.size (fun _ => True) u11 x11_3) ∧ Aside0 (wc.heap[gb305]? = some (.cells #[.int .i64 a0_0, .bool a0_1, (.slice A0_2 l0_2.length c0_2)] 24 (0, 0))) ∧ Aside0 (Below w.heap.size w wc))
         case first =>
          have H := HC34.out; clear HC34
          by_cases c35 : x16_3 < a0_0
          ·rw [if_pos c35] at H
           have c35b0 := decide_eq_true c35; clear c35
           (first | rw [c35b0] | (simp only [i64_w, i32_w]; rw [c35b0]) | skip)
           by_cases c36 : a0_1 = true
           ·subst c36
            have H1 : (ebbtideref15_Arcs.j3 k3 a1 a2 a3 x10_3 x11_3 a0_0 x13_1 x16_3 (decide (x13_1 < a3)) a0_0 true l0_2) = some (r1, r2) := by rw [if_pos rfl] at H; exact H
            clear H; have H := H1; clear H1; have H' := am_ H; clear H; obtain ⟨hcz37_0, hcz37_1, hcz37_2, hfz37_0, hfz37_1, hfz37_2⟩ := cf3_ BK305.out
            go_wp2
            go_meet
            case rel => exact ⟨_, (decide (x13_1 < a3)), rs_, H', ⟨by have := HK1.out; have := HK2.out; have := HK3.out; first | omega | exact Nat.le_refl _⟩, ⟨rq_ HO_10.out⟩, ⟨rq_ HO_11.out⟩, ⟨bq_ BK305.out⟩, ⟨hb_⟩⟩
           ·replace c36 := Bool.eq_false_iff.mpr c36
            subst c36
            have H1 : (ebbtideref15_Arcs.j3 k3 a1 a2 a3 x10_3 x11_3 a0_0 x13_1 x16_3 false a0_0 false l0_2) = some (r1, r2) := by rw [if_neg (show ¬ (false = true) by decide)] at H; exact H
            clear H; have H := H1; clear H1; have H' := am_ H; clear H; obtain ⟨hcz38_0, hcz38_1, hcz38_2, hfz38_0, hfz38_1, hfz38_2⟩ := cf3_ BK305.out
            go_wp2
            go_meet
            case rel => exact ⟨_, (false), rs_, H', ⟨by have := HK1.out; have := HK2.out; have := HK3.out; first | omega | exact Nat.le_refl _⟩, ⟨rq_ HO_10.out⟩, ⟨rq_ HO_11.out⟩, ⟨bq_ BK305.out⟩, ⟨hb_⟩⟩
          ·rw [if_neg c35] at H
           have c35b0 := decide_eq_false c35; clear c35
           (first | rw [c35b0] | (simp only [i64_w, i32_w]; rw [c35b0]) | skip)
           have H' := am_ H; clear H
           go_wp2
           go_meet
           case rel => exact ⟨_, (false), rs_, H', ⟨by have := HK1.out; have := HK2.out; have := HK3.out; first | omega | exact Nat.le_refl _⟩, ⟨rq_ HO_10.out⟩, ⟨rq_ HO_11.out⟩, ⟨bq_ BK305.out⟩, ⟨hb_⟩⟩
         case rest =>
          clear HC34
          try clear c1
          try clear c2
          try clear p2
          try clear c3
          try clear p3
          try clear q3
          try clear hx3
          try clear p6
          try clear c7
          try clear c7b0
          try clear c8
          try clear c8b0
          try clear c9
          try clear c9b0
          try clear c10
          try clear c10b0
          try clear c11
          try clear c11b0
          try clear c11b1
          try clear c14
          try clear c16
          try clear c16b0
          try clear c16b1
          try clear c19
          try clear c21
          try clear c22
          try clear c24
          try clear c25
          try clear p30
          try clear q30
          try clear hx30
          try clear c31
          try clear c35
          try clear c35b0
          try clear c36
          try clear hcz12_0 hcz12_1 hcz12_2
          try clear hcz15_0 hcz15_1 hcz15_2 hcz15_3
          try clear hcz17_0 hcz17_1 hcz17_2
          try clear hcz20_0 hcz20_1 hcz20_2 hcz20_3
          try clear hcz23_0 hcz23_1 hcz23_2
          try clear hcz26_0 hcz26_1 hcz26_2 hcz26_3
          try clear hcz29_0 hcz29_1 hcz29_2
          try clear hcz32_0 hcz32_1 hcz32_2 hcz32_3
          try clear hcz33_0 hcz33_1 hcz33_2
          try clear hcz37_0 hcz37_1 hcz37_2
          try clear hcz38_0 hcz38_1 hcz38_2
          try clear hcz6_0 hcz6_1 hcz6_2
          try clear hfz12_0 hfz12_1 hfz12_2
          try clear hfz15_0 hfz15_1 hfz15_2 hfz15_3
          try clear hfz17_0 hfz17_1 hfz17_2
          try clear hfz20_0 hfz20_1 hfz20_2 hfz20_3
          try clear hfz23_0 hfz23_1 hfz23_2
          try clear hfz26_0 hfz26_1 hfz26_2 hfz26_3
          try clear hfz29_0 hfz29_1 hfz29_2
          try clear hfz32_0 hfz32_1 hfz32_2 hfz32_3
          try clear hfz33_0 hfz33_1 hfz33_2
          try clear hfz37_0 hfz37_1 hfz37_2
          try clear hfz38_0 hfz38_1 hfz38_2
          try clear hfz6_0 hfz6_1 hfz6_2
          try clear hx306_0
          try clear hx306_1
          try clear hx306_2
          try clear hx306_3
          try clear p2
          try clear p3
          try clear p30
          try clear p306
          try clear p6
          try clear q3
          try clear q30
          try clear q306
          obtain ⟨kq, x94_33, rfl, HA, HJ33, HO_10, HO_11, BK305, HB⟩ := hcut
          cases kq with
          | zero => exact absurd HA.out (by simp [ebbtideref15_Arcs.j3])
          | succ kj33 =>
           have H := HA.out; clear HA; simp only [ebbtideref15_Arcs.j3] at H
           by_cases c39 : x94_33 = true
           ·subst c39
            have H1 : (if x16_3 = a1 then (ebbtideref15_Arcs.l2 kj33 a1 a2 a3 x10_3 x11_3 a0_0 x13_1 (wrap64 (x16_3 + 1)) a0_0 a0_1 l0_2) else (if x16_3 = a2 then (ebbtideref15_Arcs.l2 kj33 a1 a2 a3 x10_3 x11_3 a0_0 x13_1 (wrap64 (x16_3 + 1)) a0_0 a0_1 l0_2) else (if x10_3.length < 4398046511104 then (if x11_3.length < 4398046511104 then (ebbtideref15_Arcs.l2 kj33 a1 a2 a3 (x10_3 ++ [(⟨wrap64 ((wrap64 (x13_1 * a0_0)) + x16_3), wrap64 ((wrap64 ((wrap64 (x13_1 + 1)) * a0_0)) + x16_3), 1099511627776, 0⟩ : S54)]) (x11_3 ++ [(⟨false, true, 0, x16_3, x13_1⟩ : S83)]) a0_0 x13_1 (wrap64 (x16_3 + 1)) a0_0 a0_1 l0_2) else (none)) else (none)))) = some (r1, r2) := by rw [if_pos rfl] at H; exact H
            clear H; have H := H1; clear H1
            by_cases c40 : x16_3 = a1
            ·rw [if_pos c40] at H
             obtain ⟨c40b0, c40b1⟩ := eqb_ c40; clear c40; have H' := am_ H; clear H
             go_wp2
             go_roundg kj33
             case measure => have := HK1.out; have := HK2.out; have := HK3.out; have := HJ33.out; omega
             case rel => exact ⟨(x10_3), (x11_3), (wrap64 (x16_3 + 1)), rs_, H', ⟨by have := HK1.out; have := HK2.out; have := HK3.out; have := HJ33.out; omega⟩, ⟨rq_ HO_10.out⟩, ⟨rq_ HO_11.out⟩, ⟨bq_ BK305.out⟩, ⟨hb_⟩⟩
            ·rw [if_neg c40] at H
             obtain ⟨c40b0, c40b1⟩ := neb_ c40
             by_cases c41 : x16_3 = a2
             ·rw [if_pos c41] at H
              obtain ⟨c41b0, c41b1⟩ := eqb_ c41; clear c41; have H' := am_ H; clear H
              go_wp2
              go_roundg kj33
              case measure => have := HK1.out; have := HK2.out; have := HK3.out; have := HJ33.out; omega
              case rel => exact ⟨(x10_3), (x11_3), (wrap64 (x16_3 + 1)), rs_, H', ⟨by have := HK1.out; have := HK2.out; have := HK3.out; have := HJ33.out; omega⟩, ⟨rq_ HO_10.out⟩, ⟨rq_ HO_11.out⟩, ⟨bq_ BK305.out⟩, ⟨hb_⟩⟩
             ·rw [if_neg c41] at H
              obtain ⟨c41b0, c41b1⟩ := neb_ c41
              replace H := ifn_ H; obtain ⟨c42, H⟩ := H
              have LMc42 := am_ c42; clear c42; obtain ⟨y314, hy_⟩ : ∃ y_ : List (S54), y_ = (x10_3 ++ [(⟨wrap64 ((wrap64 (x13_1 * a0_0)) + x16_3), wrap64 ((wrap64 ((wrap64 (x13_1 + 1)) * a0_0)) + x16_3), 1099511627776, 0⟩ : S54)]) := ⟨_, rfl⟩
              replace H : (if x11_3.length < 4398046511104 then (ebbtideref15_Arcs.l2 kj33 a1 a2 a3 y314 (x11_3 ++ [(⟨false, true, 0, x16_3, x13_1⟩ : S83)]) a0_0 x13_1 (wrap64 (x16_3 + 1)) a0_0 a0_1 l0_2) else (none)) = some (r1, r2) := hyH_
              have Ny314 := am_ hy_; clear hy_
              replace H := ifn_ H; obtain ⟨c43, H⟩ := H
              have LMc43 := am_ c43; clear c43; obtain ⟨y317, hy_⟩ : ∃ y_ : List (S83), y_ = (x11_3 ++ [(⟨false, true, 0, x16_3, x13_1⟩ : S83)]) := ⟨_, rfl⟩
              replace H : (ebbtideref15_Arcs.l2 kj33 a1 a2 a3 y314 y317 a0_0 x13_1 (wrap64 (x16_3 + 1)) a0_0 a0_1 l0_2) = some (r1, r2) := hyH_
              have Ny317 := am_ hy_; clear hy_; have H' := am_ H; clear H
              go_wp2_with (first | ((with_reducible refine gate_builtin (b := .append) (xs := #[.tmp 105, .tmp 118]) rfl ?_); at_builtin; refine Kd.R_append k54 (w0 := w) w.heap.size rfl (.tmp 105) (.tmp 118) 22 54 (.agg #[(.int .i64 0), (.int .i64 0), (.int .i64 0), (.int .i64 0)]) 32 rfl Try.underlying22 info54 rfl (by decide) (by omega) u10 x10_3 (⟨wrap64 ((wrap64 (x13_1 * a0_0)) + x16_3), wrap64 ((wrap64 ((wrap64 (x13_1 + 1)) * a0_0)) + x16_3), 1099511627776, 0⟩ : S54) [.int .i64 (wrap64 ((wrap64 (x13_1 * a0_0)) + x16_3)), .int .i64 (wrap64 ((wrap64 ((wrap64 (x13_1 + 1)) * a0_0)) + x16_3)), .int .i64 1099511627776, .int .i64 0] (fun _ => True) (fun _ => False) rfl rfl ?aP (fun _ hk => hk.elim) ?aF ?aO ?aB ?aS ?aL ?_; (case aP => exact k54_mkM _ _ _ (⟨wrap64 ((wrap64 (x13_1 * a0_0)) + x16_3), wrap64 ((wrap64 ((wrap64 (x13_1 + 1)) * a0_0)) + x16_3), 1099511627776, 0⟩ : S54)); (case aB => exact hb_); (case aF => exact (fun _ _ => trivial)); (case aO => exact (rq_ HO_10.out)); (case aS => exact (below_size hb_)); (case aL => have := LMc42.out; omega); intro v315 w44 ho hb hg hat; rw [← Ny314.out] at ho; replace HO_11 := am_ (Kd.R_over' (rq_ HO_11.out) (Kd.R_typed (rq_ HO_10.out)) (by decide) hg); replace BK305 := am_ (bg_ BK305.out hg (Kd.R_ne HO_10.out BK305.out (by decide))); replace HB := am_ (hb); have HO316 := am_ (ho); clear HO_10; clear ho hb hg hat) | ((with_reducible refine gate_builtin (b := .append) (xs := #[.tmp 120, .tmp 124]) rfl ?_); at_builtin; refine Kd.R_append k83 (w0 := w) w.heap.size rfl (.tmp 120) (.tmp 124) 49 83 (.agg #[(.bool false), (.bool false), (.int .i64 0), (.int .i64 0), (.int .i64 0)]) 32 rfl Try.underlying49 info83 rfl (by decide) (by omega) u11 x11_3 (⟨false, true, 0, x16_3, x13_1⟩ : S83) [.bool false, .bool true, .int .i64 0, .int .i64 x16_3, .int .i64 x13_1] (fun _ => True) (fun _ => False) rfl rfl ?aP (fun _ hk => hk.elim) ?aF ?aO ?aB ?aS ?aL ?_; (case aP => exact k83_mkM _ _ _ (⟨false, true, 0, x16_3, x13_1⟩ : S83)); (case aB => exact hb_); (case aF => exact (fun _ _ => trivial)); (case aO => exact (rq_ HO_11.out)); (case aS => exact (below_size hb_)); (case aL => have := LMc43.out; omega); intro v318 w45 ho hb hg hat; rw [← Ny317.out] at ho; replace BK305 := am_ (bg_ BK305.out hg (Kd.R_ne HO_11.out BK305.out (by decide))); replace HO316 := am_ (Kd.R_over' (rq_ HO316.out) (Kd.R_typed (rq_ HO_11.out)) (by decide) hg); replace HB := am_ (hb); have HO319 := am_ (ho); clear HO_11; clear ho hb hg hat))
              go_roundg kj33
              case measure => have := HK1.out; have := HK2.out; have := HK3.out; have := HJ33.out; omega
              case rel => exact ⟨(y314), (y317), (wrap64 (x16_3 + 1)), rs_, H', ⟨by have := HK1.out; have := HK2.out; have := HK3.out; have := HJ33.out; omega⟩, ⟨rq_ HO316.out⟩, ⟨rq_ HO319.out⟩, ⟨bq_ BK305.out⟩, ⟨hb_⟩⟩
           ·replace c39 := Bool.eq_false_iff.mpr c39
            subst c39
            have H1 : (ebbtideref15_Arcs.l0 kj33 a1 a2 a3 x10_3 x11_3 a0_0 (wrap64 (x13_1 + 1)) a0_0 a0_1 l0_2) = some (r1, r2) := by rw [if_neg (show ¬ (false = true) by decide)] at H; exact H
            clear H; have H := H1; clear H1; have H' := am_ H; clear H
            go_wp2
            go_roundg kj33
            case measure => have := HK1.out; have := HK2.out; have := HK3.out; have := HJ33.out; omega
            case rel => exact ⟨(x10_3), (x11_3), (wrap64 (x13_1 + 1)), rs_, H', ⟨by have := HK1.out; have := HK2.out; have := HK3.out; have := HJ33.out; omega⟩, ⟨rq_ HO_10.out⟩, ⟨rq_ HO_11.out⟩, ⟨bq_ BK305.out⟩, ⟨hb_⟩⟩
   ·rw [if_neg c7] at H
    have c7b0 := decide_eq_false c7; clear c7; have H' := am_ H; clear H
    go_wp2
    go_loopg [10, 11, 17] k1 (fun kq v10 v11 v17 w' => ∃ (x10_2 : List (S54)) (x11_2 : List (S83)) (x17_2 : Int), v17 = .int .i64 x17_2 ∧ Aside0 (ebbtideref15_Arcs.l3 kq a1 a2 a3 x10_2 x11_2 a0_0 x17_2 = some (r1, r2)) ∧ Aside0 (kq ≤ k1) ∧ Aside0 (Kd.R k54 54 w' w.heap.size (fun _ => True) v10 x10_2) ∧ Aside0 (Kd.R k83 83 w' w.heap.size (fun _ => True) v11 x11_2) ∧ Aside0 (w'.heap[gb305]? = some (.cells #[.int .i64 a0_0, .bool a0_1, (.slice A0_2 l0_2.length c0_2)] 24 (0, 0))) ∧ Aside0 (Below w.heap.size w w'))
    case atStart => exact ⟨(x10_1), (x11_1), (0), rs_, H', ⟨Nat.le_refl _⟩, ⟨rq_ HO_10.out⟩, ⟨rq_ HO_11.out⟩, ⟨bq_ BK305.out⟩, ⟨hb_⟩⟩
    case round =>
     clear H'
     try clear c1
     try clear c2
     try clear p2
     try clear c3
     try clear p3
     try clear q3
     try clear hx3
     try clear c4
     try clear p6
     try clear c7
     try clear c7b0
     try clear c8
     try clear c8b0
     try clear c9
     try clear c9b0
     try clear c10
     try clear c10b0
     try clear c11
     try clear c11b0
     try clear c11b1
     try clear c14
     try clear c16
     try clear c16b0
     try clear c16b1
     try clear c19
     try clear c21
     try clear c22
     try clear c24
     try clear c25
     try clear p30
     try clear q30
     try clear hx30
     try clear c31
     try clear c35
     try clear c35b0
     try clear c36
     try clear c39
     try clear c40
     try clear c40b0
     try clear c40b1
     try clear c41
     try clear c41b0
     try clear c41b1
     try clear c42
     try clear c43
     try clear hcz12_0 hcz12_1 hcz12_2
     try clear hcz15_0 hcz15_1 hcz15_2 hcz15_3
     try clear hcz17_0 hcz17_1 hcz17_2
     try clear hcz20_0 hcz20_1 hcz20_2 hcz20_3
     try clear hcz23_0 hcz23_1 hcz23_2
     try clear hcz26_0 hcz26_1 hcz26_2 hcz26_3
     try clear hcz29_0 hcz29_1 hcz29_2
     try clear hcz32_0 hcz32_1 hcz32_2 hcz32_3
     try clear hcz33_0 hcz33_1 hcz33_2
     try clear hcz37_0 hcz37_1 hcz37_2
     try clear hcz38_0 hcz38_1 hcz38_2
     try clear hcz6_0 hcz6_1 hcz6_2
     try clear hfz12_0 hfz12_1 hfz12_2
     try clear hfz15_0 hfz15_1 hfz15_2 hfz15_3
     try clear hfz17_0 hfz17_1 hfz17_2
     try clear hfz20_0 hfz20_1 hfz20_2 hfz20_3
     try clear hfz23_0 hfz23_1 hfz23_2
     try clear hfz26_0 hfz26_1 hfz26_2 hfz26_3
     try clear hfz29_0 hfz29_1 hfz29_2
     try clear hfz32_0 hfz32_1 hfz32_2 hfz32_3
     try clear hfz33_0 hfz33_1 hfz33_2
     try clear hfz37_0 hfz37_1 hfz37_2
     try clear hfz38_0 hfz38_1 hfz38_2
     try clear hfz6_0 hfz6_1 hfz6_2
     try clear hx306_0
     try clear hx306_1
     try clear hx306_2
     try clear hx306_3
     try clear p2
     try clear p3
     try clear p30
     try clear p306
     try clear p6
     try clear q3
     try clear q30
     try clear q306
     obtain ⟨x10_2, x11_2, x17_2, rfl, HA, HK2, HO_10, HO_11, BK305, HB⟩ := hrel
     cases gk with
     | zero => exact absurd HA.out (by simp [ebbtideref15_Arcs.l3])
     | succ k2 =>
      have H := HA.out; clear HA; simp only [ebbtideref15_Arcs.l3] at H
      by_cases c46 : x17_2 ≤ a3
      ·rw [if_pos c46] at H
       have c46b0 := decide_eq_true c46; clear c46
       replace H := ifn_ H; obtain ⟨c47, H⟩ := H
       have LMc47 := am_ c47; clear c47; obtain ⟨y320, hy_⟩ : ∃ y_ : List (S54), y_ = (x10_2 ++ [(⟨wrap64 ((wrap64 (a3 + 1)) * a0_0), wrap64 ((wrap64 (x17_2 * a0_0)) + a1), 1099511627776, 0⟩ : S54)]) := ⟨_, rfl⟩
       replace H : (if x11_2.length < 4398046511104 then (ebbtideref15_Arcs.l3 k2 a1 a2 a3 y320 (x11_2 ++ [(⟨false, false, 0, a1, x17_2⟩ : S83)]) a0_0 (wrap64 (x17_2 + 1))) else (none)) = some (r1, r2) := hyH_
       have Ny320 := am_ hy_; clear hy_
       replace H := ifn_ H; obtain ⟨c48, H⟩ := H
       have LMc48 := am_ c48; clear c48; obtain ⟨y323, hy_⟩ : ∃ y_ : List (S83), y_ = (x11_2 ++ [(⟨false, false, 0, a1, x17_2⟩ : S83)]) := ⟨_, rfl⟩
       replace H : (ebbtideref15_Arcs.l3 k2 a1 a2 a3 y320 y323 a0_0 (wrap64 (x17_2 + 1))) = some (r1, r2) := hyH_
       have Ny323 := am_ hy_; clear hy_; have H' := am_ H; clear H
       go_wp2_with (first | ((with_reducible refine gate_builtin (b := .append) (xs := #[.tmp 131, .tmp 142]) rfl ?_); at_builtin; refine Kd.R_append k54 (w0 := w) w.heap.size rfl (.tmp 131) (.tmp 142) 22 54 (.agg #[(.int .i64 0), (.int .i64 0), (.int .i64 0), (.int .i64 0)]) 32 rfl Try.underlying22 info54 rfl (by decide) (by omega) u10 x10_2 (⟨wrap64 ((wrap64 (a3 + 1)) * a0_0), wrap64 ((wrap64 (x17_2 * a0_0)) + a1), 1099511627776, 0⟩ : S54) [.int .i64 (wrap64 ((wrap64 (a3 + 1)) * a0_0)), .int .i64 (wrap64 ((wrap64 (x17_2 * a0_0)) + a1)), .int .i64 1099511627776, .int .i64 0] (fun _ => True) (fun _ => False) rfl rfl ?aP (fun _ hk => hk.elim) ?aF ?aO ?aB ?aS ?aL ?_; (case aP => exact k54_mkM _ _ _ (⟨wrap64 ((wrap64 (a3 + 1)) * a0_0), wrap64 ((wrap64 (x17_2 * a0_0)) + a1), 1099511627776, 0⟩ : S54)); (case aB => exact hb_); (case aF => exact (fun _ _ => trivial)); (case aO => exact (rq_ HO_10.out)); (case aS => exact (below_size hb_)); (case aL => have := LMc47.out; omega); intro v321 w49 ho hb hg hat; rw [← Ny320.out] at ho; replace HO_11 := am_ (Kd.R_over' (rq_ HO_11.out) (Kd.R_typed (rq_ HO_10.out)) (by decide) hg); replace BK305 := am_ (bg_ BK305.out hg (Kd.R_ne HO_10.out BK305.out (by decide))); replace HB := am_ (hb); have HO322 := am_ (ho); clear HO_10; clear ho hb hg hat) | ((with_reducible refine gate_builtin (b := .append) (xs := #[.tmp 144, .tmp 148]) rfl ?_); at_builtin; refine Kd.R_append k83 (w0 := w) w.heap.size rfl (.tmp 144) (.tmp 148) 49 83 (.agg #[(.bool false), (.bool false), (.int .i64 0), (.int .i64 0), (.int .i64 0)]) 32 rfl Try.underlying49 info83 rfl (by decide) (by omega) u11 x11_2 (⟨false, false, 0, a1, x17_2⟩ : S83) [.bool false, .bool false, .int .i64 0, .int .i64 a1, .int .i64 x17_2] (fun _ => True) (fun _ => False) rfl rfl ?aP (fun _ hk => hk.elim) ?aF ?aO ?aB ?aS ?aL ?_; (case aP => exact k83_mkM _ _ _ (⟨false, false, 0, a1, x17_2⟩ : S83)); (case aB => exact hb_); (case aF => exact (fun _ _ => trivial)); (case aO => exact (rq_ HO_11.out)); (case aS => exact (below_size hb_)); (case aL => have := LMc48.out; omega); intro v324 w50 ho hb hg hat; rw [← Ny323.out] at ho; replace BK305 := am_ (bg_ BK305.out hg (Kd.R_ne HO_11.out BK305.out (by decide))); replace HO322 := am_ (Kd.R_over' (rq_ HO322.out) (Kd.R_typed (rq_ HO_11.out)) (by decide) hg); replace HB := am_ (hb); have HO325 := am_ (ho); clear HO_11; clear ho hb hg hat))
       go_roundg k2
       case measure => have := HK1.out; have := HK2.out; omega
       case rel => exact ⟨(y320), (y323), (wrap64 (x17_2 + 1)), rs_, H', ⟨by have := HK1.out; have := HK2.out; omega⟩, ⟨rq_ HO322.out⟩, ⟨rq_ HO325.out⟩, ⟨bq_ BK305.out⟩, ⟨hb_⟩⟩
      ·rw [if_neg c46] at H
       have c46b0 := decide_eq_false c46; clear c46; have H' := am_ H; clear H
       go_wp2
       go_loopg [10, 11, 18] k2 (fun kq v10 v11 v18 w' => ∃ (x10_3 : List (S54)) (x11_3 : List (S83)) (x18_3 : Int), v18 = .int .i64 x18_3 ∧ Aside0 (ebbtideref15_Arcs.l4 kq a2 a3 x10_3 x11_3 a0_0 x18_3 = some (r1, r2)) ∧ Aside0 (kq ≤ k2) ∧ Aside0 (Kd.R k54 54 w' w.heap.size (fun _ => True) v10 x10_3) ∧ Aside0 (Kd.R k83 83 w' w.heap.size (fun _ => True) v11 x11_3) ∧ Aside0 (w'.heap[gb305]? = some (.cells #[.int .i64 a0_0, .bool a0_1, (.slice A0_2 l0_2.length c0_2)] 24 (0, 0))) ∧ Aside0 (Below w.heap.size w w'))
       case atStart => exact ⟨(x10_2), (x11_2), (0), rs_, H', ⟨Nat.le_refl _⟩, ⟨rq_ HO_10.out⟩, ⟨rq_ HO_11.out⟩, ⟨bq_ BK305.out⟩, ⟨hb_⟩⟩
       case round =>
        clear H'
        try clear c1
        try clear c2
        try clear p2
        try clear c3
        try clear p3
        try clear q3
        try clear hx3
        try clear c4
        try clear p6
        try clear c7
        try clear c7b0
        try clear c8
        try clear c8b0
        try clear c9
        try clear c9b0
        try clear c10
        try clear c10b0
        try clear c11
        try clear c11b0
        try clear c11b1
        try clear c14
        try clear c16
        try clear c16b0
        try clear c16b1
        try clear c19
        try clear c21
        try clear c22
        try clear c24
        try clear c25
        try clear p30
        try clear q30
        try clear hx30
        try clear c31
        try clear c35
        try clear c35b0
        try clear c36
        try clear c39
        try clear c40
        try clear c40b0
        try clear c40b1
        try clear c41
        try clear c41b0
        try clear c41b1
        try clear c42
        try clear c43
        try clear c46
        try clear c46b0
        try clear c47
        try clear c48
        try clear hcz12_0 hcz12_1 hcz12_2
        try clear hcz15_0 hcz15_1 hcz15_2 hcz15_3
        try clear hcz17_0 hcz17_1 hcz17_2
        try clear hcz20_0 hcz20_1 hcz20_2 hcz20_3
        try clear hcz23_0 hcz23_1 hcz23_2
        try clear hcz26_0 hcz26_1 hcz26_2 hcz26_3
        try clear hcz29_0 hcz29_1 hcz29_2
        try clear hcz32_0 hcz32_1 hcz32_2 hcz32_3
        try clear hcz33_0 hcz33_1 hcz33_2
        try clear hcz37_0 hcz37_1 hcz37_2
        try clear hcz38_0 hcz38_1 hcz38_2
        try clear hcz6_0 hcz6_1 hcz6_2
        try clear hfz12_0 hfz12_1 hfz12_2
        try clear hfz15_0 hfz15_1 hfz15_2 hfz15_3
        try clear hfz17_0 hfz17_1 hfz17_2
        try clear hfz20_0 hfz20_1 hfz20_2 hfz20_3
        try clear hfz23_0 hfz23_1 hfz23_2
        try clear hfz26_0 hfz26_1 hfz26_2 hfz26_3
        try clear hfz29_0 hfz29_1 hfz29_2
        try clear hfz32_0 hfz32_1 hfz32_2 hfz32_3
        try clear hfz33_0 hfz33_1 hfz33_2
        try clear hfz37_0 hfz37_1 hfz37_2
        try clear hfz38_0 hfz38_1 hfz38_2
        try clear hfz6_0 hfz6_1 hfz6_2
        try clear hx306_0
        try clear hx306_1
        try clear hx306_2
        try clear hx306_3
        try clear p2
        try clear p3
        try clear p30
        try clear p306
        try clear p6
        try clear q3
        try clear q30
        try clear q306
        obtain ⟨x10_3, x11_3, x18_3, rfl, HA, HK3, HO_10, HO_11, BK305, HB⟩ := hrel
        cases gk with
        | zero => exact absurd HA.out (by simp [ebbtideref15_Arcs.l4])
        | succ k3 =>
         have H := HA.out; clear HA; simp only [ebbtideref15_Arcs.l4] at H
         by_cases c51 : x18_3 ≤ a3
         ·rw [if_pos c51] at H
          have c51b0 := decide_eq_true c51; clear c51
          replace H := ifn_ H; obtain ⟨c52, H⟩ := H
          have LMc52 := am_ c52; clear c52; obtain ⟨y326, hy_⟩ : ∃ y_ : List (S54), y_ = (x10_3 ++ [(⟨wrap64 ((wrap64 (x18_3 * a0_0)) + a2), wrap64 ((wrap64 ((wrap64 (a3 + 1)) * a0_0)) + 1), 1099511627776, 0⟩ : S54)]) := ⟨_, rfl⟩
          replace H : (if x11_3.length < 4398046511104 then (ebbtideref15_Arcs.l4 k3 a2 a3 y326 (x11_3 ++ [(⟨false, false, 0, a2, x18_3⟩ : S83)]) a0_0 (wrap64 (x18_3 + 1))) else (none)) = some (r1, r2) := hyH_
          have Ny326 := am_ hy_; clear hy_
          replace H := ifn_ H; obtain ⟨c53, H⟩ := H
          have LMc53 := am_ c53; clear c53; obtain ⟨y329, hy_⟩ : ∃ y_ : List (S83), y_ = (x11_3 ++ [(⟨false, false, 0, a2, x18_3⟩ : S83)]) := ⟨_, rfl⟩
          replace H : (ebbtideref15_Arcs.l4 k3 a2 a3 y326 y329 a0_0 (wrap64 (x18_3 + 1))) = some (r1, r2) := hyH_
          have Ny329 := am_ hy_; clear hy_; have H' := am_ H; clear H
          go_wp2_with (first | ((with_reducible refine gate_builtin (b := .append) (xs := #[.tmp 155, .tmp 167]) rfl ?_); at_builtin; refine Kd.R_append k54 (w0 := w) w.heap.size rfl (.tmp 155) (.tmp 167) 22 54 (.agg #[(.int .i64 0), (.int .i64 0), (.int .i64 0), (.int .i64 0)]) 32 rfl Try.underlying22 info54 rfl (by decide) (by omega) u10 x10_3 (⟨wrap64 ((wrap64 (x18_3 * a0_0)) + a2), wrap64 ((wrap64 ((wrap64 (a3 + 1)) * a0_0)) + 1), 1099511627776, 0⟩ : S54) [.int .i64 (wrap64 ((wrap64 (x18_3 * a0_0)) + a2)), .int .i64 (wrap64 ((wrap64 ((wrap64 (a3 + 1)) * a0_0)) + 1)), .int .i64 1099511627776, .int .i64 0] (fun _ => True) (fun _ => False) rfl rfl ?aP (fun _ hk => hk.elim) ?aF ?aO ?aB ?aS ?aL ?_; (case aP => exact k54_mkM _ _ _ (⟨wrap64 ((wrap64 (x18_3 * a0_0)) + a2), wrap64 ((wrap64 ((wrap64 (a3 + 1)) * a0_0)) + 1), 1099511627776, 0⟩ : S54)); (case aB => exact hb_); (case aF => exact (fun _ _ => trivial)); (case aO => exact (rq_ HO_10.out)); (case aS => exact (below_size hb_)); (case aL => have := LMc52.out; omega); intro v327 w54 ho hb hg hat; rw [← Ny326.out] at ho; replace HO_11 := am_ (Kd.R_over' (rq_ HO_11.out) (Kd.R_typed (rq_ HO_10.out)) (by decide) hg); replace BK305 := am_ (bg_ BK305.out hg (Kd.R_ne HO_10.out BK305.out (by decide))); replace HB := am_ (hb); have HO328 := am_ (ho); clear HO_10; clear ho hb hg hat) | ((with_reducible refine gate_builtin (b := .append) (xs := #[.tmp 169, .tmp 173]) rfl ?_); at_builtin; refine Kd.R_append k83 (w0 := w) w.heap.size rfl (.tmp 169) (.tmp 173) 49 83 (.agg #[(.bool false), (.bool false), (.int .i64 0), (.int .i64 0), (.int .i64 0)]) 32 rfl Try.underlying49 info83 rfl (by decide) (by omega) u11 x11_3 (⟨false, false, 0, a2, x18_3⟩ : S83) [.bool false, .bool false, .int .i64 0, .int .i64 a2, .int .i64 x18_3] (fun _ => True) (fun _ => False) rfl rfl ?aP (fun _ hk => hk.elim) ?aF ?aO ?aB ?aS ?aL ?_; (case aP => exact k83_mkM _ _ _ (⟨false, false, 0, a2, x18_3⟩ : S83)); (case aB => exact hb_); (case aF => exact (fun _ _ => trivial)); (case aO => exact (rq_ HO_11.out)); (case aS => exact (below_size hb_)); (case aL => have := LMc53.out; omega); intro v330 w55 ho hb hg hat; rw [← Ny329.out] at ho; replace BK305 := am_ (bg_ BK305.out hg (Kd.R_ne HO_11.out BK305.out (by decide))); replace HO328 := am_ (Kd.R_over' (rq_ HO328.out) (Kd.R_typed (rq_ HO_11.out)) (by decide) hg); replace HB := am_ (hb); have HO331 := am_ (ho); clear HO_11; clear ho hb hg hat))
          go_roundg k3
          case measure => have := HK1.out; have := HK2.out; have := HK3.out; omega
          case rel => exact ⟨(y326), (y329), (wrap64 (x18_3 + 1)), rs_, H', ⟨by have := HK1.out; have := HK2.out; have := HK3.out; omega⟩, ⟨rq_ HO328.out⟩, ⟨rq_ HO331.out⟩, ⟨bq_ BK305.out⟩, ⟨hb_⟩⟩
         ·rw [if_neg c51] at H
          have c51b0 := decide_eq_false c51; clear c51; simp only [Option.some.injEq, Prod.mk.injEq] at H; obtain ⟨rfl, rfl⟩ := H
          go_wp2
          go_ret2
          exact ⟨_, _, er_, by refine rq_ ?_; exact HO_10.out, by refine rq_ ?_; exact HO_11.out, hb_⟩
end Go.Proofs.Ytfhkkbpkajfdlaa.Q
end
