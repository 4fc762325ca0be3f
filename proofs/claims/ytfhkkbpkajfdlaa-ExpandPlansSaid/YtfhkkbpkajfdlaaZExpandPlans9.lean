/- A part of the proof: words, contracts, plain lemmas. Conditions: none. -/
import Derived.Test.YtfhkkbpkajfdlaaZExpandPlans8
set_option linter.unusedSimpArgs false
set_option linter.unusedVariables false
section
namespace Go.Proofs.Ytfhkkbpkajfdlaa.Q
open Go.RowKit Go.Proofs.YtfhkkbpkajfdlaaW.PrintWords Go.Proofs.YtfhkkbpkajfdlaaW.PrintLast Go.Proofs.YtfhkkbpkajfdlaaW.PrintMore
def plan_merged.l0 : Nat → Int → Int → Int → List (S85) → List (S85) → Int → Int → Int → Bool → List (S54) → Option ((List (S85)) × Int)
 | 0, _, _, _, _, _, _, _, _, _, _ => none
 | k + 1, x1, x2, x3, x13, x33, x34, x35, x160000, x160001, x160002 => if x35 < x34 then (if 0 ≤ x35 then (if x35 < (x33.length : Int) then ((plan_may.f x160000 x160001 x160002 x1 x2 x3 ((rd_T85 x33 x35).f0) ((rd_T85 x33 x35).f1) ((rd_T85 x33 x35).f2)).bind fun t167 => (if t167 = true then (plan_merged.l0 k x1 x2 x3 x13 x33 x34 (wrap64 (x35 + 1)) x160000 x160001 x160002) else (some (([] : List (S85)), 140)))) else (none)) else (none)) else (some (x13, 0))
def plan_merged.f (k : Nat) (a0_0 : Int) (a0_1 : Bool) (l0_2 : List (S54)) (a1 : Int) (a2 : Int) (a3 : Int) (l4 : List (S85)) : Option ((List (S85)) × Int) := (span_Asked.f k a0_0 a0_1 l0_2 a1 a2 a3).bind fun t160 => (if t160 = 0 then ((table_Moves.f k l4).bind fun bt161 => (if bt161.2 = 0 then (plan_merged.l0 k a1 a2 a3 bt161.1 bt161.1 (bt161.1.length : Int) 0 a0_0 a0_1 l0_2) else (some (([] : List (S85)), bt161.2)))) else (some (([] : List (S85)), t160)))
set_option maxHeartbeats 8000000 in
set_option maxRecDepth 100000 in
theorem plan_merged.calls (k : Nat) (a0_0 : Int) (a0_1 : Bool) (A0_2 : Option Addr) (c0_2 : Nat) (l0_2 : List (S54)) (a1 : Int) (a2 : Int) (a3 : Int) (A4 : Option Addr) (c4 : Nat) (l4 : List (S85)) (r1 : List (S85)) (r2 : Int) (w : World) (hr0_2 : Kd.C k54 w A0_2 l0_2.length l0_2) (hc0_2 : l0_2.length ≤ c0_2) (hr4 : Kd.C k85 w A4 l4.length l4) (hc4 : l4.length ≤ c4) (h : plan_merged.f k a0_0 a0_1 l0_2 a1 a2 a3 l4 = some (r1, r2)) :
  Calls Try.prog 72 #[.agg #[.int .i64 a0_0, .bool a0_1, .slice A0_2 l0_2.length c0_2], .int .i64 a1, .int .i64 a2, .int .i64 a3, .slice A4 l4.length c4] w fun e w' => ∃ v0_ : Value, e = .returned (.tuple #[v0_, .int .i64 r2]) ∧ Kd.R k85 85 w' w.heap.size (fun _ => True) v0_ r1 ∧ Below w.heap.size w w' := by
 have hu24 := Try.underlying24; have hu85 := Try.underlying85; have HR0_2 := am_ hr0_2; have HC0_2 := am_ hc0_2; clear hr0_2 hc0_2; have HR4 := am_ hr4; have HC4 := am_ hc4; clear hr4 hc4; have HB := am_ (Below.refl w.heap.size w); have H : ((span_Asked.f k a0_0 a0_1 l0_2 a1 a2 a3).bind fun t160 => (if t160 = 0 then ((table_Moves.f k l4).bind fun bt161 => (if bt161.2 = 0 then (plan_merged.l0 k a1 a2 a3 bt161.1 bt161.1 (bt161.1.length : Int) 0 a0_0 a0_1 l0_2) else (some (([] : List (S85)), bt161.2)))) else (some (([] : List (S85)), t160)))) = some (r1, r2) := h; clear h; replace H := Option.bind_eq_some_iff.mp H; obtain ⟨t160, A60, H⟩ := H; replace H : (if t160 = 0 then ((table_Moves.f k l4).bind fun bt161 => (if bt161.2 = 0 then (plan_merged.l0 k a1 a2 a3 bt161.1 bt161.1 (bt161.1.length : Int) 0 a0_0 a0_1 l0_2) else (some (([] : List (S85)), bt161.2)))) else (some (([] : List (S85)), t160))) = some (r1, r2) := H; have A6 := am_ A60; clear A60
 by_cases c7 : t160 = 0
 ·rw [if_pos c7] at H
  obtain ⟨c7b0, c7b1⟩ := eqb_ c7; clear c7; replace H := Option.bind_eq_some_iff.mp H; obtain ⟨⟨t161, t162⟩, A80, H⟩ := H; replace H : (if t162 = 0 then (plan_merged.l0 k a1 a2 a3 t161 t161 (t161.length : Int) 0 a0_0 a0_1 l0_2) else (some (([] : List (S85)), t162))) = some (r1, r2) := H; have A8 := am_ A80; clear A80
  by_cases c9 : t162 = 0
  ·rw [if_pos c9] at H
   obtain ⟨c9b0, c9b1⟩ := eqb_ c9; clear c9; have H' := am_ H; clear H
   go_enter Try.func72, Try.ntmps72
   go_wp2_with (first | ((with_reducible refine gate_dst (N := 5) rfl ?_); refine bx_ 5 #[.int .i64 a0_0, .bool a0_1, .slice A0_2 l0_2.length c0_2] 24 ?_; intro gb159 hg w10 BK159 hb; have GE159 := ge_ (w := w) hg; replace HB := hst_ hb; clear hb hg; obtain ⟨hcz11_0, hcz11_1, hcz11_2, hfz11_0, hfz11_1, hfz11_2⟩ := cf3_ BK159.out) | ((with_reducible refine gate_callee (f := 58) rfl ?_); refine cl_ 21 Try.func58 (span_Asked.calls k a0_0 a0_1 _ _ l0_2 a1 a2 a3 t160 _ (cb_ HR0_2.out) HC0_2.out A6.out) ?_; rintro e w12 ⟨rfl, hb⟩; refine ⟨_, rfl, ?_⟩; replace BK159 := am_ (bb_ BK159.out hb); replace HB := hst_ hb; (try clear hb); (try clear hb2); (try clear hk); (try clear hi)) | ((with_reducible refine gate_callee (f := 50) rfl ?_); refine cl_ 27 Try.func50 (table_Moves.calls k _ _ l4 t161 t162 _ (cb_ HR4.out) HC4.out A8.out) ?_; rintro e w13 ⟨v163, rfl, ho0, hb⟩; refine ⟨_, rfl, ?_⟩; have HO164 := am_ (Kd.R_lower ho0 (below_size hb_)); replace BK159 := am_ (bb_ BK159.out hb); replace HB := hst_ hb; (try clear hb); (try clear hb2); (try clear hk); (try clear hi); (try clear ho0); obtain ⟨Ao14, co14, eo14⟩ := Kd.R_slice HO164.out; subst eo14))
   go_loopg [35] k (fun kq v35 w' => ∃ (x35_1 : Int), v35 = .int .i64 x35_1 ∧ Aside0 (plan_merged.l0 kq a1 a2 a3 t161 t161 (t161.length : Int) x35_1 a0_0 a0_1 l0_2 = some (r1, r2)) ∧ Aside0 (kq ≤ k) ∧ Aside0 (Kd.R k85 85 w' w.heap.size (fun _ => True) (.slice Ao14 t161.length co14) t161) ∧ Aside0 (Kd.R k85 85 w' w.heap.size (fun _ => True) (.slice Ao14 t161.length co14) t161) ∧ Aside0 (w'.heap[gb159]? = some (.cells #[.int .i64 a0_0, .bool a0_1, (.slice A0_2 l0_2.length c0_2)] 24 (0, 0))) ∧ Aside0 (Below w.heap.size w w'))
   case atStart => exact ⟨(0), rs_, H', ⟨Nat.le_refl _⟩, ⟨rq_ HO164.out⟩, ⟨rq_ HO164.out⟩, ⟨bq_ BK159.out⟩, ⟨hb_⟩⟩
   case round =>
    clear H'
    try clear p2
    try clear c4
    try clear c5
    try clear c7
    try clear c7b0
    try clear c7b1
    try clear c9
    try clear c9b0
    try clear c9b1
    try clear hcz11_0 hcz11_1 hcz11_2 hfz11_0 hfz11_1 hfz11_2
    obtain ⟨x35_1, rfl, HA, HK1, HO_13, HO_33, BK159, HB⟩ := hrel
    cases gk with
    | zero => exact absurd HA.out (by simp [plan_merged.l0])
    | succ k1 =>
     have H := HA.out; clear HA; simp only [plan_merged.l0] at H
     by_cases c15 : x35_1 < (t161.length : Int)
     ·rw [if_pos c15] at H
      have c15b0 := decide_eq_true c15; clear c15
      replace H := ifn_ H; obtain ⟨c16, H⟩ := H
      have c16b0 := decide_eq_true c16; clear c16
      replace H := ifn_ H; obtain ⟨c17, H⟩ := H
      have c17b0 := decide_eq_true c17; clear c17; replace H := Option.bind_eq_some_iff.mp H; obtain ⟨t167, A180, H⟩ := H; replace H : (if t167 = true then (plan_merged.l0 k1 a1 a2 a3 t161 t161 (t161.length : Int) (wrap64 (x35_1 + 1)) a0_0 a0_1 l0_2) else (some (([] : List (S85)), 140))) = some (r1, r2) := H; have A18 := am_ A180; clear A180
      by_cases c19 : t167 = true
      ·subst c19
       have H1 : (plan_merged.l0 k1 a1 a2 a3 t161 t161 (t161.length : Int) (wrap64 (x35_1 + 1)) a0_0 a0_1 l0_2) = some (r1, r2) := by rw [if_pos rfl] at H; exact H
       clear H; have H := H1; clear H1; have H' := am_ H; clear H; have p165 : 0 ≤ (x35_1 : Int) := of_decide_eq_true sm_; have q165 : x35_1 < (t161.length : Int) := of_decide_eq_true sm_; obtain ⟨ad165, e165, hx165_0, hx165_1, hx165_2⟩ := at_T85 (Kd.R_reads' HO_33.out).2.2 x35_1 p165 q165; cases e165; replace p165 := eq_true p165; replace q165 := eq_true q165
       go_wp2_with (first | ((with_reducible refine gate_dst (N := 16) rfl ?_); refine bx_ 16 #[.int .i64 0, .int .i64 0, .int .i64 0] 85 ?_; intro gb166 hg w20 BK166 hb; replace HO_13 := am_ (Kd.R_below (Kd.R_elderB (rq_ HO_13.out) gb166 (Nat.le_of_eq hg.symm)) hb); replace HO_33 := am_ (Kd.R_below (Kd.R_elderB (rq_ HO_33.out) gb166 (Nat.le_of_eq hg.symm)) hb); have GE166 := ge_ (w := w) hg; replace HB := hst_ hb; have NB159_166 := am_ (nl_ BK159.out hg); have NB166_159 := am_ (ng_ BK159.out hg); replace BK159 := am_ (bb_ BK159.out hb); clear hb hg; have hnb21 := NB166_159.out; have hnc21 := NB159_166.out; obtain ⟨hcz22_0, hcz22_1, hcz22_2, hfz22_0, hfz22_1, hfz22_2⟩ := cf3_ BK166.out; obtain ⟨hcz23_0, hcz23_1, hcz23_2, hfz23_0, hfz23_1, hfz23_2⟩ := cf3_ BK159.out) | ((with_reducible refine gate_callee (f := 87) rfl ?_); refine cl_ 44 Try.func87 (plan_may.calls a0_0 a0_1 _ _ l0_2 a1 a2 a3 ((rd_T85 t161 x35_1).f0) ((rd_T85 t161 x35_1).f1) ((rd_T85 t161 x35_1).f2) true _ (Kd.C_below HR0_2.out hb_) HC0_2.out A18.out) ?_; rintro e w24 ⟨rfl, hb⟩; refine ⟨_, rfl, ?_⟩; replace HO_13 := am_ (Kd.R_below q15_ hb); replace HO_33 := am_ (Kd.R_below q16_ hb); replace BK159 := am_ (blk_below (g := gb159) (o := .cells #[.int .i64 a0_0, .bool a0_1, .slice A0_2 l0_2.length c0_2] 24 (0, 0)) (by refine bq_ ?_; refine blk_far ?_ NB159_166.out _; refine bq_ ?_; refine blk_far ?_ NB159_166.out _; refine bq_ ?_; refine blk_far ?_ NB159_166.out _; refine bq_ ?_; exact BK159.out) hb); replace BK166 := am_ (blk_below (g := gb166) (o := .cells #[.int .i64 ((rd_T85 t161 x35_1).f0), .int .i64 ((rd_T85 t161 x35_1).f1), .int .i64 ((rd_T85 t161 x35_1).f2)] 85 (0, 0)) q19_ hb); replace HB := hst_ hb; (try clear hb); (try clear hb2); (try clear hk); (try clear hi)))
       go_roundg k1
       case measure => have := HK1.out; omega
       case rel => exact ⟨(wrap64 (x35_1 + 1)), rs_, H', ⟨by have := HK1.out; omega⟩, ⟨by refine rq_ ?_; exact Kd.R_mono HO_13.out (fun _ hk => trivial)⟩, ⟨by refine rq_ ?_; exact Kd.R_mono HO_33.out (fun _ hk => trivial)⟩, ⟨bq_ BK159.out⟩, ⟨hb_⟩⟩
      ·replace c19 := Bool.eq_false_iff.mpr c19
       subst c19
       have H1 : (some (([] : List (S85)), 140)) = some (r1, r2) := by rw [if_neg (show ¬ (false = true) by decide)] at H; exact H
       clear H; have H := H1; clear H1; simp only [Option.some.injEq, Prod.mk.injEq] at H; obtain ⟨rfl, rfl⟩ := H; have p165 : 0 ≤ (x35_1 : Int) := of_decide_eq_true sm_; have q165 : x35_1 < (t161.length : Int) := of_decide_eq_true sm_; obtain ⟨ad165, e165, hx165_0, hx165_1, hx165_2⟩ := at_T85 (Kd.R_reads' HO_33.out).2.2 x35_1 p165 q165; cases e165; replace p165 := eq_true p165; replace q165 := eq_true q165
       go_wp2_with (first | ((with_reducible refine gate_dst (N := 16) rfl ?_); refine bx_ 16 #[.int .i64 0, .int .i64 0, .int .i64 0] 85 ?_; intro gb166 hg w25 BK166 hb; replace HO_13 := am_ (Kd.R_below (Kd.R_elderB (rq_ HO_13.out) gb166 (Nat.le_of_eq hg.symm)) hb); replace HO_33 := am_ (Kd.R_below (Kd.R_elderB (rq_ HO_33.out) gb166 (Nat.le_of_eq hg.symm)) hb); have GE166 := ge_ (w := w) hg; replace HB := hst_ hb; have NB159_166 := am_ (nl_ BK159.out hg); have NB166_159 := am_ (ng_ BK159.out hg); replace BK159 := am_ (bb_ BK159.out hb); clear hb hg; have hnb26 := NB166_159.out; have hnc26 := NB159_166.out; obtain ⟨hcz27_0, hcz27_1, hcz27_2, hfz27_0, hfz27_1, hfz27_2⟩ := cf3_ BK166.out; obtain ⟨hcz28_0, hcz28_1, hcz28_2, hfz28_0, hfz28_1, hfz28_2⟩ := cf3_ BK159.out) | ((with_reducible refine gate_callee (f := 87) rfl ?_); refine cl_ 44 Try.func87 (plan_may.calls a0_0 a0_1 _ _ l0_2 a1 a2 a3 ((rd_T85 t161 x35_1).f0) ((rd_T85 t161 x35_1).f1) ((rd_T85 t161 x35_1).f2) false _ (Kd.C_below HR0_2.out hb_) HC0_2.out A18.out) ?_; rintro e w29 ⟨rfl, hb⟩; refine ⟨_, rfl, ?_⟩; replace HO_13 := am_ (Kd.R_below q15_ hb); replace HO_33 := am_ (Kd.R_below q16_ hb); replace BK159 := am_ (blk_below (g := gb159) (o := .cells #[.int .i64 a0_0, .bool a0_1, .slice A0_2 l0_2.length c0_2] 24 (0, 0)) (by refine bq_ ?_; refine blk_far ?_ NB159_166.out _; refine bq_ ?_; refine blk_far ?_ NB159_166.out _; refine bq_ ?_; refine blk_far ?_ NB159_166.out _; refine bq_ ?_; exact BK159.out) hb); replace BK166 := am_ (blk_below (g := gb166) (o := .cells #[.int .i64 ((rd_T85 t161 x35_1).f0), .int .i64 ((rd_T85 t161 x35_1).f1), .int .i64 ((rd_T85 t161 x35_1).f2)] 85 (0, 0)) q19_ hb); replace HB := hst_ hb; (try clear hb); (try clear hb2); (try clear hk); (try clear hi)))
       go_ret2
       exact ⟨_, er_, ni_, hb_⟩
     ·rw [if_neg c15] at H
      have c15b0 := decide_eq_false c15; clear c15; simp only [Option.some.injEq, Prod.mk.injEq] at H; obtain ⟨rfl, rfl⟩ := H
      go_wp2
      go_ret2
      exact ⟨_, er_, by refine rq_ ?_; exact HO_13.out, hb_⟩
  ·rw [if_neg c9] at H
   obtain ⟨c9b0, c9b1⟩ := neb_ c9; simp only [Option.some.injEq, Prod.mk.injEq] at H; obtain ⟨rfl, rfl⟩ := H
   go_enter Try.func72, Try.ntmps72
   go_wp2_with (first | ((with_reducible refine gate_dst (N := 5) rfl ?_); refine bx_ 5 #[.int .i64 a0_0, .bool a0_1, .slice A0_2 l0_2.length c0_2] 24 ?_; intro gb159 hg w30 BK159 hb; have GE159 := ge_ (w := w) hg; replace HB := hst_ hb; clear hb hg; obtain ⟨hcz31_0, hcz31_1, hcz31_2, hfz31_0, hfz31_1, hfz31_2⟩ := cf3_ BK159.out) | ((with_reducible refine gate_callee (f := 58) rfl ?_); refine cl_ 21 Try.func58 (span_Asked.calls k a0_0 a0_1 _ _ l0_2 a1 a2 a3 t160 _ (cb_ HR0_2.out) HC0_2.out A6.out) ?_; rintro e w32 ⟨rfl, hb⟩; refine ⟨_, rfl, ?_⟩; replace BK159 := am_ (bb_ BK159.out hb); replace HB := hst_ hb; (try clear hb); (try clear hb2); (try clear hk); (try clear hi)) | ((with_reducible refine gate_callee (f := 50) rfl ?_); refine cl_ 27 Try.func50 (table_Moves.calls k _ _ l4 t161 t162 _ (cb_ HR4.out) HC4.out A8.out) ?_; rintro e w33 ⟨v163, rfl, ho0, hb⟩; refine ⟨_, rfl, ?_⟩; have HO164 := am_ (Kd.R_lower ho0 (below_size hb_)); replace BK159 := am_ (bb_ BK159.out hb); replace HB := hst_ hb; (try clear hb); (try clear hb2); (try clear hk); (try clear hi); (try clear ho0)))
   go_ret2
   exact ⟨_, er_, ni_, hb_⟩
 ·rw [if_neg c7] at H
  obtain ⟨c7b0, c7b1⟩ := neb_ c7; simp only [Option.some.injEq, Prod.mk.injEq] at H; obtain ⟨rfl, rfl⟩ := H
  go_enter Try.func72, Try.ntmps72
  go_wp2_with (first | ((with_reducible refine gate_dst (N := 5) rfl ?_); refine bx_ 5 #[.int .i64 a0_0, .bool a0_1, .slice A0_2 l0_2.length c0_2] 24 ?_; intro gb159 hg w34 BK159 hb; have GE159 := ge_ (w := w) hg; replace HB := hst_ hb; clear hb hg; obtain ⟨hcz35_0, hcz35_1, hcz35_2, hfz35_0, hfz35_1, hfz35_2⟩ := cf3_ BK159.out) | ((with_reducible refine gate_callee (f := 58) rfl ?_); refine cl_ 21 Try.func58 (span_Asked.calls k a0_0 a0_1 _ _ l0_2 a1 a2 a3 t160 _ (cb_ HR0_2.out) HC0_2.out A6.out) ?_; rintro e w36 ⟨rfl, hb⟩; refine ⟨_, rfl, ?_⟩; replace BK159 := am_ (bb_ BK159.out hb); replace HB := hst_ hb; (try clear hb); (try clear hb2); (try clear hk); (try clear hi)))
  go_ret2
  exact ⟨_, er_, ni_, hb_⟩
mutual
def plan_stocks.l0 : Nat → Int → List (S85) → List (List Int) → Int → Int → Int → Bool → List (S54) → Option ((List (List Int)))
 | 0, _, _, _, _, _, _, _, _ => none
 | k + 1, x1, x2, x7, x19, x20, x169000, x169001, x169002 => if x20 < x19 then (if 0 ≤ x169000 then (if (x169000 : Int).toNat ≤ 35184372088832 then (if 0 ≤ x20 then (if x20 < (x7.length : Int) then (plan_stocks.l0 k x1 x2 (x7.set (x20 : Int).toNat (List.replicate (x169000 : Int).toNat 0)) x19 (wrap64 (x20 + 1)) x169000 x169001 x169002) else (none)) else (none)) else (none)) else (none)) else (plan_stocks.l1 k x1 x7 x2 (x2.length : Int) 0 x169000 x169001 x169002)
def plan_stocks.l1 : Nat → Int → List (List Int) → List (S85) → Int → Int → Int → Bool → List (S54) → Option ((List (List Int)))
 | 0, _, _, _, _, _, _, _, _ => none
 | k + 1, x1, x7, x30, x31, x32, x169000, x169001, x169002 => if x32 < x31 then (if 0 ≤ x32 then (if x32 < (x30.length : Int) then (if 0 ≤ ((rd_T85 x30 x32).f0) then (if ((rd_T85 x30 x32).f0) < (x169002.length : Int) then (if 0 ≤ ((rd_T85 x30 x32).f1) then (if ((rd_T85 x30 x32).f1) < (x7.length : Int) then (if 0 ≤ ((rd_T54 x169002 ((rd_T85 x30 x32).f0)).f0) then (if ((rd_T54 x169002 ((rd_T85 x30 x32).f0)).f0) < ((rd_L3 x7 ((rd_T85 x30 x32).f1)).length : Int) then ((some (x7.set (((rd_T85 x30 x32).f1) : Int).toNat ((rd_L3 x7 ((rd_T85 x30 x32).f1)).set (((rd_T54 x169002 ((rd_T85 x30 x32).f0)).f0) : Int).toNat (wrap64 ((rd (rd_L3 x7 ((rd_T85 x30 x32).f1)) ((rd_T54 x169002 ((rd_T85 x30 x32).f0)).f0)) - ((rd_T85 x30 x32).f2)))) : List (List Int))).bind fun y184 => (if 0 ≤ (wrap64 (((rd_T85 x30 x32).f1) + ((rd_T54 x169002 ((rd_T85 x30 x32).f0)).f3))) then (if (wrap64 (((rd_T85 x30 x32).f1) + ((rd_T54 x169002 ((rd_T85 x30 x32).f0)).f3))) < (x7.length : Int) then (if 0 ≤ ((rd_T54 x169002 ((rd_T85 x30 x32).f0)).f1) then (if ((rd_T54 x169002 ((rd_T85 x30 x32).f0)).f1) < ((rd_L3 y184 (wrap64 (((rd_T85 x30 x32).f1) + ((rd_T54 x169002 ((rd_T85 x30 x32).f0)).f3)))).length : Int) then (plan_stocks.l1 k x1 (y184.set ((wrap64 (((rd_T85 x30 x32).f1) + ((rd_T54 x169002 ((rd_T85 x30 x32).f0)).f3))) : Int).toNat ((rd_L3 y184 (wrap64 (((rd_T85 x30 x32).f1) + ((rd_T54 x169002 ((rd_T85 x30 x32).f0)).f3)))).set (((rd_T54 x169002 ((rd_T85 x30 x32).f0)).f1) : Int).toNat (wrap64 ((rd (rd_L3 y184 (wrap64 (((rd_T85 x30 x32).f1) + ((rd_T54 x169002 ((rd_T85 x30 x32).f0)).f3)))) ((rd_T54 x169002 ((rd_T85 x30 x32).f0)).f1)) + ((rd_T85 x30 x32).f2))))) x30 x31 (wrap64 (x32 + 1)) x169000 x169001 x169002) else (none)) else (none)) else (none)) else (none))) else (none)) else (none)) else (none)) else (none)) else (none)) else (none)) else (none)) else (none)) else (plan_stocks.l2 k x7 x1 0)
def plan_stocks.l2 : Nat → List (List Int) → Int → Int → Option ((List (List Int)))
 | 0, _, _, _ => none
 | k + 1, x7, x72, x73 => if x73 < x72 then (if 0 ≤ x73 then (if x73 < (x7.length : Int) then (plan_stocks.l3 k x7 x73 x72 x73 (rd_L3 x7 x73) ((rd_L3 x7 x73).length : Int) 0) else (none)) else (none)) else (some x7)
def plan_stocks.l3 : Nat → List (List Int) → Int → Int → Int → List Int → Int → Int → Option ((List (List Int)))
 | 0, _, _, _, _, _, _, _ => none
 | k + 1, x7, x12, x72, x73, x79, x80, x81 => if x81 < x80 then (if 0 ≤ x81 then (if x81 < (x79.length : Int) then (if 0 ≤ (wrap64 (x12 + 1)) then (if (wrap64 (x12 + 1)) < (x7.length : Int) then (if x81 < ((rd_L3 x7 (wrap64 (x12 + 1))).length : Int) then (plan_stocks.l3 k (x7.set ((wrap64 (x12 + 1)) : Int).toNat ((rd_L3 x7 (wrap64 (x12 + 1))).set (x81 : Int).toNat (wrap64 ((rd (rd_L3 x7 (wrap64 (x12 + 1))) x81) + (rd x79 x81))))) x12 x72 x73 x79 x80 (wrap64 (x81 + 1))) else (none)) else (none)) else (none)) else (none)) else (none)) else (plan_stocks.l2 k x7 x72 (wrap64 (x73 + 1)))
end
def plan_stocks.f (k : Nat) (a0_0 : Int) (a0_1 : Bool) (l0_2 : List (S54)) (a1 : Int) (l2 : List (S85)) : Option ((List (List Int))) := if 0 ≤ (wrap64 (a1 + 1)) then (if (wrap64 (a1 + 1) : Int).toNat ≤ 11728124029610 then ((some (List.replicate (wrap64 (a1 + 1) : Int).toNat [] : List (List Int))).bind fun y169 => (plan_stocks.l0 k a1 l2 y169 (y169.length : Int) 0 a0_0 a0_1 l0_2)) else (none)) else (none)
def plan_stocks.T11 : Bool × List (List Nat × List Nat) := (true, [([], []), ([], []), ([1], [1]), ([0, 2], [0, 2]), ([3], [3]), ([], []), ([5], [5]), ([4, 6], [4, 6]), ([7], [7]), ([], []), ([9], [9]), ([8, 10], [8, 10]), ([4, 6, 0, 1, 2, 3, 4, 5, 6, 7, 8, 9, 10, 11], [4, 6]), ([12, 11, 0, 1, 2, 3, 4, 5, 6, 7, 8, 9, 10, 11], [11, 12])])
def plan_stocks.B11 : List Nat := [0, 0, 2, 7, 15, 0, 32, 127, 255, 0, 512, 2047, 4095, 8191]
theorem plan_stocks.tab11 : rtab .any (opsOf Try.f73 11) = plan_stocks.T11 := by kernel_rfl
theorem plan_stocks.bits11 : waitsOk plan_stocks.T11.2 plan_stocks.B11 = true := by kernel_rfl
def plan_stocks.T12 : Bool × List (List Nat × List Nat) := (true, [([], []), ([], []), ([1], [1]), ([], []), ([3], [3]), ([2, 4], [2, 4]), ([0, 5], [0, 5]), ([6], [6]), ([], []), ([8], [8]), ([7, 9], [7, 9]), ([10], [10]), ([], []), ([12], [12]), ([11, 13], [11, 13]), ([7, 9, 0, 1, 2, 3, 4, 5, 6, 7, 8, 9, 10, 11, 12, 13, 14], [7, 9]), ([15, 14, 0, 1, 2, 3, 4, 5, 6, 7, 8, 9, 10, 11, 12, 13, 14], [14, 15])])
def plan_stocks.B12 : List Nat := [0, 0, 2, 0, 8, 30, 63, 127, 0, 256, 1023, 2047, 0, 4096, 16383, 32767, 65535]
theorem plan_stocks.tab12 : rtab .any (opsOf Try.f73 12) = plan_stocks.T12 := by kernel_rfl
theorem plan_stocks.bits12 : waitsOk plan_stocks.T12.2 plan_stocks.B12 = true := by kernel_rfl
theorem rd_L3_ne_ {xs : List (List Int)} {a : Nat} {v : List Int} {i : Int} (h : a ≠ i.toNat) : rd_L3 (xs.set a v) i = rd_L3 xs i := by unfold rd_L3; rw [List.getD_eq_getElem?_getD, List.getD_eq_getElem?_getD, List.getElem?_set_ne h]
theorem add_block_ (a : Addr) (j : Nat) : (a.add j).block = a.block := by unfold Addr.add; split <;> rfl
set_option maxHeartbeats 8000000 in
set_option maxRecDepth 100000 in
theorem plan_stocks.calls (k : Nat) (a0_0 : Int) (a0_1 : Bool) (A0_2 : Option Addr) (c0_2 : Nat) (l0_2 : List (S54)) (a1 : Int) (A2 : Option Addr) (c2 : Nat) (l2 : List (S85)) (r : List (List Int)) (w : World) (hr0_2 : Kd.C k54 w A0_2 l0_2.length l0_2) (hc0_2 : l0_2.length ≤ c0_2) (hr2 : Kd.C k85 w A2 l2.length l2) (hc2 : l2.length ≤ c2) (h : plan_stocks.f k a0_0 a0_1 l0_2 a1 l2 = some r) :
  Calls Try.prog 73 #[.agg #[.int .i64 a0_0, .bool a0_1, .slice A0_2 l0_2.length c0_2], .int .i64 a1, .slice A2 l2.length c2] w fun e w' => ∃ v0_ : Value, e = .returned (v0_) ∧ Kd.S (Kd.slice 3 (Kd.int .i64)) 42 w' w.heap.size (fun _ => True) v0_ r ∧ Below w.heap.size w w' := by
 have hu24 := Try.underlying24; have hu85 := Try.underlying85; have hu54 := Try.underlying54; have HR0_2 := am_ hr0_2; have HC0_2 := am_ hc0_2; clear hr0_2 hc0_2; have HR2 := am_ hr2; have HC2 := am_ hc2; clear hr2 hc2; have HB := am_ (Below.refl w.heap.size w); have H : (if 0 ≤ (wrap64 (a1 + 1)) then (if (wrap64 (a1 + 1) : Int).toNat ≤ 11728124029610 then ((some (List.replicate (wrap64 (a1 + 1) : Int).toNat [] : List (List Int))).bind fun y169 => (plan_stocks.l0 k a1 l2 y169 (y169.length : Int) 0 a0_0 a0_1 l0_2)) else (none)) else (none)) = some r := h; clear h; obtain ⟨ji4, hji4⟩ : ∃ j_ : Int, (wrap64 (a1 + 1)) = j_ := ⟨_, rfl⟩
 replace H : (if 0 ≤ (ji4) then (if (ji4 : Int).toNat ≤ 11728124029610 then ((some (List.replicate (ji4 : Int).toNat [] : List (List Int))).bind fun y169 => (plan_stocks.l0 k a1 l2 y169 (y169.length : Int) 0 a0_0 a0_1 l0_2)) else (none)) else (none)) = some r := by first | (rw [hji4] at H; exact H) | (simp only [hji4] at H ⊢; exact H)
 have hji4w : (IntKind.i64.wrap (a1 + 1)) = ji4 := (i64_w _).trans hji4
 replace H := ifn_ H; obtain ⟨c5, H⟩ := H
 have c5b0 := eq_true c5; have c5b1 := decide_eq_true c5; clear c5
 replace H := ifn_ H; obtain ⟨c6, H⟩ := H
 have c6b0 := eq_true c6; have c6b1 := decide_eq_true c6; clear c6; obtain ⟨y169, hy_⟩ : ∃ y_ : List (List Int), y_ = (List.replicate (ji4 : Int).toNat []) := ⟨_, rfl⟩
 replace H : (plan_stocks.l0 k a1 l2 y169 (y169.length : Int) 0 a0_0 a0_1 l0_2) = some r := hyH_
 have Ny169 := am_ hy_; clear hy_; have H' := am_ H; clear H
 go_enter Try.func73, Try.ntmps73
 go_wp2_with (first | ((with_reducible refine gate_dst (N := 3) rfl ?_); refine bx_ 3 #[.int .i64 a0_0, .bool a0_1, .slice A0_2 l0_2.length c0_2] 24 ?_; intro gb168 hg w7 BK168 hb; have GE168 := ge_ (w := w) hg; replace HB := hst_ hb; clear hb hg) | ((with_reducible refine gate_dst (N := 17) rfl ?_); refine Kd.S_make (Kd.slice 3 (Kd.int .i64)) _ 42 rfl (N := 17) rfl 92 _ _ rfl ji4 rfl rfl Try.underlying92 (.slice none 0 0) 24 info42 rfl (by decide) (by omega) [] (ok := fun _ => True) (okp := fun _ => True) ⟨_, rfl, Kd.R_nil _ _ _ _ _⟩ (fun _ hk => hk) trivial (of_decide_eq_true sm_) (Nat.le_trans (Nat.mul_le_mul_right _ (of_decide_eq_true sm_ : ji4.toNat ≤ 11728124029610)) (by omega)) (Below.refl _ _) (Nat.le_refl _) ?_; intro v170 w8 ho9 hb hg_ hnew_; clear hg_ hnew_; (first | rw [← Ny169.out] at ho9 | (simp only [Int.reduceToNat] at ho9; rw [← Ny169.out] at ho9)); have HO171 := am_ (Kd.S_lower ho9 (below_size hb_)); replace BK168 := am_ (bb_ BK168.out hb); replace HB := hst_ hb; clear hb ho9; obtain ⟨Ao10, co10, eo10⟩ := Kd.S_slice HO171.out; subst eo10))
 go_loopg [20] k (fun kq v20 w' => ∃ (x7_1 : List (List Int)) (x20_1 : Int), v20 = .int .i64 x20_1 ∧ Aside0 (plan_stocks.l0 kq a1 l2 x7_1 (y169.length : Int) x20_1 a0_0 a0_1 l0_2 = some r) ∧ Aside0 (kq ≤ k) ∧ Aside0 (Kd.S (Kd.slice 3 (Kd.int .i64)) 42 w' w.heap.size (fun _ => True) (.slice Ao10 y169.length co10) x7_1) ∧ Aside0 (w'.heap[gb168]? = some (.cells #[.int .i64 a0_0, .bool a0_1, (.slice A0_2 l0_2.length c0_2)] 24 (0, 0))) ∧ Aside0 (Below w.heap.size w w'))
 case atStart => exact ⟨(y169), (0), rs_, H', ⟨Nat.le_refl _⟩, ⟨sq_ HO171.out⟩, ⟨bq_ BK168.out⟩, ⟨hb_⟩⟩
 case round =>
  clear H'
  try clear c2
  try clear p2
  try clear c5
  try clear c5b0
  try clear c5b1
  try clear c6
  try clear c6b0
  try clear c6b1
  try clear p6
  try clear c7
  obtain ⟨x7_1, x20_1, rfl, HA, HK1, HO_7, BK168, HB⟩ := hrel; have hl7_1 := (Kd.S_reads' HO_7.out).1; rw [hl7_1] at HO_7
  (try simp only [hl7_1])
  (try simp only [hl7_1] at BK168)
  cases gk with
  | zero => exact absurd HA.out (by simp [plan_stocks.l0])
  | succ k1 =>
   have H := HA.out; clear HA; simp only [plan_stocks.l0] at H
   by_cases c11 : x20_1 < (y169.length : Int)
   ·rw [if_pos c11] at H
    have c11b0 := decide_eq_true c11
    (try (have c11b0r0 := c11b0; simp only [hl7_1] at c11b0r0))
    clear c11
    replace H := ifn_ H; obtain ⟨c12, H⟩ := H
    have c12b0 := eq_true c12; have c12b1 := decide_eq_true c12; clear c12
    replace H := ifn_ H; obtain ⟨c13, H⟩ := H
    have c13b0 := eq_true c13; have c13b1 := decide_eq_true c13; clear c13; obtain ⟨y172, hy_⟩ : ∃ y_ : List Int, y_ = (List.replicate (a0_0 : Int).toNat 0) := ⟨_, rfl⟩
    replace H : (if 0 ≤ x20_1 then (if x20_1 < (x7_1.length : Int) then (plan_stocks.l0 k1 a1 l2 (x7_1.set (x20_1 : Int).toNat y172) (y169.length : Int) (wrap64 (x20_1 + 1)) a0_0 a0_1 l0_2) else (none)) else (none)) = some r := hyH_
    have Ny172 := am_ hy_; clear hy_
    replace H := ifn_ H; obtain ⟨c14, H⟩ := H
    have c14b0 := decide_eq_true c14; clear c14
    replace H := ifn_ H; obtain ⟨c15, H⟩ := H
    have c15b0 := decide_eq_true c15
    (try (have c15b0r0 := c15b0; simp only [hl7_1] at c15b0r0))
    clear c15; obtain ⟨y175, hy_⟩ : ∃ y_ : List (List Int), y_ = (x7_1.set (x20_1 : Int).toNat y172) := ⟨_, rfl⟩
    replace H : (plan_stocks.l0 k1 a1 l2 y175 (y169.length : Int) (wrap64 (x20_1 + 1)) a0_0 a0_1 l0_2) = some r := hyH_
    have Ny175 := am_ hy_; clear hy_; have H' := am_ H; clear H; obtain ⟨hcz17_0, hcz17_1, hcz17_2, hfz17_0, hfz17_1, hfz17_2⟩ := cf3_ BK168.out
    go_wp2_with (first | ((with_reducible refine gate_dst (N := 27) rfl ?_); refine Kd.R_make (Kd.int .i64) _ 3 rfl (N := 27) rfl 42 _ _ rfl a0_0 rfl rfl Try.underlying42 (.int .i64 0) 8 info3 rfl (by decide) (by omega) 0 (ok := fun _ => True) (okp := fun _ => True) rfl (fun _ hk => hk) trivial (of_decide_eq_true sm_) (Nat.le_trans (Nat.mul_le_mul_right _ (of_decide_eq_true sm_ : a0_0.toNat ≤ 35184372088832)) (by omega)) (Below.refl _ _) (Nat.le_refl _) ?_; intro v173 w18 ho19 hb hg_ hnew_; clear hg_ hnew_; (first | rw [← Ny172.out] at ho19 | (simp only [Int.reduceToNat] at ho19; rw [← Ny172.out] at ho19)); replace HO_7 := am_ (Kd.S_elder' (sq_ HO_7.out) (Kd.R_base ho19) hb); have HO174 := am_ (Kd.R_lower ho19 (below_size hb_)); replace BK168 := am_ (bb_ BK168.out hb); replace HB := hst_ hb; clear hb ho19; have p16 : 0 ≤ (x20_1 : Int) := of_decide_eq_true sm_; have q16 : (x20_1 : Int) < ((x7_1.length : Int) : Int) := of_decide_eq_true sm_; obtain ⟨go16, co16, eo16, gb16, gl16, cl16, HG16⟩ := Kd.S_form HO_7.out (by omega); (first | cases eo16 | (injection eo16 with ea_ en_ ec_; (first | subst ea_ | (injection ea_ with ea_; subst ea_)); subst ec_; clear en_)); have GB16 := am_ gb16; have GG16 := am_ HG16; clear gb16 gl16 HG16; obtain ⟨_, ce16, hcl16, hM16, hcc16, hfr16, _, _⟩ := Kd.S_elem HO_7.out [] (x20_1 : Int) p16 q16; obtain ⟨ve16_0, rfl, ge16_0⟩ := hM16; have hx16_0 := hcc16 0 _ rfl; have hf16_0 := hfr16 0; (try simp only [show ((Kd.slice 3 (Kd.int .i64))).sz = 1 from rfl, Nat.mul_one, Nat.add_zero] at hx16_0); (try simp only [show ((Kd.slice 3 (Kd.int .i64))).sz = 1 from rfl, Nat.mul_one, Nat.add_zero] at hf16_0); clear hcl16 hcc16 hfr16; replace p16 := eq_true p16; replace q16 := eq_true q16; have n_ := am_ (Kd.S_mono (ok' := (fun k_ => some k_ ≠ (v173 : Value).ownBlock)) HO_7.out (fun k_ hk => hk.2)); clear HO_7; have HO_7 := n_; clear n_; have HX20 := am_ (show Kd.S (Kd.slice 3 (Kd.int .i64)) 42 w18 w.heap.size (fun k_ => ((fun _ => True)) k_ ∧ ¬ ((fun k_ => some k_ = (v173 : Value).ownBlock)) k_) (.slice (some ⟨go16, 0, none⟩) x7_1.length co10) x7_1 from (by refine sq_ ?_; exact Kd.S_mono HO_7.out (fun k_ hk => ⟨trivial, fun e_ => hk e_⟩))); obtain ⟨oki20, ce20, hcl20, hM20, hcc20, hfr20, hoki20, hH20⟩ := Kd.S_elem HX20.out [] (x20_1 : Int) (of_decide_eq_true sm_) (by have h_ : (x20_1 : Int) < ((x7_1.length : Int) : Int) := of_decide_eq_true sm_; first | exact h_ | (have e_ := (Kd.S_reads' HO_7.out).1; omega) | simpa using h_); obtain ⟨ve20_0, rfl, ge20_0⟩ := hM20; have HP20 := Kd.S_seg hH20 (of_decide_eq_true sm_) (by have h_ : (x20_1 : Int) < ((x7_1.length : Int) : Int) := of_decide_eq_true sm_; first | exact h_ | (have e_ := (Kd.S_reads' HO_7.out).1; omega) | simpa using h_) (seg := [v173]) (j := 0) (show 1 ≤ 1 from by decide) (x' := y172) (Kd.M_row (Kd.R_mono (Kd.R_tight rfl (Kd.R_mono (ok' := fun k_ => ((fun _ => True)) k_ ∧ k_ ≠ go16) (Kd.R_apart' (HO174.out) (Kd.S_typed HO_7.out) (by decide)) (fun k_ hk => ⟨trivial, fun e_ => (hk.2) (by rw [e_]; rfl)⟩))) (fun _ h_ => Or.inr (h_)))) (fun _ hk => hk) (fun k_ hk_ => ((Kd.R_mono (ok' := fun k_ => ((fun _ => True)) k_ ∧ k_ ≠ go16) (Kd.R_apart' (HO174.out) (Kd.S_typed HO_7.out) (by decide)) (fun k_ hk => ⟨trivial, fun e_ => (hk.2) (by rw [e_]; rfl)⟩))).1 k_ hk_.symm); have hx20_0 := hcc20 0 _ rfl; (try simp only [show ((Kd.slice 3 (Kd.int .i64))).sz = 1 from rfl, Nat.mul_one, Nat.add_zero] at hx20_0); have hf20_0 := hfr20 0; (try simp only [show ((Kd.slice 3 (Kd.int .i64))).sz = 1 from rfl, Nat.mul_one, Nat.add_zero] at hf20_0); clear hcl20 hcc20 hfr20 hoki20 hH20; (try simp only [show ((Kd.slice 3 (Kd.int .i64))).sz = 1 from rfl, Nat.mul_one, Nat.add_zero] at HP20)) | ((with_reducible refine gate_store (t := 42) (p := 28) rfl ?_); refine store_event (t := 42) (p := 28) (v := ?vo_w21) (w1 := (w18.setCell ⟨go16, (x20_1 : Int).toNat, none⟩ (v173))) ?hg ?ho ?hn ?hr ?_; (case ho => rfl); (case hg => rfl); (case hn => rfl); (case hr => first | (go_simp; done) | (go_simp; rfl) | (obtain ⟨A_, c_, e_⟩ := Kd.R_slice (‹Aside0 (Kd.R _ _ _ _ _ v173 _)›).out; subst e_; first | (go_simp; done) | (go_simp; rfl))); intro w21 hw; have hg : w18.grownBy w21 (some go16) := (by rw [hw]; exact HP20.2); have hp_ : Kd.S (Kd.slice 3 (Kd.int .i64)) 42 w21 w.heap.size (fun _ => True) (.slice (some ⟨go16, 0, none⟩) x7_1.length co10) y175 := (by rw [hw, Ny175.out]; exact HP20.1); clear HP20; replace BK168 := am_ (bg_ BK168.out hg (Kd.S_ne HO_7.out BK168.out (by decide))); replace HO_7 := am_ (hp_); replace HB := am_ ((by rw [hw]; exact below_set (HB.out) GB16.out : Below w.heap.size w w21)); clear HO174; clear hg hw hp_))
    (try simp only [← hl7_1])
    go_roundg k1
    case measure => have := HK1.out; omega
    case rel => exact ⟨(y175), (wrap64 (x20_1 + 1)), rs_, H', ⟨by have := HK1.out; omega⟩, ⟨by (try simp only [hl7_1]); refine sq_ ?_; exact HO_7.out⟩, ⟨by (try simp only [hl7_1]); refine bq_ ?_; exact BK168.out⟩, ⟨hb_⟩⟩
   ·rw [if_neg c11] at H
    have c11b0 := decide_eq_false c11
    (try (have c11b0r0 := c11b0; simp only [hl7_1] at c11b0r0))
    clear c11; have H' := am_ H; clear H
    go_wp2
    go_loopg [32] k1 (fun kq v32 w' => ∃ (x7_2 : List (List Int)) (x32_2 : Int), v32 = .int .i64 x32_2 ∧ Aside0 (plan_stocks.l1 kq a1 x7_2 l2 (l2.length : Int) x32_2 a0_0 a0_1 l0_2 = some r) ∧ Aside0 (kq ≤ k1) ∧ Aside0 (Kd.S (Kd.slice 3 (Kd.int .i64)) 42 w' w.heap.size (fun _ => True) (.slice Ao10 x7_1.length co10) x7_2) ∧ Aside0 (w'.heap[gb168]? = some (.cells #[.int .i64 a0_0, .bool a0_1, (.slice A0_2 l0_2.length c0_2)] 24 (0, 0))) ∧ Aside0 (Below w.heap.size w w'))
    case atStart => exact ⟨(x7_1), (0), rs_, H', ⟨Nat.le_refl _⟩, ⟨by (try simp only [hl7_1]); refine sq_ ?_; exact HO_7.out⟩, ⟨by (try simp only [hl7_1]); refine bq_ ?_; exact BK168.out⟩, ⟨hb_⟩⟩
    case round =>
     clear H'
     try clear c1
     try clear p1
     try clear q1
     try clear hx1
     try clear c2
     try clear p2
     try clear hx2
     try clear c5
     try clear c5b0
     try clear c5b1
     try clear c6
     try clear c6b0
     try clear c6b1
     try clear p6
     try clear c7
     try clear c11
     try clear c11b0
     try clear c12
     try clear c12b0
     try clear c12b1
     try clear c13
     try clear c13b0
     try clear c13b1
     try clear c14
     try clear c14b0
     try clear c15
     try clear c15b0
     try clear c16
     try clear p16
     try clear q16
     try clear hx16
     try clear hf16
     try clear c20
     try clear hx20
     try clear hf20
     try clear hcz17_0 hcz17_1 hcz17_2 hfz17_0 hfz17_1 hfz17_2
     try clear hx16_0
     try clear hx20_0
     try clear p16
     try clear p2
     try clear p6
     try clear q16
     obtain ⟨x7_2, x32_2, rfl, HA, HK2, HO_7, BK168, HB⟩ := hrel; have hl7_2 := (Kd.S_reads' HO_7.out).1; rw [hl7_2] at HO_7
     (try simp only [hl7_2])
     (try simp only [hl7_2] at BK168)
     cases gk with
     | zero => exact absurd HA.out (by simp [plan_stocks.l1])
     | succ k2 =>
      have H := HA.out; clear HA; simp only [plan_stocks.l1] at H
      by_cases c22 : x32_2 < (l2.length : Int)
      ·rw [if_pos c22] at H
       have c22b0 := decide_eq_true c22
       (try (have c22b0r0 := c22b0; simp only [hl7_1] at c22b0r0))
       (try (have c22b0r1 := c22b0; simp only [hl7_2] at c22b0r1))
       clear c22
       replace H := ifn_ H; obtain ⟨c23, H⟩ := H
       have c23b0 := decide_eq_true c23; clear c23
       replace H := ifn_ H; obtain ⟨c24, H⟩ := H
       have c24b0 := decide_eq_true c24
       (try (have c24b0r0 := c24b0; simp only [hl7_1] at c24b0r0))
       (try (have c24b0r1 := c24b0; simp only [hl7_2] at c24b0r1))
       clear c24
       replace H := ifn_ H; obtain ⟨c25, H⟩ := H
       have c25b0 := decide_eq_true c25; clear c25
       replace H := ifn_ H; obtain ⟨c26, H⟩ := H
       have c26b0 := decide_eq_true c26
       (try (have c26b0r0 := c26b0; simp only [hl7_1] at c26b0r0))
       (try (have c26b0r1 := c26b0; simp only [hl7_2] at c26b0r1))
       clear c26
       replace H := ifn_ H; obtain ⟨c27, H⟩ := H
       have c27b0 := decide_eq_true c27; clear c27
       replace H := ifn_ H; obtain ⟨c28, H⟩ := H
       have c28b0 := decide_eq_true c28
       (try (have c28b0r0 := c28b0; simp only [hl7_1] at c28b0r0))
       (try (have c28b0r1 := c28b0; simp only [hl7_2] at c28b0r1))
       clear c28
       replace H := ifn_ H; obtain ⟨c29, H⟩ := H
       have c29b0 := decide_eq_true c29; clear c29
       replace H := ifn_ H; obtain ⟨c30, H⟩ := H
       have c30b0 := decide_eq_true c30
       (try (have c30b0r0 := c30b0; simp only [hl7_1] at c30b0r0))
       (try (have c30b0r1 := c30b0; simp only [hl7_2] at c30b0r1))
       clear c30; obtain ⟨y182, hy_⟩ : ∃ y_ : List Int, y_ = ((rd_L3 x7_2 ((rd_T85 l2 x32_2).f1)).set (((rd_T54 l0_2 ((rd_T85 l2 x32_2).f0)).f0) : Int).toNat (wrap64 ((rd (rd_L3 x7_2 ((rd_T85 l2 x32_2).f1)) ((rd_T54 l0_2 ((rd_T85 l2 x32_2).f0)).f0)) - ((rd_T85 l2 x32_2).f2)))) := ⟨_, rfl⟩
       replace H : ((some (x7_2.set (((rd_T85 l2 x32_2).f1) : Int).toNat y182 : List (List Int))).bind fun y184 => (if 0 ≤ (wrap64 (((rd_T85 l2 x32_2).f1) + ((rd_T54 l0_2 ((rd_T85 l2 x32_2).f0)).f3))) then (if (wrap64 (((rd_T85 l2 x32_2).f1) + ((rd_T54 l0_2 ((rd_T85 l2 x32_2).f0)).f3))) < (x7_2.length : Int) then (if 0 ≤ ((rd_T54 l0_2 ((rd_T85 l2 x32_2).f0)).f1) then (if ((rd_T54 l0_2 ((rd_T85 l2 x32_2).f0)).f1) < ((rd_L3 y184 (wrap64 (((rd_T85 l2 x32_2).f1) + ((rd_T54 l0_2 ((rd_T85 l2 x32_2).f0)).f3)))).length : Int) then (plan_stocks.l1 k2 a1 (y184.set ((wrap64 (((rd_T85 l2 x32_2).f1) + ((rd_T54 l0_2 ((rd_T85 l2 x32_2).f0)).f3))) : Int).toNat ((rd_L3 y184 (wrap64 (((rd_T85 l2 x32_2).f1) + ((rd_T54 l0_2 ((rd_T85 l2 x32_2).f0)).f3)))).set (((rd_T54 l0_2 ((rd_T85 l2 x32_2).f0)).f1) : Int).toNat (wrap64 ((rd (rd_L3 y184 (wrap64 (((rd_T85 l2 x32_2).f1) + ((rd_T54 l0_2 ((rd_T85 l2 x32_2).f0)).f3)))) ((rd_T54 l0_2 ((rd_T85 l2 x32_2).f0)).f1)) + ((rd_T85 l2 x32_2).f2))))) l2 (l2.length : Int) (wrap64 (x32_2 + 1)) a0_0 a0_1 l0_2) else (none)) else (none)) else (none)) else (none))) = some r := hyH_
       have Ny182 := am_ hy_; clear hy_; obtain ⟨y184, hy_⟩ : ∃ y_ : List (List Int), y_ = (x7_2.set (((rd_T85 l2 x32_2).f1) : Int).toNat y182) := ⟨_, rfl⟩
       replace H : (if 0 ≤ (wrap64 (((rd_T85 l2 x32_2).f1) + ((rd_T54 l0_2 ((rd_T85 l2 x32_2).f0)).f3))) then (if (wrap64 (((rd_T85 l2 x32_2).f1) + ((rd_T54 l0_2 ((rd_T85 l2 x32_2).f0)).f3))) < (x7_2.length : Int) then (if 0 ≤ ((rd_T54 l0_2 ((rd_T85 l2 x32_2).f0)).f1) then (if ((rd_T54 l0_2 ((rd_T85 l2 x32_2).f0)).f1) < ((rd_L3 y184 (wrap64 (((rd_T85 l2 x32_2).f1) + ((rd_T54 l0_2 ((rd_T85 l2 x32_2).f0)).f3)))).length : Int) then (plan_stocks.l1 k2 a1 (y184.set ((wrap64 (((rd_T85 l2 x32_2).f1) + ((rd_T54 l0_2 ((rd_T85 l2 x32_2).f0)).f3))) : Int).toNat ((rd_L3 y184 (wrap64 (((rd_T85 l2 x32_2).f1) + ((rd_T54 l0_2 ((rd_T85 l2 x32_2).f0)).f3)))).set (((rd_T54 l0_2 ((rd_T85 l2 x32_2).f0)).f1) : Int).toNat (wrap64 ((rd (rd_L3 y184 (wrap64 (((rd_T85 l2 x32_2).f1) + ((rd_T54 l0_2 ((rd_T85 l2 x32_2).f0)).f3)))) ((rd_T54 l0_2 ((rd_T85 l2 x32_2).f0)).f1)) + ((rd_T85 l2 x32_2).f2))))) l2 (l2.length : Int) (wrap64 (x32_2 + 1)) a0_0 a0_1 l0_2) else (none)) else (none)) else (none)) else (none)) = some r := hyH_
       have Ny184 := am_ hy_; clear hy_; obtain ⟨ji32, hji32⟩ : ∃ j_ : Int, (wrap64 (((rd_T85 l2 x32_2).f1) + ((rd_T54 l0_2 ((rd_T85 l2 x32_2).f0)).f3))) = j_ := ⟨_, rfl⟩
       replace H : (if 0 ≤ (ji32) then (if (ji32) < (x7_2.length : Int) then (if 0 ≤ ((rd_T54 l0_2 ((rd_T85 l2 x32_2).f0)).f1) then (if ((rd_T54 l0_2 ((rd_T85 l2 x32_2).f0)).f1) < ((rd_L3 y184 (ji32)).length : Int) then (plan_stocks.l1 k2 a1 (y184.set ((ji32) : Int).toNat ((rd_L3 y184 (ji32)).set (((rd_T54 l0_2 ((rd_T85 l2 x32_2).f0)).f1) : Int).toNat (wrap64 ((rd (rd_L3 y184 (ji32)) ((rd_T54 l0_2 ((rd_T85 l2 x32_2).f0)).f1)) + ((rd_T85 l2 x32_2).f2))))) l2 (l2.length : Int) (wrap64 (x32_2 + 1)) a0_0 a0_1 l0_2) else (none)) else (none)) else (none)) else (none)) = some r := by first | (rw [hji32] at H; exact H) | (simp only [hji32] at H ⊢; exact H)
       have hji32w : (IntKind.i64.wrap (((rd_T85 l2 x32_2).f1) + ((rd_T54 l0_2 ((rd_T85 l2 x32_2).f0)).f3))) = ji32 := (i64_w _).trans hji32
       replace H := ifn_ H; obtain ⟨c33, H⟩ := H
       have c33b0 := decide_eq_true c33; clear c33
       replace H := ifn_ H; obtain ⟨c34, H⟩ := H
       have c34b0 := decide_eq_true c34
       (try (have c34b0r0 := c34b0; simp only [hl7_1] at c34b0r0))
       (try (have c34b0r1 := c34b0; simp only [hl7_2] at c34b0r1))
       clear c34
       replace H := ifn_ H; obtain ⟨c35, H⟩ := H
       have c35b0 := decide_eq_true c35; clear c35
       replace H := ifn_ H; obtain ⟨c36, H⟩ := H
       have c36b0 := decide_eq_true c36
       (try (have c36b0r0 := c36b0; simp only [hl7_1] at c36b0r0))
       (try (have c36b0r1 := c36b0; simp only [hl7_2] at c36b0r1))
       clear c36; obtain ⟨y187, hy_⟩ : ∃ y_ : List Int, y_ = ((rd_L3 y184 (ji32)).set (((rd_T54 l0_2 ((rd_T85 l2 x32_2).f0)).f1) : Int).toNat (wrap64 ((rd (rd_L3 y184 (ji32)) ((rd_T54 l0_2 ((rd_T85 l2 x32_2).f0)).f1)) + ((rd_T85 l2 x32_2).f2)))) := ⟨_, rfl⟩
       replace H : (plan_stocks.l1 k2 a1 (y184.set ((ji32) : Int).toNat y187) l2 (l2.length : Int) (wrap64 (x32_2 + 1)) a0_0 a0_1 l0_2) = some r := hyH_
       have Ny187 := am_ hy_; clear hy_; obtain ⟨y189, hy_⟩ : ∃ y_ : List (List Int), y_ = (y184.set ((ji32) : Int).toNat y187) := ⟨_, rfl⟩
       replace H : (plan_stocks.l1 k2 a1 y189 l2 (l2.length : Int) (wrap64 (x32_2 + 1)) a0_0 a0_1 l0_2) = some r := hyH_
       have Ny189 := am_ hy_; clear hy_; have H' := am_ H; clear H; have p176 := od_ (p := 0 ≤ (x32_2 : Int)); have q176 := od_ (p := x32_2 < (l2.length : Int)); obtain ⟨ad176, e176, hx176_0, hx176_1, hx176_2⟩ := tr3_ HB.out (at_T85 HR2.out x32_2 p176 q176); cases e176; replace p176 := eq_true p176; replace q176 := eq_true q176
       try go_wp2_with (first | ((with_reducible refine gate_dst (N := 10) rfl ?_); refine bx_ 10 #[.int .i64 0, .int .i64 0, .int .i64 0] 85 ?_; intro gb177 hg w38 BK177 hb; replace HO_7 := am_ (Kd.S_below (sq_ HO_7.out) hb); have GW177 := am_ ((by rw [hg]; exact (below_size hb_) : w.heap.size ≤ gb177)); have GE177 := ge_ (w := w) hg; replace HB := hst_ hb; have NB168_177 := am_ (nl_ BK168.out hg); have NB177_168 := am_ (ng_ BK168.out hg); replace BK168 := am_ (bb_ BK168.out hb); clear hb hg; have hnb39 := NB177_168.out; have hnc39 := NB168_177.out; obtain ⟨hcz40_0, hcz40_1, hcz40_2, hfz40_0, hfz40_1, hfz40_2⟩ := cf3_ BK177.out; obtain ⟨hcz41_0, hcz41_1, hcz41_2, hfz41_0, hfz41_1, hfz41_2⟩ := cf3_ BK168.out; have p178 : 0 ≤ (((rd_T85 l2 x32_2).f0) : Int) := of_decide_eq_true sm_; have q178 : ((rd_T85 l2 x32_2).f0) < (l0_2.length : Int) := of_decide_eq_true sm_; obtain ⟨ad178, e178, hx178_0, hx178_1, hx178_2, hx178_3⟩ := at_T54 HR0_2.out ((rd_T85 l2 x32_2).f0) p178 q178; cases e178; have hn178_0 : ad178.block ≠ gb177 := hn_ hx178_0 GW177.out; have hn178_1 : ad178.block ≠ gb177 := hn_ hx178_0 GW177.out; have hn178_2 : ad178.block ≠ gb177 := hn_ hx178_0 GW177.out; replace hx178_0 := (HB.out.cell (World.block_lt_of_cell? w _ hx178_0)).trans hx178_0; replace hx178_1 := (HB.out.cell (World.block_lt_of_cell? w _ hx178_1)).trans hx178_1; replace hx178_2 := (HB.out.cell (World.block_lt_of_cell? w _ hx178_2)).trans hx178_2; replace hx178_3 := (HB.out.cell (World.block_lt_of_cell? w _ hx178_3)).trans hx178_3; replace hx178_0 := (cell_far (p := ⟨gb177, 0, none⟩) q22_ (.int .i64 ((rd_T85 l2 x32_2).f0))).trans hx178_0; replace hx178_1 := (cell_far (p := ⟨gb177, 0, none⟩) q22_ (.int .i64 ((rd_T85 l2 x32_2).f0))).trans hx178_1; replace hx178_2 := (cell_far (p := ⟨gb177, 0, none⟩) q22_ (.int .i64 ((rd_T85 l2 x32_2).f0))).trans hx178_2; replace hx178_3 := (cell_far (p := ⟨gb177, 0, none⟩) q22_ (.int .i64 ((rd_T85 l2 x32_2).f0))).trans hx178_3; replace hx178_0 := (cell_far (p := ⟨gb177, 1, none⟩) q23_ (.int .i64 ((rd_T85 l2 x32_2).f1))).trans hx178_0; replace hx178_1 := (cell_far (p := ⟨gb177, 1, none⟩) q23_ (.int .i64 ((rd_T85 l2 x32_2).f1))).trans hx178_1; replace hx178_2 := (cell_far (p := ⟨gb177, 1, none⟩) q23_ (.int .i64 ((rd_T85 l2 x32_2).f1))).trans hx178_2; replace hx178_3 := (cell_far (p := ⟨gb177, 1, none⟩) q23_ (.int .i64 ((rd_T85 l2 x32_2).f1))).trans hx178_3; replace hx178_0 := (cell_far (p := ⟨gb177, 2, none⟩) q24_ (.int .i64 ((rd_T85 l2 x32_2).f2))).trans hx178_0; replace hx178_1 := (cell_far (p := ⟨gb177, 2, none⟩) q24_ (.int .i64 ((rd_T85 l2 x32_2).f2))).trans hx178_1; replace hx178_2 := (cell_far (p := ⟨gb177, 2, none⟩) q24_ (.int .i64 ((rd_T85 l2 x32_2).f2))).trans hx178_2; replace hx178_3 := (cell_far (p := ⟨gb177, 2, none⟩) q24_ (.int .i64 ((rd_T85 l2 x32_2).f2))).trans hx178_3; clear hn178_0; clear hn178_1; clear hn178_2; replace p178 := eq_true p178; replace q178 := eq_true q178) | ((with_reducible refine gate_dst (N := 11) rfl ?_); refine bx_ 11 #[.int .i64 0, .int .i64 0, .int .i64 0, .int .i64 0] 54 ?_; intro gb179 hg w42 BK179 hb; replace HO_7 := am_ (Kd.S_below (by refine sq_ ?_; exact (Kd.S_mono (sf3_ (Kd.S_types HO_7.out BK177.out (by decide))) (fun _ h_ => h_.1))) hb); have GE179 := ge_ (w := w) hg; replace HB := hst_ hb; have NB168_179 := am_ ((by rw [hg]; exact Nat.ne_of_lt (blk_lt (g := gb168) (o := .cells #[.int .i64 a0_0, .bool a0_1, .slice (some ad178) l0_2.length c0_2] 24 (0, 0)) q25_) : gb168 ≠ gb179)); have NB179_168 := am_ ((by rw [hg]; exact Nat.ne_of_gt (blk_lt (g := gb168) (o := .cells #[.int .i64 a0_0, .bool a0_1, .slice (some ad178) l0_2.length c0_2] 24 (0, 0)) q25_) : gb179 ≠ gb168)); replace BK168 := am_ (blk_below (g := gb168) (o := .cells #[.int .i64 a0_0, .bool a0_1, .slice (some ad178) l0_2.length c0_2] 24 (0, 0)) q25_ hb); have NB177_179 := am_ ((by rw [hg]; exact Nat.ne_of_lt (blk_lt (g := gb177) (o := .cells #[.int .i64 ((rd_T85 l2 x32_2).f0), .int .i64 ((rd_T85 l2 x32_2).f1), .int .i64 ((rd_T85 l2 x32_2).f2)] 85 (0, 0)) q8_) : gb177 ≠ gb179)); have NB179_177 := am_ ((by rw [hg]; exact Nat.ne_of_gt (blk_lt (g := gb177) (o := .cells #[.int .i64 ((rd_T85 l2 x32_2).f0), .int .i64 ((rd_T85 l2 x32_2).f1), .int .i64 ((rd_T85 l2 x32_2).f2)] 85 (0, 0)) q8_) : gb179 ≠ gb177)); replace BK177 := am_ (blk_below (g := gb177) (o := .cells #[.int .i64 ((rd_T85 l2 x32_2).f0), .int .i64 ((rd_T85 l2 x32_2).f1), .int .i64 ((rd_T85 l2 x32_2).f2)] 85 (0, 0)) q8_ hb); clear hb hg; have hnb43 := NB179_168.out; have hnc43 := NB168_179.out; have hnb44 := NB179_177.out; have hnc44 := NB177_179.out; obtain ⟨hcz45_0, hcz45_1, hcz45_2, hcz45_3, hfz45_0, hfz45_1, hfz45_2, hfz45_3⟩ := cf4_ BK179.out))
       have n0_ : Aside0 (Kd.S (Kd.slice 3 (Kd.int .i64)) 42 ((((w42.setCell ⟨gb179, 0, none⟩ (.int .i64 ((rd_T54 l0_2 ((rd_T85 l2 x32_2).f0)).f0))).setCell ⟨gb179, 1, none⟩ (.int .i64 ((rd_T54 l0_2 ((rd_T85 l2 x32_2).f0)).f1))).setCell ⟨gb179, 2, none⟩ (.int .i64 ((rd_T54 l0_2 ((rd_T85 l2 x32_2).f0)).f2))).setCell ⟨gb179, 3, none⟩ (.int .i64 ((rd_T54 l0_2 ((rd_T85 l2 x32_2).f0)).f3))) w.heap.size (fun _ => True) (.slice Ao10 x7_2.length co10) x7_2) := ⟨by refine sq_ ?_; exact Kd.S_mono (sf4_ (Kd.S_types HO_7.out BK179.out (by decide))) (fun _ hk => trivial)⟩; have n1_ : Aside0 (((((w42.setCell ⟨gb179, 0, none⟩ (.int .i64 ((rd_T54 l0_2 ((rd_T85 l2 x32_2).f0)).f0))).setCell ⟨gb179, 1, none⟩ (.int .i64 ((rd_T54 l0_2 ((rd_T85 l2 x32_2).f0)).f1))).setCell ⟨gb179, 2, none⟩ (.int .i64 ((rd_T54 l0_2 ((rd_T85 l2 x32_2).f0)).f2))).setCell ⟨gb179, 3, none⟩ (.int .i64 ((rd_T54 l0_2 ((rd_T85 l2 x32_2).f0)).f3))).heap[gb168]? = some (.cells #[.int .i64 a0_0, .bool a0_1, .slice (some ad178) l0_2.length c0_2] 24 (0, 0))) := ⟨by refine bq_ ?_; refine blk_far ?_ NB168_179.out _; refine bq_ ?_; refine blk_far ?_ NB168_179.out _; refine bq_ ?_; refine blk_far ?_ NB168_179.out _; refine bq_ ?_; refine blk_far ?_ NB168_179.out _; refine bq_ ?_; exact BK168.out⟩; have n2_ : Aside0 (((((w42.setCell ⟨gb179, 0, none⟩ (.int .i64 ((rd_T54 l0_2 ((rd_T85 l2 x32_2).f0)).f0))).setCell ⟨gb179, 1, none⟩ (.int .i64 ((rd_T54 l0_2 ((rd_T85 l2 x32_2).f0)).f1))).setCell ⟨gb179, 2, none⟩ (.int .i64 ((rd_T54 l0_2 ((rd_T85 l2 x32_2).f0)).f2))).setCell ⟨gb179, 3, none⟩ (.int .i64 ((rd_T54 l0_2 ((rd_T85 l2 x32_2).f0)).f3))).heap[gb177]? = some (.cells #[.int .i64 ((rd_T85 l2 x32_2).f0), .int .i64 ((rd_T85 l2 x32_2).f1), .int .i64 ((rd_T85 l2 x32_2).f2)] 85 (0, 0))) := ⟨by refine bq_ ?_; refine blk_far ?_ NB177_179.out _; refine bq_ ?_; refine blk_far ?_ NB177_179.out _; refine bq_ ?_; refine blk_far ?_ NB177_179.out _; refine bq_ ?_; refine blk_far ?_ NB177_179.out _; refine bq_ ?_; exact BK177.out⟩; have n3_ : Aside0 (((((w42.setCell ⟨gb179, 0, none⟩ (.int .i64 ((rd_T54 l0_2 ((rd_T85 l2 x32_2).f0)).f0))).setCell ⟨gb179, 1, none⟩ (.int .i64 ((rd_T54 l0_2 ((rd_T85 l2 x32_2).f0)).f1))).setCell ⟨gb179, 2, none⟩ (.int .i64 ((rd_T54 l0_2 ((rd_T85 l2 x32_2).f0)).f2))).setCell ⟨gb179, 3, none⟩ (.int .i64 ((rd_T54 l0_2 ((rd_T85 l2 x32_2).f0)).f3))).heap[gb179]? = some (.cells #[.int .i64 ((rd_T54 l0_2 ((rd_T85 l2 x32_2).f0)).f0), .int .i64 ((rd_T54 l0_2 ((rd_T85 l2 x32_2).f0)).f1), .int .i64 ((rd_T54 l0_2 ((rd_T85 l2 x32_2).f0)).f2), .int .i64 ((rd_T54 l0_2 ((rd_T85 l2 x32_2).f0)).f3)] 54 (0, 0))) := ⟨by refine bq_ ?_; refine blk_put (cs := #[.int .i64 ((rd_T54 l0_2 ((rd_T85 l2 x32_2).f0)).f0), .int .i64 ((rd_T54 l0_2 ((rd_T85 l2 x32_2).f0)).f1), .int .i64 ((rd_T54 l0_2 ((rd_T85 l2 x32_2).f0)).f2), .int .i64 0]) ?_ 3 _ rfl; refine bq_ ?_; refine blk_put (cs := #[.int .i64 ((rd_T54 l0_2 ((rd_T85 l2 x32_2).f0)).f0), .int .i64 ((rd_T54 l0_2 ((rd_T85 l2 x32_2).f0)).f1), .int .i64 0, .int .i64 0]) ?_ 2 _ rfl; refine bq_ ?_; refine blk_put (cs := #[.int .i64 ((rd_T54 l0_2 ((rd_T85 l2 x32_2).f0)).f0), .int .i64 0, .int .i64 0, .int .i64 0]) ?_ 1 _ rfl; refine bq_ ?_; refine blk_put (cs := #[.int .i64 0, .int .i64 0, .int .i64 0, .int .i64 0]) ?_ 0 _ rfl; refine bq_ ?_; exact BK179.out⟩; have n4_ : Aside0 (Below w.heap.size w ((((w42.setCell ⟨gb179, 0, none⟩ (.int .i64 ((rd_T54 l0_2 ((rd_T85 l2 x32_2).f0)).f0))).setCell ⟨gb179, 1, none⟩ (.int .i64 ((rd_T54 l0_2 ((rd_T85 l2 x32_2).f0)).f1))).setCell ⟨gb179, 2, none⟩ (.int .i64 ((rd_T54 l0_2 ((rd_T85 l2 x32_2).f0)).f2))).setCell ⟨gb179, 3, none⟩ (.int .i64 ((rd_T54 l0_2 ((rd_T85 l2 x32_2).f0)).f3)))) := ⟨hb_⟩
       (try clear HO_7)
       (try clear BK168)
       (try clear BK177)
       (try clear BK179)
       (try clear HB)
       generalize ((((w42.setCell ⟨gb179, 0, none⟩ (.int .i64 ((rd_T54 l0_2 ((rd_T85 l2 x32_2).f0)).f0))).setCell ⟨gb179, 1, none⟩ (.int .i64 ((rd_T54 l0_2 ((rd_T85 l2 x32_2).f0)).f1))).setCell ⟨gb179, 2, none⟩ (.int .i64 ((rd_T54 l0_2 ((rd_T85 l2 x32_2).f0)).f2))).setCell ⟨gb179, 3, none⟩ (.int .i64 ((rd_T54 l0_2 ((rd_T85 l2 x32_2).f0)).f3))) = w46 at n0_ n1_ n2_ n3_ n4_ ⊢; have HO_7 := n0_; have BK168 := n1_; have BK177 := n2_; have BK179 := n3_; have HB := n4_; clear n0_ n1_ n2_ n3_ n4_; replace HO_7 := am_ (Kd.S_drew HO_7.out); replace BK168 := am_ (blk_drew BK168.out); replace BK177 := am_ (blk_drew BK177.out); replace BK179 := am_ (blk_drew BK179.out); replace HB := am_ (below_drew1 HB.out); have p180 : 0 ≤ (((rd_T85 l2 x32_2).f1) : Int) := of_decide_eq_true sm_; have q180 : ((rd_T85 l2 x32_2).f1) < (x7_2.length : Int) := of_decide_eq_true sm_; obtain ⟨ad180, A180_0, c180_0, e180, hx180_0, hl180_0, hi180_0⟩ := at_L3 (Kd.S_reads' HO_7.out).2.2 ((rd_T85 l2 x32_2).f1) p180 q180; cases e180; obtain ⟨ce180, hce180, hMe180, hcc180⟩ := Kd.S_get HO_7.out [] ((rd_T85 l2 x32_2).f1) p180 (by first | exact q180 | exact of_decide_eq_true sm_ | (have e_ := (Kd.S_reads' HO_7.out).1; omega)); obtain ⟨ve180_0, rfl, ge180_0⟩ := hMe180; have hv180_0 := hcc180 0 _ rfl; rw [Nat.add_zero, show ((Kd.slice 3 (Kd.int .i64))).sz = 1 from rfl, Nat.mul_one] at hv180_0; replace hv180_0 := Option.some.inj (hv180_0.symm.trans hx180_0); rw [hv180_0] at ge180_0; have HL180_0 := am_ (show Kd.R (Kd.int .i64) 3 _ _ _ _ (rd_L3 x7_2 ((rd_T85 l2 x32_2).f1)) from ge180_0); clear hv180_0 ge180_0; have HX180_0 := am_ hx180_0; clear hcc180 hce180; have HR180_0 := am_ hi180_0; have HC180_0 := am_ hl180_0; clear hi180_0 hl180_0; replace p180 := eq_true p180; replace q180 := eq_true q180; have p181 : 0 ≤ (((rd_T54 l0_2 ((rd_T85 l2 x32_2).f0)).f0) : Int) := of_decide_eq_true sm_; have q181 : ((rd_T54 l0_2 ((rd_T85 l2 x32_2).f0)).f0) < ((rd_L3 x7_2 ((rd_T85 l2 x32_2).f1)).length : Int) := of_decide_eq_true sm_; obtain ⟨ad181, e181, hx181_0⟩ := Kd.at_int (by repeat (first | (with_reducible exact HR180_0.out) | (with_reducible refine Kd.C_alloc ?_ _) | (with_reducible refine Kd.C_drewN ?_ _) | (with_reducible refine Kd.C_drew ?_) | exact HR180_0.out)) ((rd_T54 l0_2 ((rd_T85 l2 x32_2).f0)).f0) p181 q181; cases e181; replace p181 := eq_true p181; replace q181 := eq_true q181; have p31 : 0 ≤ (((rd_T54 l0_2 ((rd_T85 l2 x32_2).f0)).f0) : Int) := of_decide_eq_true sm_; have q31 : (((rd_T54 l0_2 ((rd_T85 l2 x32_2).f0)).f0) : Int) < (((rd_L3 x7_2 ((rd_T85 l2 x32_2).f1)).length : Int) : Int) := of_decide_eq_true sm_; obtain ⟨go31, co31, eo31, gb31, gl31, cl31, HG31⟩ := Kd.R_form HL180_0.out (by omega)
       (first | cases eo31 | (injection eo31 with ea_ en_ ec_; (first | subst ea_ | (injection ea_ with ea_; subst ea_)); subst ec_; clear en_))
       have GB31 := am_ gb31; have GG31 := am_ HG31; clear gb31 gl31 HG31
       (first | simp only [add_plain] at hx181_0 | skip)
       obtain ⟨hx31_0, hf31_0⟩ := Kd.R_celln 0 HL180_0.out (((rd_T54 l0_2 ((rd_T85 l2 x32_2).f0)).f0) : Int) p31 q31; replace p31 := eq_true p31; replace q31 := eq_true q31; have hq48 : (((rd_T85 l2 x32_2).f1) : Int) < (x7_2.length : Int) := (by have h_ : (((rd_T85 l2 x32_2).f1) : Int) < ((x7_2.length : Int) : Int) := of_decide_eq_true sm_; first | exact h_ | (have e_ := (Kd.S_reads' HO_7.out).1; omega) | simpa only [List.length_set, List.length_set] using h_); obtain ⟨oki48, ce48, hcl48, hM48, hcc48, hok48, hbk48⟩ := Kd.S_borrow HO_7.out [] (((rd_T85 l2 x32_2).f1) : Int) (of_decide_eq_true sm_) hq48; obtain ⟨ve48_0, rfl, ge48_0⟩ := hM48; have hv48 := hcc48 0 _ rfl; rw [Nat.add_zero, show ((Kd.slice 3 (Kd.int .i64))).sz = 1 from rfl, Nat.mul_one] at hv48; replace hv48 := Option.some.inj (hv48.symm.trans HX180_0.out); subst hv48; clear hcc48 hcl48; replace ge48_0 := (show Kd.R (Kd.int .i64) 3 _ _ _ _ (rd_L3 x7_2 ((rd_T85 l2 x32_2).f1)) from ge48_0); have HP48 := Kd.R_putg ge48_0 (((rd_T54 l0_2 ((rd_T85 l2 x32_2).f0)).f0) : Int) (wrap64 ((rd (rd_L3 x7_2 ((rd_T85 l2 x32_2).f1)) ((rd_T54 l0_2 ((rd_T85 l2 x32_2).f0)).f0)) - ((rd_T85 l2 x32_2).f2))); rw [← Ny182.out] at HP48; have HS48 := hbk48 HP48.2 (fun k_ e_ => by injection e_ with e_; subst e_; exact ge48_0.1 _ rfl) (x' := y182) (Kd.M_row HP48.1); rw [← Ny184.out] at HS48; have HQ48 := am_ HS48; clear HP48 HS48 hbk48 hok48; refine start_ (n := 14) (S := fun w' => w'.cell? ⟨gb177, 0, none⟩ = some (.int .i64 ((rd_T85 l2 x32_2).f0)) ∧ w'.cell? ⟨gb177, 1, none⟩ = some (.int .i64 ((rd_T85 l2 x32_2).f1)) ∧ w'.cell? ⟨gb177, 2, none⟩ = some (.int .i64 ((rd_T85 l2 x32_2).f2)) ∧ w'.cell? ⟨gb179, 0, none⟩ = some (.int .i64 ((rd_T54 l0_2 ((rd_T85 l2 x32_2).f0)).f0)) ∧ w'.cell? ⟨gb179, 1, none⟩ = some (.int .i64 ((rd_T54 l0_2 ((rd_T85 l2 x32_2).f0)).f1)) ∧ w'.cell? ⟨gb179, 2, none⟩ = some (.int .i64 ((rd_T54 l0_2 ((rd_T85 l2 x32_2).f0)).f2)) ∧ w'.cell? ⟨gb179, 3, none⟩ = some (.int .i64 ((rd_T54 l0_2 ((rd_T85 l2 x32_2).f0)).f3)) ∧ w'.cell? (ad180.add (((rd_T85 l2 x32_2).f1)).toNat) = some (.slice (some ⟨go31, 0, none⟩) (rd_L3 x7_2 ((rd_T85 l2 x32_2).f1)).length c180_0) ∧ w'.cell? ⟨go31, (((rd_T54 l0_2 ((rd_T85 l2 x32_2).f0)).f0)).toNat, none⟩ = some (.int .i64 (rd (rd_L3 x7_2 ((rd_T85 l2 x32_2).f1)) ((rd_T54 l0_2 ((rd_T85 l2 x32_2).f0)).f0)))) (ds := [13]) #[Ff,Ff,Ff,Ff,Ff,Ff,Ff,Ff,Ff,Ff,Ff,Ff,Ff,Ff] (by kernel_rfl) rfl rfl ⟨(blk_cell BK177.out 0).trans rfl, (blk_cell BK177.out 1).trans rfl, (blk_cell BK177.out 2).trans rfl, (blk_cell BK179.out 0).trans rfl, (blk_cell BK179.out 1).trans rfl, (blk_cell BK179.out 2).trans rfl, (blk_cell BK179.out 3).trans rfl, hx180_0, hx181_0⟩ (fun hHeld => ?_); refine with_tabW plan_stocks.tab11 plan_stocks.bits11 (fun HT_ HW_ => ?_); generalize w46.drew = w47 at HO_7 BK168 BK177 BK179 HB GG31 HL180_0 HQ48 HR180_0 HX180_0 hf31_0 hx180_0 hx181_0 hx31_0 hHeld ⊢; refine pw_ 0 42 ?_; refine pw_ 1 43 ?_; refine pw_ 5 47 ?_; refine pw_ 9 51 ?_; refine tk_ 2 44 ?_; refine pw_ 3 45 ?_; refine tk_ 4 46 ?_; refine tk_ 6 48 ?_; refine pw_ 7 49 ?_; refine tk_ 8 50 ?_; refine tk_ 10 52 ?_; refine pw_ 11 53 ?_; refine pw_ 12 54 ?_; refine last_ (i := 13) (N := none) #[Tt,Tt,Tt,Tt,Tt,Tt,Tt,Tt,Tt,Tt,Tt,Tt,Tt,Tt] rfl rfl (one_of HT_.out (by kernel_rfl)) (by decide) (fun K hK => ?_); refine skip_ (w1 := ?_) (by rfl) rfl ?_ ?_; rotate_left; (· go_simp; rfl); refine hK.out _ _ ?_; clear hK K; refine done_ (done_of HT_.out (by kernel_rfl)) ?_
       try go_wp2
       have n0_ : Aside0 (Kd.S (Kd.slice 3 (Kd.int .i64)) 42 (w47.setCell ⟨go31, (((rd_T54 l0_2 ((rd_T85 l2 x32_2).f0)).f0) : Int).toNat, none⟩ (.int .i64 (wrap64 ((rd (rd_L3 x7_2 ((rd_T85 l2 x32_2).f1)) ((rd_T54 l0_2 ((rd_T85 l2 x32_2).f0)).f0)) - ((rd_T85 l2 x32_2).f2))))) w.heap.size (fun _ => True) (.slice (some ad180) x7_2.length co10) y184) := ⟨sq_ HQ48.out⟩; have n1_ : Aside0 ((w47.setCell ⟨go31, (((rd_T54 l0_2 ((rd_T85 l2 x32_2).f0)).f0) : Int).toNat, none⟩ (.int .i64 (wrap64 ((rd (rd_L3 x7_2 ((rd_T85 l2 x32_2).f1)) ((rd_T54 l0_2 ((rd_T85 l2 x32_2).f0)).f0)) - ((rd_T85 l2 x32_2).f2))))).heap[gb168]? = some (.cells #[.int .i64 a0_0, .bool a0_1, .slice (some ad178) l0_2.length c0_2] 24 (0, 0))) := ⟨by refine bq_ ?_; refine blk_far ?_ (by have h_ := Kd.R_ne HL180_0.out BK168.out (by decide); intro e_; exact h_ (by rw [e_]; rfl)) _; refine bq_ ?_; exact BK168.out⟩; have n2_ : Aside0 ((w47.setCell ⟨go31, (((rd_T54 l0_2 ((rd_T85 l2 x32_2).f0)).f0) : Int).toNat, none⟩ (.int .i64 (wrap64 ((rd (rd_L3 x7_2 ((rd_T85 l2 x32_2).f1)) ((rd_T54 l0_2 ((rd_T85 l2 x32_2).f0)).f0)) - ((rd_T85 l2 x32_2).f2))))).heap[gb177]? = some (.cells #[.int .i64 ((rd_T85 l2 x32_2).f0), .int .i64 ((rd_T85 l2 x32_2).f1), .int .i64 ((rd_T85 l2 x32_2).f2)] 85 (0, 0))) := ⟨by refine bq_ ?_; refine blk_far ?_ (by have h_ := Kd.R_ne HL180_0.out BK177.out (by decide); intro e_; exact h_ (by rw [e_]; rfl)) _; refine bq_ ?_; exact BK177.out⟩; have n3_ : Aside0 ((w47.setCell ⟨go31, (((rd_T54 l0_2 ((rd_T85 l2 x32_2).f0)).f0) : Int).toNat, none⟩ (.int .i64 (wrap64 ((rd (rd_L3 x7_2 ((rd_T85 l2 x32_2).f1)) ((rd_T54 l0_2 ((rd_T85 l2 x32_2).f0)).f0)) - ((rd_T85 l2 x32_2).f2))))).heap[gb179]? = some (.cells #[.int .i64 ((rd_T54 l0_2 ((rd_T85 l2 x32_2).f0)).f0), .int .i64 ((rd_T54 l0_2 ((rd_T85 l2 x32_2).f0)).f1), .int .i64 ((rd_T54 l0_2 ((rd_T85 l2 x32_2).f0)).f2), .int .i64 ((rd_T54 l0_2 ((rd_T85 l2 x32_2).f0)).f3)] 54 (0, 0))) := ⟨by refine bq_ ?_; refine blk_far ?_ (by have h_ := Kd.R_ne HL180_0.out BK179.out (by decide); intro e_; exact h_ (by rw [e_]; rfl)) _; refine bq_ ?_; exact BK179.out⟩; have n4_ : Aside0 (Below w.heap.size w (w47.setCell ⟨go31, (((rd_T54 l0_2 ((rd_T85 l2 x32_2).f0)).f0) : Int).toNat, none⟩ (.int .i64 (wrap64 ((rd (rd_L3 x7_2 ((rd_T85 l2 x32_2).f1)) ((rd_T54 l0_2 ((rd_T85 l2 x32_2).f0)).f0)) - ((rd_T85 l2 x32_2).f2)))))) := ⟨hb_⟩
       (try clear HO_7)
       (try clear BK168)
       (try clear BK177)
       (try clear BK179)
       (try clear HB)
       generalize (w47.setCell ⟨go31, (((rd_T54 l0_2 ((rd_T85 l2 x32_2).f0)).f0) : Int).toNat, none⟩ (.int .i64 (wrap64 ((rd (rd_L3 x7_2 ((rd_T85 l2 x32_2).f1)) ((rd_T54 l0_2 ((rd_T85 l2 x32_2).f0)).f0)) - ((rd_T85 l2 x32_2).f2))))) = w50 at n0_ n1_ n2_ n3_ n4_ ⊢; have HO_7 := n0_; have BK168 := n1_; have BK177 := n2_; have BK179 := n3_; have HB := n4_; clear n0_ n1_ n2_ n3_ n4_; replace HO_7 := am_ (Kd.S_drew HO_7.out); replace BK168 := am_ (blk_drew BK168.out); replace BK177 := am_ (blk_drew BK177.out); replace BK179 := am_ (blk_drew BK179.out); replace HB := am_ (below_drew1 HB.out); have p185 : 0 ≤ ((ji32) : Int) := of_decide_eq_true sm_; have q185 : (ji32) < (y184.length : Int) := (by have h_ : ((ji32) : Int) < ((x7_2.length : Int) : Int) := of_decide_eq_true sm_; first | (have e_ := (Kd.S_reads' HO_7.out).1; omega) | simpa only [Ny184.out, List.length_set] using h_); have ql185 : (((ji32) : Int) < ((x7_2.length : Int) : Int)) = True := eq_true (of_decide_eq_true sm_); obtain ⟨ad185, A185_0, c185_0, e185, hx185_0, hl185_0, hi185_0⟩ := at_L3 (Kd.S_reads' HO_7.out).2.2 (ji32) p185 q185; obtain rfl : ad180 = ad185 := (by injection e185); obtain ⟨ce185, hce185, hMe185, hcc185⟩ := Kd.S_get HO_7.out [] (ji32) p185 (by first | exact q185 | exact of_decide_eq_true sm_ | (have e_ := (Kd.S_reads' HO_7.out).1; omega)); obtain ⟨ve185_0, rfl, ge185_0⟩ := hMe185; have hv185_0 := hcc185 0 _ rfl; rw [Nat.add_zero, show ((Kd.slice 3 (Kd.int .i64))).sz = 1 from rfl, Nat.mul_one] at hv185_0; replace hv185_0 := Option.some.inj (hv185_0.symm.trans hx185_0); rw [hv185_0] at ge185_0; have HL185_0 := am_ (show Kd.R (Kd.int .i64) 3 _ _ _ _ (rd_L3 y184 (ji32)) from ge185_0); clear hv185_0 ge185_0; have HX185_0 := am_ hx185_0; clear hcc185 hce185; have HR185_0 := am_ hi185_0; have HC185_0 := am_ hl185_0; clear hi185_0 hl185_0; replace p185 := eq_true p185; replace q185 := eq_true q185; have p186 : 0 ≤ (((rd_T54 l0_2 ((rd_T85 l2 x32_2).f0)).f1) : Int) := of_decide_eq_true sm_; have q186 : ((rd_T54 l0_2 ((rd_T85 l2 x32_2).f0)).f1) < ((rd_L3 y184 (ji32)).length : Int) := of_decide_eq_true sm_; obtain ⟨ad186, e186, hx186_0⟩ := Kd.at_int (by repeat (first | (with_reducible exact HR185_0.out) | (with_reducible refine Kd.C_alloc ?_ _) | (with_reducible refine Kd.C_drewN ?_ _) | (with_reducible refine Kd.C_drew ?_) | exact HR185_0.out)) ((rd_T54 l0_2 ((rd_T85 l2 x32_2).f0)).f1) p186 q186; cases e186; replace p186 := eq_true p186; replace q186 := eq_true q186; have p37 : 0 ≤ (((rd_T54 l0_2 ((rd_T85 l2 x32_2).f0)).f1) : Int) := of_decide_eq_true sm_; have q37 : (((rd_T54 l0_2 ((rd_T85 l2 x32_2).f0)).f1) : Int) < (((rd_L3 y184 (ji32)).length : Int) : Int) := of_decide_eq_true sm_; obtain ⟨go37, co37, eo37, gb37, gl37, cl37, HG37⟩ := Kd.R_form HL185_0.out (by omega)
       (first | cases eo37 | (injection eo37 with ea_ en_ ec_; (first | subst ea_ | (injection ea_ with ea_; subst ea_)); subst ec_; clear en_))
       have GB37 := am_ gb37; have GG37 := am_ HG37; clear gb37 gl37 HG37
       (first | simp only [add_plain] at hx186_0 | skip)
       obtain ⟨hx37_0, hf37_0⟩ := Kd.R_celln 0 HL185_0.out (((rd_T54 l0_2 ((rd_T85 l2 x32_2).f0)).f1) : Int) p37 q37; replace p37 := eq_true p37; replace q37 := eq_true q37; have hq52 : ((ji32) : Int) < (y184.length : Int) := (by have h_ : ((ji32) : Int) < ((x7_2.length : Int) : Int) := of_decide_eq_true sm_; first | exact h_ | (have e_ := (Kd.S_reads' HO_7.out).1; omega) | simpa only [Ny184.out, List.length_set] using h_); obtain ⟨oki52, ce52, hcl52, hM52, hcc52, hok52, hbk52⟩ := Kd.S_borrow HO_7.out [] ((ji32) : Int) (of_decide_eq_true sm_) (by first | exact hq52 | (have e_ := (Kd.S_reads' HO_7.out).1; omega)); obtain ⟨ve52_0, rfl, ge52_0⟩ := hM52; have hv52 := hcc52 0 _ rfl; rw [Nat.add_zero, show ((Kd.slice 3 (Kd.int .i64))).sz = 1 from rfl, Nat.mul_one] at hv52; replace hv52 := Option.some.inj (hv52.symm.trans HX185_0.out); subst hv52; clear hcc52 hcl52; replace ge52_0 := (show Kd.R (Kd.int .i64) 3 _ _ _ _ (rd_L3 y184 (ji32)) from ge52_0); have HP52 := Kd.R_putg ge52_0 (((rd_T54 l0_2 ((rd_T85 l2 x32_2).f0)).f1) : Int) (wrap64 ((rd (rd_L3 y184 (ji32)) ((rd_T54 l0_2 ((rd_T85 l2 x32_2).f0)).f1)) + ((rd_T85 l2 x32_2).f2))); rw [← Ny187.out] at HP52; have HS52 := hbk52 HP52.2 (fun k_ e_ => by injection e_ with e_; subst e_; exact ge52_0.1 _ rfl) (x' := y187) (Kd.M_row HP52.1); rw [← Ny189.out] at HS52; have HQ52 := am_ HS52; clear HP52 HS52 hbk52 hok52; refine start_ (n := 17) (S := fun w' => w'.cell? ⟨gb177, 0, none⟩ = some (.int .i64 ((rd_T85 l2 x32_2).f0)) ∧ w'.cell? ⟨gb177, 1, none⟩ = some (.int .i64 ((rd_T85 l2 x32_2).f1)) ∧ w'.cell? ⟨gb177, 2, none⟩ = some (.int .i64 ((rd_T85 l2 x32_2).f2)) ∧ w'.cell? ⟨gb179, 0, none⟩ = some (.int .i64 ((rd_T54 l0_2 ((rd_T85 l2 x32_2).f0)).f0)) ∧ w'.cell? ⟨gb179, 1, none⟩ = some (.int .i64 ((rd_T54 l0_2 ((rd_T85 l2 x32_2).f0)).f1)) ∧ w'.cell? ⟨gb179, 2, none⟩ = some (.int .i64 ((rd_T54 l0_2 ((rd_T85 l2 x32_2).f0)).f2)) ∧ w'.cell? ⟨gb179, 3, none⟩ = some (.int .i64 ((rd_T54 l0_2 ((rd_T85 l2 x32_2).f0)).f3)) ∧ w'.cell? (ad180.add ((ji32)).toNat) = some (.slice (some ⟨go37, 0, none⟩) (rd_L3 y184 (ji32)).length c185_0) ∧ w'.cell? ⟨go37, (((rd_T54 l0_2 ((rd_T85 l2 x32_2).f0)).f1)).toNat, none⟩ = some (.int .i64 (rd (rd_L3 y184 (ji32)) ((rd_T54 l0_2 ((rd_T85 l2 x32_2).f0)).f1)))) (ds := [16]) #[Ff,Ff,Ff,Ff,Ff,Ff,Ff,Ff,Ff,Ff,Ff,Ff,Ff,Ff,Ff,Ff,Ff] (by kernel_rfl) rfl rfl ⟨(blk_cell BK177.out 0).trans rfl, (blk_cell BK177.out 1).trans rfl, (blk_cell BK177.out 2).trans rfl, (blk_cell BK179.out 0).trans rfl, (blk_cell BK179.out 1).trans rfl, (blk_cell BK179.out 2).trans rfl, (blk_cell BK179.out 3).trans rfl, hx185_0, hx186_0⟩ (fun hHeld => ?_); refine with_tabW plan_stocks.tab12 plan_stocks.bits12 (fun HT_ HW_ => ?_); generalize w50.drew = w51 at HO_7 BK168 BK177 BK179 HB GG37 HL185_0 HQ48 HQ52 HR185_0 HX185_0 hf37_0 hx185_0 hx186_0 hx37_0 hHeld ⊢; refine pw_ 0 55 ?_; refine pw_ 1 56 ?_; refine pw_ 3 58 ?_; refine pw_ 8 63 ?_; refine pw_ 12 67 ?_; refine tk_ 2 57 ?_; refine tk_ 4 59 ?_; refine pw_ 5 60 ?_; refine pw_ 6 61 ?_; refine tk_ 7 62 ?_; refine tk_ 9 64 ?_; refine pw_ 10 65 ?_; refine tk_ 11 66 ?_; refine tk_ 13 68 ?_; refine pw_ 14 69 ?_; refine pw_ 15 70 ?_; refine last_ (i := 16) (N := none) #[Tt,Tt,Tt,Tt,Tt,Tt,Tt,Tt,Tt,Tt,Tt,Tt,Tt,Tt,Tt,Tt,Tt] rfl rfl (one_of HT_.out (by kernel_rfl)) (by decide) (fun K hK => ?_); refine skip_ (w1 := ?_) (by rfl) rfl ?_ ?_; rotate_left; (· go_simp; rfl); refine hK.out _ _ ?_; clear hK K; refine done_ (done_of HT_.out (by kernel_rfl)) ?_
       try go_wp2
       (try simp only [← hl7_2])
       go_roundg k2
       case measure => have := HK1.out; have := HK2.out; omega
       case rel => exact ⟨(y189), (wrap64 (x32_2 + 1)), rs_, H', ⟨by have := HK1.out; have := HK2.out; omega⟩, ⟨by (try simp only [hl7_1]); (try simp only [hl7_2]); refine sq_ ?_; exact HQ52.out⟩, ⟨by (try simp only [hl7_1]); (try simp only [hl7_2]); refine bq_ ?_; refine blk_far ?_ (by have h_ := Kd.R_ne HL185_0.out BK168.out (by decide); intro e_; exact h_ (by rw [e_]; rfl)) _; refine bq_ ?_; exact BK168.out⟩, ⟨hb_⟩⟩
      ·rw [if_neg c22] at H
       have c22b0 := decide_eq_false c22
       (try (have c22b0r0 := c22b0; simp only [hl7_1] at c22b0r0))
       (try (have c22b0r1 := c22b0; simp only [hl7_2] at c22b0r1))
       clear c22; have H' := am_ H; clear H
       go_wp2
       go_loopg [73] k2 (fun kq v73 w' => ∃ (x7_3 : List (List Int)) (x73_3 : Int), v73 = .int .i64 x73_3 ∧ Aside0 (plan_stocks.l2 kq x7_3 a1 x73_3 = some r) ∧ Aside0 (kq ≤ k2) ∧ Aside0 (Kd.S (Kd.slice 3 (Kd.int .i64)) 42 w' w.heap.size (fun _ => True) (.slice Ao10 x7_2.length co10) x7_3) ∧ Aside0 (w'.heap[gb168]? = some (.cells #[.int .i64 a0_0, .bool a0_1, (.slice A0_2 l0_2.length c0_2)] 24 (0, 0))) ∧ Aside0 (Below w.heap.size w w'))
       case atStart => exact ⟨(x7_2), (0), rs_, H', ⟨Nat.le_refl _⟩, ⟨by (try simp only [hl7_1]); (try simp only [hl7_2]); refine sq_ ?_; exact HO_7.out⟩, ⟨by (try simp only [hl7_1]); (try simp only [hl7_2]); refine bq_ ?_; exact BK168.out⟩, ⟨hb_⟩⟩
       case round =>
        clear H'
        try clear c1
        try clear p1
        try clear q1
        try clear hx1
        try clear c2
        try clear p2
        try clear hx2
        try clear c3
        try clear p3
        try clear q3
        try clear hx3
        try clear hf3
        try clear c4
        try clear q4
        try clear c5
        try clear q5
        try clear p6
        try clear c12
        try clear c12b0
        try clear c12b1
        try clear c13
        try clear c13b0
        try clear c13b1
        try clear c14
        try clear c14b0
        try clear c15
        try clear c15b0
        try clear c16
        try clear p16
        try clear q16
        try clear hx16
        try clear hf16
        try clear p17
        try clear q17
        try clear hx17
        try clear c18
        try clear p18
        try clear q18
        try clear hx18
        try clear c20
        try clear hx20
        try clear hf20
        try clear c22
        try clear c22b0
        try clear c23
        try clear c23b0
        try clear c24
        try clear c24b0
        try clear c25
        try clear c25b0
        try clear c26
        try clear c26b0
        try clear c27
        try clear c27b0
        try clear c28
        try clear c28b0
        try clear c29
        try clear c29b0
        try clear c30
        try clear c30b0
        try clear p31
        try clear q31
        try clear hx31
        try clear hf31
        try clear c33
        try clear c33b0
        try clear c34
        try clear c34b0
        try clear c35
        try clear c35b0
        try clear c36
        try clear c36b0
        try clear p37
        try clear q37
        try clear hx37
        try clear hf37
        try clear c39
        try clear c43
        try clear c44
        try clear c48
        try clear q48
        try clear c52
        try clear q52
        try clear hcz17_0 hcz17_1 hcz17_2
        try clear hcz40_0 hcz40_1 hcz40_2
        try clear hcz41_0 hcz41_1 hcz41_2
        try clear hcz45_0 hcz45_1 hcz45_2 hcz45_3
        try clear hfz17_0 hfz17_1 hfz17_2
        try clear hfz40_0 hfz40_1 hfz40_2
        try clear hfz41_0 hfz41_1 hfz41_2
        try clear hfz45_0 hfz45_1 hfz45_2 hfz45_3
        try clear hx16_0
        try clear hx176_0
        try clear hx176_1
        try clear hx176_2
        try clear hx178_0
        try clear hx178_1
        try clear hx178_2
        try clear hx178_3
        try clear hx180_0
        try clear hx181_0
        try clear hx185_0
        try clear hx186_0
        try clear hx20_0
        try clear hx31_0
        try clear hx37_0
        try clear p16
        try clear p176
        try clear p178
        try clear p180
        try clear p181
        try clear p185
        try clear p186
        try clear p2
        try clear p31
        try clear p37
        try clear p6
        try clear q16
        try clear q176
        try clear q178
        try clear q180
        try clear q181
        try clear q185
        try clear q186
        try clear q31
        try clear q37
        obtain ⟨x7_3, x73_3, rfl, HA, HK3, HO_7, BK168, HB⟩ := hrel; have hl7_3 := (Kd.S_reads' HO_7.out).1; rw [hl7_3] at HO_7
        (try simp only [hl7_3])
        (try simp only [hl7_3] at BK168)
        cases gk with
        | zero => exact absurd HA.out (by simp [plan_stocks.l2])
        | succ k3 =>
         have H := HA.out; clear HA; simp only [plan_stocks.l2] at H
         by_cases c54 : x73_3 < a1
         ·rw [if_pos c54] at H
          have c54b0 := decide_eq_true c54; clear c54
          replace H := ifn_ H; obtain ⟨c55, H⟩ := H
          have c55b0 := decide_eq_true c55; clear c55
          replace H := ifn_ H; obtain ⟨c56, H⟩ := H
          have c56b0 := decide_eq_true c56
          (try (have c56b0r0 := c56b0; simp only [hl7_1] at c56b0r0))
          (try (have c56b0r1 := c56b0; simp only [hl7_2] at c56b0r1))
          (try (have c56b0r2 := c56b0; simp only [hl7_3] at c56b0r2))
          clear c56; have H' := am_ H; clear H; have p190 : 0 ≤ (x73_3 : Int) := of_decide_eq_true sm_; have q190 : x73_3 < (x7_3.length : Int) := of_decide_eq_true sm_; obtain ⟨ad190, A190_0, c190_0, e190, hx190_0, hl190_0, hi190_0⟩ := at_L3 (Kd.S_reads' HO_7.out).2.2 x73_3 p190 q190; cases e190; obtain ⟨ce190, hce190, hMe190, hcc190⟩ := Kd.S_get HO_7.out [] x73_3 p190 (by first | exact q190 | exact of_decide_eq_true sm_ | (have e_ := (Kd.S_reads' HO_7.out).1; omega)); obtain ⟨ve190_0, rfl, ge190_0⟩ := hMe190; have hv190_0 := hcc190 0 _ rfl; rw [Nat.add_zero, show ((Kd.slice 3 (Kd.int .i64))).sz = 1 from rfl, Nat.mul_one] at hv190_0; replace hv190_0 := Option.some.inj (hv190_0.symm.trans hx190_0); rw [hv190_0] at ge190_0; have HL190_0 := am_ (show Kd.R (Kd.int .i64) 3 _ _ _ _ (rd_L3 x7_3 x73_3) from ge190_0); clear hv190_0 ge190_0; have HX190_0 := am_ hx190_0; clear hcc190 hce190; have HR190_0 := am_ hi190_0; have HC190_0 := am_ hl190_0; clear hi190_0 hl190_0; replace p190 := eq_true p190; replace q190 := eq_true q190
          go_wp2
          have HP73 := am_ (show 0 ≤ x73_3 ∧ x73_3 < (x7_3.length : Int) from ⟨of_decide_eq_true sm_, of_decide_eq_true sm_⟩)
          go_loopg [81] k3 (fun kq v81 w' => ∃ (x7_4 : List (List Int)) (x81_4 : Int), v81 = .int .i64 x81_4 ∧ Aside0 (plan_stocks.l3 kq x7_4 x73_3 a1 x73_3 (rd_L3 x7_3 x73_3) ((rd_L3 x7_3 x73_3).length : Int) x81_4 = some r) ∧ Aside0 (kq ≤ k3) ∧ Aside0 (Kd.S (Kd.slice 3 (Kd.int .i64)) 42 w' w.heap.size (fun _ => True) (.slice (some ad190) x7_3.length co10) x7_4) ∧ Aside0 (w'.heap[gb168]? = some (.cells #[.int .i64 a0_0, .bool a0_1, (.slice A0_2 l0_2.length c0_2)] 24 (0, 0))) ∧ Aside0 (Below w.heap.size w w') ∧ Aside0 (w'.cell? (ad190.add x73_3.toNat) = some (.slice A190_0 (rd_L3 x7_3 x73_3).length c190_0)) ∧ Aside0 (rd_L3 x7_4 x73_3 = rd_L3 x7_3 x73_3))
          case atStart => exact ⟨(x7_3), (0), rs_, H', ⟨Nat.le_refl _⟩, ⟨by (try simp only [hl7_1]); (try simp only [hl7_2]); (try simp only [hl7_3]); refine sq_ ?_; exact HO_7.out⟩, ⟨by (try simp only [hl7_1]); (try simp only [hl7_2]); (try simp only [hl7_3]); refine bq_ ?_; exact BK168.out⟩, ⟨hb_⟩, ⟨HX190_0.out⟩, ⟨rfl⟩⟩
          case round =>
           clear H'
           try clear c1
           try clear p1
           try clear q1
           try clear hx1
           try clear c2
           try clear p2
           try clear hx2
           try clear c3
           try clear p3
           try clear q3
           try clear hx3
           try clear hf3
           try clear c4
           try clear q4
           try clear c5
           try clear q5
           try clear p6
           try clear c12
           try clear c12b0
           try clear c12b1
           try clear c13
           try clear c13b0
           try clear c13b1
           try clear c14
           try clear c14b0
           try clear c15
           try clear c15b0
           try clear c16
           try clear p16
           try clear q16
           try clear hx16
           try clear hf16
           try clear p17
           try clear q17
           try clear hx17
           try clear c18
           try clear p18
           try clear q18
           try clear hx18
           try clear c19
           try clear p19
           try clear q19
           try clear hx19
           try clear c20
           try clear hx20
           try clear hf20
           try clear c22
           try clear c22b0
           try clear c23
           try clear c23b0
           try clear c24
           try clear c24b0
           try clear c25
           try clear c25b0
           try clear c26
           try clear c26b0
           try clear c27
           try clear c27b0
           try clear c28
           try clear c28b0
           try clear c29
           try clear c29b0
           try clear c30
           try clear c30b0
           try clear p31
           try clear q31
           try clear hx31
           try clear hf31
           try clear c33
           try clear c33b0
           try clear c34
           try clear c34b0
           try clear c35
           try clear c35b0
           try clear c36
           try clear c36b0
           try clear p37
           try clear q37
           try clear hx37
           try clear hf37
           try clear c39
           try clear c43
           try clear c44
           try clear c48
           try clear q48
           try clear c52
           try clear q52
           try clear c54
           try clear c54b0
           try clear c55
           try clear c55b0
           try clear c56
           try clear c56b0
           try clear hcz17_0 hcz17_1 hcz17_2
           try clear hcz40_0 hcz40_1 hcz40_2
           try clear hcz41_0 hcz41_1 hcz41_2
           try clear hcz45_0 hcz45_1 hcz45_2 hcz45_3
           try clear hfz17_0 hfz17_1 hfz17_2
           try clear hfz40_0 hfz40_1 hfz40_2
           try clear hfz41_0 hfz41_1 hfz41_2
           try clear hfz45_0 hfz45_1 hfz45_2 hfz45_3
           try clear hx16_0
           try clear hx176_0
           try clear hx176_1
           try clear hx176_2
           try clear hx178_0
           try clear hx178_1
           try clear hx178_2
           try clear hx178_3
           try clear hx180_0
           try clear hx181_0
           try clear hx185_0
           try clear hx186_0
           try clear hx190_0
           try clear hx20_0
           try clear hx31_0
           try clear hx37_0
           try clear p1
           try clear p16
           try clear p17
           try clear p176
           try clear p178
           try clear p18
           try clear p180
           try clear p181
           try clear p185
           try clear p186
           try clear p190
           try clear p2
           try clear p3
           try clear p31
           try clear p37
           try clear p6
           try clear q1
           try clear q16
           try clear q17
           try clear q176
           try clear q178
           try clear q18
           try clear q180
           try clear q181
           try clear q185
           try clear q186
           try clear q190
           try clear q3
           try clear q31
           try clear q37
           try clear q4
           try clear q48
           try clear q5
           try clear q52
           obtain ⟨x7_4, x81_4, rfl, HA, HK4, HO_7, BK168, HB, HX92, HE92⟩ := hrel; have hl7_4 := (Kd.S_reads' HO_7.out).1; rw [hl7_4] at HO_7
           (try simp only [hl7_4])
           (try simp only [hl7_4] at BK168)
           cases gk with
           | zero => exact absurd HA.out (by simp [plan_stocks.l3])
           | succ k4 =>
            have H := HA.out; clear HA; simp only [plan_stocks.l3] at H
            by_cases c57 : x81_4 < ((rd_L3 x7_3 x73_3).length : Int)
            ·rw [if_pos c57] at H
             have c57b0 := decide_eq_true c57
             (try (have c57b0r0 := c57b0; simp only [hl7_1] at c57b0r0))
             (try (have c57b0r1 := c57b0; simp only [hl7_2] at c57b0r1))
             (try (have c57b0r2 := c57b0; simp only [hl7_3] at c57b0r2))
             (try (have c57b0r3 := c57b0; simp only [hl7_4] at c57b0r3))
             clear c57
             replace H := ifn_ H; obtain ⟨c58, H⟩ := H
             have c58b0 := decide_eq_true c58; clear c58
             replace H := ifn_ H; obtain ⟨c59, H⟩ := H
             have c59b0 := decide_eq_true c59
             (try (have c59b0r0 := c59b0; simp only [hl7_1] at c59b0r0))
             (try (have c59b0r1 := c59b0; simp only [hl7_2] at c59b0r1))
             (try (have c59b0r2 := c59b0; simp only [hl7_3] at c59b0r2))
             (try (have c59b0r3 := c59b0; simp only [hl7_4] at c59b0r3))
             clear c59; obtain ⟨ji60, hji60⟩ : ∃ j_ : Int, (wrap64 (x73_3 + 1)) = j_ := ⟨_, rfl⟩
             replace H : (if 0 ≤ (ji60) then (if (ji60) < (x7_4.length : Int) then (if x81_4 < ((rd_L3 x7_4 (ji60)).length : Int) then (plan_stocks.l3 k4 (x7_4.set ((ji60) : Int).toNat ((rd_L3 x7_4 (ji60)).set (x81_4 : Int).toNat (wrap64 ((rd (rd_L3 x7_4 (ji60)) x81_4) + (rd (rd_L3 x7_3 x73_3) x81_4))))) x73_3 a1 x73_3 (rd_L3 x7_3 x73_3) ((rd_L3 x7_3 x73_3).length : Int) (wrap64 (x81_4 + 1))) else (none)) else (none)) else (none)) = some r := by first | (rw [hji60] at H; exact H) | (simp only [hji60] at H ⊢; exact H)
             have hji60w : (IntKind.i64.wrap (x73_3 + 1)) = ji60 := (i64_w _).trans hji60
             replace H := ifn_ H; obtain ⟨c61, H⟩ := H
             have c61b0 := decide_eq_true c61; clear c61
             replace H := ifn_ H; obtain ⟨c62, H⟩ := H
             have c62b0 := decide_eq_true c62
             (try (have c62b0r0 := c62b0; simp only [hl7_1] at c62b0r0))
             (try (have c62b0r1 := c62b0; simp only [hl7_2] at c62b0r1))
             (try (have c62b0r2 := c62b0; simp only [hl7_3] at c62b0r2))
             (try (have c62b0r3 := c62b0; simp only [hl7_4] at c62b0r3))
             clear c62
             replace H := ifn_ H; obtain ⟨c63, H⟩ := H
             have c63b0 := decide_eq_true c63
             (try (have c63b0r0 := c63b0; simp only [hl7_1] at c63b0r0))
             (try (have c63b0r1 := c63b0; simp only [hl7_2] at c63b0r1))
             (try (have c63b0r2 := c63b0; simp only [hl7_3] at c63b0r2))
             (try (have c63b0r3 := c63b0; simp only [hl7_4] at c63b0r3))
             clear c63; obtain ⟨y194, hy_⟩ : ∃ y_ : List Int, y_ = ((rd_L3 x7_4 (ji60)).set (x81_4 : Int).toNat (wrap64 ((rd (rd_L3 x7_4 (ji60)) x81_4) + (rd (rd_L3 x7_3 x73_3) x81_4)))) := ⟨_, rfl⟩
             replace H : (plan_stocks.l3 k4 (x7_4.set ((ji60) : Int).toNat y194) x73_3 a1 x73_3 (rd_L3 x7_3 x73_3) ((rd_L3 x7_3 x73_3).length : Int) (wrap64 (x81_4 + 1))) = some r := hyH_
             have Ny194 := am_ hy_; clear hy_; obtain ⟨y196, hy_⟩ : ∃ y_ : List (List Int), y_ = (x7_4.set ((ji60) : Int).toNat y194) := ⟨_, rfl⟩
             replace H : (plan_stocks.l3 k4 y196 x73_3 a1 x73_3 (rd_L3 x7_3 x73_3) ((rd_L3 x7_3 x73_3).length : Int) (wrap64 (x81_4 + 1))) = some r := hyH_
             have Ny196 := am_ hy_; clear hy_; have H' := am_ H; clear H; have p191 : 0 ≤ (x81_4 : Int) := of_decide_eq_true sm_; have q191 : x81_4 < ((rd_L3 x7_3 x73_3).length : Int) := of_decide_eq_true sm_; obtain ⟨ce92_, hce92_, hMe92_, hcc92_⟩ := Kd.S_get HO_7.out [] x73_3 HP73.out.1 (by have h_ := HP73.out.2; have e_ := (Kd.S_reads' HO_7.out).1; omega); obtain ⟨ve92_, rfl, ge92_⟩ := hMe92_; have hv92_ := hcc92_ 0 _ rfl; rw [Nat.add_zero, show ((Kd.slice 3 (Kd.int .i64))).sz = 1 from rfl, Nat.mul_one] at hv92_; replace hv92_ := Option.some.inj (hv92_.symm.trans HX92.out); rw [hv92_] at ge92_; have gi92_ := (Kd.R_reads' (show Kd.R (Kd.int .i64) 3 _ _ _ (.slice A190_0 (rd_L3 x7_3 x73_3).length c190_0) (rd_L3 x7_4 x73_3) from ge92_)).2.2; rw [HE92.out] at gi92_; clear ge92_ hv92_ hcc92_ hce92_; obtain ⟨ad191, e191, hx191_0⟩ := Kd.at_int gi92_ x81_4 p191 q191; cases e191; clear gi92_; replace p191 := eq_true p191; replace q191 := eq_true q191; have p192 : 0 ≤ ((ji60) : Int) := of_decide_eq_true sm_; have q192 : (ji60) < (x7_4.length : Int) := of_decide_eq_true sm_; obtain ⟨ad192, A192_0, c192_0, e192, hx192_0, hl192_0, hi192_0⟩ := at_L3 (Kd.S_reads' HO_7.out).2.2 (ji60) p192 q192; obtain rfl : ad190 = ad192 := (by injection e192); obtain ⟨ce192, hce192, hMe192, hcc192⟩ := Kd.S_get HO_7.out [] (ji60) p192 (by first | exact q192 | exact of_decide_eq_true sm_ | (have e_ := (Kd.S_reads' HO_7.out).1; omega)); obtain ⟨ve192_0, rfl, ge192_0⟩ := hMe192; have hv192_0 := hcc192 0 _ rfl; rw [Nat.add_zero, show ((Kd.slice 3 (Kd.int .i64))).sz = 1 from rfl, Nat.mul_one] at hv192_0; replace hv192_0 := Option.some.inj (hv192_0.symm.trans hx192_0); rw [hv192_0] at ge192_0; have HL192_0 := am_ (show Kd.R (Kd.int .i64) 3 _ _ _ _ (rd_L3 x7_4 (ji60)) from ge192_0); clear hv192_0 ge192_0; have HX192_0 := am_ hx192_0; clear hcc192 hce192; have HR192_0 := am_ hi192_0; have HC192_0 := am_ hl192_0; clear hi192_0 hl192_0; replace p192 := eq_true p192; replace q192 := eq_true q192; have p193 : 0 ≤ (x81_4 : Int) := of_decide_eq_true sm_; have q193 : x81_4 < ((rd_L3 x7_4 (ji60)).length : Int) := of_decide_eq_true sm_; obtain ⟨ad193, e193, hx193_0⟩ := Kd.at_int (by repeat (first | (with_reducible exact HR192_0.out) | (with_reducible refine Kd.C_alloc ?_ _) | (with_reducible refine Kd.C_drewN ?_ _) | (with_reducible refine Kd.C_drew ?_) | exact HR192_0.out)) x81_4 p193 q193; cases e193; replace p193 := eq_true p193; replace q193 := eq_true q193; have p64 : 0 ≤ (x81_4 : Int) := of_decide_eq_true sm_; have q64 : (x81_4 : Int) < (((rd_L3 x7_4 (ji60)).length : Int) : Int) := of_decide_eq_true sm_; obtain ⟨go64, co64, eo64, gb64, gl64, cl64, HG64⟩ := Kd.R_form HL192_0.out (by omega)
             (first | cases eo64 | (injection eo64 with ea_ en_ ec_; (first | subst ea_ | (injection ea_ with ea_; subst ea_)); subst ec_; clear en_))
             have GB64 := am_ gb64; have GG64 := am_ HG64; clear gb64 gl64 HG64
             (first | simp only [add_plain] at hx193_0 | skip)
             obtain ⟨hx64_0, hf64_0⟩ := Kd.R_celln 0 HL192_0.out (x81_4 : Int) p64 q64; replace p64 := eq_true p64; replace q64 := eq_true q64; have hq65 : ((ji60) : Int) < (x7_4.length : Int) := (by have h_ : ((ji60) : Int) < ((x7_4.length : Int) : Int) := of_decide_eq_true sm_; first | exact h_ | (have e_ := (Kd.S_reads' HO_7.out).1; omega) | simpa only [List.length_set, List.length_set] using h_); obtain ⟨oki65, ce65, hcl65, hM65, hcc65, hok65, hbk65⟩ := Kd.S_borrow HO_7.out [] ((ji60) : Int) (of_decide_eq_true sm_) hq65; obtain ⟨ve65_0, rfl, ge65_0⟩ := hM65; have hv65 := hcc65 0 _ rfl; rw [Nat.add_zero, show ((Kd.slice 3 (Kd.int .i64))).sz = 1 from rfl, Nat.mul_one] at hv65; replace hv65 := Option.some.inj (hv65.symm.trans HX192_0.out); subst hv65; clear hcc65 hcl65; replace ge65_0 := (show Kd.R (Kd.int .i64) 3 _ _ _ _ (rd_L3 x7_4 (ji60)) from ge65_0); have HP65 := Kd.R_putg ge65_0 (x81_4 : Int) (wrap64 ((rd (rd_L3 x7_4 (ji60)) x81_4) + (rd (rd_L3 x7_3 x73_3) x81_4)))
             go_wp2_with (first | ((with_reducible refine gate_store (t := 3) (p := 96) rfl ?_); refine store_event (t := 3) (p := 96) (v := ?vo_w66) (w1 := (wr.setCell ⟨go64, (x81_4 : Int).toNat, none⟩ (.int .i64 (wrap64 ((rd (rd_L3 x7_4 (ji60)) x81_4) + (rd (rd_L3 x7_3 x73_3) x81_4)))))) ?hg ?ho ?hn ?hr ?_; (case ho => rfl); (case hg => rfl); (case hn => rfl); (case hr => first | (go_simp; done) | (go_simp; rfl)); intro w66 hw; have hg : wr.grownBy w66 (some go64) := (by rw [hw]; exact HP65.2); have hz_ : Kd.R (Kd.int .i64) 3 w66 w.heap.size oki65 (.slice (some ⟨go64, 0, none⟩) (rd_L3 x7_4 (ji60)).length c192_0) y194 := (by rw [hw, Ny194.out]; exact HP65.1); have hp_ : Kd.S (Kd.slice 3 (Kd.int .i64)) 42 w66 w.heap.size (fun _ => True) (.slice (some ad190) x7_4.length co10) y196 := (by rw [Ny196.out]; exact hbk65 hg (fun k_ e_ => by injection e_ with e_; subst e_; exact ge65_0.1 _ rfl) (Kd.M_row hz_)); have hm_ := Kd.R_mono hz_ hok65; clear HP65 hbk65; have n0_ := am_ (hp_); have n1_ := am_ (bg_ BK168.out hg (Kd.R_ne HL192_0.out BK168.out (by decide))); have n2_ := am_ ((by rw [hw]; exact below_set (HB.out) GB64.out : Below w.heap.size w w66)); have n3_ := am_ (hm_); have n4_ := am_ ((Kd.R_reads' hm_).2.1); have n9_ : w66.cell? (ad190.add x73_3.toNat) = some (.slice (some ad191) (rd_L3 x7_3 x73_3).length c190_0) := (by rw [hw]; exact (World.cell?_of_block (Below.heap_setCell _ _ _ _ (fun e_ => by obtain ⟨c_, hc_⟩ := Kd.S_typed HO_7.out ad190.block rfl; rw [add_block_] at e_; rw [e_] at hc_; have hg_ := GG64.out; rw [hc_] at hg_; injection hg_ with hg_; injection hg_ with _ hg_; exact absurd hg_ (by decide)))).trans HX92.out); clear HX92; have HX92 := am_ n9_; clear n9_; clear HO_7; clear BK168; clear HB; clear HL192_0; have HO_7 := n0_; have BK168 := n1_; have HB := n2_; have HL197 := n3_; have HC195 := n4_; clear n0_ n1_ n2_ n3_ n4_; clear hg hw hp_ hz_ hm_ hok65))
             (try simp only [← hl7_4])
             go_roundg k4
             case measure => have := HK1.out; have := HK2.out; have := HK3.out; have := HK4.out; omega
             case rel => exact ⟨(y196), (wrap64 (x81_4 + 1)), rs_, H', ⟨by have := HK1.out; have := HK2.out; have := HK3.out; have := HK4.out; omega⟩, ⟨by (try simp only [hl7_1]); (try simp only [hl7_2]); (try simp only [hl7_3]); (try simp only [hl7_4]); refine sq_ ?_; exact HO_7.out⟩, ⟨by (try simp only [hl7_1]); (try simp only [hl7_2]); (try simp only [hl7_3]); (try simp only [hl7_4]); refine bq_ ?_; exact BK168.out⟩, ⟨hb_⟩, ⟨HX92.out⟩, ⟨by rw [Ny196.out]; refine Eq.trans (rd_L3_ne_ ?_) HE92.out; have h1_ := hji60; have h2_ := HP73.out.1; have h3_ : 0 ≤ ji60 := (by first | exact of_eq_true p192 | exact of_decide_eq_true sm_); unfold wrap64 at h1_; omega⟩⟩
            ·rw [if_neg c57] at H
             have c57b0 := decide_eq_false c57
             (try (have c57b0r0 := c57b0; simp only [hl7_1] at c57b0r0))
             (try (have c57b0r1 := c57b0; simp only [hl7_2] at c57b0r1))
             (try (have c57b0r2 := c57b0; simp only [hl7_3] at c57b0r2))
             (try (have c57b0r3 := c57b0; simp only [hl7_4] at c57b0r3))
             clear c57; have H' := am_ H; clear H
             go_wp2
             (try simp only [← hl7_3, ← hl7_4])
             go_roundg k4
             case measure => have := HK1.out; have := HK2.out; have := HK3.out; have := HK4.out; omega
             case rel => exact ⟨(x7_4), (wrap64 (x73_3 + 1)), rs_, H', ⟨by have := HK1.out; have := HK2.out; have := HK3.out; have := HK4.out; omega⟩, ⟨by (try simp only [hl7_1]); (try simp only [hl7_2]); (try simp only [hl7_3]); (try simp only [hl7_4]); refine sq_ ?_; exact HO_7.out⟩, ⟨by (try simp only [hl7_1]); (try simp only [hl7_2]); (try simp only [hl7_3]); (try simp only [hl7_4]); refine bq_ ?_; exact BK168.out⟩, ⟨hb_⟩⟩
         ·rw [if_neg c54] at H
          have c54b0 := decide_eq_false c54; clear c54; obtain rfl := Option.some.inj H
          go_wp2
          go_ret
          exact ⟨_, by first | rfl | (simp [errW_none, errW_some] <;> rfl) | (simp only [← hji4]; first | rfl | (simp [errW_none, errW_some] <;> rfl)) | (simp [*, errW_none, errW_some] <;> rfl), by refine sq_ ?_; exact HO_7.out, hb_⟩
def plan_Stocks.f (k : Nat) (a0_0 : Int) (a0_1 : Bool) (l0_2 : List (S54)) (a1 : Int) (a2 : Int) (a3 : Int) (l4 : List (S85)) : Option ((List (List Int)) × Int) := (plan_merged.f k a0_0 a0_1 l0_2 a1 a2 a3 l4).bind fun bt199 => (if bt199.2 = 0 then ((plan_stocks.f k a0_0 a0_1 l0_2 a3 bt199.1).bind fun t203 => (some (t203, 0))) else (some (([] : List (List Int)), bt199.2)))
set_option maxHeartbeats 8000000 in
set_option maxRecDepth 100000 in
theorem plan_Stocks.calls (k : Nat) (a0_0 : Int) (a0_1 : Bool) (A0_2 : Option Addr) (c0_2 : Nat) (l0_2 : List (S54)) (a1 : Int) (a2 : Int) (a3 : Int) (A4 : Option Addr) (c4 : Nat) (l4 : List (S85)) (r1 : List (List Int)) (r2 : Int) (w : World) (hr0_2 : Kd.C k54 w A0_2 l0_2.length l0_2) (hc0_2 : l0_2.length ≤ c0_2) (hr4 : Kd.C k85 w A4 l4.length l4) (hc4 : l4.length ≤ c4) (h : plan_Stocks.f k a0_0 a0_1 l0_2 a1 a2 a3 l4 = some (r1, r2)) :
  Calls Try.prog 49 #[.agg #[.int .i64 a0_0, .bool a0_1, .slice A0_2 l0_2.length c0_2], .int .i64 a1, .int .i64 a2, .int .i64 a3, .slice A4 l4.length c4] w fun e w' => ∃ v0_ : Value, e = .returned (.tuple #[v0_, .int .i64 r2]) ∧ Kd.S (Kd.slice 3 (Kd.int .i64)) 42 w' w.heap.size (fun _ => True) v0_ r1 ∧ Below w.heap.size w w' := by
 have hu24 := Try.underlying24; have HR0_2 := am_ hr0_2; have HC0_2 := am_ hc0_2; clear hr0_2 hc0_2; have HR4 := am_ hr4; have HC4 := am_ hc4; clear hr4 hc4; have HB := am_ (Below.refl w.heap.size w); have H : ((plan_merged.f k a0_0 a0_1 l0_2 a1 a2 a3 l4).bind fun bt199 => (if bt199.2 = 0 then ((plan_stocks.f k a0_0 a0_1 l0_2 a3 bt199.1).bind fun t203 => (some (t203, 0))) else (some (([] : List (List Int)), bt199.2)))) = some (r1, r2) := h; clear h; replace H := Option.bind_eq_some_iff.mp H; obtain ⟨⟨t199, t202⟩, A60, H⟩ := H; replace H : (if t202 = 0 then ((plan_stocks.f k a0_0 a0_1 l0_2 a3 t199).bind fun t203 => (some (t203, 0))) else (some (([] : List (List Int)), t202))) = some (r1, r2) := H; have A6 := am_ A60; clear A60
 by_cases c7 : t202 = 0
 ·rw [if_pos c7] at H
  obtain ⟨c7b0, c7b1⟩ := eqb_ c7; clear c7; replace H := Option.bind_eq_some_iff.mp H; obtain ⟨t203, A80, H⟩ := H; replace H : (some (t203, 0)) = some (r1, r2) := H; have A8 := am_ A80; clear A80; simp only [Option.some.injEq, Prod.mk.injEq] at H; obtain ⟨rfl, rfl⟩ := H
  go_enter Try.func49, Try.ntmps49
  go_wp2_with (first | ((with_reducible refine gate_dst (N := 5) rfl ?_); refine bx_ 5 #[.int .i64 a0_0, .bool a0_1, .slice A0_2 l0_2.length c0_2] 24 ?_; intro gb198 hg w9 BK198 hb; have GE198 := ge_ (w := w) hg; replace HB := hst_ hb; clear hb hg; obtain ⟨hcz10_0, hcz10_1, hcz10_2, hfz10_0, hfz10_1, hfz10_2⟩ := cf3_ BK198.out) | ((with_reducible refine gate_callee (f := 72) rfl ?_); refine cl_ 20 Try.func72 (plan_merged.calls k a0_0 a0_1 _ _ l0_2 a1 a2 a3 _ _ l4 t199 t202 _ (cb_ HR0_2.out) HC0_2.out (cb_ HR4.out) HC4.out A6.out) ?_; rintro e w11 ⟨v200, rfl, ho0, hb⟩; refine ⟨_, rfl, ?_⟩; have HO201 := am_ (Kd.R_lower ho0 (below_size hb_)); replace BK198 := am_ (bb_ BK198.out hb); replace HB := hst_ hb; (try clear hb); (try clear hb2); (try clear hk); (try clear hi); (try clear ho0); obtain ⟨hcz12_0, hcz12_1, hcz12_2, hfz12_0, hfz12_1, hfz12_2⟩ := cf3_ BK198.out; obtain ⟨Ao13, co13, eo13⟩ := Kd.R_slice HO201.out; subst eo13) | ((with_reducible refine gate_callee (f := 73) rfl ?_); refine goesL_ (some 29) rfl rfl Try.func73 (by kernel_rfl) rfl #[.agg #[.int .i64 a0_0, .bool a0_1, .slice A0_2 l0_2.length c0_2], .int .i64 a3, .slice Ao13 t199.length co13] rfl mt_ ?_; (with_reducible refine (plan_stocks.calls k a0_0 a0_1 _ _ l0_2 a3 _ _ t199 t203 _ ?side1 ?side2 ?side3 ?side4 A8.out).mono ?_); (case side1 => exact cb_ HR0_2.out); (case side2 => exact HC0_2.out); (case side3 => repeat (first | exact (Kd.R_reads' HO201.out).2.2 | (with_reducible refine Kd.C_alloc ?_ _) | (with_reducible refine Kd.C_drewN ?_ _) | (with_reducible refine Kd.C_drew ?_))); (case side4 => exact (Kd.R_reads' HO201.out).2.1); rintro e w14 ⟨v204, rfl, ho0, hb⟩; refine ⟨_, rfl, ?_⟩; replace HO201 := am_ (Kd.R_below (rq_ HO201.out) hb); have HO205 := am_ (Kd.S_lower ho0 (below_size hb_)); replace BK198 := am_ (bb_ BK198.out hb); replace HB := hst_ hb; (try clear hb); (try clear hb2); (try clear hk); (try clear hi); (try clear ho0)))
  go_ret2
  exact ⟨_, er_, by refine sq_ ?_; exact HO205.out, hb_⟩
 ·rw [if_neg c7] at H
  obtain ⟨c7b0, c7b1⟩ := neb_ c7; simp only [Option.some.injEq, Prod.mk.injEq] at H; obtain ⟨rfl, rfl⟩ := H
  go_enter Try.func49, Try.ntmps49
  go_wp2_with (first | ((with_reducible refine gate_dst (N := 5) rfl ?_); refine bx_ 5 #[.int .i64 a0_0, .bool a0_1, .slice A0_2 l0_2.length c0_2] 24 ?_; intro gb198 hg w15 BK198 hb; have GE198 := ge_ (w := w) hg; replace HB := hst_ hb; clear hb hg; obtain ⟨hcz16_0, hcz16_1, hcz16_2, hfz16_0, hfz16_1, hfz16_2⟩ := cf3_ BK198.out) | ((with_reducible refine gate_callee (f := 72) rfl ?_); refine cl_ 20 Try.func72 (plan_merged.calls k a0_0 a0_1 _ _ l0_2 a1 a2 a3 _ _ l4 t199 t202 _ (cb_ HR0_2.out) HC0_2.out (cb_ HR4.out) HC4.out A6.out) ?_; rintro e w17 ⟨v200, rfl, ho0, hb⟩; refine ⟨_, rfl, ?_⟩; have HO201 := am_ (Kd.R_lower ho0 (below_size hb_)); replace BK198 := am_ (bb_ BK198.out hb); replace HB := hst_ hb; (try clear hb); (try clear hb2); (try clear hk); (try clear hi); (try clear ho0)))
  go_ret2
  exact ⟨_, er_, by first | exact Kd.S_nil _ _ _ _ _ | exact Kd.N_nil _ _ _ _ _ | exact Kd.V_nil _ _ _ _ _ | exact Kd.Q_nil _ _ _ _ _ | exact Kd.R_nil _ _ _ _ _, hb_⟩
mutual
def plan_ordinary.l0 : Nat → List (List Int) → Int → Int → Bool → List (List Int) → Int → Int → Option (Bool)
 | 0, _, _, _, _, _, _, _ => none
 | k + 1, x0, x1, x2, x3, x13, x14, x15 => if x15 < x14 then (if 0 ≤ x15 then (if x15 < (x13.length : Int) then (plan_ordinary.l1 k x0 x1 x2 x3 x15 x13 x14 x15 (rd_L3 x13 x15) ((rd_L3 x13 x15).length : Int) 0) else (none)) else (none)) else (some true)
def plan_ordinary.l1 : Nat → List (List Int) → Int → Int → Bool → Int → List (List Int) → Int → Int → List Int → Int → Int → Option (Bool)
 | 0, _, _, _, _, _, _, _, _, _, _, _ => none
 | k + 1, x0, x1, x2, x3, x9, x13, x14, x15, x20, x21, x22 => if x22 < x21 then (if 0 ≤ x22 then (if x22 < (x20.length : Int) then (if x22 = x1 then (plan_ordinary.l1 k x0 x1 x2 x3 x9 x13 x14 x15 x20 x21 (wrap64 (x22 + 1))) else (if x22 = x2 then (plan_ordinary.l1 k x0 x1 x2 x3 x9 x13 x14 x15 x20 x21 (wrap64 (x22 + 1))) else (if (rd x20 x22) < 0 then (some false) else (if (rd x20 x22) > 0 then (if x3 = true then (if x9 = (wrap64 ((x0.length : Int) - 1)) then (some false) else (plan_ordinary.l1 k x0 x1 x2 x3 x9 x13 x14 x15 x20 x21 (wrap64 (x22 + 1)))) else (some false)) else (plan_ordinary.l1 k x0 x1 x2 x3 x9 x13 x14 x15 x20 x21 (wrap64 (x22 + 1))))))) else (none)) else (none)) else (plan_ordinary.l0 k x0 x1 x2 x3 x13 x14 (wrap64 (x15 + 1)))
end
def plan_ordinary.f (k : Nat) (l0 : List (List Int)) (a1 : Int) (a2 : Int) (a3 : Bool) : Option (Bool) := plan_ordinary.l0 k l0 a1 a2 a3 l0 (l0.length : Int) 0
set_option maxHeartbeats 8000000 in
set_option maxRecDepth 100000 in
theorem plan_ordinary.calls (k : Nat) (A0 : Option Addr) (c0 : Nat) (l0 : List (List Int)) (a1 : Int) (a2 : Int) (a3 : Bool) (r : Bool) (w : World) (hr0 : Kd.C (Kd.slice 3 (Kd.int .i64)) w A0 l0.length l0) (hc0 : l0.length ≤ c0) (h : plan_ordinary.f k l0 a1 a2 a3 = some r) :
  Calls Try.prog 86 #[.slice A0 l0.length c0, .int .i64 a1, .int .i64 a2, .bool a3] w fun e w' => e = .returned (.bool r) ∧ Drawn0 w w' := by
 have HR0 := am_ hr0; have HC0 := am_ hc0; clear hr0 hc0; have H : (plan_ordinary.l0 k l0 a1 a2 a3 l0 (l0.length : Int) 0) = some r := h; clear h; have H' := am_ H; clear H
 go_enter Try.func86, Try.ntmps86
 go_wp2
 go_loopg [15] k (fun kq v15 w' => ∃ (x15_1 : Int), v15 = .int .i64 x15_1 ∧ Aside0 (plan_ordinary.l0 kq l0 a1 a2 a3 l0 (l0.length : Int) x15_1 = some r) ∧ Aside0 (kq ≤ k) ∧ Drawn0 w w')
 case atStart => exact ⟨(0), rs_, H', ⟨Nat.le_refl _⟩, by repeat (first | exact Drawn0.refl _ | apply Drawn0.step)⟩
 case round =>
  clear H'
  try clear p2
  obtain ⟨x15_1, rfl, HA, HK1, ⟨m1, rfl⟩⟩ := hrel
  cases gk with
  | zero => exact absurd HA.out (by simp [plan_ordinary.l0])
  | succ k1 =>
   have H := HA.out; clear HA; simp only [plan_ordinary.l0] at H
   by_cases c5 : x15_1 < (l0.length : Int)
   ·rw [if_pos c5] at H
    have c5b0 := decide_eq_true c5; clear c5
    replace H := ifn_ H; obtain ⟨c6, H⟩ := H
    have c6b0 := decide_eq_true c6; clear c6
    replace H := ifn_ H; obtain ⟨c7, H⟩ := H
    have c7b0 := decide_eq_true c7; clear c7; have H' := am_ H; clear H; have p206 : 0 ≤ (x15_1 : Int) := of_decide_eq_true sm_; have q206 : x15_1 < (l0.length : Int) := of_decide_eq_true sm_; obtain ⟨ad206, A206_0, c206_0, e206, hx206_0, hl206_0, hi206_0⟩ := at_L3 HR0.out x15_1 p206 q206; cases e206; have HR206_0 := am_ hi206_0; have HC206_0 := am_ hl206_0; clear hi206_0 hl206_0; replace p206 := eq_true p206; replace q206 := eq_true q206
    go_wp2
    go_loopg [22] k1 (fun kq v22 w' => ∃ (x22_2 : Int), v22 = .int .i64 x22_2 ∧ Aside0 (plan_ordinary.l1 kq l0 a1 a2 a3 x15_1 l0 (l0.length : Int) x15_1 (rd_L3 l0 x15_1) ((rd_L3 l0 x15_1).length : Int) x22_2 = some r) ∧ Aside0 (kq ≤ k1) ∧ Drawn0 w w')
    case atStart => exact ⟨(0), rs_, H', ⟨Nat.le_refl _⟩, by repeat (first | exact Drawn0.refl _ | apply Drawn0.step)⟩
    case round =>
     clear H'
     try clear c2
     try clear p2
     try clear q2
     try clear hx2
     try clear c5
     try clear c5b0
     try clear c6
     try clear c6b0
     try clear c7
     try clear c7b0
     try clear hx206_0
     try clear p2
     try clear p206
     try clear q206
     obtain ⟨x22_2, rfl, HA, HK2, ⟨m2, rfl⟩⟩ := hrel
     cases gk with
     | zero => exact absurd HA.out (by simp [plan_ordinary.l1])
     | succ k2 =>
      have H := HA.out; clear HA; simp only [plan_ordinary.l1] at H
      by_cases c8 : x22_2 < ((rd_L3 l0 x15_1).length : Int)
      ·rw [if_pos c8] at H
       have c8b0 := decide_eq_true c8; clear c8
       replace H := ifn_ H; obtain ⟨c9, H⟩ := H
       have c9b0 := decide_eq_true c9; clear c9
       replace H := ifn_ H; obtain ⟨c10, H⟩ := H
       have c10b0 := decide_eq_true c10; clear c10
       by_cases c11 : x22_2 = a1
       ·rw [if_pos c11] at H
        obtain ⟨c11b0, c11b1⟩ := eqb_ c11; clear c11; have H' := am_ H; clear H; have p207 : 0 ≤ (x22_2 : Int) := of_decide_eq_true sm_; have q207 : x22_2 < ((rd_L3 l0 x15_1).length : Int) := of_decide_eq_true sm_; obtain ⟨ad207, e207, hx207_0⟩ := Kd.at_int HR206_0.out x22_2 p207 q207; cases e207; replace p207 := eq_true p207; replace q207 := eq_true q207
        go_wp2
        go_roundg k2
        case measure => have := HK1.out; have := HK2.out; omega
        case rel => exact ⟨(wrap64 (x22_2 + 1)), rs_, H', ⟨by have := HK1.out; have := HK2.out; omega⟩, by repeat (first | exact Drawn0.refl _ | apply Drawn0.step)⟩
       ·rw [if_neg c11] at H
        obtain ⟨c11b0, c11b1⟩ := neb_ c11
        by_cases c12 : x22_2 = a2
        ·rw [if_pos c12] at H
         obtain ⟨c12b0, c12b1⟩ := eqb_ c12; clear c12; have H' := am_ H; clear H; have p207 : 0 ≤ (x22_2 : Int) := of_decide_eq_true sm_; have q207 : x22_2 < ((rd_L3 l0 x15_1).length : Int) := of_decide_eq_true sm_; obtain ⟨ad207, e207, hx207_0⟩ := Kd.at_int HR206_0.out x22_2 p207 q207; cases e207; replace p207 := eq_true p207; replace q207 := eq_true q207
         go_wp2
         go_roundg k2
         case measure => have := HK1.out; have := HK2.out; omega
         case rel => exact ⟨(wrap64 (x22_2 + 1)), rs_, H', ⟨by have := HK1.out; have := HK2.out; omega⟩, by repeat (first | exact Drawn0.refl _ | apply Drawn0.step)⟩
        ·rw [if_neg c12] at H
         obtain ⟨c12b0, c12b1⟩ := neb_ c12
         by_cases c13 : (rd (rd_L3 l0 x15_1) x22_2) < 0
         ·rw [if_pos c13] at H
          have c13b0 := decide_eq_true c13; clear c13; obtain rfl := Option.some.inj H; have p207 : 0 ≤ (x22_2 : Int) := of_decide_eq_true sm_; have q207 : x22_2 < ((rd_L3 l0 x15_1).length : Int) := of_decide_eq_true sm_; obtain ⟨ad207, e207, hx207_0⟩ := Kd.at_int HR206_0.out x22_2 p207 q207; cases e207; replace p207 := eq_true p207; replace q207 := eq_true q207
          go_wp2
          go_ret
          exact ⟨by first | rfl | (simp; done) | (simp [*]; done), by repeat (first | exact Drawn0.refl _ | apply Drawn0.step)⟩
         ·rw [if_neg c13] at H
          have c13b0 := decide_eq_false c13; clear c13
          by_cases c14 : (rd (rd_L3 l0 x15_1) x22_2) > 0
          ·rw [if_pos c14] at H
           have c14b0 := decide_eq_true c14; clear c14
           by_cases c15 : a3 = true
           ·subst c15
            have H1 : (if x15_1 = (wrap64 ((l0.length : Int) - 1)) then (some false) else (plan_ordinary.l1 k2 l0 a1 a2 true x15_1 l0 (l0.length : Int) x15_1 (rd_L3 l0 x15_1) ((rd_L3 l0 x15_1).length : Int) (wrap64 (x22_2 + 1)))) = some r := by rw [if_pos rfl] at H; exact H
            clear H; have H := H1; clear H1
            by_cases c16 : x15_1 = (wrap64 ((l0.length : Int) - 1))
            ·rw [if_pos c16] at H
             obtain ⟨c16b0, c16b1⟩ := eqb_ c16; clear c16; obtain rfl := Option.some.inj H; have p207 : 0 ≤ (x22_2 : Int) := of_decide_eq_true sm_; have q207 : x22_2 < ((rd_L3 l0 x15_1).length : Int) := of_decide_eq_true sm_; obtain ⟨ad207, e207, hx207_0⟩ := Kd.at_int HR206_0.out x22_2 p207 q207; cases e207; replace p207 := eq_true p207; replace q207 := eq_true q207
             go_wp2
             go_ret
             exact ⟨by first | rfl | (simp; done) | (simp [*]; done), by repeat (first | exact Drawn0.refl _ | apply Drawn0.step)⟩
            ·rw [if_neg c16] at H
             obtain ⟨c16b0, c16b1⟩ := neb_ c16; have H' := am_ H; clear H; have p207 : 0 ≤ (x22_2 : Int) := of_decide_eq_true sm_; have q207 : x22_2 < ((rd_L3 l0 x15_1).length : Int) := of_decide_eq_true sm_; obtain ⟨ad207, e207, hx207_0⟩ := Kd.at_int HR206_0.out x22_2 p207 q207; cases e207; replace p207 := eq_true p207; replace q207 := eq_true q207
             go_wp2
             go_roundg k2
             case measure => have := HK1.out; have := HK2.out; omega
             case rel => exact ⟨(wrap64 (x22_2 + 1)), rs_, H', ⟨by have := HK1.out; have := HK2.out; omega⟩, by repeat (first | exact Drawn0.refl _ | apply Drawn0.step)⟩
           ·replace c15 := Bool.eq_false_iff.mpr c15
            subst c15
            have H1 : (some false) = some r := by rw [if_neg (show ¬ (false = true) by decide)] at H; exact H
            clear H; have H := H1; clear H1; obtain rfl := Option.some.inj H; have p207 : 0 ≤ (x22_2 : Int) := of_decide_eq_true sm_; have q207 : x22_2 < ((rd_L3 l0 x15_1).length : Int) := of_decide_eq_true sm_; obtain ⟨ad207, e207, hx207_0⟩ := Kd.at_int HR206_0.out x22_2 p207 q207; cases e207; replace p207 := eq_true p207; replace q207 := eq_true q207
            go_wp2
            go_ret
            exact ⟨by first | rfl | (simp; done) | (simp [*]; done), by repeat (first | exact Drawn0.refl _ | apply Drawn0.step)⟩
          ·rw [if_neg c14] at H
           have c14b0 := decide_eq_false c14; clear c14; have H' := am_ H; clear H; have p207 : 0 ≤ (x22_2 : Int) := of_decide_eq_true sm_; have q207 : x22_2 < ((rd_L3 l0 x15_1).length : Int) := of_decide_eq_true sm_; obtain ⟨ad207, e207, hx207_0⟩ := Kd.at_int HR206_0.out x22_2 p207 q207; cases e207; replace p207 := eq_true p207; replace q207 := eq_true q207
           go_wp2
           go_roundg k2
           case measure => have := HK1.out; have := HK2.out; omega
           case rel => exact ⟨(wrap64 (x22_2 + 1)), rs_, H', ⟨by have := HK1.out; have := HK2.out; omega⟩, by repeat (first | exact Drawn0.refl _ | apply Drawn0.step)⟩
      ·rw [if_neg c8] at H
       have c8b0 := decide_eq_false c8; clear c8; have H' := am_ H; clear H
       go_wp2
       go_roundg k2
       case measure => have := HK1.out; have := HK2.out; omega
       case rel => exact ⟨(wrap64 (x15_1 + 1)), rs_, H', ⟨by have := HK1.out; have := HK2.out; omega⟩, by repeat (first | exact Drawn0.refl _ | apply Drawn0.step)⟩
   ·rw [if_neg c5] at H
    have c5b0 := decide_eq_false c5; clear c5; obtain rfl := Option.some.inj H
    go_wp2
    go_ret
    exact ⟨by first | rfl | (simp; done) | (simp [*]; done), by repeat (first | exact Drawn0.refl _ | apply Drawn0.step)⟩
def plan_checked.f (k : Nat) (a0_0 : Int) (a0_1 : Bool) (l0_2 : List (S54)) (a1 : Int) (a2 : Int) (a3 : Int) (l4 : List (S85)) : Option ((List (List Int)) × Int) := (plan_Stocks.f k a0_0 a0_1 l0_2 a1 a2 a3 l4).bind fun bt209 => (if bt209.2 = 0 then ((plan_ordinary.f k bt209.1 a1 a2 a0_1).bind fun t213 => (if t213 = true then (some (bt209.1, 0)) else (some (([] : List (List Int)), 141)))) else (some (([] : List (List Int)), bt209.2)))
set_option maxHeartbeats 8000000 in
set_option maxRecDepth 100000 in
theorem plan_checked.calls (k : Nat) (a0_0 : Int) (a0_1 : Bool) (A0_2 : Option Addr) (c0_2 : Nat) (l0_2 : List (S54)) (a1 : Int) (a2 : Int) (a3 : Int) (A4 : Option Addr) (c4 : Nat) (l4 : List (S85)) (r1 : List (List Int)) (r2 : Int) (w : World) (hr0_2 : Kd.C k54 w A0_2 l0_2.length l0_2) (hc0_2 : l0_2.length ≤ c0_2) (hr4 : Kd.C k85 w A4 l4.length l4) (hc4 : l4.length ≤ c4) (h : plan_checked.f k a0_0 a0_1 l0_2 a1 a2 a3 l4 = some (r1, r2)) :
  Calls Try.prog 71 #[.agg #[.int .i64 a0_0, .bool a0_1, .slice A0_2 l0_2.length c0_2], .int .i64 a1, .int .i64 a2, .int .i64 a3, .slice A4 l4.length c4] w fun e w' => ∃ v0_ : Value, e = .returned (.tuple #[v0_, .int .i64 r2]) ∧ Kd.S (Kd.slice 3 (Kd.int .i64)) 42 w' w.heap.size (fun _ => True) v0_ r1 ∧ Below w.heap.size w w' := by
 have hu24 := Try.underlying24; have HR0_2 := am_ hr0_2; have HC0_2 := am_ hc0_2; clear hr0_2 hc0_2; have HR4 := am_ hr4; have HC4 := am_ hc4; clear hr4 hc4; have HB := am_ (Below.refl w.heap.size w); have H : ((plan_Stocks.f k a0_0 a0_1 l0_2 a1 a2 a3 l4).bind fun bt209 => (if bt209.2 = 0 then ((plan_ordinary.f k bt209.1 a1 a2 a0_1).bind fun t213 => (if t213 = true then (some (bt209.1, 0)) else (some (([] : List (List Int)), 141)))) else (some (([] : List (List Int)), bt209.2)))) = some (r1, r2) := h; clear h; replace H := Option.bind_eq_some_iff.mp H; obtain ⟨⟨t209, t212⟩, A60, H⟩ := H; replace H : (if t212 = 0 then ((plan_ordinary.f k t209 a1 a2 a0_1).bind fun t213 => (if t213 = true then (some (t209, 0)) else (some (([] : List (List Int)), 141)))) else (some (([] : List (List Int)), t212))) = some (r1, r2) := H; have A6 := am_ A60; clear A60
 by_cases c7 : t212 = 0
 ·rw [if_pos c7] at H
  obtain ⟨c7b0, c7b1⟩ := eqb_ c7; clear c7; replace H := Option.bind_eq_some_iff.mp H; obtain ⟨t213, A80, H⟩ := H; replace H : (if t213 = true then (some (t209, 0)) else (some (([] : List (List Int)), 141))) = some (r1, r2) := H; have A8 := am_ A80; clear A80
  by_cases c9 : t213 = true
  ·subst c9
   have H1 : (some (t209, 0)) = some (r1, r2) := by rw [if_pos rfl] at H; exact H
   clear H; have H := H1; clear H1; simp only [Option.some.injEq, Prod.mk.injEq] at H; obtain ⟨rfl, rfl⟩ := H
   go_enter Try.func71, Try.ntmps71
   go_wp2_with (first | ((with_reducible refine gate_dst (N := 5) rfl ?_); refine bx_ 5 #[.int .i64 a0_0, .bool a0_1, .slice A0_2 l0_2.length c0_2] 24 ?_; intro gb208 hg w10 BK208 hb; have GE208 := ge_ (w := w) hg; replace HB := hst_ hb; clear hb hg; obtain ⟨hcz11_0, hcz11_1, hcz11_2, hfz11_0, hfz11_1, hfz11_2⟩ := cf3_ BK208.out) | ((with_reducible refine gate_callee (f := 49) rfl ?_); refine cl_ 20 Try.func49 (plan_Stocks.calls k a0_0 a0_1 _ _ l0_2 a1 a2 a3 _ _ l4 t209 t212 _ (cb_ HR0_2.out) HC0_2.out (cb_ HR4.out) HC4.out A6.out) ?_; rintro e w12 ⟨v210, rfl, ho0, hb⟩; refine ⟨_, rfl, ?_⟩; have HO211 := am_ (Kd.S_lower ho0 (below_size hb_)); replace BK208 := am_ (bb_ BK208.out hb); replace HB := hst_ hb; (try clear hb); (try clear hb2); (try clear hk); (try clear hi); (try clear ho0); obtain ⟨hcz13_0, hcz13_1, hcz13_2, hfz13_0, hfz13_1, hfz13_2⟩ := cf3_ BK208.out; obtain ⟨Ao14, co14, eo14⟩ := Kd.S_slice HO211.out; subst eo14) | ((with_reducible refine gate_callee (f := 86) rfl ?_); refine goesL_ (some 31) rfl rfl Try.func86 (by kernel_rfl) rfl #[.slice Ao14 t209.length co14, .int .i64 a1, .int .i64 a2, .bool a0_1] rfl mt_ ?_; (with_reducible refine (plan_ordinary.calls k _ _ t209 a1 a2 a0_1 true _ ?side1 ?side2 A8.out).mono ?_); (case side1 => repeat (first | exact (Kd.S_reads' HO211.out).2.2 | (with_reducible refine Kd.C_alloc ?_ _) | (with_reducible refine Kd.C_drewN ?_ _) | (with_reducible refine Kd.C_drew ?_))); (case side2 => exact (Kd.S_reads' HO211.out).2.1); rintro e w' ⟨rfl, ⟨nd, rfl⟩⟩; refine ⟨_, rfl, ?_⟩))
   go_ret2
   exact ⟨_, er_, by refine sq_ ?_; exact HO211.out, hb_⟩
  ·replace c9 := Bool.eq_false_iff.mpr c9
   subst c9
   have H1 : (some (([] : List (List Int)), 141)) = some (r1, r2) := by rw [if_neg (show ¬ (false = true) by decide)] at H; exact H
   clear H; have H := H1; clear H1; simp only [Option.some.injEq, Prod.mk.injEq] at H; obtain ⟨rfl, rfl⟩ := H
   go_enter Try.func71, Try.ntmps71
   go_wp2_with (first | ((with_reducible refine gate_dst (N := 5) rfl ?_); refine bx_ 5 #[.int .i64 a0_0, .bool a0_1, .slice A0_2 l0_2.length c0_2] 24 ?_; intro gb208 hg w15 BK208 hb; have GE208 := ge_ (w := w) hg; replace HB := hst_ hb; clear hb hg; obtain ⟨hcz16_0, hcz16_1, hcz16_2, hfz16_0, hfz16_1, hfz16_2⟩ := cf3_ BK208.out) | ((with_reducible refine gate_callee (f := 49) rfl ?_); refine cl_ 20 Try.func49 (plan_Stocks.calls k a0_0 a0_1 _ _ l0_2 a1 a2 a3 _ _ l4 t209 t212 _ (cb_ HR0_2.out) HC0_2.out (cb_ HR4.out) HC4.out A6.out) ?_; rintro e w17 ⟨v210, rfl, ho0, hb⟩; refine ⟨_, rfl, ?_⟩; have HO211 := am_ (Kd.S_lower ho0 (below_size hb_)); replace BK208 := am_ (bb_ BK208.out hb); replace HB := hst_ hb; (try clear hb); (try clear hb2); (try clear hk); (try clear hi); (try clear ho0); obtain ⟨hcz18_0, hcz18_1, hcz18_2, hfz18_0, hfz18_1, hfz18_2⟩ := cf3_ BK208.out; obtain ⟨Ao19, co19, eo19⟩ := Kd.S_slice HO211.out; subst eo19) | ((with_reducible refine gate_callee (f := 86) rfl ?_); refine goesL_ (some 31) rfl rfl Try.func86 (by kernel_rfl) rfl #[.slice Ao19 t209.length co19, .int .i64 a1, .int .i64 a2, .bool a0_1] rfl mt_ ?_; (with_reducible refine (plan_ordinary.calls k _ _ t209 a1 a2 a0_1 false _ ?side1 ?side2 A8.out).mono ?_); (case side1 => repeat (first | exact (Kd.S_reads' HO211.out).2.2 | (with_reducible refine Kd.C_alloc ?_ _) | (with_reducible refine Kd.C_drewN ?_ _) | (with_reducible refine Kd.C_drew ?_))); (case side2 => exact (Kd.S_reads' HO211.out).2.1); rintro e w' ⟨rfl, ⟨nd, rfl⟩⟩; refine ⟨_, rfl, ?_⟩))
   go_ret2
   exact ⟨_, er_, by first | exact Kd.S_nil _ _ _ _ _ | exact Kd.N_nil _ _ _ _ _ | exact Kd.V_nil _ _ _ _ _ | exact Kd.Q_nil _ _ _ _ _ | exact Kd.R_nil _ _ _ _ _, hb_⟩
 ·rw [if_neg c7] at H
  obtain ⟨c7b0, c7b1⟩ := neb_ c7; simp only [Option.some.injEq, Prod.mk.injEq] at H; obtain ⟨rfl, rfl⟩ := H
  go_enter Try.func71, Try.ntmps71
  go_wp2_with (first | ((with_reducible refine gate_dst (N := 5) rfl ?_); refine bx_ 5 #[.int .i64 a0_0, .bool a0_1, .slice A0_2 l0_2.length c0_2] 24 ?_; intro gb208 hg w20 BK208 hb; have GE208 := ge_ (w := w) hg; replace HB := hst_ hb; clear hb hg; obtain ⟨hcz21_0, hcz21_1, hcz21_2, hfz21_0, hfz21_1, hfz21_2⟩ := cf3_ BK208.out) | ((with_reducible refine gate_callee (f := 49) rfl ?_); refine cl_ 20 Try.func49 (plan_Stocks.calls k a0_0 a0_1 _ _ l0_2 a1 a2 a3 _ _ l4 t209 t212 _ (cb_ HR0_2.out) HC0_2.out (cb_ HR4.out) HC4.out A6.out) ?_; rintro e w22 ⟨v210, rfl, ho0, hb⟩; refine ⟨_, rfl, ?_⟩; have HO211 := am_ (Kd.S_lower ho0 (below_size hb_)); replace BK208 := am_ (bb_ BK208.out hb); replace HB := hst_ hb; (try clear hb); (try clear hb2); (try clear hk); (try clear hi); (try clear ho0)))
  go_ret2
  exact ⟨_, er_, by first | exact Kd.S_nil _ _ _ _ _ | exact Kd.N_nil _ _ _ _ _ | exact Kd.V_nil _ _ _ _ _ | exact Kd.Q_nil _ _ _ _ _ | exact Kd.R_nil _ _ _ _ _, hb_⟩
def plan_Check.f (k : Nat) (a0_0 : Int) (a0_1 : Bool) (l0_2 : List (S54)) (a1 : Int) (a2 : Int) (a3 : Int) (l4 : List (S85)) : Option (Int × Int) := (plan_checked.f k a0_0 a0_1 l0_2 a1 a2 a3 l4).bind fun bt215 => (if bt215.2 = 0 then (if 0 ≤ a3 then (if a3 < (bt215.1.length : Int) then (if 0 ≤ a2 then (if a2 < ((rd_L3 bt215.1 a3).length : Int) then (some (rd (rd_L3 bt215.1 a3) a2, 0)) else (none)) else (none)) else (none)) else (none)) else (some (0, bt215.2)))
set_option maxHeartbeats 8000000 in
set_option maxRecDepth 100000 in
theorem plan_Check.calls (k : Nat) (a0_0 : Int) (a0_1 : Bool) (A0_2 : Option Addr) (c0_2 : Nat) (l0_2 : List (S54)) (a1 : Int) (a2 : Int) (a3 : Int) (A4 : Option Addr) (c4 : Nat) (l4 : List (S85)) (r1 : Int) (r2 : Int) (w : World) (hr0_2 : Kd.C k54 w A0_2 l0_2.length l0_2) (hc0_2 : l0_2.length ≤ c0_2) (hr4 : Kd.C k85 w A4 l4.length l4) (hc4 : l4.length ≤ c4) (h : plan_Check.f k a0_0 a0_1 l0_2 a1 a2 a3 l4 = some (r1, r2)) :
  Calls Try.prog 48 #[.agg #[.int .i64 a0_0, .bool a0_1, .slice A0_2 l0_2.length c0_2], .int .i64 a1, .int .i64 a2, .int .i64 a3, .slice A4 l4.length c4] w fun e w' => e = .returned (.tuple #[.int .i64 r1, .int .i64 r2]) ∧ Below w.heap.size w w' := by
 have hu24 := Try.underlying24; have HR0_2 := am_ hr0_2; have HC0_2 := am_ hc0_2; clear hr0_2 hc0_2; have HR4 := am_ hr4; have HC4 := am_ hc4; clear hr4 hc4; have HB := am_ (Below.refl w.heap.size w); have H : ((plan_checked.f k a0_0 a0_1 l0_2 a1 a2 a3 l4).bind fun bt215 => (if bt215.2 = 0 then (if 0 ≤ a3 then (if a3 < (bt215.1.length : Int) then (if 0 ≤ a2 then (if a2 < ((rd_L3 bt215.1 a3).length : Int) then (some (rd (rd_L3 bt215.1 a3) a2, 0)) else (none)) else (none)) else (none)) else (none)) else (some (0, bt215.2)))) = some (r1, r2) := h; clear h; replace H := Option.bind_eq_some_iff.mp H; obtain ⟨⟨t215, t218⟩, A60, H⟩ := H; replace H : (if t218 = 0 then (if 0 ≤ a3 then (if a3 < (t215.length : Int) then (if 0 ≤ a2 then (if a2 < ((rd_L3 t215 a3).length : Int) then (some (rd (rd_L3 t215 a3) a2, 0)) else (none)) else (none)) else (none)) else (none)) else (some (0, t218))) = some (r1, r2) := H; have A6 := am_ A60; clear A60
 by_cases c7 : t218 = 0
 ·rw [if_pos c7] at H
  obtain ⟨c7b0, c7b1⟩ := eqb_ c7; clear c7
  replace H := ifn_ H; obtain ⟨c8, H⟩ := H
  have c8b0 := decide_eq_true c8; clear c8
  replace H := ifn_ H; obtain ⟨c9, H⟩ := H
  have c9b0 := decide_eq_true c9; clear c9
  replace H := ifn_ H; obtain ⟨c10, H⟩ := H
  have c10b0 := decide_eq_true c10; clear c10
  replace H := ifn_ H; obtain ⟨c11, H⟩ := H
  have c11b0 := decide_eq_true c11; clear c11; simp only [Option.some.injEq, Prod.mk.injEq] at H; obtain ⟨rfl, rfl⟩ := H
  go_enter Try.func48, Try.ntmps48
  go_wp2_with (first | ((with_reducible refine gate_dst (N := 5) rfl ?_); refine bx_ 5 #[.int .i64 a0_0, .bool a0_1, .slice A0_2 l0_2.length c0_2] 24 ?_; intro gb214 hg w12 BK214 hb; have GE214 := ge_ (w := w) hg; replace HB := hst_ hb; clear hb hg; obtain ⟨hcz13_0, hcz13_1, hcz13_2, hfz13_0, hfz13_1, hfz13_2⟩ := cf3_ BK214.out) | ((with_reducible refine gate_callee (f := 71) rfl ?_); refine cl_ 19 Try.func71 (plan_checked.calls k a0_0 a0_1 _ _ l0_2 a1 a2 a3 _ _ l4 t215 t218 _ (cb_ HR0_2.out) HC0_2.out (cb_ HR4.out) HC4.out A6.out) ?_; rintro e w14 ⟨v216, rfl, ho0, hb⟩; refine ⟨_, rfl, ?_⟩; have HO217 := am_ (Kd.S_lower ho0 (below_size hb_)); replace BK214 := am_ (bb_ BK214.out hb); replace HB := hst_ hb; (try clear hb); (try clear hb2); (try clear hk); (try clear hi); (try clear ho0); obtain ⟨Ao15, co15, eo15⟩ := Kd.S_slice HO217.out; subst eo15; have p219 : 0 ≤ (a3 : Int) := of_decide_eq_true sm_; have q219 : a3 < (t215.length : Int) := of_decide_eq_true sm_; obtain ⟨ad219, A219_0, c219_0, e219, hx219_0, hl219_0, hi219_0⟩ := at_L3 (Kd.S_reads' HO217.out).2.2 a3 p219 q219; cases e219; obtain ⟨ce219, hce219, hMe219, hcc219⟩ := Kd.S_get HO217.out [] a3 p219 (by first | exact q219 | exact of_decide_eq_true sm_ | (have e_ := (Kd.S_reads' HO217.out).1; omega)); obtain ⟨ve219_0, rfl, ge219_0⟩ := hMe219; have hv219_0 := hcc219 0 _ rfl; rw [Nat.add_zero, show ((Kd.slice 3 (Kd.int .i64))).sz = 1 from rfl, Nat.mul_one] at hv219_0; replace hv219_0 := Option.some.inj (hv219_0.symm.trans hx219_0); rw [hv219_0] at ge219_0; have HL219_0 := am_ (show Kd.R (Kd.int .i64) 3 _ _ _ _ (rd_L3 t215 a3) from ge219_0); clear hv219_0 ge219_0; clear hcc219 hce219; have HR219_0 := am_ hi219_0; have HC219_0 := am_ hl219_0; clear hi219_0 hl219_0; replace p219 := eq_true p219; replace q219 := eq_true q219; have p220 : 0 ≤ (a2 : Int) := of_decide_eq_true sm_; have q220 : a2 < ((rd_L3 t215 a3).length : Int) := of_decide_eq_true sm_; obtain ⟨ad220, e220, hx220_0⟩ := Kd.at_int (by repeat (first | (with_reducible exact HR219_0.out) | (with_reducible refine Kd.C_alloc ?_ _) | (with_reducible refine Kd.C_drewN ?_ _) | (with_reducible refine Kd.C_drew ?_) | exact HR219_0.out)) a2 p220 q220; cases e220; replace p220 := eq_true p220; replace q220 := eq_true q220))
  go_ret2
  exact ⟨er_, hb_⟩
 ·rw [if_neg c7] at H
  obtain ⟨c7b0, c7b1⟩ := neb_ c7; simp only [Option.some.injEq, Prod.mk.injEq] at H; obtain ⟨rfl, rfl⟩ := H
  go_enter Try.func48, Try.ntmps48
  go_wp2_with (first | ((with_reducible refine gate_dst (N := 5) rfl ?_); refine bx_ 5 #[.int .i64 a0_0, .bool a0_1, .slice A0_2 l0_2.length c0_2] 24 ?_; intro gb214 hg w16 BK214 hb; have GE214 := ge_ (w := w) hg; replace HB := hst_ hb; clear hb hg; obtain ⟨hcz17_0, hcz17_1, hcz17_2, hfz17_0, hfz17_1, hfz17_2⟩ := cf3_ BK214.out) | ((with_reducible refine gate_callee (f := 71) rfl ?_); refine cl_ 19 Try.func71 (plan_checked.calls k a0_0 a0_1 _ _ l0_2 a1 a2 a3 _ _ l4 t215 t218 _ (cb_ HR0_2.out) HC0_2.out (cb_ HR4.out) HC4.out A6.out) ?_; rintro e w18 ⟨v216, rfl, ho0, hb⟩; refine ⟨_, rfl, ?_⟩; have HO217 := am_ (Kd.S_lower ho0 (below_size hb_)); replace BK214 := am_ (bb_ BK214.out hb); replace HB := hst_ hb; (try clear hb); (try clear hb2); (try clear hk); (try clear hi); (try clear ho0)))
  go_ret2
  exact ⟨er_, hb_⟩
end Go.Proofs.Ytfhkkbpkajfdlaa.Q
end
