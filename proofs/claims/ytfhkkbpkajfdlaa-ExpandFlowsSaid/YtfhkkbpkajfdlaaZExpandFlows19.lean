/- A part of the proof: words, contracts, plain lemmas. Conditions: none. -/
import Derived.Test.YtfhkkbpkajfdlaaZExpandFlows4
import Derived.Test.YtfhkkbpkajfdlaaZExpandFlows5
import Derived.Test.YtfhkkbpkajfdlaaZExpandFlows7
import Derived.Test.YtfhkkbpkajfdlaaZExpandFlows16
import Derived.Test.YtfhkkbpkajfdlaaZExpandFlows18
section
namespace Go.Proofs.Ytfhkkbpkajfdlaa.Q
open Go.RowKit Go.Proofs.YtfhkkbpkajfdlaaW.PrintWords Go.Proofs.YtfhkkbpkajfdlaaW.PrintLast Go.Proofs.YtfhkkbpkajfdlaaW.PrintMore
set_option linter.unusedVariables false
set_option linter.unusedSimpArgs false
def plan_merged.l0 : Nat → Int → Int → Int → List (S85) → List (S85) → Int → Int → Int → Bool → List (S54) → Option ((List (S85)) × Int)
 | 0, _, _, _, _, _, _, _, _, _, _ => none
 | k + 1, x1, x2, x3, x13, x33, x34, x35, x160000, x160001, x160002 => if x35 < x34 then (if 0 ≤ x35 then (if x35 < (x33.length : Int) then ((plan_may.f x160000 x160001 x160002 x1 x2 x3 ((rd_T85 x33 x35).f0) ((rd_T85 x33 x35).f1) ((rd_T85 x33 x35).f2)).bind fun t167 => (if t167 = true then (plan_merged.l0 k x1 x2 x3 x13 x33 x34 (wrap64 (x35 + 1)) x160000 x160001 x160002) else (some (([] : List (S85)), 140)))) else (none)) else (none)) else (some (x13, 0))
def plan_merged.f (k : Nat) (a0_0 : Int) (a0_1 : Bool) (l0_2 : List (S54)) (a1 : Int) (a2 : Int) (a3 : Int) (l4 : List (S85)) : Option ((List (S85)) × Int) := (span_Asked.f k a0_0 a0_1 l0_2 a1 a2 a3).bind fun t160 => (if t160 = 0 then ((table_Moves.f k l4).bind fun bt161 => (if bt161.2 = 0 then (plan_merged.l0 k a1 a2 a3 bt161.1 bt161.1 (bt161.1.length : Int) 0 a0_0 a0_1 l0_2) else (some (([] : List (S85)), bt161.2)))) else (some (([] : List (S85)), t160)))
set_option maxHeartbeats 8000000 in
set_option maxRecDepth 100000 in
theorem plan_merged.calls (k : Nat) (a0_0 : Int) (a0_1 : Bool) (A0_2 : Option Addr) (c0_2 : Nat) (l0_2 : List (S54)) (a1 : Int) (a2 : Int) (a3 : Int) (A4 : Option Addr) (c4 : Nat) (l4 : List (S85)) (r1 : List (S85)) (r2 : Int) (w : World) (hr0_2 : Kd.C k54 w A0_2 l0_2.length l0_2) (hc0_2 : l0_2.length ≤ c0_2) (hr4 : Kd.C k85 w A4 l4.length l4) (hc4 : l4.length ≤ c4) (h : plan_merged.f k a0_0 a0_1 l0_2 a1 a2 a3 l4 = some (r1, r2)) :
  Calls Try.prog 72 #[.agg #[.int .i64 a0_0, .bool a0_1, .slice A0_2 l0_2.length c0_2], .int .i64 a1, .int .i64 a2, .int .i64 a3, .slice A4 l4.length c4] w fun e w' => ∃ v0_ : Value, e = .returned (.tuple #[v0_, .int .i64 r2]) ∧ Kd.R k85 85 w' w.heap.size (fun _ => True) v0_ r1 ∧ Below w.heap.size w w' := by
 have hu24 := Try.underlying24; have hu85 := Try.underlying85; have HR0_2 := am_ hr0_2; have HC0_2 := am_ hc0_2; clear hr0_2 hc0_2; have HR4 := am_ hr4; have HC4 := am_ hc4; clear hr4 hc4; have HB := am_ (Below.refl w.heap.size w); have H : ((span_Asked.f k a0_0 a0_1 l0_2 a1 a2 a3).bind fun t160 => (if t160 = 0 then ((table_Moves.f k l4).bind fun bt161 => (if bt161.2 = 0 then (plan_merged.l0 k a1 a2 a3 bt161.1 bt161.1 (bt161.1.length : Int) 0 a0_0 a0_1 l0_2) else (some (([] : List (S85)), bt161.2)))) else (some (([] : List (S85)), t160)))) = some (r1, r2) := h; clear h; replace H := Option.bind_eq_some_iff.mp H; obtain ⟨t160, A60, H⟩ := H; replace H : (if t160 = 0 then ((table_Moves.f k l4).bind fun bt161 => (if bt161.2 = 0 then (plan_merged.l0 k a1 a2 a3 bt161.1 bt161.1 (bt161.1.length : Int) 0 a0_0 a0_1 l0_2) else (some (([] : List (S85)), bt161.2)))) else (some (([] : List (S85)), t160))) = some (r1, r2) := H; have A6 := am_ A60; clear A60
 by_cases c7 : t160 = 0
 ·rw [if_pos c7] at H
  obtain ⟨c7b0, c7b1⟩ := eqb_ c7; clear c7; replace H := Option.bind_eq_some_iff.mp H; obtain ⟨⟨t161, t162⟩, A80, H⟩ := H; replace H : (if t162 = 0 then (plan_merged.l0 k a1 a2 a3 t161 t161 (t161.length : Int) 0 a0_0 a0_1 l0_2) else (some (([] : List (S85)), t162))) = some (r1, r2) := H; have A8 := am_ A80; clear A80
  by_cases c9 : t162 = 0
  ·rw [if_pos c9] at H
   obtain ⟨c9b0, c9b1⟩ := eqb_ c9; clear c9; have H' := am_ H; clear H
   go_enter Try.func72, Try.ntmps72
   go_wp2_with (first | ((with_reducible refine gate_dst (N := 5) rfl ?_); refine bx_ 5 #[.int .i64 a0_0, .bool a0_1, .slice A0_2 l0_2.length c0_2] 24 ?_; intro gb159 hg w10 BK159 hb; have GE159 := ge_ (w := w) hg; replace HB := hst_ hb; clear hb hg; obtain ⟨hcz11_0, hcz11_1, hcz11_2, hfz11_0, hfz11_1, hfz11_2⟩ := cf3_ BK159.out) | ((with_reducible refine gate_callee (f := 58) rfl ?_); refine cl_ 21 Try.func58 (span_Asked.calls k a0_0 a0_1 _ _ l0_2 a1 a2 a3 t160 _ (cb_ HR0_2.out) HC0_2.out A6.out) ?_; rintro e w12 ⟨rfl, hb⟩; refine ⟨_, rfl, ?_⟩; replace BK159 := am_ (bb_ BK159.out hb); replace HB := hst_ hb; (try clear hb); (try clear hb2); (try clear hk); (try clear hi)) | ((with_reducible refine gate_callee (f := 50) rfl ?_); refine cl_ 27 Try.func50 (table_Moves.calls k _ _ l4 t161 t162 _ (cb_ HR4.out) HC4.out A8.out) ?_; rintro e w13 ⟨v163, rfl, ho0, hb⟩; refine ⟨_, rfl, ?_⟩; have HO164 := am_ (Kd.R_lower ho0 (below_size hb_)); replace BK159 := am_ (bb_ BK159.out hb); replace HB := hst_ hb; (try clear hb); (try clear hb2); (try clear hk); (try clear hi); (try clear ho0); obtain ⟨Ao14, co14, eo14⟩ := Kd.R_slice HO164.out; subst eo14))
   go_loopg [35] k (fun kq v35 w' => ∃ (x35_1 : Int), v35 = .int .i64 x35_1 ∧ Aside0 (plan_merged.l0 kq a1 a2 a3 t161 t161 (t161.length : Int) x35_1 a0_0 a0_1 l0_2 = some (r1, r2)) ∧ Aside0 (kq ≤ k) ∧ Aside0 (Kd.R k85 85 w' w.heap.size (fun _ => True) (.slice Ao14 t161.length co14) t161) ∧ Aside0 (Kd.R k85 85 w' w.heap.size (fun _ => True) (.slice Ao14 t161.length co14) t161) ∧ Aside0 (w'.heap[gb159]? = some (.cells #[.int .i64 a0_0, .bool a0_1, (.slice A0_2 l0_2.length c0_2)] 24 (0, 0))) ∧ Aside0 (Below w.heap.size w w'))
   case atStart => exact ⟨(0), rs_, H', ⟨Nat.le_refl _⟩, ⟨rq_ HO164.out⟩, ⟨rq_ HO164.out⟩, ⟨bq_ BK159.out⟩, ⟨hb_⟩⟩
   case round =>
    clear H'
    try clear p2
    try clear c4
    try clear c5
    try clear c7
    try clear c7b0
    try clear c7b1
    try clear c9
    try clear c9b0
    try clear c9b1
    try clear hcz11_0 hcz11_1 hcz11_2 hfz11_0 hfz11_1 hfz11_2
    obtain ⟨x35_1, rfl, HA, HK1, HO_13, HO_33, BK159, HB⟩ := hrel
    cases gk with
    | zero => exact absurd HA.out (by simp [plan_merged.l0])
    | succ k1 =>
     have H := HA.out; clear HA; simp only [plan_merged.l0] at H
     by_cases c15 : x35_1 < (t161.length : Int)
     ·rw [if_pos c15] at H
      have c15b0 := decide_eq_true c15; clear c15
      replace H := ifn_ H; obtain ⟨c16, H⟩ := H
      have c16b0 := decide_eq_true c16; clear c16
      replace H := ifn_ H; obtain ⟨c17, H⟩ := H
      have c17b0 := decide_eq_true c17; clear c17; replace H := Option.bind_eq_some_iff.mp H; obtain ⟨t167, A180, H⟩ := H; replace H : (if t167 = true then (plan_merged.l0 k1 a1 a2 a3 t161 t161 (t161.length : Int) (wrap64 (x35_1 + 1)) a0_0 a0_1 l0_2) else (some (([] : List (S85)), 140))) = some (r1, r2) := H; have A18 := am_ A180; clear A180
      by_cases c19 : t167 = true
      ·subst c19
       have H1 : (plan_merged.l0 k1 a1 a2 a3 t161 t161 (t161.length : Int) (wrap64 (x35_1 + 1)) a0_0 a0_1 l0_2) = some (r1, r2) := by rw [if_pos rfl] at H; exact H
       clear H; have H := H1; clear H1; have H' := am_ H; clear H; have p165 : 0 ≤ (x35_1 : Int) := of_decide_eq_true sm_; have q165 : x35_1 < (t161.length : Int) := of_decide_eq_true sm_; obtain ⟨ad165, e165, hx165_0, hx165_1, hx165_2⟩ := at_T85 (Kd.R_reads' HO_33.out).2.2 x35_1 p165 q165; cases e165; replace p165 := eq_true p165; replace q165 := eq_true q165
       go_wp2_with (first | ((with_reducible refine gate_dst (N := 16) rfl ?_); refine bx_ 16 #[.int .i64 0, .int .i64 0, .int .i64 0] 85 ?_; intro gb166 hg w20 BK166 hb; replace HO_13 := am_ (Kd.R_below (Kd.R_elderB (rq_ HO_13.out) gb166 (Nat.le_of_eq hg.symm)) hb); replace HO_33 := am_ (Kd.R_below (Kd.R_elderB (rq_ HO_33.out) gb166 (Nat.le_of_eq hg.symm)) hb); have GE166 := ge_ (w := w) hg; replace HB := hst_ hb; have NB159_166 := am_ (nl_ BK159.out hg); have NB166_159 := am_ (ng_ BK159.out hg); replace BK159 := am_ (bb_ BK159.out hb); clear hb hg; have hnb21 := NB166_159.out; have hnc21 := NB159_166.out; obtain ⟨hcz22_0, hcz22_1, hcz22_2, hfz22_0, hfz22_1, hfz22_2⟩ := cf3_ BK166.out; obtain ⟨hcz23_0, hcz23_1, hcz23_2, hfz23_0, hfz23_1, hfz23_2⟩ := cf3_ BK159.out) | ((with_reducible refine gate_callee (f := 87) rfl ?_); refine cl_ 44 Try.func87 (plan_may.calls a0_0 a0_1 _ _ l0_2 a1 a2 a3 ((rd_T85 t161 x35_1).f0) ((rd_T85 t161 x35_1).f1) ((rd_T85 t161 x35_1).f2) true _ (Kd.C_below HR0_2.out hb_) HC0_2.out A18.out) ?_; rintro e w24 ⟨rfl, hb⟩; refine ⟨_, rfl, ?_⟩; replace HO_13 := am_ (Kd.R_below q17_ hb); replace HO_33 := am_ (Kd.R_below q18_ hb); replace BK159 := am_ (blk_below (g := gb159) (o := .cells #[.int .i64 a0_0, .bool a0_1, .slice A0_2 l0_2.length c0_2] 24 (0, 0)) (by refine bq_ ?_; refine blk_far ?_ NB159_166.out _; refine bq_ ?_; refine blk_far ?_ NB159_166.out _; refine bq_ ?_; refine blk_far ?_ NB159_166.out _; refine bq_ ?_; exact BK159.out) hb); replace BK166 := am_ (blk_below (g := gb166) (o := .cells #[.int .i64 ((rd_T85 t161 x35_1).f0), .int .i64 ((rd_T85 t161 x35_1).f1), .int .i64 ((rd_T85 t161 x35_1).f2)] 85 (0, 0)) q21_ hb); replace HB := hst_ hb; (try clear hb); (try clear hb2); (try clear hk); (try clear hi)))
       go_roundg k1
       case measure => have := HK1.out; omega
       case rel => exact ⟨(wrap64 (x35_1 + 1)), rs_, H', ⟨by have := HK1.out; omega⟩, ⟨by refine rq_ ?_; exact Kd.R_mono HO_13.out (fun _ hk => trivial)⟩, ⟨by refine rq_ ?_; exact Kd.R_mono HO_33.out (fun _ hk => trivial)⟩, ⟨bq_ BK159.out⟩, ⟨hb_⟩⟩
      ·replace c19 := Bool.eq_false_iff.mpr c19
       subst c19
       have H1 : (some (([] : List (S85)), 140)) = some (r1, r2) := by rw [if_neg (show ¬ (false = true) by decide)] at H; exact H
       clear H; have H := H1; clear H1; simp only [Option.some.injEq, Prod.mk.injEq] at H; obtain ⟨rfl, rfl⟩ := H; have p165 : 0 ≤ (x35_1 : Int) := of_decide_eq_true sm_; have q165 : x35_1 < (t161.length : Int) := of_decide_eq_true sm_; obtain ⟨ad165, e165, hx165_0, hx165_1, hx165_2⟩ := at_T85 (Kd.R_reads' HO_33.out).2.2 x35_1 p165 q165; cases e165; replace p165 := eq_true p165; replace q165 := eq_true q165
       go_wp2_with (first | ((with_reducible refine gate_dst (N := 16) rfl ?_); refine bx_ 16 #[.int .i64 0, .int .i64 0, .int .i64 0] 85 ?_; intro gb166 hg w25 BK166 hb; replace HO_13 := am_ (Kd.R_below (Kd.R_elderB (rq_ HO_13.out) gb166 (Nat.le_of_eq hg.symm)) hb); replace HO_33 := am_ (Kd.R_below (Kd.R_elderB (rq_ HO_33.out) gb166 (Nat.le_of_eq hg.symm)) hb); have GE166 := ge_ (w := w) hg; replace HB := hst_ hb; have NB159_166 := am_ (nl_ BK159.out hg); have NB166_159 := am_ (ng_ BK159.out hg); replace BK159 := am_ (bb_ BK159.out hb); clear hb hg; have hnb26 := NB166_159.out; have hnc26 := NB159_166.out; obtain ⟨hcz27_0, hcz27_1, hcz27_2, hfz27_0, hfz27_1, hfz27_2⟩ := cf3_ BK166.out; obtain ⟨hcz28_0, hcz28_1, hcz28_2, hfz28_0, hfz28_1, hfz28_2⟩ := cf3_ BK159.out) | ((with_reducible refine gate_callee (f := 87) rfl ?_); refine cl_ 44 Try.func87 (plan_may.calls a0_0 a0_1 _ _ l0_2 a1 a2 a3 ((rd_T85 t161 x35_1).f0) ((rd_T85 t161 x35_1).f1) ((rd_T85 t161 x35_1).f2) false _ (Kd.C_below HR0_2.out hb_) HC0_2.out A18.out) ?_; rintro e w29 ⟨rfl, hb⟩; refine ⟨_, rfl, ?_⟩; replace HO_13 := am_ (Kd.R_below q17_ hb); replace HO_33 := am_ (Kd.R_below q18_ hb); replace BK159 := am_ (blk_below (g := gb159) (o := .cells #[.int .i64 a0_0, .bool a0_1, .slice A0_2 l0_2.length c0_2] 24 (0, 0)) (by refine bq_ ?_; refine blk_far ?_ NB159_166.out _; refine bq_ ?_; refine blk_far ?_ NB159_166.out _; refine bq_ ?_; refine blk_far ?_ NB159_166.out _; refine bq_ ?_; exact BK159.out) hb); replace BK166 := am_ (blk_below (g := gb166) (o := .cells #[.int .i64 ((rd_T85 t161 x35_1).f0), .int .i64 ((rd_T85 t161 x35_1).f1), .int .i64 ((rd_T85 t161 x35_1).f2)] 85 (0, 0)) q21_ hb); replace HB := hst_ hb; (try clear hb); (try clear hb2); (try clear hk); (try clear hi)))
       go_ret2
       exact ⟨_, er_, ni_, hb_⟩
     ·rw [if_neg c15] at H
      have c15b0 := decide_eq_false c15; clear c15; simp only [Option.some.injEq, Prod.mk.injEq] at H; obtain ⟨rfl, rfl⟩ := H
      go_wp2
      go_ret2
      exact ⟨_, er_, by refine rq_ ?_; exact HO_13.out, hb_⟩
  ·rw [if_neg c9] at H
   obtain ⟨c9b0, c9b1⟩ := neb_ c9; simp only [Option.some.injEq, Prod.mk.injEq] at H; obtain ⟨rfl, rfl⟩ := H
   go_enter Try.func72, Try.ntmps72
   go_wp2_with (first | ((with_reducible refine gate_dst (N := 5) rfl ?_); refine bx_ 5 #[.int .i64 a0_0, .bool a0_1, .slice A0_2 l0_2.length c0_2] 24 ?_; intro gb159 hg w30 BK159 hb; have GE159 := ge_ (w := w) hg; replace HB := hst_ hb; clear hb hg; obtain ⟨hcz31_0, hcz31_1, hcz31_2, hfz31_0, hfz31_1, hfz31_2⟩ := cf3_ BK159.out) | ((with_reducible refine gate_callee (f := 58) rfl ?_); refine cl_ 21 Try.func58 (span_Asked.calls k a0_0 a0_1 _ _ l0_2 a1 a2 a3 t160 _ (cb_ HR0_2.out) HC0_2.out A6.out) ?_; rintro e w32 ⟨rfl, hb⟩; refine ⟨_, rfl, ?_⟩; replace BK159 := am_ (bb_ BK159.out hb); replace HB := hst_ hb; (try clear hb); (try clear hb2); (try clear hk); (try clear hi)) | ((with_reducible refine gate_callee (f := 50) rfl ?_); refine cl_ 27 Try.func50 (table_Moves.calls k _ _ l4 t161 t162 _ (cb_ HR4.out) HC4.out A8.out) ?_; rintro e w33 ⟨v163, rfl, ho0, hb⟩; refine ⟨_, rfl, ?_⟩; have HO164 := am_ (Kd.R_lower ho0 (below_size hb_)); replace BK159 := am_ (bb_ BK159.out hb); replace HB := hst_ hb; (try clear hb); (try clear hb2); (try clear hk); (try clear hi); (try clear ho0)))
   go_ret2
   exact ⟨_, er_, ni_, hb_⟩
 ·rw [if_neg c7] at H
  obtain ⟨c7b0, c7b1⟩ := neb_ c7; simp only [Option.some.injEq, Prod.mk.injEq] at H; obtain ⟨rfl, rfl⟩ := H
  go_enter Try.func72, Try.ntmps72
  go_wp2_with (first | ((with_reducible refine gate_dst (N := 5) rfl ?_); refine bx_ 5 #[.int .i64 a0_0, .bool a0_1, .slice A0_2 l0_2.length c0_2] 24 ?_; intro gb159 hg w34 BK159 hb; have GE159 := ge_ (w := w) hg; replace HB := hst_ hb; clear hb hg; obtain ⟨hcz35_0, hcz35_1, hcz35_2, hfz35_0, hfz35_1, hfz35_2⟩ := cf3_ BK159.out) | ((with_reducible refine gate_callee (f := 58) rfl ?_); refine cl_ 21 Try.func58 (span_Asked.calls k a0_0 a0_1 _ _ l0_2 a1 a2 a3 t160 _ (cb_ HR0_2.out) HC0_2.out A6.out) ?_; rintro e w36 ⟨rfl, hb⟩; refine ⟨_, rfl, ?_⟩; replace BK159 := am_ (bb_ BK159.out hb); replace HB := hst_ hb; (try clear hb); (try clear hb2); (try clear hk); (try clear hi)))
  go_ret2
  exact ⟨_, er_, ni_, hb_⟩
end Go.Proofs.Ytfhkkbpkajfdlaa.Q
end
