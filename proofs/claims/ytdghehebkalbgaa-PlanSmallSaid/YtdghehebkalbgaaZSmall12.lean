/- A part of the proof: words, contracts, plain lemmas. Conditions: none. -/
import Derived.Test.YtdghehebkalbgaaZSmall4
import Derived.Test.YtdghehebkalbgaaZSmall9
import Derived.Test.YtdghehebkalbgaaZSmall10
import Derived.Test.YtdghehebkalbgaaZSmall11
section
namespace Go.Proofs.Ytdghehebkalbgaa.Q
open Go.RowKit Go.Proofs.YtdghehebkalbgaaW.PrintWords Go.Proofs.YtdghehebkalbgaaW.PrintLast Go.Proofs.YtdghehebkalbgaaW.PrintMore
attribute [local go_sem] max2_int min2_int max_two min_two min_four
set_option linter.unusedVariables false
set_option linter.unusedSimpArgs false
def plan_merged.l0 : Nat → Int → Int → Int → List (S45) → List (S45) → Int → Int → Int → Bool → List (S47) → Option ((List (S45)) × Int)
 | 0, _, _, _, _, _, _, _, _, _, _ => none
 | k + 1, x1, x2, x3, x13, x33, x34, x35, x154000, x154001, x154002 => if x35 < x34 then (if 0 ≤ x35 then (if x35 < (x33.length : Int) then ((plan_may.f x154000 x154001 x154002 x1 x2 x3 ((rd_T45 x33 x35).f0) ((rd_T45 x33 x35).f1) ((rd_T45 x33 x35).f2)).bind fun t161 => (if t161 = true then (plan_merged.l0 k x1 x2 x3 x13 x33 x34 (wrap64 (x35 + 1)) x154000 x154001 x154002) else (some (([] : List (S45)), 140)))) else (none)) else (none)) else (some (x13, 0))
def plan_merged.f (k : Nat) (a0_0 : Int) (a0_1 : Bool) (l0_2 : List (S47)) (a1 : Int) (a2 : Int) (a3 : Int) (l4 : List (S45)) : Option ((List (S45)) × Int) := (span_Asked.f k a0_0 a0_1 l0_2 a1 a2 a3).bind fun t154 => (if t154 = 0 then ((table_Moves.f k l4).bind fun bt155 => (if bt155.2 = 0 then (plan_merged.l0 k a1 a2 a3 bt155.1 bt155.1 (bt155.1.length : Int) 0 a0_0 a0_1 l0_2) else (some (([] : List (S45)), bt155.2)))) else (some (([] : List (S45)), t154)))
theorem plan_merged.mono_l : ∀ k, (∀ y0 y1 y2 y3 y4 y5 y6 y7 y8 y9, LeO (plan_merged.l0 k y0 y1 y2 y3 y4 y5 y6 y7 y8 y9) (plan_merged.l0 (k + 1) y0 y1 y2 y3 y4 y5 y6 y7 y8 y9))
 | 0 => fun _ _ _ _ _ _ _ _ _ _ r h => by simp [plan_merged.l0] at h
 | k + 1 => by
  have ih0 := plan_merged.mono_l k
  ·intro y0 y1 y2 y3 y4 y5 y6 y7 y8 y9
   unfold plan_merged.l0
   repeat' first
   | (with_reducible exact ih0 _ _ _ _ _ _ _ _ _ _)
   | (with_reducible exact span_Asked.mono _ _ _ _ _ _ _)
   | (with_reducible exact table_Moves.mono _ _)
   | (with_reducible exact LeO.refl _)
   | (with_reducible exact LeO.none _)
   | (with_reducible refine LeO.ite ?_ ?_)
   | (with_reducible refine LeO.bind ?_ (fun _ => ?_))
   | exact ih0 _ _ _ _ _ _ _ _ _ _
   | exact span_Asked.mono _ _ _ _ _ _ _
   | exact table_Moves.mono _ _
   | exact LeO.none _
   | refine LeO.ite ?_ ?_
   | refine LeO.bind ?_ (fun _ => ?_)
theorem plan_merged.mono : ∀ a0 a1 a2 a3 a4 a5 a6 k, LeO (plan_merged.f k a0 a1 a2 a3 a4 a5 a6) (plan_merged.f (k + 1) a0 a1 a2 a3 a4 a5 a6) := by
 intro a0 a1 a2 a3 a4 a5 a6 k; have ih0 := plan_merged.mono_l k
 unfold plan_merged.f
 repeat' first
   | (with_reducible exact ih0 _ _ _ _ _ _ _ _ _ _)
   | (with_reducible exact span_Asked.mono _ _ _ _ _ _ _)
   | (with_reducible exact table_Moves.mono _ _)
   | (with_reducible exact LeO.refl _)
   | (with_reducible exact LeO.none _)
   | (with_reducible refine LeO.ite ?_ ?_)
   | (with_reducible refine LeO.bind ?_ (fun _ => ?_))
   | exact ih0 _ _ _ _ _ _ _ _ _ _
   | exact span_Asked.mono _ _ _ _ _ _ _
   | exact table_Moves.mono _ _
   | exact LeO.none _
   | refine LeO.ite ?_ ?_
   | refine LeO.bind ?_ (fun _ => ?_)
set_option maxHeartbeats 8000000 in
set_option maxRecDepth 100000 in
theorem plan_merged.calls (k : Nat) (a0_0 : Int) (a0_1 : Bool) (A0_2 : Option Addr) (c0_2 : Nat) (l0_2 : List (S47)) (a1 : Int) (a2 : Int) (a3 : Int) (A4 : Option Addr) (c4 : Nat) (l4 : List (S45)) (r1 : List (S45)) (r2 : Int) (w : World) (hr0_2 : Kd.C k47 w A0_2 l0_2.length l0_2) (hc0_2 : l0_2.length ≤ c0_2) (hr4 : Kd.C k45 w A4 l4.length l4) (hc4 : l4.length ≤ c4) (h : plan_merged.f k a0_0 a0_1 l0_2 a1 a2 a3 l4 = some (r1, r2)) :
  Calls Try.prog 24 #[.agg #[.int .i64 a0_0, .bool a0_1, .slice A0_2 l0_2.length c0_2], .int .i64 a1, .int .i64 a2, .int .i64 a3, .slice A4 l4.length c4] w fun e w' => ∃ v0_ : Value, e = .returned (.tuple #[v0_, .int .i64 r2]) ∧ Kd.R k45 45 w' w.heap.size (fun _ => True) v0_ r1 ∧ Below w.heap.size w w' := by
 have hu24 := Try.underlying24; have hu45 := Try.underlying45; have HR0_2 := am_ hr0_2; have HC0_2 := am_ hc0_2; clear hr0_2 hc0_2; have HR4 := am_ hr4; have HC4 := am_ hc4; clear hr4 hc4; have HB := am_ (Below.refl w.heap.size w); have H : ((span_Asked.f k a0_0 a0_1 l0_2 a1 a2 a3).bind fun t154 => (if t154 = 0 then ((table_Moves.f k l4).bind fun bt155 => (if bt155.2 = 0 then (plan_merged.l0 k a1 a2 a3 bt155.1 bt155.1 (bt155.1.length : Int) 0 a0_0 a0_1 l0_2) else (some (([] : List (S45)), bt155.2)))) else (some (([] : List (S45)), t154)))) = some (r1, r2) := h; clear h; replace H := Option.bind_eq_some_iff.mp H; obtain ⟨t154, A60, H⟩ := H; replace H : (if t154 = 0 then ((table_Moves.f k l4).bind fun bt155 => (if bt155.2 = 0 then (plan_merged.l0 k a1 a2 a3 bt155.1 bt155.1 (bt155.1.length : Int) 0 a0_0 a0_1 l0_2) else (some (([] : List (S45)), bt155.2)))) else (some (([] : List (S45)), t154))) = some (r1, r2) := H; have A6 := am_ A60; clear A60
 by_cases c7 : t154 = 0
 ·rw [if_pos c7] at H
  have c7b0 : (t154 == 0) = true := beq_iff_eq.mpr c7; have c7b1 : (t154 != 0) = false := bne_eq_false_iff_eq.mpr c7; clear c7; replace H := Option.bind_eq_some_iff.mp H; obtain ⟨⟨t155, t156⟩, A80, H⟩ := H; replace H : (if t156 = 0 then (plan_merged.l0 k a1 a2 a3 t155 t155 (t155.length : Int) 0 a0_0 a0_1 l0_2) else (some (([] : List (S45)), t156))) = some (r1, r2) := H; have A8 := am_ A80; clear A80
  by_cases c9 : t156 = 0
  ·rw [if_pos c9] at H
   have c9b0 : (t156 == 0) = true := beq_iff_eq.mpr c9; have c9b1 : (t156 != 0) = false := bne_eq_false_iff_eq.mpr c9; clear c9; have H' := am_ H; clear H
   go_enter Try.func24, Try.ntmps24
   go_wp2_with (first | ((with_reducible refine gate_dst (N := 5) rfl ?_); refine box_event ?hg (N := 5) ?hd (cs := #[.int .i64 a0_0, .bool a0_1, .slice A0_2 l0_2.length c0_2]) (t := 24) ?hr ?_; (case hd => rfl); (case hg => rfl); (case hr => first | (go_simp; done) | (go_simp; rfl)); intro gb153 hg w10 hbox hb; have BK153 := am_ (hbox); have GE153 := am_ ((by rw [hg]; exact (below_size hb_) : w.heap.size ≤ gb153)); replace HB := am_ (below_step hb_ hb); clear hb hbox hg; have hcz11_0 : w10.cell? ⟨gb153, 0, none⟩ = some (.int .i64 a0_0) := (blk_cell BK153.out 0).trans rfl; have hcz11_1 : w10.cell? ⟨gb153, 1, none⟩ = some (.bool a0_1) := (blk_cell BK153.out 1).trans rfl; have hcz11_2 : w10.cell? ⟨gb153, 2, none⟩ = some (.slice A0_2 l0_2.length c0_2) := (blk_cell BK153.out 2).trans rfl; have hfz11_0 := blk_frozen BK153.out 0; have hfz11_1 := blk_frozen BK153.out 1; have hfz11_2 := blk_frozen BK153.out 2) | ((with_reducible refine gate_callee (f := 32) rfl ?_); refine goesL_ (some 21) rfl rfl Try.func32 (by kernel_rfl) rfl #[.agg #[.int .i64 a0_0, .bool a0_1, .slice A0_2 l0_2.length c0_2], .int .i64 a1, .int .i64 a2, .int .i64 a3] rfl mt_ ?_; (with_reducible refine (span_Asked.calls k a0_0 a0_1 _ _ l0_2 a1 a2 a3 t154 _ ?side1 ?side2 A6.out).mono ?_); (case side1 => repeat (first | exact (Kd.C_below HR0_2.out HB.out) | (with_reducible refine Kd.C_alloc ?_ _) | (with_reducible refine Kd.C_drewN ?_ _) | (with_reducible refine Kd.C_drew ?_))); (case side2 => exact HC0_2.out); rintro e w12 ⟨rfl, hb⟩; refine ⟨_, rfl, ?_⟩; replace BK153 := am_ (blk_below (g := gb153) (o := .cells #[.int .i64 a0_0, .bool a0_1, .slice A0_2 l0_2.length c0_2] 24 (0, 0)) (bq_ BK153.out) hb); replace HB := am_ (below_step hb_ hb); (try clear hb); (try clear hb2); (try clear hk); (try clear hi)) | ((with_reducible refine gate_callee (f := 33) rfl ?_); refine goesL_ (some 27) rfl rfl Try.func33 (by kernel_rfl) rfl #[.slice A4 l4.length c4] rfl mt_ ?_; (with_reducible refine (table_Moves.calls k _ _ l4 t155 t156 _ ?side1 ?side2 A8.out).mono ?_); (case side1 => repeat (first | exact (Kd.C_below HR4.out HB.out) | (with_reducible refine Kd.C_alloc ?_ _) | (with_reducible refine Kd.C_drewN ?_ _) | (with_reducible refine Kd.C_drew ?_))); (case side2 => exact HC4.out); rintro e w13 ⟨v157, rfl, ho0, hb⟩; refine ⟨_, rfl, ?_⟩; have HO158 := am_ (Kd.R_lower ho0 (below_size hb_)); replace BK153 := am_ (blk_below (g := gb153) (o := .cells #[.int .i64 a0_0, .bool a0_1, .slice A0_2 l0_2.length c0_2] 24 (0, 0)) (bq_ BK153.out) hb); replace HB := am_ (below_step hb_ hb); (try clear hb); (try clear hb2); (try clear hk); (try clear hi); (try clear ho0); obtain ⟨Ao14, co14, eo14⟩ := Kd.R_slice HO158.out; subst eo14))
   go_loopg [35] k (fun kq v35 w' => ∃ (x35_1 : Int), v35 = .int .i64 x35_1 ∧ Aside0 (plan_merged.l0 kq a1 a2 a3 t155 t155 (t155.length : Int) x35_1 a0_0 a0_1 l0_2 = some (r1, r2)) ∧ Aside0 (kq ≤ k) ∧ Aside0 (Kd.R k45 45 w' w.heap.size (fun _ => True) (.slice Ao14 t155.length co14) t155) ∧ Aside0 (Kd.R k45 45 w' w.heap.size (fun _ => True) (.slice Ao14 t155.length co14) t155) ∧ Aside0 (w'.heap[gb153]? = some (.cells #[.int .i64 a0_0, .bool a0_1, (.slice A0_2 l0_2.length c0_2)] 24 (0, 0))) ∧ Aside0 (Below w.heap.size w w'))
   case atStart => exact ⟨(0), rs_, H', ⟨Nat.le_refl _⟩, ⟨by refine rq_ ?_; exact HO158.out⟩, ⟨by refine rq_ ?_; exact HO158.out⟩, ⟨by refine bq_ ?_; exact BK153.out⟩, ⟨by repeat (first | (with_reducible first | exact HB.out | apply below_alloc | apply pw_below_drewN | apply below_drew1 | refine below_set ?_ GE153.out) | exact HB.out)⟩⟩
   case round =>
    clear H'
    try clear c2
    try clear p2
    try clear c3
    try clear c4
    try clear c7
    try clear c7b0
    try clear c7b1
    try clear c9
    try clear c9b0
    try clear c9b1
    try clear hcz11_0
    try clear hcz11_1
    try clear hcz11_2
    try clear hfz11_0
    try clear hfz11_1
    try clear hfz11_2
    obtain ⟨x35_1, rfl, HA, HK1, HO_13, HO_33, BK153, HB⟩ := hrel
    cases gk with
    | zero => exact absurd HA.out (by simp [plan_merged.l0])
    | succ k1 =>
     have H := HA.out; clear HA; simp only [plan_merged.l0] at H
     by_cases c15 : x35_1 < (t155.length : Int)
     ·rw [if_pos c15] at H
      have c15b0 : decide (x35_1 < (t155.length : Int)) = true := decide_eq_true c15; clear c15
      by_cases c16 : 0 ≤ x35_1
      ·rw [if_pos c16] at H
       have c16b0 : decide (0 ≤ x35_1) = true := decide_eq_true c16; clear c16
       by_cases c17 : x35_1 < (t155.length : Int)
       ·rw [if_pos c17] at H
        have c17b0 : decide (x35_1 < (t155.length : Int)) = true := decide_eq_true c17; clear c17; replace H := Option.bind_eq_some_iff.mp H; obtain ⟨t161, A180, H⟩ := H; replace H : (if t161 = true then (plan_merged.l0 k1 a1 a2 a3 t155 t155 (t155.length : Int) (wrap64 (x35_1 + 1)) a0_0 a0_1 l0_2) else (some (([] : List (S45)), 140))) = some (r1, r2) := H; have A18 := am_ A180; clear A180
        by_cases c19 : t161 = true
        ·subst c19
         have H1 : (plan_merged.l0 k1 a1 a2 a3 t155 t155 (t155.length : Int) (wrap64 (x35_1 + 1)) a0_0 a0_1 l0_2) = some (r1, r2) := by rw [if_pos rfl] at H; exact H
         clear H; have H := H1; clear H1; have H' := am_ H; clear H; have p159 : 0 ≤ (x35_1 : Int) := of_decide_eq_true sm_; have q159 : x35_1 < (t155.length : Int) := of_decide_eq_true sm_; obtain ⟨ad159, e159, hx159_0, hx159_1, hx159_2⟩ := at_T45 (Kd.R_reads' HO_33.out).2.2 x35_1 p159 q159; cases e159; replace p159 := eq_true p159; replace q159 := eq_true q159
         go_wp2_with (first | ((with_reducible refine gate_dst (N := 16) rfl ?_); refine box_event ?hg (N := 16) ?hd (cs := #[.int .i64 0, .int .i64 0, .int .i64 0]) (t := 45) ?hr ?_; (case hd => rfl); (case hg => rfl); (case hr => first | (go_simp; done) | (go_simp; rfl)); intro gb160 hg w20 hbox hb; replace HO_13 := am_ (Kd.R_below (Kd.R_elderB (rq_ HO_13.out) gb160 (Nat.le_of_eq hg.symm)) hb); replace HO_33 := am_ (Kd.R_below (Kd.R_elderB (rq_ HO_33.out) gb160 (Nat.le_of_eq hg.symm)) hb); have BK160 := am_ (hbox); have GE160 := am_ ((by rw [hg]; exact (below_size hb_) : w.heap.size ≤ gb160)); replace HB := am_ (below_step hb_ hb); have NB153_160 := am_ ((by rw [hg]; exact Nat.ne_of_lt (blk_lt (g := gb153) (o := .cells #[.int .i64 a0_0, .bool a0_1, .slice A0_2 l0_2.length c0_2] 24 (0, 0)) (bq_ BK153.out)) : gb153 ≠ gb160)); have NB160_153 := am_ ((by rw [hg]; exact Nat.ne_of_gt (blk_lt (g := gb153) (o := .cells #[.int .i64 a0_0, .bool a0_1, .slice A0_2 l0_2.length c0_2] 24 (0, 0)) (bq_ BK153.out)) : gb160 ≠ gb153)); replace BK153 := am_ (blk_below (g := gb153) (o := .cells #[.int .i64 a0_0, .bool a0_1, .slice A0_2 l0_2.length c0_2] 24 (0, 0)) (bq_ BK153.out) hb); clear hb hbox hg; have hnb21 := NB160_153.out; have hnc21 := NB153_160.out; have hcz22_0 : w20.cell? ⟨gb160, 0, none⟩ = some (.int .i64 0) := (blk_cell BK160.out 0).trans rfl; have hcz22_1 : w20.cell? ⟨gb160, 1, none⟩ = some (.int .i64 0) := (blk_cell BK160.out 1).trans rfl; have hcz22_2 : w20.cell? ⟨gb160, 2, none⟩ = some (.int .i64 0) := (blk_cell BK160.out 2).trans rfl; have hfz22_0 := blk_frozen BK160.out 0; have hfz22_1 := blk_frozen BK160.out 1; have hfz22_2 := blk_frozen BK160.out 2; have hcz23_0 : w20.cell? ⟨gb153, 0, none⟩ = some (.int .i64 a0_0) := (blk_cell BK153.out 0).trans rfl; have hcz23_1 : w20.cell? ⟨gb153, 1, none⟩ = some (.bool a0_1) := (blk_cell BK153.out 1).trans rfl; have hcz23_2 : w20.cell? ⟨gb153, 2, none⟩ = some (.slice A0_2 l0_2.length c0_2) := (blk_cell BK153.out 2).trans rfl; have hfz23_0 := blk_frozen BK153.out 0; have hfz23_1 := blk_frozen BK153.out 1; have hfz23_2 := blk_frozen BK153.out 2) | ((with_reducible refine gate_callee (f := 34) rfl ?_); refine goesL_ (some 44) rfl rfl Try.func34 (by kernel_rfl) rfl #[.agg #[.int .i64 a0_0, .bool a0_1, .slice A0_2 l0_2.length c0_2], .int .i64 a1, .int .i64 a2, .int .i64 a3, .agg #[.int .i64 ((rd_T45 t155 x35_1).f0), .int .i64 ((rd_T45 t155 x35_1).f1), .int .i64 ((rd_T45 t155 x35_1).f2)]] rfl mt_ ?_; (with_reducible refine (plan_may.calls a0_0 a0_1 _ _ l0_2 a1 a2 a3 ((rd_T45 t155 x35_1).f0) ((rd_T45 t155 x35_1).f1) ((rd_T45 t155 x35_1).f2) true _ ?side1 ?side2 A18.out).mono ?_); (case side1 => exact Kd.C_below HR0_2.out hb_); (case side2 => exact HC0_2.out); rintro e w24 ⟨rfl, hb⟩; refine ⟨_, rfl, ?_⟩; replace HO_13 := am_ (Kd.R_below q13_ hb); replace HO_33 := am_ (Kd.R_below q14_ hb); replace BK153 := am_ (blk_below (g := gb153) (o := .cells #[.int .i64 a0_0, .bool a0_1, .slice A0_2 l0_2.length c0_2] 24 (0, 0)) (by refine bq_ ?_; refine blk_far ?_ NB153_160.out _; refine bq_ ?_; refine blk_far ?_ NB153_160.out _; refine bq_ ?_; refine blk_far ?_ NB153_160.out _; refine bq_ ?_; exact BK153.out) hb); replace BK160 := am_ (blk_below (g := gb160) (o := .cells #[.int .i64 ((rd_T45 t155 x35_1).f0), .int .i64 ((rd_T45 t155 x35_1).f1), .int .i64 ((rd_T45 t155 x35_1).f2)] 45 (0, 0)) q16_ hb); replace HB := am_ (below_step hb_ hb); (try clear hb); (try clear hb2); (try clear hk); (try clear hi)))
         go_roundg k1
         case measure => have := HK1.out; omega
         case rel => exact ⟨(wrap64 (x35_1 + 1)), rs_, H', ⟨by have := HK1.out; omega⟩, ⟨by refine rq_ ?_; exact Kd.R_mono HO_13.out (fun _ hk => trivial)⟩, ⟨by refine rq_ ?_; exact Kd.R_mono HO_33.out (fun _ hk => trivial)⟩, ⟨by refine bq_ ?_; exact BK153.out⟩, ⟨by repeat (first | (with_reducible first | exact HB.out | apply below_alloc | apply pw_below_drewN | apply below_drew1 | refine below_set ?_ GE153.out | refine below_set ?_ GE160.out) | exact HB.out)⟩⟩
        ·replace c19 := Bool.eq_false_iff.mpr c19
         subst c19
         have H1 : (some (([] : List (S45)), 140)) = some (r1, r2) := by rw [if_neg (show ¬ (false = true) by decide)] at H; exact H
         clear H; have H := H1; clear H1; simp only [Option.some.injEq, Prod.mk.injEq] at H; obtain ⟨rfl, rfl⟩ := H; have p159 : 0 ≤ (x35_1 : Int) := of_decide_eq_true sm_; have q159 : x35_1 < (t155.length : Int) := of_decide_eq_true sm_; obtain ⟨ad159, e159, hx159_0, hx159_1, hx159_2⟩ := at_T45 (Kd.R_reads' HO_33.out).2.2 x35_1 p159 q159; cases e159; replace p159 := eq_true p159; replace q159 := eq_true q159
         go_wp2_with (first | ((with_reducible refine gate_dst (N := 16) rfl ?_); refine box_event ?hg (N := 16) ?hd (cs := #[.int .i64 0, .int .i64 0, .int .i64 0]) (t := 45) ?hr ?_; (case hd => rfl); (case hg => rfl); (case hr => first | (go_simp; done) | (go_simp; rfl)); intro gb160 hg w25 hbox hb; replace HO_13 := am_ (Kd.R_below (Kd.R_elderB (rq_ HO_13.out) gb160 (Nat.le_of_eq hg.symm)) hb); replace HO_33 := am_ (Kd.R_below (Kd.R_elderB (rq_ HO_33.out) gb160 (Nat.le_of_eq hg.symm)) hb); have BK160 := am_ (hbox); have GE160 := am_ ((by rw [hg]; exact (below_size hb_) : w.heap.size ≤ gb160)); replace HB := am_ (below_step hb_ hb); have NB153_160 := am_ ((by rw [hg]; exact Nat.ne_of_lt (blk_lt (g := gb153) (o := .cells #[.int .i64 a0_0, .bool a0_1, .slice A0_2 l0_2.length c0_2] 24 (0, 0)) (bq_ BK153.out)) : gb153 ≠ gb160)); have NB160_153 := am_ ((by rw [hg]; exact Nat.ne_of_gt (blk_lt (g := gb153) (o := .cells #[.int .i64 a0_0, .bool a0_1, .slice A0_2 l0_2.length c0_2] 24 (0, 0)) (bq_ BK153.out)) : gb160 ≠ gb153)); replace BK153 := am_ (blk_below (g := gb153) (o := .cells #[.int .i64 a0_0, .bool a0_1, .slice A0_2 l0_2.length c0_2] 24 (0, 0)) (bq_ BK153.out) hb); clear hb hbox hg; have hnb26 := NB160_153.out; have hnc26 := NB153_160.out; have hcz27_0 : w25.cell? ⟨gb160, 0, none⟩ = some (.int .i64 0) := (blk_cell BK160.out 0).trans rfl; have hcz27_1 : w25.cell? ⟨gb160, 1, none⟩ = some (.int .i64 0) := (blk_cell BK160.out 1).trans rfl; have hcz27_2 : w25.cell? ⟨gb160, 2, none⟩ = some (.int .i64 0) := (blk_cell BK160.out 2).trans rfl; have hfz27_0 := blk_frozen BK160.out 0; have hfz27_1 := blk_frozen BK160.out 1; have hfz27_2 := blk_frozen BK160.out 2; have hcz28_0 : w25.cell? ⟨gb153, 0, none⟩ = some (.int .i64 a0_0) := (blk_cell BK153.out 0).trans rfl; have hcz28_1 : w25.cell? ⟨gb153, 1, none⟩ = some (.bool a0_1) := (blk_cell BK153.out 1).trans rfl; have hcz28_2 : w25.cell? ⟨gb153, 2, none⟩ = some (.slice A0_2 l0_2.length c0_2) := (blk_cell BK153.out 2).trans rfl; have hfz28_0 := blk_frozen BK153.out 0; have hfz28_1 := blk_frozen BK153.out 1; have hfz28_2 := blk_frozen BK153.out 2) | ((with_reducible refine gate_callee (f := 34) rfl ?_); refine goesL_ (some 44) rfl rfl Try.func34 (by kernel_rfl) rfl #[.agg #[.int .i64 a0_0, .bool a0_1, .slice A0_2 l0_2.length c0_2], .int .i64 a1, .int .i64 a2, .int .i64 a3, .agg #[.int .i64 ((rd_T45 t155 x35_1).f0), .int .i64 ((rd_T45 t155 x35_1).f1), .int .i64 ((rd_T45 t155 x35_1).f2)]] rfl mt_ ?_; (with_reducible refine (plan_may.calls a0_0 a0_1 _ _ l0_2 a1 a2 a3 ((rd_T45 t155 x35_1).f0) ((rd_T45 t155 x35_1).f1) ((rd_T45 t155 x35_1).f2) false _ ?side1 ?side2 A18.out).mono ?_); (case side1 => exact Kd.C_below HR0_2.out hb_); (case side2 => exact HC0_2.out); rintro e w29 ⟨rfl, hb⟩; refine ⟨_, rfl, ?_⟩; replace HO_13 := am_ (Kd.R_below q13_ hb); replace HO_33 := am_ (Kd.R_below q14_ hb); replace BK153 := am_ (blk_below (g := gb153) (o := .cells #[.int .i64 a0_0, .bool a0_1, .slice A0_2 l0_2.length c0_2] 24 (0, 0)) (by refine bq_ ?_; refine blk_far ?_ NB153_160.out _; refine bq_ ?_; refine blk_far ?_ NB153_160.out _; refine bq_ ?_; refine blk_far ?_ NB153_160.out _; refine bq_ ?_; exact BK153.out) hb); replace BK160 := am_ (blk_below (g := gb160) (o := .cells #[.int .i64 ((rd_T45 t155 x35_1).f0), .int .i64 ((rd_T45 t155 x35_1).f1), .int .i64 ((rd_T45 t155 x35_1).f2)] 45 (0, 0)) q16_ hb); replace HB := am_ (below_step hb_ hb); (try clear hb); (try clear hb2); (try clear hk); (try clear hi)))
         go_ret2
         exact ⟨_, by first | rfl | (simp [errW_none, errW_some] <;> rfl) | (simp [*, errW_none, errW_some] <;> rfl), by first | exact Kd.R_nil _ _ _ _ _ | exact Kd.N_nil _ _ _ _ _ | exact Kd.V_nil _ _ _ _ _ | exact Kd.Q_nil _ _ _ _ _ | exact Kd.S_nil _ _ _ _ _, by repeat (first | (with_reducible first | exact HB.out | apply below_alloc | apply pw_below_drewN | apply below_drew1 | refine below_set ?_ GE153.out | refine below_set ?_ GE160.out) | exact HB.out)⟩
       ·rw [if_neg c17] at H
        exact absurd H (by simp)
      ·rw [if_neg c16] at H
       exact absurd H (by simp)
     ·rw [if_neg c15] at H
      have c15b0 : decide (x35_1 < (t155.length : Int)) = false := decide_eq_false c15; clear c15; simp only [Option.some.injEq, Prod.mk.injEq] at H; obtain ⟨rfl, rfl⟩ := H
      go_wp2
      go_ret2
      exact ⟨_, by first | rfl | (simp [errW_none, errW_some] <;> rfl) | (simp [*, errW_none, errW_some] <;> rfl), by refine rq_ ?_; exact HO_13.out, by repeat (first | (with_reducible first | exact HB.out | apply below_alloc | apply pw_below_drewN | apply below_drew1 | refine below_set ?_ GE153.out) | exact HB.out)⟩
  ·rw [if_neg c9] at H
   have c9b0 : (t156 == 0) = false := beq_eq_false_iff_ne.mpr c9; have c9b1 : (t156 != 0) = true := bne_iff_ne.mpr c9; simp only [Option.some.injEq, Prod.mk.injEq] at H; obtain ⟨rfl, rfl⟩ := H
   go_enter Try.func24, Try.ntmps24
   go_wp2_with (first | ((with_reducible refine gate_dst (N := 5) rfl ?_); refine box_event ?hg (N := 5) ?hd (cs := #[.int .i64 a0_0, .bool a0_1, .slice A0_2 l0_2.length c0_2]) (t := 24) ?hr ?_; (case hd => rfl); (case hg => rfl); (case hr => first | (go_simp; done) | (go_simp; rfl)); intro gb153 hg w30 hbox hb; have BK153 := am_ (hbox); have GE153 := am_ ((by rw [hg]; exact (below_size hb_) : w.heap.size ≤ gb153)); replace HB := am_ (below_step hb_ hb); clear hb hbox hg; have hcz31_0 : w30.cell? ⟨gb153, 0, none⟩ = some (.int .i64 a0_0) := (blk_cell BK153.out 0).trans rfl; have hcz31_1 : w30.cell? ⟨gb153, 1, none⟩ = some (.bool a0_1) := (blk_cell BK153.out 1).trans rfl; have hcz31_2 : w30.cell? ⟨gb153, 2, none⟩ = some (.slice A0_2 l0_2.length c0_2) := (blk_cell BK153.out 2).trans rfl; have hfz31_0 := blk_frozen BK153.out 0; have hfz31_1 := blk_frozen BK153.out 1; have hfz31_2 := blk_frozen BK153.out 2) | ((with_reducible refine gate_callee (f := 32) rfl ?_); refine goesL_ (some 21) rfl rfl Try.func32 (by kernel_rfl) rfl #[.agg #[.int .i64 a0_0, .bool a0_1, .slice A0_2 l0_2.length c0_2], .int .i64 a1, .int .i64 a2, .int .i64 a3] rfl mt_ ?_; (with_reducible refine (span_Asked.calls k a0_0 a0_1 _ _ l0_2 a1 a2 a3 t154 _ ?side1 ?side2 A6.out).mono ?_); (case side1 => repeat (first | exact (Kd.C_below HR0_2.out HB.out) | (with_reducible refine Kd.C_alloc ?_ _) | (with_reducible refine Kd.C_drewN ?_ _) | (with_reducible refine Kd.C_drew ?_))); (case side2 => exact HC0_2.out); rintro e w32 ⟨rfl, hb⟩; refine ⟨_, rfl, ?_⟩; replace BK153 := am_ (blk_below (g := gb153) (o := .cells #[.int .i64 a0_0, .bool a0_1, .slice A0_2 l0_2.length c0_2] 24 (0, 0)) (bq_ BK153.out) hb); replace HB := am_ (below_step hb_ hb); (try clear hb); (try clear hb2); (try clear hk); (try clear hi)) | ((with_reducible refine gate_callee (f := 33) rfl ?_); refine goesL_ (some 27) rfl rfl Try.func33 (by kernel_rfl) rfl #[.slice A4 l4.length c4] rfl mt_ ?_; (with_reducible refine (table_Moves.calls k _ _ l4 t155 t156 _ ?side1 ?side2 A8.out).mono ?_); (case side1 => repeat (first | exact (Kd.C_below HR4.out HB.out) | (with_reducible refine Kd.C_alloc ?_ _) | (with_reducible refine Kd.C_drewN ?_ _) | (with_reducible refine Kd.C_drew ?_))); (case side2 => exact HC4.out); rintro e w33 ⟨v157, rfl, ho0, hb⟩; refine ⟨_, rfl, ?_⟩; have HO158 := am_ (Kd.R_lower ho0 (below_size hb_)); replace BK153 := am_ (blk_below (g := gb153) (o := .cells #[.int .i64 a0_0, .bool a0_1, .slice A0_2 l0_2.length c0_2] 24 (0, 0)) (bq_ BK153.out) hb); replace HB := am_ (below_step hb_ hb); (try clear hb); (try clear hb2); (try clear hk); (try clear hi); (try clear ho0)))
   go_ret2
   exact ⟨_, by first | rfl | (simp [errW_none, errW_some] <;> rfl) | (simp [*, errW_none, errW_some] <;> rfl), by first | exact Kd.R_nil _ _ _ _ _ | exact Kd.N_nil _ _ _ _ _ | exact Kd.V_nil _ _ _ _ _ | exact Kd.Q_nil _ _ _ _ _ | exact Kd.S_nil _ _ _ _ _, by repeat (first | (with_reducible first | exact HB.out | apply below_alloc | apply pw_below_drewN | apply below_drew1 | refine below_set ?_ GE153.out) | exact HB.out)⟩
 ·rw [if_neg c7] at H
  have c7b0 : (t154 == 0) = false := beq_eq_false_iff_ne.mpr c7; have c7b1 : (t154 != 0) = true := bne_iff_ne.mpr c7; simp only [Option.some.injEq, Prod.mk.injEq] at H; obtain ⟨rfl, rfl⟩ := H
  go_enter Try.func24, Try.ntmps24
  go_wp2_with (first | ((with_reducible refine gate_dst (N := 5) rfl ?_); refine box_event ?hg (N := 5) ?hd (cs := #[.int .i64 a0_0, .bool a0_1, .slice A0_2 l0_2.length c0_2]) (t := 24) ?hr ?_; (case hd => rfl); (case hg => rfl); (case hr => first | (go_simp; done) | (go_simp; rfl)); intro gb153 hg w34 hbox hb; have BK153 := am_ (hbox); have GE153 := am_ ((by rw [hg]; exact (below_size hb_) : w.heap.size ≤ gb153)); replace HB := am_ (below_step hb_ hb); clear hb hbox hg; have hcz35_0 : w34.cell? ⟨gb153, 0, none⟩ = some (.int .i64 a0_0) := (blk_cell BK153.out 0).trans rfl; have hcz35_1 : w34.cell? ⟨gb153, 1, none⟩ = some (.bool a0_1) := (blk_cell BK153.out 1).trans rfl; have hcz35_2 : w34.cell? ⟨gb153, 2, none⟩ = some (.slice A0_2 l0_2.length c0_2) := (blk_cell BK153.out 2).trans rfl; have hfz35_0 := blk_frozen BK153.out 0; have hfz35_1 := blk_frozen BK153.out 1; have hfz35_2 := blk_frozen BK153.out 2) | ((with_reducible refine gate_callee (f := 32) rfl ?_); refine goesL_ (some 21) rfl rfl Try.func32 (by kernel_rfl) rfl #[.agg #[.int .i64 a0_0, .bool a0_1, .slice A0_2 l0_2.length c0_2], .int .i64 a1, .int .i64 a2, .int .i64 a3] rfl mt_ ?_; (with_reducible refine (span_Asked.calls k a0_0 a0_1 _ _ l0_2 a1 a2 a3 t154 _ ?side1 ?side2 A6.out).mono ?_); (case side1 => repeat (first | exact (Kd.C_below HR0_2.out HB.out) | (with_reducible refine Kd.C_alloc ?_ _) | (with_reducible refine Kd.C_drewN ?_ _) | (with_reducible refine Kd.C_drew ?_))); (case side2 => exact HC0_2.out); rintro e w36 ⟨rfl, hb⟩; refine ⟨_, rfl, ?_⟩; replace BK153 := am_ (blk_below (g := gb153) (o := .cells #[.int .i64 a0_0, .bool a0_1, .slice A0_2 l0_2.length c0_2] 24 (0, 0)) (bq_ BK153.out) hb); replace HB := am_ (below_step hb_ hb); (try clear hb); (try clear hb2); (try clear hk); (try clear hi)))
  go_ret2
  exact ⟨_, by first | rfl | (simp [errW_none, errW_some] <;> rfl) | (simp [*, errW_none, errW_some] <;> rfl), by first | exact Kd.R_nil _ _ _ _ _ | exact Kd.N_nil _ _ _ _ _ | exact Kd.V_nil _ _ _ _ _ | exact Kd.Q_nil _ _ _ _ _ | exact Kd.S_nil _ _ _ _ _, by repeat (first | (with_reducible first | exact HB.out | apply below_alloc | apply pw_below_drewN | apply below_drew1 | refine below_set ?_ GE153.out) | exact HB.out)⟩
end Go.Proofs.Ytdghehebkalbgaa.Q
end
