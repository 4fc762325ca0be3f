/- A part of the proof: words, contracts, plain lemmas. Conditions: none. -/
import Derived.Test.YtdghehebkalbgaaZSmall4
import Derived.Test.YtdghehebkalbgaaZSmall14
section
namespace Go.Proofs.Ytdghehebkalbgaa.Q
open Go.RowKit Go.Proofs.YtdghehebkalbgaaW.PrintWords Go.Proofs.YtdghehebkalbgaaW.PrintLast Go.Proofs.YtdghehebkalbgaaW.PrintMore
attribute [local go_sem] max2_int min2_int max_two min_two min_four
set_option linter.unusedVariables false
set_option linter.unusedSimpArgs false
def plan_Check.f (k : Nat) (a0_0 : Int) (a0_1 : Bool) (l0_2 : List (S47)) (a1 : Int) (a2 : Int) (a3 : Int) (l4 : List (S45)) : Option (Int × Int) := (plan_checked.f k a0_0 a0_1 l0_2 a1 a2 a3 l4).bind fun bt209 => (if bt209.2 = 0 then (if 0 ≤ a3 then (if a3 < (bt209.1.length : Int) then (if 0 ≤ a2 then (if a2 < ((rd_L3 bt209.1 a3).length : Int) then (some (rd (rd_L3 bt209.1 a3) a2, 0)) else (none)) else (none)) else (none)) else (none)) else (some (0, bt209.2)))
theorem plan_Check.mono : ∀ a0 a1 a2 a3 a4 a5 a6 k, LeO (plan_Check.f k a0 a1 a2 a3 a4 a5 a6) (plan_Check.f (k + 1) a0 a1 a2 a3 a4 a5 a6) := by
 intro a0 a1 a2 a3 a4 a5 a6 k
 unfold plan_Check.f
 repeat' first
   | (with_reducible exact plan_checked.mono _ _ _ _ _ _ _ _)
   | (with_reducible exact LeO.refl _)
   | (with_reducible exact LeO.none _)
   | (with_reducible refine LeO.ite ?_ ?_)
   | (with_reducible refine LeO.bind ?_ (fun _ => ?_))
   | exact plan_checked.mono _ _ _ _ _ _ _ _
   | exact LeO.none _
   | refine LeO.ite ?_ ?_
   | refine LeO.bind ?_ (fun _ => ?_)
set_option maxHeartbeats 8000000 in
set_option maxRecDepth 100000 in
theorem plan_Check.calls (k : Nat) (a0_0 : Int) (a0_1 : Bool) (A0_2 : Option Addr) (c0_2 : Nat) (l0_2 : List (S47)) (a1 : Int) (a2 : Int) (a3 : Int) (A4 : Option Addr) (c4 : Nat) (l4 : List (S45)) (r1 : Int) (r2 : Int) (w : World) (hr0_2 : Kd.C k47 w A0_2 l0_2.length l0_2) (hc0_2 : l0_2.length ≤ c0_2) (hr4 : Kd.C k45 w A4 l4.length l4) (hc4 : l4.length ≤ c4) (h : plan_Check.f k a0_0 a0_1 l0_2 a1 a2 a3 l4 = some (r1, r2)) :
  Calls Try.prog 15 #[.agg #[.int .i64 a0_0, .bool a0_1, .slice A0_2 l0_2.length c0_2], .int .i64 a1, .int .i64 a2, .int .i64 a3, .slice A4 l4.length c4] w fun e w' => e = .returned (.tuple #[.int .i64 r1, .int .i64 r2]) ∧ Below w.heap.size w w' := by
 have hu24 := Try.underlying24; have HR0_2 := am_ hr0_2; have HC0_2 := am_ hc0_2; clear hr0_2 hc0_2; have HR4 := am_ hr4; have HC4 := am_ hc4; clear hr4 hc4; have HB := am_ (Below.refl w.heap.size w); have H : ((plan_checked.f k a0_0 a0_1 l0_2 a1 a2 a3 l4).bind fun bt209 => (if bt209.2 = 0 then (if 0 ≤ a3 then (if a3 < (bt209.1.length : Int) then (if 0 ≤ a2 then (if a2 < ((rd_L3 bt209.1 a3).length : Int) then (some (rd (rd_L3 bt209.1 a3) a2, 0)) else (none)) else (none)) else (none)) else (none)) else (some (0, bt209.2)))) = some (r1, r2) := h; clear h; replace H := Option.bind_eq_some_iff.mp H; obtain ⟨⟨t209, t212⟩, A60, H⟩ := H; replace H : (if t212 = 0 then (if 0 ≤ a3 then (if a3 < (t209.length : Int) then (if 0 ≤ a2 then (if a2 < ((rd_L3 t209 a3).length : Int) then (some (rd (rd_L3 t209 a3) a2, 0)) else (none)) else (none)) else (none)) else (none)) else (some (0, t212))) = some (r1, r2) := H; have A6 := am_ A60; clear A60
 by_cases c7 : t212 = 0
 ·rw [if_pos c7] at H
  have c7b0 : (t212 == 0) = true := beq_iff_eq.mpr c7; have c7b1 : (t212 != 0) = false := bne_eq_false_iff_eq.mpr c7; clear c7
  by_cases c8 : 0 ≤ a3
  ·rw [if_pos c8] at H
   have c8b0 : decide (0 ≤ a3) = true := decide_eq_true c8; clear c8
   by_cases c9 : a3 < (t209.length : Int)
   ·rw [if_pos c9] at H
    have c9b0 : decide (a3 < (t209.length : Int)) = true := decide_eq_true c9; clear c9
    by_cases c10 : 0 ≤ a2
    ·rw [if_pos c10] at H
     have c10b0 : decide (0 ≤ a2) = true := decide_eq_true c10; clear c10
     by_cases c11 : a2 < ((rd_L3 t209 a3).length : Int)
     ·rw [if_pos c11] at H
      have c11b0 : decide (a2 < ((rd_L3 t209 a3).length : Int)) = true := decide_eq_true c11; clear c11; simp only [Option.some.injEq, Prod.mk.injEq] at H; obtain ⟨rfl, rfl⟩ := H
      go_enter Try.func15, Try.ntmps15
      go_wp2_with (first | ((with_reducible refine gate_dst (N := 5) rfl ?_); refine box_event ?hg (N := 5) ?hd (cs := #[.int .i64 a0_0, .bool a0_1, .slice A0_2 l0_2.length c0_2]) (t := 24) ?hr ?_; (case hd => rfl); (case hg => rfl); (case hr => first | (go_simp; done) | (go_simp; rfl)); intro gb208 hg w12 hbox hb; have BK208 := am_ (hbox); have GE208 := am_ ((by rw [hg]; exact (below_size hb_) : w.heap.size ≤ gb208)); replace HB := am_ (below_step hb_ hb); clear hb hbox hg; have hcz13_0 : w12.cell? ⟨gb208, 0, none⟩ = some (.int .i64 a0_0) := (blk_cell BK208.out 0).trans rfl; have hcz13_1 : w12.cell? ⟨gb208, 1, none⟩ = some (.bool a0_1) := (blk_cell BK208.out 1).trans rfl; have hcz13_2 : w12.cell? ⟨gb208, 2, none⟩ = some (.slice A0_2 l0_2.length c0_2) := (blk_cell BK208.out 2).trans rfl; have hfz13_0 := blk_frozen BK208.out 0; have hfz13_1 := blk_frozen BK208.out 1; have hfz13_2 := blk_frozen BK208.out 2) | ((with_reducible refine gate_callee (f := 29) rfl ?_); refine goesL_ (some 19) rfl rfl Try.func29 (by kernel_rfl) rfl #[.agg #[.int .i64 a0_0, .bool a0_1, .slice A0_2 l0_2.length c0_2], .int .i64 a1, .int .i64 a2, .int .i64 a3, .slice A4 l4.length c4] rfl mt_ ?_; (with_reducible refine (plan_checked.calls k a0_0 a0_1 _ _ l0_2 a1 a2 a3 _ _ l4 t209 t212 _ ?side1 ?side2 ?side3 ?side4 A6.out).mono ?_); (case side1 => repeat (first | exact (Kd.C_below HR0_2.out HB.out) | (with_reducible refine Kd.C_alloc ?_ _) | (with_reducible refine Kd.C_drewN ?_ _) | (with_reducible refine Kd.C_drew ?_))); (case side2 => exact HC0_2.out); (case side3 => repeat (first | exact (Kd.C_below HR4.out HB.out) | (with_reducible refine Kd.C_alloc ?_ _) | (with_reducible refine Kd.C_drewN ?_ _) | (with_reducible refine Kd.C_drew ?_))); (case side4 => exact HC4.out); rintro e w14 ⟨v210, rfl, ho0, hb⟩; refine ⟨_, rfl, ?_⟩; have HO211 := am_ (Kd.S_lower ho0 (below_size hb_)); replace BK208 := am_ (blk_below (g := gb208) (o := .cells #[.int .i64 a0_0, .bool a0_1, .slice A0_2 l0_2.length c0_2] 24 (0, 0)) (bq_ BK208.out) hb); replace HB := am_ (below_step hb_ hb); (try clear hb); (try clear hb2); (try clear hk); (try clear hi); (try clear ho0); obtain ⟨Ao15, co15, eo15⟩ := Kd.S_slice HO211.out; subst eo15; have p213 : 0 ≤ (a3 : Int) := of_decide_eq_true sm_; have q213 : a3 < (t209.length : Int) := of_decide_eq_true sm_; obtain ⟨ad213, A213_0, c213_0, e213, hx213_0, hl213_0, hi213_0⟩ := at_L3 (Kd.S_reads' HO211.out).2.2 a3 p213 q213; cases e213; obtain ⟨ce213, hce213, hMe213, hcc213⟩ := Kd.S_get HO211.out [] a3 p213 (by first | exact q213 | exact of_decide_eq_true sm_ | (have e_ := (Kd.S_reads' HO211.out).1; omega)); obtain ⟨ve213_0, rfl, ge213_0⟩ := hMe213; have hv213_0 := hcc213 0 _ rfl; rw [Nat.add_zero, show ((Kd.slice 3 (Kd.int .i64))).sz = 1 from rfl, Nat.mul_one] at hv213_0; replace hv213_0 := Option.some.inj (hv213_0.symm.trans hx213_0); rw [hv213_0] at ge213_0; have HL213_0 := am_ (show Kd.R (Kd.int .i64) 3 _ _ _ _ (rd_L3 t209 a3) from ge213_0); clear hv213_0 ge213_0; clear hcc213 hce213; have HR213_0 := am_ hi213_0; have HC213_0 := am_ hl213_0; clear hi213_0 hl213_0; replace p213 := eq_true p213; replace q213 := eq_true q213; have p214 : 0 ≤ (a2 : Int) := of_decide_eq_true sm_; have q214 : a2 < ((rd_L3 t209 a3).length : Int) := of_decide_eq_true sm_; obtain ⟨ad214, e214, hx214_0⟩ := Kd.at_int (by repeat (first | (with_reducible exact HR213_0.out) | (with_reducible refine Kd.C_alloc ?_ _) | (with_reducible refine Kd.C_drewN ?_ _) | (with_reducible refine Kd.C_drew ?_) | exact HR213_0.out)) a2 p214 q214; cases e214; replace p214 := eq_true p214; replace q214 := eq_true q214))
      go_ret2
      exact ⟨by first | rfl | (simp [errW_none, errW_some] <;> rfl) | (simp [*, errW_none, errW_some] <;> rfl), by repeat (first | (with_reducible first | exact HB.out | apply below_alloc | apply pw_below_drewN | apply below_drew1 | refine below_set ?_ GE208.out) | exact HB.out)⟩
     ·rw [if_neg c11] at H
      exact absurd H (by simp)
    ·rw [if_neg c10] at H
     exact absurd H (by simp)
   ·rw [if_neg c9] at H
    exact absurd H (by simp)
  ·rw [if_neg c8] at H
   exact absurd H (by simp)
 ·rw [if_neg c7] at H
  have c7b0 : (t212 == 0) = false := beq_eq_false_iff_ne.mpr c7; have c7b1 : (t212 != 0) = true := bne_iff_ne.mpr c7; simp only [Option.some.injEq, Prod.mk.injEq] at H; obtain ⟨rfl, rfl⟩ := H
  go_enter Try.func15, Try.ntmps15
  go_wp2_with (first | ((with_reducible refine gate_dst (N := 5) rfl ?_); refine box_event ?hg (N := 5) ?hd (cs := #[.int .i64 a0_0, .bool a0_1, .slice A0_2 l0_2.length c0_2]) (t := 24) ?hr ?_; (case hd => rfl); (case hg => rfl); (case hr => first | (go_simp; done) | (go_simp; rfl)); intro gb208 hg w16 hbox hb; have BK208 := am_ (hbox); have GE208 := am_ ((by rw [hg]; exact (below_size hb_) : w.heap.size ≤ gb208)); replace HB := am_ (below_step hb_ hb); clear hb hbox hg; have hcz17_0 : w16.cell? ⟨gb208, 0, none⟩ = some (.int .i64 a0_0) := (blk_cell BK208.out 0).trans rfl; have hcz17_1 : w16.cell? ⟨gb208, 1, none⟩ = some (.bool a0_1) := (blk_cell BK208.out 1).trans rfl; have hcz17_2 : w16.cell? ⟨gb208, 2, none⟩ = some (.slice A0_2 l0_2.length c0_2) := (blk_cell BK208.out 2).trans rfl; have hfz17_0 := blk_frozen BK208.out 0; have hfz17_1 := blk_frozen BK208.out 1; have hfz17_2 := blk_frozen BK208.out 2) | ((with_reducible refine gate_callee (f := 29) rfl ?_); refine goesL_ (some 19) rfl rfl Try.func29 (by kernel_rfl) rfl #[.agg #[.int .i64 a0_0, .bool a0_1, .slice A0_2 l0_2.length c0_2], .int .i64 a1, .int .i64 a2, .int .i64 a3, .slice A4 l4.length c4] rfl mt_ ?_; (with_reducible refine (plan_checked.calls k a0_0 a0_1 _ _ l0_2 a1 a2 a3 _ _ l4 t209 t212 _ ?side1 ?side2 ?side3 ?side4 A6.out).mono ?_); (case side1 => repeat (first | exact (Kd.C_below HR0_2.out HB.out) | (with_reducible refine Kd.C_alloc ?_ _) | (with_reducible refine Kd.C_drewN ?_ _) | (with_reducible refine Kd.C_drew ?_))); (case side2 => exact HC0_2.out); (case side3 => repeat (first | exact (Kd.C_below HR4.out HB.out) | (with_reducible refine Kd.C_alloc ?_ _) | (with_reducible refine Kd.C_drewN ?_ _) | (with_reducible refine Kd.C_drew ?_))); (case side4 => exact HC4.out); rintro e w18 ⟨v210, rfl, ho0, hb⟩; refine ⟨_, rfl, ?_⟩; have HO211 := am_ (Kd.S_lower ho0 (below_size hb_)); replace BK208 := am_ (blk_below (g := gb208) (o := .cells #[.int .i64 a0_0, .bool a0_1, .slice A0_2 l0_2.length c0_2] 24 (0, 0)) (bq_ BK208.out) hb); replace HB := am_ (below_step hb_ hb); (try clear hb); (try clear hb2); (try clear hk); (try clear hi); (try clear ho0)))
  go_ret2
  exact ⟨by first | rfl | (simp [errW_none, errW_some] <;> rfl) | (simp [*, errW_none, errW_some] <;> rfl), by repeat (first | (with_reducible first | exact HB.out | apply below_alloc | apply pw_below_drewN | apply below_drew1 | refine below_set ?_ GE208.out) | exact HB.out)⟩
def plan_Arrived.l0 : Nat → Int → List (List Int) → List Int → Int → Int → Option (List Int × Int)
 | 0, _, _, _, _, _ => none
 | k + 1, x2, x12, x14, x32, x33 => if x33 < x32 then (if 0 ≤ x33 then (if x33 < (x12.length : Int) then (if 0 ≤ x2 then (if x2 < ((rd_L3 x12 x33).length : Int) then (if x33 < (x14.length : Int) then (plan_Arrived.l0 k x2 x12 (x14.set (x33 : Int).toNat (rd (rd_L3 x12 x33) x2)) x32 (wrap64 (x33 + 1))) else (none)) else (none)) else (none)) else (none)) else (none)) else (some (x14, 0))
def plan_Arrived.f (k : Nat) (a0_0 : Int) (a0_1 : Bool) (l0_2 : List (S47)) (a1 : Int) (a2 : Int) (a3 : Int) (l4 : List (S45)) : Option (List Int × Int) := (plan_checked.f k a0_0 a0_1 l0_2 a1 a2 a3 l4).bind fun bt216 => (if bt216.2 = 0 then (if 0 ≤ (bt216.1.length : Int) then (if ((bt216.1.length : Int) : Int).toNat ≤ 35184372088832 then (plan_Arrived.l0 k a2 bt216.1 (List.replicate ((bt216.1.length : Int) : Int).toNat 0) (bt216.1.length : Int) 0) else (none)) else (none)) else (some (([] : List Int), bt216.2)))
theorem plan_Arrived.mono_l : ∀ k, (∀ y0 y1 y2 y3 y4, LeO (plan_Arrived.l0 k y0 y1 y2 y3 y4) (plan_Arrived.l0 (k + 1) y0 y1 y2 y3 y4))
 | 0 => fun _ _ _ _ _ r h => by simp [plan_Arrived.l0] at h
 | k + 1 => by
  have ih0 := plan_Arrived.mono_l k
  ·intro y0 y1 y2 y3 y4
   unfold plan_Arrived.l0
   repeat' first
   | (with_reducible exact ih0 _ _ _ _ _)
   | (with_reducible exact plan_checked.mono _ _ _ _ _ _ _ _)
   | (with_reducible exact LeO.refl _)
   | (with_reducible exact LeO.none _)
   | (with_reducible refine LeO.ite ?_ ?_)
   | (with_reducible refine LeO.bind ?_ (fun _ => ?_))
   | exact ih0 _ _ _ _ _
   | exact plan_checked.mono _ _ _ _ _ _ _ _
   | exact LeO.none _
   | refine LeO.ite ?_ ?_
   | refine LeO.bind ?_ (fun _ => ?_)
theorem plan_Arrived.mono : ∀ a0 a1 a2 a3 a4 a5 a6 k, LeO (plan_Arrived.f k a0 a1 a2 a3 a4 a5 a6) (plan_Arrived.f (k + 1) a0 a1 a2 a3 a4 a5 a6) := by
 intro a0 a1 a2 a3 a4 a5 a6 k; have ih0 := plan_Arrived.mono_l k
 unfold plan_Arrived.f
 repeat' first
   | (with_reducible exact ih0 _ _ _ _ _)
   | (with_reducible exact plan_checked.mono _ _ _ _ _ _ _ _)
   | (with_reducible exact LeO.refl _)
   | (with_reducible exact LeO.none _)
   | (with_reducible refine LeO.ite ?_ ?_)
   | (with_reducible refine LeO.bind ?_ (fun _ => ?_))
   | exact ih0 _ _ _ _ _
   | exact plan_checked.mono _ _ _ _ _ _ _ _
   | exact LeO.none _
   | refine LeO.ite ?_ ?_
   | refine LeO.bind ?_ (fun _ => ?_)
set_option maxHeartbeats 8000000 in
set_option maxRecDepth 100000 in
theorem plan_Arrived.calls (k : Nat) (a0_0 : Int) (a0_1 : Bool) (A0_2 : Option Addr) (c0_2 : Nat) (l0_2 : List (S47)) (a1 : Int) (a2 : Int) (a3 : Int) (A4 : Option Addr) (c4 : Nat) (l4 : List (S45)) (r1 : List Int) (r2 : Int) (w : World) (hr0_2 : Kd.C k47 w A0_2 l0_2.length l0_2) (hc0_2 : l0_2.length ≤ c0_2) (hr4 : Kd.C k45 w A4 l4.length l4) (hc4 : l4.length ≤ c4) (h : plan_Arrived.f k a0_0 a0_1 l0_2 a1 a2 a3 l4 = some (r1, r2)) :
  Calls Try.prog 17 #[.agg #[.int .i64 a0_0, .bool a0_1, .slice A0_2 l0_2.length c0_2], .int .i64 a1, .int .i64 a2, .int .i64 a3, .slice A4 l4.length c4] w fun e w' => ∃ v0_ : Value, e = .returned (.tuple #[v0_, .int .i64 r2]) ∧ Kd.R (Kd.int .i64) 3 w' w.heap.size (fun _ => True) v0_ r1 ∧ Below w.heap.size w w' := by
 have hu24 := Try.underlying24; have HR0_2 := am_ hr0_2; have HC0_2 := am_ hc0_2; clear hr0_2 hc0_2; have HR4 := am_ hr4; have HC4 := am_ hc4; clear hr4 hc4; have HB := am_ (Below.refl w.heap.size w); have H : ((plan_checked.f k a0_0 a0_1 l0_2 a1 a2 a3 l4).bind fun bt216 => (if bt216.2 = 0 then (if 0 ≤ (bt216.1.length : Int) then (if ((bt216.1.length : Int) : Int).toNat ≤ 35184372088832 then (plan_Arrived.l0 k a2 bt216.1 (List.replicate ((bt216.1.length : Int) : Int).toNat 0) (bt216.1.length : Int) 0) else (none)) else (none)) else (some (([] : List Int), bt216.2)))) = some (r1, r2) := h; clear h; replace H := Option.bind_eq_some_iff.mp H; obtain ⟨⟨t216, t219⟩, A60, H⟩ := H; replace H : (if t219 = 0 then (if 0 ≤ (t216.length : Int) then (if ((t216.length : Int) : Int).toNat ≤ 35184372088832 then (plan_Arrived.l0 k a2 t216 (List.replicate ((t216.length : Int) : Int).toNat 0) (t216.length : Int) 0) else (none)) else (none)) else (some (([] : List Int), t219))) = some (r1, r2) := H; have A6 := am_ A60; clear A60
 by_cases c7 : t219 = 0
 ·rw [if_pos c7] at H
  have c7b0 : (t219 == 0) = true := beq_iff_eq.mpr c7; have c7b1 : (t219 != 0) = false := bne_eq_false_iff_eq.mpr c7; clear c7
  by_cases c8 : 0 ≤ (t216.length : Int)
  ·rw [if_pos c8] at H
   have c8b0 := eq_true c8; have c8b1 : decide (0 ≤ (t216.length : Int)) = true := decide_eq_true c8; clear c8
   by_cases c9 : ((t216.length : Int) : Int).toNat ≤ 35184372088832
   ·rw [if_pos c9] at H
    have c9b0 := eq_true c9; have c9b1 : decide (((t216.length : Int) : Int).toNat ≤ 35184372088832) = true := decide_eq_true c9; clear c9; obtain ⟨y220, hy220⟩ : ∃ y_ : List Int, y_ = (List.replicate ((t216.length : Int) : Int).toNat 0) := ⟨_, rfl⟩
    replace H : (plan_Arrived.l0 k a2 t216 y220 (t216.length : Int) 0) = some (r1, r2) := by first | (rw [hy220]; with_reducible exact H) | (have H2_ := (Option.bind_some _ _).symm.trans H; rw [hy220]; with_reducible exact H2_) | (have H2_ := (Option.bind_some _ _).symm.trans H; with_reducible exact H2_) | with_reducible exact H | (rw [hy220]; exact H) | exact H
    have Ny220 := am_ hy220; clear hy220; have H' := am_ H; clear H
    go_enter Try.func17, Try.ntmps17
    go_wp2_with (first | ((with_reducible refine gate_dst (N := 5) rfl ?_); refine box_event ?hg (N := 5) ?hd (cs := #[.int .i64 a0_0, .bool a0_1, .slice A0_2 l0_2.length c0_2]) (t := 24) ?hr ?_; (case hd => rfl); (case hg => rfl); (case hr => first | (go_simp; done) | (go_simp; rfl)); intro gb215 hg w10 hbox hb; have BK215 := am_ (hbox); have GE215 := am_ ((by rw [hg]; exact (below_size hb_) : w.heap.size ≤ gb215)); replace HB := am_ (below_step hb_ hb); clear hb hbox hg; have hcz11_0 : w10.cell? ⟨gb215, 0, none⟩ = some (.int .i64 a0_0) := (blk_cell BK215.out 0).trans rfl; have hcz11_1 : w10.cell? ⟨gb215, 1, none⟩ = some (.bool a0_1) := (blk_cell BK215.out 1).trans rfl; have hcz11_2 : w10.cell? ⟨gb215, 2, none⟩ = some (.slice A0_2 l0_2.length c0_2) := (blk_cell BK215.out 2).trans rfl; have hfz11_0 := blk_frozen BK215.out 0; have hfz11_1 := blk_frozen BK215.out 1; have hfz11_2 := blk_frozen BK215.out 2) | ((with_reducible refine gate_callee (f := 29) rfl ?_); refine goesL_ (some 22) rfl rfl Try.func29 (by kernel_rfl) rfl #[.agg #[.int .i64 a0_0, .bool a0_1, .slice A0_2 l0_2.length c0_2], .int .i64 a1, .int .i64 a2, .int .i64 a3, .slice A4 l4.length c4] rfl mt_ ?_; (with_reducible refine (plan_checked.calls k a0_0 a0_1 _ _ l0_2 a1 a2 a3 _ _ l4 t216 t219 _ ?side1 ?side2 ?side3 ?side4 A6.out).mono ?_); (case side1 => repeat (first | exact (Kd.C_below HR0_2.out HB.out) | (with_reducible refine Kd.C_alloc ?_ _) | (with_reducible refine Kd.C_drewN ?_ _) | (with_reducible refine Kd.C_drew ?_))); (case side2 => exact HC0_2.out); (case side3 => repeat (first | exact (Kd.C_below HR4.out HB.out) | (with_reducible refine Kd.C_alloc ?_ _) | (with_reducible refine Kd.C_drewN ?_ _) | (with_reducible refine Kd.C_drew ?_))); (case side4 => exact HC4.out); rintro e w12 ⟨v217, rfl, ho0, hb⟩; refine ⟨_, rfl, ?_⟩; have HO218 := am_ (Kd.S_lower ho0 (below_size hb_)); replace BK215 := am_ (blk_below (g := gb215) (o := .cells #[.int .i64 a0_0, .bool a0_1, .slice A0_2 l0_2.length c0_2] 24 (0, 0)) (bq_ BK215.out) hb); replace HB := am_ (below_step hb_ hb); (try clear hb); (try clear hb2); (try clear hk); (try clear hi); (try clear ho0); obtain ⟨Ao13, co13, eo13⟩ := Kd.S_slice HO218.out; subst eo13) | ((with_reducible refine gate_dst (N := 30) rfl ?_); refine Kd.R_make (Kd.int .i64) _ 3 rfl (N := 30) rfl 48 _ _ rfl (t216.length : Int) rfl rfl Try.underlying48 (.int .i64 0) 8 info3 rfl (by decide) (by omega) 0 (ok := fun _ => True) (okp := fun _ => True) rfl (fun _ hk => hk) trivial (of_decide_eq_true sm_) (Nat.le_trans (Nat.mul_le_mul_right _ (of_decide_eq_true sm_ : (t216.length : Int).toNat ≤ 35184372088832)) (by omega)) (Below.refl _ _) (Nat.le_refl _) ?_; intro v221 w14 ho15 hb hg_ hnew_; clear hg_ hnew_; (first | rw [← Ny220.out] at ho15 | (simp only [Int.reduceToNat] at ho15; rw [← Ny220.out] at ho15)); replace HO218 := am_ (Kd.S_elder' (sq_ HO218.out) (Kd.R_base ho15) hb); have HO222 := am_ (Kd.R_lower ho15 (below_size hb_)); replace BK215 := am_ (blk_below (g := gb215) (o := .cells #[.int .i64 a0_0, .bool a0_1, .slice A0_2 l0_2.length c0_2] 24 (0, 0)) (bq_ BK215.out) hb); replace HB := am_ (below_step hb_ hb); clear hb ho15))
    go_loopg [33] k (fun kq v33 w' => ∃ (x14_1 : List Int) (x33_1 : Int), v33 = .int .i64 x33_1 ∧ Aside0 (plan_Arrived.l0 kq a2 t216 x14_1 (t216.length : Int) x33_1 = some (r1, r2)) ∧ Aside0 (kq ≤ k) ∧ Aside0 (Kd.S (Kd.slice 3 (Kd.int .i64)) 48 w' w.heap.size (fun k_ => some k_ ≠ (v221 : Value).ownBlock) (.slice Ao13 t216.length co13) t216) ∧ Aside0 (Kd.R (Kd.int .i64) 3 w' w.heap.size (fun _ => True) v221 x14_1) ∧ Aside0 (w'.heap[gb215]? = some (.cells #[.int .i64 a0_0, .bool a0_1, (.slice A0_2 l0_2.length c0_2)] 24 (0, 0))) ∧ Aside0 (Below w.heap.size w w'))
    case atStart => exact ⟨(y220), (0), rs_, H', ⟨Nat.le_refl _⟩, ⟨by refine sq_ ?_; exact Kd.S_mono HO218.out (fun _ hk => hk.2)⟩, ⟨by refine rq_ ?_; exact HO222.out⟩, ⟨by refine bq_ ?_; exact BK215.out⟩, ⟨by repeat (first | (with_reducible first | exact HB.out | apply below_alloc | apply pw_below_drewN | apply below_drew1 | refine below_set ?_ GE215.out) | exact HB.out)⟩⟩
    case round =>
     clear H'
     try clear c1
     try clear c2
     try clear p2
     try clear c4
     try clear c7
     try clear c7b0
     try clear c7b1
     try clear c8
     try clear c8b0
     try clear c8b1
     try clear c9
     try clear c9b0
     try clear c9b1
     try clear hcz11_0
     try clear hcz11_1
     try clear hcz11_2
     try clear hfz11_0
     try clear hfz11_1
     try clear hfz11_2
     obtain ⟨x14_1, x33_1, rfl, HA, HK1, HO_12, HO_14, BK215, HB⟩ := hrel
     cases gk with
     | zero => exact absurd HA.out (by simp [plan_Arrived.l0])
     | succ k1 =>
      have H := HA.out; clear HA; simp only [plan_Arrived.l0] at H
      by_cases c16 : x33_1 < (t216.length : Int)
      ·rw [if_pos c16] at H
       have c16b0 : decide (x33_1 < (t216.length : Int)) = true := decide_eq_true c16; clear c16
       by_cases c17 : 0 ≤ x33_1
       ·rw [if_pos c17] at H
        have c17b0 : decide (0 ≤ x33_1) = true := decide_eq_true c17; clear c17
        by_cases c18 : x33_1 < (t216.length : Int)
        ·rw [if_pos c18] at H
         have c18b0 : decide (x33_1 < (t216.length : Int)) = true := decide_eq_true c18; clear c18
         by_cases c19 : 0 ≤ a2
         ·rw [if_pos c19] at H
          have c19b0 : decide (0 ≤ a2) = true := decide_eq_true c19; clear c19
          by_cases c20 : a2 < ((rd_L3 t216 x33_1).length : Int)
          ·rw [if_pos c20] at H
           have c20b0 : decide (a2 < ((rd_L3 t216 x33_1).length : Int)) = true := decide_eq_true c20; clear c20
           by_cases c21 : x33_1 < (x14_1.length : Int)
           ·rw [if_pos c21] at H
            have c21b0 : decide (x33_1 < (x14_1.length : Int)) = true := decide_eq_true c21; clear c21; obtain ⟨y225, hy225⟩ : ∃ y_ : List Int, y_ = (x14_1.set (x33_1 : Int).toNat (rd (rd_L3 t216 x33_1) a2)) := ⟨_, rfl⟩
            replace H : (plan_Arrived.l0 k1 a2 t216 y225 (t216.length : Int) (wrap64 (x33_1 + 1))) = some (r1, r2) := by first | (rw [hy225]; with_reducible exact H) | (have H2_ := (Option.bind_some _ _).symm.trans H; rw [hy225]; with_reducible exact H2_) | (have H2_ := (Option.bind_some _ _).symm.trans H; with_reducible exact H2_) | with_reducible exact H | (rw [hy225]; exact H) | exact H
            have Ny225 := am_ hy225; clear hy225; have H' := am_ H; clear H; have p223 : 0 ≤ (x33_1 : Int) := of_decide_eq_true sm_; have q223 : x33_1 < (t216.length : Int) := of_decide_eq_true sm_; obtain ⟨ad223, A223_0, c223_0, e223, hx223_0, hl223_0, hi223_0⟩ := at_L3 (Kd.S_reads' HO_12.out).2.2 x33_1 p223 q223; cases e223; obtain ⟨ce223, hce223, hMe223, hcc223⟩ := Kd.S_get HO_12.out [] x33_1 p223 (by first | exact q223 | exact of_decide_eq_true sm_ | (have e_ := (Kd.S_reads' HO_12.out).1; omega)); obtain ⟨ve223_0, rfl, ge223_0⟩ := hMe223; have hv223_0 := hcc223 0 _ rfl; rw [Nat.add_zero, show ((Kd.slice 3 (Kd.int .i64))).sz = 1 from rfl, Nat.mul_one] at hv223_0; replace hv223_0 := Option.some.inj (hv223_0.symm.trans hx223_0); rw [hv223_0] at ge223_0; have HL223_0 := am_ (show Kd.R (Kd.int .i64) 3 _ _ _ _ (rd_L3 t216 x33_1) from ge223_0); clear hv223_0 ge223_0; clear hcc223 hce223; have HR223_0 := am_ hi223_0; have HC223_0 := am_ hl223_0; clear hi223_0 hl223_0; replace p223 := eq_true p223; replace q223 := eq_true q223; have p224 : 0 ≤ (a2 : Int) := of_decide_eq_true sm_; have q224 : a2 < ((rd_L3 t216 x33_1).length : Int) := of_decide_eq_true sm_; obtain ⟨ad224, e224, hx224_0⟩ := Kd.at_int (by repeat (first | (with_reducible exact HR223_0.out) | (with_reducible refine Kd.C_alloc ?_ _) | (with_reducible refine Kd.C_drewN ?_ _) | (with_reducible refine Kd.C_drew ?_) | exact HR223_0.out)) a2 p224 q224; cases e224; replace p224 := eq_true p224; replace q224 := eq_true q224; have p22 : 0 ≤ (x33_1 : Int) := of_decide_eq_true sm_; have q22 : (x33_1 : Int) < ((x14_1.length : Int) : Int) := of_decide_eq_true sm_; obtain ⟨go22, co22, eo22, gb22, gl22, cl22, HG22⟩ := Kd.R_form HO_14.out (by omega)
            (first | cases eo22 | (injection eo22 with ea_ en_ ec_; (first | subst ea_ | (injection ea_ with ea_; subst ea_)); subst ec_; clear en_))
            have GB22 := am_ gb22; have GG22 := am_ HG22; clear gb22 gl22 HG22; obtain ⟨hx22_0, hf22_0⟩ := Kd.R_celln 0 HO_14.out (x33_1 : Int) p22 q22; replace p22 := eq_true p22; replace q22 := eq_true q22; have HP23 := Kd.R_putg HO_14.out (x33_1 : Int) (rd (rd_L3 t216 x33_1) a2)
            go_wp2_with (first | ((with_reducible refine gate_store (t := 3) (p := 45) rfl ?_); refine store_event (t := 3) (p := 45) (v := ?vo_w24) (w1 := (wr.setCell ⟨go22, (x33_1 : Int).toNat, none⟩ (.int .i64 (rd (rd_L3 t216 x33_1) a2)))) ?hg ?ho ?hn ?hr ?_; (case ho => rfl); (case hg => rfl); (case hn => rfl); (case hr => first | (go_simp; done) | (go_simp; rfl)); intro w24 hw; have hg : wr.grownBy w24 (some go22) := (by rw [hw]; exact HP23.2); have hp_ : Kd.R (Kd.int .i64) 3 w24 w.heap.size (fun _ => True) (.slice (some ⟨go22, 0, none⟩) x14_1.length co22) y225 := (by rw [hw, Ny225.out]; exact HP23.1); clear HP23; replace HO_12 := am_ (Kd.S_after (v := (.slice (some ⟨go22, 0, none⟩) x14_1.length co22)) (v1 := (.slice (some ⟨go22, 0, none⟩) x14_1.length co22)) (ok := (fun _ => True)) (by refine sq_ ?_; exact Kd.S_mono HO_12.out (fun _ hk => ⟨trivial, hk⟩)) hg (.inl rfl)); replace BK215 := am_ (blk_grown (g := gb215) (o := .cells #[.int .i64 a0_0, .bool a0_1, .slice A0_2 l0_2.length c0_2] 24 (0, 0)) (bq_ BK215.out) hg (Kd.R_ne HO_14.out BK215.out (by decide))); replace HO_14 := am_ (hp_); replace HL223_0 := am_ (Kd.R_after (v := (.slice (some ⟨go22, 0, none⟩) x14_1.length co22)) (v1 := (.slice (some ⟨go22, 0, none⟩) x14_1.length co22)) (ok := (fun k_ => some k_ ≠ (.slice (some ad223) t216.length co13 : Value).ownBlock)) (by refine rq_ ?_; exact Kd.R_mono HL223_0.out (fun _ hk => ⟨hk.2, hk.1⟩)) hg (.inl rfl)); replace HB := am_ ((by rw [hw]; exact below_set (HB.out) GB22.out : Below w.heap.size w w24)); clear hg hw hp_))
            go_roundg k1
            case measure => have := HK1.out; omega
            case rel => exact ⟨(y225), (wrap64 (x33_1 + 1)), rs_, H', ⟨by have := HK1.out; omega⟩, ⟨by refine sq_ ?_; exact Kd.S_mono HO_12.out (fun _ hk => hk.2)⟩, ⟨by refine rq_ ?_; exact HO_14.out⟩, ⟨by refine bq_ ?_; exact BK215.out⟩, ⟨by repeat (first | (with_reducible first | exact HB.out | apply below_alloc | apply pw_below_drewN | apply below_drew1 | refine below_set ?_ GE215.out) | exact HB.out)⟩⟩
           ·rw [if_neg c21] at H
            exact absurd H (by simp)
          ·rw [if_neg c20] at H
           exact absurd H (by simp)
         ·rw [if_neg c19] at H
          exact absurd H (by simp)
        ·rw [if_neg c18] at H
         exact absurd H (by simp)
       ·rw [if_neg c17] at H
        exact absurd H (by simp)
      ·rw [if_neg c16] at H
       have c16b0 : decide (x33_1 < (t216.length : Int)) = false := decide_eq_false c16; clear c16; simp only [Option.some.injEq, Prod.mk.injEq] at H; obtain ⟨rfl, rfl⟩ := H
       go_wp2
       go_ret2
       exact ⟨_, by first | rfl | (simp [errW_none, errW_some] <;> rfl) | (simp [*, errW_none, errW_some] <;> rfl), by refine rq_ ?_; exact HO_14.out, by repeat (first | (with_reducible first | exact HB.out | apply below_alloc | apply pw_below_drewN | apply below_drew1 | refine below_set ?_ GE215.out) | exact HB.out)⟩
   ·rw [if_neg c9] at H
    exact absurd H (by simp)
  ·rw [if_neg c8] at H
   exact absurd H (by simp)
 ·rw [if_neg c7] at H
  have c7b0 : (t219 == 0) = false := beq_eq_false_iff_ne.mpr c7; have c7b1 : (t219 != 0) = true := bne_iff_ne.mpr c7; simp only [Option.some.injEq, Prod.mk.injEq] at H; obtain ⟨rfl, rfl⟩ := H
  go_enter Try.func17, Try.ntmps17
  go_wp2_with (first | ((with_reducible refine gate_dst (N := 5) rfl ?_); refine box_event ?hg (N := 5) ?hd (cs := #[.int .i64 a0_0, .bool a0_1, .slice A0_2 l0_2.length c0_2]) (t := 24) ?hr ?_; (case hd => rfl); (case hg => rfl); (case hr => first | (go_simp; done) | (go_simp; rfl)); intro gb215 hg w25 hbox hb; have BK215 := am_ (hbox); have GE215 := am_ ((by rw [hg]; exact (below_size hb_) : w.heap.size ≤ gb215)); replace HB := am_ (below_step hb_ hb); clear hb hbox hg; have hcz26_0 : w25.cell? ⟨gb215, 0, none⟩ = some (.int .i64 a0_0) := (blk_cell BK215.out 0).trans rfl; have hcz26_1 : w25.cell? ⟨gb215, 1, none⟩ = some (.bool a0_1) := (blk_cell BK215.out 1).trans rfl; have hcz26_2 : w25.cell? ⟨gb215, 2, none⟩ = some (.slice A0_2 l0_2.length c0_2) := (blk_cell BK215.out 2).trans rfl; have hfz26_0 := blk_frozen BK215.out 0; have hfz26_1 := blk_frozen BK215.out 1; have hfz26_2 := blk_frozen BK215.out 2) | ((with_reducible refine gate_callee (f := 29) rfl ?_); refine goesL_ (some 22) rfl rfl Try.func29 (by kernel_rfl) rfl #[.agg #[.int .i64 a0_0, .bool a0_1, .slice A0_2 l0_2.length c0_2], .int .i64 a1, .int .i64 a2, .int .i64 a3, .slice A4 l4.length c4] rfl mt_ ?_; (with_reducible refine (plan_checked.calls k a0_0 a0_1 _ _ l0_2 a1 a2 a3 _ _ l4 t216 t219 _ ?side1 ?side2 ?side3 ?side4 A6.out).mono ?_); (case side1 => repeat (first | exact (Kd.C_below HR0_2.out HB.out) | (with_reducible refine Kd.C_alloc ?_ _) | (with_reducible refine Kd.C_drewN ?_ _) | (with_reducible refine Kd.C_drew ?_))); (case side2 => exact HC0_2.out); (case side3 => repeat (first | exact (Kd.C_below HR4.out HB.out) | (with_reducible refine Kd.C_alloc ?_ _) | (with_reducible refine Kd.C_drewN ?_ _) | (with_reducible refine Kd.C_drew ?_))); (case side4 => exact HC4.out); rintro e w27 ⟨v217, rfl, ho0, hb⟩; refine ⟨_, rfl, ?_⟩; have HO218 := am_ (Kd.S_lower ho0 (below_size hb_)); replace BK215 := am_ (blk_below (g := gb215) (o := .cells #[.int .i64 a0_0, .bool a0_1, .slice A0_2 l0_2.length c0_2] 24 (0, 0)) (bq_ BK215.out) hb); replace HB := am_ (below_step hb_ hb); (try clear hb); (try clear hb2); (try clear hk); (try clear hi); (try clear ho0)))
  go_ret2
  exact ⟨_, by first | rfl | (simp [errW_none, errW_some] <;> rfl) | (simp [*, errW_none, errW_some] <;> rfl), by first | exact Kd.R_nil _ _ _ _ _ | exact Kd.N_nil _ _ _ _ _ | exact Kd.V_nil _ _ _ _ _ | exact Kd.Q_nil _ _ _ _ _ | exact Kd.S_nil _ _ _ _ _, by repeat (first | (with_reducible first | exact HB.out | apply below_alloc | apply pw_below_drewN | apply below_drew1 | refine below_set ?_ GE215.out) | exact HB.out)⟩
def ebbtideref03_SameInts.l0 : Nat → List Int → List Int → Int → Option (Bool)
 | 0, _, _, _ => none
 | k + 1, x0, x1, x5 => if x5 < (x0.length : Int) then (if 0 ≤ x5 then (if x5 < (x1.length : Int) then (if (rd x0 x5) = (rd x1 x5) then (ebbtideref03_SameInts.l0 k x0 x1 (wrap64 (x5 + 1))) else (some false)) else (none)) else (none)) else (some true)
def ebbtideref03_SameInts.f (k : Nat) (l0 : List Int) (l1 : List Int) : Option (Bool) := if (l0.length : Int) = (l1.length : Int) then (ebbtideref03_SameInts.l0 k l0 l1 0) else (some false)
theorem ebbtideref03_SameInts.mono_l : ∀ k, (∀ y0 y1 y2, LeO (ebbtideref03_SameInts.l0 k y0 y1 y2) (ebbtideref03_SameInts.l0 (k + 1) y0 y1 y2))
 | 0 => fun _ _ _ r h => by simp [ebbtideref03_SameInts.l0] at h
 | k + 1 => by
  have ih0 := ebbtideref03_SameInts.mono_l k
  ·intro y0 y1 y2
   unfold ebbtideref03_SameInts.l0
   repeat' first
   | (with_reducible exact ih0 _ _ _)
   | (with_reducible exact LeO.refl _)
   | (with_reducible exact LeO.none _)
   | (with_reducible refine LeO.ite ?_ ?_)
   | (with_reducible refine LeO.bind ?_ (fun _ => ?_))
   | exact ih0 _ _ _
   | exact LeO.none _
   | refine LeO.ite ?_ ?_
   | refine LeO.bind ?_ (fun _ => ?_)
theorem ebbtideref03_SameInts.mono : ∀ a0 a1 k, LeO (ebbtideref03_SameInts.f k a0 a1) (ebbtideref03_SameInts.f (k + 1) a0 a1) := by
 intro a0 a1 k; have ih0 := ebbtideref03_SameInts.mono_l k
 unfold ebbtideref03_SameInts.f
 repeat' first
   | (with_reducible exact ih0 _ _ _)
   | (with_reducible exact LeO.refl _)
   | (with_reducible exact LeO.none _)
   | (with_reducible refine LeO.ite ?_ ?_)
   | (with_reducible refine LeO.bind ?_ (fun _ => ?_))
   | exact ih0 _ _ _
   | exact LeO.none _
   | refine LeO.ite ?_ ?_
   | refine LeO.bind ?_ (fun _ => ?_)
set_option maxHeartbeats 8000000 in
set_option maxRecDepth 100000 in
theorem ebbtideref03_SameInts.calls (k : Nat) (A0 : Option Addr) (c0 : Nat) (l0 : List Int) (A1 : Option Addr) (c1 : Nat) (l1 : List Int) (r : Bool) (w : World) (hr0 : Kd.C (Kd.int .i64) w A0 l0.length l0) (hc0 : l0.length ≤ c0) (hr1 : Kd.C (Kd.int .i64) w A1 l1.length l1) (hc1 : l1.length ≤ c1) (h : ebbtideref03_SameInts.f k l0 l1 = some r) :
  Calls Try.prog 22 #[.slice A0 l0.length c0, .slice A1 l1.length c1] w fun e w' => e = .returned (.bool r) ∧ Drawn0 w w' := by
 have HR0 := am_ hr0; have HC0 := am_ hc0; clear hr0 hc0; have HR1 := am_ hr1; have HC1 := am_ hc1; clear hr1 hc1; have H : (if (l0.length : Int) = (l1.length : Int) then (ebbtideref03_SameInts.l0 k l0 l1 0) else (some false)) = some r := h; clear h
 by_cases c3 : (l0.length : Int) = (l1.length : Int)
 ·rw [if_pos c3] at H
  have c3b0 : ((l0.length : Int) == (l1.length : Int)) = true := beq_iff_eq.mpr c3; have c3b1 : ((l0.length : Int) != (l1.length : Int)) = false := bne_eq_false_iff_eq.mpr c3
  have c3b2 : (l0.length == l1.length) = true := by first | simpa using c3 | (simp at c3 ⊢; omega)
  clear c3; have H' := am_ H; clear H
  go_enter Try.func22, Try.ntmps22
  go_wp2
  repeat (go_quiet (fail); try go_wp2)
  go_loopg [5] k (fun kq v5 w' => ∃ (x5_1 : Int), v5 = .int .i64 x5_1 ∧ Aside0 (ebbtideref03_SameInts.l0 kq l0 l1 x5_1 = some r) ∧ Aside0 (kq ≤ k) ∧ Drawn0 w w')
  case atStart => exact ⟨(0), rs_, H', ⟨Nat.le_refl _⟩, by repeat (first | exact Drawn0.refl _ | apply Drawn0.step)⟩
  case round =>
   clear H'
   try clear c1
   try clear c2
   try clear p2
   try clear c3
   try clear c3b0
   try clear c3b1
   try clear c3b2
   obtain ⟨x5_1, rfl, HA, HK1, ⟨m1, rfl⟩⟩ := hrel
   cases gk with
   | zero => exact absurd HA.out (by simp [ebbtideref03_SameInts.l0])
   | succ k1 =>
    have H := HA.out; clear HA; simp only [ebbtideref03_SameInts.l0] at H
    by_cases c4 : x5_1 < (l0.length : Int)
    ·rw [if_pos c4] at H
     have c4b0 : decide (x5_1 < (l0.length : Int)) = true := decide_eq_true c4; clear c4
     by_cases c5 : 0 ≤ x5_1
     ·rw [if_pos c5] at H
      have c5b0 : decide (0 ≤ x5_1) = true := decide_eq_true c5; clear c5
      by_cases c6 : x5_1 < (l1.length : Int)
      ·rw [if_pos c6] at H
       have c6b0 : decide (x5_1 < (l1.length : Int)) = true := decide_eq_true c6; clear c6
       by_cases c7 : (rd l0 x5_1) = (rd l1 x5_1)
       ·rw [if_pos c7] at H
        have c7b0 : ((rd l0 x5_1) == (rd l1 x5_1)) = true := beq_iff_eq.mpr c7; have c7b1 : ((rd l0 x5_1) != (rd l1 x5_1)) = false := bne_eq_false_iff_eq.mpr c7; clear c7; have H' := am_ H; clear H; have p226 : 0 ≤ (x5_1 : Int) := of_decide_eq_true sm_; have q226 : x5_1 < (l0.length : Int) := of_decide_eq_true sm_; obtain ⟨ad226, e226, hx226_0⟩ := Kd.at_int HR0.out x5_1 p226 q226; cases e226; replace p226 := eq_true p226; replace q226 := eq_true q226; have p227 : 0 ≤ (x5_1 : Int) := of_decide_eq_true sm_; have q227 : x5_1 < (l1.length : Int) := of_decide_eq_true sm_; obtain ⟨ad227, e227, hx227_0⟩ := Kd.at_int HR1.out x5_1 p227 q227; cases e227; replace p227 := eq_true p227; replace q227 := eq_true q227
        go_wp2
        repeat (go_quiet (fail); try go_wp2)
        go_roundg k1
        case measure => have := HK1.out; omega
        case rel => exact ⟨(wrap64 (x5_1 + 1)), rs_, H', ⟨by have := HK1.out; omega⟩, by repeat (first | exact Drawn0.refl _ | apply Drawn0.step)⟩
       ·rw [if_neg c7] at H
        have c7b0 : ((rd l0 x5_1) == (rd l1 x5_1)) = false := beq_eq_false_iff_ne.mpr c7; have c7b1 : ((rd l0 x5_1) != (rd l1 x5_1)) = true := bne_iff_ne.mpr c7; obtain rfl := Option.some.inj H; have p226 : 0 ≤ (x5_1 : Int) := of_decide_eq_true sm_; have q226 : x5_1 < (l0.length : Int) := of_decide_eq_true sm_; obtain ⟨ad226, e226, hx226_0⟩ := Kd.at_int HR0.out x5_1 p226 q226; cases e226; replace p226 := eq_true p226; replace q226 := eq_true q226; have p227 : 0 ≤ (x5_1 : Int) := of_decide_eq_true sm_; have q227 : x5_1 < (l1.length : Int) := of_decide_eq_true sm_; obtain ⟨ad227, e227, hx227_0⟩ := Kd.at_int HR1.out x5_1 p227 q227; cases e227; replace p227 := eq_true p227; replace q227 := eq_true q227
        go_wp2
        repeat (go_quiet (fail); try go_wp2)
        go_ret
        exact ⟨by first | rfl | (simp; done) | (simp [*]; done), by repeat (first | exact Drawn0.refl _ | apply Drawn0.step)⟩
      ·rw [if_neg c6] at H
       exact absurd H (by simp)
     ·rw [if_neg c5] at H
      exact absurd H (by simp)
    ·rw [if_neg c4] at H
     have c4b0 : decide (x5_1 < (l0.length : Int)) = false := decide_eq_false c4; clear c4; obtain rfl := Option.some.inj H
     go_wp2
     repeat (go_quiet (fail); try go_wp2)
     go_ret
     exact ⟨by first | rfl | (simp; done) | (simp [*]; done), by repeat (first | exact Drawn0.refl _ | apply Drawn0.step)⟩
 ·rw [if_neg c3] at H
  have c3b0 : ((l0.length : Int) == (l1.length : Int)) = false := beq_eq_false_iff_ne.mpr c3; have c3b1 : ((l0.length : Int) != (l1.length : Int)) = true := bne_iff_ne.mpr c3
  have c3b2 : (l0.length == l1.length) = false := by first | simpa using c3 | (simp at c3 ⊢; omega)
  obtain rfl := Option.some.inj H
  go_enter Try.func22, Try.ntmps22
  go_wp2
  repeat (go_quiet (fail); try go_wp2)
  go_ret
  exact ⟨by first | rfl | (simp; done) | (simp [*]; done), by repeat (first | exact Drawn0.refl _ | apply Drawn0.step)⟩
def ebbtidelaw14_Line.f (a0 : Bool) : Option (Int × Bool × (List (S47))) := some (3, a0, (([(⟨0, 1, 2, 1⟩ : S47), (⟨1, 2, 2, 1⟩ : S47)] : List (S47))))
set_option maxHeartbeats 8000000 in
set_option maxRecDepth 100000 in
theorem ebbtidelaw14_Line.calls (a0 : Bool) (r1 : Int) (r2 : Bool) (r3 : List (S47)) (w : World) (h : ebbtidelaw14_Line.f a0 = some (r1, r2, r3)) :
  Calls Try.prog 23 #[.bool a0] w fun e w' => ∃ v2_ : Value, e = .returned (.agg #[.int .i64 r1, .bool r2, v2_]) ∧ Kd.R k47 47 w' w.heap.size (fun _ => True) v2_ r3 ∧ Below w.heap.size w w' := by
 have hu24 := Try.underlying24; have hu47 := Try.underlying47; have HB := am_ (Below.refl w.heap.size w); have H : (some (3, a0, (([(⟨0, 1, 2, 1⟩ : S47), (⟨1, 2, 2, 1⟩ : S47)] : List (S47))))) = some (r1, r2, r3) := h; clear h; obtain ⟨y229, hy229⟩ : ∃ y_ : List (S47), y_ = (([(⟨0, 1, 2, 1⟩ : S47), (⟨1, 2, 2, 1⟩ : S47)] : List (S47))) := ⟨_, rfl⟩
 replace H : (some (3, a0, y229)) = some (r1, r2, r3) := by first | (rw [hy229]; with_reducible exact H) | (have H2_ := (Option.bind_some _ _).symm.trans H; rw [hy229]; with_reducible exact H2_) | (have H2_ := (Option.bind_some _ _).symm.trans H; with_reducible exact H2_) | with_reducible exact H | (rw [hy229]; exact H) | exact H
 have Ny229 := am_ hy229; clear hy229; simp only [Option.some.injEq, Prod.mk.injEq] at H; obtain ⟨rfl, rfl, rfl⟩ := H
 go_enter Try.func23, Try.ntmps23
 go_wp2_with (first | ((with_reducible refine gate_dst (N := 2) rfl ?_); refine box_event ?hg (N := 2) ?hd (cs := #[.int .i64 0, .bool false, .slice none 0 0]) (t := 24) ?hr ?_; (case hd => rfl); (case hg => rfl); (case hr => first | (go_simp; done) | (go_simp; rfl)); intro gb228 hg w2 hbox hb; have BK228 := am_ (hbox); have GE228 := am_ ((by rw [hg]; exact (below_size hb_) : w.heap.size ≤ gb228)); replace HB := am_ (below_step hb_ hb); clear hb hbox hg) | ((with_reducible refine gate_dst (N := 6) rfl ?_); refine Kd.R_lit k47 _ 47 ?hg (N := 6) ?hd (xs := ([(⟨0, 1, 2, 1⟩ : S47), (⟨1, 2, 2, 1⟩ : S47)] : List (S47))) (inner := [.int .i64 0, .int .i64 1, .int .i64 2, .int .i64 1, .int .i64 1, .int .i64 2, .int .i64 2, .int .i64 1]) (ok := fun _ => True) (okp := fun _ => True) ?hr ?hp (fun _ hk => hk) trivial (Below.refl _ _) (Nat.le_refl _) (by simp) ?_; (case hd => rfl); (case hg => rfl); (case hr => first | (go_simp; done) | (go_simp; rfl)); (case hp => exact (Reps.c4 (show Kd.M k47 _ _ _ (⟨0, 1, 2, 1⟩ : S47) [.int .i64 0, .int .i64 1, .int .i64 2, .int .i64 1] from (k47_mkM _ _ _ (⟨0, 1, 2, 1⟩ : S47) )) (Reps.c4 (show Kd.M k47 _ _ _ (⟨1, 2, 2, 1⟩ : S47) [.int .i64 1, .int .i64 2, .int .i64 2, .int .i64 1] from (k47_mkM _ _ _ (⟨1, 2, 2, 1⟩ : S47) )) (Reps.none _ _)))); intro v230 w3 ho4 hb hg_ hnew_; clear hg_ hnew_; (first | rw [← Ny229.out] at ho4 | (simp only [Int.reduceToNat] at ho4; rw [← Ny229.out] at ho4)); have HO231 := am_ (Kd.R_lower ho4 (below_size hb_)); replace BK228 := am_ (blk_below (g := gb228) (o := .cells #[.int .i64 0, .bool false, .slice none 0 0] 24 (0, 0)) (bq_ BK228.out) hb); replace HB := am_ (below_step hb_ hb); clear hb ho4; obtain ⟨Ao5, co5, eo5⟩ := Kd.R_slice HO231.out; subst eo5; have hcz6_0 : w3.cell? ⟨gb228, 0, none⟩ = some (.int .i64 0) := (blk_cell BK228.out 0).trans rfl; have hcz6_1 : w3.cell? ⟨gb228, 1, none⟩ = some (.bool false) := (blk_cell BK228.out 1).trans rfl; have hcz6_2 : w3.cell? ⟨gb228, 2, none⟩ = some (.slice none 0 0) := (blk_cell BK228.out 2).trans rfl; have hfz6_0 := blk_frozen BK228.out 0; have hfz6_1 := blk_frozen BK228.out 1; have hfz6_2 := blk_frozen BK228.out 2))
 refine bodyPost_ret (results_cell_row rfl _ _ gb228 24 #[.int .i64 3, .bool a0, .slice Ao5 y229.length co5] (0, 0) _ rfl (by refine bq_ ?_; refine blk_put (cs := #[.int .i64 3, .bool a0, .slice none 0 0]) ?_ 2 _ rfl; refine bq_ ?_; refine blk_put (cs := #[.int .i64 3, .bool false, .slice none 0 0]) ?_ 1 _ rfl; refine bq_ ?_; refine blk_put (cs := #[.int .i64 0, .bool false, .slice none 0 0]) ?_ 0 _ rfl; refine bq_ ?_; exact BK228.out) Try.underlying24 rfl (by kernel_rfl)) rfl ?_; exact ⟨_, by first | rfl | (simp [errW_none, errW_some] <;> rfl) | (simp [*, errW_none, errW_some] <;> rfl), by refine rq_ ?_; exact Kd.R_mono (Kd.R_far (p := ⟨gb228, 2, none⟩) (Kd.R_far (p := ⟨gb228, 1, none⟩) (Kd.R_far (p := ⟨gb228, 0, none⟩) (Kd.R_types HO231.out BK228.out (by decide)) (fun _ hk => hk.2) (.int .i64 3)) (fun _ hk => hk.2) (.bool a0)) (fun _ hk => hk.2) (.slice Ao5 y229.length co5)) (fun _ hk => trivial), by repeat (first | (with_reducible first | exact HB.out | apply below_alloc | apply pw_below_drewN | apply below_drew1 | refine below_set ?_ GE228.out) | exact HB.out)⟩
end Go.Proofs.Ytdghehebkalbgaa.Q
end
