/- Parts of the proof: words, plain functions and contracts of the law's functions. Conditions: none. -/
import Derived.Test.YtdghehebkalbgaaZChecks4
import Derived.Test.YtdghehebkalbgaaZChecks23
import Derived.Test.YtdghehebkalbgaaZChecks24
import Derived.Test.YtdghehebkalbgaaZChecks14
import Derived.Test.YtdghehebkalbgaaZChecks16
import Derived.Test.YtdghehebkalbgaaZChecks7
section
namespace Go.Proofs.Ytdghehebkalbgaa.Q
open Go.RowKit Go.Proofs.YtdghehebkalbgaaW.PrintWords Go.Proofs.YtdghehebkalbgaaW.PrintLast Go.Proofs.YtdghehebkalbgaaW.PrintMore
attribute [local go_sem] max2_int min2_int max_two min_two min_four
set_option linter.unusedVariables false
set_option linter.unusedSimpArgs false
def ebbtideref14_Arrived.l0 : Nat → Int → Int → List (List Int) → List Int → Int → Option (List Int × Int)
 | 0, _, _, _, _, _ => none
 | k + 1, x2, x3, x14, x16, x17 => if x17 ≤ x3 then (if 0 ≤ x17 then (if x17 < (x14.length : Int) then (if 0 ≤ x2 then (if x2 < ((rd_L3 x14 x17).length : Int) then (if x16.length < 17592186044416 then (ebbtideref14_Arrived.l0 k x2 x3 x14 (x16 ++ [rd (rd_L3 x14 x17) x2]) (wrap64 (x17 + 1))) else (none)) else (none)) else (none)) else (none)) else (none)) else (some (x16, 0))
def ebbtideref14_Arrived.f (k : Nat) (a0_0 : Int) (a0_1 : Bool) (l0_2 : List (S47)) (a1 : Int) (a2 : Int) (a3 : Int) (l4 : List (S45)) : Option (List Int × Int) := (ebbtideref14_Check.f k a0_0 a0_1 l0_2 a1 a2 a3 l4).bind fun bt526 => (if bt526.2 = 0 then ((ebbtideref14_Stocks.f k a0_0 a0_1 l0_2 a1 a2 a3 l4).bind fun bt528 => (ebbtideref14_Arrived.l0 k a2 a3 bt528.1 ([] : List Int) 0)) else (some (([] : List Int), bt526.2)))
set_option maxHeartbeats 8000000 in
set_option maxRecDepth 100000 in
theorem ebbtideref14_Arrived.calls (k : Nat) (a0_0 : Int) (a0_1 : Bool) (A0_2 : Option Addr) (c0_2 : Nat) (l0_2 : List (S47)) (a1 : Int) (a2 : Int) (a3 : Int) (A4 : Option Addr) (c4 : Nat) (l4 : List (S45)) (r1 : List Int) (r2 : Int) (w : World) (hr0_2 : Kd.C k47 w A0_2 l0_2.length l0_2) (hc0_2 : l0_2.length ≤ c0_2) (hr4 : Kd.C k45 w A4 l4.length l4) (hc4 : l4.length ≤ c4) (h : ebbtideref14_Arrived.f k a0_0 a0_1 l0_2 a1 a2 a3 l4 = some (r1, r2)) :
  Calls Try.prog 19 #[.agg #[.int .i64 a0_0, .bool a0_1, .slice A0_2 l0_2.length c0_2], .int .i64 a1, .int .i64 a2, .int .i64 a3, .slice A4 l4.length c4] w fun e w' => ∃ v0_ : Value, e = .returned (.tuple #[v0_, .int .i64 r2]) ∧ Kd.R (Kd.int .i64) 3 w' w.heap.size (fun _ => True) v0_ r1 ∧ Below w.heap.size w w' := by
 have hu24 := Try.underlying24; have HR0_2 := am_ hr0_2; have HC0_2 := am_ hc0_2; clear hr0_2 hc0_2; have HR4 := am_ hr4; have HC4 := am_ hc4; clear hr4 hc4; have HB := am_ (Below.refl w.heap.size w); have H : ((ebbtideref14_Check.f k a0_0 a0_1 l0_2 a1 a2 a3 l4).bind fun bt526 => (if bt526.2 = 0 then ((ebbtideref14_Stocks.f k a0_0 a0_1 l0_2 a1 a2 a3 l4).bind fun bt528 => (ebbtideref14_Arrived.l0 k a2 a3 bt528.1 ([] : List Int) 0)) else (some (([] : List Int), bt526.2)))) = some (r1, r2) := h; clear h; replace H := Option.bind_eq_some_iff.mp H; obtain ⟨⟨t526, t527⟩, A60, H⟩ := H; replace H : (if t527 = 0 then ((ebbtideref14_Stocks.f k a0_0 a0_1 l0_2 a1 a2 a3 l4).bind fun bt528 => (ebbtideref14_Arrived.l0 k a2 a3 bt528.1 ([] : List Int) 0)) else (some (([] : List Int), t527))) = some (r1, r2) := H; have A6 := am_ A60; clear A60
 by_cases c7 : t527 = 0
 ·rw [if_pos c7] at H
  have c7b0 : (t527 == 0) = true := beq_iff_eq.mpr c7; have c7b1 : (t527 != 0) = false := bne_eq_false_iff_eq.mpr c7; clear c7; replace H := Option.bind_eq_some_iff.mp H; obtain ⟨⟨t528, t531⟩, A80, H⟩ := H; replace H : (ebbtideref14_Arrived.l0 k a2 a3 t528 ([] : List Int) 0) = some (r1, r2) := H; have A8 := am_ A80; clear A80; have H' := am_ H; clear H
  go_enter Try.func19, Try.ntmps19
  go_wp2_with (first | ((with_reducible refine gate_dst (N := 5) rfl ?_); refine box_event ?hg (N := 5) ?hd (cs := #[.int .i64 a0_0, .bool a0_1, .slice A0_2 l0_2.length c0_2]) (t := 24) ?hr ?_; (case hd => rfl); (case hg => rfl); (case hr => first | (go_simp; done) | (go_simp; rfl)); intro gb525 hg w9 hbox hb; have BK525 := am_ (hbox); have GE525 := am_ ((by rw [hg]; exact (below_size hb_) : w.heap.size ≤ gb525)); replace HB := am_ (below_step hb_ hb); clear hb hbox hg; have hcz10_0 : w9.cell? ⟨gb525, 0, none⟩ = some (.int .i64 a0_0) := (blk_cell BK525.out 0).trans rfl; have hcz10_1 : w9.cell? ⟨gb525, 1, none⟩ = some (.bool a0_1) := (blk_cell BK525.out 1).trans rfl; have hcz10_2 : w9.cell? ⟨gb525, 2, none⟩ = some (.slice A0_2 l0_2.length c0_2) := (blk_cell BK525.out 2).trans rfl; have hfz10_0 := blk_frozen BK525.out 0; have hfz10_1 := blk_frozen BK525.out 1; have hfz10_2 := blk_frozen BK525.out 2) | ((with_reducible refine gate_callee (f := 16) rfl ?_); refine goesL_ (some 24) rfl rfl Try.func16 (by kernel_rfl) rfl #[.agg #[.int .i64 a0_0, .bool a0_1, .slice A0_2 l0_2.length c0_2], .int .i64 a1, .int .i64 a2, .int .i64 a3, .slice A4 l4.length c4] rfl mt_ ?_; (with_reducible refine (ebbtideref14_Check.calls k a0_0 a0_1 _ _ l0_2 a1 a2 a3 _ _ l4 t526 t527 _ ?side1 ?side2 ?side3 ?side4 A6.out).mono ?_); (case side1 => repeat (first | exact (Kd.C_below HR0_2.out HB.out) | (with_reducible refine Kd.C_alloc ?_ _) | (with_reducible refine Kd.C_drewN ?_ _) | (with_reducible refine Kd.C_drew ?_))); (case side2 => exact HC0_2.out); (case side3 => repeat (first | exact (Kd.C_below HR4.out HB.out) | (with_reducible refine Kd.C_alloc ?_ _) | (with_reducible refine Kd.C_drewN ?_ _) | (with_reducible refine Kd.C_drew ?_))); (case side4 => exact HC4.out); rintro e w11 ⟨rfl, hb⟩; refine ⟨_, rfl, ?_⟩; replace BK525 := am_ (blk_below (g := gb525) (o := .cells #[.int .i64 a0_0, .bool a0_1, .slice A0_2 l0_2.length c0_2] 24 (0, 0)) (bq_ BK525.out) hb); replace HB := am_ (below_step hb_ hb); (try clear hb); (try clear hb2); (try clear hk); (try clear hi); have hcz12_0 : w11.cell? ⟨gb525, 0, none⟩ = some (.int .i64 a0_0) := (blk_cell BK525.out 0).trans rfl; have hcz12_1 : w11.cell? ⟨gb525, 1, none⟩ = some (.bool a0_1) := (blk_cell BK525.out 1).trans rfl; have hcz12_2 : w11.cell? ⟨gb525, 2, none⟩ = some (.slice A0_2 l0_2.length c0_2) := (blk_cell BK525.out 2).trans rfl; have hfz12_0 := blk_frozen BK525.out 0; have hfz12_1 := blk_frozen BK525.out 1; have hfz12_2 := blk_frozen BK525.out 2) | ((with_reducible refine gate_callee (f := 12) rfl ?_); refine goesL_ (some 36) rfl rfl Try.func12 (by kernel_rfl) rfl #[.agg #[.int .i64 a0_0, .bool a0_1, .slice A0_2 l0_2.length c0_2], .int .i64 a1, .int .i64 a2, .int .i64 a3, .slice A4 l4.length c4] rfl mt_ ?_; (with_reducible refine (ebbtideref14_Stocks.calls k a0_0 a0_1 _ _ l0_2 a1 a2 a3 _ _ l4 t528 t531 _ ?side1 ?side2 ?side3 ?side4 A8.out).mono ?_); (case side1 => repeat (first | exact (Kd.C_below HR0_2.out HB.out) | (with_reducible refine Kd.C_alloc ?_ _) | (with_reducible refine Kd.C_drewN ?_ _) | (with_reducible refine Kd.C_drew ?_))); (case side2 => exact HC0_2.out); (case side3 => repeat (first | exact (Kd.C_below HR4.out HB.out) | (with_reducible refine Kd.C_alloc ?_ _) | (with_reducible refine Kd.C_drewN ?_ _) | (with_reducible refine Kd.C_drew ?_))); (case side4 => exact HC4.out); rintro e w13 ⟨v529, rfl, ho0, hb⟩; refine ⟨_, rfl, ?_⟩; have HO530 := am_ (Kd.S_lower ho0 (below_size hb_)); replace BK525 := am_ (blk_below (g := gb525) (o := .cells #[.int .i64 a0_0, .bool a0_1, .slice A0_2 l0_2.length c0_2] 24 (0, 0)) (bq_ BK525.out) hb); replace HB := am_ (below_step hb_ hb); (try clear hb); (try clear hb2); (try clear hk); (try clear hi); (try clear ho0)))
  go_loopg [16, 17] k (fun kq v16 v17 w' => ∃ (x16_1 : List Int) (x17_1 : Int), v17 = .int .i64 x17_1 ∧ Aside0 (ebbtideref14_Arrived.l0 kq a2 a3 t528 x16_1 x17_1 = some (r1, r2)) ∧ Aside0 (kq ≤ k) ∧ Aside0 (Kd.S (Kd.slice 3 (Kd.int .i64)) 48 w' w.heap.size (fun k_ => some k_ ≠ (v16 : Value).ownBlock) v529 t528) ∧ Aside0 (Kd.R (Kd.int .i64) 3 w' w.heap.size (fun _ => True) v16 x16_1) ∧ Aside0 (w'.heap[gb525]? = some (.cells #[.int .i64 a0_0, .bool a0_1, (.slice A0_2 l0_2.length c0_2)] 24 (0, 0))) ∧ Aside0 (Below w.heap.size w w'))
  case atStart => exact ⟨(([] : List Int)), (0), rs_, H', ⟨Nat.le_refl _⟩, ⟨by refine sq_ ?_; exact Kd.S_mono HO530.out (fun _ hk => (by simp [Value.ownBlock]))⟩, ⟨by first | exact Kd.R_nil _ _ _ _ _ | exact Kd.N_nil _ _ _ _ _ | exact Kd.V_nil _ _ _ _ _ | exact Kd.Q_nil _ _ _ _ _ | exact Kd.S_nil _ _ _ _ _⟩, ⟨by refine bq_ ?_; exact BK525.out⟩, ⟨by repeat (first | (with_reducible first | exact HB.out | apply below_alloc | apply pw_below_drewN | apply below_drew1 | refine below_set ?_ GE525.out) | exact HB.out)⟩⟩
  case round =>
   clear H'
   try clear c1
   try clear p2
   try clear c4
   try clear c7
   try clear c7b0
   try clear c7b1
   try clear c12
   try clear hcz10_0
   try clear hcz10_1
   try clear hcz10_2
   try clear hcz12_0
   try clear hcz12_1
   try clear hcz12_2
   try clear hfz10_0
   try clear hfz10_1
   try clear hfz10_2
   try clear hfz12_0
   try clear hfz12_1
   try clear hfz12_2
   obtain ⟨x16_1, x17_1, rfl, HA, HK1, HO_14, HO_16, BK525, HB⟩ := hrel
   cases gk with
   | zero => exact absurd HA.out (by simp [ebbtideref14_Arrived.l0])
   | succ k1 =>
    have H := HA.out; clear HA; simp only [ebbtideref14_Arrived.l0] at H
    by_cases c14 : x17_1 ≤ a3
    ·rw [if_pos c14] at H
     have c14b0 : decide (x17_1 ≤ a3) = true := decide_eq_true c14; clear c14
     by_cases c15 : 0 ≤ x17_1
     ·rw [if_pos c15] at H
      have c15b0 : decide (0 ≤ x17_1) = true := decide_eq_true c15; clear c15
      by_cases c16 : x17_1 < (t528.length : Int)
      ·rw [if_pos c16] at H
       have c16b0 : decide (x17_1 < (t528.length : Int)) = true := decide_eq_true c16; clear c16
       by_cases c17 : 0 ≤ a2
       ·rw [if_pos c17] at H
        have c17b0 : decide (0 ≤ a2) = true := decide_eq_true c17; clear c17
        by_cases c18 : a2 < ((rd_L3 t528 x17_1).length : Int)
        ·rw [if_pos c18] at H
         have c18b0 : decide (a2 < ((rd_L3 t528 x17_1).length : Int)) = true := decide_eq_true c18; clear c18
         by_cases c19 : x16_1.length < 17592186044416
         ·rw [if_pos c19] at H
          have LMc19 := am_ c19; clear c19; obtain ⟨y534, hy534⟩ : ∃ y_ : List Int, y_ = (x16_1 ++ [rd (rd_L3 t528 x17_1) a2]) := ⟨_, rfl⟩
          replace H : (ebbtideref14_Arrived.l0 k1 a2 a3 t528 y534 (wrap64 (x17_1 + 1))) = some (r1, r2) := by first | (rw [hy534]; with_reducible exact H) | (have H2_ := (Option.bind_some _ _).symm.trans H; rw [hy534]; with_reducible exact H2_) | (have H2_ := (Option.bind_some _ _).symm.trans H; with_reducible exact H2_) | with_reducible exact H | (rw [hy534]; exact H) | exact H
          have Ny534 := am_ hy534; clear hy534; have H' := am_ H; clear H; obtain ⟨Ao20, co20, eo20⟩ := Kd.S_slice HO_14.out; subst eo20; have p532 : 0 ≤ (x17_1 : Int) := of_decide_eq_true sm_; have q532 : x17_1 < (t528.length : Int) := of_decide_eq_true sm_; obtain ⟨ad532, A532_0, c532_0, e532, hx532_0, hl532_0, hi532_0⟩ := at_L3 (Kd.S_reads' HO_14.out).2.2 x17_1 p532 q532; cases e532; obtain ⟨ce532, hce532, hMe532, hcc532⟩ := Kd.S_get HO_14.out [] x17_1 p532 (by first | exact q532 | exact of_decide_eq_true sm_ | (have e_ := (Kd.S_reads' HO_14.out).1; omega)); obtain ⟨ve532_0, rfl, ge532_0⟩ := hMe532; have hv532_0 := hcc532 0 _ rfl; rw [Nat.add_zero, show ((Kd.slice 3 (Kd.int .i64))).sz = 1 from rfl, Nat.mul_one] at hv532_0; replace hv532_0 := Option.some.inj (hv532_0.symm.trans hx532_0); rw [hv532_0] at ge532_0; have HL532_0 := am_ (show Kd.R (Kd.int .i64) 3 _ _ _ _ (rd_L3 t528 x17_1) from ge532_0); clear hv532_0 ge532_0; clear hcc532 hce532; have HR532_0 := am_ hi532_0; have HC532_0 := am_ hl532_0; clear hi532_0 hl532_0; replace p532 := eq_true p532; replace q532 := eq_true q532; have p533 : 0 ≤ (a2 : Int) := of_decide_eq_true sm_; have q533 : a2 < ((rd_L3 t528 x17_1).length : Int) := of_decide_eq_true sm_; obtain ⟨ad533, e533, hx533_0⟩ := Kd.at_int (by repeat (first | (with_reducible exact HR532_0.out) | (with_reducible refine Kd.C_alloc ?_ _) | (with_reducible refine Kd.C_drewN ?_ _) | (with_reducible refine Kd.C_drew ?_) | exact HR532_0.out)) a2 p533 q533; cases e533; replace p533 := eq_true p533; replace q533 := eq_true q533
          go_wp2_with (first | ((with_reducible refine gate_builtin (b := .append) (xs := #[.tmp 44, .tmp 52]) rfl ?_); at_builtin; refine Kd.R_append (Kd.int .i64) (w0 := w) w.heap.size rfl (.tmp 44) (.tmp 52) 48 3 (.int .i64 0) 8 rfl Try.underlying48 info3 rfl (by decide) (by omega) u16 x16_1 (rd (rd_L3 t528 x17_1) a2) [.int .i64 (rd (rd_L3 t528 x17_1) a2)] (fun _ => True) (fun _ => False) rfl rfl ?aP (fun _ hk => hk.elim) ?aF ?aO ?aB ?aS ?aL ?_; (case aP => exact rfl); (case aB => exact hb_); (case aF => exact (fun _ _ => trivial)); (case aO => exact (rq_ HO_16.out)); (case aS => exact (below_size hb_)); (case aL => have := LMc19.out; omega); intro v535 w21 ho hb hg hat; rw [← Ny534.out] at ho; replace HO_14 := am_ (Kd.S_after (ok := (fun _ => True)) (by refine sq_ ?_; exact Kd.S_mono HO_14.out (fun _ hk => ⟨trivial, hk⟩)) hg hat); replace BK525 := am_ (blk_grown (g := gb525) (o := .cells #[.int .i64 a0_0, .bool a0_1, .slice A0_2 l0_2.length c0_2] 24 (0, 0)) (bq_ BK525.out) hg (Kd.R_ne HO_16.out BK525.out (by decide))); replace HL532_0 := am_ (Kd.R_after (ok := (fun k_ => some k_ ≠ (.slice (some ad532) t528.length co20 : Value).ownBlock)) (by refine rq_ ?_; exact Kd.R_mono HL532_0.out (fun _ hk => ⟨hk.2, hk.1⟩)) hg hat); replace HB := am_ (hb); have HO536 := am_ (ho); clear HO_16; clear ho hb hg hat))
          go_roundg k1
          case measure => have := HK1.out; omega
          case rel => exact ⟨(y534), (wrap64 (x17_1 + 1)), rs_, H', ⟨by have := HK1.out; omega⟩, ⟨by refine sq_ ?_; exact Kd.S_mono HO_14.out (fun _ hk => hk.2)⟩, ⟨by refine rq_ ?_; exact HO536.out⟩, ⟨by refine bq_ ?_; exact BK525.out⟩, ⟨by repeat (first | (with_reducible first | exact HB.out | apply below_alloc | apply pw_below_drewN | apply below_drew1 | refine below_set ?_ GE525.out) | exact HB.out)⟩⟩
         ·rw [if_neg c19] at H
          exact absurd H (by simp)
        ·rw [if_neg c18] at H
         exact absurd H (by simp)
       ·rw [if_neg c17] at H
        exact absurd H (by simp)
      ·rw [if_neg c16] at H
       exact absurd H (by simp)
     ·rw [if_neg c15] at H
      exact absurd H (by simp)
    ·rw [if_neg c14] at H
     have c14b0 : decide (x17_1 ≤ a3) = false := decide_eq_false c14; clear c14; simp only [Option.some.injEq, Prod.mk.injEq] at H; obtain ⟨rfl, rfl⟩ := H
     go_wp2
     go_ret2
     exact ⟨_, by first | rfl | (simp [errW_none, errW_some] <;> rfl) | (simp [*, errW_none, errW_some] <;> rfl), by refine rq_ ?_; exact HO_16.out, by repeat (first | (with_reducible first | exact HB.out | apply below_alloc | apply pw_below_drewN | apply below_drew1 | refine below_set ?_ GE525.out) | exact HB.out)⟩
 ·rw [if_neg c7] at H
  have c7b0 : (t527 == 0) = false := beq_eq_false_iff_ne.mpr c7; have c7b1 : (t527 != 0) = true := bne_iff_ne.mpr c7; simp only [Option.some.injEq, Prod.mk.injEq] at H; obtain ⟨rfl, rfl⟩ := H
  go_enter Try.func19, Try.ntmps19
  go_wp2_with (first | ((with_reducible refine gate_dst (N := 5) rfl ?_); refine box_event ?hg (N := 5) ?hd (cs := #[.int .i64 a0_0, .bool a0_1, .slice A0_2 l0_2.length c0_2]) (t := 24) ?hr ?_; (case hd => rfl); (case hg => rfl); (case hr => first | (go_simp; done) | (go_simp; rfl)); intro gb525 hg w22 hbox hb; have BK525 := am_ (hbox); have GE525 := am_ ((by rw [hg]; exact (below_size hb_) : w.heap.size ≤ gb525)); replace HB := am_ (below_step hb_ hb); clear hb hbox hg; have hcz23_0 : w22.cell? ⟨gb525, 0, none⟩ = some (.int .i64 a0_0) := (blk_cell BK525.out 0).trans rfl; have hcz23_1 : w22.cell? ⟨gb525, 1, none⟩ = some (.bool a0_1) := (blk_cell BK525.out 1).trans rfl; have hcz23_2 : w22.cell? ⟨gb525, 2, none⟩ = some (.slice A0_2 l0_2.length c0_2) := (blk_cell BK525.out 2).trans rfl; have hfz23_0 := blk_frozen BK525.out 0; have hfz23_1 := blk_frozen BK525.out 1; have hfz23_2 := blk_frozen BK525.out 2) | ((with_reducible refine gate_callee (f := 16) rfl ?_); refine goesL_ (some 24) rfl rfl Try.func16 (by kernel_rfl) rfl #[.agg #[.int .i64 a0_0, .bool a0_1, .slice A0_2 l0_2.length c0_2], .int .i64 a1, .int .i64 a2, .int .i64 a3, .slice A4 l4.length c4] rfl mt_ ?_; (with_reducible refine (ebbtideref14_Check.calls k a0_0 a0_1 _ _ l0_2 a1 a2 a3 _ _ l4 t526 t527 _ ?side1 ?side2 ?side3 ?side4 A6.out).mono ?_); (case side1 => repeat (first | exact (Kd.C_below HR0_2.out HB.out) | (with_reducible refine Kd.C_alloc ?_ _) | (with_reducible refine Kd.C_drewN ?_ _) | (with_reducible refine Kd.C_drew ?_))); (case side2 => exact HC0_2.out); (case side3 => repeat (first | exact (Kd.C_below HR4.out HB.out) | (with_reducible refine Kd.C_alloc ?_ _) | (with_reducible refine Kd.C_drewN ?_ _) | (with_reducible refine Kd.C_drew ?_))); (case side4 => exact HC4.out); rintro e w24 ⟨rfl, hb⟩; refine ⟨_, rfl, ?_⟩; replace BK525 := am_ (blk_below (g := gb525) (o := .cells #[.int .i64 a0_0, .bool a0_1, .slice A0_2 l0_2.length c0_2] 24 (0, 0)) (bq_ BK525.out) hb); replace HB := am_ (below_step hb_ hb); (try clear hb); (try clear hb2); (try clear hk); (try clear hi)))
  go_ret2
  exact ⟨_, by first | rfl | (simp [errW_none, errW_some] <;> rfl) | (simp [*, errW_none, errW_some] <;> rfl), by first | exact Kd.R_nil _ _ _ _ _ | exact Kd.N_nil _ _ _ _ _ | exact Kd.V_nil _ _ _ _ _ | exact Kd.Q_nil _ _ _ _ _ | exact Kd.S_nil _ _ _ _ _, by repeat (first | (with_reducible first | exact HB.out | apply below_alloc | apply pw_below_drewN | apply below_drew1 | refine below_set ?_ GE525.out) | exact HB.out)⟩
end Go.Proofs.Ytdghehebkalbgaa.Q
end
section
namespace Go.Proofs.Ytdghehebkalbgaa.Q
open Go.RowKit Go.Proofs.YtdghehebkalbgaaW.PrintWords Go.Proofs.YtdghehebkalbgaaW.PrintLast Go.Proofs.YtdghehebkalbgaaW.PrintMore
attribute [local go_sem] max2_int min2_int max_two min_two min_four
set_option linter.unusedVariables false
set_option linter.unusedSimpArgs false
def plan_Still.f (k : Nat) (a0_0 : Int) (a0_1 : Bool) (l0_2 : List (S47)) (a1 : Int) (a2 : Int) (a3 : Int) (l4 : List (S45)) : Option (Bool × Int) := (plan_checked.f k a0_0 true l0_2 a1 a2 a3 l4).bind fun bt538 => (if bt538.2 = 0 then ((plan_ordinary.f k bt538.1 a1 a2 false).bind fun t542 => (some (t542, 0))) else (some (false, bt538.2)))
set_option maxHeartbeats 8000000 in
set_option maxRecDepth 100000 in
theorem plan_Still.calls (k : Nat) (a0_0 : Int) (a0_1 : Bool) (A0_2 : Option Addr) (c0_2 : Nat) (l0_2 : List (S47)) (a1 : Int) (a2 : Int) (a3 : Int) (A4 : Option Addr) (c4 : Nat) (l4 : List (S45)) (r1 : Bool) (r2 : Int) (w : World) (hr0_2 : Kd.C k47 w A0_2 l0_2.length l0_2) (hc0_2 : l0_2.length ≤ c0_2) (hr4 : Kd.C k45 w A4 l4.length l4) (hc4 : l4.length ≤ c4) (h : plan_Still.f k a0_0 a0_1 l0_2 a1 a2 a3 l4 = some (r1, r2)) :
  Calls Try.prog 20 #[.agg #[.int .i64 a0_0, .bool a0_1, .slice A0_2 l0_2.length c0_2], .int .i64 a1, .int .i64 a2, .int .i64 a3, .slice A4 l4.length c4] w fun e w' => e = .returned (.tuple #[.bool r1, .int .i64 r2]) ∧ Below w.heap.size w w' := by
 have hu24 := Try.underlying24; have HR0_2 := am_ hr0_2; have HC0_2 := am_ hc0_2; clear hr0_2 hc0_2; have HR4 := am_ hr4; have HC4 := am_ hc4; clear hr4 hc4; have HB := am_ (Below.refl w.heap.size w); have H : ((plan_checked.f k a0_0 true l0_2 a1 a2 a3 l4).bind fun bt538 => (if bt538.2 = 0 then ((plan_ordinary.f k bt538.1 a1 a2 false).bind fun t542 => (some (t542, 0))) else (some (false, bt538.2)))) = some (r1, r2) := h; clear h; replace H := Option.bind_eq_some_iff.mp H; obtain ⟨⟨t538, t541⟩, A60, H⟩ := H; replace H : (if t541 = 0 then ((plan_ordinary.f k t538 a1 a2 false).bind fun t542 => (some (t542, 0))) else (some (false, t541))) = some (r1, r2) := H; have A6 := am_ A60; clear A60
 by_cases c7 : t541 = 0
 ·rw [if_pos c7] at H
  have c7b0 : (t541 == 0) = true := beq_iff_eq.mpr c7; have c7b1 : (t541 != 0) = false := bne_eq_false_iff_eq.mpr c7; clear c7; replace H := Option.bind_eq_some_iff.mp H; obtain ⟨t542, A80, H⟩ := H; replace H : (some (t542, 0)) = some (r1, r2) := H; have A8 := am_ A80; clear A80; simp only [Option.some.injEq, Prod.mk.injEq] at H; obtain ⟨rfl, rfl⟩ := H
  go_enter Try.func20, Try.ntmps20
  go_wp2_with (first | ((with_reducible refine gate_dst (N := 5) rfl ?_); refine box_event ?hg (N := 5) ?hd (cs := #[.int .i64 a0_0, .bool a0_1, .slice A0_2 l0_2.length c0_2]) (t := 24) ?hr ?_; (case hd => rfl); (case hg => rfl); (case hr => first | (go_simp; done) | (go_simp; rfl)); intro gb537 hg w9 hbox hb; have BK537 := am_ (hbox); have GE537 := am_ ((by rw [hg]; exact (below_size hb_) : w.heap.size ≤ gb537)); replace HB := am_ (below_step hb_ hb); clear hb hbox hg; have hcz10_0 : w9.cell? ⟨gb537, 0, none⟩ = some (.int .i64 a0_0) := (blk_cell BK537.out 0).trans rfl; have hcz10_1 : w9.cell? ⟨gb537, 1, none⟩ = some (.bool a0_1) := (blk_cell BK537.out 1).trans rfl; have hcz10_2 : w9.cell? ⟨gb537, 2, none⟩ = some (.slice A0_2 l0_2.length c0_2) := (blk_cell BK537.out 2).trans rfl; have hfz10_0 := blk_frozen BK537.out 0; have hfz10_1 := blk_frozen BK537.out 1; have hfz10_2 := blk_frozen BK537.out 2) | ((with_reducible refine gate_callee (f := 29) rfl ?_); refine goesL_ (some 21) rfl rfl Try.func29 (by kernel_rfl) rfl #[.agg #[.int .i64 a0_0, .bool true, .slice A0_2 l0_2.length c0_2], .int .i64 a1, .int .i64 a2, .int .i64 a3, .slice A4 l4.length c4] rfl mt_ ?_; (with_reducible refine (plan_checked.calls k a0_0 true _ _ l0_2 a1 a2 a3 _ _ l4 t538 t541 _ ?side1 ?side2 ?side3 ?side4 A6.out).mono ?_); (case side1 => exact Kd.C_below HR0_2.out hb_); (case side2 => exact HC0_2.out); (case side3 => exact Kd.C_below HR4.out hb_); (case side4 => exact HC4.out); rintro e w11 ⟨v539, rfl, ho0, hb⟩; refine ⟨_, rfl, ?_⟩; have HO540 := am_ (Kd.S_lower ho0 (below_size hb_)); replace BK537 := am_ (blk_below (g := gb537) (o := .cells #[.int .i64 a0_0, .bool true, .slice A0_2 l0_2.length c0_2] 24 (0, 0)) (by refine bq_ ?_; refine blk_put (cs := #[.int .i64 a0_0, .bool a0_1, .slice A0_2 l0_2.length c0_2]) ?_ 1 _ rfl; refine bq_ ?_; exact BK537.out) hb); replace HB := am_ (below_step hb_ hb); (try clear hb); (try clear hb2); (try clear hk); (try clear hi); (try clear ho0); obtain ⟨Ao12, co12, eo12⟩ := Kd.S_slice HO540.out; subst eo12) | ((with_reducible refine gate_callee (f := 31) rfl ?_); refine goesL_ (some 30) rfl rfl Try.func31 (by kernel_rfl) rfl #[.slice Ao12 t538.length co12, .int .i64 a1, .int .i64 a2, .bool false] rfl mt_ ?_; (with_reducible refine (plan_ordinary.calls k _ _ t538 a1 a2 false t542 _ ?side1 ?side2 A8.out).mono ?_); (case side1 => repeat (first | exact (Kd.S_reads' HO540.out).2.2 | (with_reducible refine Kd.C_alloc ?_ _) | (with_reducible refine Kd.C_drewN ?_ _) | (with_reducible refine Kd.C_drew ?_))); (case side2 => exact (Kd.S_reads' HO540.out).2.1); rintro e w' ⟨rfl, ⟨nd, rfl⟩⟩; refine ⟨_, rfl, ?_⟩))
  go_ret2
  exact ⟨by first | rfl | (simp [errW_none, errW_some] <;> rfl) | (simp [*, errW_none, errW_some] <;> rfl), by repeat (first | (with_reducible first | exact HB.out | apply below_alloc | apply pw_below_drewN | apply below_drew1 | refine below_set ?_ GE537.out) | exact HB.out)⟩
 ·rw [if_neg c7] at H
  have c7b0 : (t541 == 0) = false := beq_eq_false_iff_ne.mpr c7; have c7b1 : (t541 != 0) = true := bne_iff_ne.mpr c7; simp only [Option.some.injEq, Prod.mk.injEq] at H; obtain ⟨rfl, rfl⟩ := H
  go_enter Try.func20, Try.ntmps20
  go_wp2_with (first | ((with_reducible refine gate_dst (N := 5) rfl ?_); refine box_event ?hg (N := 5) ?hd (cs := #[.int .i64 a0_0, .bool a0_1, .slice A0_2 l0_2.length c0_2]) (t := 24) ?hr ?_; (case hd => rfl); (case hg => rfl); (case hr => first | (go_simp; done) | (go_simp; rfl)); intro gb537 hg w13 hbox hb; have BK537 := am_ (hbox); have GE537 := am_ ((by rw [hg]; exact (below_size hb_) : w.heap.size ≤ gb537)); replace HB := am_ (below_step hb_ hb); clear hb hbox hg; have hcz14_0 : w13.cell? ⟨gb537, 0, none⟩ = some (.int .i64 a0_0) := (blk_cell BK537.out 0).trans rfl; have hcz14_1 : w13.cell? ⟨gb537, 1, none⟩ = some (.bool a0_1) := (blk_cell BK537.out 1).trans rfl; have hcz14_2 : w13.cell? ⟨gb537, 2, none⟩ = some (.slice A0_2 l0_2.length c0_2) := (blk_cell BK537.out 2).trans rfl; have hfz14_0 := blk_frozen BK537.out 0; have hfz14_1 := blk_frozen BK537.out 1; have hfz14_2 := blk_frozen BK537.out 2) | ((with_reducible refine gate_callee (f := 29) rfl ?_); refine goesL_ (some 21) rfl rfl Try.func29 (by kernel_rfl) rfl #[.agg #[.int .i64 a0_0, .bool true, .slice A0_2 l0_2.length c0_2], .int .i64 a1, .int .i64 a2, .int .i64 a3, .slice A4 l4.length c4] rfl mt_ ?_; (with_reducible refine (plan_checked.calls k a0_0 true _ _ l0_2 a1 a2 a3 _ _ l4 t538 t541 _ ?side1 ?side2 ?side3 ?side4 A6.out).mono ?_); (case side1 => exact Kd.C_below HR0_2.out hb_); (case side2 => exact HC0_2.out); (case side3 => exact Kd.C_below HR4.out hb_); (case side4 => exact HC4.out); rintro e w15 ⟨v539, rfl, ho0, hb⟩; refine ⟨_, rfl, ?_⟩; have HO540 := am_ (Kd.S_lower ho0 (below_size hb_)); replace BK537 := am_ (blk_below (g := gb537) (o := .cells #[.int .i64 a0_0, .bool true, .slice A0_2 l0_2.length c0_2] 24 (0, 0)) (by refine bq_ ?_; refine blk_put (cs := #[.int .i64 a0_0, .bool a0_1, .slice A0_2 l0_2.length c0_2]) ?_ 1 _ rfl; refine bq_ ?_; exact BK537.out) hb); replace HB := am_ (below_step hb_ hb); (try clear hb); (try clear hb2); (try clear hk); (try clear hi); (try clear ho0)))
  go_ret2
  exact ⟨by first | rfl | (simp [errW_none, errW_some] <;> rfl) | (simp [*, errW_none, errW_some] <;> rfl), by repeat (first | (with_reducible first | exact HB.out | apply below_alloc | apply pw_below_drewN | apply below_drew1 | refine below_set ?_ GE537.out) | exact HB.out)⟩
end Go.Proofs.Ytdghehebkalbgaa.Q
end
section
namespace Go.Proofs.Ytdghehebkalbgaa.Q
open Go.RowKit Go.Proofs.YtdghehebkalbgaaW.PrintWords Go.Proofs.YtdghehebkalbgaaW.PrintLast Go.Proofs.YtdghehebkalbgaaW.PrintMore
attribute [local go_sem] max2_int min2_int max_two min_two min_four
set_option linter.unusedVariables false
set_option linter.unusedSimpArgs false
def ebbtideref14_Still.f (k : Nat) (a0_0 : Int) (a0_1 : Bool) (l0_2 : List (S47)) (a1 : Int) (a2 : Int) (a3 : Int) (l4 : List (S45)) : Option (Bool × Int) := (ebbtideref14_Check.f k a0_0 true l0_2 a1 a2 a3 l4).bind fun bt544 => (if bt544.2 = 0 then ((ebbtideref14_Check.f k a0_0 false l0_2 a1 a2 a3 l4).bind fun bt546 => (some ((bt546.2 == 0), 0))) else (some (false, bt544.2)))
set_option maxHeartbeats 8000000 in
set_option maxRecDepth 100000 in
theorem ebbtideref14_Still.calls (k : Nat) (a0_0 : Int) (a0_1 : Bool) (A0_2 : Option Addr) (c0_2 : Nat) (l0_2 : List (S47)) (a1 : Int) (a2 : Int) (a3 : Int) (A4 : Option Addr) (c4 : Nat) (l4 : List (S45)) (r1 : Bool) (r2 : Int) (w : World) (hr0_2 : Kd.C k47 w A0_2 l0_2.length l0_2) (hc0_2 : l0_2.length ≤ c0_2) (hr4 : Kd.C k45 w A4 l4.length l4) (hc4 : l4.length ≤ c4) (h : ebbtideref14_Still.f k a0_0 a0_1 l0_2 a1 a2 a3 l4 = some (r1, r2)) :
  Calls Try.prog 21 #[.agg #[.int .i64 a0_0, .bool a0_1, .slice A0_2 l0_2.length c0_2], .int .i64 a1, .int .i64 a2, .int .i64 a3, .slice A4 l4.length c4] w fun e w' => e = .returned (.tuple #[.bool r1, .int .i64 r2]) ∧ Below w.heap.size w w' := by
 have hu24 := Try.underlying24; have HR0_2 := am_ hr0_2; have HC0_2 := am_ hc0_2; clear hr0_2 hc0_2; have HR4 := am_ hr4; have HC4 := am_ hc4; clear hr4 hc4; have HB := am_ (Below.refl w.heap.size w); have H : ((ebbtideref14_Check.f k a0_0 true l0_2 a1 a2 a3 l4).bind fun bt544 => (if bt544.2 = 0 then ((ebbtideref14_Check.f k a0_0 false l0_2 a1 a2 a3 l4).bind fun bt546 => (some ((bt546.2 == 0), 0))) else (some (false, bt544.2)))) = some (r1, r2) := h; clear h; replace H := Option.bind_eq_some_iff.mp H; obtain ⟨⟨t544, t545⟩, A60, H⟩ := H; replace H : (if t545 = 0 then ((ebbtideref14_Check.f k a0_0 false l0_2 a1 a2 a3 l4).bind fun bt546 => (some ((bt546.2 == 0), 0))) else (some (false, t545))) = some (r1, r2) := H; have A6 := am_ A60; clear A60
 by_cases c7 : t545 = 0
 ·rw [if_pos c7] at H
  have c7b0 : (t545 == 0) = true := beq_iff_eq.mpr c7; have c7b1 : (t545 != 0) = false := bne_eq_false_iff_eq.mpr c7; clear c7; replace H := Option.bind_eq_some_iff.mp H; obtain ⟨⟨t546, t547⟩, A80, H⟩ := H; replace H : (some ((t547 == 0), 0)) = some (r1, r2) := H; have A8 := am_ A80; clear A80; simp only [Option.some.injEq, Prod.mk.injEq] at H; obtain ⟨rfl, rfl⟩ := H
  go_enter Try.func21, Try.ntmps21
  go_wp2_with (first | ((with_reducible refine gate_dst (N := 5) rfl ?_); refine box_event ?hg (N := 5) ?hd (cs := #[.int .i64 a0_0, .bool a0_1, .slice A0_2 l0_2.length c0_2]) (t := 24) ?hr ?_; (case hd => rfl); (case hg => rfl); (case hr => first | (go_simp; done) | (go_simp; rfl)); intro gb543 hg w9 hbox hb; have BK543 := am_ (hbox); have GE543 := am_ ((by rw [hg]; exact (below_size hb_) : w.heap.size ≤ gb543)); replace HB := am_ (below_step hb_ hb); clear hb hbox hg; have hcz10_0 : w9.cell? ⟨gb543, 0, none⟩ = some (.int .i64 a0_0) := (blk_cell BK543.out 0).trans rfl; have hcz10_1 : w9.cell? ⟨gb543, 1, none⟩ = some (.bool a0_1) := (blk_cell BK543.out 1).trans rfl; have hcz10_2 : w9.cell? ⟨gb543, 2, none⟩ = some (.slice A0_2 l0_2.length c0_2) := (blk_cell BK543.out 2).trans rfl; have hfz10_0 := blk_frozen BK543.out 0; have hfz10_1 := blk_frozen BK543.out 1; have hfz10_2 := blk_frozen BK543.out 2) | ((with_reducible refine gate_callee (f := 16) rfl ?_); refine goesL_ (some 21) rfl rfl Try.func16 (by kernel_rfl) rfl #[.agg #[.int .i64 a0_0, .bool true, .slice A0_2 l0_2.length c0_2], .int .i64 a1, .int .i64 a2, .int .i64 a3, .slice A4 l4.length c4] rfl mt_ ?_; (with_reducible refine (ebbtideref14_Check.calls k a0_0 true _ _ l0_2 a1 a2 a3 _ _ l4 t544 t545 _ ?side1 ?side2 ?side3 ?side4 A6.out).mono ?_); (case side1 => exact Kd.C_below HR0_2.out hb_); (case side2 => exact HC0_2.out); (case side3 => exact Kd.C_below HR4.out hb_); (case side4 => exact HC4.out); rintro e w11 ⟨rfl, hb⟩; refine ⟨_, rfl, ?_⟩; replace BK543 := am_ (blk_below (g := gb543) (o := .cells #[.int .i64 a0_0, .bool true, .slice A0_2 l0_2.length c0_2] 24 (0, 0)) (by refine bq_ ?_; refine blk_put (cs := #[.int .i64 a0_0, .bool a0_1, .slice A0_2 l0_2.length c0_2]) ?_ 1 _ rfl; refine bq_ ?_; exact BK543.out) hb); replace HB := am_ (below_step hb_ hb); (try clear hb); (try clear hb2); (try clear hk); (try clear hi); have hcz12_0 : w11.cell? ⟨gb543, 0, none⟩ = some (.int .i64 a0_0) := (blk_cell BK543.out 0).trans rfl; have hcz12_1 : w11.cell? ⟨gb543, 1, none⟩ = some (.bool true) := (blk_cell BK543.out 1).trans rfl; have hcz12_2 : w11.cell? ⟨gb543, 2, none⟩ = some (.slice A0_2 l0_2.length c0_2) := (blk_cell BK543.out 2).trans rfl; have hfz12_0 := blk_frozen BK543.out 0; have hfz12_1 := blk_frozen BK543.out 1; have hfz12_2 := blk_frozen BK543.out 2) | ((with_reducible refine gate_callee (f := 16) rfl ?_); refine goesL_ (some 34) rfl rfl Try.func16 (by kernel_rfl) rfl #[.agg #[.int .i64 a0_0, .bool false, .slice A0_2 l0_2.length c0_2], .int .i64 a1, .int .i64 a2, .int .i64 a3, .slice A4 l4.length c4] rfl mt_ ?_; (with_reducible refine (ebbtideref14_Check.calls k a0_0 false _ _ l0_2 a1 a2 a3 _ _ l4 t546 t547 _ ?side1 ?side2 ?side3 ?side4 A8.out).mono ?_); (case side1 => exact Kd.C_below HR0_2.out hb_); (case side2 => exact HC0_2.out); (case side3 => exact Kd.C_below HR4.out hb_); (case side4 => exact HC4.out); rintro e w13 ⟨rfl, hb⟩; refine ⟨_, rfl, ?_⟩; replace BK543 := am_ (blk_below (g := gb543) (o := .cells #[.int .i64 a0_0, .bool false, .slice A0_2 l0_2.length c0_2] 24 (0, 0)) (by refine bq_ ?_; refine blk_put (cs := #[.int .i64 a0_0, .bool true, .slice A0_2 l0_2.length c0_2]) ?_ 1 _ rfl; refine bq_ ?_; exact BK543.out) hb); replace HB := am_ (below_step hb_ hb); (try clear hb); (try clear hb2); (try clear hk); (try clear hi)))
  go_ret2
  exact ⟨by first | rfl | (simp [errW_none, errW_some] <;> rfl) | (simp [*, errW_none, errW_some] <;> rfl), by repeat (first | (with_reducible first | exact HB.out | apply below_alloc | apply pw_below_drewN | apply below_drew1 | refine below_set ?_ GE543.out) | exact HB.out)⟩
 ·rw [if_neg c7] at H
  have c7b0 : (t545 == 0) = false := beq_eq_false_iff_ne.mpr c7; have c7b1 : (t545 != 0) = true := bne_iff_ne.mpr c7; simp only [Option.some.injEq, Prod.mk.injEq] at H; obtain ⟨rfl, rfl⟩ := H
  go_enter Try.func21, Try.ntmps21
  go_wp2_with (first | ((with_reducible refine gate_dst (N := 5) rfl ?_); refine box_event ?hg (N := 5) ?hd (cs := #[.int .i64 a0_0, .bool a0_1, .slice A0_2 l0_2.length c0_2]) (t := 24) ?hr ?_; (case hd => rfl); (case hg => rfl); (case hr => first | (go_simp; done) | (go_simp; rfl)); intro gb543 hg w14 hbox hb; have BK543 := am_ (hbox); have GE543 := am_ ((by rw [hg]; exact (below_size hb_) : w.heap.size ≤ gb543)); replace HB := am_ (below_step hb_ hb); clear hb hbox hg; have hcz15_0 : w14.cell? ⟨gb543, 0, none⟩ = some (.int .i64 a0_0) := (blk_cell BK543.out 0).trans rfl; have hcz15_1 : w14.cell? ⟨gb543, 1, none⟩ = some (.bool a0_1) := (blk_cell BK543.out 1).trans rfl; have hcz15_2 : w14.cell? ⟨gb543, 2, none⟩ = some (.slice A0_2 l0_2.length c0_2) := (blk_cell BK543.out 2).trans rfl; have hfz15_0 := blk_frozen BK543.out 0; have hfz15_1 := blk_frozen BK543.out 1; have hfz15_2 := blk_frozen BK543.out 2) | ((with_reducible refine gate_callee (f := 16) rfl ?_); refine goesL_ (some 21) rfl rfl Try.func16 (by kernel_rfl) rfl #[.agg #[.int .i64 a0_0, .bool true, .slice A0_2 l0_2.length c0_2], .int .i64 a1, .int .i64 a2, .int .i64 a3, .slice A4 l4.length c4] rfl mt_ ?_; (with_reducible refine (ebbtideref14_Check.calls k a0_0 true _ _ l0_2 a1 a2 a3 _ _ l4 t544 t545 _ ?side1 ?side2 ?side3 ?side4 A6.out).mono ?_); (case side1 => exact Kd.C_below HR0_2.out hb_); (case side2 => exact HC0_2.out); (case side3 => exact Kd.C_below HR4.out hb_); (case side4 => exact HC4.out); rintro e w16 ⟨rfl, hb⟩; refine ⟨_, rfl, ?_⟩; replace BK543 := am_ (blk_below (g := gb543) (o := .cells #[.int .i64 a0_0, .bool true, .slice A0_2 l0_2.length c0_2] 24 (0, 0)) (by refine bq_ ?_; refine blk_put (cs := #[.int .i64 a0_0, .bool a0_1, .slice A0_2 l0_2.length c0_2]) ?_ 1 _ rfl; refine bq_ ?_; exact BK543.out) hb); replace HB := am_ (below_step hb_ hb); (try clear hb); (try clear hb2); (try clear hk); (try clear hi)))
  go_ret2
  exact ⟨by first | rfl | (simp [errW_none, errW_some] <;> rfl) | (simp [*, errW_none, errW_some] <;> rfl), by repeat (first | (with_reducible first | exact HB.out | apply below_alloc | apply pw_below_drewN | apply below_drew1 | refine below_set ?_ GE543.out) | exact HB.out)⟩
end Go.Proofs.Ytdghehebkalbgaa.Q
end
section
namespace Go.Proofs.Ytdghehebkalbgaa.P
open Go.RowKit Go.Proofs.Ytdghehebkalbgaa.Q Go.Proofs.YtdghehebkalbgaaW.PrintWords Go.Proofs.YtdghehebkalbgaaW.PrintLast Go.Proofs.YtdghehebkalbgaaW.PrintMore
theorem wi64 (n : Int) : IntKind.i64.wrap n = wrap64 n := by
  simp [IntKind.wrap, IntKind.bits, IntKind.signed, wrap64]; split <;> omega
theorem ofInt_nat (a : Int) : ((BitVec.ofInt 64 a).toNat : Int) = a % 18446744073709551616 := by
  rw [BitVec.toNat_ofInt]
  omega
theorem w64_id {n : Int} (h0 : -9223372036854775808 ≤ n) (h1 : n ≤ 9223372036854775807) : wrap64 n = n := by unfold wrap64; omega
theorem and_low {a : Int} (_h0 : -9223372036854775808 ≤ a) (_h1 : a ≤ 9223372036854775807) : Go.bits .and .i64 a 4294967295 = a % 4294967296 := by
  show IntKind.i64.wrap ((BitVec.ofInt 64 a &&& BitVec.ofInt 64 4294967295).toNat) = _
  have ha := ofInt_nat a
  have hm : (BitVec.ofInt 64 4294967295).toNat = 2 ^ 32 - 1 := by decide
  rw [wi64, BitVec.toNat_and, hm, Nat.and_two_pow_sub_one_eq_mod]
  unfold wrap64
  omega
def sh (l : List Int) : Int := (l.map fun x => x / 4294967296).sum
def sl (l : List Int) : Int := (l.map fun x => x % 4294967296).sum
theorem halves (l : List Int) : l.sum = sh l * 4294967296 + sl l := by
  unfold sh sl
  induction l with
  | nil => rfl
  | cons x r ih => simp only [List.map_cons, List.sum_cons, ih]; omega
theorem half_bd (l : List Int) (h : ∀ x ∈ l, -9223372036854775808 ≤ x ∧ x ≤ 9223372036854775807) : -2147483648 * (l.length : Int) ≤ sh l ∧ sh l ≤ 2147483647 * (l.length : Int) ∧ 0 ≤ sl l ∧ sl l ≤ 4294967295 * (l.length : Int) := by
  unfold sh sl
  induction l with
  | nil => simp
  | cons x r ih =>
    have := ih (fun y hy => h y (List.mem_cons_of_mem _ hy))
    have := h x List.mem_cons_self
    simp only [List.map_cons, List.sum_cons, List.length_cons]
    omega
theorem rsum_loop (l : List Int) (hl : l.length ≤ 1048576) (hw : ∀ x ∈ l, -9223372036854775808 ≤ x ∧ x ≤ 9223372036854775807) (d : Nat) : ∀ (j k : Nat), j + d = l.length → d < k →
    ebbtideref01_Sum.l0 k l (sh (l.take j)) (sl (l.take j)) (j : Int) = some (sumFit l.sum) := by
  induction d with
  | zero =>
    intro j k hj hk
    obtain ⟨k, rfl⟩ : ∃ m, k = m + 1 := ⟨k - 1, by omega⟩
    have hb := half_bd l hw
    have hs := halves l
    rw [ebbtideref01_Sum.l0, if_neg (by omega), List.take_of_length_le (by omega), and_low (by omega) (by omega), w64_id (n := sh l + sl l / 4294967296) (by omega) (by omega)]
    unfold sumFit
    by_cases c : -9223372036854775808 ≤ l.sum ∧ l.sum ≤ 9223372036854775807
    · rw [if_pos c, if_neg (by omega), if_neg (by omega), w64_id (n := (sh l + sl l / 4294967296) * 4294967296) (by omega) (by omega), w64_id (by omega) (by omega)]
      exact congrArg some (Prod.ext (by show _ = _; simp only; omega) rfl)
    · rw [if_neg c]
      by_cases c1 : sh l + sl l / 4294967296 < -2147483648
      · rw [if_pos c1]
      · rw [if_neg c1, if_pos (by omega)]
  | succ d ih =>
    intro j k hj hk
    obtain ⟨k, rfl⟩ : ∃ m, k = m + 1 := ⟨k - 1, by omega⟩
    have hlt : j < l.length := by omega
    have hx := hw l[j] (List.getElem_mem hlt)
    have hb := half_bd (l.take j) (fun x hx => hw x (List.mem_of_mem_take hx))
    have hlen : (l.take j).length = j := by rw [List.length_take]; omega
    rw [hlen] at hb
    have e1 : sh (l.take (j + 1)) = sh (l.take j) + l[j] / 4294967296 := by unfold sh; rw [List.take_succ_eq_append_getElem hlt, List.map_append, List.sum_append]; simp
    have e2 : sl (l.take (j + 1)) = sl (l.take j) + l[j] % 4294967296 := by unfold sl; rw [List.take_succ_eq_append_getElem hlt, List.map_append, List.sum_append]; simp
    rw [ebbtideref01_Sum.l0, if_pos (by omega), if_pos (by omega), rd_at hlt, and_low hx.1 hx.2, w64_id (n := sh (l.take j) + l[j] / 4294967296) (by omega) (by omega), w64_id (n := sl (l.take j) + l[j] % 4294967296) (by omega) (by omega), w64_id (n := (j : Int) + 1) (by omega) (by omega), ← e1, ← e2]
    exact ih (j + 1) k (by omega) (by omega)
theorem csum_eq {l : List Int} (hl : l.length ≤ 1152921504606846976) (hw : ∀ x ∈ l, -9223372036854775808 ≤ x ∧ x ≤ 9223372036854775807) : checked_Sum.f l = some (sumFit l.sum) := by
  unfold checked_Sum.f
  rw [if_pos]
  simp only [sumOk, Bool.and_eq_true, List.all_eq_true, decide_eq_true_eq]
  exact ⟨hw, hl⟩
theorem rsum_eq {l : List Int} (hl : l.length ≤ 1048576) (hw : ∀ x ∈ l, -9223372036854775808 ≤ x ∧ x ≤ 9223372036854775807) {k : Nat} (hk : l.length < k) : ebbtideref01_Sum.f k l = some (sumFit l.sum) :=
  rsum_loop l hl hw l.length 0 k (by omega) hk
end Go.Proofs.Ytdghehebkalbgaa.P
end
