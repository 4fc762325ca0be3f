/- Parts of the proof: words, plain functions and contracts of the law's functions. Conditions: none. -/
import Derived.Test.YtdghehebkalbgaaZChecks4
import Derived.Test.YtdghehebkalbgaaZChecks15
import Derived.Test.YtdghehebkalbgaaZChecks16
import Derived.Test.YtdghehebkalbgaaZChecks24
import Derived.Test.YtdghehebkalbgaaZChecks25
import Derived.Test.YtdghehebkalbgaaZChecks28
import Derived.Test.YtdghehebkalbgaaRows
import Derived.WalkKit
import Derived.ProofKit
import Derived.OpenShut
import Derived.ShutString
import Derived.ChangeOld
import Derived.Below
import Derived.SizedLaws
section
namespace Go.Proofs.Ytdghehebkalbgaa.Q
open Go.RowKit Go.Proofs.YtdghehebkalbgaaW.PrintWords Go.Proofs.YtdghehebkalbgaaW.PrintLast Go.Proofs.YtdghehebkalbgaaW.PrintMore
attribute [local go_sem] max2_int min2_int max_two min_two min_four
set_option linter.unusedVariables false
set_option linter.unusedSimpArgs false
def ebbtidelaw14_PlanChecks.j0 : Nat → Int → Int → Int → List (S45) → Bool → Int → Bool → List (S47) → Option (Bool)
 | 0, _, _, _, _, _, _, _, _ => none
 | k + 1, x1, x2, x3, x4, x33, x549000, x549001, x549002 => if x33 = true then ((ebbtidelaw14_awake.f k).bind fun t549 => (some t549)) else ((plan_Check.f k x549000 x549001 x549002 x1 x2 x3 x4).bind fun bt550 => ((ebbtideref14_Check.f k x549000 x549001 x549002 x1 x2 x3 x4).bind fun bt552 => ((plan_Arrived.f k x549000 x549001 x549002 x1 x2 x3 x4).bind fun bt554 => ((ebbtideref14_Arrived.f k x549000 x549001 x549002 x1 x2 x3 x4).bind fun bt558 => ((plan_Still.f k x549000 x549001 x549002 x1 x2 x3 x4).bind fun bt562 => ((ebbtideref14_Still.f k x549000 x549001 x549002 x1 x2 x3 x4).bind fun bt564 => ((ebbtidelaw14_awake.f k).bind fun t566 => (if t566 = true then (if bt550.1 = bt552.1 then (if bt550.2 = bt552.2 then ((ebbtideref03_SameInts.f k bt554.1 bt558.1).bind fun t567 => (if t567 = true then (if bt554.2 = bt558.2 then (if (bt562.1 == bt564.1) = true then (some (bt562.2 == bt564.2)) else (some false)) else (some false)) else (some false))) else (some false)) else (some false)) else (some false)))))))))
def ebbtidelaw14_PlanChecks.f (k : Nat) (a0_0 : Int) (a0_1 : Bool) (l0_2 : List (S47)) (a1 : Int) (a2 : Int) (a3 : Int) (l4 : List (S45)) : Option (Bool) := if (l4.length : Int) > 60 then (ebbtidelaw14_PlanChecks.j0 k a1 a2 a3 l4 true a0_0 a0_1 l0_2) else (if a3 > 40 then (ebbtidelaw14_PlanChecks.j0 k a1 a2 a3 l4 (decide (a3 ≤ 1024)) a0_0 a0_1 l0_2) else (ebbtidelaw14_PlanChecks.j0 k a1 a2 a3 l4 false a0_0 a0_1 l0_2))
set_option maxHeartbeats 8000000 in
set_option maxRecDepth 100000 in
theorem ebbtidelaw14_PlanChecks.calls (k : Nat) (a0_0 : Int) (a0_1 : Bool) (A0_2 : Option Addr) (c0_2 : Nat) (l0_2 : List (S47)) (a1 : Int) (a2 : Int) (a3 : Int) (A4 : Option Addr) (c4 : Nat) (l4 : List (S45)) (r : Bool) (w : World) (hr0_2 : Kd.C k47 w A0_2 l0_2.length l0_2) (hc0_2 : l0_2.length ≤ c0_2) (hr4 : Kd.C k45 w A4 l4.length l4) (hc4 : l4.length ≤ c4) (h : ebbtidelaw14_PlanChecks.f k a0_0 a0_1 l0_2 a1 a2 a3 l4 = some r) (hrt : r = true := by first | rfl | exact HRT.out | assumption) :
  Calls Try.prog 8 #[.agg #[.int .i64 a0_0, .bool a0_1, .slice A0_2 l0_2.length c0_2], .int .i64 a1, .int .i64 a2, .int .i64 a3, .slice A4 l4.length c4] w fun e w' => e = .returned (.bool r) ∧ Below w.heap.size w w' := by
 have HRT := am_ hrt; clear hrt; have hu24 := Try.underlying24; have HR0_2 := am_ hr0_2; have HC0_2 := am_ hc0_2; clear hr0_2 hc0_2; have HR4 := am_ hr4; have HC4 := am_ hc4; clear hr4 hc4; have HB := am_ (Below.refl w.heap.size w); have H : (if (l4.length : Int) > 60 then (ebbtidelaw14_PlanChecks.j0 k a1 a2 a3 l4 true a0_0 a0_1 l0_2) else (if a3 > 40 then (ebbtidelaw14_PlanChecks.j0 k a1 a2 a3 l4 (decide (a3 ≤ 1024)) a0_0 a0_1 l0_2) else (ebbtidelaw14_PlanChecks.j0 k a1 a2 a3 l4 false a0_0 a0_1 l0_2))) = some r := h; clear h; have HC6 := am_ H; clear H
 go_enter Try.func8, Try.ntmps8
 go_upto_region 1 with (first | ((with_reducible refine gate_dst (N := 5) rfl ?_); refine box_event ?hg (N := 5) ?hd (cs := #[.int .i64 a0_0, .bool a0_1, .slice A0_2 l0_2.length c0_2]) (t := 24) ?hr ?_; (case hd => rfl); (case hg => rfl); (case hr => first | (go_simp; done) | (go_simp; rfl)); intro gb548 hg w7 hbox hb; have BK548 := am_ (hbox); have GE548 := am_ ((by rw [hg]; exact (below_size hb_) : w.heap.size ≤ gb548)); replace HB := am_ (below_step hb_ hb); clear hb hbox hg))
 (try simp only [Act.put, List.setIfInBounds_toArray, List.set_cons_zero, List.set_cons_succ])
 go_cut [33] (fun v33 wc => ∃ (kq : Nat) (x33_5 : Bool), v33 = .bool x33_5 ∧ Aside0 (ebbtidelaw14_PlanChecks.j0 kq a1 a2 a3 l4 x33_5 a0_0 a0_1 l0_2 = some r) ∧ Aside0 (kq ≤ k) ∧ Aside0 (wc.heap[gb548]? = some (.cells #[.int .i64 a0_0, .bool a0_1, (.slice A0_2 l0_2.length c0_2)] 24 (0, 0))) ∧ Aside0 (Below w.heap.size w wc))
 case first =>
  have H := HC6.out; clear HC6
  by_cases c8 : (l4.length : Int) > 60
  ·rw [if_pos c8] at H
   have c8b0 : decide (60 < (l4.length : Int)) = true := decide_eq_true c8; have c8b1 : decide (60 < l4.length) = true := decide_eq_true (by omega); clear c8
   (first | rw [c8b0] | (simp only [i64_w, i32_w]; rw [c8b0]) | skip)
   have H' := am_ H; clear H
   go_wp2
   go_meet
   case rel => exact ⟨_, (true), rs_, H', ⟨by first | omega | exact Nat.le_refl _⟩, ⟨by refine bq_ ?_; exact BK548.out⟩, ⟨by repeat (first | (with_reducible first | exact HB.out | apply below_alloc | apply pw_below_drewN | apply below_drew1 | refine below_set ?_ GE548.out) | exact HB.out)⟩⟩
  ·rw [if_neg c8] at H
   have c8b0 : decide (60 < (l4.length : Int)) = false := decide_eq_false c8; have c8b1 : decide (60 < l4.length) = false := decide_eq_false (by omega); clear c8
   (first | rw [c8b0] | (simp only [i64_w, i32_w]; rw [c8b0]) | skip)
   by_cases c9 : a3 > 40
   ·rw [if_pos c9] at H
    have c9b0 : decide (40 < a3) = true := decide_eq_true c9; clear c9; have H' := am_ H; clear H
    go_wp2
    go_meet
    case rel => exact ⟨_, (decide (a3 ≤ 1024)), rs_, H', ⟨by first | omega | exact Nat.le_refl _⟩, ⟨by refine bq_ ?_; exact BK548.out⟩, ⟨by repeat (first | (with_reducible first | exact HB.out | apply below_alloc | apply pw_below_drewN | apply below_drew1 | refine below_set ?_ GE548.out) | exact HB.out)⟩⟩
   ·rw [if_neg c9] at H
    have c9b0 : decide (40 < a3) = false := decide_eq_false c9; clear c9; have H' := am_ H; clear H
    go_wp2
    go_meet
    case rel => exact ⟨_, (false), rs_, H', ⟨by first | omega | exact Nat.le_refl _⟩, ⟨by refine bq_ ?_; exact BK548.out⟩, ⟨by repeat (first | (with_reducible first | exact HB.out | apply below_alloc | apply pw_below_drewN | apply below_drew1 | refine below_set ?_ GE548.out) | exact HB.out)⟩⟩
 case rest =>
  clear HC6
  try clear p2
  try clear c4
  try clear c8
  try clear c8b0
  try clear c8b1
  try clear c9
  try clear c9b0
  obtain ⟨kq, x33_5, rfl, HA, HJ5, BK548, HB⟩ := hcut
  cases kq with
  | zero => exact absurd HA.out (by simp [ebbtidelaw14_PlanChecks.j0])
  | succ kj5 =>
   have H := HA.out; clear HA; simp only [ebbtidelaw14_PlanChecks.j0] at H
   by_cases c10 : x33_5 = true
   ·subst c10
    have H1 : ((ebbtidelaw14_awake.f kj5).bind fun t549 => (some t549)) = some r := by rw [if_pos rfl] at H; exact H
    clear H; have H := H1; clear H1; replace H := Option.bind_eq_some_iff.mp H; obtain ⟨t549, A110, H⟩ := H; replace H : (some t549) = some r := H; have A11 := am_ A110; clear A110; obtain rfl := Option.some.inj H
    go_wp2_with (first | ((with_reducible refine gate_callee (f := 10) rfl ?_); refine goesL_ (some 34) rfl rfl Try.func10 (by kernel_rfl) rfl #[] rfl mt_ ?_; (with_reducible refine (ebbtidelaw14_awake.calls kj5  t549 _ A11.out).mono ?_); rintro e w12 ⟨rfl, hb⟩; refine ⟨_, rfl, ?_⟩; replace BK548 := am_ (blk_below (g := gb548) (o := .cells #[.int .i64 a0_0, .bool a0_1, .slice A0_2 l0_2.length c0_2] 24 (0, 0)) (bq_ BK548.out) hb); replace HB := am_ (below_step hb_ hb); (try clear hb); (try clear hb2); (try clear hk); (try clear hi)))
    go_ret
    exact ⟨by first | rfl | (simp [errW_none, errW_some] <;> rfl) | (simp [*, errW_none, errW_some] <;> rfl), by repeat (first | (with_reducible first | exact HB.out | apply below_alloc | apply pw_below_drewN | apply below_drew1 | refine below_set ?_ GE548.out) | exact HB.out)⟩
   ·replace c10 := Bool.eq_false_iff.mpr c10
    subst c10
    have H1 : ((plan_Check.f kj5 a0_0 a0_1 l0_2 a1 a2 a3 l4).bind fun bt550 => ((ebbtideref14_Check.f kj5 a0_0 a0_1 l0_2 a1 a2 a3 l4).bind fun bt552 => ((plan_Arrived.f kj5 a0_0 a0_1 l0_2 a1 a2 a3 l4).bind fun bt554 => ((ebbtideref14_Arrived.f kj5 a0_0 a0_1 l0_2 a1 a2 a3 l4).bind fun bt558 => ((plan_Still.f kj5 a0_0 a0_1 l0_2 a1 a2 a3 l4).bind fun bt562 => ((ebbtideref14_Still.f kj5 a0_0 a0_1 l0_2 a1 a2 a3 l4).bind fun bt564 => ((ebbtidelaw14_awake.f kj5).bind fun t566 => (if t566 = true then (if bt550.1 = bt552.1 then (if bt550.2 = bt552.2 then ((ebbtideref03_SameInts.f kj5 bt554.1 bt558.1).bind fun t567 => (if t567 = true then (if bt554.2 = bt558.2 then (if (bt562.1 == bt564.1) = true then (some (bt562.2 == bt564.2)) else (some false)) else (some false)) else (some false))) else (some false)) else (some false)) else (some false))))))))) = some r := by rw [if_neg (show ¬ (false = true) by decide)] at H; exact H
    clear H; have H := H1; clear H1; replace H := Option.bind_eq_some_iff.mp H; obtain ⟨⟨t550, t551⟩, A130, H⟩ := H; replace H : ((ebbtideref14_Check.f kj5 a0_0 a0_1 l0_2 a1 a2 a3 l4).bind fun bt552 => ((plan_Arrived.f kj5 a0_0 a0_1 l0_2 a1 a2 a3 l4).bind fun bt554 => ((ebbtideref14_Arrived.f kj5 a0_0 a0_1 l0_2 a1 a2 a3 l4).bind fun bt558 => ((plan_Still.f kj5 a0_0 a0_1 l0_2 a1 a2 a3 l4).bind fun bt562 => ((ebbtideref14_Still.f kj5 a0_0 a0_1 l0_2 a1 a2 a3 l4).bind fun bt564 => ((ebbtidelaw14_awake.f kj5).bind fun t566 => (if t566 = true then (if t550 = bt552.1 then (if t551 = bt552.2 then ((ebbtideref03_SameInts.f kj5 bt554.1 bt558.1).bind fun t567 => (if t567 = true then (if bt554.2 = bt558.2 then (if (bt562.1 == bt564.1) = true then (some (bt562.2 == bt564.2)) else (some false)) else (some false)) else (some false))) else (some false)) else (some false)) else (some false)))))))) = some r := H; have A13 := am_ A130; clear A130; replace H := Option.bind_eq_some_iff.mp H; obtain ⟨⟨t552, t553⟩, A140, H⟩ := H; replace H : ((plan_Arrived.f kj5 a0_0 a0_1 l0_2 a1 a2 a3 l4).bind fun bt554 => ((ebbtideref14_Arrived.f kj5 a0_0 a0_1 l0_2 a1 a2 a3 l4).bind fun bt558 => ((plan_Still.f kj5 a0_0 a0_1 l0_2 a1 a2 a3 l4).bind fun bt562 => ((ebbtideref14_Still.f kj5 a0_0 a0_1 l0_2 a1 a2 a3 l4).bind fun bt564 => ((ebbtidelaw14_awake.f kj5).bind fun t566 => (if t566 = true then (if t550 = t552 then (if t551 = t553 then ((ebbtideref03_SameInts.f kj5 bt554.1 bt558.1).bind fun t567 => (if t567 = true then (if bt554.2 = bt558.2 then (if (bt562.1 == bt564.1) = true then (some (bt562.2 == bt564.2)) else (some false)) else (some false)) else (some false))) else (some false)) else (some false)) else (some false))))))) = some r := H; have A14 := am_ A140; clear A140; replace H := Option.bind_eq_some_iff.mp H; obtain ⟨⟨t554, t557⟩, A150, H⟩ := H; replace H : ((ebbtideref14_Arrived.f kj5 a0_0 a0_1 l0_2 a1 a2 a3 l4).bind fun bt558 => ((plan_Still.f kj5 a0_0 a0_1 l0_2 a1 a2 a3 l4).bind fun bt562 => ((ebbtideref14_Still.f kj5 a0_0 a0_1 l0_2 a1 a2 a3 l4).bind fun bt564 => ((ebbtidelaw14_awake.f kj5).bind fun t566 => (if t566 = true then (if t550 = t552 then (if t551 = t553 then ((ebbtideref03_SameInts.f kj5 t554 bt558.1).bind fun t567 => (if t567 = true then (if t557 = bt558.2 then (if (bt562.1 == bt564.1) = true then (some (bt562.2 == bt564.2)) else (some false)) else (some false)) else (some false))) else (some false)) else (some false)) else (some false)))))) = some r := H; have A15 := am_ A150; clear A150; replace H := Option.bind_eq_some_iff.mp H; obtain ⟨⟨t558, t561⟩, A160, H⟩ := H; replace H : ((plan_Still.f kj5 a0_0 a0_1 l0_2 a1 a2 a3 l4).bind fun bt562 => ((ebbtideref14_Still.f kj5 a0_0 a0_1 l0_2 a1 a2 a3 l4).bind fun bt564 => ((ebbtidelaw14_awake.f kj5).bind fun t566 => (if t566 = true then (if t550 = t552 then (if t551 = t553 then ((ebbtideref03_SameInts.f kj5 t554 t558).bind fun t567 => (if t567 = true then (if t557 = t561 then (if (bt562.1 == bt564.1) = true then (some (bt562.2 == bt564.2)) else (some false)) else (some false)) else (some false))) else (some false)) else (some false)) else (some false))))) = some r := H; have A16 := am_ A160; clear A160; replace H := Option.bind_eq_some_iff.mp H; obtain ⟨⟨t562, t563⟩, A170, H⟩ := H; replace H : ((ebbtideref14_Still.f kj5 a0_0 a0_1 l0_2 a1 a2 a3 l4).bind fun bt564 => ((ebbtidelaw14_awake.f kj5).bind fun t566 => (if t566 = true then (if t550 = t552 then (if t551 = t553 then ((ebbtideref03_SameInts.f kj5 t554 t558).bind fun t567 => (if t567 = true then (if t557 = t561 then (if (t562 == bt564.1) = true then (some (t563 == bt564.2)) else (some false)) else (some false)) else (some false))) else (some false)) else (some false)) else (some false)))) = some r := H; have A17 := am_ A170; clear A170; replace H := Option.bind_eq_some_iff.mp H; obtain ⟨⟨t564, t565⟩, A180, H⟩ := H; replace H : ((ebbtidelaw14_awake.f kj5).bind fun t566 => (if t566 = true then (if t550 = t552 then (if t551 = t553 then ((ebbtideref03_SameInts.f kj5 t554 t558).bind fun t567 => (if t567 = true then (if t557 = t561 then (if (t562 == t564) = true then (some (t563 == t565)) else (some false)) else (some false)) else (some false))) else (some false)) else (some false)) else (some false))) = some r := H; have A18 := am_ A180; clear A180; replace H := Option.bind_eq_some_iff.mp H; obtain ⟨t566, A190, H⟩ := H; replace H : (if t566 = true then (if t550 = t552 then (if t551 = t553 then ((ebbtideref03_SameInts.f kj5 t554 t558).bind fun t567 => (if t567 = true then (if t557 = t561 then (if (t562 == t564) = true then (some (t563 == t565)) else (some false)) else (some false)) else (some false))) else (some false)) else (some false)) else (some false)) = some r := H; have A19 := am_ A190; clear A190
    by_cases c20 : t566 = true
    ·subst c20
     have H1 : (if t550 = t552 then (if t551 = t553 then ((ebbtideref03_SameInts.f kj5 t554 t558).bind fun t567 => (if t567 = true then (if t557 = t561 then (if (t562 == t564) = true then (some (t563 == t565)) else (some false)) else (some false)) else (some false))) else (some false)) else (some false)) = some r := by rw [if_pos rfl] at H; exact H
     clear H; have H := H1; clear H1
     by_cases c21 : t550 = t552
     ·rw [if_pos c21] at H
      have c21b0 : (t550 == t552) = true := beq_iff_eq.mpr c21; have c21b1 : (t550 != t552) = false := bne_eq_false_iff_eq.mpr c21; clear c21
      by_cases c22 : t551 = t553
      ·rw [if_pos c22] at H
       have c22b0 : (t551 == t553) = true := beq_iff_eq.mpr c22; have c22b1 : (t551 != t553) = false := bne_eq_false_iff_eq.mpr c22; clear c22; replace H := Option.bind_eq_some_iff.mp H; obtain ⟨t567, A230, H⟩ := H; replace H : (if t567 = true then (if t557 = t561 then (if (t562 == t564) = true then (some (t563 == t565)) else (some false)) else (some false)) else (some false)) = some r := H; have A23 := am_ A230; clear A230
       by_cases c24 : t567 = true
       ·subst c24
        have H1 : (if t557 = t561 then (if (t562 == t564) = true then (some (t563 == t565)) else (some false)) else (some false)) = some r := by rw [if_pos rfl] at H; exact H
        clear H; have H := H1; clear H1
        by_cases c25 : t557 = t561
        ·rw [if_pos c25] at H
         have c25b0 : (t557 == t561) = true := beq_iff_eq.mpr c25; have c25b1 : (t557 != t561) = false := bne_eq_false_iff_eq.mpr c25; clear c25
         by_cases c26 : (t562 == t564) = true
         ·rw [if_pos c26] at H
          have c26b0 : (t562 == t564) = true := c26
          (try (have c26b1 : decide (t562 = t564) = true := by simpa using c26))
          (try (have c26b2 : (t562 == t564) = true := by simpa using c26))
          (try (have c26b3 : (!(t562 == t564)) = false := by simpa using c26))
          clear c26; obtain rfl := Option.some.inj H; have hcz27_0 : wc.cell? ⟨gb548, 0, none⟩ = some (.int .i64 a0_0) := (blk_cell BK548.out 0).trans rfl; have hcz27_1 : wc.cell? ⟨gb548, 1, none⟩ = some (.bool a0_1) := (blk_cell BK548.out 1).trans rfl; have hcz27_2 : wc.cell? ⟨gb548, 2, none⟩ = some (.slice A0_2 l0_2.length c0_2) := (blk_cell BK548.out 2).trans rfl; have hfz27_0 := blk_frozen BK548.out 0; have hfz27_1 := blk_frozen BK548.out 1; have hfz27_2 := blk_frozen BK548.out 2
          go_wp2_with (first | ((with_reducible refine gate_callee (f := 15) rfl ?_); refine goesL_ (some 41) rfl rfl Try.func15 (by kernel_rfl) rfl #[.agg #[.int .i64 a0_0, .bool a0_1, .slice A0_2 l0_2.length c0_2], .int .i64 a1, .int .i64 a2, .int .i64 a3, .slice A4 l4.length c4] rfl mt_ ?_; (with_reducible refine (plan_Check.calls kj5 a0_0 a0_1 _ _ l0_2 a1 a2 a3 _ _ l4 t550 t551 _ ?side1 ?side2 ?side3 ?side4 A13.out).mono ?_); (case side1 => repeat (first | exact (Kd.C_below HR0_2.out HB.out) | (with_reducible refine Kd.C_alloc ?_ _) | (with_reducible refine Kd.C_drewN ?_ _) | (with_reducible refine Kd.C_drew ?_))); (case side2 => exact HC0_2.out); (case side3 => repeat (first | exact (Kd.C_below HR4.out HB.out) | (with_reducible refine Kd.C_alloc ?_ _) | (with_reducible refine Kd.C_drewN ?_ _) | (with_reducible refine Kd.C_drew ?_))); (case side4 => exact HC4.out); rintro e w28 ⟨rfl, hb⟩; refine ⟨_, rfl, ?_⟩; replace BK548 := am_ (blk_below (g := gb548) (o := .cells #[.int .i64 a0_0, .bool a0_1, .slice A0_2 l0_2.length c0_2] 24 (0, 0)) (bq_ BK548.out) hb); replace HB := am_ (below_step hb_ hb); (try clear hb); (try clear hb2); (try clear hk); (try clear hi); have hcz29_0 : w28.cell? ⟨gb548, 0, none⟩ = some (.int .i64 a0_0) := (blk_cell BK548.out 0).trans rfl; have hcz29_1 : w28.cell? ⟨gb548, 1, none⟩ = some (.bool a0_1) := (blk_cell BK548.out 1).trans rfl; have hcz29_2 : w28.cell? ⟨gb548, 2, none⟩ = some (.slice A0_2 l0_2.length c0_2) := (blk_cell BK548.out 2).trans rfl; have hfz29_0 := blk_frozen BK548.out 0; have hfz29_1 := blk_frozen BK548.out 1; have hfz29_2 := blk_frozen BK548.out 2) | ((with_reducible refine gate_callee (f := 16) rfl ?_); refine goesL_ (some 50) rfl rfl Try.func16 (by kernel_rfl) rfl #[.agg #[.int .i64 a0_0, .bool a0_1, .slice A0_2 l0_2.length c0_2], .int .i64 a1, .int .i64 a2, .int .i64 a3, .slice A4 l4.length c4] rfl mt_ ?_; (with_reducible refine (ebbtideref14_Check.calls kj5 a0_0 a0_1 _ _ l0_2 a1 a2 a3 _ _ l4 t552 t553 _ ?side1 ?side2 ?side3 ?side4 A14.out).mono ?_); (case side1 => repeat (first | exact (Kd.C_below HR0_2.out HB.out) | (with_reducible refine Kd.C_alloc ?_ _) | (with_reducible refine Kd.C_drewN ?_ _) | (with_reducible refine Kd.C_drew ?_))); (case side2 => exact HC0_2.out); (case side3 => repeat (first | exact (Kd.C_below HR4.out HB.out) | (with_reducible refine Kd.C_alloc ?_ _) | (with_reducible refine Kd.C_drewN ?_ _) | (with_reducible refine Kd.C_drew ?_))); (case side4 => exact HC4.out); rintro e w30 ⟨rfl, hb⟩; refine ⟨_, rfl, ?_⟩; replace BK548 := am_ (blk_below (g := gb548) (o := .cells #[.int .i64 a0_0, .bool a0_1, .slice A0_2 l0_2.length c0_2] 24 (0, 0)) (bq_ BK548.out) hb); replace HB := am_ (below_step hb_ hb); (try clear hb); (try clear hb2); (try clear hk); (try clear hi); have hcz31_0 : w30.cell? ⟨gb548, 0, none⟩ = some (.int .i64 a0_0) := (blk_cell BK548.out 0).trans rfl; have hcz31_1 : w30.cell? ⟨gb548, 1, none⟩ = some (.bool a0_1) := (blk_cell BK548.out 1).trans rfl; have hcz31_2 : w30.cell? ⟨gb548, 2, none⟩ = some (.slice A0_2 l0_2.length c0_2) := (blk_cell BK548.out 2).trans rfl; have hfz31_0 := blk_frozen BK548.out 0; have hfz31_1 := blk_frozen BK548.out 1; have hfz31_2 := blk_frozen BK548.out 2) | ((with_reducible refine gate_callee (f := 17) rfl ?_); refine goesL_ (some 59) rfl rfl Try.func17 (by kernel_rfl) rfl #[.agg #[.int .i64 a0_0, .bool a0_1, .slice A0_2 l0_2.length c0_2], .int .i64 a1, .int .i64 a2, .int .i64 a3, .slice A4 l4.length c4] rfl mt_ ?_; (with_reducible refine (plan_Arrived.calls kj5 a0_0 a0_1 _ _ l0_2 a1 a2 a3 _ _ l4 t554 t557 _ ?side1 ?side2 ?side3 ?side4 A15.out).mono ?_); (case side1 => repeat (first | exact (Kd.C_below HR0_2.out HB.out) | (with_reducible refine Kd.C_alloc ?_ _) | (with_reducible refine Kd.C_drewN ?_ _) | (with_reducible refine Kd.C_drew ?_))); (case side2 => exact HC0_2.out); (case side3 => repeat (first | exact (Kd.C_below HR4.out HB.out) | (with_reducible refine Kd.C_alloc ?_ _) | (with_reducible refine Kd.C_drewN ?_ _) | (with_reducible refine Kd.C_drew ?_))); (case side4 => exact HC4.out); rintro e w32 ⟨v555, rfl, ho0, hb⟩; refine ⟨_, rfl, ?_⟩; have HO556 := am_ (Kd.R_lower ho0 (below_size hb_)); replace BK548 := am_ (blk_below (g := gb548) (o := .cells #[.int .i64 a0_0, .bool a0_1, .slice A0_2 l0_2.length c0_2] 24 (0, 0)) (bq_ BK548.out) hb); replace HB := am_ (below_step hb_ hb); (try clear hb); (try clear hb2); (try clear hk); (try clear hi); (try clear ho0); have hcz33_0 : w32.cell? ⟨gb548, 0, none⟩ = some (.int .i64 a0_0) := (blk_cell BK548.out 0).trans rfl; have hcz33_1 : w32.cell? ⟨gb548, 1, none⟩ = some (.bool a0_1) := (blk_cell BK548.out 1).trans rfl; have hcz33_2 : w32.cell? ⟨gb548, 2, none⟩ = some (.slice A0_2 l0_2.length c0_2) := (blk_cell BK548.out 2).trans rfl; have hfz33_0 := blk_frozen BK548.out 0; have hfz33_1 := blk_frozen BK548.out 1; have hfz33_2 := blk_frozen BK548.out 2) | ((with_reducible refine gate_callee (f := 19) rfl ?_); refine goesL_ (some 68) rfl rfl Try.func19 (by kernel_rfl) rfl #[.agg #[.int .i64 a0_0, .bool a0_1, .slice A0_2 l0_2.length c0_2], .int .i64 a1, .int .i64 a2, .int .i64 a3, .slice A4 l4.length c4] rfl mt_ ?_; (with_reducible refine (ebbtideref14_Arrived.calls kj5 a0_0 a0_1 _ _ l0_2 a1 a2 a3 _ _ l4 t558 t561 _ ?side1 ?side2 ?side3 ?side4 A16.out).mono ?_); (case side1 => repeat (first | exact (Kd.C_below HR0_2.out HB.out) | (with_reducible refine Kd.C_alloc ?_ _) | (with_reducible refine Kd.C_drewN ?_ _) | (with_reducible refine Kd.C_drew ?_))); (case side2 => exact HC0_2.out); (case side3 => repeat (first | exact (Kd.C_below HR4.out HB.out) | (with_reducible refine Kd.C_alloc ?_ _) | (with_reducible refine Kd.C_drewN ?_ _) | (with_reducible refine Kd.C_drew ?_))); (case side4 => exact HC4.out); rintro e w34 ⟨v559, rfl, ho0, hb⟩; refine ⟨_, rfl, ?_⟩; have HO560 := am_ (Kd.R_lower (Kd.R_new' ho0 (Kd.R_lt (rq_ HO556.out))) (below_size hb_)); replace HO556 := am_ (Kd.R_elder' (rq_ HO556.out) (Kd.R_base ho0) hb); replace BK548 := am_ (blk_below (g := gb548) (o := .cells #[.int .i64 a0_0, .bool a0_1, .slice A0_2 l0_2.length c0_2] 24 (0, 0)) (bq_ BK548.out) hb); replace HB := am_ (below_step hb_ hb); (try clear hb); (try clear hb2); (try clear hk); (try clear hi); (try clear ho0); have hcz35_0 : w34.cell? ⟨gb548, 0, none⟩ = some (.int .i64 a0_0) := (blk_cell BK548.out 0).trans rfl; have hcz35_1 : w34.cell? ⟨gb548, 1, none⟩ = some (.bool a0_1) := (blk_cell BK548.out 1).trans rfl; have hcz35_2 : w34.cell? ⟨gb548, 2, none⟩ = some (.slice A0_2 l0_2.length c0_2) := (blk_cell BK548.out 2).trans rfl; have hfz35_0 := blk_frozen BK548.out 0; have hfz35_1 := blk_frozen BK548.out 1; have hfz35_2 := blk_frozen BK548.out 2) | ((with_reducible refine gate_callee (f := 20) rfl ?_); refine goesL_ (some 77) rfl rfl Try.func20 (by kernel_rfl) rfl #[.agg #[.int .i64 a0_0, .bool a0_1, .slice A0_2 l0_2.length c0_2], .int .i64 a1, .int .i64 a2, .int .i64 a3, .slice A4 l4.length c4] rfl mt_ ?_; (with_reducible refine (plan_Still.calls kj5 a0_0 a0_1 _ _ l0_2 a1 a2 a3 _ _ l4 t562 t563 _ ?side1 ?side2 ?side3 ?side4 A17.out).mono ?_); (case side1 => repeat (first | exact (Kd.C_below HR0_2.out HB.out) | (with_reducible refine Kd.C_alloc ?_ _) | (with_reducible refine Kd.C_drewN ?_ _) | (with_reducible refine Kd.C_drew ?_))); (case side2 => exact HC0_2.out); (case side3 => repeat (first | exact (Kd.C_below HR4.out HB.out) | (with_reducible refine Kd.C_alloc ?_ _) | (with_reducible refine Kd.C_drewN ?_ _) | (with_reducible refine Kd.C_drew ?_))); (case side4 => exact HC4.out); rintro e w36 ⟨rfl, hb⟩; refine ⟨_, rfl, ?_⟩; replace HO556 := am_ (Kd.R_below (rq_ HO556.out) hb); replace HO560 := am_ (Kd.R_below (rq_ HO560.out) hb); replace BK548 := am_ (blk_below (g := gb548) (o := .cells #[.int .i64 a0_0, .bool a0_1, .slice A0_2 l0_2.length c0_2] 24 (0, 0)) (bq_ BK548.out) hb); replace HB := am_ (below_step hb_ hb); (try clear hb); (try clear hb2); (try clear hk); (try clear hi); have hcz37_0 : w36.cell? ⟨gb548, 0, none⟩ = some (.int .i64 a0_0) := (blk_cell BK548.out 0).trans rfl; have hcz37_1 : w36.cell? ⟨gb548, 1, none⟩ = some (.bool a0_1) := (blk_cell BK548.out 1).trans rfl; have hcz37_2 : w36.cell? ⟨gb548, 2, none⟩ = some (.slice A0_2 l0_2.length c0_2) := (blk_cell BK548.out 2).trans rfl; have hfz37_0 := blk_frozen BK548.out 0; have hfz37_1 := blk_frozen BK548.out 1; have hfz37_2 := blk_frozen BK548.out 2) | ((with_reducible refine gate_callee (f := 21) rfl ?_); refine goesL_ (some 86) rfl rfl Try.func21 (by kernel_rfl) rfl #[.agg #[.int .i64 a0_0, .bool a0_1, .slice A0_2 l0_2.length c0_2], .int .i64 a1, .int .i64 a2, .int .i64 a3, .slice A4 l4.length c4] rfl mt_ ?_; (with_reducible refine (ebbtideref14_Still.calls kj5 a0_0 a0_1 _ _ l0_2 a1 a2 a3 _ _ l4 t564 t565 _ ?side1 ?side2 ?side3 ?side4 A18.out).mono ?_); (case side1 => repeat (first | exact (Kd.C_below HR0_2.out HB.out) | (with_reducible refine Kd.C_alloc ?_ _) | (with_reducible refine Kd.C_drewN ?_ _) | (with_reducible refine Kd.C_drew ?_))); (case side2 => exact HC0_2.out); (case side3 => repeat (first | exact (Kd.C_below HR4.out HB.out) | (with_reducible refine Kd.C_alloc ?_ _) | (with_reducible refine Kd.C_drewN ?_ _) | (with_reducible refine Kd.C_drew ?_))); (case side4 => exact HC4.out); rintro e w38 ⟨rfl, hb⟩; refine ⟨_, rfl, ?_⟩; replace HO556 := am_ (Kd.R_below (rq_ HO556.out) hb); replace HO560 := am_ (Kd.R_below (rq_ HO560.out) hb); replace BK548 := am_ (blk_below (g := gb548) (o := .cells #[.int .i64 a0_0, .bool a0_1, .slice A0_2 l0_2.length c0_2] 24 (0, 0)) (bq_ BK548.out) hb); replace HB := am_ (below_step hb_ hb); (try clear hb); (try clear hb2); (try clear hk); (try clear hi)) | ((with_reducible refine gate_callee (f := 10) rfl ?_); refine goesL_ (some 89) rfl rfl Try.func10 (by kernel_rfl) rfl #[] rfl mt_ ?_; (with_reducible refine (ebbtidelaw14_awake.calls kj5  true _ A19.out).mono ?_); rintro e w39 ⟨rfl, hb⟩; refine ⟨_, rfl, ?_⟩; replace HO556 := am_ (Kd.R_below (rq_ HO556.out) hb); replace HO560 := am_ (Kd.R_below (rq_ HO560.out) hb); replace BK548 := am_ (blk_below (g := gb548) (o := .cells #[.int .i64 a0_0, .bool a0_1, .slice A0_2 l0_2.length c0_2] 24 (0, 0)) (bq_ BK548.out) hb); replace HB := am_ (below_step hb_ hb); (try clear hb); (try clear hb2); (try clear hk); (try clear hi); obtain ⟨Ao40, co40, eo40⟩ := Kd.R_slice HO556.out; subst eo40; obtain ⟨Ao41, co41, eo41⟩ := Kd.R_slice HO560.out; subst eo41) | (go_at_call 22; (with_reducible refine (ebbtideref03_SameInts.calls kj5 _ _ t554 _ _ t558 true _ ?side1 ?side2 ?side3 ?side4 A23.out).mono ?_); (case side1 => repeat (first | exact (Kd.R_reads' HO556.out).2.2 | (with_reducible refine Kd.C_alloc ?_ _) | (with_reducible refine Kd.C_drewN ?_ _) | (with_reducible refine Kd.C_drew ?_))); (case side2 => exact (Kd.R_reads' HO556.out).2.1); (case side3 => repeat (first | exact (Kd.R_reads' HO560.out).2.2 | (with_reducible refine Kd.C_alloc ?_ _) | (with_reducible refine Kd.C_drewN ?_ _) | (with_reducible refine Kd.C_drew ?_))); (case side4 => exact (Kd.R_reads' HO560.out).2.1); rintro e w' ⟨rfl, ⟨nd, rfl⟩⟩))
          go_ret
          exact ⟨by first | rfl | (simp [errW_none, errW_some] <;> rfl) | (simp [*, errW_none, errW_some] <;> rfl), by repeat (first | (with_reducible first | exact HB.out | apply below_alloc | apply pw_below_drewN | apply below_drew1 | refine below_set ?_ GE548.out) | exact HB.out)⟩
         ·rw [if_neg c26] at H
          have c26b0 : (t562 == t564) = false := by simpa using c26
          (try (have c26b1 : decide (t562 = t564) = false := by simpa using c26))
          (try (have c26b2 : (t562 == t564) = false := by simpa using c26))
          (try (have c26b3 : ¬ (t562 = t564) := by simpa using c26))
          (try (have c26b4 : (!(t562 == t564)) = true := by simpa using c26))
          clear c26; exact absurd ((Option.some.inj H).trans HRT.out) (by decide)
        ·rw [if_neg c25] at H
         have c25b0 : (t557 == t561) = false := beq_eq_false_iff_ne.mpr c25; have c25b1 : (t557 != t561) = true := bne_iff_ne.mpr c25; exact absurd ((Option.some.inj H).trans HRT.out) (by decide)
       ·replace c24 := Bool.eq_false_iff.mpr c24
        subst c24
        have H1 : (some false) = some r := by rw [if_neg (show ¬ (false = true) by decide)] at H; exact H
        clear H; have H := H1; clear H1; exact absurd ((Option.some.inj H).trans HRT.out) (by decide)
      ·rw [if_neg c22] at H
       have c22b0 : (t551 == t553) = false := beq_eq_false_iff_ne.mpr c22; have c22b1 : (t551 != t553) = true := bne_iff_ne.mpr c22; exact absurd ((Option.some.inj H).trans HRT.out) (by decide)
     ·rw [if_neg c21] at H
      have c21b0 : (t550 == t552) = false := beq_eq_false_iff_ne.mpr c21; have c21b1 : (t550 != t552) = true := bne_iff_ne.mpr c21; exact absurd ((Option.some.inj H).trans HRT.out) (by decide)
    ·replace c20 := Bool.eq_false_iff.mpr c20
     subst c20
     have H1 : (some false) = some r := by rw [if_neg (show ¬ (false = true) by decide)] at H; exact H
     clear H; have H := H1; clear H1; exact absurd ((Option.some.inj H).trans HRT.out) (by decide)
end Go.Proofs.Ytdghehebkalbgaa.Q
end
section
namespace Go.Proofs.Ytdghehebkalbgaa.R
open Go.RowKit Go.Proofs.Ytdghehebkalbgaa.Q Go.Proofs.YtdghehebkalbgaaW.PrintWords Go.Proofs.YtdghehebkalbgaaW.PrintLast Go.Proofs.YtdghehebkalbgaaW.PrintMore
def PlanChecks.Pure : Prop := ∀ N0 : Nat, ∀ N1 : Nat, ∀ N2 : Nat, ∀ N3 : Nat, ∀ N4 : Nat, ∀ (x0 : S24) (x1 : Int) (x2 : Int) (x3 : Int) (x4 : List S45), g24 N0 x0 → gInt .i64 N1 x1 → gInt .i64 N2 x2 → gInt .i64 N3 x3 → gList (g45) N4 x4 → ∃ k, ebbtidelaw14_PlanChecks.f k x0.f0 x0.f1 x0.f2 x1 x2 x3 x4 = some true
end Go.Proofs.Ytdghehebkalbgaa.R
end
section
namespace Go.Proofs.Ytdghehebkalbgaa.Pure
open Go.RowKit Go.Proofs.Ytdghehebkalbgaa.Q Go.Proofs.Ytdghehebkalbgaa.P Go.Proofs.YtdghehebkalbgaaW.PrintWords Go.Proofs.YtdghehebkalbgaaW.PrintLast Go.Proofs.YtdghehebkalbgaaW.PrintMore
open Go.Proofs.Ytdghehebkalbgaa.R
theorem PlanChecks : PlanChecks.Pure := by
  intro N0 N1 N2 N3 N4 x0 s t h l g0 g1 g2 g3 g4
  apply Ev.rounds
  have hl : ∀ x ∈ l, OkM x := fun x hx => okM_of (g4.2.2 x hx)
  have htrue : Ev (fun k => ebbtidelaw14_PlanChecks.j0 k s t h l true x0.f0 x0.f1 x0.f2) true := by
    refine Ev.step (f := fun k => (ebbtidelaw14_awake.f k).bind fun t1109 => some t1109) (fun k => by rw [ebbtidelaw14_PlanChecks.j0, if_pos rfl]) ?_
    exact Ev.bind awake14_ev (Ev.now _)
  unfold ebbtidelaw14_PlanChecks.f
  by_cases c : (l.length : Int) > 60
  · simp only [c, if_true]; exact htrue
  · have hfalse : Ev (fun k => ebbtidelaw14_PlanChecks.j0 k s t h l false x0.f0 x0.f1 x0.f2) true := by
      have hlen : l.length ≤ 1048576 := by omega
      refine Ev.step (fun k => by rw [ebbtidelaw14_PlanChecks.j0, if_neg (by decide)]) ?_
      refine Ev.bind (checkP_ev hlen hl) (Ev.bind (checkQ_ev hlen hl) (Ev.bind (arrivedP_ev hlen hl) (Ev.bind (arrivedQ_ev hlen hl) (Ev.bind (stillP_ev hlen hl _) (Ev.bind (stillQ_ev hlen hl _) (Ev.bind awake14_ev ?_))))))
      simp only [if_true]
      refine Ev.bind (sameInts_ev _ arrived_small) ?_
      simp only [if_true, beq_self_eq_true]
      exact Ev.now _
    simp only [c, if_false]
    by_cases c2 : h > 40
    · simp only [c2, if_true]
      by_cases c3 : h ≤ 1024
      · simp only [c3, decide_true]; exact htrue
      · simp only [c3, decide_false]; exact hfalse
    · simp only [c2, if_false]; exact hfalse
end Go.Proofs.Ytdghehebkalbgaa.Pure
end
section
namespace Go.Proofs.Ytdghehebkalbgaa
open Go Go.RowKit
def ioHead : List Char := List.map Char.ofNat [104, 97, 114, 110, 101, 115, 115, 32, 101, 102, 52, 99, 51, 53, 52, 51, 51, 100, 55, 50, 52, 53, 100, 55, 48, 55, 54, 100, 51, 99, 50, 49, 98, 54, 54, 52, 52, 56, 49, 50, 97, 99, 57, 53, 98, 55, 99, 98, 55, 51, 55, 102, 101, 49, 102, 57, 51, 99, 52, 49, 98, 97, 49, 50, 50, 102, 54, 56, 56, 97, 98, 55, 32, 99, 117, 116, 32]
def ioRest : List Char := List.map Char.ofNat [97, 116, 32, 101, 98, 98, 116, 105, 100, 101, 47, 101, 98, 98, 116, 105, 100, 101, 108, 97, 119, 49, 52, 46, 80, 108, 97, 110, 83, 116, 111, 99, 107, 115, 32, 101, 98, 98, 116, 105, 100, 101, 47, 101, 98, 98, 116, 105, 100, 101, 108, 97, 119, 49, 52, 46, 80, 108, 97, 110, 83, 109, 97, 108, 108, 32, 101, 98, 98, 116, 105, 100, 101, 47, 101, 98, 98, 116, 105, 100, 101, 108, 97, 119, 49, 52, 46, 80, 108, 97, 110, 66, 97, 108, 97, 110, 99, 101, 115, 32, 101, 98, 98, 116, 105, 100, 101, 47, 101, 98, 98, 116, 105, 100, 101, 108, 97, 119, 49, 52, 46, 80, 108, 97, 110, 82, 105, 115, 101, 115, 32, 101, 98, 98, 116, 105, 100, 101, 47, 101, 98, 98, 116, 105, 100, 101, 108, 97, 119, 49, 52, 46, 80, 108, 97, 110, 77, 101, 114, 103, 101, 115, 32, 101, 98, 98, 116, 105, 100, 101, 47, 101, 98, 98, 116, 105, 100, 101, 108, 97, 119, 49, 52, 46, 80, 108, 97, 110, 67, 104, 101, 99, 107, 115, 32, 101, 98, 98, 116, 105, 100, 101, 47, 101, 98, 98, 116, 105, 100, 101, 108, 97, 119, 49, 52, 46, 80, 108, 97, 110, 83, 116, 105, 108, 108]
set_option maxRecDepth 100000 in
theorem io_eq : Try.pinned.checked.prog.initOrder = String.ofList (ioHead ++ ioRest) := by kernel_rfl
theorem io_toList : Try.pinned.checked.prog.initOrder.toList = ioHead ++ ioRest := by rw [io_eq]; exact String.toList_ofList
def ioCut : List Char := List.map Char.ofNat [99, 117, 116]
set_option maxRecDepth 100000 in
theorem io_words (r : List Char) : behindMainWord (wordsSigns (ioHead ++ r)) = ioCut :: wordsSigns r := by kernel_rfl
theorem io_behind : ∃ X, behindMainWord (wordsSigns Try.pinned.checked.prog.initOrder.toList) = ioCut :: X := ⟨_, by rw [io_toList]; exact io_words _⟩
theorem io_cut : ioCut = "cut".toList := by decide +kernel
theorem io_strip (X : List (List Char)) : stripLifts liftWords (ioCut :: X) = ([], ioCut :: X) := by kernel_rfl
theorem headLifts_cut (P : Program) (h : ∃ X, behindMainWord (wordsSigns P.initOrder.toList) = ioCut :: X) : P.headLifts = [] := by
  obtain ⟨X, e⟩ := h
  unfold Program.headLifts
  rw [e, io_strip]
  rfl
theorem mayEnter_cut (P : Program) (h : ∃ X, behindMainWord (wordsSigns P.initOrder.toList) = ioCut :: X) (h1 : P.laysLater = false) (h2 : P.bearsReflect = false) (h3 : P.doorFits [] = true) : P.mayEnter = true := by
  obtain ⟨X, e⟩ := h
  unfold Program.mayEnter
  rw [e]
  simp only [io_strip, h1, h2, h3]
  rw [io_cut]
  simp
theorem liftsFinal_cut (P : Program) (h : ∃ X, behindMainWord (wordsSigns P.initOrder.toList) = ioCut :: X) : P.liftsFinal = false := by
  have h0 := headLifts_cut P h
  obtain ⟨X, e⟩ := h
  unfold Program.liftsFinal
  rw [e, h0]
  rw [io_cut]
  simp
theorem make_cut (P : Program) (h : ∃ X, behindMainWord (wordsSigns P.initOrder.toList) = ioCut :: X) : P.make = some .cut := by
  obtain ⟨X, e⟩ := h
  unfold Program.make
  rw [e]
  simp only [io_cut]
  rw [if_neg (by decide +kernel), if_pos (by simp)]
theorem p_mayEnter : Try.pinned.checked.prog.mayEnter = true := mayEnter_cut _ io_behind (by kernel_rfl) (by kernel_rfl) (by kernel_rfl)
theorem p_liftsFinal : Try.pinned.checked.prog.liftsFinal = false := liftsFinal_cut _ io_behind
theorem p_make : Try.pinned.checked.prog.make = some .cut := make_cut _ io_behind
theorem p_laidOut : laidOutB Try.pinned.checked.prog = true := by kernel_rfl
theorem p_mapsRowed : mapsRowed Try.pinned.checked.prog = true := by kernel_rfl
theorem p_stopsHeard : Try.pinned.checked.prog.stopsHeard = true := by kernel_rfl
theorem p_stops : Try.pinned.checked.prog.stops = [] := by kernel_rfl
theorem p_stopKnobs : Try.pinned.checked.prog.stopKnobs = [] := by kernel_rfl
end Go.Proofs.Ytdghehebkalbgaa
end
section
namespace Go.Proofs.Ytdghehebkalbgaa.planChecks
open Go.ChangeShapes Go.WideShapes Go.ChangeAt Go.RowKit
open Go.ChangeMaps (open_string shut_string)
open Go.Proofs.Ytdghehebkalbgaa.Q Go.Proofs.Ytdghehebkalbgaa.R Go.Proofs.YtdghehebkalbgaaW.PrintWords
set_option linter.unusedVariables false
theorem own : ownKnob Try.prog.godebug = none := by kernel_rfl
theorem laidOut : laidOutB Try.prog = true := by kernel_rfl
theorem open24 {w : World} {x : S24} {cs : List Value} (h : k24.K w x cs) : ∃ (A2 : Option Addr) (c2 : Nat), cs = [.int .i64 x.f0, .bool x.f1, .slice A2 x.f2.length c2] ∧ x.f2.length ≤ c2 ∧ Kd.C k47 w A2 x.f2.length x.f2 := by
  obtain ⟨_, _, rfl, rfl, ⟨_, _, rfl, rfl, ⟨A2, c2, rfl, l2, g2⟩⟩⟩ := h
  exact ⟨A2, c2, rfl, l2, g2⟩
set_option maxRecDepth 100000 in
theorem lifted (os : Os) (started : os.Started) (H : Type) (enc : TypeId × Value → H) :
    ReturnsInHanded {} Try.checked os 8 .any (Rows.planChecksSpec.pre6 enc Try.prog Try.f8 Rows.planChecksRow.domain false) (Rows.planChecksSpec.post enc Try.prog Try.f8 false true false false) := by
  refine returnsInHanded_of_change_sized (C := Try.checked) own started (by kernel_rfl) Try.func8
    (ChangeSpec.witness6 (enc := enc) (C := Try.checked) false ⟨#[], #[.agg #[.int .i64 0, .bool false, .slice none 0 0], .int .i64 0, .int .i64 0, .int .i64 0, .slice none 0 0], []⟩ 8 (by kernel_rfl) (by kernel_rfl) (by kernel_rfl) (by kernel_rfl)) ?_
  intro W base args ds gs before hval0 hW hcnd hsz0 _
  have hval : ∀ (j : Nat) t v, Try.f8.params[j]? = some t → args[j]? = some v → Value.okWide Try.prog W .any base t v := hval0
  have hW' := hW
  obtain ⟨p, q, hA0, hV, rfl, hfz, hnd⟩ := hW
  have hA : DataW.TrodAll enc Try.prog W 0 (fun _ => true) true Try.f8.params.toList args.toList ds p := hA0
  rw [Try.params8] at hA hval
  obtain ⟨v0, vs0, d0, ds0, p0, q0, hargs, rfl, rfl, h0, r0⟩ := trodAll_cons hA
  obtain ⟨v1, vs1, d1, ds1, p1, q1, rfl, rfl, rfl, h1, r1⟩ := trodAll_cons r0
  obtain ⟨v2, vs2, d2, ds2, p2, q2, rfl, rfl, rfl, h2, r2⟩ := trodAll_cons r1
  obtain ⟨v3, vs3, d3, ds3, p3, q3, rfl, rfl, rfl, h3, r3⟩ := trodAll_cons r2
  obtain ⟨v4, vs4, d4, ds4, p4, q4, rfl, rfl, rfl, h4, r4⟩ := trodAll_cons r3
  obtain ⟨rfl, rfl, rfl⟩ := trodAll_nil r4
  obtain rfl : args = #[v0, v1, v2, v3, v4] := by cases args; simp_all
  obtain ⟨rfl, rfl⟩ := trodVars_none hV
  have k0 := h0
  have lt0 : ∀ x ∈ p0, x.block < W.heap.size := by obtain ⟨m, hm⟩ := k0; exact DataW.trod_lt m _ _ _ hm
  obtain ⟨fu0, hf0⟩ := h0
  obtain ⟨x0, K0, G0⟩ := reads24 enc W 0 (fun _ => true) true fu0 _ _ hf0
  obtain ⟨cs0, rfl, hsz0⟩ := okWide_struct Try.underlying24 (hval 0 24 v0 rfl rfl)
  have K0' : (k24).K W x0 cs0.toList := K0
  obtain ⟨ao0_2, co0_2, es0, hc0_2, hr0_2⟩ := open24 K0'
  obtain rfl : cs0 = _ := Array.toList_inj.1 es0
  have k1 := h1
  have lt1 : ∀ x ∈ p1, x.block < W.heap.size := by obtain ⟨m, hm⟩ := k1; exact DataW.trod_lt m _ _ _ hm
  obtain ⟨fu1, hf1⟩ := h1
  obtain ⟨x1, K1, G1⟩ := (readsInt Try.underlying3) enc W 0 (fun _ => true) true fu1 _ _ hf1
  obtain ⟨z1, rfl⟩ := okWide_int Try.underlying3 (hval 1 3 v1 rfl rfl)
  obtain rfl : x1 = z1 := Eq.symm (by simpa [Value.cells, Kd.int, Kd.scalar] using K1)
  have k2 := h2
  have lt2 : ∀ x ∈ p2, x.block < W.heap.size := by obtain ⟨m, hm⟩ := k2; exact DataW.trod_lt m _ _ _ hm
  obtain ⟨fu2, hf2⟩ := h2
  obtain ⟨x2, K2, G2⟩ := (readsInt Try.underlying3) enc W 0 (fun _ => true) true fu2 _ _ hf2
  obtain ⟨z2, rfl⟩ := okWide_int Try.underlying3 (hval 2 3 v2 rfl rfl)
  obtain rfl : x2 = z2 := Eq.symm (by simpa [Value.cells, Kd.int, Kd.scalar] using K2)
  have k3 := h3
  have lt3 : ∀ x ∈ p3, x.block < W.heap.size := by obtain ⟨m, hm⟩ := k3; exact DataW.trod_lt m _ _ _ hm
  obtain ⟨fu3, hf3⟩ := h3
  obtain ⟨x3, K3, G3⟩ := (readsInt Try.underlying3) enc W 0 (fun _ => true) true fu3 _ _ hf3
  obtain ⟨z3, rfl⟩ := okWide_int Try.underlying3 (hval 3 3 v3 rfl rfl)
  obtain rfl : x3 = z3 := Eq.symm (by simpa [Value.cells, Kd.int, Kd.scalar] using K3)
  have k4 := h4
  have lt4 : ∀ x ∈ p4, x.block < W.heap.size := by obtain ⟨m, hm⟩ := k4; exact DataW.trod_lt m _ _ _ hm
  obtain ⟨fu4, hf4⟩ := h4
  obtain ⟨x4, K4, G4⟩ := (readsSlice Try.underlying25 (by kernel_rfl) reads45) enc W 0 (fun _ => true) true fu4 _ _ hf4
  obtain ⟨a4, len4, cap4, rfl⟩ := okWide_slice Try.underlying25 (hval 4 25 v4 rfl rfl)
  obtain ⟨A4, c4, ek4, hc4, hr4⟩ := K4
  simp only [Value.cells, List.cons.injEq, and_true] at ek4
  injection ek4 with ea4 el4 ec4
  subst ea4 el4 ec4
  have h := Pure.PlanChecks _ _ _ _ _ x0 x1 x2 x3 x4 (G0 _ (Nat.le_refl _)) (G1 _ (Nat.le_refl _)) (G2 _ (Nat.le_refl _)) (G3 _ (Nat.le_refl _)) (G4 _ (Nat.le_refl _))
  obtain ⟨k, h⟩ := h
  refine (ebbtidelaw14_PlanChecks.calls k x0.f0 x0.f1 _ _ x0.f2 x1 x2 x3 _ _ x4 true W hr0_2 hc0_2 hr4 hc4 h).mono fun e W' ⟨he, bel0⟩ => ?_
  have bel : Below W.heap.size W W' := bel0
  subst he
  exact ⟨_, rfl, _, _, _, [], _, [], hW', trodAll_mk1 (shut_bool Try.underlying4 _), (trodAll_cons_mk (Below.trod laidOut (by kernel_rfl) (of_decide_eq_true (by kernel_rfl)) k0 bel lt0) (trodAll_cons_mk (Below.trod laidOut (by kernel_rfl) (of_decide_eq_true (by kernel_rfl)) k1 bel lt1) (trodAll_cons_mk (Below.trod laidOut (by kernel_rfl) (of_decide_eq_true (by kernel_rfl)) k2 bel lt2) (trodAll_cons_mk (Below.trod laidOut (by kernel_rfl) (of_decide_eq_true (by kernel_rfl)) k3 bel lt3) (trodAll_cons_mk (Below.trod laidOut (by kernel_rfl) (of_decide_eq_true (by kernel_rfl)) k4 bel lt4) trodAll_mk0))))), rfl, bel.frame _, fun h => by cases h⟩
theorem andI {a b : Bool} (x : a = true) (y : b = true) : (a && b) = true := by rw [x, y]; rfl
set_option maxRecDepth 100000 in
set_option maxHeartbeats 8000000 in
theorem closed : joinedFacts Try.pinned.checked.prog 8 Try.f8 Rows.planChecksSpec Rows.planChecksRow = true := by
  unfold joinedFacts
  exact (andI (andI (andI (andI (andI (andI (andI (andI (andI (andI (andI (andI (andI (andI (andI (andI (andI (andI (andI (andI (andI (andI (andI (andI (andI (andI (andI (andI (andI (andI (andI (by as_aux_lemma => kernel_rfl)
    p_laidOut)
    p_mapsRowed)
    (by as_aux_lemma => kernel_rfl))
    (by as_aux_lemma => kernel_rfl))
    (by as_aux_lemma => kernel_rfl))
    (by rw [p_stops]; rfl))
    (by as_aux_lemma => kernel_rfl))
    (by rw [p_stopKnobs]; rfl))
    (by as_aux_lemma => kernel_rfl))
    (by as_aux_lemma => kernel_rfl))
    (by as_aux_lemma => kernel_rfl))
    (by as_aux_lemma => kernel_rfl))
    (by as_aux_lemma => kernel_rfl))
    (by as_aux_lemma => kernel_rfl))
    (by as_aux_lemma => kernel_rfl))
    (by as_aux_lemma => kernel_rfl))
    (by as_aux_lemma => kernel_rfl))
    (by as_aux_lemma => kernel_rfl))
    (by as_aux_lemma => kernel_rfl))
    (by as_aux_lemma => kernel_rfl))
    (by as_aux_lemma => kernel_rfl))
    (by as_aux_lemma => kernel_rfl))
    (by as_aux_lemma => kernel_rfl))
    p_stopsHeard)
    p_mayEnter)
    (by rw [p_liftsFinal]; rfl))
    (by rw [p_make]; rfl))
    (by as_aux_lemma => kernel_rfl))
    (by as_aux_lemma => kernel_rfl))
    (by as_aux_lemma => kernel_rfl))
    (by as_aux_lemma => kernel_rfl))
theorem proved : Rows.PlanChecksSaid :=
  OpenClaim.holds_of_wide 8 Try.f8 rfl rfl rfl rfl rfl rfl rfl ⟨rfl, rfl, rfl, rfl, rfl⟩ rfl rfl rfl rfl rfl (by kernel_rfl) Try.func8 closed
    (of_decide_eq_true (by kernel_rfl)) (by unfold Func.isWrapper; first | (rw [if_pos (by decide +kernel)]; kernel_rfl) | (rw [if_neg (by decide +kernel)]; exact ⟨rfl, rfl⟩))
    (fun os started H enc _ => lifted os started H enc)
#print axioms proved
end Go.Proofs.Ytdghehebkalbgaa.planChecks
namespace Go.Proofs.Ytdghehebkalbgaa
theorem planChecks_holds : Rows.PlanChecksSaid := planChecks.proved
end Go.Proofs.Ytdghehebkalbgaa
end
