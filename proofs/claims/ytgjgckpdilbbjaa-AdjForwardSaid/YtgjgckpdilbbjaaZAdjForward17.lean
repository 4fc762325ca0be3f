/- A part of the proof: words, contracts, plain lemmas. Conditions: none. -/
import Derived.Test.YtgjgckpdilbbjaaZAdjForward3
import Derived.Test.YtgjgckpdilbbjaaZAdjForward16
import Derived.Test.YtgjgckpdilbbjaaZAdjForward13
import Derived.Test.YtgjgckpdilbbjaaZAdjForward14
import Derived.Test.YtgjgckpdilbbjaaZAdjForward15
import Derived.Test.YtgjgckpdilbbjaaZAdjForward11
import Derived.Test.YtgjgckpdilbbjaaZAdjForward10
section
namespace Go.Proofs.Ytgjgckpdilbbjaa.Q
open Go.RowKit Go.Proofs.YtgjgckpdilbbjaaW.PrintWords Go.Proofs.YtgjgckpdilbbjaaW.PrintLast Go.Proofs.YtgjgckpdilbbjaaW.PrintMore
attribute [local go_sem] max2_int min2_int max_two min_four
set_option linter.unusedVariables false
set_option linter.unusedSimpArgs false
def ebbtidelaw06_awake.f (k : Nat)  : Option (Bool) := (some (([(⟨0, 1, 0, 5⟩ : S37), (⟨1, 2, 0, 1⟩ : S37), (⟨0, 2, 0, 9⟩ : S37)] : List (S37)) : List (S37))).bind fun y144 => ((adj_Hops.f k 3 false y144 0).bind fun bt148 => ((adj_Fastest.f k 3 false y144 0).bind fun bt152 => ((adj_Order.f k 3 false y144).bind fun bt156 => (if bt148.2 = 0 then (if bt152.2 = 0 then (if bt156.2.2 = 0 then (if bt156.2.1 = true then ((ebbtideref03_SameInts.f k bt148.1 (([0, 1, 1] : List Int))).bind fun t164 => (if t164 = true then ((ebbtideref03_SameInts.f k bt152.1 (([0, 5, 6] : List Int))).bind fun t168 => (if t168 = true then ((ebbtideref03_SameInts.f k bt156.1 (([0, 1, 2] : List Int))).bind fun t172 => (some t172)) else (some false))) else (some false))) else (some false)) else (some false)) else (some false)) else (some false)))))
theorem ebbtidelaw06_awake.mono : ∀ k, LeO (ebbtidelaw06_awake.f k ) (ebbtidelaw06_awake.f (k + 1) ) := by
 intro  k
 unfold ebbtidelaw06_awake.f
 repeat' first
   | (with_reducible exact adj_Fastest.mono _ _ _ _ _)
   | (with_reducible exact adj_Hops.mono _ _ _ _ _)
   | (with_reducible exact adj_Order.mono _ _ _ _)
   | (with_reducible exact ebbtideref03_SameInts.mono _ _ _)
   | (with_reducible exact LeO.refl _)
   | (with_reducible exact LeO.none _)
   | (with_reducible refine LeO.ite ?_ ?_)
   | (with_reducible refine LeO.bind ?_ (fun _ => ?_))
   | exact adj_Fastest.mono _ _ _ _ _
   | exact adj_Hops.mono _ _ _ _ _
   | exact adj_Order.mono _ _ _ _
   | exact ebbtideref03_SameInts.mono _ _ _
   | exact LeO.none _
   | refine LeO.ite ?_ ?_
   | refine LeO.bind ?_ (fun _ => ?_)
set_option maxHeartbeats 8000000 in
set_option maxRecDepth 100000 in
theorem ebbtidelaw06_awake.calls (k : Nat)  (r : Bool) (w : World) (h : ebbtidelaw06_awake.f k  = some r) (hrt : r = true := by first | rfl | exact HRT.out | assumption) :
  Calls Try.prog 12 #[] w fun e w' => e = .returned (.bool r) ∧ Below w.heap.size w w' := by
 have HRT := Aside0.mk hrt; clear hrt; have hu37 := Try.underlying37; have hu24 := Try.underlying24; have HB := Aside0.mk (Below.refl w.heap.size w); have H : ((some (([(⟨0, 1, 0, 5⟩ : S37), (⟨1, 2, 0, 1⟩ : S37), (⟨0, 2, 0, 9⟩ : S37)] : List (S37)) : List (S37))).bind fun y144 => ((adj_Hops.f k 3 false y144 0).bind fun bt148 => ((adj_Fastest.f k 3 false y144 0).bind fun bt152 => ((adj_Order.f k 3 false y144).bind fun bt156 => (if bt148.2 = 0 then (if bt152.2 = 0 then (if bt156.2.2 = 0 then (if bt156.2.1 = true then ((ebbtideref03_SameInts.f k bt148.1 (([0, 1, 1] : List Int))).bind fun t164 => (if t164 = true then ((ebbtideref03_SameInts.f k bt152.1 (([0, 5, 6] : List Int))).bind fun t168 => (if t168 = true then ((ebbtideref03_SameInts.f k bt156.1 (([0, 1, 2] : List Int))).bind fun t172 => (some t172)) else (some false))) else (some false))) else (some false)) else (some false)) else (some false)) else (some false)))))) = some r := h; clear h; obtain ⟨y144, hy144⟩ : ∃ y_ : List (S37), y_ = (([(⟨0, 1, 0, 5⟩ : S37), (⟨1, 2, 0, 1⟩ : S37), (⟨0, 2, 0, 9⟩ : S37)] : List (S37))) := ⟨_, rfl⟩
 replace H : ((adj_Hops.f k 3 false y144 0).bind fun bt148 => ((adj_Fastest.f k 3 false y144 0).bind fun bt152 => ((adj_Order.f k 3 false y144).bind fun bt156 => (if bt148.2 = 0 then (if bt152.2 = 0 then (if bt156.2.2 = 0 then (if bt156.2.1 = true then ((ebbtideref03_SameInts.f k bt148.1 (([0, 1, 1] : List Int))).bind fun t164 => (if t164 = true then ((ebbtideref03_SameInts.f k bt152.1 (([0, 5, 6] : List Int))).bind fun t168 => (if t168 = true then ((ebbtideref03_SameInts.f k bt156.1 (([0, 1, 2] : List Int))).bind fun t172 => (some t172)) else (some false))) else (some false))) else (some false)) else (some false)) else (some false)) else (some false))))) = some r := by first | (rw [hy144]; with_reducible exact H) | (have H2_ := (Option.bind_some _ _).symm.trans H; rw [hy144]; with_reducible exact H2_) | (have H2_ := (Option.bind_some _ _).symm.trans H; with_reducible exact H2_) | with_reducible exact H | (rw [hy144]; exact H) | exact H
 have Ny144 := Aside0.mk hy144; clear hy144; replace H := Option.bind_eq_some_iff.mp H; obtain ⟨⟨t148, t151⟩, A10, H⟩ := H; replace H : ((adj_Fastest.f k 3 false y144 0).bind fun bt152 => ((adj_Order.f k 3 false y144).bind fun bt156 => (if t151 = 0 then (if bt152.2 = 0 then (if bt156.2.2 = 0 then (if bt156.2.1 = true then ((ebbtideref03_SameInts.f k t148 (([0, 1, 1] : List Int))).bind fun t164 => (if t164 = true then ((ebbtideref03_SameInts.f k bt152.1 (([0, 5, 6] : List Int))).bind fun t168 => (if t168 = true then ((ebbtideref03_SameInts.f k bt156.1 (([0, 1, 2] : List Int))).bind fun t172 => (some t172)) else (some false))) else (some false))) else (some false)) else (some false)) else (some false)) else (some false)))) = some r := H; have A1 := Aside0.mk A10; clear A10; replace H := Option.bind_eq_some_iff.mp H; obtain ⟨⟨t152, t155⟩, A20, H⟩ := H; replace H : ((adj_Order.f k 3 false y144).bind fun bt156 => (if t151 = 0 then (if t155 = 0 then (if bt156.2.2 = 0 then (if bt156.2.1 = true then ((ebbtideref03_SameInts.f k t148 (([0, 1, 1] : List Int))).bind fun t164 => (if t164 = true then ((ebbtideref03_SameInts.f k t152 (([0, 5, 6] : List Int))).bind fun t168 => (if t168 = true then ((ebbtideref03_SameInts.f k bt156.1 (([0, 1, 2] : List Int))).bind fun t172 => (some t172)) else (some false))) else (some false))) else (some false)) else (some false)) else (some false)) else (some false))) = some r := H; have A2 := Aside0.mk A20; clear A20; replace H := Option.bind_eq_some_iff.mp H; obtain ⟨⟨t156, t159, t160⟩, A30, H⟩ := H; replace H : (if t151 = 0 then (if t155 = 0 then (if t160 = 0 then (if t159 = true then ((ebbtideref03_SameInts.f k t148 (([0, 1, 1] : List Int))).bind fun t164 => (if t164 = true then ((ebbtideref03_SameInts.f k t152 (([0, 5, 6] : List Int))).bind fun t168 => (if t168 = true then ((ebbtideref03_SameInts.f k t156 (([0, 1, 2] : List Int))).bind fun t172 => (some t172)) else (some false))) else (some false))) else (some false)) else (some false)) else (some false)) else (some false)) = some r := H; have A3 := Aside0.mk A30; clear A30
 by_cases c4 : t151 = 0
 ·rw [if_pos c4] at H
  have c4b0 : (t151 == 0) = true := beq_iff_eq.mpr c4; have c4b1 : (t151 != 0) = false := bne_eq_false_iff_eq.mpr c4; clear c4
  by_cases c5 : t155 = 0
  ·rw [if_pos c5] at H
   have c5b0 : (t155 == 0) = true := beq_iff_eq.mpr c5; have c5b1 : (t155 != 0) = false := bne_eq_false_iff_eq.mpr c5; clear c5
   by_cases c6 : t160 = 0
   ·rw [if_pos c6] at H
    have c6b0 : (t160 == 0) = true := beq_iff_eq.mpr c6; have c6b1 : (t160 != 0) = false := bne_eq_false_iff_eq.mpr c6; clear c6
    by_cases c7 : t159 = true
    ·subst c7
     have H1 : ((ebbtideref03_SameInts.f k t148 (([0, 1, 1] : List Int))).bind fun t164 => (if t164 = true then ((ebbtideref03_SameInts.f k t152 (([0, 5, 6] : List Int))).bind fun t168 => (if t168 = true then ((ebbtideref03_SameInts.f k t156 (([0, 1, 2] : List Int))).bind fun t172 => (some t172)) else (some false))) else (some false))) = some r := by rw [if_pos rfl] at H; exact H
     clear H; have H := H1; clear H1; obtain ⟨y161, hy161⟩ : ∃ y_ : List Int, y_ = (([0, 1, 1] : List Int)) := ⟨_, rfl⟩
     replace H : ((ebbtideref03_SameInts.f k t148 y161).bind fun t164 => (if t164 = true then ((ebbtideref03_SameInts.f k t152 (([0, 5, 6] : List Int))).bind fun t168 => (if t168 = true then ((ebbtideref03_SameInts.f k t156 (([0, 1, 2] : List Int))).bind fun t172 => (some t172)) else (some false))) else (some false))) = some r := by first | (rw [hy161]; with_reducible exact H) | (have H2_ := (Option.bind_some _ _).symm.trans H; rw [hy161]; with_reducible exact H2_) | (have H2_ := (Option.bind_some _ _).symm.trans H; with_reducible exact H2_) | with_reducible exact H | (rw [hy161]; exact H) | exact H
     have Ny161 := Aside0.mk hy161; clear hy161; replace H := Option.bind_eq_some_iff.mp H; obtain ⟨t164, A80, H⟩ := H; replace H : (if t164 = true then ((ebbtideref03_SameInts.f k t152 (([0, 5, 6] : List Int))).bind fun t168 => (if t168 = true then ((ebbtideref03_SameInts.f k t156 (([0, 1, 2] : List Int))).bind fun t172 => (some t172)) else (some false))) else (some false)) = some r := H; have A8 := Aside0.mk A80; clear A80
     by_cases c9 : t164 = true
     ·subst c9
      have H1 : ((ebbtideref03_SameInts.f k t152 (([0, 5, 6] : List Int))).bind fun t168 => (if t168 = true then ((ebbtideref03_SameInts.f k t156 (([0, 1, 2] : List Int))).bind fun t172 => (some t172)) else (some false))) = some r := by rw [if_pos rfl] at H; exact H
      clear H; have H := H1; clear H1; obtain ⟨y165, hy165⟩ : ∃ y_ : List Int, y_ = (([0, 5, 6] : List Int)) := ⟨_, rfl⟩
      replace H : ((ebbtideref03_SameInts.f k t152 y165).bind fun t168 => (if t168 = true then ((ebbtideref03_SameInts.f k t156 (([0, 1, 2] : List Int))).bind fun t172 => (some t172)) else (some false))) = some r := by first | (rw [hy165]; with_reducible exact H) | (have H2_ := (Option.bind_some _ _).symm.trans H; rw [hy165]; with_reducible exact H2_) | (have H2_ := (Option.bind_some _ _).symm.trans H; with_reducible exact H2_) | with_reducible exact H | (rw [hy165]; exact H) | exact H
      have Ny165 := Aside0.mk hy165; clear hy165; replace H := Option.bind_eq_some_iff.mp H; obtain ⟨t168, A100, H⟩ := H; replace H : (if t168 = true then ((ebbtideref03_SameInts.f k t156 (([0, 1, 2] : List Int))).bind fun t172 => (some t172)) else (some false)) = some r := H; have A10 := Aside0.mk A100; clear A100
      by_cases c11 : t168 = true
      ·subst c11
       have H1 : ((ebbtideref03_SameInts.f k t156 (([0, 1, 2] : List Int))).bind fun t172 => (some t172)) = some r := by rw [if_pos rfl] at H; exact H
       clear H; have H := H1; clear H1; obtain ⟨y169, hy169⟩ : ∃ y_ : List Int, y_ = (([0, 1, 2] : List Int)) := ⟨_, rfl⟩
       replace H : ((ebbtideref03_SameInts.f k t156 y169).bind fun t172 => (some t172)) = some r := by first | (rw [hy169]; with_reducible exact H) | (have H2_ := (Option.bind_some _ _).symm.trans H; rw [hy169]; with_reducible exact H2_) | (have H2_ := (Option.bind_some _ _).symm.trans H; with_reducible exact H2_) | with_reducible exact H | (rw [hy169]; exact H) | exact H
       have Ny169 := Aside0.mk hy169; clear hy169; replace H := Option.bind_eq_some_iff.mp H; obtain ⟨t172, A120, H⟩ := H; replace H : (some t172) = some r := H; have A12 := Aside0.mk A120; clear A120; obtain rfl := Option.some.inj H
       go_enter Try.func12, Try.ntmps12
       go_wp2_with (first | ((with_reducible refine gate_dst (N := 12) rfl ?_); (try (refine gate_guard (by rfl) ?_; dsimp only)); refine Kd.R_lit k37 _ 37 ?hg (N := 12) ?hd (xs := ([(⟨0, 1, 0, 5⟩ : S37), (⟨1, 2, 0, 1⟩ : S37), (⟨0, 2, 0, 9⟩ : S37)] : List (S37))) (inner := [.int .i64 0, .int .i64 1, .int .i64 0, .int .i64 5, .int .i64 1, .int .i64 2, .int .i64 0, .int .i64 1, .int .i64 0, .int .i64 2, .int .i64 0, .int .i64 9]) (ok := fun _ => True) (okp := fun _ => True) ?hr ?hp (fun _ hk => hk) trivial (Below.refl _ _) (Nat.le_refl _) (by simp) ?_; (case hd => rfl); (case hg => rfl); (case hr => first | (go_simp; done) | (go_simp; rfl)); (case hp => exact (Reps.c4 (show Kd.M k37 _ _ _ (⟨0, 1, 0, 5⟩ : S37) [.int .i64 0, .int .i64 1, .int .i64 0, .int .i64 5] from (k37_mkM _ _ _ (⟨0, 1, 0, 5⟩ : S37) )) (Reps.c4 (show Kd.M k37 _ _ _ (⟨1, 2, 0, 1⟩ : S37) [.int .i64 1, .int .i64 2, .int .i64 0, .int .i64 1] from (k37_mkM _ _ _ (⟨1, 2, 0, 1⟩ : S37) )) (Reps.c4 (show Kd.M k37 _ _ _ (⟨0, 2, 0, 9⟩ : S37) [.int .i64 0, .int .i64 2, .int .i64 0, .int .i64 9] from (k37_mkM _ _ _ (⟨0, 2, 0, 9⟩ : S37) )) (Reps.none _ _))))); intro v145 w13 ho14 hb hg_ hnew_; clear hg_ hnew_; (first | rw [← Ny144.out] at ho14 | (simp only [Int.reduceToNat] at ho14; rw [← Ny144.out] at ho14)); have n0_ := Aside0.mk (Kd.R_lower ho14 (below_size (by repeat (first | (with_reducible first | exact HB.out | apply below_alloc | apply pw_below_drewN | apply below_drew1) | exact HB.out)))); have n1_ := Aside0.mk (below_step (by repeat (first | (with_reducible first | exact HB.out | apply below_alloc | apply pw_below_drewN | apply below_drew1) | exact HB.out)) hb); clear HB; have HO146 := n0_; have HB := n1_; clear n0_ n1_; clear hb ho14; obtain ⟨Ao15, co15, eo15⟩ := Kd.R_slice HO146.out; subst eo15) | ((with_reducible refine gate_dst (N := 1) rfl ?_); (try (refine gate_guard (by rfl) ?_; dsimp only)); refine box_event ?hg (N := 1) ?hd (cs := #[.int .i64 0, .bool false, .slice none 0 0]) (t := 24) ?hr ?_; (case hd => rfl); (case hg => rfl); (case hr => first | (go_simp; done) | (go_simp; rfl)); intro gb147 hg w16 hbox hb; have n0_ := Aside0.mk (Kd.R_below (by (with_reducible repeat (first | apply Kd.R_alloc | apply Kd.R_drewN | apply Kd.R_drew)); exact HO146.out) hb); have n1_ := Aside0.mk (below_step (by repeat (first | (with_reducible first | exact HB.out | apply below_alloc | apply pw_below_drewN | apply below_drew1) | exact HB.out)) hb); have n2_ := Aside0.mk (hbox); have n3_ := Aside0.mk ((by rw [hg]; exact (below_size (by repeat (first | (with_reducible first | exact HB.out | apply below_alloc | apply pw_below_drewN | apply below_drew1) | exact HB.out))) : w.heap.size ≤ gb147)); have n4_ := Aside0.mk ((by rw [hg]; exact (below_size (by repeat (first | (with_reducible first | exact HB.out | apply below_alloc | apply pw_below_drewN | apply below_drew1) | exact HB.out))) : w.heap.size ≤ gb147)); clear HO146; clear HB; have HO146 := n0_; have HB := n1_; have BK147 := n2_; have GW147 := n3_; have GE147 := n4_; clear n0_ n1_ n2_ n3_ n4_; clear hb hbox hg; have hcz17_0 : w16.cell? ⟨gb147, 0, none⟩ = some (.int .i64 0) := (blk_cell BK147.out 0).trans rfl; have hcz17_1 : w16.cell? ⟨gb147, 1, none⟩ = some (.bool false) := (blk_cell BK147.out 1).trans rfl; have hcz17_2 : w16.cell? ⟨gb147, 2, none⟩ = some (.slice none 0 0) := (blk_cell BK147.out 2).trans rfl; have hfz17_0 := blk_frozen BK147.out 0; have hfz17_1 := blk_frozen BK147.out 1; have hfz17_2 := blk_frozen BK147.out 2) | ((with_reducible refine gate_callee (f := 10) rfl ?_); refine goesL_ (some 16) rfl rfl Try.func10 (by kernel_rfl) rfl #[.agg #[.int .i64 3, .bool false, .slice Ao15 y144.length co15], .int .i64 0] rfl (by (try simp only [List.map_toArray, List.map_cons, List.map_nil]); first | done | rfl | (simp only [List.length_drop, List.length_take]; rfl)) ?_; (with_reducible refine (adj_Hops.calls k 3 false _ _ y144 0 t148 t151 _ ?side1 ?side2 A1.out).mono ?_); (case side1 => refine (Kd.R_reads' (e := 37) (base := w.heap.size) (ok := fun k_ => True) (n := y144.length) (c := co15) ?_).2.2; exact (by (with_reducible repeat (first | apply Kd.R_alloc | apply Kd.R_drewN | apply Kd.R_drew)); exact (Kd.R_mono (Kd.R_far (p := ⟨gb147, 2, none⟩) (Kd.R_far (p := ⟨gb147, 1, none⟩) (Kd.R_far (p := ⟨gb147, 0, none⟩) (Kd.R_types HO146.out BK147.out (by decide)) (fun _ hk => hk.2) (.int .i64 3)) (fun _ hk => hk.2) (.bool false)) (fun _ hk => hk.2) (.slice Ao15 y144.length co15)) (fun _ h_ => h_.1)))); (case side2 => exact (Kd.R_reads' HO146.out).2.1); rintro e w18 ⟨v149, rfl, ho0, hb⟩; refine ⟨_, rfl, ?_⟩; have n0_ := Aside0.mk (Kd.R_below (by (with_reducible repeat (first | apply Kd.R_alloc | apply Kd.R_drewN | apply Kd.R_drew)); exact (Kd.R_mono (Kd.R_far (p := ⟨gb147, 2, none⟩) (Kd.R_far (p := ⟨gb147, 1, none⟩) (Kd.R_far (p := ⟨gb147, 0, none⟩) (Kd.R_types HO146.out BK147.out (by decide)) (fun _ hk => hk.2) (.int .i64 3)) (fun _ hk => hk.2) (.bool false)) (fun _ hk => hk.2) (.slice Ao15 y144.length co15)) (fun _ h_ => h_.1))) hb); have n1_ := Aside0.mk (Kd.R_lower ho0 (below_size (by repeat (first | (with_reducible first | exact HB.out | apply below_alloc | apply pw_below_drewN | apply below_drew1 | refine below_set ?_ GE147.out) | exact HB.out)))); have n2_ := Aside0.mk (blk_below (g := gb147) (o := .cells #[.int .i64 3, .bool false, .slice Ao15 y144.length co15] 24 (0, 0)) (by (with_reducible repeat (first | refine blk_drewN ?_ _ | refine blk_drew ?_ | refine blk_alloc ?_ _)); refine blk_put (cs := #[.int .i64 3, .bool false, .slice none 0 0]) ?_ 2 _ rfl; (with_reducible repeat (first | refine blk_drewN ?_ _ | refine blk_drew ?_ | refine blk_alloc ?_ _)); refine blk_put (cs := #[.int .i64 3, .bool false, .slice none 0 0]) ?_ 1 _ rfl; (with_reducible repeat (first | refine blk_drewN ?_ _ | refine blk_drew ?_ | refine blk_alloc ?_ _)); refine blk_put (cs := #[.int .i64 0, .bool false, .slice none 0 0]) ?_ 0 _ rfl; (with_reducible repeat (first | refine blk_drewN ?_ _ | refine blk_drew ?_ | refine blk_alloc ?_ _)); exact BK147.out) hb); have n3_ := Aside0.mk (below_step (by repeat (first | (with_reducible first | exact HB.out | apply below_alloc | apply pw_below_drewN | apply below_drew1 | refine below_set ?_ GE147.out) | exact HB.out)) hb); clear HO146; clear BK147; clear HB; have HO146 := n0_; have HO150 := n1_; have BK147 := n2_; have HB := n3_; clear n0_ n1_ n2_ n3_; (try clear hb); (try clear hb2); (try clear hk); (try clear hi); (try clear ho0); have hcz19_0 : w18.cell? ⟨gb147, 0, none⟩ = some (.int .i64 3) := (blk_cell BK147.out 0).trans rfl; have hcz19_1 : w18.cell? ⟨gb147, 1, none⟩ = some (.bool false) := (blk_cell BK147.out 1).trans rfl; have hcz19_2 : w18.cell? ⟨gb147, 2, none⟩ = some (.slice Ao15 y144.length co15) := (blk_cell BK147.out 2).trans rfl; have hfz19_0 := blk_frozen BK147.out 0; have hfz19_1 := blk_frozen BK147.out 1; have hfz19_2 := blk_frozen BK147.out 2) | ((with_reducible refine gate_callee (f := 17) rfl ?_); refine goesL_ (some 21) rfl rfl Try.func17 (by kernel_rfl) rfl #[.agg #[.int .i64 3, .bool false, .slice Ao15 y144.length co15], .int .i64 0] rfl (by (try simp only [List.map_toArray, List.map_cons, List.map_nil]); first | done | rfl | (simp only [List.length_drop, List.length_take]; rfl)) ?_; (with_reducible refine (adj_Fastest.calls k 3 false _ _ y144 0 t152 t155 _ ?side1 ?side2 A2.out).mono ?_); (case side1 => repeat (first | exact (Kd.R_reads' HO146.out).2.2 | (with_reducible refine Kd.C_alloc ?_ _) | (with_reducible refine Kd.C_drewN ?_ _) | (with_reducible refine Kd.C_drew ?_))); (case side2 => exact (Kd.R_reads' HO146.out).2.1); rintro e w20 ⟨v153, rfl, ho0, hb⟩; refine ⟨_, rfl, ?_⟩; have n0_ := Aside0.mk (Kd.R_below (by (with_reducible repeat (first | apply Kd.R_alloc | apply Kd.R_drewN | apply Kd.R_drew)); exact HO146.out) hb); have n1_ := Aside0.mk (Kd.R_elder' (by (with_reducible repeat (first | apply Kd.R_alloc | apply Kd.R_drewN | apply Kd.R_drew)); exact HO150.out) (Kd.R_base ho0) hb); have n2_ := Aside0.mk (Kd.R_lower (Kd.R_new' ho0 (Kd.R_lt (by (with_reducible repeat (first | apply Kd.R_alloc | apply Kd.R_drewN | apply Kd.R_drew)); exact HO150.out))) (below_size (by repeat (first | (with_reducible first | exact HB.out | apply below_alloc | apply pw_below_drewN | apply below_drew1 | refine below_set ?_ GE147.out) | exact HB.out)))); have n3_ := Aside0.mk (blk_below (g := gb147) (o := .cells #[.int .i64 3, .bool false, .slice Ao15 y144.length co15] 24 (0, 0)) (by (with_reducible repeat (first | refine blk_drewN ?_ _ | refine blk_drew ?_ | refine blk_alloc ?_ _)); exact BK147.out) hb); have n4_ := Aside0.mk (below_step (by repeat (first | (with_reducible first | exact HB.out | apply below_alloc | apply pw_below_drewN | apply below_drew1 | refine below_set ?_ GE147.out) | exact HB.out)) hb); clear HO146; clear HO150; clear BK147; clear HB; have HO146 := n0_; have HO150 := n1_; have HO154 := n2_; have BK147 := n3_; have HB := n4_; clear n0_ n1_ n2_ n3_ n4_; (try clear hb); (try clear hb2); (try clear hk); (try clear hi); (try clear ho0); have hcz21_0 : w20.cell? ⟨gb147, 0, none⟩ = some (.int .i64 3) := (blk_cell BK147.out 0).trans rfl; have hcz21_1 : w20.cell? ⟨gb147, 1, none⟩ = some (.bool false) := (blk_cell BK147.out 1).trans rfl; have hcz21_2 : w20.cell? ⟨gb147, 2, none⟩ = some (.slice Ao15 y144.length co15) := (blk_cell BK147.out 2).trans rfl; have hfz21_0 := blk_frozen BK147.out 0; have hfz21_1 := blk_frozen BK147.out 1; have hfz21_2 := blk_frozen BK147.out 2) | ((with_reducible refine gate_callee (f := 15) rfl ?_); refine goesL_ (some 26) rfl rfl Try.func15 (by kernel_rfl) rfl #[.agg #[.int .i64 3, .bool false, .slice Ao15 y144.length co15]] rfl (by (try simp only [List.map_toArray, List.map_cons, List.map_nil]); first | done | rfl | (simp only [List.length_drop, List.length_take]; rfl)) ?_; (with_reducible refine (adj_Order.calls k 3 false _ _ y144 t156 true t160 _ ?side1 ?side2 A3.out).mono ?_); (case side1 => repeat (first | exact (Kd.R_reads' HO146.out).2.2 | (with_reducible refine Kd.C_alloc ?_ _) | (with_reducible refine Kd.C_drewN ?_ _) | (with_reducible refine Kd.C_drew ?_))); (case side2 => exact (Kd.R_reads' HO146.out).2.1); rintro e w22 ⟨v157, rfl, ho0, hb⟩; refine ⟨_, rfl, ?_⟩; have n0_ := Aside0.mk (Kd.R_below (by (with_reducible repeat (first | apply Kd.R_alloc | apply Kd.R_drewN | apply Kd.R_drew)); exact HO146.out) hb); have n1_ := Aside0.mk (Kd.R_elder' (by (with_reducible repeat (first | apply Kd.R_alloc | apply Kd.R_drewN | apply Kd.R_drew)); exact HO150.out) (Kd.R_base ho0) hb); have n2_ := Aside0.mk (Kd.R_elder' (by (with_reducible repeat (first | apply Kd.R_alloc | apply Kd.R_drewN | apply Kd.R_drew)); exact HO154.out) (Kd.R_base ho0) hb); have n3_ := Aside0.mk (Kd.R_lower (Kd.R_new' (Kd.R_new' ho0 (Kd.R_lt (by (with_reducible repeat (first | apply Kd.R_alloc | apply Kd.R_drewN | apply Kd.R_drew)); exact HO150.out))) (Kd.R_lt (by (with_reducible repeat (first | apply Kd.R_alloc | apply Kd.R_drewN | apply Kd.R_drew)); exact HO154.out))) (below_size (by repeat (first | (with_reducible first | exact HB.out | apply below_alloc | apply pw_below_drewN | apply below_drew1 | refine below_set ?_ GE147.out) | exact HB.out)))); have n4_ := Aside0.mk (blk_below (g := gb147) (o := .cells #[.int .i64 3, .bool false, .slice Ao15 y144.length co15] 24 (0, 0)) (by (with_reducible repeat (first | refine blk_drewN ?_ _ | refine blk_drew ?_ | refine blk_alloc ?_ _)); exact BK147.out) hb); have n5_ := Aside0.mk (below_step (by repeat (first | (with_reducible first | exact HB.out | apply below_alloc | apply pw_below_drewN | apply below_drew1 | refine below_set ?_ GE147.out) | exact HB.out)) hb); clear HO146; clear HO150; clear HO154; clear BK147; clear HB; have HO146 := n0_; have HO150 := n1_; have HO154 := n2_; have HO158 := n3_; have BK147 := n4_; have HB := n5_; clear n0_ n1_ n2_ n3_ n4_ n5_; (try clear hb); (try clear hb2); (try clear hk); (try clear hi); (try clear ho0)) | ((with_reducible refine gate_dst (N := 45) rfl ?_); (try (refine gate_guard (by rfl) ?_; dsimp only)); refine Kd.R_lit (Kd.int .i64) _ 3 ?hg (N := 45) ?hd (xs := ([0, 1, 1] : List Int)) (inner := [.int .i64 0, .int .i64 1, .int .i64 1]) (ok := fun _ => True) (okp := fun _ => True) ?hr ?hp (fun _ hk => hk) trivial (Below.refl _ _) (Nat.le_refl _) (by simp) ?_; (case hd => rfl); (case hg => rfl); (case hr => first | (go_simp; done) | (go_simp; rfl)); (case hp => exact (Reps.one (show Kd.M (Kd.int .i64) _ _ _ 0 [.int .i64 0] from rfl) (Reps.one (show Kd.M (Kd.int .i64) _ _ _ 1 [.int .i64 1] from rfl) (Reps.one (show Kd.M (Kd.int .i64) _ _ _ 1 [.int .i64 1] from rfl) (Reps.none _ _))))); intro v162 w23 ho24 hb hg_ hnew_; clear hg_ hnew_; (first | rw [← Ny161.out] at ho24 | (simp only [Int.reduceToNat] at ho24; rw [← Ny161.out] at ho24)); have n0_ := Aside0.mk (Kd.R_below (by (with_reducible repeat (first | apply Kd.R_alloc | apply Kd.R_drewN | apply Kd.R_drew)); exact HO146.out) hb); have n1_ := Aside0.mk (Kd.R_elder' (by (with_reducible repeat (first | apply Kd.R_alloc | apply Kd.R_drewN | apply Kd.R_drew)); exact HO150.out) (Kd.R_base ho24) hb); have n2_ := Aside0.mk (Kd.R_elder' (by (with_reducible repeat (first | apply Kd.R_alloc | apply Kd.R_drewN | apply Kd.R_drew)); exact HO154.out) (Kd.R_base ho24) hb); have n3_ := Aside0.mk (Kd.R_elder' (by (with_reducible repeat (first | apply Kd.R_alloc | apply Kd.R_drewN | apply Kd.R_drew)); exact HO158.out) (Kd.R_base ho24) hb); have n4_ := Aside0.mk (Kd.R_lower (Kd.R_new' (Kd.R_new' (Kd.R_new' ho24 (Kd.R_lt (by (with_reducible repeat (first | apply Kd.R_alloc | apply Kd.R_drewN | apply Kd.R_drew)); exact HO150.out))) (Kd.R_lt (by (with_reducible repeat (first | apply Kd.R_alloc | apply Kd.R_drewN | apply Kd.R_drew)); exact HO154.out))) (Kd.R_lt (by (with_reducible repeat (first | apply Kd.R_alloc | apply Kd.R_drewN | apply Kd.R_drew)); exact HO158.out))) (below_size (by repeat (first | (with_reducible first | exact HB.out | apply below_alloc | apply pw_below_drewN | apply below_drew1 | refine below_set ?_ GE147.out) | exact HB.out)))); have n5_ := Aside0.mk (blk_below (g := gb147) (o := .cells #[.int .i64 3, .bool false, .slice Ao15 y144.length co15] 24 (0, 0)) (by (with_reducible repeat (first | refine blk_drewN ?_ _ | refine blk_drew ?_ | refine blk_alloc ?_ _)); exact BK147.out) hb); have n6_ := Aside0.mk (below_step (by repeat (first | (with_reducible first | exact HB.out | apply below_alloc | apply pw_below_drewN | apply below_drew1 | refine below_set ?_ GE147.out) | exact HB.out)) hb); clear HO146; clear HO150; clear HO154; clear HO158; clear BK147; clear HB; have HO146 := n0_; have HO150 := n1_; have HO154 := n2_; have HO158 := n3_; have HO163 := n4_; have BK147 := n5_; have HB := n6_; clear n0_ n1_ n2_ n3_ n4_ n5_ n6_; clear hb ho24; obtain ⟨Ao25, co25, eo25⟩ := Kd.R_slice HO150.out; subst eo25; obtain ⟨Ao26, co26, eo26⟩ := Kd.R_slice HO163.out; subst eo26) | (go_at_call 13; (with_reducible refine (ebbtideref03_SameInts.calls k _ _ t148 _ _ y161 true _ ?side1 ?side2 ?side3 ?side4 A8.out).mono ?_); (case side1 => repeat (first | exact (Kd.R_reads' HO150.out).2.2 | (with_reducible refine Kd.C_alloc ?_ _) | (with_reducible refine Kd.C_drewN ?_ _) | (with_reducible refine Kd.C_drew ?_))); (case side2 => exact (Kd.R_reads' HO150.out).2.1); (case side3 => repeat (first | exact (Kd.R_reads' HO163.out).2.2 | (with_reducible refine Kd.C_alloc ?_ _) | (with_reducible refine Kd.C_drewN ?_ _) | (with_reducible refine Kd.C_drew ?_))); (case side4 => exact (Kd.R_reads' HO163.out).2.1); rintro e w' ⟨rfl, ⟨nd, rfl⟩⟩) | ((with_reducible refine gate_dst (N := 50) rfl ?_); (try (refine gate_guard (by rfl) ?_; dsimp only)); refine Kd.R_lit (Kd.int .i64) _ 3 ?hg (N := 50) ?hd (xs := ([0, 5, 6] : List Int)) (inner := [.int .i64 0, .int .i64 5, .int .i64 6]) (ok := fun _ => True) (okp := fun _ => True) ?hr ?hp (fun _ hk => hk) trivial (Below.refl _ _) (Nat.le_refl _) (by simp) ?_; (case hd => rfl); (case hg => rfl); (case hr => first | (go_simp; done) | (go_simp; rfl)); (case hp => exact (Reps.one (show Kd.M (Kd.int .i64) _ _ _ 0 [.int .i64 0] from rfl) (Reps.one (show Kd.M (Kd.int .i64) _ _ _ 5 [.int .i64 5] from rfl) (Reps.one (show Kd.M (Kd.int .i64) _ _ _ 6 [.int .i64 6] from rfl) (Reps.none _ _))))); intro v166 w27 ho28 hb hg_ hnew_; clear hg_ hnew_; (first | rw [← Ny165.out] at ho28 | (simp only [Int.reduceToNat] at ho28; rw [← Ny165.out] at ho28)); have n0_ := Aside0.mk (Kd.R_below (by (with_reducible repeat (first | apply Kd.R_alloc | apply Kd.R_drewN | apply Kd.R_drew)); exact HO146.out) hb); have n1_ := Aside0.mk (Kd.R_elder' (by (with_reducible repeat (first | apply Kd.R_alloc | apply Kd.R_drewN | apply Kd.R_drew)); exact HO150.out) (Kd.R_base ho28) hb); have n2_ := Aside0.mk (Kd.R_elder' (by (with_reducible repeat (first | apply Kd.R_alloc | apply Kd.R_drewN | apply Kd.R_drew)); exact HO154.out) (Kd.R_base ho28) hb); have n3_ := Aside0.mk (Kd.R_elder' (by (with_reducible repeat (first | apply Kd.R_alloc | apply Kd.R_drewN | apply Kd.R_drew)); exact HO158.out) (Kd.R_base ho28) hb); have n4_ := Aside0.mk (Kd.R_elder' (by (with_reducible repeat (first | apply Kd.R_alloc | apply Kd.R_drewN | apply Kd.R_drew)); exact HO163.out) (Kd.R_base ho28) hb); have n5_ := Aside0.mk (Kd.R_lower (Kd.R_new' (Kd.R_new' (Kd.R_new' (Kd.R_new' ho28 (Kd.R_lt (by (with_reducible repeat (first | apply Kd.R_alloc | apply Kd.R_drewN | apply Kd.R_drew)); exact HO150.out))) (Kd.R_lt (by (with_reducible repeat (first | apply Kd.R_alloc | apply Kd.R_drewN | apply Kd.R_drew)); exact HO154.out))) (Kd.R_lt (by (with_reducible repeat (first | apply Kd.R_alloc | apply Kd.R_drewN | apply Kd.R_drew)); exact HO158.out))) (Kd.R_lt (by (with_reducible repeat (first | apply Kd.R_alloc | apply Kd.R_drewN | apply Kd.R_drew)); exact HO163.out))) (below_size (by repeat (first | (with_reducible first | exact HB.out | apply below_alloc | apply pw_below_drewN | apply below_drew1 | refine below_set ?_ GE147.out) | exact HB.out)))); have n6_ := Aside0.mk (blk_below (g := gb147) (o := .cells #[.int .i64 3, .bool false, .slice Ao15 y144.length co15] 24 (0, 0)) (by (with_reducible repeat (first | refine blk_drewN ?_ _ | refine blk_drew ?_ | refine blk_alloc ?_ _)); exact BK147.out) hb); have n7_ := Aside0.mk (below_step (by repeat (first | (with_reducible first | exact HB.out | apply below_alloc | apply pw_below_drewN | apply below_drew1 | refine below_set ?_ GE147.out) | exact HB.out)) hb); clear HO146; clear HO150; clear HO154; clear HO158; clear HO163; clear BK147; clear HB; have HO146 := n0_; have HO150 := n1_; have HO154 := n2_; have HO158 := n3_; have HO163 := n4_; have HO167 := n5_; have BK147 := n6_; have HB := n7_; clear n0_ n1_ n2_ n3_ n4_ n5_ n6_ n7_; clear hb ho28; obtain ⟨Ao29, co29, eo29⟩ := Kd.R_slice HO154.out; subst eo29; obtain ⟨Ao30, co30, eo30⟩ := Kd.R_slice HO167.out; subst eo30) | (go_at_call 13; (with_reducible refine (ebbtideref03_SameInts.calls k _ _ t152 _ _ y165 true _ ?side1 ?side2 ?side3 ?side4 A10.out).mono ?_); (case side1 => repeat (first | exact (Kd.R_reads' HO154.out).2.2 | (with_reducible refine Kd.C_alloc ?_ _) | (with_reducible refine Kd.C_drewN ?_ _) | (with_reducible refine Kd.C_drew ?_))); (case side2 => exact (Kd.R_reads' HO154.out).2.1); (case side3 => repeat (first | exact (Kd.R_reads' HO167.out).2.2 | (with_reducible refine Kd.C_alloc ?_ _) | (with_reducible refine Kd.C_drewN ?_ _) | (with_reducible refine Kd.C_drew ?_))); (case side4 => exact (Kd.R_reads' HO167.out).2.1); rintro e w' ⟨rfl, ⟨nd, rfl⟩⟩) | ((with_reducible refine gate_dst (N := 55) rfl ?_); (try (refine gate_guard (by rfl) ?_; dsimp only)); refine Kd.R_lit (Kd.int .i64) _ 3 ?hg (N := 55) ?hd (xs := ([0, 1, 2] : List Int)) (inner := [.int .i64 0, .int .i64 1, .int .i64 2]) (ok := fun _ => True) (okp := fun _ => True) ?hr ?hp (fun _ hk => hk) trivial (Below.refl _ _) (Nat.le_refl _) (by simp) ?_; (case hd => rfl); (case hg => rfl); (case hr => first | (go_simp; done) | (go_simp; rfl)); (case hp => exact (Reps.one (show Kd.M (Kd.int .i64) _ _ _ 0 [.int .i64 0] from rfl) (Reps.one (show Kd.M (Kd.int .i64) _ _ _ 1 [.int .i64 1] from rfl) (Reps.one (show Kd.M (Kd.int .i64) _ _ _ 2 [.int .i64 2] from rfl) (Reps.none _ _))))); intro v170 w31 ho32 hb hg_ hnew_; clear hg_ hnew_; (first | rw [← Ny169.out] at ho32 | (simp only [Int.reduceToNat] at ho32; rw [← Ny169.out] at ho32)); have n0_ := Aside0.mk (Kd.R_below (by (with_reducible repeat (first | apply Kd.R_alloc | apply Kd.R_drewN | apply Kd.R_drew)); exact HO146.out) hb); have n1_ := Aside0.mk (Kd.R_elder' (by (with_reducible repeat (first | apply Kd.R_alloc | apply Kd.R_drewN | apply Kd.R_drew)); exact HO150.out) (Kd.R_base ho32) hb); have n2_ := Aside0.mk (Kd.R_elder' (by (with_reducible repeat (first | apply Kd.R_alloc | apply Kd.R_drewN | apply Kd.R_drew)); exact HO154.out) (Kd.R_base ho32) hb); have n3_ := Aside0.mk (Kd.R_elder' (by (with_reducible repeat (first | apply Kd.R_alloc | apply Kd.R_drewN | apply Kd.R_drew)); exact HO158.out) (Kd.R_base ho32) hb); have n4_ := Aside0.mk (Kd.R_elder' (by (with_reducible repeat (first | apply Kd.R_alloc | apply Kd.R_drewN | apply Kd.R_drew)); exact HO163.out) (Kd.R_base ho32) hb); have n5_ := Aside0.mk (Kd.R_elder' (by (with_reducible repeat (first | apply Kd.R_alloc | apply Kd.R_drewN | apply Kd.R_drew)); exact HO167.out) (Kd.R_base ho32) hb); have n6_ := Aside0.mk (Kd.R_lower (Kd.R_new' (Kd.R_new' (Kd.R_new' (Kd.R_new' (Kd.R_new' ho32 (Kd.R_lt (by (with_reducible repeat (first | apply Kd.R_alloc | apply Kd.R_drewN | apply Kd.R_drew)); exact HO150.out))) (Kd.R_lt (by (with_reducible repeat (first | apply Kd.R_alloc | apply Kd.R_drewN | apply Kd.R_drew)); exact HO154.out))) (Kd.R_lt (by (with_reducible repeat (first | apply Kd.R_alloc | apply Kd.R_drewN | apply Kd.R_drew)); exact HO158.out))) (Kd.R_lt (by (with_reducible repeat (first | apply Kd.R_alloc | apply Kd.R_drewN | apply Kd.R_drew)); exact HO163.out))) (Kd.R_lt (by (with_reducible repeat (first | apply Kd.R_alloc | apply Kd.R_drewN | apply Kd.R_drew)); exact HO167.out))) (below_size (by repeat (first | (with_reducible first | exact HB.out | apply below_alloc | apply pw_below_drewN | apply below_drew1 | refine below_set ?_ GE147.out) | exact HB.out)))); have n7_ := Aside0.mk (blk_below (g := gb147) (o := .cells #[.int .i64 3, .bool false, .slice Ao15 y144.length co15] 24 (0, 0)) (by (with_reducible repeat (first | refine blk_drewN ?_ _ | refine blk_drew ?_ | refine blk_alloc ?_ _)); exact BK147.out) hb); have n8_ := Aside0.mk (below_step (by repeat (first | (with_reducible first | exact HB.out | apply below_alloc | apply pw_below_drewN | apply below_drew1 | refine below_set ?_ GE147.out) | exact HB.out)) hb); clear HO146; clear HO150; clear HO154; clear HO158; clear HO163; clear HO167; clear BK147; clear HB; have HO146 := n0_; have HO150 := n1_; have HO154 := n2_; have HO158 := n3_; have HO163 := n4_; have HO167 := n5_; have HO171 := n6_; have BK147 := n7_; have HB := n8_; clear n0_ n1_ n2_ n3_ n4_ n5_ n6_ n7_ n8_; clear hb ho32; obtain ⟨Ao33, co33, eo33⟩ := Kd.R_slice HO158.out; subst eo33; obtain ⟨Ao34, co34, eo34⟩ := Kd.R_slice HO171.out; subst eo34) | (go_at_call 13; (with_reducible refine (ebbtideref03_SameInts.calls k _ _ t156 _ _ y169 t172 _ ?side1 ?side2 ?side3 ?side4 A12.out).mono ?_); (case side1 => repeat (first | exact (Kd.R_reads' HO158.out).2.2 | (with_reducible refine Kd.C_alloc ?_ _) | (with_reducible refine Kd.C_drewN ?_ _) | (with_reducible refine Kd.C_drew ?_))); (case side2 => exact (Kd.R_reads' HO158.out).2.1); (case side3 => repeat (first | exact (Kd.R_reads' HO171.out).2.2 | (with_reducible refine Kd.C_alloc ?_ _) | (with_reducible refine Kd.C_drewN ?_ _) | (with_reducible refine Kd.C_drew ?_))); (case side4 => exact (Kd.R_reads' HO171.out).2.1); rintro e w' ⟨rfl, ⟨nd, rfl⟩⟩))
       go_ret
       exact ⟨by first | rfl | (simp [errW_none, errW_some] <;> rfl) | (simp [*, errW_none, errW_some] <;> rfl), by repeat (first | (with_reducible first | exact HB.out | apply below_alloc | apply pw_below_drewN | apply below_drew1 | refine below_set ?_ GE147.out) | exact HB.out)⟩
      ·replace c11 := Bool.eq_false_iff.mpr c11
       subst c11
       have H1 : (some false) = some r := by rw [if_neg (show ¬ (false = true) by decide)] at H; exact H
       clear H; have H := H1; clear H1; exact absurd ((Option.some.inj H).trans HRT.out) (by decide)
     ·replace c9 := Bool.eq_false_iff.mpr c9
      subst c9
      have H1 : (some false) = some r := by rw [if_neg (show ¬ (false = true) by decide)] at H; exact H
      clear H; have H := H1; clear H1; exact absurd ((Option.some.inj H).trans HRT.out) (by decide)
    ·replace c7 := Bool.eq_false_iff.mpr c7
     subst c7
     have H1 : (some false) = some r := by rw [if_neg (show ¬ (false = true) by decide)] at H; exact H
     clear H; have H := H1; clear H1; exact absurd ((Option.some.inj H).trans HRT.out) (by decide)
   ·rw [if_neg c6] at H
    have c6b0 : (t160 == 0) = false := beq_eq_false_iff_ne.mpr c6; have c6b1 : (t160 != 0) = true := bne_iff_ne.mpr c6; exact absurd ((Option.some.inj H).trans HRT.out) (by decide)
  ·rw [if_neg c5] at H
   have c5b0 : (t155 == 0) = false := beq_eq_false_iff_ne.mpr c5; have c5b1 : (t155 != 0) = true := bne_iff_ne.mpr c5; exact absurd ((Option.some.inj H).trans HRT.out) (by decide)
 ·rw [if_neg c4] at H
  have c4b0 : (t151 == 0) = false := beq_eq_false_iff_ne.mpr c4; have c4b1 : (t151 != 0) = true := bne_iff_ne.mpr c4; exact absurd ((Option.some.inj H).trans HRT.out) (by decide)
end Go.Proofs.Ytgjgckpdilbbjaa.Q
end
section
namespace Go.Proofs.Ytgjgckpdilbbjaa.P
set_option linter.unusedSimpArgs false
set_option linter.unusedVariables false
open Go.RowKit Go.Proofs.Ytgjgckpdilbbjaa.Q Go.Proofs.YtgjgckpdilbbjaaW.PrintWords Go.Proofs.YtgjgckpdilbbjaaW.PrintLast Go.Proofs.YtgjgckpdilbbjaaW.PrintMore
theorem awake06_at : ebbtidelaw06_awake.f 60 = some true := by decide +kernel
theorem awake06_ev : Ev (fun k => ebbtidelaw06_awake.f k) true := Ev.of (fun k => ebbtidelaw06_awake.mono k) awake06_at
def placesAt (e : S37 → Int) (l : List S37) (i : Nat) (v : Int) : List Int := ((List.range i).filter (fun (j : Nat) => e (rd_T37 l (j : Int)) == v)).map (fun (j : Nat) => (j : Int))
theorem placesAt_succ (e : S37 → Int) (l : List S37) (i : Nat) (v : Int) : placesAt e l (i + 1) v = if e (rd_T37 l (i : Int)) = v then placesAt e l i v ++ [(i : Int)] else placesAt e l i v := by
  unfold placesAt
  rw [List.range_succ, List.filter_append]
  by_cases c : e (rd_T37 l (i : Int)) = v
  · rw [if_pos c, List.map_append]
    simp [c]
  · rw [if_neg c]
    simp [c]
theorem placesAt_length (e : S37 → Int) (l : List S37) (i : Nat) (v : Int) : (placesAt e l i v).length ≤ i := by
  unfold placesAt
  rw [List.length_map]
  refine Nat.le_trans (List.length_filter_le _ _) ?_
  rw [List.length_range]; exact Nat.le_refl _
def rowsAt (e : S37 → Int) (l : List S37) (n i : Nat) : List (List Int) := (List.range n).map (fun (v : Nat) => placesAt e l i (v : Int))
theorem rowsAt_length (e : S37 → Int) (l : List S37) (n i : Nat) : (rowsAt e l n i).length = n := by unfold rowsAt; simp
theorem rowsAt_rd (e : S37 → Int) (l : List S37) (n i : Nat) (v : Int) (h0 : 0 ≤ v) (h1 : v < (n : Int)) : rd_L3 (rowsAt e l n i) v = placesAt e l i v := by
  unfold rd_L3 rowsAt
  rw [List.getD_eq_getElem?_getD, List.getElem?_map, List.getElem?_range (by omega)]
  simp only [Option.map_some, Option.getD_some]
  rw [Int.toNat_of_nonneg h0]
theorem rowsAt_zero (e : S37 → Int) (l : List S37) (n : Nat) : rowsAt e l n 0 = List.replicate n [] := by
  apply List.ext_getElem
  · simp [rowsAt]
  · intro i h1 h2; simp [rowsAt, placesAt]
theorem rowsAt_step (e : S37 → Int) (l : List S37) (n i : Nat) (h0 : 0 ≤ e (rd_T37 l (i : Int))) (h1 : e (rd_T37 l (i : Int)) < (n : Int)) : (rowsAt e l n i).set (e (rd_T37 l (i : Int))).toNat (rd_L3 (rowsAt e l n i) (e (rd_T37 l (i : Int))) ++ [(i : Int)]) = rowsAt e l n (i + 1) := by
  rw [rowsAt_rd e l n i _ h0 h1]
  apply List.ext_getElem
  · simp [rowsAt]
  · intro j h2 h3
    rw [rowsAt_length] at h3
    rw [List.getElem_set]
    have e1 : (rowsAt e l n (i + 1))[j]'(by rw [rowsAt_length]; exact h3) = placesAt e l (i + 1) (j : Int) := by simp [rowsAt]
    have e2 : (rowsAt e l n i)[j]'(by rw [rowsAt_length]; exact h3) = placesAt e l i (j : Int) := by simp [rowsAt]
    rw [e1, placesAt_succ]
    by_cases c : e (rd_T37 l (i : Int)) = (j : Int)
    · rw [if_pos (by omega), if_pos c, c]
    · rw [if_neg (by omega), if_neg c, e2]
theorem rdT_mem {l : List S37} {i : Nat} (h : i < l.length) : rd_T37 l (i : Int) ∈ l := by rw [rdA_of h]; exact List.getElem_mem h
theorem lists_loop (n : Nat) (l : List S37) (hok : ∀ a ∈ l, ArcOk (n : Int) a) (hl : l.length ≤ 200) (d : Nat) : ∀ i, i + d = l.length → Ev (fun k => adj_lists.l0 k (rowsAt S37.f0 l n i) l (l.length : Int) (i : Int)) (rowsAt S37.f0 l n l.length) := by
  induction d with
  | zero =>
    intro i hi
    rw [show i = l.length by omega]
    exact ev_cst fun k => by rw [adj_lists.l0, if_neg (by omega)]
  | succ d ih =>
    intro i hi
    have ha := hok _ (rdT_mem (l := l) (i := i) (by omega))
    refine Ev.step (fun k => ?_) (ih (i + 1) (by omega))
    have hp := placesAt_length S37.f0 l i ((rd_T37 l (i : Int)).f0)
    rw [adj_lists.l0, if_pos (by omega), if_pos (by omega), if_pos (by omega)]
    simp only [adj_from.f, Option.bind_some]
    rw [if_pos ha.f0.1, if_pos (by rw [rowsAt_length]; exact ha.f0.2), if_pos (by rw [rowsAt_rd _ _ _ _ _ ha.f0.1 ha.f0.2]; omega), rowsAt_step S37.f0 l n i ha.f0.1 ha.f0.2, wrap1 (by omega)]
def leav (n : Int) (l : List S37) : List (List Int) := rowsAt S37.f0 l n.toNat l.length
theorem leaving_ev {n : Int} {l : List S37} (b : Bool) (h : NetOk n l) : Ev (fun k => adj_Leaving.f k n b l) (leav n l) := by
  have hn : (n.toNat : Int) = n := Int.toNat_of_nonneg (by have := h.lo; omega)
  have hloop := lists_loop n.toNat l (by rw [hn]; exact h.arcs) h.len l.length 0 (by omega)
  unfold adj_Leaving.f
  refine Ev.bind (Ev.congr (fun k => ?_) hloop) (Ev.now _)
  · unfold adj_lists.f
    rw [if_pos (by have := h.lo; omega), if_pos (by have := h.hi; omega), rowsAt_zero]
    rfl
theorem rd_set {d : List Int} {i : Nat} {x : Int} (hi : i < d.length) (v : Nat) : rd (d.set i x) (v : Int) = if v = i then x else rd d (v : Int) := by
  unfold rd
  rw [Int.toNat_natCast, List.getD_eq_getElem?_getD, List.getD_eq_getElem?_getD, List.getElem?_set]
  by_cases c : i = v
  · subst c; rw [if_pos rfl, if_pos hi, if_pos rfl]; rfl
  · rw [if_neg c, if_neg (fun e => c e.symm)]
theorem rd_replicate {n : Nat} {x : Int} {v : Nat} (h : v < n) : rd (List.replicate n x) (v : Int) = x := by
  unfold rd
  rw [Int.toNat_natCast, List.getD_eq_getElem?_getD, List.getElem?_replicate, if_pos h]; rfl
theorem nodup_short : ∀ {n : Nat} {l : List Nat}, l.Nodup → (∀ x ∈ l, x < n) → l.length ≤ n
  | 0, [], _, _ => Nat.le_refl _
  | 0, x :: l, _, h => absurd (h x List.mem_cons_self) (Nat.not_lt_zero _)
  | n + 1, l, hn, h => by
    have h1 : (l.filter (fun x => x != n)).length ≤ n := nodup_short (List.Pairwise.filter _ hn) (fun x hx => by
      have h2 := List.mem_filter.1 hx
      have h3 := h x h2.1
      have h4 : x ≠ n := by simpa using h2.2
      omega)
    have h2 : l.length ≤ (l.filter (fun x => x != n)).length + 1 := by
      clear h h1
      induction l with
      | nil => exact Nat.zero_le _
      | cons y l ih =>
        obtain ⟨g1, g2⟩ := List.nodup_cons.1 hn
        by_cases c : y = n
        · subst c
          have : l.filter (fun x => x != y) = l := List.filter_eq_self.2 (fun x hx => by
            have : x ≠ y := fun e => g1 (e ▸ hx)
            simpa using this)
          rw [List.filter_cons, this]; simp
        · rw [List.filter_cons, if_pos (by simpa using c)]
          have := ih g2
          simp only [List.length_cons]; omega
    omega
section
variable {l : List S37} {wt : S37 → Int} {s n : Nat}
end
theorem nodup_ints {n : Nat} {q : List Int} (hn : q.Nodup) (h : ∀ x ∈ q, 0 ≤ x ∧ x < (n : Int)) : q.length ≤ n := by
  have h1 : (q.map Int.toNat).Nodup := by
    refine List.pairwise_map.2 (List.Pairwise.imp_of_mem ?_ hn)
    intro a b ha hb hab e
    have h1 := h a ha
    have h2 := h b hb
    have e' : a.toNat = b.toNat := e
    have e3 : a = b := by omega
    exact hab e3
  have := nodup_short (n := n) h1 (fun x hx => by
    obtain ⟨y, hy, rfl⟩ := List.mem_map.1 hx
    have := h y hy
    omega)
  rw [List.length_map] at this
  exact this
theorem plc_mem {e : S37 → Int} {l : List S37} {v x : Int} : x ∈ placesAt e l l.length v ↔ ∃ j : Nat, j < l.length ∧ e (rd_T37 l (j : Int)) = v ∧ x = (j : Int) := by
  unfold placesAt
  rw [List.mem_map]
  constructor
  · rintro ⟨j, hj, rfl⟩
    rw [List.mem_filter, List.mem_range] at hj
    exact ⟨j, hj.1, by simpa using hj.2, rfl⟩
  · rintro ⟨j, h1, h2, rfl⟩
    exact ⟨j, List.mem_filter.2 ⟨List.mem_range.2 h1, by simpa using h2⟩, rfl⟩
theorem mem_rdT {l : List S37} {a : S37} (h : a ∈ l) : ∃ j : Nat, j < l.length ∧ rd_T37 l (j : Int) = a := by
  obtain ⟨j, hj, e⟩ := List.mem_iff_getElem.1 h
  exact ⟨j, hj, by rw [rdA_of hj]; exact e⟩
def Shut (wt : S37 → Int) (d : List Int) (a : S37) : Prop := 0 ≤ rd d a.f1 ∧ rd d a.f1 ≤ rd d a.f0 + wt a
end Go.Proofs.Ytgjgckpdilbbjaa.P
end
