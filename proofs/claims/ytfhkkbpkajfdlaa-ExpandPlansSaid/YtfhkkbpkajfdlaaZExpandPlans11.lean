/- A part of the proof: words, contracts, plain lemmas. Conditions: none. -/
import Derived.Test.YtfhkkbpkajfdlaaZExpandPlans10
set_option linter.unusedSimpArgs false
set_option linter.unusedVariables false
section
namespace Go.Proofs.Ytfhkkbpkajfdlaa.Q
open Go.RowKit Go.Proofs.YtfhkkbpkajfdlaaW.PrintWords Go.Proofs.YtfhkkbpkajfdlaaW.PrintLast Go.Proofs.YtfhkkbpkajfdlaaW.PrintMore
def ebbtideref14_Move.f (a0_0 : Int) (a0_1 : Bool) (l0_2 : List (S54)) (a1 : Int) (a2 : Int) (a3 : Int) (a4_0 : Int) (a4_1 : Int) (a4_2 : Int) : Option (Bool) := if a4_0 < 0 then (some false) else (if a4_0 ≥ (l0_2.length : Int) then (some false) else (if a4_1 < 0 then (some false) else (if a4_1 > a3 then (some false) else (if 0 ≤ a4_0 then (if a4_0 < (l0_2.length : Int) then (if (wrap64 (a4_1 + ((rd_T54 l0_2 a4_0).f3))) ≤ a3 then (if a4_2 ≥ 0 then (if a4_2 ≤ ((rd_T54 l0_2 a4_0).f2) then (if ((rd_T54 l0_2 a4_0).f1) = a1 then (some false) else (some (((rd_T54 l0_2 a4_0).f0) != a2))) else (some false)) else (some false)) else (some false)) else (none)) else (none)))))
set_option maxHeartbeats 8000000 in
set_option maxRecDepth 100000 in
theorem ebbtideref14_Move.calls (a0_0 : Int) (a0_1 : Bool) (A0_2 : Option Addr) (c0_2 : Nat) (l0_2 : List (S54)) (a1 : Int) (a2 : Int) (a3 : Int) (a4_0 : Int) (a4_1 : Int) (a4_2 : Int) (r : Bool) (w : World) (hr0_2 : Kd.C k54 w A0_2 l0_2.length l0_2) (hc0_2 : l0_2.length ≤ c0_2) (h : ebbtideref14_Move.f a0_0 a0_1 l0_2 a1 a2 a3 a4_0 a4_1 a4_2 = some r) :
  Calls Try.prog 82 #[.agg #[.int .i64 a0_0, .bool a0_1, .slice A0_2 l0_2.length c0_2], .int .i64 a1, .int .i64 a2, .int .i64 a3, .agg #[.int .i64 a4_0, .int .i64 a4_1, .int .i64 a4_2]] w fun e w' => e = .returned (.bool r) ∧ Below w.heap.size w w' := by
 have hu24 := Try.underlying24; have hu85 := Try.underlying85; have hu54 := Try.underlying54; have HR0_2 := am_ hr0_2; have HC0_2 := am_ hc0_2; clear hr0_2 hc0_2; have HB := am_ (Below.refl w.heap.size w); have H : (if a4_0 < 0 then (some false) else (if a4_0 ≥ (l0_2.length : Int) then (some false) else (if a4_1 < 0 then (some false) else (if a4_1 > a3 then (some false) else (if 0 ≤ a4_0 then (if a4_0 < (l0_2.length : Int) then (if (wrap64 (a4_1 + ((rd_T54 l0_2 a4_0).f3))) ≤ a3 then (if a4_2 ≥ 0 then (if a4_2 ≤ ((rd_T54 l0_2 a4_0).f2) then (if ((rd_T54 l0_2 a4_0).f1) = a1 then (some false) else (some (((rd_T54 l0_2 a4_0).f0) != a2))) else (some false)) else (some false)) else (some false)) else (none)) else (none)))))) = some r := h; clear h
 by_cases c6 : a4_0 < 0
 ·rw [if_pos c6] at H
  have c6b0 := decide_eq_true c6; clear c6; obtain rfl := Option.some.inj H
  go_enter Try.func82, Try.ntmps82
  go_wp2_with (first | ((with_reducible refine gate_dst (N := 5) rfl ?_); (try (refine gate_guard (by rfl) ?_; dsimp only)); refine bx_ 5 #[.int .i64 a0_0, .bool a0_1, .slice A0_2 l0_2.length c0_2] 24 ?_; intro gb596 hg w7 BK596 hb; have GE596 := ge_ (w := w) hg; replace HB := hst_ hb; clear hb hg) | ((with_reducible refine gate_dst (N := 9) rfl ?_); (try (refine gate_guard (by rfl) ?_; dsimp only)); refine bx_ 9 #[.int .i64 a4_0, .int .i64 a4_1, .int .i64 a4_2] 85 ?_; intro gb597 hg w8 BK597 hb; have GE597 := ge_ (w := w) hg; replace HB := hst_ hb; have NB596_597 := am_ (nl_ BK596.out hg); have NB597_596 := am_ (ng_ BK596.out hg); replace BK596 := am_ (bb_ BK596.out hb); clear hb hg; have hnb9 := NB597_596.out; have hnc9 := NB596_597.out; obtain ⟨hcz10_0, hcz10_1, hcz10_2, hfz10_0, hfz10_1, hfz10_2⟩ := cf3_ BK597.out))
  go_ret
  exact ⟨er_, hb_⟩
 ·rw [if_neg c6] at H
  have c6b0 := decide_eq_false c6; clear c6
  by_cases c11 : a4_0 ≥ (l0_2.length : Int)
  ·rw [if_pos c11] at H
   have c11b0 := decide_eq_true c11; clear c11; obtain rfl := Option.some.inj H
   go_enter Try.func82, Try.ntmps82
   go_wp2_with (first | ((with_reducible refine gate_dst (N := 5) rfl ?_); (try (refine gate_guard (by rfl) ?_; dsimp only)); refine bx_ 5 #[.int .i64 a0_0, .bool a0_1, .slice A0_2 l0_2.length c0_2] 24 ?_; intro gb596 hg w12 BK596 hb; have GE596 := ge_ (w := w) hg; replace HB := hst_ hb; clear hb hg) | ((with_reducible refine gate_dst (N := 9) rfl ?_); (try (refine gate_guard (by rfl) ?_; dsimp only)); refine bx_ 9 #[.int .i64 a4_0, .int .i64 a4_1, .int .i64 a4_2] 85 ?_; intro gb597 hg w13 BK597 hb; have GE597 := ge_ (w := w) hg; replace HB := hst_ hb; have NB596_597 := am_ (nl_ BK596.out hg); have NB597_596 := am_ (ng_ BK596.out hg); replace BK596 := am_ (bb_ BK596.out hb); clear hb hg; have hnb14 := NB597_596.out; have hnc14 := NB596_597.out; obtain ⟨hcz15_0, hcz15_1, hcz15_2, hfz15_0, hfz15_1, hfz15_2⟩ := cf3_ BK597.out; obtain ⟨hcz16_0, hcz16_1, hcz16_2, hfz16_0, hfz16_1, hfz16_2⟩ := cf3_ BK596.out))
   go_ret
   exact ⟨er_, hb_⟩
  ·rw [if_neg c11] at H
   have c11b0 := decide_eq_false c11; clear c11
   by_cases c17 : a4_1 < 0
   ·rw [if_pos c17] at H
    have c17b0 := decide_eq_true c17; clear c17; obtain rfl := Option.some.inj H
    go_enter Try.func82, Try.ntmps82
    go_wp2_with (first | ((with_reducible refine gate_dst (N := 5) rfl ?_); (try (refine gate_guard (by rfl) ?_; dsimp only)); refine bx_ 5 #[.int .i64 a0_0, .bool a0_1, .slice A0_2 l0_2.length c0_2] 24 ?_; intro gb596 hg w18 BK596 hb; have GE596 := ge_ (w := w) hg; replace HB := hst_ hb; clear hb hg) | ((with_reducible refine gate_dst (N := 9) rfl ?_); (try (refine gate_guard (by rfl) ?_; dsimp only)); refine bx_ 9 #[.int .i64 a4_0, .int .i64 a4_1, .int .i64 a4_2] 85 ?_; intro gb597 hg w19 BK597 hb; have GE597 := ge_ (w := w) hg; replace HB := hst_ hb; have NB596_597 := am_ (nl_ BK596.out hg); have NB597_596 := am_ (ng_ BK596.out hg); replace BK596 := am_ (bb_ BK596.out hb); clear hb hg; have hnb20 := NB597_596.out; have hnc20 := NB596_597.out; obtain ⟨hcz21_0, hcz21_1, hcz21_2, hfz21_0, hfz21_1, hfz21_2⟩ := cf3_ BK597.out; obtain ⟨hcz22_0, hcz22_1, hcz22_2, hfz22_0, hfz22_1, hfz22_2⟩ := cf3_ BK596.out))
    go_ret
    exact ⟨er_, hb_⟩
   ·rw [if_neg c17] at H
    have c17b0 := decide_eq_false c17; clear c17
    by_cases c23 : a4_1 > a3
    ·rw [if_pos c23] at H
     have c23b0 := decide_eq_true c23; clear c23; obtain rfl := Option.some.inj H
     go_enter Try.func82, Try.ntmps82
     go_wp2_with (first | ((with_reducible refine gate_dst (N := 5) rfl ?_); (try (refine gate_guard (by rfl) ?_; dsimp only)); refine bx_ 5 #[.int .i64 a0_0, .bool a0_1, .slice A0_2 l0_2.length c0_2] 24 ?_; intro gb596 hg w24 BK596 hb; have GE596 := ge_ (w := w) hg; replace HB := hst_ hb; clear hb hg) | ((with_reducible refine gate_dst (N := 9) rfl ?_); (try (refine gate_guard (by rfl) ?_; dsimp only)); refine bx_ 9 #[.int .i64 a4_0, .int .i64 a4_1, .int .i64 a4_2] 85 ?_; intro gb597 hg w25 BK597 hb; have GE597 := ge_ (w := w) hg; replace HB := hst_ hb; have NB596_597 := am_ (nl_ BK596.out hg); have NB597_596 := am_ (ng_ BK596.out hg); replace BK596 := am_ (bb_ BK596.out hb); clear hb hg; have hnb26 := NB597_596.out; have hnc26 := NB596_597.out; obtain ⟨hcz27_0, hcz27_1, hcz27_2, hfz27_0, hfz27_1, hfz27_2⟩ := cf3_ BK597.out; obtain ⟨hcz28_0, hcz28_1, hcz28_2, hfz28_0, hfz28_1, hfz28_2⟩ := cf3_ BK596.out))
     go_ret
     exact ⟨er_, hb_⟩
    ·rw [if_neg c23] at H
     have c23b0 := decide_eq_false c23; clear c23
     replace H := ifn_ H; obtain ⟨c29, H⟩ := H
     have c29b0 := decide_eq_true c29; clear c29
     replace H := ifn_ H; obtain ⟨c30, H⟩ := H
     have c30b0 := decide_eq_true c30; clear c30
     by_cases c31 : (wrap64 (a4_1 + ((rd_T54 l0_2 a4_0).f3))) ≤ a3
     ·rw [if_pos c31] at H
      have c31b0 := decide_eq_true c31; clear c31
      by_cases c32 : a4_2 ≥ 0
      ·rw [if_pos c32] at H
       have c32b0 := decide_eq_true c32; clear c32
       by_cases c33 : a4_2 ≤ ((rd_T54 l0_2 a4_0).f2)
       ·rw [if_pos c33] at H
        have c33b0 := decide_eq_true c33; clear c33
        by_cases c34 : ((rd_T54 l0_2 a4_0).f1) = a1
        ·rw [if_pos c34] at H
         obtain ⟨c34b0, c34b1⟩ := eqb_ c34; clear c34; obtain rfl := Option.some.inj H
         go_enter Try.func82, Try.ntmps82
         go_wp2_with (first | ((with_reducible refine gate_dst (N := 5) rfl ?_); (try (refine gate_guard (by rfl) ?_; dsimp only)); refine bx_ 5 #[.int .i64 a0_0, .bool a0_1, .slice A0_2 l0_2.length c0_2] 24 ?_; intro gb596 hg w35 BK596 hb; have GE596 := ge_ (w := w) hg; replace HB := hst_ hb; clear hb hg) | ((with_reducible refine gate_dst (N := 9) rfl ?_); (try (refine gate_guard (by rfl) ?_; dsimp only)); refine bx_ 9 #[.int .i64 a4_0, .int .i64 a4_1, .int .i64 a4_2] 85 ?_; intro gb597 hg w36 BK597 hb; have GE597 := ge_ (w := w) hg; replace HB := hst_ hb; have NB596_597 := am_ (nl_ BK596.out hg); have NB597_596 := am_ (ng_ BK596.out hg); replace BK596 := am_ (bb_ BK596.out hb); clear hb hg; have hnb37 := NB597_596.out; have hnc37 := NB596_597.out; obtain ⟨hcz38_0, hcz38_1, hcz38_2, hfz38_0, hfz38_1, hfz38_2⟩ := cf3_ BK597.out; obtain ⟨hcz39_0, hcz39_1, hcz39_2, hfz39_0, hfz39_1, hfz39_2⟩ := cf3_ BK596.out; have p598 : 0 ≤ (a4_0 : Int) := of_decide_eq_true sm_; have q598 : a4_0 < (l0_2.length : Int) := of_decide_eq_true sm_; obtain ⟨ad598, e598, hx598_0, hx598_1, hx598_2, hx598_3⟩ := at_T54 HR0_2.out a4_0 p598 q598; cases e598; replace hx598_0 := (HB.out.cell (World.block_lt_of_cell? w _ hx598_0)).trans hx598_0; replace hx598_1 := (HB.out.cell (World.block_lt_of_cell? w _ hx598_1)).trans hx598_1; replace hx598_2 := (HB.out.cell (World.block_lt_of_cell? w _ hx598_2)).trans hx598_2; replace hx598_3 := (HB.out.cell (World.block_lt_of_cell? w _ hx598_3)).trans hx598_3; replace p598 := eq_true p598; replace q598 := eq_true q598) | ((with_reducible refine gate_dst (N := 11) rfl ?_); (try (refine gate_guard (by rfl) ?_; dsimp only)); refine bx_ 11 #[.int .i64 0, .int .i64 0, .int .i64 0, .int .i64 0] 54 ?_; intro gb599 hg w40 BK599 hb; have GE599 := ge_ (w := w) hg; replace HB := hst_ hb; have NB596_599 := am_ (nl_ BK596.out hg); have NB599_596 := am_ (ng_ BK596.out hg); replace BK596 := am_ (bb_ BK596.out hb); have NB597_599 := am_ (nl_ BK597.out hg); have NB599_597 := am_ (ng_ BK597.out hg); replace BK597 := am_ (bb_ BK597.out hb); clear hb hg; have hnb41 := NB599_596.out; have hnc41 := NB596_599.out; have hnb42 := NB599_597.out; have hnc42 := NB597_599.out; obtain ⟨hcz43_0, hcz43_1, hcz43_2, hcz43_3, hfz43_0, hfz43_1, hfz43_2, hfz43_3⟩ := cf4_ BK599.out; obtain ⟨hcz44_0, hcz44_1, hcz44_2, hfz44_0, hfz44_1, hfz44_2⟩ := cf3_ BK597.out))
         go_ret
         exact ⟨er_, hb_⟩
        ·rw [if_neg c34] at H
         obtain ⟨c34b0, c34b1⟩ := neb_ c34; obtain rfl := Option.some.inj H
         go_enter Try.func82, Try.ntmps82
         go_wp2_with (first | ((with_reducible refine gate_dst (N := 5) rfl ?_); (try (refine gate_guard (by rfl) ?_; dsimp only)); refine bx_ 5 #[.int .i64 a0_0, .bool a0_1, .slice A0_2 l0_2.length c0_2] 24 ?_; intro gb596 hg w45 BK596 hb; have GE596 := ge_ (w := w) hg; replace HB := hst_ hb; clear hb hg) | ((with_reducible refine gate_dst (N := 9) rfl ?_); (try (refine gate_guard (by rfl) ?_; dsimp only)); refine bx_ 9 #[.int .i64 a4_0, .int .i64 a4_1, .int .i64 a4_2] 85 ?_; intro gb597 hg w46 BK597 hb; have GE597 := ge_ (w := w) hg; replace HB := hst_ hb; have NB596_597 := am_ (nl_ BK596.out hg); have NB597_596 := am_ (ng_ BK596.out hg); replace BK596 := am_ (bb_ BK596.out hb); clear hb hg; have hnb47 := NB597_596.out; have hnc47 := NB596_597.out; obtain ⟨hcz48_0, hcz48_1, hcz48_2, hfz48_0, hfz48_1, hfz48_2⟩ := cf3_ BK597.out; obtain ⟨hcz49_0, hcz49_1, hcz49_2, hfz49_0, hfz49_1, hfz49_2⟩ := cf3_ BK596.out; have p598 : 0 ≤ (a4_0 : Int) := of_decide_eq_true sm_; have q598 : a4_0 < (l0_2.length : Int) := of_decide_eq_true sm_; obtain ⟨ad598, e598, hx598_0, hx598_1, hx598_2, hx598_3⟩ := at_T54 HR0_2.out a4_0 p598 q598; cases e598; replace hx598_0 := (HB.out.cell (World.block_lt_of_cell? w _ hx598_0)).trans hx598_0; replace hx598_1 := (HB.out.cell (World.block_lt_of_cell? w _ hx598_1)).trans hx598_1; replace hx598_2 := (HB.out.cell (World.block_lt_of_cell? w _ hx598_2)).trans hx598_2; replace hx598_3 := (HB.out.cell (World.block_lt_of_cell? w _ hx598_3)).trans hx598_3; replace p598 := eq_true p598; replace q598 := eq_true q598) | ((with_reducible refine gate_dst (N := 11) rfl ?_); (try (refine gate_guard (by rfl) ?_; dsimp only)); refine bx_ 11 #[.int .i64 0, .int .i64 0, .int .i64 0, .int .i64 0] 54 ?_; intro gb599 hg w50 BK599 hb; have GE599 := ge_ (w := w) hg; replace HB := hst_ hb; have NB596_599 := am_ (nl_ BK596.out hg); have NB599_596 := am_ (ng_ BK596.out hg); replace BK596 := am_ (bb_ BK596.out hb); have NB597_599 := am_ (nl_ BK597.out hg); have NB599_597 := am_ (ng_ BK597.out hg); replace BK597 := am_ (bb_ BK597.out hb); clear hb hg; have hnb51 := NB599_596.out; have hnc51 := NB596_599.out; have hnb52 := NB599_597.out; have hnc52 := NB597_599.out; obtain ⟨hcz53_0, hcz53_1, hcz53_2, hcz53_3, hfz53_0, hfz53_1, hfz53_2, hfz53_3⟩ := cf4_ BK599.out; obtain ⟨hcz54_0, hcz54_1, hcz54_2, hfz54_0, hfz54_1, hfz54_2⟩ := cf3_ BK597.out))
         go_ret
         exact ⟨er_, hb_⟩
       ·rw [if_neg c33] at H
        have c33b0 := decide_eq_false c33; clear c33; obtain rfl := Option.some.inj H
        go_enter Try.func82, Try.ntmps82
        go_wp2_with (first | ((with_reducible refine gate_dst (N := 5) rfl ?_); (try (refine gate_guard (by rfl) ?_; dsimp only)); refine bx_ 5 #[.int .i64 a0_0, .bool a0_1, .slice A0_2 l0_2.length c0_2] 24 ?_; intro gb596 hg w55 BK596 hb; have GE596 := ge_ (w := w) hg; replace HB := hst_ hb; clear hb hg) | ((with_reducible refine gate_dst (N := 9) rfl ?_); (try (refine gate_guard (by rfl) ?_; dsimp only)); refine bx_ 9 #[.int .i64 a4_0, .int .i64 a4_1, .int .i64 a4_2] 85 ?_; intro gb597 hg w56 BK597 hb; have GE597 := ge_ (w := w) hg; replace HB := hst_ hb; have NB596_597 := am_ (nl_ BK596.out hg); have NB597_596 := am_ (ng_ BK596.out hg); replace BK596 := am_ (bb_ BK596.out hb); clear hb hg; have hnb57 := NB597_596.out; have hnc57 := NB596_597.out; obtain ⟨hcz58_0, hcz58_1, hcz58_2, hfz58_0, hfz58_1, hfz58_2⟩ := cf3_ BK597.out; obtain ⟨hcz59_0, hcz59_1, hcz59_2, hfz59_0, hfz59_1, hfz59_2⟩ := cf3_ BK596.out; have p598 : 0 ≤ (a4_0 : Int) := of_decide_eq_true sm_; have q598 : a4_0 < (l0_2.length : Int) := of_decide_eq_true sm_; obtain ⟨ad598, e598, hx598_0, hx598_1, hx598_2, hx598_3⟩ := at_T54 HR0_2.out a4_0 p598 q598; cases e598; replace hx598_0 := (HB.out.cell (World.block_lt_of_cell? w _ hx598_0)).trans hx598_0; replace hx598_1 := (HB.out.cell (World.block_lt_of_cell? w _ hx598_1)).trans hx598_1; replace hx598_2 := (HB.out.cell (World.block_lt_of_cell? w _ hx598_2)).trans hx598_2; replace hx598_3 := (HB.out.cell (World.block_lt_of_cell? w _ hx598_3)).trans hx598_3; replace p598 := eq_true p598; replace q598 := eq_true q598) | ((with_reducible refine gate_dst (N := 11) rfl ?_); (try (refine gate_guard (by rfl) ?_; dsimp only)); refine bx_ 11 #[.int .i64 0, .int .i64 0, .int .i64 0, .int .i64 0] 54 ?_; intro gb599 hg w60 BK599 hb; have GE599 := ge_ (w := w) hg; replace HB := hst_ hb; have NB596_599 := am_ (nl_ BK596.out hg); have NB599_596 := am_ (ng_ BK596.out hg); replace BK596 := am_ (bb_ BK596.out hb); have NB597_599 := am_ (nl_ BK597.out hg); have NB599_597 := am_ (ng_ BK597.out hg); replace BK597 := am_ (bb_ BK597.out hb); clear hb hg; have hnb61 := NB599_596.out; have hnc61 := NB596_599.out; have hnb62 := NB599_597.out; have hnc62 := NB597_599.out; obtain ⟨hcz63_0, hcz63_1, hcz63_2, hcz63_3, hfz63_0, hfz63_1, hfz63_2, hfz63_3⟩ := cf4_ BK599.out; obtain ⟨hcz64_0, hcz64_1, hcz64_2, hfz64_0, hfz64_1, hfz64_2⟩ := cf3_ BK597.out))
        go_ret
        exact ⟨er_, hb_⟩
      ·rw [if_neg c32] at H
       have c32b0 := decide_eq_false c32; clear c32; obtain rfl := Option.some.inj H
       go_enter Try.func82, Try.ntmps82
       go_wp2_with (first | ((with_reducible refine gate_dst (N := 5) rfl ?_); (try (refine gate_guard (by rfl) ?_; dsimp only)); refine bx_ 5 #[.int .i64 a0_0, .bool a0_1, .slice A0_2 l0_2.length c0_2] 24 ?_; intro gb596 hg w65 BK596 hb; have GE596 := ge_ (w := w) hg; replace HB := hst_ hb; clear hb hg) | ((with_reducible refine gate_dst (N := 9) rfl ?_); (try (refine gate_guard (by rfl) ?_; dsimp only)); refine bx_ 9 #[.int .i64 a4_0, .int .i64 a4_1, .int .i64 a4_2] 85 ?_; intro gb597 hg w66 BK597 hb; have GE597 := ge_ (w := w) hg; replace HB := hst_ hb; have NB596_597 := am_ (nl_ BK596.out hg); have NB597_596 := am_ (ng_ BK596.out hg); replace BK596 := am_ (bb_ BK596.out hb); clear hb hg; have hnb67 := NB597_596.out; have hnc67 := NB596_597.out; obtain ⟨hcz68_0, hcz68_1, hcz68_2, hfz68_0, hfz68_1, hfz68_2⟩ := cf3_ BK597.out; obtain ⟨hcz69_0, hcz69_1, hcz69_2, hfz69_0, hfz69_1, hfz69_2⟩ := cf3_ BK596.out; have p598 : 0 ≤ (a4_0 : Int) := of_decide_eq_true sm_; have q598 : a4_0 < (l0_2.length : Int) := of_decide_eq_true sm_; obtain ⟨ad598, e598, hx598_0, hx598_1, hx598_2, hx598_3⟩ := at_T54 HR0_2.out a4_0 p598 q598; cases e598; replace hx598_0 := (HB.out.cell (World.block_lt_of_cell? w _ hx598_0)).trans hx598_0; replace hx598_1 := (HB.out.cell (World.block_lt_of_cell? w _ hx598_1)).trans hx598_1; replace hx598_2 := (HB.out.cell (World.block_lt_of_cell? w _ hx598_2)).trans hx598_2; replace hx598_3 := (HB.out.cell (World.block_lt_of_cell? w _ hx598_3)).trans hx598_3; replace p598 := eq_true p598; replace q598 := eq_true q598) | ((with_reducible refine gate_dst (N := 11) rfl ?_); (try (refine gate_guard (by rfl) ?_; dsimp only)); refine bx_ 11 #[.int .i64 0, .int .i64 0, .int .i64 0, .int .i64 0] 54 ?_; intro gb599 hg w70 BK599 hb; have GE599 := ge_ (w := w) hg; replace HB := hst_ hb; have NB596_599 := am_ (nl_ BK596.out hg); have NB599_596 := am_ (ng_ BK596.out hg); replace BK596 := am_ (bb_ BK596.out hb); have NB597_599 := am_ (nl_ BK597.out hg); have NB599_597 := am_ (ng_ BK597.out hg); replace BK597 := am_ (bb_ BK597.out hb); clear hb hg; have hnb71 := NB599_596.out; have hnc71 := NB596_599.out; have hnb72 := NB599_597.out; have hnc72 := NB597_599.out; obtain ⟨hcz73_0, hcz73_1, hcz73_2, hcz73_3, hfz73_0, hfz73_1, hfz73_2, hfz73_3⟩ := cf4_ BK599.out; obtain ⟨hcz74_0, hcz74_1, hcz74_2, hfz74_0, hfz74_1, hfz74_2⟩ := cf3_ BK597.out))
       go_ret
       exact ⟨er_, hb_⟩
     ·rw [if_neg c31] at H
      have c31b0 := decide_eq_false c31; clear c31; obtain rfl := Option.some.inj H
      go_enter Try.func82, Try.ntmps82
      go_wp2_with (first | ((with_reducible refine gate_dst (N := 5) rfl ?_); (try (refine gate_guard (by rfl) ?_; dsimp only)); refine bx_ 5 #[.int .i64 a0_0, .bool a0_1, .slice A0_2 l0_2.length c0_2] 24 ?_; intro gb596 hg w75 BK596 hb; have GE596 := ge_ (w := w) hg; replace HB := hst_ hb; clear hb hg) | ((with_reducible refine gate_dst (N := 9) rfl ?_); (try (refine gate_guard (by rfl) ?_; dsimp only)); refine bx_ 9 #[.int .i64 a4_0, .int .i64 a4_1, .int .i64 a4_2] 85 ?_; intro gb597 hg w76 BK597 hb; have GE597 := ge_ (w := w) hg; replace HB := hst_ hb; have NB596_597 := am_ (nl_ BK596.out hg); have NB597_596 := am_ (ng_ BK596.out hg); replace BK596 := am_ (bb_ BK596.out hb); clear hb hg; have hnb77 := NB597_596.out; have hnc77 := NB596_597.out; obtain ⟨hcz78_0, hcz78_1, hcz78_2, hfz78_0, hfz78_1, hfz78_2⟩ := cf3_ BK597.out; obtain ⟨hcz79_0, hcz79_1, hcz79_2, hfz79_0, hfz79_1, hfz79_2⟩ := cf3_ BK596.out; have p598 : 0 ≤ (a4_0 : Int) := of_decide_eq_true sm_; have q598 : a4_0 < (l0_2.length : Int) := of_decide_eq_true sm_; obtain ⟨ad598, e598, hx598_0, hx598_1, hx598_2, hx598_3⟩ := at_T54 HR0_2.out a4_0 p598 q598; cases e598; replace hx598_0 := (HB.out.cell (World.block_lt_of_cell? w _ hx598_0)).trans hx598_0; replace hx598_1 := (HB.out.cell (World.block_lt_of_cell? w _ hx598_1)).trans hx598_1; replace hx598_2 := (HB.out.cell (World.block_lt_of_cell? w _ hx598_2)).trans hx598_2; replace hx598_3 := (HB.out.cell (World.block_lt_of_cell? w _ hx598_3)).trans hx598_3; replace p598 := eq_true p598; replace q598 := eq_true q598) | ((with_reducible refine gate_dst (N := 11) rfl ?_); (try (refine gate_guard (by rfl) ?_; dsimp only)); refine bx_ 11 #[.int .i64 0, .int .i64 0, .int .i64 0, .int .i64 0] 54 ?_; intro gb599 hg w80 BK599 hb; have GE599 := ge_ (w := w) hg; replace HB := hst_ hb; have NB596_599 := am_ (nl_ BK596.out hg); have NB599_596 := am_ (ng_ BK596.out hg); replace BK596 := am_ (bb_ BK596.out hb); have NB597_599 := am_ (nl_ BK597.out hg); have NB599_597 := am_ (ng_ BK597.out hg); replace BK597 := am_ (bb_ BK597.out hb); clear hb hg; have hnb81 := NB599_596.out; have hnc81 := NB596_599.out; have hnb82 := NB599_597.out; have hnc82 := NB597_599.out; obtain ⟨hcz83_0, hcz83_1, hcz83_2, hcz83_3, hfz83_0, hfz83_1, hfz83_2, hfz83_3⟩ := cf4_ BK599.out; obtain ⟨hcz84_0, hcz84_1, hcz84_2, hfz84_0, hfz84_1, hfz84_2⟩ := cf3_ BK597.out))
      go_ret
      exact ⟨er_, hb_⟩
def ebbtideref14_Merged.l0 : Nat → Int → Int → Int → List (S85) → Int → Int → Bool → List (S54) → Option ((List (S85)) × Int)
 | 0, _, _, _, _, _, _, _, _ => none
 | k + 1, x1, x2, x3, x13, x15, x601000, x601001, x601002 => if x15 < (x13.length : Int) then (if 0 ≤ x15 then ((ebbtideref14_Move.f x601000 x601001 x601002 x1 x2 x3 ((rd_T85 x13 x15).f0) ((rd_T85 x13 x15).f1) ((rd_T85 x13 x15).f2)).bind fun t607 => (if t607 = true then (ebbtideref14_Merged.l0 k x1 x2 x3 x13 (wrap64 (x15 + 1)) x601000 x601001 x601002) else (some (([] : List (S85)), 140)))) else (none)) else (some (x13, 0))
def ebbtideref14_Merged.f (k : Nat) (a0_0 : Int) (a0_1 : Bool) (l0_2 : List (S54)) (a1 : Int) (a2 : Int) (a3 : Int) (l4 : List (S85)) : Option ((List (S85)) × Int) := (ebbtideref12_Asked.f k a0_0 a0_1 l0_2 a1 a2 a3).bind fun t601 => (if t601 = 0 then ((ebbtideref03_Moves.f k l4).bind fun bt602 => (if bt602.2 = 0 then (ebbtideref14_Merged.l0 k a1 a2 a3 bt602.1 0 a0_0 a0_1 l0_2) else (some (([] : List (S85)), bt602.2)))) else (some (([] : List (S85)), t601)))
def ebbtideref14_Merged.T10 : Bool × List (List Nat × List Nat) := (true, [([], []), ([], []), ([], []), ([], []), ([], []), ([], []), ([4, 5], [4, 5]), ([6], [6]), ([0, 1, 2, 3, 7], [0, 1, 2, 3, 7]), ([8], [8])])
def ebbtideref14_Merged.B10 : List Nat := [0, 0, 0, 0, 0, 0, 48, 112, 255, 511]
theorem ebbtideref14_Merged.tab10 : rtab .any (opsOf Try.f51 10) = ebbtideref14_Merged.T10 := by kernel_rfl
theorem ebbtideref14_Merged.bits10 : waitsOk ebbtideref14_Merged.T10.2 ebbtideref14_Merged.B10 = true := by kernel_rfl
set_option maxHeartbeats 8000000 in
set_option maxRecDepth 100000 in
theorem ebbtideref14_Merged.calls (k : Nat) (a0_0 : Int) (a0_1 : Bool) (A0_2 : Option Addr) (c0_2 : Nat) (l0_2 : List (S54)) (a1 : Int) (a2 : Int) (a3 : Int) (A4 : Option Addr) (c4 : Nat) (l4 : List (S85)) (r1 : List (S85)) (r2 : Int) (w : World) (hr0_2 : Kd.C k54 w A0_2 l0_2.length l0_2) (hc0_2 : l0_2.length ≤ c0_2) (hr4 : Kd.C k85 w A4 l4.length l4) (hc4 : l4.length ≤ c4) (h : ebbtideref14_Merged.f k a0_0 a0_1 l0_2 a1 a2 a3 l4 = some (r1, r2)) :
  Calls Try.prog 51 #[.agg #[.int .i64 a0_0, .bool a0_1, .slice A0_2 l0_2.length c0_2], .int .i64 a1, .int .i64 a2, .int .i64 a3, .slice A4 l4.length c4] w fun e w' => ∃ v0_ : Value, e = .returned (.tuple #[v0_, .int .i64 r2]) ∧ Kd.R k85 85 w' w.heap.size (fun _ => True) v0_ r1 ∧ Below w.heap.size w w' := by
 have hu24 := Try.underlying24; have hu85 := Try.underlying85; have HR0_2 := am_ hr0_2; have HC0_2 := am_ hc0_2; clear hr0_2 hc0_2; have HR4 := am_ hr4; have HC4 := am_ hc4; clear hr4 hc4; have HB := am_ (Below.refl w.heap.size w); have H : ((ebbtideref12_Asked.f k a0_0 a0_1 l0_2 a1 a2 a3).bind fun t601 => (if t601 = 0 then ((ebbtideref03_Moves.f k l4).bind fun bt602 => (if bt602.2 = 0 then (ebbtideref14_Merged.l0 k a1 a2 a3 bt602.1 0 a0_0 a0_1 l0_2) else (some (([] : List (S85)), bt602.2)))) else (some (([] : List (S85)), t601)))) = some (r1, r2) := h; clear h; replace H := Option.bind_eq_some_iff.mp H; obtain ⟨t601, A60, H⟩ := H; replace H : (if t601 = 0 then ((ebbtideref03_Moves.f k l4).bind fun bt602 => (if bt602.2 = 0 then (ebbtideref14_Merged.l0 k a1 a2 a3 bt602.1 0 a0_0 a0_1 l0_2) else (some (([] : List (S85)), bt602.2)))) else (some (([] : List (S85)), t601))) = some (r1, r2) := H; have A6 := am_ A60; clear A60
 by_cases c7 : t601 = 0
 ·rw [if_pos c7] at H
  obtain ⟨c7b0, c7b1⟩ := eqb_ c7; clear c7; replace H := Option.bind_eq_some_iff.mp H; obtain ⟨⟨t602, t603⟩, A80, H⟩ := H; replace H : (if t603 = 0 then (ebbtideref14_Merged.l0 k a1 a2 a3 t602 0 a0_0 a0_1 l0_2) else (some (([] : List (S85)), t603))) = some (r1, r2) := H; have A8 := am_ A80; clear A80
  by_cases c9 : t603 = 0
  ·rw [if_pos c9] at H
   obtain ⟨c9b0, c9b1⟩ := eqb_ c9; clear c9; have H' := am_ H; clear H
   go_enter Try.func51, Try.ntmps51
   go_wp2_with (first | ((with_reducible refine gate_dst (N := 5) rfl ?_); refine bx_ 5 #[.int .i64 a0_0, .bool a0_1, .slice A0_2 l0_2.length c0_2] 24 ?_; intro gb600 hg w10 BK600 hb; have GE600 := ge_ (w := w) hg; replace HB := hst_ hb; clear hb hg; obtain ⟨hcz11_0, hcz11_1, hcz11_2, hfz11_0, hfz11_1, hfz11_2⟩ := cf3_ BK600.out) | ((with_reducible refine gate_callee (f := 65) rfl ?_); refine cl_ 20 Try.func65 (ebbtideref12_Asked.calls k a0_0 a0_1 _ _ l0_2 a1 a2 a3 t601 _ (cb_ HR0_2.out) HC0_2.out A6.out) ?_; rintro e w12 ⟨rfl, hb⟩; refine ⟨_, rfl, ?_⟩; replace BK600 := am_ (bb_ BK600.out hb); replace HB := hst_ hb; (try clear hb); (try clear hb2); (try clear hk); (try clear hi)) | ((with_reducible refine gate_callee (f := 31) rfl ?_); refine cl_ 26 Try.func31 (ebbtideref03_Moves.calls k _ _ l4 t602 t603 _ (cb_ HR4.out) HC4.out A8.out) ?_; rintro e w13 ⟨v604, rfl, ho0, hb⟩; refine ⟨_, rfl, ?_⟩; have HO605 := am_ (Kd.R_lower ho0 (below_size hb_)); replace BK600 := am_ (bb_ BK600.out hb); replace HB := hst_ hb; (try clear hb); (try clear hb2); (try clear hk); (try clear hi); (try clear ho0)))
   go_loopg [15] k (fun kq v15 w' => ∃ (x15_1 : Int), v15 = .int .i64 x15_1 ∧ Aside0 (ebbtideref14_Merged.l0 kq a1 a2 a3 t602 x15_1 a0_0 a0_1 l0_2 = some (r1, r2)) ∧ Aside0 (kq ≤ k) ∧ Aside0 (Kd.R k85 85 w' w.heap.size (fun _ => True) v604 t602) ∧ Aside0 (w'.heap[gb600]? = some (.cells #[.int .i64 a0_0, .bool a0_1, (.slice A0_2 l0_2.length c0_2)] 24 (0, 0))) ∧ Aside0 (Below w.heap.size w w'))
   case atStart => exact ⟨(0), rs_, H', ⟨Nat.le_refl _⟩, ⟨rq_ HO605.out⟩, ⟨bq_ BK600.out⟩, ⟨hb_⟩⟩
   case round =>
    clear H'
    try clear p2
    try clear c3
    try clear c4
    try clear c5
    try clear c6
    try clear c7
    try clear c7b0
    try clear c7b1
    try clear c9
    try clear c9b0
    try clear c9b1
    try clear hcz11_0 hcz11_1 hcz11_2 hfz11_0 hfz11_1 hfz11_2
    obtain ⟨x15_1, rfl, HA, HK1, HO_13, BK600, HB⟩ := hrel
    cases gk with
    | zero => exact absurd HA.out (by simp [ebbtideref14_Merged.l0])
    | succ k1 =>
     have H := HA.out; clear HA; simp only [ebbtideref14_Merged.l0] at H
     by_cases c14 : x15_1 < (t602.length : Int)
     ·rw [if_pos c14] at H
      have c14b0 := decide_eq_true c14; clear c14
      replace H := ifn_ H; obtain ⟨c15, H⟩ := H
      have c15b0 := decide_eq_true c15; clear c15; replace H := Option.bind_eq_some_iff.mp H; obtain ⟨t607, A160, H⟩ := H; replace H : (if t607 = true then (ebbtideref14_Merged.l0 k1 a1 a2 a3 t602 (wrap64 (x15_1 + 1)) a0_0 a0_1 l0_2) else (some (([] : List (S85)), 140))) = some (r1, r2) := H; have A16 := am_ A160; clear A160
      by_cases c17 : t607 = true
      ·subst c17
       have H1 : (ebbtideref14_Merged.l0 k1 a1 a2 a3 t602 (wrap64 (x15_1 + 1)) a0_0 a0_1 l0_2) = some (r1, r2) := by rw [if_pos rfl] at H; exact H
       clear H; have H := H1; clear H1; have H' := am_ H; clear H; obtain ⟨Ao18, co18, eo18⟩ := Kd.R_slice HO_13.out; subst eo18
       try go_wp2
       replace HO_13 := am_ (Kd.R_drew HO_13.out); replace BK600 := am_ (blk_drew BK600.out); replace HB := am_ (below_drew1 HB.out); have p606 : 0 ≤ (x15_1 : Int) := of_decide_eq_true sm_; have q606 : x15_1 < (t602.length : Int) := of_decide_eq_true sm_; obtain ⟨ad606, e606, hx606_0, hx606_1, hx606_2⟩ := at_T85 (Kd.R_reads' HO_13.out).2.2 x15_1 p606 q606; cases e606; replace p606 := eq_true p606; replace q606 := eq_true q606; refine start_ (n := 10) (S := fun w' => w'.cell? ⟨gb600, 0, none⟩ = some (.int .i64 a0_0) ∧ w'.cell? ⟨gb600, 1, none⟩ = some (.bool a0_1) ∧ w'.cell? ⟨gb600, 2, none⟩ = some (.slice A0_2 l0_2.length c0_2) ∧ w'.cell? (ad606.add ((x15_1).toNat * 3)) = some (.int .i64 ((rd_T85 t602 x15_1).f0)) ∧ w'.cell? ⟨(ad606.add ((x15_1).toNat * 3)).block, (ad606.add ((x15_1).toNat * 3)).off + 1, none⟩ = some (.int .i64 ((rd_T85 t602 x15_1).f1)) ∧ w'.cell? ⟨(ad606.add ((x15_1).toNat * 3)).block, (ad606.add ((x15_1).toNat * 3)).off + 2, none⟩ = some (.int .i64 ((rd_T85 t602 x15_1).f2))) (ds := []) #[Ff,Ff,Ff,Ff,Ff,Ff,Ff,Ff,Ff,Ff] (by kernel_rfl) rfl rfl ⟨(blk_cell BK600.out 0).trans rfl, (blk_cell BK600.out 1).trans rfl, (blk_cell BK600.out 2).trans rfl, hx606_0, hx606_1, hx606_2⟩ (fun hHeld => ?_); refine with_tabW ebbtideref14_Merged.tab10 ebbtideref14_Merged.bits10 (fun HT_ HW_ => ?_); generalize wr.drew = w19 at HO_13 BK600 HB hx606_0 hx606_1 hx606_2 hHeld ⊢; refine pw_ 1 39 ?_; refine pw_ 2 40 ?_; refine pw_ 3 41 ?_; refine pw_ 4 42 ?_; refine pw_ 5 43 ?_; refine pw_ 6 44 ?_; refine tk_ 0 38 ?_; refine tk_ 7 45 ?_; refine one_ (i := 8) (N := some 46) #[Tt,Tt,Tt,Tt,Tt,Tt,Tt,Tt,Tt,Ff] rfl rfl (one_of HT_.out (by kernel_rfl)) (by decide) (fun K hK => ?_); refine goes_ Try.func82 (by kernel_rfl) rfl #[.agg #[.int .i64 a0_0, .bool a0_1, .slice A0_2 l0_2.length c0_2], .int .i64 a1, .int .i64 a2, .int .i64 a3, .agg #[.int .i64 ((rd_T85 t602 x15_1).f0), .int .i64 ((rd_T85 t602 x15_1).f1), .int .i64 ((rd_T85 t602 x15_1).f2)]] (by rfl) rfl rfl mt_ ?_
       with_reducible refine (ebbtideref14_Move.calls a0_0 a0_1 _ _ l0_2 a1 a2 a3 ((rd_T85 t602 x15_1).f0) ((rd_T85 t602 x15_1).f1) ((rd_T85 t602 x15_1).f2) true _ ?side1 ?side2 A16.out).mono ?_
       (case side1 => exact cb_ HR0_2.out)
       (case side2 => exact HC0_2.out)
       rintro e w20 ⟨rfl, hb⟩; have HS3_ := (hb.cell (World.block_lt_of_cell? _ _ (hHeld.2.2.2.1))).trans (hHeld.2.2.2.1); have HS4_ := (hb.cell (World.block_lt_of_cell? _ _ (hHeld.2.2.2.2.1))).trans (hHeld.2.2.2.2.1); have HS5_ := (hb.cell (World.block_lt_of_cell? _ _ (hHeld.2.2.2.2.2))).trans (hHeld.2.2.2.2.2); refine ⟨_, rfl, ?_⟩; replace HO_13 := am_ (Kd.R_below (rq_ HO_13.out) hb); replace BK600 := am_ (bb_ BK600.out hb); replace HB := hst_ hb
       (try clear hb)
       (try clear hb2)
       (try clear hk)
       (try clear hi)
       refine hK.out _ _ ⟨(blk_cell BK600.out 0).trans rfl, (blk_cell BK600.out 1).trans rfl, (blk_cell BK600.out 2).trans rfl, HS3_, HS4_, HS5_⟩ (fun hHeld => ?_); clear hK K; refine norm_ (a' := ?_) ?_ ?_; rotate_left
       ·show Act.put _ (some 46) _ = _
        simp only [Act.put, List.setIfInBounds_toArray, List.set_cons_zero, List.set_cons_succ, i64_w, i32_w]; rfl
       refine pw_ 9 47 ?_; refine done_ (done_of HT_.out (by kernel_rfl)) ?_
       try go_wp2
       go_roundg k1
       case measure => have := HK1.out; omega
       case rel => exact ⟨(wrap64 (x15_1 + 1)), rs_, H', ⟨by have := HK1.out; omega⟩, ⟨rq_ HO_13.out⟩, ⟨bq_ BK600.out⟩, ⟨hb_⟩⟩
      ·replace c17 := Bool.eq_false_iff.mpr c17
       subst c17
       have H1 : (some (([] : List (S85)), 140)) = some (r1, r2) := by rw [if_neg (show ¬ (false = true) by decide)] at H; exact H
       clear H; have H := H1; clear H1; simp only [Option.some.injEq, Prod.mk.injEq] at H; obtain ⟨rfl, rfl⟩ := H; obtain ⟨Ao21, co21, eo21⟩ := Kd.R_slice HO_13.out; subst eo21
       try go_wp2
       replace HO_13 := am_ (Kd.R_drew HO_13.out); replace BK600 := am_ (blk_drew BK600.out); replace HB := am_ (below_drew1 HB.out); have p606 : 0 ≤ (x15_1 : Int) := of_decide_eq_true sm_; have q606 : x15_1 < (t602.length : Int) := of_decide_eq_true sm_; obtain ⟨ad606, e606, hx606_0, hx606_1, hx606_2⟩ := at_T85 (Kd.R_reads' HO_13.out).2.2 x15_1 p606 q606; cases e606; replace p606 := eq_true p606; replace q606 := eq_true q606; refine start_ (n := 10) (S := fun w' => w'.cell? ⟨gb600, 0, none⟩ = some (.int .i64 a0_0) ∧ w'.cell? ⟨gb600, 1, none⟩ = some (.bool a0_1) ∧ w'.cell? ⟨gb600, 2, none⟩ = some (.slice A0_2 l0_2.length c0_2) ∧ w'.cell? (ad606.add ((x15_1).toNat * 3)) = some (.int .i64 ((rd_T85 t602 x15_1).f0)) ∧ w'.cell? ⟨(ad606.add ((x15_1).toNat * 3)).block, (ad606.add ((x15_1).toNat * 3)).off + 1, none⟩ = some (.int .i64 ((rd_T85 t602 x15_1).f1)) ∧ w'.cell? ⟨(ad606.add ((x15_1).toNat * 3)).block, (ad606.add ((x15_1).toNat * 3)).off + 2, none⟩ = some (.int .i64 ((rd_T85 t602 x15_1).f2))) (ds := []) #[Ff,Ff,Ff,Ff,Ff,Ff,Ff,Ff,Ff,Ff] (by kernel_rfl) rfl rfl ⟨(blk_cell BK600.out 0).trans rfl, (blk_cell BK600.out 1).trans rfl, (blk_cell BK600.out 2).trans rfl, hx606_0, hx606_1, hx606_2⟩ (fun hHeld => ?_); refine with_tabW ebbtideref14_Merged.tab10 ebbtideref14_Merged.bits10 (fun HT_ HW_ => ?_); generalize wr.drew = w22 at HO_13 BK600 HB hx606_0 hx606_1 hx606_2 hHeld ⊢; refine pw_ 1 39 ?_; refine pw_ 2 40 ?_; refine pw_ 3 41 ?_; refine pw_ 4 42 ?_; refine pw_ 5 43 ?_; refine pw_ 6 44 ?_; refine tk_ 0 38 ?_; refine tk_ 7 45 ?_; refine one_ (i := 8) (N := some 46) #[Tt,Tt,Tt,Tt,Tt,Tt,Tt,Tt,Tt,Ff] rfl rfl (one_of HT_.out (by kernel_rfl)) (by decide) (fun K hK => ?_); refine goes_ Try.func82 (by kernel_rfl) rfl #[.agg #[.int .i64 a0_0, .bool a0_1, .slice A0_2 l0_2.length c0_2], .int .i64 a1, .int .i64 a2, .int .i64 a3, .agg #[.int .i64 ((rd_T85 t602 x15_1).f0), .int .i64 ((rd_T85 t602 x15_1).f1), .int .i64 ((rd_T85 t602 x15_1).f2)]] (by rfl) rfl rfl mt_ ?_
       with_reducible refine (ebbtideref14_Move.calls a0_0 a0_1 _ _ l0_2 a1 a2 a3 ((rd_T85 t602 x15_1).f0) ((rd_T85 t602 x15_1).f1) ((rd_T85 t602 x15_1).f2) false _ ?side1 ?side2 A16.out).mono ?_
       (case side1 => exact cb_ HR0_2.out)
       (case side2 => exact HC0_2.out)
       rintro e w23 ⟨rfl, hb⟩; have HS3_ := (hb.cell (World.block_lt_of_cell? _ _ (hHeld.2.2.2.1))).trans (hHeld.2.2.2.1); have HS4_ := (hb.cell (World.block_lt_of_cell? _ _ (hHeld.2.2.2.2.1))).trans (hHeld.2.2.2.2.1); have HS5_ := (hb.cell (World.block_lt_of_cell? _ _ (hHeld.2.2.2.2.2))).trans (hHeld.2.2.2.2.2); refine ⟨_, rfl, ?_⟩; replace HO_13 := am_ (Kd.R_below (rq_ HO_13.out) hb); replace BK600 := am_ (bb_ BK600.out hb); replace HB := hst_ hb
       (try clear hb)
       (try clear hb2)
       (try clear hk)
       (try clear hi)
       refine hK.out _ _ ⟨(blk_cell BK600.out 0).trans rfl, (blk_cell BK600.out 1).trans rfl, (blk_cell BK600.out 2).trans rfl, HS3_, HS4_, HS5_⟩ (fun hHeld => ?_); clear hK K; refine norm_ (a' := ?_) ?_ ?_; rotate_left
       ·show Act.put _ (some 46) _ = _
        simp only [Act.put, List.setIfInBounds_toArray, List.set_cons_zero, List.set_cons_succ, i64_w, i32_w]; rfl
       refine pw_ 9 47 ?_; refine done_ (done_of HT_.out (by kernel_rfl)) ?_
       try go_wp2
       go_ret2
       exact ⟨_, er_, ni_, hb_⟩
     ·rw [if_neg c14] at H
      have c14b0 := decide_eq_false c14; clear c14; simp only [Option.some.injEq, Prod.mk.injEq] at H; obtain ⟨rfl, rfl⟩ := H; obtain ⟨Ao24, co24, eo24⟩ := Kd.R_slice HO_13.out; subst eo24
      go_wp2
      go_ret2
      exact ⟨_, er_, by refine rq_ ?_; exact HO_13.out, hb_⟩
  ·rw [if_neg c9] at H
   obtain ⟨c9b0, c9b1⟩ := neb_ c9; simp only [Option.some.injEq, Prod.mk.injEq] at H; obtain ⟨rfl, rfl⟩ := H
   go_enter Try.func51, Try.ntmps51
   go_wp2_with (first | ((with_reducible refine gate_dst (N := 5) rfl ?_); refine bx_ 5 #[.int .i64 a0_0, .bool a0_1, .slice A0_2 l0_2.length c0_2] 24 ?_; intro gb600 hg w25 BK600 hb; have GE600 := ge_ (w := w) hg; replace HB := hst_ hb; clear hb hg; obtain ⟨hcz26_0, hcz26_1, hcz26_2, hfz26_0, hfz26_1, hfz26_2⟩ := cf3_ BK600.out) | ((with_reducible refine gate_callee (f := 65) rfl ?_); refine cl_ 20 Try.func65 (ebbtideref12_Asked.calls k a0_0 a0_1 _ _ l0_2 a1 a2 a3 t601 _ (cb_ HR0_2.out) HC0_2.out A6.out) ?_; rintro e w27 ⟨rfl, hb⟩; refine ⟨_, rfl, ?_⟩; replace BK600 := am_ (bb_ BK600.out hb); replace HB := hst_ hb; (try clear hb); (try clear hb2); (try clear hk); (try clear hi)) | ((with_reducible refine gate_callee (f := 31) rfl ?_); refine cl_ 26 Try.func31 (ebbtideref03_Moves.calls k _ _ l4 t602 t603 _ (cb_ HR4.out) HC4.out A8.out) ?_; rintro e w28 ⟨v604, rfl, ho0, hb⟩; refine ⟨_, rfl, ?_⟩; have HO605 := am_ (Kd.R_lower ho0 (below_size hb_)); replace BK600 := am_ (bb_ BK600.out hb); replace HB := hst_ hb; (try clear hb); (try clear hb2); (try clear hk); (try clear hi); (try clear ho0)))
   go_ret2
   exact ⟨_, er_, ni_, hb_⟩
 ·rw [if_neg c7] at H
  obtain ⟨c7b0, c7b1⟩ := neb_ c7; simp only [Option.some.injEq, Prod.mk.injEq] at H; obtain ⟨rfl, rfl⟩ := H
  go_enter Try.func51, Try.ntmps51
  go_wp2_with (first | ((with_reducible refine gate_dst (N := 5) rfl ?_); refine bx_ 5 #[.int .i64 a0_0, .bool a0_1, .slice A0_2 l0_2.length c0_2] 24 ?_; intro gb600 hg w29 BK600 hb; have GE600 := ge_ (w := w) hg; replace HB := hst_ hb; clear hb hg; obtain ⟨hcz30_0, hcz30_1, hcz30_2, hfz30_0, hfz30_1, hfz30_2⟩ := cf3_ BK600.out) | ((with_reducible refine gate_callee (f := 65) rfl ?_); refine cl_ 20 Try.func65 (ebbtideref12_Asked.calls k a0_0 a0_1 _ _ l0_2 a1 a2 a3 t601 _ (cb_ HR0_2.out) HC0_2.out A6.out) ?_; rintro e w31 ⟨rfl, hb⟩; refine ⟨_, rfl, ?_⟩; replace BK600 := am_ (bb_ BK600.out hb); replace HB := hst_ hb; (try clear hb); (try clear hb2); (try clear hk); (try clear hi)))
  go_ret2
  exact ⟨_, er_, ni_, hb_⟩
mutual
def ebbtideref14_Stock.l0 : Nat → List (S85) → Int → Int → Int → Int → Int → Bool → List (S54) → Option (Int)
 | 0, _, _, _, _, _, _, _, _ => none
 | k + 1, x1, x2, x3, x9, x10, x609000, x609001, x609002 => if x10 < (x1.length : Int) then (if 0 ≤ x10 then (if 0 ≤ ((rd_T85 x1 x10).f0) then (if ((rd_T85 x1 x10).f0) < (x609002.length : Int) then (if ((rd_T54 x609002 ((rd_T85 x1 x10).f0)).f1) = x2 then (ebbtideref14_Stock.j1 k x1 x2 x3 x9 x10 (decide ((wrap64 (((rd_T85 x1 x10).f1) + ((rd_T54 x609002 ((rd_T85 x1 x10).f0)).f3))) ≤ x3)) x609000 x609001 x609002 ((rd_T54 x609002 ((rd_T85 x1 x10).f0)).f0) ((rd_T54 x609002 ((rd_T85 x1 x10).f0)).f1) ((rd_T54 x609002 ((rd_T85 x1 x10).f0)).f2) ((rd_T54 x609002 ((rd_T85 x1 x10).f0)).f3)) else (ebbtideref14_Stock.j1 k x1 x2 x3 x9 x10 false x609000 x609001 x609002 ((rd_T54 x609002 ((rd_T85 x1 x10).f0)).f0) ((rd_T54 x609002 ((rd_T85 x1 x10).f0)).f1) ((rd_T54 x609002 ((rd_T85 x1 x10).f0)).f2) ((rd_T54 x609002 ((rd_T85 x1 x10).f0)).f3))) else (none)) else (none)) else (none)) else (some x9)
def ebbtideref14_Stock.j1 : Nat → List (S85) → Int → Int → Int → Int → Bool → Int → Bool → List (S54) → Int → Int → Int → Int → Option (Int)
 | 0, _, _, _, _, _, _, _, _, _, _, _, _, _ => none
 | k + 1, x1, x2, x3, x9, x10, x42, x609000, x609001, x609002, x612000, x612001, x612002, x612003 => if x42 = true then (if 0 ≤ x10 then (if x10 < (x1.length : Int) then (if x612000 = x2 then (if ((rd_T85 x1 x10).f1) ≤ x3 then (ebbtideref14_Stock.l0 k x1 x2 x3 (wrap64 ((wrap64 (x9 + ((rd_T85 x1 x10).f2))) - ((rd_T85 x1 x10).f2))) (wrap64 (x10 + 1)) x609000 x609001 x609002) else (ebbtideref14_Stock.l0 k x1 x2 x3 (wrap64 (x9 + ((rd_T85 x1 x10).f2))) (wrap64 (x10 + 1)) x609000 x609001 x609002)) else (ebbtideref14_Stock.l0 k x1 x2 x3 (wrap64 (x9 + ((rd_T85 x1 x10).f2))) (wrap64 (x10 + 1)) x609000 x609001 x609002)) else (none)) else (none)) else (if x612000 = x2 then (if 0 ≤ x10 then (if x10 < (x1.length : Int) then (if ((rd_T85 x1 x10).f1) ≤ x3 then (ebbtideref14_Stock.l0 k x1 x2 x3 (wrap64 (x9 - ((rd_T85 x1 x10).f2))) (wrap64 (x10 + 1)) x609000 x609001 x609002) else (ebbtideref14_Stock.l0 k x1 x2 x3 x9 (wrap64 (x10 + 1)) x609000 x609001 x609002)) else (none)) else (none)) else (ebbtideref14_Stock.l0 k x1 x2 x3 x9 (wrap64 (x10 + 1)) x609000 x609001 x609002))
end
def ebbtideref14_Stock.f (k : Nat) (a0_0 : Int) (a0_1 : Bool) (l0_2 : List (S54)) (l1 : List (S85)) (a2 : Int) (a3 : Int) : Option (Int) := ebbtideref14_Stock.l0 k l1 a2 a3 0 0 a0_0 a0_1 l0_2
def ebbtideref14_Stock.T5 : Bool × List (List Nat × List Nat) := (true, [([], []), ([0], [0]), ([], []), ([], []), ([2, 3], [2, 3]), ([4], [4]), ([5], [5]), ([1, 6], [1, 6]), ([7], [7]), ([], []), ([9, 8, 0, 1, 2, 3, 4, 5, 6, 7, 8, 9], [8, 9])])
def ebbtideref14_Stock.B5 : List Nat := [0, 1, 0, 0, 12, 28, 60, 127, 255, 0, 1023]
theorem ebbtideref14_Stock.tab5 : rtab .any (opsOf Try.f52 5) = ebbtideref14_Stock.T5 := by kernel_rfl
theorem ebbtideref14_Stock.bits5 : waitsOk ebbtideref14_Stock.T5.2 ebbtideref14_Stock.B5 = true := by kernel_rfl
set_option maxHeartbeats 8000000 in
set_option maxRecDepth 100000 in
theorem ebbtideref14_Stock.calls (k : Nat) (a0_0 : Int) (a0_1 : Bool) (A0_2 : Option Addr) (c0_2 : Nat) (l0_2 : List (S54)) (A1 : Option Addr) (c1 : Nat) (l1 : List (S85)) (a2 : Int) (a3 : Int) (r : Int) (w : World) (hr0_2 : Kd.C k54 w A0_2 l0_2.length l0_2) (hc0_2 : l0_2.length ≤ c0_2) (hr1 : Kd.C k85 w A1 l1.length l1) (hc1 : l1.length ≤ c1) (h : ebbtideref14_Stock.f k a0_0 a0_1 l0_2 l1 a2 a3 = some r) :
  Calls Try.prog 52 #[.agg #[.int .i64 a0_0, .bool a0_1, .slice A0_2 l0_2.length c0_2], .slice A1 l1.length c1, .int .i64 a2, .int .i64 a3] w fun e w' => e = .returned (.int .i64 r) ∧ Below w.heap.size w w' := by
 have hu24 := Try.underlying24; have hu54 := Try.underlying54; have HR0_2 := am_ hr0_2; have HC0_2 := am_ hc0_2; clear hr0_2 hc0_2; have HR1 := am_ hr1; have HC1 := am_ hc1; clear hr1 hc1; have HB := am_ (Below.refl w.heap.size w); have H : (ebbtideref14_Stock.l0 k l1 a2 a3 0 0 a0_0 a0_1 l0_2) = some r := h; clear h; have H' := am_ H; clear H
 go_enter Try.func52, Try.ntmps52
 go_wp2_with (first | ((with_reducible refine gate_dst (N := 4) rfl ?_); refine bx_ 4 #[.int .i64 a0_0, .bool a0_1, .slice A0_2 l0_2.length c0_2] 24 ?_; intro gb608 hg w5 BK608 hb; have GE608 := ge_ (w := w) hg; replace HB := hst_ hb; clear hb hg))
 go_loopg [9, 10] k (fun kq v9 v10 w' => ∃ (x9_1 : Int) (x10_1 : Int), v9 = .int .i64 x9_1 ∧ v10 = .int .i64 x10_1 ∧ Aside0 (ebbtideref14_Stock.l0 kq l1 a2 a3 x9_1 x10_1 a0_0 a0_1 l0_2 = some r) ∧ Aside0 (kq ≤ k) ∧ Aside0 (w'.heap[gb608]? = some (.cells #[.int .i64 a0_0, .bool a0_1, (.slice A0_2 l0_2.length c0_2)] 24 (0, 0))) ∧ Aside0 (Below w.heap.size w w'))
 case atStart => exact ⟨(0), (0), rs_, rs_, H', ⟨Nat.le_refl _⟩, ⟨bq_ BK608.out⟩, ⟨hb_⟩⟩
 case round =>
  clear H'
  try clear c1
  try clear p2
  try clear c5
  obtain ⟨x9_1, x10_1, rfl, rfl, HA, HK1, BK608, HB⟩ := hrel
  cases gk with
  | zero => exact absurd HA.out (by simp [ebbtideref14_Stock.l0])
  | succ k1 =>
   have H := HA.out; clear HA; simp only [ebbtideref14_Stock.l0] at H
   by_cases c6 : x10_1 < (l1.length : Int)
   ·rw [if_pos c6] at H
    have c6b0 := decide_eq_true c6; clear c6
    replace H := ifn_ H; obtain ⟨c7, H⟩ := H
    have c7b0 := decide_eq_true c7; clear c7
    replace H := ifn_ H; obtain ⟨c8, H⟩ := H
    have c8b0 := decide_eq_true c8; clear c8
    replace H := ifn_ H; obtain ⟨c9, H⟩ := H
    have c9b0 := decide_eq_true c9; clear c9; have HC10 := am_ H; clear H
    try go_wp2
    replace BK608 := am_ (blk_drew BK608.out); replace HB := am_ (below_drew1 HB.out); have p609 : 0 ≤ (x10_1 : Int) := of_decide_eq_true sm_; have q609 : x10_1 < (l1.length : Int) := of_decide_eq_true sm_; obtain ⟨ad609, e609, hx609_0, hx609_1, hx609_2⟩ := at_T85 HR1.out x10_1 p609 q609; have hw609_2 := hx609_2; have hw609_1 := hx609_1; have hw609_0 := hx609_0; cases e609; replace hx609_0 := (HB.out.cell (World.block_lt_of_cell? w _ hx609_0)).trans hx609_0; replace hx609_1 := (HB.out.cell (World.block_lt_of_cell? w _ hx609_1)).trans hx609_1; replace hx609_2 := (HB.out.cell (World.block_lt_of_cell? w _ hx609_2)).trans hx609_2; replace p609 := eq_true p609; replace q609 := eq_true q609; have p610 : 0 ≤ (((rd_T85 l1 x10_1).f0) : Int) := of_decide_eq_true sm_; have q610 : ((rd_T85 l1 x10_1).f0) < (l0_2.length : Int) := of_decide_eq_true sm_; obtain ⟨ad610, e610, hx610_0, hx610_1, hx610_2, hx610_3⟩ := at_T54 HR0_2.out ((rd_T85 l1 x10_1).f0) p610 q610; have hw610_3 := hx610_3; have hw610_2 := hx610_2; have hw610_1 := hx610_1; have hw610_0 := hx610_0; cases e610; replace hx610_0 := (HB.out.cell (World.block_lt_of_cell? w _ hx610_0)).trans hx610_0; replace hx610_1 := (HB.out.cell (World.block_lt_of_cell? w _ hx610_1)).trans hx610_1; replace hx610_2 := (HB.out.cell (World.block_lt_of_cell? w _ hx610_2)).trans hx610_2; replace hx610_3 := (HB.out.cell (World.block_lt_of_cell? w _ hx610_3)).trans hx610_3; replace p610 := eq_true p610; replace q610 := eq_true q610; refine start_ (n := 11) (S := fun w' => w'.cell? ⟨gb608, 0, none⟩ = some (.int .i64 a0_0) ∧ w'.cell? ⟨gb608, 1, none⟩ = some (.bool a0_1) ∧ w'.cell? ⟨gb608, 2, none⟩ = some (.slice (some ad610) l0_2.length c0_2) ∧ w'.cell? (ad609.add ((x10_1).toNat * 3)) = some (.int .i64 ((rd_T85 l1 x10_1).f0)) ∧ w'.cell? ⟨(ad609.add ((x10_1).toNat * 3)).block, (ad609.add ((x10_1).toNat * 3)).off + 1, none⟩ = some (.int .i64 ((rd_T85 l1 x10_1).f1)) ∧ w'.cell? ⟨(ad609.add ((x10_1).toNat * 3)).block, (ad609.add ((x10_1).toNat * 3)).off + 2, none⟩ = some (.int .i64 ((rd_T85 l1 x10_1).f2)) ∧ w'.cell? (ad610.add ((((rd_T85 l1 x10_1).f0)).toNat * 4)) = some (.int .i64 ((rd_T54 l0_2 ((rd_T85 l1 x10_1).f0)).f0)) ∧ w'.cell? ⟨(ad610.add ((((rd_T85 l1 x10_1).f0)).toNat * 4)).block, (ad610.add ((((rd_T85 l1 x10_1).f0)).toNat * 4)).off + 1, none⟩ = some (.int .i64 ((rd_T54 l0_2 ((rd_T85 l1 x10_1).f0)).f1)) ∧ w'.cell? ⟨(ad610.add ((((rd_T85 l1 x10_1).f0)).toNat * 4)).block, (ad610.add ((((rd_T85 l1 x10_1).f0)).toNat * 4)).off + 2, none⟩ = some (.int .i64 ((rd_T54 l0_2 ((rd_T85 l1 x10_1).f0)).f2)) ∧ w'.cell? ⟨(ad610.add ((((rd_T85 l1 x10_1).f0)).toNat * 4)).block, (ad610.add ((((rd_T85 l1 x10_1).f0)).toNat * 4)).off + 3, none⟩ = some (.int .i64 ((rd_T54 l0_2 ((rd_T85 l1 x10_1).f0)).f3))) (ds := []) #[Ff,Ff,Ff,Ff,Ff,Ff,Ff,Ff,Ff,Ff,Ff] (by kernel_rfl) rfl rfl ⟨(blk_cell BK608.out 0).trans rfl, (blk_cell BK608.out 1).trans rfl, (blk_cell BK608.out 2).trans rfl, ((HB.out.cell (World.block_lt_of_cell? w _ hw609_0)).trans hw609_0), ((HB.out.cell (World.block_lt_of_cell? w _ hw609_1)).trans hw609_1), ((HB.out.cell (World.block_lt_of_cell? w _ hw609_2)).trans hw609_2), ((HB.out.cell (World.block_lt_of_cell? w _ hw610_0)).trans hw610_0), ((HB.out.cell (World.block_lt_of_cell? w _ hw610_1)).trans hw610_1), ((HB.out.cell (World.block_lt_of_cell? w _ hw610_2)).trans hw610_2), ((HB.out.cell (World.block_lt_of_cell? w _ hw610_3)).trans hw610_3)⟩ (fun hHeld => ?_); refine with_tabW ebbtideref14_Stock.tab5 ebbtideref14_Stock.bits5 (fun HT_ HW_ => ?_); generalize wr.drew = w11 at BK608 HB hx609_0 hx609_1 hx609_2 hx610_0 hx610_1 hx610_2 hx610_3 hHeld ⊢; refine pw_ 0 18 ?_; refine pw_ 2 20 ?_; refine pw_ 3 21 ?_; refine pw_ 4 22 ?_; refine pw_ 5 23 ?_; refine tk_ 1 19 ?_; refine tk_ 6 24 ?_; refine pw_ 7 25 ?_; refine tk_ 8 26 ?_; refine one_ (i := 9) (N := some 11) #[Tt,Tt,Tt,Tt,Tt,Tt,Tt,Tt,Tt,Tt,Ff] rfl rfl (one_of HT_.out (by kernel_rfl)) (by decide) (fun K hK => ?_); refine box_step ?hg (N := 11) ?hd (cs := #[.int .i64 0, .int .i64 0, .int .i64 0, .int .i64 0]) (t := 54) ?hr ?_; (case hd => rfl); (case hg => rfl); (case hr => first | (go_simp; done) | (go_simp; rfl)); intro gb611 hg w12 hbox hb; have BK611 := am_ (hbox); have GW611 := am_ ((by rw [hg]; exact (below_size hb_) : w.heap.size ≤ gb611)); have GE611 := ge_ (w := w) hg; replace HB := hst_ hb; have NB608_611 := am_ (nl_ BK608.out hg); have NB611_608 := am_ (ng_ BK608.out hg); replace BK608 := am_ (bb_ BK608.out hb); clear hb hbox hg; refine hK.out _ _ ⟨(blk_cell BK608.out 0).trans rfl, (blk_cell BK608.out 1).trans rfl, (blk_cell BK608.out 2).trans rfl, ((HB.out.cell (World.block_lt_of_cell? w _ hw609_0)).trans hw609_0), ((HB.out.cell (World.block_lt_of_cell? w _ hw609_1)).trans hw609_1), ((HB.out.cell (World.block_lt_of_cell? w _ hw609_2)).trans hw609_2), ((HB.out.cell (World.block_lt_of_cell? w _ hw610_0)).trans hw610_0), ((HB.out.cell (World.block_lt_of_cell? w _ hw610_1)).trans hw610_1), ((HB.out.cell (World.block_lt_of_cell? w _ hw610_2)).trans hw610_2), ((HB.out.cell (World.block_lt_of_cell? w _ hw610_3)).trans hw610_3)⟩ (fun hHeld => ?_); clear hK K; refine norm_ (a' := ?_) ?_ ?_; rotate_left
    ·show Act.put _ (some 11) _ = _
     simp only [Act.put, List.setIfInBounds_toArray, List.set_cons_zero, List.set_cons_succ, i64_w, i32_w]; rfl
    refine one_ (i := 10) (N := none) #[Tt,Tt,Tt,Tt,Tt,Tt,Tt,Tt,Tt,Tt,Tt] rfl rfl (one_of HT_.out (by kernel_rfl)) (by decide) (fun K hK => ?_); have hs13 : w12.cell? ⟨gb611, 0, none⟩ = some (.int .i64 0) := (blk_cell BK611.out 0).trans rfl; have hfs13 := blk_frozen BK611.out 0; have hns13_0 := NB608_611.out; have hms13_0 := NB611_608.out; have hs14 : w12.cell? ⟨gb611, 1, none⟩ = some (.int .i64 0) := (blk_cell BK611.out 1).trans rfl; have hfs14 := blk_frozen BK611.out 1; have hns14_0 := NB608_611.out; have hms14_0 := NB611_608.out; have hs15 : w12.cell? ⟨gb611, 2, none⟩ = some (.int .i64 0) := (blk_cell BK611.out 2).trans rfl; have hfs15 := blk_frozen BK611.out 2; have hns15_0 := NB608_611.out; have hms15_0 := NB611_608.out; have hs16 : w12.cell? ⟨gb611, 3, none⟩ = some (.int .i64 0) := (blk_cell BK611.out 3).trans rfl; have hfs16 := blk_frozen BK611.out 3; have hns16_0 := NB608_611.out; have hms16_0 := NB611_608.out; refine skip_ (w1 := ?_) (by rfl) rfl ?_ ?_; rotate_left; (· go_simp; rfl); refine hK.out _ _ ⟨((cell_far (p := ⟨gb611, _, none⟩) NB608_611.out _).trans (((cell_far (p := ⟨gb611, _, none⟩) NB608_611.out _).trans (((cell_far (p := ⟨gb611, _, none⟩) NB608_611.out _).trans (((cell_far (p := ⟨gb611, _, none⟩) NB608_611.out _).trans (hHeld.1)))))))), ((cell_far (p := ⟨gb611, _, none⟩) NB608_611.out _).trans (((cell_far (p := ⟨gb611, _, none⟩) NB608_611.out _).trans (((cell_far (p := ⟨gb611, _, none⟩) NB608_611.out _).trans (((cell_far (p := ⟨gb611, _, none⟩) NB608_611.out _).trans (hHeld.2.1)))))))), ((cell_far (p := ⟨gb611, _, none⟩) NB608_611.out _).trans (((cell_far (p := ⟨gb611, _, none⟩) NB608_611.out _).trans (((cell_far (p := ⟨gb611, _, none⟩) NB608_611.out _).trans (((cell_far (p := ⟨gb611, _, none⟩) NB608_611.out _).trans (hHeld.2.2.1)))))))), ((cell_far (p := ⟨gb611, _, none⟩) (by first | exact Nat.ne_of_lt (Nat.lt_of_lt_of_le (by have := World.block_lt_of_cell? _ _ hw609_0; first | rwa [add_block] at this | exact this) GW611.out) | (rw [add_block]; exact Nat.ne_of_lt (Nat.lt_of_lt_of_le (by have := World.block_lt_of_cell? _ _ hw609_0; first | rwa [add_block] at this | exact this) GW611.out)) | (show (Addr.add _ _).block ≠ _; rw [add_block]; exact Nat.ne_of_lt (Nat.lt_of_lt_of_le (by have := World.block_lt_of_cell? _ _ hw609_0; first | rwa [add_block] at this | exact this) GW611.out)) | (dsimp only; exact Nat.ne_of_lt (Nat.lt_of_lt_of_le (by have := World.block_lt_of_cell? _ _ hw609_0; first | rwa [add_block] at this | exact this) GW611.out))) _).trans (((cell_far (p := ⟨gb611, _, none⟩) (by first | exact Nat.ne_of_lt (Nat.lt_of_lt_of_le (by have := World.block_lt_of_cell? _ _ hw609_0; first | rwa [add_block] at this | exact this) GW611.out) | (rw [add_block]; exact Nat.ne_of_lt (Nat.lt_of_lt_of_le (by have := World.block_lt_of_cell? _ _ hw609_0; first | rwa [add_block] at this | exact this) GW611.out)) | (show (Addr.add _ _).block ≠ _; rw [add_block]; exact Nat.ne_of_lt (Nat.lt_of_lt_of_le (by have := World.block_lt_of_cell? _ _ hw609_0; first | rwa [add_block] at this | exact this) GW611.out)) | (dsimp only; exact Nat.ne_of_lt (Nat.lt_of_lt_of_le (by have := World.block_lt_of_cell? _ _ hw609_0; first | rwa [add_block] at this | exact this) GW611.out))) _).trans (((cell_far (p := ⟨gb611, _, none⟩) (by first | exact Nat.ne_of_lt (Nat.lt_of_lt_of_le (by have := World.block_lt_of_cell? _ _ hw609_0; first | rwa [add_block] at this | exact this) GW611.out) | (rw [add_block]; exact Nat.ne_of_lt (Nat.lt_of_lt_of_le (by have := World.block_lt_of_cell? _ _ hw609_0; first | rwa [add_block] at this | exact this) GW611.out)) | (show (Addr.add _ _).block ≠ _; rw [add_block]; exact Nat.ne_of_lt (Nat.lt_of_lt_of_le (by have := World.block_lt_of_cell? _ _ hw609_0; first | rwa [add_block] at this | exact this) GW611.out)) | (dsimp only; exact Nat.ne_of_lt (Nat.lt_of_lt_of_le (by have := World.block_lt_of_cell? _ _ hw609_0; first | rwa [add_block] at this | exact this) GW611.out))) _).trans (((cell_far (p := ⟨gb611, _, none⟩) (by first | exact Nat.ne_of_lt (Nat.lt_of_lt_of_le (by have := World.block_lt_of_cell? _ _ hw609_0; first | rwa [add_block] at this | exact this) GW611.out) | (rw [add_block]; exact Nat.ne_of_lt (Nat.lt_of_lt_of_le (by have := World.block_lt_of_cell? _ _ hw609_0; first | rwa [add_block] at this | exact this) GW611.out)) | (show (Addr.add _ _).block ≠ _; rw [add_block]; exact Nat.ne_of_lt (Nat.lt_of_lt_of_le (by have := World.block_lt_of_cell? _ _ hw609_0; first | rwa [add_block] at this | exact this) GW611.out)) | (dsimp only; exact Nat.ne_of_lt (Nat.lt_of_lt_of_le (by have := World.block_lt_of_cell? _ _ hw609_0; first | rwa [add_block] at this | exact this) GW611.out))) _).trans (hHeld.2.2.2.1)))))))), ((cell_far (p := ⟨gb611, _, none⟩) (by first | exact Nat.ne_of_lt (Nat.lt_of_lt_of_le (by have := World.block_lt_of_cell? _ _ hw609_1; first | rwa [add_block] at this | exact this) GW611.out) | (rw [add_block]; exact Nat.ne_of_lt (Nat.lt_of_lt_of_le (by have := World.block_lt_of_cell? _ _ hw609_1; first | rwa [add_block] at this | exact this) GW611.out)) | (show (Addr.add _ _).block ≠ _; rw [add_block]; exact Nat.ne_of_lt (Nat.lt_of_lt_of_le (by have := World.block_lt_of_cell? _ _ hw609_1; first | rwa [add_block] at this | exact this) GW611.out)) | (dsimp only; exact Nat.ne_of_lt (Nat.lt_of_lt_of_le (by have := World.block_lt_of_cell? _ _ hw609_1; first | rwa [add_block] at this | exact this) GW611.out))) _).trans (((cell_far (p := ⟨gb611, _, none⟩) (by first | exact Nat.ne_of_lt (Nat.lt_of_lt_of_le (by have := World.block_lt_of_cell? _ _ hw609_1; first | rwa [add_block] at this | exact this) GW611.out) | (rw [add_block]; exact Nat.ne_of_lt (Nat.lt_of_lt_of_le (by have := World.block_lt_of_cell? _ _ hw609_1; first | rwa [add_block] at this | exact this) GW611.out)) | (show (Addr.add _ _).block ≠ _; rw [add_block]; exact Nat.ne_of_lt (Nat.lt_of_lt_of_le (by have := World.block_lt_of_cell? _ _ hw609_1; first | rwa [add_block] at this | exact this) GW611.out)) | (dsimp only; exact Nat.ne_of_lt (Nat.lt_of_lt_of_le (by have := World.block_lt_of_cell? _ _ hw609_1; first | rwa [add_block] at this | exact this) GW611.out))) _).trans (((cell_far (p := ⟨gb611, _, none⟩) (by first | exact Nat.ne_of_lt (Nat.lt_of_lt_of_le (by have := World.block_lt_of_cell? _ _ hw609_1; first | rwa [add_block] at this | exact this) GW611.out) | (rw [add_block]; exact Nat.ne_of_lt (Nat.lt_of_lt_of_le (by have := World.block_lt_of_cell? _ _ hw609_1; first | rwa [add_block] at this | exact this) GW611.out)) | (show (Addr.add _ _).block ≠ _; rw [add_block]; exact Nat.ne_of_lt (Nat.lt_of_lt_of_le (by have := World.block_lt_of_cell? _ _ hw609_1; first | rwa [add_block] at this | exact this) GW611.out)) | (dsimp only; exact Nat.ne_of_lt (Nat.lt_of_lt_of_le (by have := World.block_lt_of_cell? _ _ hw609_1; first | rwa [add_block] at this | exact this) GW611.out))) _).trans (((cell_far (p := ⟨gb611, _, none⟩) (by first | exact Nat.ne_of_lt (Nat.lt_of_lt_of_le (by have := World.block_lt_of_cell? _ _ hw609_1; first | rwa [add_block] at this | exact this) GW611.out) | (rw [add_block]; exact Nat.ne_of_lt (Nat.lt_of_lt_of_le (by have := World.block_lt_of_cell? _ _ hw609_1; first | rwa [add_block] at this | exact this) GW611.out)) | (show (Addr.add _ _).block ≠ _; rw [add_block]; exact Nat.ne_of_lt (Nat.lt_of_lt_of_le (by have := World.block_lt_of_cell? _ _ hw609_1; first | rwa [add_block] at this | exact this) GW611.out)) | (dsimp only; exact Nat.ne_of_lt (Nat.lt_of_lt_of_le (by have := World.block_lt_of_cell? _ _ hw609_1; first | rwa [add_block] at this | exact this) GW611.out))) _).trans (hHeld.2.2.2.2.1)))))))), ((cell_far (p := ⟨gb611, _, none⟩) (by first | exact Nat.ne_of_lt (Nat.lt_of_lt_of_le (by have := World.block_lt_of_cell? _ _ hw609_2; first | rwa [add_block] at this | exact this) GW611.out) | (rw [add_block]; exact Nat.ne_of_lt (Nat.lt_of_lt_of_le (by have := World.block_lt_of_cell? _ _ hw609_2; first | rwa [add_block] at this | exact this) GW611.out)) | (show (Addr.add _ _).block ≠ _; rw [add_block]; exact Nat.ne_of_lt (Nat.lt_of_lt_of_le (by have := World.block_lt_of_cell? _ _ hw609_2; first | rwa [add_block] at this | exact this) GW611.out)) | (dsimp only; exact Nat.ne_of_lt (Nat.lt_of_lt_of_le (by have := World.block_lt_of_cell? _ _ hw609_2; first | rwa [add_block] at this | exact this) GW611.out))) _).trans (((cell_far (p := ⟨gb611, _, none⟩) (by first | exact Nat.ne_of_lt (Nat.lt_of_lt_of_le (by have := World.block_lt_of_cell? _ _ hw609_2; first | rwa [add_block] at this | exact this) GW611.out) | (rw [add_block]; exact Nat.ne_of_lt (Nat.lt_of_lt_of_le (by have := World.block_lt_of_cell? _ _ hw609_2; first | rwa [add_block] at this | exact this) GW611.out)) | (show (Addr.add _ _).block ≠ _; rw [add_block]; exact Nat.ne_of_lt (Nat.lt_of_lt_of_le (by have := World.block_lt_of_cell? _ _ hw609_2; first | rwa [add_block] at this | exact this) GW611.out)) | (dsimp only; exact Nat.ne_of_lt (Nat.lt_of_lt_of_le (by have := World.block_lt_of_cell? _ _ hw609_2; first | rwa [add_block] at this | exact this) GW611.out))) _).trans (((cell_far (p := ⟨gb611, _, none⟩) (by first | exact Nat.ne_of_lt (Nat.lt_of_lt_of_le (by have := World.block_lt_of_cell? _ _ hw609_2; first | rwa [add_block] at this | exact this) GW611.out) | (rw [add_block]; exact Nat.ne_of_lt (Nat.lt_of_lt_of_le (by have := World.block_lt_of_cell? _ _ hw609_2; first | rwa [add_block] at this | exact this) GW611.out)) | (show (Addr.add _ _).block ≠ _; rw [add_block]; exact Nat.ne_of_lt (Nat.lt_of_lt_of_le (by have := World.block_lt_of_cell? _ _ hw609_2; first | rwa [add_block] at this | exact this) GW611.out)) | (dsimp only; exact Nat.ne_of_lt (Nat.lt_of_lt_of_le (by have := World.block_lt_of_cell? _ _ hw609_2; first | rwa [add_block] at this | exact this) GW611.out))) _).trans (((cell_far (p := ⟨gb611, _, none⟩) (by first | exact Nat.ne_of_lt (Nat.lt_of_lt_of_le (by have := World.block_lt_of_cell? _ _ hw609_2; first | rwa [add_block] at this | exact this) GW611.out) | (rw [add_block]; exact Nat.ne_of_lt (Nat.lt_of_lt_of_le (by have := World.block_lt_of_cell? _ _ hw609_2; first | rwa [add_block] at this | exact this) GW611.out)) | (show (Addr.add _ _).block ≠ _; rw [add_block]; exact Nat.ne_of_lt (Nat.lt_of_lt_of_le (by have := World.block_lt_of_cell? _ _ hw609_2; first | rwa [add_block] at this | exact this) GW611.out)) | (dsimp only; exact Nat.ne_of_lt (Nat.lt_of_lt_of_le (by have := World.block_lt_of_cell? _ _ hw609_2; first | rwa [add_block] at this | exact this) GW611.out))) _).trans (hHeld.2.2.2.2.2.1)))))))), ((cell_far (p := ⟨gb611, _, none⟩) (by first | exact Nat.ne_of_lt (Nat.lt_of_lt_of_le (by have := World.block_lt_of_cell? _ _ hw610_0; first | rwa [add_block] at this | exact this) GW611.out) | (rw [add_block]; exact Nat.ne_of_lt (Nat.lt_of_lt_of_le (by have := World.block_lt_of_cell? _ _ hw610_0; first | rwa [add_block] at this | exact this) GW611.out)) | (show (Addr.add _ _).block ≠ _; rw [add_block]; exact Nat.ne_of_lt (Nat.lt_of_lt_of_le (by have := World.block_lt_of_cell? _ _ hw610_0; first | rwa [add_block] at this | exact this) GW611.out)) | (dsimp only; exact Nat.ne_of_lt (Nat.lt_of_lt_of_le (by have := World.block_lt_of_cell? _ _ hw610_0; first | rwa [add_block] at this | exact this) GW611.out))) _).trans (((cell_far (p := ⟨gb611, _, none⟩) (by first | exact Nat.ne_of_lt (Nat.lt_of_lt_of_le (by have := World.block_lt_of_cell? _ _ hw610_0; first | rwa [add_block] at this | exact this) GW611.out) | (rw [add_block]; exact Nat.ne_of_lt (Nat.lt_of_lt_of_le (by have := World.block_lt_of_cell? _ _ hw610_0; first | rwa [add_block] at this | exact this) GW611.out)) | (show (Addr.add _ _).block ≠ _; rw [add_block]; exact Nat.ne_of_lt (Nat.lt_of_lt_of_le (by have := World.block_lt_of_cell? _ _ hw610_0; first | rwa [add_block] at this | exact this) GW611.out)) | (dsimp only; exact Nat.ne_of_lt (Nat.lt_of_lt_of_le (by have := World.block_lt_of_cell? _ _ hw610_0; first | rwa [add_block] at this | exact this) GW611.out))) _).trans (((cell_far (p := ⟨gb611, _, none⟩) (by first | exact Nat.ne_of_lt (Nat.lt_of_lt_of_le (by have := World.block_lt_of_cell? _ _ hw610_0; first | rwa [add_block] at this | exact this) GW611.out) | (rw [add_block]; exact Nat.ne_of_lt (Nat.lt_of_lt_of_le (by have := World.block_lt_of_cell? _ _ hw610_0; first | rwa [add_block] at this | exact this) GW611.out)) | (show (Addr.add _ _).block ≠ _; rw [add_block]; exact Nat.ne_of_lt (Nat.lt_of_lt_of_le (by have := World.block_lt_of_cell? _ _ hw610_0; first | rwa [add_block] at this | exact this) GW611.out)) | (dsimp only; exact Nat.ne_of_lt (Nat.lt_of_lt_of_le (by have := World.block_lt_of_cell? _ _ hw610_0; first | rwa [add_block] at this | exact this) GW611.out))) _).trans (((cell_far (p := ⟨gb611, _, none⟩) (by first | exact Nat.ne_of_lt (Nat.lt_of_lt_of_le (by have := World.block_lt_of_cell? _ _ hw610_0; first | rwa [add_block] at this | exact this) GW611.out) | (rw [add_block]; exact Nat.ne_of_lt (Nat.lt_of_lt_of_le (by have := World.block_lt_of_cell? _ _ hw610_0; first | rwa [add_block] at this | exact this) GW611.out)) | (show (Addr.add _ _).block ≠ _; rw [add_block]; exact Nat.ne_of_lt (Nat.lt_of_lt_of_le (by have := World.block_lt_of_cell? _ _ hw610_0; first | rwa [add_block] at this | exact this) GW611.out)) | (dsimp only; exact Nat.ne_of_lt (Nat.lt_of_lt_of_le (by have := World.block_lt_of_cell? _ _ hw610_0; first | rwa [add_block] at this | exact this) GW611.out))) _).trans (hHeld.2.2.2.2.2.2.1)))))))), ((cell_far (p := ⟨gb611, _, none⟩) (by first | exact Nat.ne_of_lt (Nat.lt_of_lt_of_le (by have := World.block_lt_of_cell? _ _ hw610_1; first | rwa [add_block] at this | exact this) GW611.out) | (rw [add_block]; exact Nat.ne_of_lt (Nat.lt_of_lt_of_le (by have := World.block_lt_of_cell? _ _ hw610_1; first | rwa [add_block] at this | exact this) GW611.out)) | (show (Addr.add _ _).block ≠ _; rw [add_block]; exact Nat.ne_of_lt (Nat.lt_of_lt_of_le (by have := World.block_lt_of_cell? _ _ hw610_1; first | rwa [add_block] at this | exact this) GW611.out)) | (dsimp only; exact Nat.ne_of_lt (Nat.lt_of_lt_of_le (by have := World.block_lt_of_cell? _ _ hw610_1; first | rwa [add_block] at this | exact this) GW611.out))) _).trans (((cell_far (p := ⟨gb611, _, none⟩) (by first | exact Nat.ne_of_lt (Nat.lt_of_lt_of_le (by have := World.block_lt_of_cell? _ _ hw610_1; first | rwa [add_block] at this | exact this) GW611.out) | (rw [add_block]; exact Nat.ne_of_lt (Nat.lt_of_lt_of_le (by have := World.block_lt_of_cell? _ _ hw610_1; first | rwa [add_block] at this | exact this) GW611.out)) | (show (Addr.add _ _).block ≠ _; rw [add_block]; exact Nat.ne_of_lt (Nat.lt_of_lt_of_le (by have := World.block_lt_of_cell? _ _ hw610_1; first | rwa [add_block] at this | exact this) GW611.out)) | (dsimp only; exact Nat.ne_of_lt (Nat.lt_of_lt_of_le (by have := World.block_lt_of_cell? _ _ hw610_1; first | rwa [add_block] at this | exact this) GW611.out))) _).trans (((cell_far (p := ⟨gb611, _, none⟩) (by first | exact Nat.ne_of_lt (Nat.lt_of_lt_of_le (by have := World.block_lt_of_cell? _ _ hw610_1; first | rwa [add_block] at this | exact this) GW611.out) | (rw [add_block]; exact Nat.ne_of_lt (Nat.lt_of_lt_of_le (by have := World.block_lt_of_cell? _ _ hw610_1; first | rwa [add_block] at this | exact this) GW611.out)) | (show (Addr.add _ _).block ≠ _; rw [add_block]; exact Nat.ne_of_lt (Nat.lt_of_lt_of_le (by have := World.block_lt_of_cell? _ _ hw610_1; first | rwa [add_block] at this | exact this) GW611.out)) | (dsimp only; exact Nat.ne_of_lt (Nat.lt_of_lt_of_le (by have := World.block_lt_of_cell? _ _ hw610_1; first | rwa [add_block] at this | exact this) GW611.out))) _).trans (((cell_far (p := ⟨gb611, _, none⟩) (by first | exact Nat.ne_of_lt (Nat.lt_of_lt_of_le (by have := World.block_lt_of_cell? _ _ hw610_1; first | rwa [add_block] at this | exact this) GW611.out) | (rw [add_block]; exact Nat.ne_of_lt (Nat.lt_of_lt_of_le (by have := World.block_lt_of_cell? _ _ hw610_1; first | rwa [add_block] at this | exact this) GW611.out)) | (show (Addr.add _ _).block ≠ _; rw [add_block]; exact Nat.ne_of_lt (Nat.lt_of_lt_of_le (by have := World.block_lt_of_cell? _ _ hw610_1; first | rwa [add_block] at this | exact this) GW611.out)) | (dsimp only; exact Nat.ne_of_lt (Nat.lt_of_lt_of_le (by have := World.block_lt_of_cell? _ _ hw610_1; first | rwa [add_block] at this | exact this) GW611.out))) _).trans (hHeld.2.2.2.2.2.2.2.1)))))))), ((cell_far (p := ⟨gb611, _, none⟩) (by first | exact Nat.ne_of_lt (Nat.lt_of_lt_of_le (by have := World.block_lt_of_cell? _ _ hw610_2; first | rwa [add_block] at this | exact this) GW611.out) | (rw [add_block]; exact Nat.ne_of_lt (Nat.lt_of_lt_of_le (by have := World.block_lt_of_cell? _ _ hw610_2; first | rwa [add_block] at this | exact this) GW611.out)) | (show (Addr.add _ _).block ≠ _; rw [add_block]; exact Nat.ne_of_lt (Nat.lt_of_lt_of_le (by have := World.block_lt_of_cell? _ _ hw610_2; first | rwa [add_block] at this | exact this) GW611.out)) | (dsimp only; exact Nat.ne_of_lt (Nat.lt_of_lt_of_le (by have := World.block_lt_of_cell? _ _ hw610_2; first | rwa [add_block] at this | exact this) GW611.out))) _).trans (((cell_far (p := ⟨gb611, _, none⟩) (by first | exact Nat.ne_of_lt (Nat.lt_of_lt_of_le (by have := World.block_lt_of_cell? _ _ hw610_2; first | rwa [add_block] at this | exact this) GW611.out) | (rw [add_block]; exact Nat.ne_of_lt (Nat.lt_of_lt_of_le (by have := World.block_lt_of_cell? _ _ hw610_2; first | rwa [add_block] at this | exact this) GW611.out)) | (show (Addr.add _ _).block ≠ _; rw [add_block]; exact Nat.ne_of_lt (Nat.lt_of_lt_of_le (by have := World.block_lt_of_cell? _ _ hw610_2; first | rwa [add_block] at this | exact this) GW611.out)) | (dsimp only; exact Nat.ne_of_lt (Nat.lt_of_lt_of_le (by have := World.block_lt_of_cell? _ _ hw610_2; first | rwa [add_block] at this | exact this) GW611.out))) _).trans (((cell_far (p := ⟨gb611, _, none⟩) (by first | exact Nat.ne_of_lt (Nat.lt_of_lt_of_le (by have := World.block_lt_of_cell? _ _ hw610_2; first | rwa [add_block] at this | exact this) GW611.out) | (rw [add_block]; exact Nat.ne_of_lt (Nat.lt_of_lt_of_le (by have := World.block_lt_of_cell? _ _ hw610_2; first | rwa [add_block] at this | exact this) GW611.out)) | (show (Addr.add _ _).block ≠ _; rw [add_block]; exact Nat.ne_of_lt (Nat.lt_of_lt_of_le (by have := World.block_lt_of_cell? _ _ hw610_2; first | rwa [add_block] at this | exact this) GW611.out)) | (dsimp only; exact Nat.ne_of_lt (Nat.lt_of_lt_of_le (by have := World.block_lt_of_cell? _ _ hw610_2; first | rwa [add_block] at this | exact this) GW611.out))) _).trans (((cell_far (p := ⟨gb611, _, none⟩) (by first | exact Nat.ne_of_lt (Nat.lt_of_lt_of_le (by have := World.block_lt_of_cell? _ _ hw610_2; first | rwa [add_block] at this | exact this) GW611.out) | (rw [add_block]; exact Nat.ne_of_lt (Nat.lt_of_lt_of_le (by have := World.block_lt_of_cell? _ _ hw610_2; first | rwa [add_block] at this | exact this) GW611.out)) | (show (Addr.add _ _).block ≠ _; rw [add_block]; exact Nat.ne_of_lt (Nat.lt_of_lt_of_le (by have := World.block_lt_of_cell? _ _ hw610_2; first | rwa [add_block] at this | exact this) GW611.out)) | (dsimp only; exact Nat.ne_of_lt (Nat.lt_of_lt_of_le (by have := World.block_lt_of_cell? _ _ hw610_2; first | rwa [add_block] at this | exact this) GW611.out))) _).trans (hHeld.2.2.2.2.2.2.2.2.1)))))))), ((cell_far (p := ⟨gb611, _, none⟩) (by first | exact Nat.ne_of_lt (Nat.lt_of_lt_of_le (by have := World.block_lt_of_cell? _ _ hw610_3; first | rwa [add_block] at this | exact this) GW611.out) | (rw [add_block]; exact Nat.ne_of_lt (Nat.lt_of_lt_of_le (by have := World.block_lt_of_cell? _ _ hw610_3; first | rwa [add_block] at this | exact this) GW611.out)) | (show (Addr.add _ _).block ≠ _; rw [add_block]; exact Nat.ne_of_lt (Nat.lt_of_lt_of_le (by have := World.block_lt_of_cell? _ _ hw610_3; first | rwa [add_block] at this | exact this) GW611.out)) | (dsimp only; exact Nat.ne_of_lt (Nat.lt_of_lt_of_le (by have := World.block_lt_of_cell? _ _ hw610_3; first | rwa [add_block] at this | exact this) GW611.out))) _).trans (((cell_far (p := ⟨gb611, _, none⟩) (by first | exact Nat.ne_of_lt (Nat.lt_of_lt_of_le (by have := World.block_lt_of_cell? _ _ hw610_3; first | rwa [add_block] at this | exact this) GW611.out) | (rw [add_block]; exact Nat.ne_of_lt (Nat.lt_of_lt_of_le (by have := World.block_lt_of_cell? _ _ hw610_3; first | rwa [add_block] at this | exact this) GW611.out)) | (show (Addr.add _ _).block ≠ _; rw [add_block]; exact Nat.ne_of_lt (Nat.lt_of_lt_of_le (by have := World.block_lt_of_cell? _ _ hw610_3; first | rwa [add_block] at this | exact this) GW611.out)) | (dsimp only; exact Nat.ne_of_lt (Nat.lt_of_lt_of_le (by have := World.block_lt_of_cell? _ _ hw610_3; first | rwa [add_block] at this | exact this) GW611.out))) _).trans (((cell_far (p := ⟨gb611, _, none⟩) (by first | exact Nat.ne_of_lt (Nat.lt_of_lt_of_le (by have := World.block_lt_of_cell? _ _ hw610_3; first | rwa [add_block] at this | exact this) GW611.out) | (rw [add_block]; exact Nat.ne_of_lt (Nat.lt_of_lt_of_le (by have := World.block_lt_of_cell? _ _ hw610_3; first | rwa [add_block] at this | exact this) GW611.out)) | (show (Addr.add _ _).block ≠ _; rw [add_block]; exact Nat.ne_of_lt (Nat.lt_of_lt_of_le (by have := World.block_lt_of_cell? _ _ hw610_3; first | rwa [add_block] at this | exact this) GW611.out)) | (dsimp only; exact Nat.ne_of_lt (Nat.lt_of_lt_of_le (by have := World.block_lt_of_cell? _ _ hw610_3; first | rwa [add_block] at this | exact this) GW611.out))) _).trans (((cell_far (p := ⟨gb611, _, none⟩) (by first | exact Nat.ne_of_lt (Nat.lt_of_lt_of_le (by have := World.block_lt_of_cell? _ _ hw610_3; first | rwa [add_block] at this | exact this) GW611.out) | (rw [add_block]; exact Nat.ne_of_lt (Nat.lt_of_lt_of_le (by have := World.block_lt_of_cell? _ _ hw610_3; first | rwa [add_block] at this | exact this) GW611.out)) | (show (Addr.add _ _).block ≠ _; rw [add_block]; exact Nat.ne_of_lt (Nat.lt_of_lt_of_le (by have := World.block_lt_of_cell? _ _ hw610_3; first | rwa [add_block] at this | exact this) GW611.out)) | (dsimp only; exact Nat.ne_of_lt (Nat.lt_of_lt_of_le (by have := World.block_lt_of_cell? _ _ hw610_3; first | rwa [add_block] at this | exact this) GW611.out))) _).trans (hHeld.2.2.2.2.2.2.2.2.2))))))))⟩ (fun hHeld => ?_); clear hK K; refine done_ (done_of HT_.out (by kernel_rfl)) ?_
    go_upto_region 6 with (fail)
    go_cut [42] (fun v42 wc => ∃ (kq : Nat) (x42_9 : Bool), v42 = .bool x42_9 ∧ Aside0 (ebbtideref14_Stock.j1 kq l1 a2 a3 x9_1 x10_1 x42_9 a0_0 a0_1 l0_2 ((rd_T54 l0_2 ((rd_T85 l1 x10_1).f0)).f0) ((rd_T54 l0_2 ((rd_T85 l1 x10_1).f0)).f1) ((rd_T54 l0_2 ((rd_T85 l1 x10_1).f0)).f2) ((rd_T54 l0_2 ((rd_T85 l1 x10_1).f0)).f3) = some r) ∧ Aside0 (kq ≤ k1) ∧ Aside0 (wc.heap[gb608]? = some (.cells #[.int .i64 a0_0, .bool a0_1, (.slice (some ad610) l0_2.length c0_2)] 24 (0, 0))) ∧ Aside0 (wc.heap[gb611]? = some (.cells #[.int .i64 ((rd_T54 l0_2 ((rd_T85 l1 x10_1).f0)).f0), .int .i64 ((rd_T54 l0_2 ((rd_T85 l1 x10_1).f0)).f1), .int .i64 ((rd_T54 l0_2 ((rd_T85 l1 x10_1).f0)).f2), .int .i64 ((rd_T54 l0_2 ((rd_T85 l1 x10_1).f0)).f3)] 54 (0, 0))) ∧ Aside0 (Below w.heap.size w wc))
    case first =>
     have H := HC10.out; clear HC10
     by_cases c17 : ((rd_T54 l0_2 ((rd_T85 l1 x10_1).f0)).f1) = a2
     ·rw [if_pos c17] at H
      obtain ⟨c17b0, c17b1⟩ := eqb_ c17; clear c17
      (first | rw [c17b0] | (simp only [i64_w, i32_w]; rw [c17b0]) | skip)
      have H' := am_ H; clear H
      try go_wp2
      have n0_ : Aside0 (((((w12.setCell ⟨gb611, 0, none⟩ (.int .i64 ((rd_T54 l0_2 ((rd_T85 l1 x10_1).f0)).f0))).setCell ⟨gb611, 1, none⟩ (.int .i64 ((rd_T54 l0_2 ((rd_T85 l1 x10_1).f0)).f1))).setCell ⟨gb611, 2, none⟩ (.int .i64 ((rd_T54 l0_2 ((rd_T85 l1 x10_1).f0)).f2))).setCell ⟨gb611, 3, none⟩ (.int .i64 ((rd_T54 l0_2 ((rd_T85 l1 x10_1).f0)).f3))).heap[gb608]? = some (.cells #[.int .i64 a0_0, .bool a0_1, .slice (some ad610) l0_2.length c0_2] 24 (0, 0))) := ⟨by refine bq_ ?_; refine blk_far ?_ NB608_611.out _; refine bq_ ?_; refine blk_far ?_ NB608_611.out _; refine bq_ ?_; refine blk_far ?_ NB608_611.out _; refine bq_ ?_; refine blk_far ?_ NB608_611.out _; refine bq_ ?_; exact BK608.out⟩; have n1_ : Aside0 (((((w12.setCell ⟨gb611, 0, none⟩ (.int .i64 ((rd_T54 l0_2 ((rd_T85 l1 x10_1).f0)).f0))).setCell ⟨gb611, 1, none⟩ (.int .i64 ((rd_T54 l0_2 ((rd_T85 l1 x10_1).f0)).f1))).setCell ⟨gb611, 2, none⟩ (.int .i64 ((rd_T54 l0_2 ((rd_T85 l1 x10_1).f0)).f2))).setCell ⟨gb611, 3, none⟩ (.int .i64 ((rd_T54 l0_2 ((rd_T85 l1 x10_1).f0)).f3))).heap[gb611]? = some (.cells #[.int .i64 ((rd_T54 l0_2 ((rd_T85 l1 x10_1).f0)).f0), .int .i64 ((rd_T54 l0_2 ((rd_T85 l1 x10_1).f0)).f1), .int .i64 ((rd_T54 l0_2 ((rd_T85 l1 x10_1).f0)).f2), .int .i64 ((rd_T54 l0_2 ((rd_T85 l1 x10_1).f0)).f3)] 54 (0, 0))) := ⟨by refine bq_ ?_; refine blk_put (cs := #[.int .i64 ((rd_T54 l0_2 ((rd_T85 l1 x10_1).f0)).f0), .int .i64 ((rd_T54 l0_2 ((rd_T85 l1 x10_1).f0)).f1), .int .i64 ((rd_T54 l0_2 ((rd_T85 l1 x10_1).f0)).f2), .int .i64 0]) ?_ 3 _ rfl; refine bq_ ?_; refine blk_put (cs := #[.int .i64 ((rd_T54 l0_2 ((rd_T85 l1 x10_1).f0)).f0), .int .i64 ((rd_T54 l0_2 ((rd_T85 l1 x10_1).f0)).f1), .int .i64 0, .int .i64 0]) ?_ 2 _ rfl; refine bq_ ?_; refine blk_put (cs := #[.int .i64 ((rd_T54 l0_2 ((rd_T85 l1 x10_1).f0)).f0), .int .i64 0, .int .i64 0, .int .i64 0]) ?_ 1 _ rfl; refine bq_ ?_; refine blk_put (cs := #[.int .i64 0, .int .i64 0, .int .i64 0, .int .i64 0]) ?_ 0 _ rfl; refine bq_ ?_; exact BK611.out⟩; have n2_ : Aside0 (Below w.heap.size w ((((w12.setCell ⟨gb611, 0, none⟩ (.int .i64 ((rd_T54 l0_2 ((rd_T85 l1 x10_1).f0)).f0))).setCell ⟨gb611, 1, none⟩ (.int .i64 ((rd_T54 l0_2 ((rd_T85 l1 x10_1).f0)).f1))).setCell ⟨gb611, 2, none⟩ (.int .i64 ((rd_T54 l0_2 ((rd_T85 l1 x10_1).f0)).f2))).setCell ⟨gb611, 3, none⟩ (.int .i64 ((rd_T54 l0_2 ((rd_T85 l1 x10_1).f0)).f3)))) := ⟨hb_⟩
      (try clear BK608)
      (try clear BK611)
      (try clear HB)
      generalize ((((w12.setCell ⟨gb611, 0, none⟩ (.int .i64 ((rd_T54 l0_2 ((rd_T85 l1 x10_1).f0)).f0))).setCell ⟨gb611, 1, none⟩ (.int .i64 ((rd_T54 l0_2 ((rd_T85 l1 x10_1).f0)).f1))).setCell ⟨gb611, 2, none⟩ (.int .i64 ((rd_T54 l0_2 ((rd_T85 l1 x10_1).f0)).f2))).setCell ⟨gb611, 3, none⟩ (.int .i64 ((rd_T54 l0_2 ((rd_T85 l1 x10_1).f0)).f3))) = w18 at n0_ n1_ n2_ ⊢; have BK608 := n0_; have BK611 := n1_; have HB := n2_; clear n0_ n1_ n2_; have p612 := od_ (p := 0 ≤ (x10_1 : Int)); have q612 := od_ (p := x10_1 < (l1.length : Int)); obtain ⟨ad612, e612, hx612_0, hx612_1, hx612_2⟩ := tr3_ HB.out (at_T85 HR1.out x10_1 p612 q612); obtain rfl : ad609 = ad612 := (by injection e612); replace p612 := eq_true p612; replace q612 := eq_true q612; have hq0_ : w18.cell? ⟨gb611, 0, none⟩ = some (.int .i64 ((rd_T54 l0_2 ((rd_T85 l1 x10_1).f0)).f0)) := (blk_cell BK611.out 0).trans rfl; have hq1_ : w18.cell? ⟨gb611, 1, none⟩ = some (.int .i64 ((rd_T54 l0_2 ((rd_T85 l1 x10_1).f0)).f1)) := (blk_cell BK611.out 1).trans rfl; have hq2_ : w18.cell? ⟨gb611, 2, none⟩ = some (.int .i64 ((rd_T54 l0_2 ((rd_T85 l1 x10_1).f0)).f2)) := (blk_cell BK611.out 2).trans rfl; have hq3_ : w18.cell? ⟨gb611, 3, none⟩ = some (.int .i64 ((rd_T54 l0_2 ((rd_T85 l1 x10_1).f0)).f3)) := (blk_cell BK611.out 3).trans rfl; go_quiet (fail); replace BK608 := am_ (blk_drewN BK608.out nq); replace BK611 := am_ (blk_drewN BK611.out nq); replace HB := am_ (pw_below_drewN HB.out nq); generalize w18.drewN nq = w19 at BK608 BK611 HB ⊢
      try go_wp2
      go_meet
      case rel => exact ⟨_, (decide ((wrap64 (((rd_T85 l1 x10_1).f1) + ((rd_T54 l0_2 ((rd_T85 l1 x10_1).f0)).f3))) ≤ a3)), rs_, H', ⟨by have := HK1.out; first | omega | exact Nat.le_refl _⟩, ⟨bq_ BK608.out⟩, ⟨bq_ BK611.out⟩, ⟨hb_⟩⟩
     ·rw [if_neg c17] at H
      obtain ⟨c17b0, c17b1⟩ := neb_ c17
      (first | rw [c17b0] | (simp only [i64_w, i32_w]; rw [c17b0]) | skip)
      have H' := am_ H; clear H
      try go_wp2
      have n0_ : Aside0 (((((w12.setCell ⟨gb611, 0, none⟩ (.int .i64 ((rd_T54 l0_2 ((rd_T85 l1 x10_1).f0)).f0))).setCell ⟨gb611, 1, none⟩ (.int .i64 ((rd_T54 l0_2 ((rd_T85 l1 x10_1).f0)).f1))).setCell ⟨gb611, 2, none⟩ (.int .i64 ((rd_T54 l0_2 ((rd_T85 l1 x10_1).f0)).f2))).setCell ⟨gb611, 3, none⟩ (.int .i64 ((rd_T54 l0_2 ((rd_T85 l1 x10_1).f0)).f3))).heap[gb608]? = some (.cells #[.int .i64 a0_0, .bool a0_1, .slice (some ad610) l0_2.length c0_2] 24 (0, 0))) := ⟨by refine bq_ ?_; refine blk_far ?_ NB608_611.out _; refine bq_ ?_; refine blk_far ?_ NB608_611.out _; refine bq_ ?_; refine blk_far ?_ NB608_611.out _; refine bq_ ?_; refine blk_far ?_ NB608_611.out _; refine bq_ ?_; exact BK608.out⟩; have n1_ : Aside0 (((((w12.setCell ⟨gb611, 0, none⟩ (.int .i64 ((rd_T54 l0_2 ((rd_T85 l1 x10_1).f0)).f0))).setCell ⟨gb611, 1, none⟩ (.int .i64 ((rd_T54 l0_2 ((rd_T85 l1 x10_1).f0)).f1))).setCell ⟨gb611, 2, none⟩ (.int .i64 ((rd_T54 l0_2 ((rd_T85 l1 x10_1).f0)).f2))).setCell ⟨gb611, 3, none⟩ (.int .i64 ((rd_T54 l0_2 ((rd_T85 l1 x10_1).f0)).f3))).heap[gb611]? = some (.cells #[.int .i64 ((rd_T54 l0_2 ((rd_T85 l1 x10_1).f0)).f0), .int .i64 ((rd_T54 l0_2 ((rd_T85 l1 x10_1).f0)).f1), .int .i64 ((rd_T54 l0_2 ((rd_T85 l1 x10_1).f0)).f2), .int .i64 ((rd_T54 l0_2 ((rd_T85 l1 x10_1).f0)).f3)] 54 (0, 0))) := ⟨by refine bq_ ?_; refine blk_put (cs := #[.int .i64 ((rd_T54 l0_2 ((rd_T85 l1 x10_1).f0)).f0), .int .i64 ((rd_T54 l0_2 ((rd_T85 l1 x10_1).f0)).f1), .int .i64 ((rd_T54 l0_2 ((rd_T85 l1 x10_1).f0)).f2), .int .i64 0]) ?_ 3 _ rfl; refine bq_ ?_; refine blk_put (cs := #[.int .i64 ((rd_T54 l0_2 ((rd_T85 l1 x10_1).f0)).f0), .int .i64 ((rd_T54 l0_2 ((rd_T85 l1 x10_1).f0)).f1), .int .i64 0, .int .i64 0]) ?_ 2 _ rfl; refine bq_ ?_; refine blk_put (cs := #[.int .i64 ((rd_T54 l0_2 ((rd_T85 l1 x10_1).f0)).f0), .int .i64 0, .int .i64 0, .int .i64 0]) ?_ 1 _ rfl; refine bq_ ?_; refine blk_put (cs := #[.int .i64 0, .int .i64 0, .int .i64 0, .int .i64 0]) ?_ 0 _ rfl; refine bq_ ?_; exact BK611.out⟩; have n2_ : Aside0 (Below w.heap.size w ((((w12.setCell ⟨gb611, 0, none⟩ (.int .i64 ((rd_T54 l0_2 ((rd_T85 l1 x10_1).f0)).f0))).setCell ⟨gb611, 1, none⟩ (.int .i64 ((rd_T54 l0_2 ((rd_T85 l1 x10_1).f0)).f1))).setCell ⟨gb611, 2, none⟩ (.int .i64 ((rd_T54 l0_2 ((rd_T85 l1 x10_1).f0)).f2))).setCell ⟨gb611, 3, none⟩ (.int .i64 ((rd_T54 l0_2 ((rd_T85 l1 x10_1).f0)).f3)))) := ⟨hb_⟩
      (try clear BK608)
      (try clear BK611)
      (try clear HB)
      generalize ((((w12.setCell ⟨gb611, 0, none⟩ (.int .i64 ((rd_T54 l0_2 ((rd_T85 l1 x10_1).f0)).f0))).setCell ⟨gb611, 1, none⟩ (.int .i64 ((rd_T54 l0_2 ((rd_T85 l1 x10_1).f0)).f1))).setCell ⟨gb611, 2, none⟩ (.int .i64 ((rd_T54 l0_2 ((rd_T85 l1 x10_1).f0)).f2))).setCell ⟨gb611, 3, none⟩ (.int .i64 ((rd_T54 l0_2 ((rd_T85 l1 x10_1).f0)).f3))) = w20 at n0_ n1_ n2_ ⊢; have BK608 := n0_; have BK611 := n1_; have HB := n2_; clear n0_ n1_ n2_; have hq0_ : w20.cell? ⟨gb611, 0, none⟩ = some (.int .i64 ((rd_T54 l0_2 ((rd_T85 l1 x10_1).f0)).f0)) := (blk_cell BK611.out 0).trans rfl; have hq1_ : w20.cell? ⟨gb611, 1, none⟩ = some (.int .i64 ((rd_T54 l0_2 ((rd_T85 l1 x10_1).f0)).f1)) := (blk_cell BK611.out 1).trans rfl; have hq2_ : w20.cell? ⟨gb611, 2, none⟩ = some (.int .i64 ((rd_T54 l0_2 ((rd_T85 l1 x10_1).f0)).f2)) := (blk_cell BK611.out 2).trans rfl; have hq3_ : w20.cell? ⟨gb611, 3, none⟩ = some (.int .i64 ((rd_T54 l0_2 ((rd_T85 l1 x10_1).f0)).f3)) := (blk_cell BK611.out 3).trans rfl; go_quiet (fail); replace BK608 := am_ (blk_drewN BK608.out nq); replace BK611 := am_ (blk_drewN BK611.out nq); replace HB := am_ (pw_below_drewN HB.out nq); generalize w20.drewN nq = w21 at BK608 BK611 HB ⊢
      try go_wp2
      go_meet
      case rel => exact ⟨_, (false), rs_, H', ⟨by have := HK1.out; first | omega | exact Nat.le_refl _⟩, ⟨bq_ BK608.out⟩, ⟨bq_ BK611.out⟩, ⟨hb_⟩⟩
    case rest =>
     clear HC10
     try clear c1
     try clear p2
     try clear c5
     try clear c6
     try clear c6b0
     try clear p6
     try clear q6
     try clear hx6
     try clear c7
     try clear c7b0
     try clear c8
     try clear c8b0
     try clear c9
     try clear c9b0
     try clear c17
     try clear c17b0
     try clear c17b1
     try clear hx609_0
     try clear hx609_1
     try clear hx609_2
     try clear hx610_0
     try clear hx610_1
     try clear hx610_2
     try clear hx610_3
     try clear hx612_0
     try clear hx612_1
     try clear hx612_2
     try clear p2
     try clear p609
     try clear p610
     try clear p612
     try clear q609
     try clear q610
     try clear q612
     obtain ⟨kq, x42_9, rfl, HA, HJ9, BK608, BK611, HB⟩ := hcut
     cases kq with
     | zero => exact absurd HA.out (by simp [ebbtideref14_Stock.j1])
     | succ kj9 =>
      have H := HA.out; clear HA; simp only [ebbtideref14_Stock.j1] at H
      by_cases c22 : x42_9 = true
      ·subst c22
       have H1 : (if 0 ≤ x10_1 then (if x10_1 < (l1.length : Int) then (if ((rd_T54 l0_2 ((rd_T85 l1 x10_1).f0)).f0) = a2 then (if ((rd_T85 l1 x10_1).f1) ≤ a3 then (ebbtideref14_Stock.l0 kj9 l1 a2 a3 (wrap64 ((wrap64 (x9_1 + ((rd_T85 l1 x10_1).f2))) - ((rd_T85 l1 x10_1).f2))) (wrap64 (x10_1 + 1)) a0_0 a0_1 l0_2) else (ebbtideref14_Stock.l0 kj9 l1 a2 a3 (wrap64 (x9_1 + ((rd_T85 l1 x10_1).f2))) (wrap64 (x10_1 + 1)) a0_0 a0_1 l0_2)) else (ebbtideref14_Stock.l0 kj9 l1 a2 a3 (wrap64 (x9_1 + ((rd_T85 l1 x10_1).f2))) (wrap64 (x10_1 + 1)) a0_0 a0_1 l0_2)) else (none)) else (none)) = some r := by rw [if_pos rfl] at H; exact H
       clear H; have H := H1; clear H1
       replace H := ifn_ H; obtain ⟨c23, H⟩ := H
       have c23b0 := decide_eq_true c23; clear c23
       replace H := ifn_ H; obtain ⟨c24, H⟩ := H
       have c24b0 := decide_eq_true c24; clear c24
       by_cases c25 : ((rd_T54 l0_2 ((rd_T85 l1 x10_1).f0)).f0) = a2
       ·rw [if_pos c25] at H
        obtain ⟨c25b0, c25b1⟩ := eqb_ c25; clear c25
        by_cases c26 : ((rd_T85 l1 x10_1).f1) ≤ a3
        ·rw [if_pos c26] at H
         have c26b0 := decide_eq_true c26; clear c26; have H' := am_ H; clear H; have p613 := od_ (p := 0 ≤ (x10_1 : Int)); have q613 := od_ (p := x10_1 < (l1.length : Int)); obtain ⟨ad613, e613, hx613_0, hx613_1, hx613_2⟩ := tr3_ HB.out (at_T85 HR1.out x10_1 p613 q613); obtain rfl : ad609 = ad613 := (by injection e613); replace p613 := eq_true p613; replace q613 := eq_true q613; have hnb27 := NB611_608.out; have hnc27 := NB608_611.out; obtain ⟨hcz28_0, hcz28_1, hcz28_2, hcz28_3, hfz28_0, hfz28_1, hfz28_2, hfz28_3⟩ := cf4_ BK611.out; go_wp2
         go_roundg kj9
         case measure => have := HK1.out; have := HJ9.out; omega
         case rel => exact ⟨(wrap64 ((wrap64 (x9_1 + ((rd_T85 l1 x10_1).f2))) - ((rd_T85 l1 x10_1).f2))), (wrap64 (x10_1 + 1)), rs_, rs_, H', ⟨by have := HK1.out; have := HJ9.out; omega⟩, ⟨bq_ BK608.out⟩, ⟨hb_⟩⟩
        ·rw [if_neg c26] at H
         have c26b0 := decide_eq_false c26; clear c26; have H' := am_ H; clear H; have p613 := od_ (p := 0 ≤ (x10_1 : Int)); have q613 := od_ (p := x10_1 < (l1.length : Int)); obtain ⟨ad613, e613, hx613_0, hx613_1, hx613_2⟩ := tr3_ HB.out (at_T85 HR1.out x10_1 p613 q613); obtain rfl : ad609 = ad613 := (by injection e613); replace p613 := eq_true p613; replace q613 := eq_true q613; have hnb29 := NB611_608.out; have hnc29 := NB608_611.out; obtain ⟨hcz30_0, hcz30_1, hcz30_2, hcz30_3, hfz30_0, hfz30_1, hfz30_2, hfz30_3⟩ := cf4_ BK611.out; go_wp2
         go_roundg kj9
         case measure => have := HK1.out; have := HJ9.out; omega
         case rel => exact ⟨(wrap64 (x9_1 + ((rd_T85 l1 x10_1).f2))), (wrap64 (x10_1 + 1)), rs_, rs_, H', ⟨by have := HK1.out; have := HJ9.out; omega⟩, ⟨bq_ BK608.out⟩, ⟨hb_⟩⟩
       ·rw [if_neg c25] at H
        obtain ⟨c25b0, c25b1⟩ := neb_ c25; have H' := am_ H; clear H; have p613 := od_ (p := 0 ≤ (x10_1 : Int)); have q613 := od_ (p := x10_1 < (l1.length : Int)); obtain ⟨ad613, e613, hx613_0, hx613_1, hx613_2⟩ := tr3_ HB.out (at_T85 HR1.out x10_1 p613 q613); obtain rfl : ad609 = ad613 := (by injection e613); replace p613 := eq_true p613; replace q613 := eq_true q613; have hnb31 := NB611_608.out; have hnc31 := NB608_611.out; obtain ⟨hcz32_0, hcz32_1, hcz32_2, hcz32_3, hfz32_0, hfz32_1, hfz32_2, hfz32_3⟩ := cf4_ BK611.out
        go_wp2
        go_roundg kj9
        case measure => have := HK1.out; have := HJ9.out; omega
        case rel => exact ⟨(wrap64 (x9_1 + ((rd_T85 l1 x10_1).f2))), (wrap64 (x10_1 + 1)), rs_, rs_, H', ⟨by have := HK1.out; have := HJ9.out; omega⟩, ⟨bq_ BK608.out⟩, ⟨hb_⟩⟩
      ·replace c22 := Bool.eq_false_iff.mpr c22
       subst c22
       have H1 : (if ((rd_T54 l0_2 ((rd_T85 l1 x10_1).f0)).f0) = a2 then (if 0 ≤ x10_1 then (if x10_1 < (l1.length : Int) then (if ((rd_T85 l1 x10_1).f1) ≤ a3 then (ebbtideref14_Stock.l0 kj9 l1 a2 a3 (wrap64 (x9_1 - ((rd_T85 l1 x10_1).f2))) (wrap64 (x10_1 + 1)) a0_0 a0_1 l0_2) else (ebbtideref14_Stock.l0 kj9 l1 a2 a3 x9_1 (wrap64 (x10_1 + 1)) a0_0 a0_1 l0_2)) else (none)) else (none)) else (ebbtideref14_Stock.l0 kj9 l1 a2 a3 x9_1 (wrap64 (x10_1 + 1)) a0_0 a0_1 l0_2)) = some r := by rw [if_neg (show ¬ (false = true) by decide)] at H; exact H
       clear H; have H := H1; clear H1
       by_cases c33 : ((rd_T54 l0_2 ((rd_T85 l1 x10_1).f0)).f0) = a2
       ·rw [if_pos c33] at H
        obtain ⟨c33b0, c33b1⟩ := eqb_ c33; clear c33
        replace H := ifn_ H; obtain ⟨c34, H⟩ := H
        have c34b0 := decide_eq_true c34; clear c34
        replace H := ifn_ H; obtain ⟨c35, H⟩ := H
        have c35b0 := decide_eq_true c35; clear c35
        by_cases c36 : ((rd_T85 l1 x10_1).f1) ≤ a3
        ·rw [if_pos c36] at H
         have c36b0 := decide_eq_true c36; clear c36; have H' := am_ H; clear H; have hnb37 := NB611_608.out; have hnc37 := NB608_611.out; obtain ⟨hcz38_0, hcz38_1, hcz38_2, hcz38_3, hfz38_0, hfz38_1, hfz38_2, hfz38_3⟩ := cf4_ BK611.out; have p616 := od_ (p := 0 ≤ (x10_1 : Int)); have q616 := od_ (p := x10_1 < (l1.length : Int)); obtain ⟨ad616, e616, hx616_0, hx616_1, hx616_2⟩ := tr3_ HB.out (at_T85 HR1.out x10_1 p616 q616); obtain rfl : ad609 = ad616 := (by injection e616); replace p616 := eq_true p616; replace q616 := eq_true q616; go_wp2
         go_roundg kj9
         case measure => have := HK1.out; have := HJ9.out; omega
         case rel => exact ⟨(wrap64 (x9_1 - ((rd_T85 l1 x10_1).f2))), (wrap64 (x10_1 + 1)), rs_, rs_, H', ⟨by have := HK1.out; have := HJ9.out; omega⟩, ⟨bq_ BK608.out⟩, ⟨hb_⟩⟩
        ·rw [if_neg c36] at H
         have c36b0 := decide_eq_false c36; clear c36; have H' := am_ H; clear H; have hnb39 := NB611_608.out; have hnc39 := NB608_611.out; obtain ⟨hcz40_0, hcz40_1, hcz40_2, hcz40_3, hfz40_0, hfz40_1, hfz40_2, hfz40_3⟩ := cf4_ BK611.out; have p616 := od_ (p := 0 ≤ (x10_1 : Int)); have q616 := od_ (p := x10_1 < (l1.length : Int)); obtain ⟨ad616, e616, hx616_0, hx616_1, hx616_2⟩ := tr3_ HB.out (at_T85 HR1.out x10_1 p616 q616); obtain rfl : ad609 = ad616 := (by injection e616); replace p616 := eq_true p616; replace q616 := eq_true q616
         go_wp2
         go_roundg kj9
         case measure => have := HK1.out; have := HJ9.out; omega
         case rel => exact ⟨(x9_1), (wrap64 (x10_1 + 1)), rs_, rs_, H', ⟨by have := HK1.out; have := HJ9.out; omega⟩, ⟨bq_ BK608.out⟩, ⟨hb_⟩⟩
       ·rw [if_neg c33] at H
        obtain ⟨c33b0, c33b1⟩ := neb_ c33; have H' := am_ H; clear H; have hnb41 := NB611_608.out; have hnc41 := NB608_611.out; obtain ⟨hcz42_0, hcz42_1, hcz42_2, hcz42_3, hfz42_0, hfz42_1, hfz42_2, hfz42_3⟩ := cf4_ BK611.out
        go_wp2
        go_roundg kj9
        case measure => have := HK1.out; have := HJ9.out; omega
        case rel => exact ⟨(x9_1), (wrap64 (x10_1 + 1)), rs_, rs_, H', ⟨by have := HK1.out; have := HJ9.out; omega⟩, ⟨bq_ BK608.out⟩, ⟨hb_⟩⟩
   ·rw [if_neg c6] at H
    have c6b0 := decide_eq_false c6; clear c6; obtain rfl := Option.some.inj H
    go_wp2
    go_ret
    exact ⟨er_, hb_⟩
mutual
def ebbtideref14_Stocks.l0 : Nat → Int → List (S85) → List (List Int) → Int → Int → Bool → List (S54) → Option ((List (List Int)) × Int)
 | 0, _, _, _, _, _, _, _ => none
 | k + 1, x3, x12, x14, x15, x619000, x619001, x619002 => if x15 ≤ x3 then (ebbtideref14_Stocks.l1 k x3 x12 x14 x15 ([] : List Int) 0 x619000 x619001 x619002) else (some (x14, 0))
def ebbtideref14_Stocks.l1 : Nat → Int → List (S85) → List (List Int) → Int → List Int → Int → Int → Bool → List (S54) → Option ((List (List Int)) × Int)
 | 0, _, _, _, _, _, _, _, _, _ => none
 | k + 1, x3, x12, x14, x15, x16, x17, x619000, x619001, x619002 => if x17 < x619000 then ((ebbtideref14_Stock.f k x619000 x619001 x619002 x12 x17 x15).bind fun t623 => (if x16.length < 17592186044416 then (ebbtideref14_Stocks.l1 k x3 x12 x14 x15 (x16 ++ [t623]) (wrap64 (x17 + 1)) x619000 x619001 x619002) else (none))) else (if x14.length < 5864062014805 then (ebbtideref14_Stocks.l0 k x3 x12 (x14 ++ [x16]) (wrap64 (x15 + 1)) x619000 x619001 x619002) else (none))
end
def ebbtideref14_Stocks.f (k : Nat) (a0_0 : Int) (a0_1 : Bool) (l0_2 : List (S54)) (a1 : Int) (a2 : Int) (a3 : Int) (l4 : List (S85)) : Option ((List (List Int)) × Int) := (ebbtideref14_Merged.f k a0_0 a0_1 l0_2 a1 a2 a3 l4).bind fun bt619 => (if bt619.2 = 0 then (ebbtideref14_Stocks.l0 k a3 bt619.1 ([] : List (List Int)) 0 a0_0 a0_1 l0_2) else (some (([] : List (List Int)), bt619.2)))
set_option maxHeartbeats 8000000 in
set_option maxRecDepth 100000 in
theorem ebbtideref14_Stocks.calls (k : Nat) (a0_0 : Int) (a0_1 : Bool) (A0_2 : Option Addr) (c0_2 : Nat) (l0_2 : List (S54)) (a1 : Int) (a2 : Int) (a3 : Int) (A4 : Option Addr) (c4 : Nat) (l4 : List (S85)) (r1 : List (List Int)) (r2 : Int) (w : World) (hr0_2 : Kd.C k54 w A0_2 l0_2.length l0_2) (hc0_2 : l0_2.length ≤ c0_2) (hr4 : Kd.C k85 w A4 l4.length l4) (hc4 : l4.length ≤ c4) (h : ebbtideref14_Stocks.f k a0_0 a0_1 l0_2 a1 a2 a3 l4 = some (r1, r2)) :
  Calls Try.prog 47 #[.agg #[.int .i64 a0_0, .bool a0_1, .slice A0_2 l0_2.length c0_2], .int .i64 a1, .int .i64 a2, .int .i64 a3, .slice A4 l4.length c4] w fun e w' => ∃ v0_ : Value, e = .returned (.tuple #[v0_, .int .i64 r2]) ∧ Kd.S (Kd.slice 3 (Kd.int .i64)) 42 w' w.heap.size (fun _ => True) v0_ r1 ∧ Below w.heap.size w w' := by
 have hu24 := Try.underlying24; have HR0_2 := am_ hr0_2; have HC0_2 := am_ hc0_2; clear hr0_2 hc0_2; have HR4 := am_ hr4; have HC4 := am_ hc4; clear hr4 hc4; have HB := am_ (Below.refl w.heap.size w); have H : ((ebbtideref14_Merged.f k a0_0 a0_1 l0_2 a1 a2 a3 l4).bind fun bt619 => (if bt619.2 = 0 then (ebbtideref14_Stocks.l0 k a3 bt619.1 ([] : List (List Int)) 0 a0_0 a0_1 l0_2) else (some (([] : List (List Int)), bt619.2)))) = some (r1, r2) := h; clear h; replace H := Option.bind_eq_some_iff.mp H; obtain ⟨⟨t619, t622⟩, A60, H⟩ := H; replace H : (if t622 = 0 then (ebbtideref14_Stocks.l0 k a3 t619 ([] : List (List Int)) 0 a0_0 a0_1 l0_2) else (some (([] : List (List Int)), t622))) = some (r1, r2) := H; have A6 := am_ A60; clear A60
 by_cases c7 : t622 = 0
 ·rw [if_pos c7] at H
  obtain ⟨c7b0, c7b1⟩ := eqb_ c7; clear c7; have H' := am_ H; clear H
  go_enter Try.func47, Try.ntmps47
  go_wp2_with (first | ((with_reducible refine gate_dst (N := 5) rfl ?_); refine bx_ 5 #[.int .i64 a0_0, .bool a0_1, .slice A0_2 l0_2.length c0_2] 24 ?_; intro gb618 hg w8 BK618 hb; have GE618 := ge_ (w := w) hg; replace HB := hst_ hb; clear hb hg; obtain ⟨hcz9_0, hcz9_1, hcz9_2, hfz9_0, hfz9_1, hfz9_2⟩ := cf3_ BK618.out) | ((with_reducible refine gate_callee (f := 51) rfl ?_); refine cl_ 24 Try.func51 (ebbtideref14_Merged.calls k a0_0 a0_1 _ _ l0_2 a1 a2 a3 _ _ l4 t619 t622 _ (cb_ HR0_2.out) HC0_2.out (cb_ HR4.out) HC4.out A6.out) ?_; rintro e w10 ⟨v620, rfl, ho0, hb⟩; refine ⟨_, rfl, ?_⟩; have HO621 := am_ (Kd.R_lower ho0 (below_size hb_)); replace BK618 := am_ (bb_ BK618.out hb); replace HB := hst_ hb; (try clear hb); (try clear hb2); (try clear hk); (try clear hi); (try clear ho0)))
  go_loopg [14, 15] k (fun kq v14 v15 w' => ∃ (x14_1 : List (List Int)) (x15_1 : Int), v15 = .int .i64 x15_1 ∧ Aside0 (ebbtideref14_Stocks.l0 kq a3 t619 x14_1 x15_1 a0_0 a0_1 l0_2 = some (r1, r2)) ∧ Aside0 (kq ≤ k) ∧ Aside0 (Kd.R k85 85 w' w.heap.size (fun _ => True) v620 t619) ∧ Aside0 (Kd.S (Kd.slice 3 (Kd.int .i64)) 42 w' w.heap.size (fun _ => True) v14 x14_1) ∧ Aside0 (w'.heap[gb618]? = some (.cells #[.int .i64 a0_0, .bool a0_1, (.slice A0_2 l0_2.length c0_2)] 24 (0, 0))) ∧ Aside0 (Below w.heap.size w w'))
  case atStart => exact ⟨(([] : List (List Int))), (0), rs_, H', ⟨Nat.le_refl _⟩, ⟨rq_ HO621.out⟩, ⟨by first | exact Kd.S_nil _ _ _ _ _ | exact Kd.N_nil _ _ _ _ _ | exact Kd.V_nil _ _ _ _ _ | exact Kd.Q_nil _ _ _ _ _ | exact Kd.R_nil _ _ _ _ _⟩, ⟨bq_ BK618.out⟩, ⟨hb_⟩⟩
  case round =>
   clear H'
   try clear p2
   try clear c4
   try clear c5
   try clear c7
   try clear c7b0
   try clear c7b1
   try clear hcz9_0 hcz9_1 hcz9_2 hfz9_0 hfz9_1 hfz9_2
   obtain ⟨x14_1, x15_1, rfl, HA, HK1, HO_12, HO_14, BK618, HB⟩ := hrel
   cases gk with
   | zero => exact absurd HA.out (by simp [ebbtideref14_Stocks.l0])
   | succ k1 =>
    have H := HA.out; clear HA; simp only [ebbtideref14_Stocks.l0] at H
    by_cases c11 : x15_1 ≤ a3
    ·rw [if_pos c11] at H
     have c11b0 := decide_eq_true c11; clear c11; have H' := am_ H; clear H
     go_wp2
     go_loopg [16, 17] k1 (fun kq v16 v17 w' => ∃ (x16_2 : List Int) (x17_2 : Int), v17 = .int .i64 x17_2 ∧ Aside0 (ebbtideref14_Stocks.l1 kq a3 t619 x14_1 x15_1 x16_2 x17_2 a0_0 a0_1 l0_2 = some (r1, r2)) ∧ Aside0 (kq ≤ k1) ∧ Aside0 (Kd.R k85 85 w' w.heap.size (fun _ => True) v620 t619) ∧ Aside0 (Kd.S (Kd.slice 3 (Kd.int .i64)) 42 w' w.heap.size (fun k_ => some k_ ≠ (v16 : Value).ownBlock) u14 x14_1) ∧ Aside0 (Kd.R (Kd.int .i64) 3 w' w.heap.size (fun _ => True) v16 x16_2) ∧ Aside0 (w'.heap[gb618]? = some (.cells #[.int .i64 a0_0, .bool a0_1, (.slice A0_2 l0_2.length c0_2)] 24 (0, 0))) ∧ Aside0 (Below w.heap.size w w'))
     case atStart => exact ⟨(([] : List Int)), (0), rs_, H', ⟨Nat.le_refl _⟩, ⟨rq_ HO_12.out⟩, ⟨by refine sq_ ?_; exact Kd.S_mono HO_14.out (fun _ hk => (by simp [Value.ownBlock]))⟩, ⟨ni_⟩, ⟨bq_ BK618.out⟩, ⟨hb_⟩⟩
     case round =>
      clear H'
      try clear c1
      try clear p2
      try clear c4
      try clear c5
      try clear c7
      try clear c7b0
      try clear c7b1
      try clear c11
      try clear c11b0
      try clear hcz9_0 hcz9_1 hcz9_2 hfz9_0 hfz9_1 hfz9_2
      try clear p2
      obtain ⟨x16_2, x17_2, rfl, HA, HK2, HO_12, HO_14, HO_16, BK618, HB⟩ := hrel
      cases gk with
      | zero => exact absurd HA.out (by simp [ebbtideref14_Stocks.l1])
      | succ k2 =>
       have H := HA.out; clear HA; simp only [ebbtideref14_Stocks.l1] at H
       by_cases c12 : x17_2 < a0_0
       ·rw [if_pos c12] at H
        have c12b0 := decide_eq_true c12; clear c12; replace H := Option.bind_eq_some_iff.mp H; obtain ⟨t623, A130, H⟩ := H; replace H : (if x16_2.length < 17592186044416 then (ebbtideref14_Stocks.l1 k2 a3 t619 x14_1 x15_1 (x16_2 ++ [t623]) (wrap64 (x17_2 + 1)) a0_0 a0_1 l0_2) else (none)) = some (r1, r2) := H; have A13 := am_ A130; clear A130
        replace H := ifn_ H; obtain ⟨c14, H⟩ := H
        have LMc14 := am_ c14; clear c14; obtain ⟨y624, hy_⟩ : ∃ y_ : List Int, y_ = (x16_2 ++ [t623]) := ⟨_, rfl⟩
        replace H : (ebbtideref14_Stocks.l1 k2 a3 t619 x14_1 x15_1 y624 (wrap64 (x17_2 + 1)) a0_0 a0_1 l0_2) = some (r1, r2) := hyH_
        have Ny624 := am_ hy_; clear hy_; have H' := am_ H; clear H; obtain ⟨hcz15_0, hcz15_1, hcz15_2, hfz15_0, hfz15_1, hfz15_2⟩ := cf3_ BK618.out; obtain ⟨Ao16, co16, eo16⟩ := Kd.R_slice HO_12.out; subst eo16
        go_wp2_with (first | ((with_reducible refine gate_callee (f := 52) rfl ?_); refine goesL_ (some 46) rfl rfl Try.func52 (by kernel_rfl) rfl #[.agg #[.int .i64 a0_0, .bool a0_1, .slice A0_2 l0_2.length c0_2], .slice Ao16 t619.length co16, .int .i64 x17_2, .int .i64 x15_1] rfl mt_ ?_; (with_reducible refine (ebbtideref14_Stock.calls k2 a0_0 a0_1 _ _ l0_2 _ _ t619 x17_2 x15_1 t623 _ ?side1 ?side2 ?side3 ?side4 A13.out).mono ?_); (case side1 => exact cb_ HR0_2.out); (case side2 => exact HC0_2.out); (case side3 => repeat (first | exact (Kd.R_reads' HO_12.out).2.2 | (with_reducible refine Kd.C_alloc ?_ _) | (with_reducible refine Kd.C_drewN ?_ _) | (with_reducible refine Kd.C_drew ?_))); (case side4 => exact (Kd.R_reads' HO_12.out).2.1); rintro e w17 ⟨rfl, hb⟩; refine ⟨_, rfl, ?_⟩; replace HO_12 := am_ (Kd.R_below (rq_ HO_12.out) hb); replace HO_14 := am_ (Kd.S_below (sq_ HO_14.out) hb); replace HO_16 := am_ (Kd.R_below (rq_ HO_16.out) hb); replace BK618 := am_ (bb_ BK618.out hb); replace HB := hst_ hb; (try clear hb); (try clear hb2); (try clear hk); (try clear hi)) | ((with_reducible refine gate_builtin (b := .append) (xs := #[.tmp 41, .tmp 47]) rfl ?_); at_builtin; refine Kd.R_append (Kd.int .i64) (w0 := w) w.heap.size rfl (.tmp 41) (.tmp 47) 42 3 (.int .i64 0) 8 rfl Try.underlying42 info3 rfl (by decide) (by omega) u16 x16_2 t623 [.int .i64 t623] (fun _ => True) (fun _ => False) rfl rfl ?aP (fun _ hk => hk.elim) ?aF ?aO ?aB ?aS ?aL ?_; (case aP => exact rfl); (case aB => exact hb_); (case aF => exact (fun _ _ => trivial)); (case aO => exact (rq_ HO_16.out)); (case aS => exact (below_size hb_)); (case aL => have := LMc14.out; omega); intro v625 w18 ho hb hg hat; rw [← Ny624.out] at ho; replace HO_12 := am_ (Kd.R_over' (rq_ HO_12.out) (Kd.R_typed (rq_ HO_16.out)) (by decide) hg); replace HO_14 := am_ (Kd.S_after (ok := (fun _ => True)) (by refine sq_ ?_; exact Kd.S_mono HO_14.out (fun _ hk => ⟨trivial, hk⟩)) hg hat); replace BK618 := am_ (bg_ BK618.out hg (Kd.R_ne HO_16.out BK618.out (by decide))); replace HB := am_ (hb); have HO626 := am_ (ho); clear HO_16; clear ho hb hg hat))
        go_roundg k2
        case measure => have := HK1.out; have := HK2.out; omega
        case rel => exact ⟨(y624), (wrap64 (x17_2 + 1)), rs_, H', ⟨by have := HK1.out; have := HK2.out; omega⟩, ⟨rq_ HO_12.out⟩, ⟨by refine sq_ ?_; exact Kd.S_mono HO_14.out (fun _ hk => hk.2)⟩, ⟨rq_ HO626.out⟩, ⟨bq_ BK618.out⟩, ⟨hb_⟩⟩
       ·rw [if_neg c12] at H
        have c12b0 := decide_eq_false c12; clear c12
        replace H := ifn_ H; obtain ⟨c19, H⟩ := H
        have LMc19 := am_ c19; clear c19; obtain ⟨y627, hy_⟩ : ∃ y_ : List (List Int), y_ = (x14_1 ++ [x16_2]) := ⟨_, rfl⟩
        replace H : (ebbtideref14_Stocks.l0 k2 a3 t619 y627 (wrap64 (x15_1 + 1)) a0_0 a0_1 l0_2) = some (r1, r2) := hyH_
        have Ny627 := am_ hy_; clear hy_; have H' := am_ H; clear H; obtain ⟨hcz20_0, hcz20_1, hcz20_2, hfz20_0, hfz20_1, hfz20_2⟩ := cf3_ BK618.out; obtain ⟨Ao22, co22, eo22⟩ := Kd.R_slice HO_16.out; subst eo22
        go_wp2_with (first | ((with_reducible refine gate_builtin (b := .append) (xs := #[.tmp 49, .tmp 51]) rfl ?_); at_builtin; refine Kd.S_append (Kd.slice 3 (Kd.int .i64)) (w0 := w) w.heap.size rfl (.tmp 49) (.tmp 51) 92 42 (.slice none 0 0) 24 rfl Try.underlying92 info42 rfl (by decide) (by omega) u14 x14_1 x16_2 [.slice Ao22 x16_2.length co22] (fun _ => True) (fun k_ => some k_ = (.slice Ao22 x16_2.length co22 : Value).ownBlock) rfl rfl ?aP (fun k_ hk_ => ((Kd.R_mono (ok' := fun k_ => ((fun _ => True)) k_ ∧ some k_ ≠ (u14 : Value).ownBlock) (Kd.R_apart' (HO_16.out) (Kd.S_typed HO_14.out) (by decide)) (fun k_ hk => ⟨trivial, hk.2⟩))).1 k_ hk_.symm) ?aF ?aO ?aB ?aS ?aL ?_; (case aP => exact Kd.M_row (Kd.R_mono (Kd.R_tight rfl (Kd.R_mono (ok' := fun k_ => ((fun _ => True)) k_ ∧ some k_ ≠ (u14 : Value).ownBlock) (Kd.R_apart' (HO_16.out) (Kd.S_typed HO_14.out) (by decide)) (fun k_ hk => ⟨trivial, hk.2⟩))) (fun _ h_ => h_))); (case aB => exact hb_); (case aF => exact (fun _ _ => trivial)); (case aO => exact (by refine sq_ ?_; exact Kd.S_mono HO_14.out (fun k_ hk => ⟨trivial, fun e_ => hk e_⟩))); (case aS => exact (below_size hb_)); (case aL => have := LMc19.out; omega); intro v628 w21 ho hb hg hat; rw [← Ny627.out] at ho; replace HO_12 := am_ (Kd.R_over' (rq_ HO_12.out) (Kd.S_typed (sq_ HO_14.out)) (by decide) hg); replace BK618 := am_ (bg_ BK618.out hg (Kd.S_ne HO_14.out BK618.out (by decide))); replace HB := am_ (hb); have HO629 := am_ (ho); clear HO_14 HO_16; clear ho hb hg hat))
        go_roundg k2
        case measure => have := HK1.out; have := HK2.out; omega
        case rel => exact ⟨(y627), (wrap64 (x15_1 + 1)), rs_, H', ⟨by have := HK1.out; have := HK2.out; omega⟩, ⟨rq_ HO_12.out⟩, ⟨sq_ HO629.out⟩, ⟨bq_ BK618.out⟩, ⟨hb_⟩⟩
    ·rw [if_neg c11] at H
     have c11b0 := decide_eq_false c11; clear c11; simp only [Option.some.injEq, Prod.mk.injEq] at H; obtain ⟨rfl, rfl⟩ := H
     go_wp2
     go_ret2
     exact ⟨_, er_, by refine sq_ ?_; exact HO_14.out, hb_⟩
 ·rw [if_neg c7] at H
  obtain ⟨c7b0, c7b1⟩ := neb_ c7; simp only [Option.some.injEq, Prod.mk.injEq] at H; obtain ⟨rfl, rfl⟩ := H
  go_enter Try.func47, Try.ntmps47
  go_wp2_with (first | ((with_reducible refine gate_dst (N := 5) rfl ?_); refine bx_ 5 #[.int .i64 a0_0, .bool a0_1, .slice A0_2 l0_2.length c0_2] 24 ?_; intro gb618 hg w23 BK618 hb; have GE618 := ge_ (w := w) hg; replace HB := hst_ hb; clear hb hg; obtain ⟨hcz24_0, hcz24_1, hcz24_2, hfz24_0, hfz24_1, hfz24_2⟩ := cf3_ BK618.out) | ((with_reducible refine gate_callee (f := 51) rfl ?_); refine cl_ 24 Try.func51 (ebbtideref14_Merged.calls k a0_0 a0_1 _ _ l0_2 a1 a2 a3 _ _ l4 t619 t622 _ (cb_ HR0_2.out) HC0_2.out (cb_ HR4.out) HC4.out A6.out) ?_; rintro e w25 ⟨v620, rfl, ho0, hb⟩; refine ⟨_, rfl, ?_⟩; have HO621 := am_ (Kd.R_lower ho0 (below_size hb_)); replace BK618 := am_ (bb_ BK618.out hb); replace HB := hst_ hb; (try clear hb); (try clear hb2); (try clear hk); (try clear hi); (try clear ho0)))
  go_ret2
  exact ⟨_, er_, by first | exact Kd.S_nil _ _ _ _ _ | exact Kd.N_nil _ _ _ _ _ | exact Kd.V_nil _ _ _ _ _ | exact Kd.Q_nil _ _ _ _ _ | exact Kd.R_nil _ _ _ _ _, hb_⟩
mutual
def ebbtideref14_Check.l0 : Nat → Int → Int → Int → List (List Int) → Int → Int → Bool → List (S54) → Option (Int × Int)
 | 0, _, _, _, _, _, _, _, _ => none
 | k + 1, x1, x2, x3, x12, x14, x631000, x631001, x631002 => if x14 < x631000 then (ebbtideref14_Check.l1 k x1 x2 x3 x12 x14 0 x631000 x631001 x631002) else (if 0 ≤ x3 then (if x3 < (x12.length : Int) then (if 0 ≤ x2 then (if x2 < ((rd_L3 x12 x3).length : Int) then (some (rd (rd_L3 x12 x3) x2, 0)) else (none)) else (none)) else (none)) else (none))
def ebbtideref14_Check.l1 : Nat → Int → Int → Int → List (List Int) → Int → Int → Int → Bool → List (S54) → Option (Int × Int)
 | 0, _, _, _, _, _, _, _, _, _ => none
 | k + 1, x1, x2, x3, x12, x14, x15, x631000, x631001, x631002 => if x15 ≤ x3 then (if x14 = x1 then (ebbtideref14_Check.j2 k x1 x2 x3 x12 x14 x15 false x631000 x631001 x631002) else (ebbtideref14_Check.j2 k x1 x2 x3 x12 x14 x15 (x14 != x2) x631000 x631001 x631002)) else (ebbtideref14_Check.j2 k x1 x2 x3 x12 x14 x15 false x631000 x631001 x631002)
def ebbtideref14_Check.j2 : Nat → Int → Int → Int → List (List Int) → Int → Int → Bool → Int → Bool → List (S54) → Option (Int × Int)
 | 0, _, _, _, _, _, _, _, _, _, _ => none
 | k + 1, x1, x2, x3, x12, x14, x15, x46, x631000, x631001, x631002 => if x46 = true then (if 0 ≤ x15 then (if x15 < (x12.length : Int) then (if 0 ≤ x14 then (if x14 < ((rd_L3 x12 x15).length : Int) then (if (rd (rd_L3 x12 x15) x14) < 0 then (some (0, 141)) else (if (rd (rd_L3 x12 x15) x14) > 0 then (if x631001 = true then (if x15 = x3 then (some (0, 141)) else (ebbtideref14_Check.l1 k x1 x2 x3 x12 x14 (wrap64 (x15 + 1)) x631000 x631001 x631002)) else (some (0, 141))) else (ebbtideref14_Check.l1 k x1 x2 x3 x12 x14 (wrap64 (x15 + 1)) x631000 x631001 x631002))) else (none)) else (none)) else (none)) else (none)) else (ebbtideref14_Check.l0 k x1 x2 x3 x12 (wrap64 (x14 + 1)) x631000 x631001 x631002)
end
def ebbtideref14_Check.f (k : Nat) (a0_0 : Int) (a0_1 : Bool) (l0_2 : List (S54)) (a1 : Int) (a2 : Int) (a3 : Int) (l4 : List (S85)) : Option (Int × Int) := (ebbtideref14_Stocks.f k a0_0 a0_1 l0_2 a1 a2 a3 l4).bind fun bt631 => (if bt631.2 = 0 then (ebbtideref14_Check.l0 k a1 a2 a3 bt631.1 0 a0_0 a0_1 l0_2) else (some (0, bt631.2)))
set_option maxHeartbeats 8000000 in
set_option maxRecDepth 100000 in
theorem ebbtideref14_Check.calls (k : Nat) (a0_0 : Int) (a0_1 : Bool) (A0_2 : Option Addr) (c0_2 : Nat) (l0_2 : List (S54)) (a1 : Int) (a2 : Int) (a3 : Int) (A4 : Option Addr) (c4 : Nat) (l4 : List (S85)) (r1 : Int) (r2 : Int) (w : World) (hr0_2 : Kd.C k54 w A0_2 l0_2.length l0_2) (hc0_2 : l0_2.length ≤ c0_2) (hr4 : Kd.C k85 w A4 l4.length l4) (hc4 : l4.length ≤ c4) (h : ebbtideref14_Check.f k a0_0 a0_1 l0_2 a1 a2 a3 l4 = some (r1, r2)) :
  Calls Try.prog 26 #[.agg #[.int .i64 a0_0, .bool a0_1, .slice A0_2 l0_2.length c0_2], .int .i64 a1, .int .i64 a2, .int .i64 a3, .slice A4 l4.length c4] w fun e w' => e = .returned (.tuple #[.int .i64 r1, .int .i64 r2]) ∧ Below w.heap.size w w' := by
 have hu24 := Try.underlying24; have HR0_2 := am_ hr0_2; have HC0_2 := am_ hc0_2; clear hr0_2 hc0_2; have HR4 := am_ hr4; have HC4 := am_ hc4; clear hr4 hc4; have HB := am_ (Below.refl w.heap.size w); have H : ((ebbtideref14_Stocks.f k a0_0 a0_1 l0_2 a1 a2 a3 l4).bind fun bt631 => (if bt631.2 = 0 then (ebbtideref14_Check.l0 k a1 a2 a3 bt631.1 0 a0_0 a0_1 l0_2) else (some (0, bt631.2)))) = some (r1, r2) := h; clear h; replace H := Option.bind_eq_some_iff.mp H; obtain ⟨⟨t631, t634⟩, A60, H⟩ := H; replace H : (if t634 = 0 then (ebbtideref14_Check.l0 k a1 a2 a3 t631 0 a0_0 a0_1 l0_2) else (some (0, t634))) = some (r1, r2) := H; have A6 := am_ A60; clear A60
 by_cases c7 : t634 = 0
 ·rw [if_pos c7] at H
  obtain ⟨c7b0, c7b1⟩ := eqb_ c7; clear c7; have H' := am_ H; clear H
  go_enter Try.func26, Try.ntmps26
  go_wp2_with (first | ((with_reducible refine gate_dst (N := 5) rfl ?_); refine bx_ 5 #[.int .i64 a0_0, .bool a0_1, .slice A0_2 l0_2.length c0_2] 24 ?_; intro gb630 hg w8 BK630 hb; have GE630 := ge_ (w := w) hg; replace HB := hst_ hb; clear hb hg; obtain ⟨hcz9_0, hcz9_1, hcz9_2, hfz9_0, hfz9_1, hfz9_2⟩ := cf3_ BK630.out) | ((with_reducible refine gate_callee (f := 47) rfl ?_); refine cl_ 22 Try.func47 (ebbtideref14_Stocks.calls k a0_0 a0_1 _ _ l0_2 a1 a2 a3 _ _ l4 t631 t634 _ (cb_ HR0_2.out) HC0_2.out (cb_ HR4.out) HC4.out A6.out) ?_; rintro e w10 ⟨v632, rfl, ho0, hb⟩; refine ⟨_, rfl, ?_⟩; have HO633 := am_ (Kd.S_lower ho0 (below_size hb_)); replace BK630 := am_ (bb_ BK630.out hb); replace HB := hst_ hb; (try clear hb); (try clear hb2); (try clear hk); (try clear hi); (try clear ho0)))
  go_loopg [14] k (fun kq v14 w' => ∃ (x14_1 : Int), v14 = .int .i64 x14_1 ∧ Aside0 (ebbtideref14_Check.l0 kq a1 a2 a3 t631 x14_1 a0_0 a0_1 l0_2 = some (r1, r2)) ∧ Aside0 (kq ≤ k) ∧ Aside0 (Kd.S (Kd.slice 3 (Kd.int .i64)) 42 w' w.heap.size (fun _ => True) v632 t631) ∧ Aside0 (w'.heap[gb630]? = some (.cells #[.int .i64 a0_0, .bool a0_1, (.slice A0_2 l0_2.length c0_2)] 24 (0, 0))) ∧ Aside0 (Below w.heap.size w w'))
  case atStart => exact ⟨(0), rs_, H', ⟨Nat.le_refl _⟩, ⟨sq_ HO633.out⟩, ⟨bq_ BK630.out⟩, ⟨hb_⟩⟩
  case round =>
   clear H'
   try clear c2
   try clear p2
   try clear c4
   try clear c7
   try clear c7b0
   try clear c7b1
   try clear hcz9_0 hcz9_1 hcz9_2 hfz9_0 hfz9_1 hfz9_2
   obtain ⟨x14_1, rfl, HA, HK1, HO_12, BK630, HB⟩ := hrel
   cases gk with
   | zero => exact absurd HA.out (by simp [ebbtideref14_Check.l0])
   | succ k1 =>
    have H := HA.out; clear HA; simp only [ebbtideref14_Check.l0] at H
    by_cases c11 : x14_1 < a0_0
    ·rw [if_pos c11] at H
     have c11b0 := decide_eq_true c11; clear c11; have H' := am_ H; clear H; obtain ⟨hcz12_0, hcz12_1, hcz12_2, hfz12_0, hfz12_1, hfz12_2⟩ := cf3_ BK630.out
     go_wp2
     go_loopg [15] k1 (fun kq v15 w' => ∃ (x15_2 : Int), v15 = .int .i64 x15_2 ∧ Aside0 (ebbtideref14_Check.l1 kq a1 a2 a3 t631 x14_1 x15_2 a0_0 a0_1 l0_2 = some (r1, r2)) ∧ Aside0 (kq ≤ k1) ∧ Aside0 (Kd.S (Kd.slice 3 (Kd.int .i64)) 42 w' w.heap.size (fun _ => True) v632 t631) ∧ Aside0 (w'.heap[gb630]? = some (.cells #[.int .i64 a0_0, .bool a0_1, (.slice A0_2 l0_2.length c0_2)] 24 (0, 0))) ∧ Aside0 (Below w.heap.size w w'))
     case atStart => exact ⟨(0), rs_, H', ⟨Nat.le_refl _⟩, ⟨sq_ HO_12.out⟩, ⟨bq_ BK630.out⟩, ⟨hb_⟩⟩
     case round =>
      clear H'
      try clear c1
      try clear c2
      try clear p2
      try clear c4
      try clear c7
      try clear c7b0
      try clear c7b1
      try clear c11
      try clear c11b0
      try clear hcz12_0 hcz12_1 hcz12_2
      try clear hcz9_0 hcz9_1 hcz9_2
      try clear hfz12_0 hfz12_1 hfz12_2
      try clear hfz9_0 hfz9_1 hfz9_2
      try clear p2
      obtain ⟨x15_2, rfl, HA, HK2, HO_12, BK630, HB⟩ := hrel
      cases gk with
      | zero => exact absurd HA.out (by simp [ebbtideref14_Check.l1])
      | succ k2 =>
       have H := HA.out; clear HA; simp only [ebbtideref14_Check.l1] at H; have HC13 := am_ H; clear H
       go_upto_region 8 with (fail)
       go_cut [46] (fun v46 wc => ∃ (kq : Nat) (x46_12 : Bool), v46 = .bool x46_12 ∧ Aside0 (ebbtideref14_Check.j2 kq a1 a2 a3 t631 x14_1 x15_2 x46_12 a0_0 a0_1 l0_2 = some (r1, r2)) ∧ Aside0 (kq ≤ k2) ∧ Aside0 (Kd.S (Kd.slice 3 (Kd.int .i64)) 42 wc w.heap.size (fun _ => True) v632 t631) ∧ Aside0 (wc.heap[gb630]? = some (.cells #[.int .i64 a0_0, .bool a0_1, (.slice A0_2 l0_2.length c0_2)] 24 (0, 0))) ∧ Aside0 (Below w.heap.size w wc))
       case first =>
        have H := HC13.out; clear HC13
        by_cases c14 : x15_2 ≤ a3
        ·rw [if_pos c14] at H
         have c14b0 := decide_eq_true c14; clear c14
         (first | rw [c14b0] | (simp only [i64_w, i32_w]; rw [c14b0]) | skip)
         by_cases c15 : x14_1 = a1
         ·rw [if_pos c15] at H
          obtain ⟨c15b0, c15b1⟩ := eqb_ c15; clear c15; have H' := am_ H; clear H
          go_wp2
          go_meet
          case rel => exact ⟨_, (false), rs_, H', ⟨by have := HK1.out; have := HK2.out; first | omega | exact Nat.le_refl _⟩, ⟨sq_ HO_12.out⟩, ⟨bq_ BK630.out⟩, ⟨hb_⟩⟩
         ·rw [if_neg c15] at H
          obtain ⟨c15b0, c15b1⟩ := neb_ c15; have H' := am_ H; clear H
          go_wp2
          go_meet
          case rel => exact ⟨_, ((x14_1 != a2)), rs_, H', ⟨by have := HK1.out; have := HK2.out; first | omega | exact Nat.le_refl _⟩, ⟨sq_ HO_12.out⟩, ⟨bq_ BK630.out⟩, ⟨hb_⟩⟩
        ·rw [if_neg c14] at H
         have c14b0 := decide_eq_false c14; clear c14
         (first | rw [c14b0] | (simp only [i64_w, i32_w]; rw [c14b0]) | skip)
         have H' := am_ H; clear H
         go_wp2
         go_meet
         case rel => exact ⟨_, (false), rs_, H', ⟨by have := HK1.out; have := HK2.out; first | omega | exact Nat.le_refl _⟩, ⟨sq_ HO_12.out⟩, ⟨bq_ BK630.out⟩, ⟨hb_⟩⟩
       case rest =>
        clear HC13
        try clear c1
        try clear c2
        try clear p2
        try clear c4
        try clear c7
        try clear c7b0
        try clear c7b1
        try clear c11
        try clear c11b0
        try clear c14
        try clear c14b0
        try clear c15
        try clear c15b0
        try clear c15b1
        try clear hcz12_0 hcz12_1 hcz12_2
        try clear hcz9_0 hcz9_1 hcz9_2
        try clear hfz12_0 hfz12_1 hfz12_2
        try clear hfz9_0 hfz9_1 hfz9_2
        try clear p2
        obtain ⟨kq, x46_12, rfl, HA, HJ12, HO_12, BK630, HB⟩ := hcut
        cases kq with
        | zero => exact absurd HA.out (by simp [ebbtideref14_Check.j2])
        | succ kj12 =>
         have H := HA.out; clear HA; simp only [ebbtideref14_Check.j2] at H
         by_cases c16 : x46_12 = true
         ·subst c16
          have H1 : (if 0 ≤ x15_2 then (if x15_2 < (t631.length : Int) then (if 0 ≤ x14_1 then (if x14_1 < ((rd_L3 t631 x15_2).length : Int) then (if (rd (rd_L3 t631 x15_2) x14_1) < 0 then (some (0, 141)) else (if (rd (rd_L3 t631 x15_2) x14_1) > 0 then (if a0_1 = true then (if x15_2 = a3 then (some (0, 141)) else (ebbtideref14_Check.l1 kj12 a1 a2 a3 t631 x14_1 (wrap64 (x15_2 + 1)) a0_0 a0_1 l0_2)) else (some (0, 141))) else (ebbtideref14_Check.l1 kj12 a1 a2 a3 t631 x14_1 (wrap64 (x15_2 + 1)) a0_0 a0_1 l0_2))) else (none)) else (none)) else (none)) else (none)) = some (r1, r2) := by rw [if_pos rfl] at H; exact H
          clear H; have H := H1; clear H1
          replace H := ifn_ H; obtain ⟨c17, H⟩ := H
          have c17b0 := decide_eq_true c17; clear c17
          replace H := ifn_ H; obtain ⟨c18, H⟩ := H
          have c18b0 := decide_eq_true c18; clear c18
          replace H := ifn_ H; obtain ⟨c19, H⟩ := H
          have c19b0 := decide_eq_true c19; clear c19
          replace H := ifn_ H; obtain ⟨c20, H⟩ := H
          have c20b0 := decide_eq_true c20; clear c20
          by_cases c21 : (rd (rd_L3 t631 x15_2) x14_1) < 0
          ·rw [if_pos c21] at H
           have c21b0 := decide_eq_true c21; clear c21; simp only [Option.some.injEq, Prod.mk.injEq] at H; obtain ⟨rfl, rfl⟩ := H; obtain ⟨Ao22, co22, eo22⟩ := Kd.S_slice HO_12.out; subst eo22; have p637 : 0 ≤ (x15_2 : Int) := of_decide_eq_true sm_; have q637 : x15_2 < (t631.length : Int) := of_decide_eq_true sm_; obtain ⟨ad637, A637_0, c637_0, e637, hx637_0, hl637_0, hi637_0⟩ := at_L3 (Kd.S_reads' HO_12.out).2.2 x15_2 p637 q637; cases e637; obtain ⟨ce637, hce637, hMe637, hcc637⟩ := Kd.S_get HO_12.out [] x15_2 p637 q17_; obtain ⟨ve637_0, rfl, ge637_0⟩ := hMe637; have hv637_0 := hcc637 0 _ rfl; rw [Nat.add_zero, show ((Kd.slice 3 (Kd.int .i64))).sz = 1 from rfl, Nat.mul_one] at hv637_0; replace hv637_0 := Option.some.inj (hv637_0.symm.trans hx637_0); rw [hv637_0] at ge637_0; have HL637_0 := am_ (show Kd.R (Kd.int .i64) 3 _ _ _ _ (rd_L3 t631 x15_2) from ge637_0); clear hv637_0 ge637_0; clear hcc637 hce637; have HR637_0 := am_ hi637_0; have HC637_0 := am_ hl637_0; clear hi637_0 hl637_0; replace p637 := eq_true p637; replace q637 := eq_true q637; have p638 : 0 ≤ (x14_1 : Int) := of_decide_eq_true sm_; have q638 : x14_1 < ((rd_L3 t631 x15_2).length : Int) := of_decide_eq_true sm_; obtain ⟨ad638, e638, hx638_0⟩ := Kd.at_int q6_ x14_1 p638 q638; cases e638; replace p638 := eq_true p638; replace q638 := eq_true q638
           go_wp2
           go_ret2
           exact ⟨er_, hb_⟩
          ·rw [if_neg c21] at H
           have c21b0 := decide_eq_false c21; clear c21
           by_cases c23 : (rd (rd_L3 t631 x15_2) x14_1) > 0
           ·rw [if_pos c23] at H
            have c23b0 := decide_eq_true c23; clear c23
            by_cases c24 : a0_1 = true
            ·subst c24
             have H1 : (if x15_2 = a3 then (some (0, 141)) else (ebbtideref14_Check.l1 kj12 a1 a2 a3 t631 x14_1 (wrap64 (x15_2 + 1)) a0_0 true l0_2)) = some (r1, r2) := by rw [if_pos rfl] at H; exact H
             clear H; have H := H1; clear H1
             by_cases c25 : x15_2 = a3
             ·rw [if_pos c25] at H
              obtain ⟨c25b0, c25b1⟩ := eqb_ c25; clear c25; simp only [Option.some.injEq, Prod.mk.injEq] at H; obtain ⟨rfl, rfl⟩ := H; obtain ⟨Ao26, co26, eo26⟩ := Kd.S_slice HO_12.out; subst eo26; have p637 : 0 ≤ (x15_2 : Int) := of_decide_eq_true sm_; have q637 : x15_2 < (t631.length : Int) := of_decide_eq_true sm_; obtain ⟨ad637, A637_0, c637_0, e637, hx637_0, hl637_0, hi637_0⟩ := at_L3 (Kd.S_reads' HO_12.out).2.2 x15_2 p637 q637; cases e637; obtain ⟨ce637, hce637, hMe637, hcc637⟩ := Kd.S_get HO_12.out [] x15_2 p637 q17_; obtain ⟨ve637_0, rfl, ge637_0⟩ := hMe637; have hv637_0 := hcc637 0 _ rfl; rw [Nat.add_zero, show ((Kd.slice 3 (Kd.int .i64))).sz = 1 from rfl, Nat.mul_one] at hv637_0; replace hv637_0 := Option.some.inj (hv637_0.symm.trans hx637_0); rw [hv637_0] at ge637_0; have HL637_0 := am_ (show Kd.R (Kd.int .i64) 3 _ _ _ _ (rd_L3 t631 x15_2) from ge637_0); clear hv637_0 ge637_0; clear hcc637 hce637; have HR637_0 := am_ hi637_0; have HC637_0 := am_ hl637_0; clear hi637_0 hl637_0; replace p637 := eq_true p637; replace q637 := eq_true q637; have p638 : 0 ≤ (x14_1 : Int) := of_decide_eq_true sm_; have q638 : x14_1 < ((rd_L3 t631 x15_2).length : Int) := of_decide_eq_true sm_; obtain ⟨ad638, e638, hx638_0⟩ := Kd.at_int q6_ x14_1 p638 q638; cases e638; replace p638 := eq_true p638; replace q638 := eq_true q638; have p639 : 0 ≤ (x15_2 : Int) := of_decide_eq_true sm_; have q639 : x15_2 < (t631.length : Int) := of_decide_eq_true sm_; obtain ⟨ad639, A639_0, c639_0, e639, hx639_0, hl639_0, hi639_0⟩ := at_L3 (Kd.S_reads' HO_12.out).2.2 x15_2 p639 q639; obtain rfl : ad637 = ad639 := (by injection e639); obtain ⟨ce639, hce639, hMe639, hcc639⟩ := Kd.S_get HO_12.out [] x15_2 p639 (by first | exact q639 | exact of_decide_eq_true sm_ | (have e_ := (Kd.S_reads' HO_12.out).1; omega)); obtain ⟨ve639_0, rfl, ge639_0⟩ := hMe639; have hv639_0 := hcc639 0 _ rfl; rw [Nat.add_zero, show ((Kd.slice 3 (Kd.int .i64))).sz = 1 from rfl, Nat.mul_one] at hv639_0; replace hv639_0 := Option.some.inj (hv639_0.symm.trans hx639_0); rw [hv639_0] at ge639_0; have HL639_0 := am_ (show Kd.R (Kd.int .i64) 3 _ _ _ _ (rd_L3 t631 x15_2) from ge639_0); clear hv639_0 ge639_0; clear hcc639 hce639; have HR639_0 := am_ hi639_0; have HC639_0 := am_ hl639_0; clear hi639_0 hl639_0; replace p639 := eq_true p639; replace q639 := eq_true q639; have ea_ := Option.some.inj (hx637_0.symm.trans hx639_0)
              injection ea_ with ea_ en_ ec_
              subst ea_; subst ec_; clear en_; have p640 : 0 ≤ (x14_1 : Int) := of_decide_eq_true sm_; have q640 : x14_1 < ((rd_L3 t631 x15_2).length : Int) := of_decide_eq_true sm_; obtain ⟨ad640, e640, hx640_0⟩ := Kd.at_int q10_ x14_1 p640 q640; cases e640; replace p640 := eq_true p640; replace q640 := eq_true q640; obtain ⟨hcz27_0, hcz27_1, hcz27_2, hfz27_0, hfz27_1, hfz27_2⟩ := cf3_ BK630.out
              go_wp2
              go_ret2
              exact ⟨er_, hb_⟩
             ·rw [if_neg c25] at H
              obtain ⟨c25b0, c25b1⟩ := neb_ c25; have H' := am_ H; clear H; obtain ⟨Ao28, co28, eo28⟩ := Kd.S_slice HO_12.out; subst eo28; have p637 : 0 ≤ (x15_2 : Int) := of_decide_eq_true sm_; have q637 : x15_2 < (t631.length : Int) := of_decide_eq_true sm_; obtain ⟨ad637, A637_0, c637_0, e637, hx637_0, hl637_0, hi637_0⟩ := at_L3 (Kd.S_reads' HO_12.out).2.2 x15_2 p637 q637; cases e637; obtain ⟨ce637, hce637, hMe637, hcc637⟩ := Kd.S_get HO_12.out [] x15_2 p637 q17_; obtain ⟨ve637_0, rfl, ge637_0⟩ := hMe637; have hv637_0 := hcc637 0 _ rfl; rw [Nat.add_zero, show ((Kd.slice 3 (Kd.int .i64))).sz = 1 from rfl, Nat.mul_one] at hv637_0; replace hv637_0 := Option.some.inj (hv637_0.symm.trans hx637_0); rw [hv637_0] at ge637_0; have HL637_0 := am_ (show Kd.R (Kd.int .i64) 3 _ _ _ _ (rd_L3 t631 x15_2) from ge637_0); clear hv637_0 ge637_0; clear hcc637 hce637; have HR637_0 := am_ hi637_0; have HC637_0 := am_ hl637_0; clear hi637_0 hl637_0; replace p637 := eq_true p637; replace q637 := eq_true q637; have p638 : 0 ≤ (x14_1 : Int) := of_decide_eq_true sm_; have q638 : x14_1 < ((rd_L3 t631 x15_2).length : Int) := of_decide_eq_true sm_; obtain ⟨ad638, e638, hx638_0⟩ := Kd.at_int q6_ x14_1 p638 q638; cases e638; replace p638 := eq_true p638; replace q638 := eq_true q638; have p639 : 0 ≤ (x15_2 : Int) := of_decide_eq_true sm_; have q639 : x15_2 < (t631.length : Int) := of_decide_eq_true sm_; obtain ⟨ad639, A639_0, c639_0, e639, hx639_0, hl639_0, hi639_0⟩ := at_L3 (Kd.S_reads' HO_12.out).2.2 x15_2 p639 q639; obtain rfl : ad637 = ad639 := (by injection e639); obtain ⟨ce639, hce639, hMe639, hcc639⟩ := Kd.S_get HO_12.out [] x15_2 p639 (by first | exact q639 | exact of_decide_eq_true sm_ | (have e_ := (Kd.S_reads' HO_12.out).1; omega)); obtain ⟨ve639_0, rfl, ge639_0⟩ := hMe639; have hv639_0 := hcc639 0 _ rfl; rw [Nat.add_zero, show ((Kd.slice 3 (Kd.int .i64))).sz = 1 from rfl, Nat.mul_one] at hv639_0; replace hv639_0 := Option.some.inj (hv639_0.symm.trans hx639_0); rw [hv639_0] at ge639_0; have HL639_0 := am_ (show Kd.R (Kd.int .i64) 3 _ _ _ _ (rd_L3 t631 x15_2) from ge639_0); clear hv639_0 ge639_0; clear hcc639 hce639; have HR639_0 := am_ hi639_0; have HC639_0 := am_ hl639_0; clear hi639_0 hl639_0; replace p639 := eq_true p639; replace q639 := eq_true q639; have ea_ := Option.some.inj (hx637_0.symm.trans hx639_0)
              injection ea_ with ea_ en_ ec_
              subst ea_; subst ec_; clear en_; have p640 : 0 ≤ (x14_1 : Int) := of_decide_eq_true sm_; have q640 : x14_1 < ((rd_L3 t631 x15_2).length : Int) := of_decide_eq_true sm_; obtain ⟨ad640, e640, hx640_0⟩ := Kd.at_int q10_ x14_1 p640 q640; cases e640; replace p640 := eq_true p640; replace q640 := eq_true q640; obtain ⟨hcz29_0, hcz29_1, hcz29_2, hfz29_0, hfz29_1, hfz29_2⟩ := cf3_ BK630.out
              go_wp2
              go_roundg kj12
              case measure => have := HK1.out; have := HK2.out; have := HJ12.out; omega
              case rel => exact ⟨(wrap64 (x15_2 + 1)), rs_, H', ⟨by have := HK1.out; have := HK2.out; have := HJ12.out; omega⟩, ⟨sq_ HO_12.out⟩, ⟨bq_ BK630.out⟩, ⟨hb_⟩⟩
            ·replace c24 := Bool.eq_false_iff.mpr c24
             subst c24
             have H1 : (some (0, 141)) = some (r1, r2) := by rw [if_neg (show ¬ (false = true) by decide)] at H; exact H
             clear H; have H := H1; clear H1; simp only [Option.some.injEq, Prod.mk.injEq] at H; obtain ⟨rfl, rfl⟩ := H; obtain ⟨Ao30, co30, eo30⟩ := Kd.S_slice HO_12.out; subst eo30; have p637 : 0 ≤ (x15_2 : Int) := of_decide_eq_true sm_; have q637 : x15_2 < (t631.length : Int) := of_decide_eq_true sm_; obtain ⟨ad637, A637_0, c637_0, e637, hx637_0, hl637_0, hi637_0⟩ := at_L3 (Kd.S_reads' HO_12.out).2.2 x15_2 p637 q637; cases e637; obtain ⟨ce637, hce637, hMe637, hcc637⟩ := Kd.S_get HO_12.out [] x15_2 p637 q17_; obtain ⟨ve637_0, rfl, ge637_0⟩ := hMe637; have hv637_0 := hcc637 0 _ rfl; rw [Nat.add_zero, show ((Kd.slice 3 (Kd.int .i64))).sz = 1 from rfl, Nat.mul_one] at hv637_0; replace hv637_0 := Option.some.inj (hv637_0.symm.trans hx637_0); rw [hv637_0] at ge637_0; have HL637_0 := am_ (show Kd.R (Kd.int .i64) 3 _ _ _ _ (rd_L3 t631 x15_2) from ge637_0); clear hv637_0 ge637_0; clear hcc637 hce637; have HR637_0 := am_ hi637_0; have HC637_0 := am_ hl637_0; clear hi637_0 hl637_0; replace p637 := eq_true p637; replace q637 := eq_true q637; have p638 : 0 ≤ (x14_1 : Int) := of_decide_eq_true sm_; have q638 : x14_1 < ((rd_L3 t631 x15_2).length : Int) := of_decide_eq_true sm_; obtain ⟨ad638, e638, hx638_0⟩ := Kd.at_int q6_ x14_1 p638 q638; cases e638; replace p638 := eq_true p638; replace q638 := eq_true q638; have p639 : 0 ≤ (x15_2 : Int) := of_decide_eq_true sm_; have q639 : x15_2 < (t631.length : Int) := of_decide_eq_true sm_; obtain ⟨ad639, A639_0, c639_0, e639, hx639_0, hl639_0, hi639_0⟩ := at_L3 (Kd.S_reads' HO_12.out).2.2 x15_2 p639 q639; obtain rfl : ad637 = ad639 := (by injection e639); obtain ⟨ce639, hce639, hMe639, hcc639⟩ := Kd.S_get HO_12.out [] x15_2 p639 (by first | exact q639 | exact of_decide_eq_true sm_ | (have e_ := (Kd.S_reads' HO_12.out).1; omega)); obtain ⟨ve639_0, rfl, ge639_0⟩ := hMe639; have hv639_0 := hcc639 0 _ rfl; rw [Nat.add_zero, show ((Kd.slice 3 (Kd.int .i64))).sz = 1 from rfl, Nat.mul_one] at hv639_0; replace hv639_0 := Option.some.inj (hv639_0.symm.trans hx639_0); rw [hv639_0] at ge639_0; have HL639_0 := am_ (show Kd.R (Kd.int .i64) 3 _ _ _ _ (rd_L3 t631 x15_2) from ge639_0); clear hv639_0 ge639_0; clear hcc639 hce639; have HR639_0 := am_ hi639_0; have HC639_0 := am_ hl639_0; clear hi639_0 hl639_0; replace p639 := eq_true p639; replace q639 := eq_true q639; have ea_ := Option.some.inj (hx637_0.symm.trans hx639_0)
             injection ea_ with ea_ en_ ec_
             subst ea_; subst ec_; clear en_; have p640 : 0 ≤ (x14_1 : Int) := of_decide_eq_true sm_; have q640 : x14_1 < ((rd_L3 t631 x15_2).length : Int) := of_decide_eq_true sm_; obtain ⟨ad640, e640, hx640_0⟩ := Kd.at_int q10_ x14_1 p640 q640; cases e640; replace p640 := eq_true p640; replace q640 := eq_true q640; obtain ⟨hcz31_0, hcz31_1, hcz31_2, hfz31_0, hfz31_1, hfz31_2⟩ := cf3_ BK630.out
             go_wp2
             go_ret2
             exact ⟨er_, hb_⟩
           ·rw [if_neg c23] at H
            have c23b0 := decide_eq_false c23; clear c23; have H' := am_ H; clear H; obtain ⟨Ao32, co32, eo32⟩ := Kd.S_slice HO_12.out; subst eo32; have p637 : 0 ≤ (x15_2 : Int) := of_decide_eq_true sm_; have q637 : x15_2 < (t631.length : Int) := of_decide_eq_true sm_; obtain ⟨ad637, A637_0, c637_0, e637, hx637_0, hl637_0, hi637_0⟩ := at_L3 (Kd.S_reads' HO_12.out).2.2 x15_2 p637 q637; cases e637; obtain ⟨ce637, hce637, hMe637, hcc637⟩ := Kd.S_get HO_12.out [] x15_2 p637 q17_; obtain ⟨ve637_0, rfl, ge637_0⟩ := hMe637; have hv637_0 := hcc637 0 _ rfl; rw [Nat.add_zero, show ((Kd.slice 3 (Kd.int .i64))).sz = 1 from rfl, Nat.mul_one] at hv637_0; replace hv637_0 := Option.some.inj (hv637_0.symm.trans hx637_0); rw [hv637_0] at ge637_0; have HL637_0 := am_ (show Kd.R (Kd.int .i64) 3 _ _ _ _ (rd_L3 t631 x15_2) from ge637_0); clear hv637_0 ge637_0; clear hcc637 hce637; have HR637_0 := am_ hi637_0; have HC637_0 := am_ hl637_0; clear hi637_0 hl637_0; replace p637 := eq_true p637; replace q637 := eq_true q637; have p638 : 0 ≤ (x14_1 : Int) := of_decide_eq_true sm_; have q638 : x14_1 < ((rd_L3 t631 x15_2).length : Int) := of_decide_eq_true sm_; obtain ⟨ad638, e638, hx638_0⟩ := Kd.at_int q6_ x14_1 p638 q638; cases e638; replace p638 := eq_true p638; replace q638 := eq_true q638; have p639 : 0 ≤ (x15_2 : Int) := of_decide_eq_true sm_; have q639 : x15_2 < (t631.length : Int) := of_decide_eq_true sm_; obtain ⟨ad639, A639_0, c639_0, e639, hx639_0, hl639_0, hi639_0⟩ := at_L3 (Kd.S_reads' HO_12.out).2.2 x15_2 p639 q639; obtain rfl : ad637 = ad639 := (by injection e639); obtain ⟨ce639, hce639, hMe639, hcc639⟩ := Kd.S_get HO_12.out [] x15_2 p639 (by first | exact q639 | exact of_decide_eq_true sm_ | (have e_ := (Kd.S_reads' HO_12.out).1; omega)); obtain ⟨ve639_0, rfl, ge639_0⟩ := hMe639; have hv639_0 := hcc639 0 _ rfl; rw [Nat.add_zero, show ((Kd.slice 3 (Kd.int .i64))).sz = 1 from rfl, Nat.mul_one] at hv639_0; replace hv639_0 := Option.some.inj (hv639_0.symm.trans hx639_0); rw [hv639_0] at ge639_0; have HL639_0 := am_ (show Kd.R (Kd.int .i64) 3 _ _ _ _ (rd_L3 t631 x15_2) from ge639_0); clear hv639_0 ge639_0; clear hcc639 hce639; have HR639_0 := am_ hi639_0; have HC639_0 := am_ hl639_0; clear hi639_0 hl639_0; replace p639 := eq_true p639; replace q639 := eq_true q639; have ea_ := Option.some.inj (hx637_0.symm.trans hx639_0)
            injection ea_ with ea_ en_ ec_
            subst ea_; subst ec_; clear en_; have p640 : 0 ≤ (x14_1 : Int) := of_decide_eq_true sm_; have q640 : x14_1 < ((rd_L3 t631 x15_2).length : Int) := of_decide_eq_true sm_; obtain ⟨ad640, e640, hx640_0⟩ := Kd.at_int q10_ x14_1 p640 q640; cases e640; replace p640 := eq_true p640; replace q640 := eq_true q640
            go_wp2
            go_roundg kj12
            case measure => have := HK1.out; have := HK2.out; have := HJ12.out; omega
            case rel => exact ⟨(wrap64 (x15_2 + 1)), rs_, H', ⟨by have := HK1.out; have := HK2.out; have := HJ12.out; omega⟩, ⟨sq_ HO_12.out⟩, ⟨bq_ BK630.out⟩, ⟨hb_⟩⟩
         ·replace c16 := Bool.eq_false_iff.mpr c16
          subst c16
          have H1 : (ebbtideref14_Check.l0 kj12 a1 a2 a3 t631 (wrap64 (x14_1 + 1)) a0_0 a0_1 l0_2) = some (r1, r2) := by rw [if_neg (show ¬ (false = true) by decide)] at H; exact H
          clear H; have H := H1; clear H1; have H' := am_ H; clear H
          go_wp2
          go_roundg kj12
          case measure => have := HK1.out; have := HK2.out; have := HJ12.out; omega
          case rel => exact ⟨(wrap64 (x14_1 + 1)), rs_, H', ⟨by have := HK1.out; have := HK2.out; have := HJ12.out; omega⟩, ⟨sq_ HO_12.out⟩, ⟨bq_ BK630.out⟩, ⟨hb_⟩⟩
    ·rw [if_neg c11] at H
     have c11b0 := decide_eq_false c11; clear c11
     replace H := ifn_ H; obtain ⟨c33, H⟩ := H
     have c33b0 := decide_eq_true c33; clear c33
     replace H := ifn_ H; obtain ⟨c34, H⟩ := H
     have c34b0 := decide_eq_true c34; clear c34
     replace H := ifn_ H; obtain ⟨c35, H⟩ := H
     have c35b0 := decide_eq_true c35; clear c35
     replace H := ifn_ H; obtain ⟨c36, H⟩ := H
     have c36b0 := decide_eq_true c36; clear c36; simp only [Option.some.injEq, Prod.mk.injEq] at H; obtain ⟨rfl, rfl⟩ := H; obtain ⟨hcz37_0, hcz37_1, hcz37_2, hfz37_0, hfz37_1, hfz37_2⟩ := cf3_ BK630.out; obtain ⟨Ao38, co38, eo38⟩ := Kd.S_slice HO_12.out; subst eo38; have p635 : 0 ≤ (a3 : Int) := of_decide_eq_true sm_; have q635 : a3 < (t631.length : Int) := of_decide_eq_true sm_; obtain ⟨ad635, A635_0, c635_0, e635, hx635_0, hl635_0, hi635_0⟩ := at_L3 (Kd.S_reads' HO_12.out).2.2 a3 p635 q635; cases e635; obtain ⟨ce635, hce635, hMe635, hcc635⟩ := Kd.S_get HO_12.out [] a3 p635 (by first | exact q635 | exact of_decide_eq_true sm_ | (have e_ := (Kd.S_reads' HO_12.out).1; omega)); obtain ⟨ve635_0, rfl, ge635_0⟩ := hMe635; have hv635_0 := hcc635 0 _ rfl; rw [Nat.add_zero, show ((Kd.slice 3 (Kd.int .i64))).sz = 1 from rfl, Nat.mul_one] at hv635_0; replace hv635_0 := Option.some.inj (hv635_0.symm.trans hx635_0); rw [hv635_0] at ge635_0; have HL635_0 := am_ (show Kd.R (Kd.int .i64) 3 _ _ _ _ (rd_L3 t631 a3) from ge635_0); clear hv635_0 ge635_0; clear hcc635 hce635; have HR635_0 := am_ hi635_0; have HC635_0 := am_ hl635_0; clear hi635_0 hl635_0; replace p635 := eq_true p635; replace q635 := eq_true q635; have p636 : 0 ≤ (a2 : Int) := of_decide_eq_true sm_; have q636 : a2 < ((rd_L3 t631 a3).length : Int) := of_decide_eq_true sm_; obtain ⟨ad636, e636, hx636_0⟩ := Kd.at_int (by repeat (first | (with_reducible exact HR635_0.out) | (with_reducible refine Kd.C_alloc ?_ _) | (with_reducible refine Kd.C_drewN ?_ _) | (with_reducible refine Kd.C_drew ?_) | exact HR635_0.out)) a2 p636 q636; cases e636; replace p636 := eq_true p636; replace q636 := eq_true q636
     go_wp2
     go_ret2
     exact ⟨er_, hb_⟩
 ·rw [if_neg c7] at H
  obtain ⟨c7b0, c7b1⟩ := neb_ c7; simp only [Option.some.injEq, Prod.mk.injEq] at H; obtain ⟨rfl, rfl⟩ := H
  go_enter Try.func26, Try.ntmps26
  go_wp2_with (first | ((with_reducible refine gate_dst (N := 5) rfl ?_); refine bx_ 5 #[.int .i64 a0_0, .bool a0_1, .slice A0_2 l0_2.length c0_2] 24 ?_; intro gb630 hg w39 BK630 hb; have GE630 := ge_ (w := w) hg; replace HB := hst_ hb; clear hb hg; obtain ⟨hcz40_0, hcz40_1, hcz40_2, hfz40_0, hfz40_1, hfz40_2⟩ := cf3_ BK630.out) | ((with_reducible refine gate_callee (f := 47) rfl ?_); refine cl_ 22 Try.func47 (ebbtideref14_Stocks.calls k a0_0 a0_1 _ _ l0_2 a1 a2 a3 _ _ l4 t631 t634 _ (cb_ HR0_2.out) HC0_2.out (cb_ HR4.out) HC4.out A6.out) ?_; rintro e w41 ⟨v632, rfl, ho0, hb⟩; refine ⟨_, rfl, ?_⟩; have HO633 := am_ (Kd.S_lower ho0 (below_size hb_)); replace BK630 := am_ (bb_ BK630.out hb); replace HB := hst_ hb; (try clear hb); (try clear hb2); (try clear hk); (try clear hi); (try clear ho0)))
  go_ret2
  exact ⟨er_, hb_⟩
end Go.Proofs.Ytfhkkbpkajfdlaa.Q
end
