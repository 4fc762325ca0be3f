/- A part of the proof: words, contracts, plain lemmas. Conditions: none. -/
import Derived.Test.YtfhkkbpkajfdlaaZExpandRuns19
set_option linter.unusedSimpArgs false
set_option linter.unusedVariables false
section
namespace Go.Proofs.Ytfhkkbpkajfdlaa.Q
open Go.RowKit Go.Proofs.YtfhkkbpkajfdlaaW.PrintWords Go.Proofs.YtfhkkbpkajfdlaaW.PrintLast Go.Proofs.YtfhkkbpkajfdlaaW.PrintMore
def ebbtideref14_Move.f (a0_0 : Int) (a0_1 : Bool) (l0_2 : List (S54)) (a1 : Int) (a2 : Int) (a3 : Int) (a4_0 : Int) (a4_1 : Int) (a4_2 : Int) : Option (Bool) := if a4_0 < 0 then (some false) else (if a4_0 ≥ (l0_2.length : Int) then (some false) else (if a4_1 < 0 then (some false) else (if a4_1 > a3 then (some false) else (if 0 ≤ a4_0 then (if a4_0 < (l0_2.length : Int) then (if (wrap64 (a4_1 + ((rd_T54 l0_2 a4_0).f3))) ≤ a3 then (if a4_2 ≥ 0 then (if a4_2 ≤ ((rd_T54 l0_2 a4_0).f2) then (if ((rd_T54 l0_2 a4_0).f1) = a1 then (some false) else (some (((rd_T54 l0_2 a4_0).f0) != a2))) else (some false)) else (some false)) else (some false)) else (none)) else (none)))))
set_option maxHeartbeats 8000000 in
set_option maxRecDepth 100000 in
theorem ebbtideref14_Move.calls (a0_0 : Int) (a0_1 : Bool) (A0_2 : Option Addr) (c0_2 : Nat) (l0_2 : List (S54)) (a1 : Int) (a2 : Int) (a3 : Int) (a4_0 : Int) (a4_1 : Int) (a4_2 : Int) (r : Bool) (w : World) (hr0_2 : Kd.C k54 w A0_2 l0_2.length l0_2) (hc0_2 : l0_2.length ≤ c0_2) (h : ebbtideref14_Move.f a0_0 a0_1 l0_2 a1 a2 a3 a4_0 a4_1 a4_2 = some r) :
  Calls Try.prog 82 #[.agg #[.int .i64 a0_0, .bool a0_1, .slice A0_2 l0_2.length c0_2], .int .i64 a1, .int .i64 a2, .int .i64 a3, .agg #[.int .i64 a4_0, .int .i64 a4_1, .int .i64 a4_2]] w fun e w' => e = .returned (.bool r) ∧ Below w.heap.size w w' := by
 have hu24 := Try.underlying24; have hu85 := Try.underlying85; have hu54 := Try.underlying54; have HR0_2 := am_ hr0_2; have HC0_2 := am_ hc0_2; clear hr0_2 hc0_2; have HB := am_ (Below.refl w.heap.size w); have H : (if a4_0 < 0 then (some false) else (if a4_0 ≥ (l0_2.length : Int) then (some false) else (if a4_1 < 0 then (some false) else (if a4_1 > a3 then (some false) else (if 0 ≤ a4_0 then (if a4_0 < (l0_2.length : Int) then (if (wrap64 (a4_1 + ((rd_T54 l0_2 a4_0).f3))) ≤ a3 then (if a4_2 ≥ 0 then (if a4_2 ≤ ((rd_T54 l0_2 a4_0).f2) then (if ((rd_T54 l0_2 a4_0).f1) = a1 then (some false) else (some (((rd_T54 l0_2 a4_0).f0) != a2))) else (some false)) else (some false)) else (some false)) else (none)) else (none)))))) = some r := h; clear h
 by_cases c6 : a4_0 < 0
 ·rw [if_pos c6] at H
  have c6b0 := decide_eq_true c6; clear c6; obtain rfl := Option.some.inj H
  go_enter Try.func82, Try.ntmps82
  go_wp2_with (first | ((with_reducible refine gate_dst (N := 5) rfl ?_); (try (refine gate_guard (by rfl) ?_; dsimp only)); refine bx_ 5 #[.int .i64 a0_0, .bool a0_1, .slice A0_2 l0_2.length c0_2] 24 ?_; intro gb596 hg w7 BK596 hb; have GE596 := ge_ (w := w) hg; replace HB := hst_ hb; clear hb hg) | ((with_reducible refine gate_dst (N := 9) rfl ?_); (try (refine gate_guard (by rfl) ?_; dsimp only)); refine bx_ 9 #[.int .i64 a4_0, .int .i64 a4_1, .int .i64 a4_2] 85 ?_; intro gb597 hg w8 BK597 hb; have GE597 := ge_ (w := w) hg; replace HB := hst_ hb; have NB596_597 := am_ (nl_ BK596.out hg); have NB597_596 := am_ (ng_ BK596.out hg); replace BK596 := am_ (bb_ BK596.out hb); clear hb hg; have hnb9 := NB597_596.out; have hnc9 := NB596_597.out; obtain ⟨hcz10_0, hcz10_1, hcz10_2, hfz10_0, hfz10_1, hfz10_2⟩ := cf3_ BK597.out))
  go_ret
  exact ⟨er_, hb_⟩
 ·rw [if_neg c6] at H
  have c6b0 := decide_eq_false c6; clear c6
  by_cases c11 : a4_0 ≥ (l0_2.length : Int)
  ·rw [if_pos c11] at H
   have c11b0 := decide_eq_true c11; clear c11; obtain rfl := Option.some.inj H
   go_enter Try.func82, Try.ntmps82
   go_wp2_with (first | ((with_reducible refine gate_dst (N := 5) rfl ?_); (try (refine gate_guard (by rfl) ?_; dsimp only)); refine bx_ 5 #[.int .i64 a0_0, .bool a0_1, .slice A0_2 l0_2.length c0_2] 24 ?_; intro gb596 hg w12 BK596 hb; have GE596 := ge_ (w := w) hg; replace HB := hst_ hb; clear hb hg) | ((with_reducible refine gate_dst (N := 9) rfl ?_); (try (refine gate_guard (by rfl) ?_; dsimp only)); refine bx_ 9 #[.int .i64 a4_0, .int .i64 a4_1, .int .i64 a4_2] 85 ?_; intro gb597 hg w13 BK597 hb; have GE597 := ge_ (w := w) hg; replace HB := hst_ hb; have NB596_597 := am_ (nl_ BK596.out hg); have NB597_596 := am_ (ng_ BK596.out hg); replace BK596 := am_ (bb_ BK596.out hb); clear hb hg; have hnb14 := NB597_596.out; have hnc14 := NB596_597.out; obtain ⟨hcz15_0, hcz15_1, hcz15_2, hfz15_0, hfz15_1, hfz15_2⟩ := cf3_ BK597.out; obtain ⟨hcz16_0, hcz16_1, hcz16_2, hfz16_0, hfz16_1, hfz16_2⟩ := cf3_ BK596.out))
   go_ret
   exact ⟨er_, hb_⟩
  ·rw [if_neg c11] at H
   have c11b0 := decide_eq_false c11; clear c11
   by_cases c17 : a4_1 < 0
   ·rw [if_pos c17] at H
    have c17b0 := decide_eq_true c17; clear c17; obtain rfl := Option.some.inj H
    go_enter Try.func82, Try.ntmps82
    go_wp2_with (first | ((with_reducible refine gate_dst (N := 5) rfl ?_); (try (refine gate_guard (by rfl) ?_; dsimp only)); refine bx_ 5 #[.int .i64 a0_0, .bool a0_1, .slice A0_2 l0_2.length c0_2] 24 ?_; intro gb596 hg w18 BK596 hb; have GE596 := ge_ (w := w) hg; replace HB := hst_ hb; clear hb hg) | ((with_reducible refine gate_dst (N := 9) rfl ?_); (try (refine gate_guard (by rfl) ?_; dsimp only)); refine bx_ 9 #[.int .i64 a4_0, .int .i64 a4_1, .int .i64 a4_2] 85 ?_; intro gb597 hg w19 BK597 hb; have GE597 := ge_ (w := w) hg; replace HB := hst_ hb; have NB596_597 := am_ (nl_ BK596.out hg); have NB597_596 := am_ (ng_ BK596.out hg); replace BK596 := am_ (bb_ BK596.out hb); clear hb hg; have hnb20 := NB597_596.out; have hnc20 := NB596_597.out; obtain ⟨hcz21_0, hcz21_1, hcz21_2, hfz21_0, hfz21_1, hfz21_2⟩ := cf3_ BK597.out; obtain ⟨hcz22_0, hcz22_1, hcz22_2, hfz22_0, hfz22_1, hfz22_2⟩ := cf3_ BK596.out))
    go_ret
    exact ⟨er_, hb_⟩
   ·rw [if_neg c17] at H
    have c17b0 := decide_eq_false c17; clear c17
    by_cases c23 : a4_1 > a3
    ·rw [if_pos c23] at H
     have c23b0 := decide_eq_true c23; clear c23; obtain rfl := Option.some.inj H
     go_enter Try.func82, Try.ntmps82
     go_wp2_with (first | ((with_reducible refine gate_dst (N := 5) rfl ?_); (try (refine gate_guard (by rfl) ?_; dsimp only)); refine bx_ 5 #[.int .i64 a0_0, .bool a0_1, .slice A0_2 l0_2.length c0_2] 24 ?_; intro gb596 hg w24 BK596 hb; have GE596 := ge_ (w := w) hg; replace HB := hst_ hb; clear hb hg) | ((with_reducible refine gate_dst (N := 9) rfl ?_); (try (refine gate_guard (by rfl) ?_; dsimp only)); refine bx_ 9 #[.int .i64 a4_0, .int .i64 a4_1, .int .i64 a4_2] 85 ?_; intro gb597 hg w25 BK597 hb; have GE597 := ge_ (w := w) hg; replace HB := hst_ hb; have NB596_597 := am_ (nl_ BK596.out hg); have NB597_596 := am_ (ng_ BK596.out hg); replace BK596 := am_ (bb_ BK596.out hb); clear hb hg; have hnb26 := NB597_596.out; have hnc26 := NB596_597.out; obtain ⟨hcz27_0, hcz27_1, hcz27_2, hfz27_0, hfz27_1, hfz27_2⟩ := cf3_ BK597.out; obtain ⟨hcz28_0, hcz28_1, hcz28_2, hfz28_0, hfz28_1, hfz28_2⟩ := cf3_ BK596.out))
     go_ret
     exact ⟨er_, hb_⟩
    ·rw [if_neg c23] at H
     have c23b0 := decide_eq_false c23; clear c23
     replace H := ifn_ H; obtain ⟨c29, H⟩ := H
     have c29b0 := decide_eq_true c29; clear c29
     replace H := ifn_ H; obtain ⟨c30, H⟩ := H
     have c30b0 := decide_eq_true c30; clear c30
     by_cases c31 : (wrap64 (a4_1 + ((rd_T54 l0_2 a4_0).f3))) ≤ a3
     ·rw [if_pos c31] at H
      have c31b0 := decide_eq_true c31; clear c31
      by_cases c32 : a4_2 ≥ 0
      ·rw [if_pos c32] at H
       have c32b0 := decide_eq_true c32; clear c32
       by_cases c33 : a4_2 ≤ ((rd_T54 l0_2 a4_0).f2)
       ·rw [if_pos c33] at H
        have c33b0 := decide_eq_true c33; clear c33
        by_cases c34 : ((rd_T54 l0_2 a4_0).f1) = a1
        ·rw [if_pos c34] at H
         obtain ⟨c34b0, c34b1⟩ := eqb_ c34; clear c34; obtain rfl := Option.some.inj H
         go_enter Try.func82, Try.ntmps82
         go_wp2_with (first | ((with_reducible refine gate_dst (N := 5) rfl ?_); (try (refine gate_guard (by rfl) ?_; dsimp only)); refine bx_ 5 #[.int .i64 a0_0, .bool a0_1, .slice A0_2 l0_2.length c0_2] 24 ?_; intro gb596 hg w35 BK596 hb; have GE596 := ge_ (w := w) hg; replace HB := hst_ hb; clear hb hg) | ((with_reducible refine gate_dst (N := 9) rfl ?_); (try (refine gate_guard (by rfl) ?_; dsimp only)); refine bx_ 9 #[.int .i64 a4_0, .int .i64 a4_1, .int .i64 a4_2] 85 ?_; intro gb597 hg w36 BK597 hb; have GE597 := ge_ (w := w) hg; replace HB := hst_ hb; have NB596_597 := am_ (nl_ BK596.out hg); have NB597_596 := am_ (ng_ BK596.out hg); replace BK596 := am_ (bb_ BK596.out hb); clear hb hg; have hnb37 := NB597_596.out; have hnc37 := NB596_597.out; obtain ⟨hcz38_0, hcz38_1, hcz38_2, hfz38_0, hfz38_1, hfz38_2⟩ := cf3_ BK597.out; obtain ⟨hcz39_0, hcz39_1, hcz39_2, hfz39_0, hfz39_1, hfz39_2⟩ := cf3_ BK596.out; have p598 : 0 ≤ (a4_0 : Int) := of_decide_eq_true sm_; have q598 : a4_0 < (l0_2.length : Int) := of_decide_eq_true sm_; obtain ⟨ad598, e598, hx598_0, hx598_1, hx598_2, hx598_3⟩ := at_T54 HR0_2.out a4_0 p598 q598; cases e598; replace hx598_0 := (HB.out.cell (World.block_lt_of_cell? w _ hx598_0)).trans hx598_0; replace hx598_1 := (HB.out.cell (World.block_lt_of_cell? w _ hx598_1)).trans hx598_1; replace hx598_2 := (HB.out.cell (World.block_lt_of_cell? w _ hx598_2)).trans hx598_2; replace hx598_3 := (HB.out.cell (World.block_lt_of_cell? w _ hx598_3)).trans hx598_3; replace p598 := eq_true p598; replace q598 := eq_true q598) | ((with_reducible refine gate_dst (N := 11) rfl ?_); (try (refine gate_guard (by rfl) ?_; dsimp only)); refine bx_ 11 #[.int .i64 0, .int .i64 0, .int .i64 0, .int .i64 0] 54 ?_; intro gb599 hg w40 BK599 hb; have GE599 := ge_ (w := w) hg; replace HB := hst_ hb; have NB596_599 := am_ (nl_ BK596.out hg); have NB599_596 := am_ (ng_ BK596.out hg); replace BK596 := am_ (bb_ BK596.out hb); have NB597_599 := am_ (nl_ BK597.out hg); have NB599_597 := am_ (ng_ BK597.out hg); replace BK597 := am_ (bb_ BK597.out hb); clear hb hg; have hnb41 := NB599_596.out; have hnc41 := NB596_599.out; have hnb42 := NB599_597.out; have hnc42 := NB597_599.out; obtain ⟨hcz43_0, hcz43_1, hcz43_2, hcz43_3, hfz43_0, hfz43_1, hfz43_2, hfz43_3⟩ := cf4_ BK599.out; obtain ⟨hcz44_0, hcz44_1, hcz44_2, hfz44_0, hfz44_1, hfz44_2⟩ := cf3_ BK597.out))
         go_ret
         exact ⟨er_, hb_⟩
        ·rw [if_neg c34] at H
         obtain ⟨c34b0, c34b1⟩ := neb_ c34; obtain rfl := Option.some.inj H
         go_enter Try.func82, Try.ntmps82
         go_wp2_with (first | ((with_reducible refine gate_dst (N := 5) rfl ?_); (try (refine gate_guard (by rfl) ?_; dsimp only)); refine bx_ 5 #[.int .i64 a0_0, .bool a0_1, .slice A0_2 l0_2.length c0_2] 24 ?_; intro gb596 hg w45 BK596 hb; have GE596 := ge_ (w := w) hg; replace HB := hst_ hb; clear hb hg) | ((with_reducible refine gate_dst (N := 9) rfl ?_); (try (refine gate_guard (by rfl) ?_; dsimp only)); refine bx_ 9 #[.int .i64 a4_0, .int .i64 a4_1, .int .i64 a4_2] 85 ?_; intro gb597 hg w46 BK597 hb; have GE597 := ge_ (w := w) hg; replace HB := hst_ hb; have NB596_597 := am_ (nl_ BK596.out hg); have NB597_596 := am_ (ng_ BK596.out hg); replace BK596 := am_ (bb_ BK596.out hb); clear hb hg; have hnb47 := NB597_596.out; have hnc47 := NB596_597.out; obtain ⟨hcz48_0, hcz48_1, hcz48_2, hfz48_0, hfz48_1, hfz48_2⟩ := cf3_ BK597.out; obtain ⟨hcz49_0, hcz49_1, hcz49_2, hfz49_0, hfz49_1, hfz49_2⟩ := cf3_ BK596.out; have p598 : 0 ≤ (a4_0 : Int) := of_decide_eq_true sm_; have q598 : a4_0 < (l0_2.length : Int) := of_decide_eq_true sm_; obtain ⟨ad598, e598, hx598_0, hx598_1, hx598_2, hx598_3⟩ := at_T54 HR0_2.out a4_0 p598 q598; cases e598; replace hx598_0 := (HB.out.cell (World.block_lt_of_cell? w _ hx598_0)).trans hx598_0; replace hx598_1 := (HB.out.cell (World.block_lt_of_cell? w _ hx598_1)).trans hx598_1; replace hx598_2 := (HB.out.cell (World.block_lt_of_cell? w _ hx598_2)).trans hx598_2; replace hx598_3 := (HB.out.cell (World.block_lt_of_cell? w _ hx598_3)).trans hx598_3; replace p598 := eq_true p598; replace q598 := eq_true q598) | ((with_reducible refine gate_dst (N := 11) rfl ?_); (try (refine gate_guard (by rfl) ?_; dsimp only)); refine bx_ 11 #[.int .i64 0, .int .i64 0, .int .i64 0, .int .i64 0] 54 ?_; intro gb599 hg w50 BK599 hb; have GE599 := ge_ (w := w) hg; replace HB := hst_ hb; have NB596_599 := am_ (nl_ BK596.out hg); have NB599_596 := am_ (ng_ BK596.out hg); replace BK596 := am_ (bb_ BK596.out hb); have NB597_599 := am_ (nl_ BK597.out hg); have NB599_597 := am_ (ng_ BK597.out hg); replace BK597 := am_ (bb_ BK597.out hb); clear hb hg; have hnb51 := NB599_596.out; have hnc51 := NB596_599.out; have hnb52 := NB599_597.out; have hnc52 := NB597_599.out; obtain ⟨hcz53_0, hcz53_1, hcz53_2, hcz53_3, hfz53_0, hfz53_1, hfz53_2, hfz53_3⟩ := cf4_ BK599.out; obtain ⟨hcz54_0, hcz54_1, hcz54_2, hfz54_0, hfz54_1, hfz54_2⟩ := cf3_ BK597.out))
         go_ret
         exact ⟨er_, hb_⟩
       ·rw [if_neg c33] at H
        have c33b0 := decide_eq_false c33; clear c33; obtain rfl := Option.some.inj H
        go_enter Try.func82, Try.ntmps82
        go_wp2_with (first | ((with_reducible refine gate_dst (N := 5) rfl ?_); (try (refine gate_guard (by rfl) ?_; dsimp only)); refine bx_ 5 #[.int .i64 a0_0, .bool a0_1, .slice A0_2 l0_2.length c0_2] 24 ?_; intro gb596 hg w55 BK596 hb; have GE596 := ge_ (w := w) hg; replace HB := hst_ hb; clear hb hg) | ((with_reducible refine gate_dst (N := 9) rfl ?_); (try (refine gate_guard (by rfl) ?_; dsimp only)); refine bx_ 9 #[.int .i64 a4_0, .int .i64 a4_1, .int .i64 a4_2] 85 ?_; intro gb597 hg w56 BK597 hb; have GE597 := ge_ (w := w) hg; replace HB := hst_ hb; have NB596_597 := am_ (nl_ BK596.out hg); have NB597_596 := am_ (ng_ BK596.out hg); replace BK596 := am_ (bb_ BK596.out hb); clear hb hg; have hnb57 := NB597_596.out; have hnc57 := NB596_597.out; obtain ⟨hcz58_0, hcz58_1, hcz58_2, hfz58_0, hfz58_1, hfz58_2⟩ := cf3_ BK597.out; obtain ⟨hcz59_0, hcz59_1, hcz59_2, hfz59_0, hfz59_1, hfz59_2⟩ := cf3_ BK596.out; have p598 : 0 ≤ (a4_0 : Int) := of_decide_eq_true sm_; have q598 : a4_0 < (l0_2.length : Int) := of_decide_eq_true sm_; obtain ⟨ad598, e598, hx598_0, hx598_1, hx598_2, hx598_3⟩ := at_T54 HR0_2.out a4_0 p598 q598; cases e598; replace hx598_0 := (HB.out.cell (World.block_lt_of_cell? w _ hx598_0)).trans hx598_0; replace hx598_1 := (HB.out.cell (World.block_lt_of_cell? w _ hx598_1)).trans hx598_1; replace hx598_2 := (HB.out.cell (World.block_lt_of_cell? w _ hx598_2)).trans hx598_2; replace hx598_3 := (HB.out.cell (World.block_lt_of_cell? w _ hx598_3)).trans hx598_3; replace p598 := eq_true p598; replace q598 := eq_true q598) | ((with_reducible refine gate_dst (N := 11) rfl ?_); (try (refine gate_guard (by rfl) ?_; dsimp only)); refine bx_ 11 #[.int .i64 0, .int .i64 0, .int .i64 0, .int .i64 0] 54 ?_; intro gb599 hg w60 BK599 hb; have GE599 := ge_ (w := w) hg; replace HB := hst_ hb; have NB596_599 := am_ (nl_ BK596.out hg); have NB599_596 := am_ (ng_ BK596.out hg); replace BK596 := am_ (bb_ BK596.out hb); have NB597_599 := am_ (nl_ BK597.out hg); have NB599_597 := am_ (ng_ BK597.out hg); replace BK597 := am_ (bb_ BK597.out hb); clear hb hg; have hnb61 := NB599_596.out; have hnc61 := NB596_599.out; have hnb62 := NB599_597.out; have hnc62 := NB597_599.out; obtain ⟨hcz63_0, hcz63_1, hcz63_2, hcz63_3, hfz63_0, hfz63_1, hfz63_2, hfz63_3⟩ := cf4_ BK599.out; obtain ⟨hcz64_0, hcz64_1, hcz64_2, hfz64_0, hfz64_1, hfz64_2⟩ := cf3_ BK597.out))
        go_ret
        exact ⟨er_, hb_⟩
      ·rw [if_neg c32] at H
       have c32b0 := decide_eq_false c32; clear c32; obtain rfl := Option.some.inj H
       go_enter Try.func82, Try.ntmps82
       go_wp2_with (first | ((with_reducible refine gate_dst (N := 5) rfl ?_); (try (refine gate_guard (by rfl) ?_; dsimp only)); refine bx_ 5 #[.int .i64 a0_0, .bool a0_1, .slice A0_2 l0_2.length c0_2] 24 ?_; intro gb596 hg w65 BK596 hb; have GE596 := ge_ (w := w) hg; replace HB := hst_ hb; clear hb hg) | ((with_reducible refine gate_dst (N := 9) rfl ?_); (try (refine gate_guard (by rfl) ?_; dsimp only)); refine bx_ 9 #[.int .i64 a4_0, .int .i64 a4_1, .int .i64 a4_2] 85 ?_; intro gb597 hg w66 BK597 hb; have GE597 := ge_ (w := w) hg; replace HB := hst_ hb; have NB596_597 := am_ (nl_ BK596.out hg); have NB597_596 := am_ (ng_ BK596.out hg); replace BK596 := am_ (bb_ BK596.out hb); clear hb hg; have hnb67 := NB597_596.out; have hnc67 := NB596_597.out; obtain ⟨hcz68_0, hcz68_1, hcz68_2, hfz68_0, hfz68_1, hfz68_2⟩ := cf3_ BK597.out; obtain ⟨hcz69_0, hcz69_1, hcz69_2, hfz69_0, hfz69_1, hfz69_2⟩ := cf3_ BK596.out; have p598 : 0 ≤ (a4_0 : Int) := of_decide_eq_true sm_; have q598 : a4_0 < (l0_2.length : Int) := of_decide_eq_true sm_; obtain ⟨ad598, e598, hx598_0, hx598_1, hx598_2, hx598_3⟩ := at_T54 HR0_2.out a4_0 p598 q598; cases e598; replace hx598_0 := (HB.out.cell (World.block_lt_of_cell? w _ hx598_0)).trans hx598_0; replace hx598_1 := (HB.out.cell (World.block_lt_of_cell? w _ hx598_1)).trans hx598_1; replace hx598_2 := (HB.out.cell (World.block_lt_of_cell? w _ hx598_2)).trans hx598_2; replace hx598_3 := (HB.out.cell (World.block_lt_of_cell? w _ hx598_3)).trans hx598_3; replace p598 := eq_true p598; replace q598 := eq_true q598) | ((with_reducible refine gate_dst (N := 11) rfl ?_); (try (refine gate_guard (by rfl) ?_; dsimp only)); refine bx_ 11 #[.int .i64 0, .int .i64 0, .int .i64 0, .int .i64 0] 54 ?_; intro gb599 hg w70 BK599 hb; have GE599 := ge_ (w := w) hg; replace HB := hst_ hb; have NB596_599 := am_ (nl_ BK596.out hg); have NB599_596 := am_ (ng_ BK596.out hg); replace BK596 := am_ (bb_ BK596.out hb); have NB597_599 := am_ (nl_ BK597.out hg); have NB599_597 := am_ (ng_ BK597.out hg); replace BK597 := am_ (bb_ BK597.out hb); clear hb hg; have hnb71 := NB599_596.out; have hnc71 := NB596_599.out; have hnb72 := NB599_597.out; have hnc72 := NB597_599.out; obtain ⟨hcz73_0, hcz73_1, hcz73_2, hcz73_3, hfz73_0, hfz73_1, hfz73_2, hfz73_3⟩ := cf4_ BK599.out; obtain ⟨hcz74_0, hcz74_1, hcz74_2, hfz74_0, hfz74_1, hfz74_2⟩ := cf3_ BK597.out))
       go_ret
       exact ⟨er_, hb_⟩
     ·rw [if_neg c31] at H
      have c31b0 := decide_eq_false c31; clear c31; obtain rfl := Option.some.inj H
      go_enter Try.func82, Try.ntmps82
      go_wp2_with (first | ((with_reducible refine gate_dst (N := 5) rfl ?_); (try (refine gate_guard (by rfl) ?_; dsimp only)); refine bx_ 5 #[.int .i64 a0_0, .bool a0_1, .slice A0_2 l0_2.length c0_2] 24 ?_; intro gb596 hg w75 BK596 hb; have GE596 := ge_ (w := w) hg; replace HB := hst_ hb; clear hb hg) | ((with_reducible refine gate_dst (N := 9) rfl ?_); (try (refine gate_guard (by rfl) ?_; dsimp only)); refine bx_ 9 #[.int .i64 a4_0, .int .i64 a4_1, .int .i64 a4_2] 85 ?_; intro gb597 hg w76 BK597 hb; have GE597 := ge_ (w := w) hg; replace HB := hst_ hb; have NB596_597 := am_ (nl_ BK596.out hg); have NB597_596 := am_ (ng_ BK596.out hg); replace BK596 := am_ (bb_ BK596.out hb); clear hb hg; have hnb77 := NB597_596.out; have hnc77 := NB596_597.out; obtain ⟨hcz78_0, hcz78_1, hcz78_2, hfz78_0, hfz78_1, hfz78_2⟩ := cf3_ BK597.out; obtain ⟨hcz79_0, hcz79_1, hcz79_2, hfz79_0, hfz79_1, hfz79_2⟩ := cf3_ BK596.out; have p598 : 0 ≤ (a4_0 : Int) := of_decide_eq_true sm_; have q598 : a4_0 < (l0_2.length : Int) := of_decide_eq_true sm_; obtain ⟨ad598, e598, hx598_0, hx598_1, hx598_2, hx598_3⟩ := at_T54 HR0_2.out a4_0 p598 q598; cases e598; replace hx598_0 := (HB.out.cell (World.block_lt_of_cell? w _ hx598_0)).trans hx598_0; replace hx598_1 := (HB.out.cell (World.block_lt_of_cell? w _ hx598_1)).trans hx598_1; replace hx598_2 := (HB.out.cell (World.block_lt_of_cell? w _ hx598_2)).trans hx598_2; replace hx598_3 := (HB.out.cell (World.block_lt_of_cell? w _ hx598_3)).trans hx598_3; replace p598 := eq_true p598; replace q598 := eq_true q598) | ((with_reducible refine gate_dst (N := 11) rfl ?_); (try (refine gate_guard (by rfl) ?_; dsimp only)); refine bx_ 11 #[.int .i64 0, .int .i64 0, .int .i64 0, .int .i64 0] 54 ?_; intro gb599 hg w80 BK599 hb; have GE599 := ge_ (w := w) hg; replace HB := hst_ hb; have NB596_599 := am_ (nl_ BK596.out hg); have NB599_596 := am_ (ng_ BK596.out hg); replace BK596 := am_ (bb_ BK596.out hb); have NB597_599 := am_ (nl_ BK597.out hg); have NB599_597 := am_ (ng_ BK597.out hg); replace BK597 := am_ (bb_ BK597.out hb); clear hb hg; have hnb81 := NB599_596.out; have hnc81 := NB596_599.out; have hnb82 := NB599_597.out; have hnc82 := NB597_599.out; obtain ⟨hcz83_0, hcz83_1, hcz83_2, hcz83_3, hfz83_0, hfz83_1, hfz83_2, hfz83_3⟩ := cf4_ BK599.out; obtain ⟨hcz84_0, hcz84_1, hcz84_2, hfz84_0, hfz84_1, hfz84_2⟩ := cf3_ BK597.out))
      go_ret
      exact ⟨er_, hb_⟩
def ebbtideref14_Merged.l0 : Nat → Int → Int → Int → List (S85) → Int → Int → Bool → List (S54) → Option ((List (S85)) × Int)
 | 0, _, _, _, _, _, _, _, _ => none
 | k + 1, x1, x2, x3, x13, x15, x601000, x601001, x601002 => if x15 < (x13.length : Int) then (if 0 ≤ x15 then ((ebbtideref14_Move.f x601000 x601001 x601002 x1 x2 x3 ((rd_T85 x13 x15).f0) ((rd_T85 x13 x15).f1) ((rd_T85 x13 x15).f2)).bind fun t607 => (if t607 = true then (ebbtideref14_Merged.l0 k x1 x2 x3 x13 (wrap64 (x15 + 1)) x601000 x601001 x601002) else (some (([] : List (S85)), 140)))) else (none)) else (some (x13, 0))
def ebbtideref14_Merged.f (k : Nat) (a0_0 : Int) (a0_1 : Bool) (l0_2 : List (S54)) (a1 : Int) (a2 : Int) (a3 : Int) (l4 : List (S85)) : Option ((List (S85)) × Int) := (ebbtideref12_Asked.f k a0_0 a0_1 l0_2 a1 a2 a3).bind fun t601 => (if t601 = 0 then ((ebbtideref03_Moves.f k l4).bind fun bt602 => (if bt602.2 = 0 then (ebbtideref14_Merged.l0 k a1 a2 a3 bt602.1 0 a0_0 a0_1 l0_2) else (some (([] : List (S85)), bt602.2)))) else (some (([] : List (S85)), t601)))
def ebbtideref14_Merged.T10 : Bool × List (List Nat × List Nat) := (true, [([], []), ([], []), ([], []), ([], []), ([], []), ([], []), ([4, 5], [4, 5]), ([6], [6]), ([0, 1, 2, 3, 7], [0, 1, 2, 3, 7]), ([8], [8])])
def ebbtideref14_Merged.B10 : List Nat := [0, 0, 0, 0, 0, 0, 48, 112, 255, 511]
theorem ebbtideref14_Merged.tab10 : rtab .any (opsOf Try.f51 10) = ebbtideref14_Merged.T10 := by kernel_rfl
theorem ebbtideref14_Merged.bits10 : waitsOk ebbtideref14_Merged.T10.2 ebbtideref14_Merged.B10 = true := by kernel_rfl
set_option maxHeartbeats 8000000 in
set_option maxRecDepth 100000 in
theorem ebbtideref14_Merged.calls (k : Nat) (a0_0 : Int) (a0_1 : Bool) (A0_2 : Option Addr) (c0_2 : Nat) (l0_2 : List (S54)) (a1 : Int) (a2 : Int) (a3 : Int) (A4 : Option Addr) (c4 : Nat) (l4 : List (S85)) (r1 : List (S85)) (r2 : Int) (w : World) (hr0_2 : Kd.C k54 w A0_2 l0_2.length l0_2) (hc0_2 : l0_2.length ≤ c0_2) (hr4 : Kd.C k85 w A4 l4.length l4) (hc4 : l4.length ≤ c4) (h : ebbtideref14_Merged.f k a0_0 a0_1 l0_2 a1 a2 a3 l4 = some (r1, r2)) :
  Calls Try.prog 51 #[.agg #[.int .i64 a0_0, .bool a0_1, .slice A0_2 l0_2.length c0_2], .int .i64 a1, .int .i64 a2, .int .i64 a3, .slice A4 l4.length c4] w fun e w' => ∃ v0_ : Value, e = .returned (.tuple #[v0_, .int .i64 r2]) ∧ Kd.R k85 85 w' w.heap.size (fun _ => True) v0_ r1 ∧ Below w.heap.size w w' := by
 have hu24 := Try.underlying24; have hu85 := Try.underlying85; have HR0_2 := am_ hr0_2; have HC0_2 := am_ hc0_2; clear hr0_2 hc0_2; have HR4 := am_ hr4; have HC4 := am_ hc4; clear hr4 hc4; have HB := am_ (Below.refl w.heap.size w); have H : ((ebbtideref12_Asked.f k a0_0 a0_1 l0_2 a1 a2 a3).bind fun t601 => (if t601 = 0 then ((ebbtideref03_Moves.f k l4).bind fun bt602 => (if bt602.2 = 0 then (ebbtideref14_Merged.l0 k a1 a2 a3 bt602.1 0 a0_0 a0_1 l0_2) else (some (([] : List (S85)), bt602.2)))) else (some (([] : List (S85)), t601)))) = some (r1, r2) := h; clear h; replace H := Option.bind_eq_some_iff.mp H; obtain ⟨t601, A60, H⟩ := H; replace H : (if t601 = 0 then ((ebbtideref03_Moves.f k l4).bind fun bt602 => (if bt602.2 = 0 then (ebbtideref14_Merged.l0 k a1 a2 a3 bt602.1 0 a0_0 a0_1 l0_2) else (some (([] : List (S85)), bt602.2)))) else (some (([] : List (S85)), t601))) = some (r1, r2) := H; have A6 := am_ A60; clear A60
 by_cases c7 : t601 = 0
 ·rw [if_pos c7] at H
  obtain ⟨c7b0, c7b1⟩ := eqb_ c7; clear c7; replace H := Option.bind_eq_some_iff.mp H; obtain ⟨⟨t602, t603⟩, A80, H⟩ := H; replace H : (if t603 = 0 then (ebbtideref14_Merged.l0 k a1 a2 a3 t602 0 a0_0 a0_1 l0_2) else (some (([] : List (S85)), t603))) = some (r1, r2) := H; have A8 := am_ A80; clear A80
  by_cases c9 : t603 = 0
  ·rw [if_pos c9] at H
   obtain ⟨c9b0, c9b1⟩ := eqb_ c9; clear c9; have H' := am_ H; clear H
   go_enter Try.func51, Try.ntmps51
   go_wp2_with (first | ((with_reducible refine gate_dst (N := 5) rfl ?_); refine bx_ 5 #[.int .i64 a0_0, .bool a0_1, .slice A0_2 l0_2.length c0_2] 24 ?_; intro gb600 hg w10 BK600 hb; have GE600 := ge_ (w := w) hg; replace HB := hst_ hb; clear hb hg; obtain ⟨hcz11_0, hcz11_1, hcz11_2, hfz11_0, hfz11_1, hfz11_2⟩ := cf3_ BK600.out) | ((with_reducible refine gate_callee (f := 65) rfl ?_); refine cl_ 20 Try.func65 (ebbtideref12_Asked.calls k a0_0 a0_1 _ _ l0_2 a1 a2 a3 t601 _ (cb_ HR0_2.out) HC0_2.out A6.out) ?_; rintro e w12 ⟨rfl, hb⟩; refine ⟨_, rfl, ?_⟩; replace BK600 := am_ (bb_ BK600.out hb); replace HB := hst_ hb; (try clear hb); (try clear hb2); (try clear hk); (try clear hi)) | ((with_reducible refine gate_callee (f := 31) rfl ?_); refine cl_ 26 Try.func31 (ebbtideref03_Moves.calls k _ _ l4 t602 t603 _ (cb_ HR4.out) HC4.out A8.out) ?_; rintro e w13 ⟨v604, rfl, ho0, hb⟩; refine ⟨_, rfl, ?_⟩; have HO605 := am_ (Kd.R_lower ho0 (below_size hb_)); replace BK600 := am_ (bb_ BK600.out hb); replace HB := hst_ hb; (try clear hb); (try clear hb2); (try clear hk); (try clear hi); (try clear ho0)))
   go_loopg [15] k (fun kq v15 w' => ∃ (x15_1 : Int), v15 = .int .i64 x15_1 ∧ Aside0 (ebbtideref14_Merged.l0 kq a1 a2 a3 t602 x15_1 a0_0 a0_1 l0_2 = some (r1, r2)) ∧ Aside0 (kq ≤ k) ∧ Aside0 (Kd.R k85 85 w' w.heap.size (fun _ => True) v604 t602) ∧ Aside0 (w'.heap[gb600]? = some (.cells #[.int .i64 a0_0, .bool a0_1, (.slice A0_2 l0_2.length c0_2)] 24 (0, 0))) ∧ Aside0 (Below w.heap.size w w'))
   case atStart => exact ⟨(0), rs_, H', ⟨Nat.le_refl _⟩, ⟨rq_ HO605.out⟩, ⟨bq_ BK600.out⟩, ⟨hb_⟩⟩
   case round =>
    clear H'
    try clear p2
    try clear c3
    try clear c4
    try clear c5
    try clear c6
    try clear c7
    try clear c7b0
    try clear c7b1
    try clear c9
    try clear c9b0
    try clear c9b1
    try clear hcz11_0 hcz11_1 hcz11_2 hfz11_0 hfz11_1 hfz11_2
    obtain ⟨x15_1, rfl, HA, HK1, HO_13, BK600, HB⟩ := hrel
    cases gk with
    | zero => exact absurd HA.out (by simp [ebbtideref14_Merged.l0])
    | succ k1 =>
     have H := HA.out; clear HA; simp only [ebbtideref14_Merged.l0] at H
     by_cases c14 : x15_1 < (t602.length : Int)
     ·rw [if_pos c14] at H
      have c14b0 := decide_eq_true c14; clear c14
      replace H := ifn_ H; obtain ⟨c15, H⟩ := H
      have c15b0 := decide_eq_true c15; clear c15; replace H := Option.bind_eq_some_iff.mp H; obtain ⟨t607, A160, H⟩ := H; replace H : (if t607 = true then (ebbtideref14_Merged.l0 k1 a1 a2 a3 t602 (wrap64 (x15_1 + 1)) a0_0 a0_1 l0_2) else (some (([] : List (S85)), 140))) = some (r1, r2) := H; have A16 := am_ A160; clear A160
      by_cases c17 : t607 = true
      ·subst c17
       have H1 : (ebbtideref14_Merged.l0 k1 a1 a2 a3 t602 (wrap64 (x15_1 + 1)) a0_0 a0_1 l0_2) = some (r1, r2) := by rw [if_pos rfl] at H; exact H
       clear H; have H := H1; clear H1; have H' := am_ H; clear H; obtain ⟨Ao18, co18, eo18⟩ := Kd.R_slice HO_13.out; subst eo18
       try go_wp2
       replace HO_13 := am_ (Kd.R_drew HO_13.out); replace BK600 := am_ (blk_drew BK600.out); replace HB := am_ (below_drew1 HB.out); have p606 : 0 ≤ (x15_1 : Int) := of_decide_eq_true sm_; have q606 : x15_1 < (t602.length : Int) := of_decide_eq_true sm_; obtain ⟨ad606, e606, hx606_0, hx606_1, hx606_2⟩ := at_T85 (Kd.R_reads' HO_13.out).2.2 x15_1 p606 q606; cases e606; replace p606 := eq_true p606; replace q606 := eq_true q606; refine start_ (n := 10) (S := fun w' => w'.cell? ⟨gb600, 0, none⟩ = some (.int .i64 a0_0) ∧ w'.cell? ⟨gb600, 1, none⟩ = some (.bool a0_1) ∧ w'.cell? ⟨gb600, 2, none⟩ = some (.slice A0_2 l0_2.length c0_2) ∧ w'.cell? (ad606.add ((x15_1).toNat * 3)) = some (.int .i64 ((rd_T85 t602 x15_1).f0)) ∧ w'.cell? ⟨(ad606.add ((x15_1).toNat * 3)).block, (ad606.add ((x15_1).toNat * 3)).off + 1, none⟩ = some (.int .i64 ((rd_T85 t602 x15_1).f1)) ∧ w'.cell? ⟨(ad606.add ((x15_1).toNat * 3)).block, (ad606.add ((x15_1).toNat * 3)).off + 2, none⟩ = some (.int .i64 ((rd_T85 t602 x15_1).f2))) (ds := []) #[Ff,Ff,Ff,Ff,Ff,Ff,Ff,Ff,Ff,Ff] (by kernel_rfl) rfl rfl ⟨(blk_cell BK600.out 0).trans rfl, (blk_cell BK600.out 1).trans rfl, (blk_cell BK600.out 2).trans rfl, hx606_0, hx606_1, hx606_2⟩ (fun hHeld => ?_); refine with_tabW ebbtideref14_Merged.tab10 ebbtideref14_Merged.bits10 (fun HT_ HW_ => ?_); generalize wr.drew = w19 at HO_13 BK600 HB hx606_0 hx606_1 hx606_2 hHeld ⊢; refine pw_ 1 39 ?_; refine pw_ 2 40 ?_; refine pw_ 3 41 ?_; refine pw_ 4 42 ?_; refine pw_ 5 43 ?_; refine pw_ 6 44 ?_; refine tk_ 0 38 ?_; refine tk_ 7 45 ?_; refine one_ (i := 8) (N := some 46) #[Tt,Tt,Tt,Tt,Tt,Tt,Tt,Tt,Tt,Ff] rfl rfl (one_of HT_.out (by kernel_rfl)) (by decide) (fun K hK => ?_); refine goes_ Try.func82 (by kernel_rfl) rfl #[.agg #[.int .i64 a0_0, .bool a0_1, .slice A0_2 l0_2.length c0_2], .int .i64 a1, .int .i64 a2, .int .i64 a3, .agg #[.int .i64 ((rd_T85 t602 x15_1).f0), .int .i64 ((rd_T85 t602 x15_1).f1), .int .i64 ((rd_T85 t602 x15_1).f2)]] (by rfl) rfl rfl mt_ ?_
       with_reducible refine (ebbtideref14_Move.calls a0_0 a0_1 _ _ l0_2 a1 a2 a3 ((rd_T85 t602 x15_1).f0) ((rd_T85 t602 x15_1).f1) ((rd_T85 t602 x15_1).f2) true _ ?side1 ?side2 A16.out).mono ?_
       (case side1 => exact cb_ HR0_2.out)
       (case side2 => exact HC0_2.out)
       rintro e w20 ⟨rfl, hb⟩; have HS3_ := (hb.cell (World.block_lt_of_cell? _ _ (hHeld.2.2.2.1))).trans (hHeld.2.2.2.1); have HS4_ := (hb.cell (World.block_lt_of_cell? _ _ (hHeld.2.2.2.2.1))).trans (hHeld.2.2.2.2.1); have HS5_ := (hb.cell (World.block_lt_of_cell? _ _ (hHeld.2.2.2.2.2))).trans (hHeld.2.2.2.2.2); refine ⟨_, rfl, ?_⟩; replace HO_13 := am_ (Kd.R_below (rq_ HO_13.out) hb); replace BK600 := am_ (bb_ BK600.out hb); replace HB := hst_ hb
       (try clear hb)
       (try clear hb2)
       (try clear hk)
       (try clear hi)
       refine hK.out _ _ ⟨(blk_cell BK600.out 0).trans rfl, (blk_cell BK600.out 1).trans rfl, (blk_cell BK600.out 2).trans rfl, HS3_, HS4_, HS5_⟩ (fun hHeld => ?_); clear hK K; refine norm_ (a' := ?_) ?_ ?_; rotate_left
       ·show Act.put _ (some 46) _ = _
        simp only [Act.put, List.setIfInBounds_toArray, List.set_cons_zero, List.set_cons_succ, i64_w, i32_w]; rfl
       refine pw_ 9 47 ?_; refine done_ (done_of HT_.out (by kernel_rfl)) ?_
       try go_wp2
       go_roundg k1
       case measure => have := HK1.out; omega
       case rel => exact ⟨(wrap64 (x15_1 + 1)), rs_, H', ⟨by have := HK1.out; omega⟩, ⟨rq_ HO_13.out⟩, ⟨bq_ BK600.out⟩, ⟨hb_⟩⟩
      ·replace c17 := Bool.eq_false_iff.mpr c17
       subst c17
       have H1 : (some (([] : List (S85)), 140)) = some (r1, r2) := by rw [if_neg (show ¬ (false = true) by decide)] at H; exact H
       clear H; have H := H1; clear H1; simp only [Option.some.injEq, Prod.mk.injEq] at H; obtain ⟨rfl, rfl⟩ := H; obtain ⟨Ao21, co21, eo21⟩ := Kd.R_slice HO_13.out; subst eo21
       try go_wp2
       replace HO_13 := am_ (Kd.R_drew HO_13.out); replace BK600 := am_ (blk_drew BK600.out); replace HB := am_ (below_drew1 HB.out); have p606 : 0 ≤ (x15_1 : Int) := of_decide_eq_true sm_; have q606 : x15_1 < (t602.length : Int) := of_decide_eq_true sm_; obtain ⟨ad606, e606, hx606_0, hx606_1, hx606_2⟩ := at_T85 (Kd.R_reads' HO_13.out).2.2 x15_1 p606 q606; cases e606; replace p606 := eq_true p606; replace q606 := eq_true q606; refine start_ (n := 10) (S := fun w' => w'.cell? ⟨gb600, 0, none⟩ = some (.int .i64 a0_0) ∧ w'.cell? ⟨gb600, 1, none⟩ = some (.bool a0_1) ∧ w'.cell? ⟨gb600, 2, none⟩ = some (.slice A0_2 l0_2.length c0_2) ∧ w'.cell? (ad606.add ((x15_1).toNat * 3)) = some (.int .i64 ((rd_T85 t602 x15_1).f0)) ∧ w'.cell? ⟨(ad606.add ((x15_1).toNat * 3)).block, (ad606.add ((x15_1).toNat * 3)).off + 1, none⟩ = some (.int .i64 ((rd_T85 t602 x15_1).f1)) ∧ w'.cell? ⟨(ad606.add ((x15_1).toNat * 3)).block, (ad606.add ((x15_1).toNat * 3)).off + 2, none⟩ = some (.int .i64 ((rd_T85 t602 x15_1).f2))) (ds := []) #[Ff,Ff,Ff,Ff,Ff,Ff,Ff,Ff,Ff,Ff] (by kernel_rfl) rfl rfl ⟨(blk_cell BK600.out 0).trans rfl, (blk_cell BK600.out 1).trans rfl, (blk_cell BK600.out 2).trans rfl, hx606_0, hx606_1, hx606_2⟩ (fun hHeld => ?_); refine with_tabW ebbtideref14_Merged.tab10 ebbtideref14_Merged.bits10 (fun HT_ HW_ => ?_); generalize wr.drew = w22 at HO_13 BK600 HB hx606_0 hx606_1 hx606_2 hHeld ⊢; refine pw_ 1 39 ?_; refine pw_ 2 40 ?_; refine pw_ 3 41 ?_; refine pw_ 4 42 ?_; refine pw_ 5 43 ?_; refine pw_ 6 44 ?_; refine tk_ 0 38 ?_; refine tk_ 7 45 ?_; refine one_ (i := 8) (N := some 46) #[Tt,Tt,Tt,Tt,Tt,Tt,Tt,Tt,Tt,Ff] rfl rfl (one_of HT_.out (by kernel_rfl)) (by decide) (fun K hK => ?_); refine goes_ Try.func82 (by kernel_rfl) rfl #[.agg #[.int .i64 a0_0, .bool a0_1, .slice A0_2 l0_2.length c0_2], .int .i64 a1, .int .i64 a2, .int .i64 a3, .agg #[.int .i64 ((rd_T85 t602 x15_1).f0), .int .i64 ((rd_T85 t602 x15_1).f1), .int .i64 ((rd_T85 t602 x15_1).f2)]] (by rfl) rfl rfl mt_ ?_
       with_reducible refine (ebbtideref14_Move.calls a0_0 a0_1 _ _ l0_2 a1 a2 a3 ((rd_T85 t602 x15_1).f0) ((rd_T85 t602 x15_1).f1) ((rd_T85 t602 x15_1).f2) false _ ?side1 ?side2 A16.out).mono ?_
       (case side1 => exact cb_ HR0_2.out)
       (case side2 => exact HC0_2.out)
       rintro e w23 ⟨rfl, hb⟩; have HS3_ := (hb.cell (World.block_lt_of_cell? _ _ (hHeld.2.2.2.1))).trans (hHeld.2.2.2.1); have HS4_ := (hb.cell (World.block_lt_of_cell? _ _ (hHeld.2.2.2.2.1))).trans (hHeld.2.2.2.2.1); have HS5_ := (hb.cell (World.block_lt_of_cell? _ _ (hHeld.2.2.2.2.2))).trans (hHeld.2.2.2.2.2); refine ⟨_, rfl, ?_⟩; replace HO_13 := am_ (Kd.R_below (rq_ HO_13.out) hb); replace BK600 := am_ (bb_ BK600.out hb); replace HB := hst_ hb
       (try clear hb)
       (try clear hb2)
       (try clear hk)
       (try clear hi)
       refine hK.out _ _ ⟨(blk_cell BK600.out 0).trans rfl, (blk_cell BK600.out 1).trans rfl, (blk_cell BK600.out 2).trans rfl, HS3_, HS4_, HS5_⟩ (fun hHeld => ?_); clear hK K; refine norm_ (a' := ?_) ?_ ?_; rotate_left
       ·show Act.put _ (some 46) _ = _
        simp only [Act.put, List.setIfInBounds_toArray, List.set_cons_zero, List.set_cons_succ, i64_w, i32_w]; rfl
       refine pw_ 9 47 ?_; refine done_ (done_of HT_.out (by kernel_rfl)) ?_
       try go_wp2
       go_ret2
       exact ⟨_, er_, ni_, hb_⟩
     ·rw [if_neg c14] at H
      have c14b0 := decide_eq_false c14; clear c14; simp only [Option.some.injEq, Prod.mk.injEq] at H; obtain ⟨rfl, rfl⟩ := H; obtain ⟨Ao24, co24, eo24⟩ := Kd.R_slice HO_13.out; subst eo24
      go_wp2
      go_ret2
      exact ⟨_, er_, by refine rq_ ?_; exact HO_13.out, hb_⟩
  ·rw [if_neg c9] at H
   obtain ⟨c9b0, c9b1⟩ := neb_ c9; simp only [Option.some.injEq, Prod.mk.injEq] at H; obtain ⟨rfl, rfl⟩ := H
   go_enter Try.func51, Try.ntmps51
   go_wp2_with (first | ((with_reducible refine gate_dst (N := 5) rfl ?_); refine bx_ 5 #[.int .i64 a0_0, .bool a0_1, .slice A0_2 l0_2.length c0_2] 24 ?_; intro gb600 hg w25 BK600 hb; have GE600 := ge_ (w := w) hg; replace HB := hst_ hb; clear hb hg; obtain ⟨hcz26_0, hcz26_1, hcz26_2, hfz26_0, hfz26_1, hfz26_2⟩ := cf3_ BK600.out) | ((with_reducible refine gate_callee (f := 65) rfl ?_); refine cl_ 20 Try.func65 (ebbtideref12_Asked.calls k a0_0 a0_1 _ _ l0_2 a1 a2 a3 t601 _ (cb_ HR0_2.out) HC0_2.out A6.out) ?_; rintro e w27 ⟨rfl, hb⟩; refine ⟨_, rfl, ?_⟩; replace BK600 := am_ (bb_ BK600.out hb); replace HB := hst_ hb; (try clear hb); (try clear hb2); (try clear hk); (try clear hi)) | ((with_reducible refine gate_callee (f := 31) rfl ?_); refine cl_ 26 Try.func31 (ebbtideref03_Moves.calls k _ _ l4 t602 t603 _ (cb_ HR4.out) HC4.out A8.out) ?_; rintro e w28 ⟨v604, rfl, ho0, hb⟩; refine ⟨_, rfl, ?_⟩; have HO605 := am_ (Kd.R_lower ho0 (below_size hb_)); replace BK600 := am_ (bb_ BK600.out hb); replace HB := hst_ hb; (try clear hb); (try clear hb2); (try clear hk); (try clear hi); (try clear ho0)))
   go_ret2
   exact ⟨_, er_, ni_, hb_⟩
 ·rw [if_neg c7] at H
  obtain ⟨c7b0, c7b1⟩ := neb_ c7; simp only [Option.some.injEq, Prod.mk.injEq] at H; obtain ⟨rfl, rfl⟩ := H
  go_enter Try.func51, Try.ntmps51
  go_wp2_with (first | ((with_reducible refine gate_dst (N := 5) rfl ?_); refine bx_ 5 #[.int .i64 a0_0, .bool a0_1, .slice A0_2 l0_2.length c0_2] 24 ?_; intro gb600 hg w29 BK600 hb; have GE600 := ge_ (w := w) hg; replace HB := hst_ hb; clear hb hg; obtain ⟨hcz30_0, hcz30_1, hcz30_2, hfz30_0, hfz30_1, hfz30_2⟩ := cf3_ BK600.out) | ((with_reducible refine gate_callee (f := 65) rfl ?_); refine cl_ 20 Try.func65 (ebbtideref12_Asked.calls k a0_0 a0_1 _ _ l0_2 a1 a2 a3 t601 _ (cb_ HR0_2.out) HC0_2.out A6.out) ?_; rintro e w31 ⟨rfl, hb⟩; refine ⟨_, rfl, ?_⟩; replace BK600 := am_ (bb_ BK600.out hb); replace HB := hst_ hb; (try clear hb); (try clear hb2); (try clear hk); (try clear hi)))
  go_ret2
  exact ⟨_, er_, ni_, hb_⟩
end Go.Proofs.Ytfhkkbpkajfdlaa.Q
end
