/- A part of the proof: words, contracts, plain lemmas. Conditions: none. -/
import Derived.Test.YtfhkkbpkajfdlaaZExpandRuns9
set_option linter.unusedSimpArgs false
set_option linter.unusedVariables false
open Go.RowKit Go.Proofs.YtfhkkbpkajfdlaaW.PrintWords Go.Proofs.YtfhkkbpkajfdlaaW.PrintLast Go.Proofs.YtfhkkbpkajfdlaaW.PrintMore
section
namespace Go.Proofs.Ytfhkkbpkajfdlaa.Q
def ebbtideref05_Check.l0 : Nat → Int → Int → Bool → List (S54) → Option (Int)
 | 0, _, _, _, _ => none
 | k + 1, x4, x226000, x226001, x226002 => if x4 < (x226002.length : Int) then (if 0 ≤ x4 then ((ebbtideref05_Arc.f k x226000 ((rd_T54 x226002 x4).f0) ((rd_T54 x226002 x4).f1) ((rd_T54 x226002 x4).f2) ((rd_T54 x226002 x4).f3)).bind fun t228 => (if t228 = 0 then (ebbtideref05_Check.l0 k (wrap64 (x4 + 1)) x226000 x226001 x226002) else (some t228))) else (none)) else (some 0)
def ebbtideref05_Check.f (k : Nat) (a0_0 : Int) (a0_1 : Bool) (l0_2 : List (S54)) : Option (Int) := (ebbtideref05_nodes.f a0_0).bind fun t226 => (if t226 = 0 then (if (l0_2.length : Int) > 200 then (some 2) else (ebbtideref05_Check.l0 k 0 a0_0 a0_1 l0_2)) else (some t226))
def ebbtideref05_Check.T9 : Bool × List (List Nat × List Nat) := (true, [([], []), ([0], [0]), ([], []), ([2], [2]), ([], []), ([3, 4], [3, 4]), ([5], [5]), ([1, 6], [1, 6]), ([7, 7, 0, 1, 2, 3, 4, 5, 6, 7], [7])])
def ebbtideref05_Check.B9 : List Nat := [0, 1, 0, 4, 0, 28, 60, 127, 255]
theorem ebbtideref05_Check.tab9 : rtab .any (opsOf Try.f36 9) = ebbtideref05_Check.T9 := by kernel_rfl
theorem ebbtideref05_Check.bits9 : waitsOk ebbtideref05_Check.T9.2 ebbtideref05_Check.B9 = true := by kernel_rfl
set_option maxHeartbeats 8000000 in
set_option maxRecDepth 100000 in
theorem ebbtideref05_Check.calls (k : Nat) (a0_0 : Int) (a0_1 : Bool) (A0_2 : Option Addr) (c0_2 : Nat) (l0_2 : List (S54)) (r : Int) (w : World) (hr0_2 : Kd.C k54 w A0_2 l0_2.length l0_2) (hc0_2 : l0_2.length ≤ c0_2) (h : ebbtideref05_Check.f k a0_0 a0_1 l0_2 = some r) :
  Calls Try.prog 36 #[.agg #[.int .i64 a0_0, .bool a0_1, .slice A0_2 l0_2.length c0_2]] w fun e w' => e = .returned (.int .i64 r) ∧ Below w.heap.size w w' := by
 have hu24 := Try.underlying24; have hu54 := Try.underlying54; have HR0_2 := am_ hr0_2; have HC0_2 := am_ hc0_2; clear hr0_2 hc0_2; have HB := am_ (Below.refl w.heap.size w); have H : ((ebbtideref05_nodes.f a0_0).bind fun t226 => (if t226 = 0 then (if (l0_2.length : Int) > 200 then (some 2) else (ebbtideref05_Check.l0 k 0 a0_0 a0_1 l0_2)) else (some t226))) = some r := h; clear h; replace H := Option.bind_eq_some_iff.mp H; obtain ⟨t226, A20, H⟩ := H; replace H : (if t226 = 0 then (if (l0_2.length : Int) > 200 then (some 2) else (ebbtideref05_Check.l0 k 0 a0_0 a0_1 l0_2)) else (some t226)) = some r := H; have A2 := am_ A20; clear A20
 by_cases c3 : t226 = 0
 ·rw [if_pos c3] at H
  obtain ⟨c3b0, c3b1⟩ := eqb_ c3; clear c3
  by_cases c4 : (l0_2.length : Int) > 200
  ·rw [if_pos c4] at H
   have c4b0 := decide_eq_true c4; have c4b1 : decide (200 < l0_2.length) = true := decide_eq_true (by omega); clear c4; obtain rfl := Option.some.inj H
   go_enter Try.func36, Try.ntmps36
   go_wp2_with (first | ((with_reducible refine gate_dst (N := 1) rfl ?_); refine bx_ 1 #[.int .i64 a0_0, .bool a0_1, .slice A0_2 l0_2.length c0_2] 24 ?_; intro gb225 hg w5 BK225 hb; have GE225 := ge_ (w := w) hg; replace HB := hst_ hb; clear hb hg; obtain ⟨hcz6_0, hcz6_1, hcz6_2, hfz6_0, hfz6_1, hfz6_2⟩ := cf3_ BK225.out) | ((with_reducible refine gate_callee (f := 56) rfl ?_); refine cl_ 8 Try.func56 (ebbtideref05_nodes.calls a0_0 t226 _ A2.out) ?_; rintro e w' ⟨rfl, ⟨nd, rfl⟩⟩; refine ⟨_, rfl, ?_⟩))
   go_ret
   exact ⟨er_, hb_⟩
  ·rw [if_neg c4] at H
   have c4b0 := decide_eq_false c4; have c4b1 : decide (200 < l0_2.length) = false := decide_eq_false (by omega); clear c4; have H' := am_ H; clear H
   go_enter Try.func36, Try.ntmps36
   go_wp2_with (first | ((with_reducible refine gate_dst (N := 1) rfl ?_); refine bx_ 1 #[.int .i64 a0_0, .bool a0_1, .slice A0_2 l0_2.length c0_2] 24 ?_; intro gb225 hg w7 BK225 hb; have GE225 := ge_ (w := w) hg; replace HB := hst_ hb; clear hb hg; obtain ⟨hcz8_0, hcz8_1, hcz8_2, hfz8_0, hfz8_1, hfz8_2⟩ := cf3_ BK225.out) | ((with_reducible refine gate_callee (f := 56) rfl ?_); refine cl_ 8 Try.func56 (ebbtideref05_nodes.calls a0_0 t226 _ A2.out) ?_; rintro e w' ⟨rfl, ⟨nd, rfl⟩⟩; refine ⟨_, rfl, ?_⟩))
   go_loopg [4] k (fun kq v4 w' => ∃ (x4_1 : Int), v4 = .int .i64 x4_1 ∧ Aside0 (ebbtideref05_Check.l0 kq x4_1 a0_0 a0_1 l0_2 = some r) ∧ Aside0 (kq ≤ k) ∧ Aside0 (w'.heap[gb225]? = some (.cells #[.int .i64 a0_0, .bool a0_1, (.slice A0_2 l0_2.length c0_2)] 24 (0, 0))) ∧ Aside0 (Below w.heap.size w w'))
   case atStart => exact ⟨(0), rs_, H', ⟨Nat.le_refl _⟩, ⟨bq_ BK225.out⟩, ⟨hb_⟩⟩
   case round =>
    clear H'
    try clear p2
    try clear c3
    try clear c3b0
    try clear c3b1
    try clear c4
    try clear c4b0
    try clear c4b1
    try clear c5
    try clear hcz6_0 hcz6_1 hcz6_2
    try clear hcz8_0 hcz8_1 hcz8_2
    try clear hfz6_0 hfz6_1 hfz6_2
    try clear hfz8_0 hfz8_1 hfz8_2
    obtain ⟨x4_1, rfl, HA, HK1, BK225, HB⟩ := hrel
    cases gk with
    | zero => exact absurd HA.out (by simp [ebbtideref05_Check.l0])
    | succ k1 =>
     have H := HA.out; clear HA; simp only [ebbtideref05_Check.l0] at H
     by_cases c9 : x4_1 < (l0_2.length : Int)
     ·rw [if_pos c9] at H
      have c9b0 := decide_eq_true c9; clear c9
      replace H := ifn_ H; obtain ⟨c10, H⟩ := H
      have c10b0 := decide_eq_true c10; clear c10; replace H := Option.bind_eq_some_iff.mp H; obtain ⟨t228, A110, H⟩ := H; replace H : (if t228 = 0 then (ebbtideref05_Check.l0 k1 (wrap64 (x4_1 + 1)) a0_0 a0_1 l0_2) else (some t228)) = some r := H; have A11 := am_ A110; clear A110
      by_cases c12 : t228 = 0
      ·rw [if_pos c12] at H
       obtain ⟨c12b0, c12b1⟩ := eqb_ c12; clear c12; have H' := am_ H; clear H; obtain ⟨hcz13_0, hcz13_1, hcz13_2, hfz13_0, hfz13_1, hfz13_2⟩ := cf3_ BK225.out
       try go_wp2
       replace BK225 := am_ (blk_drew BK225.out); replace HB := am_ (below_drew1 HB.out); have p227 : 0 ≤ (x4_1 : Int) := of_decide_eq_true sm_; have q227 : x4_1 < (l0_2.length : Int) := of_decide_eq_true sm_; obtain ⟨ad227, e227, hx227_0, hx227_1, hx227_2, hx227_3⟩ := at_T54 HR0_2.out x4_1 p227 q227; have hw227_3 := hx227_3; have hw227_2 := hx227_2; have hw227_1 := hx227_1; have hw227_0 := hx227_0; cases e227; replace hx227_0 := (HB.out.cell (World.block_lt_of_cell? w _ hx227_0)).trans hx227_0; replace hx227_1 := (HB.out.cell (World.block_lt_of_cell? w _ hx227_1)).trans hx227_1; replace hx227_2 := (HB.out.cell (World.block_lt_of_cell? w _ hx227_2)).trans hx227_2; replace hx227_3 := (HB.out.cell (World.block_lt_of_cell? w _ hx227_3)).trans hx227_3; replace p227 := eq_true p227; replace q227 := eq_true q227; refine start_ (n := 9) (S := fun w' => w'.cell? ⟨gb225, 0, none⟩ = some (.int .i64 a0_0) ∧ w'.cell? ⟨gb225, 1, none⟩ = some (.bool a0_1) ∧ w'.cell? ⟨gb225, 2, none⟩ = some (.slice (some ad227) l0_2.length c0_2) ∧ w'.cell? (ad227.add ((x4_1).toNat * 4)) = some (.int .i64 ((rd_T54 l0_2 x4_1).f0)) ∧ w'.cell? ⟨(ad227.add ((x4_1).toNat * 4)).block, (ad227.add ((x4_1).toNat * 4)).off + 1, none⟩ = some (.int .i64 ((rd_T54 l0_2 x4_1).f1)) ∧ w'.cell? ⟨(ad227.add ((x4_1).toNat * 4)).block, (ad227.add ((x4_1).toNat * 4)).off + 2, none⟩ = some (.int .i64 ((rd_T54 l0_2 x4_1).f2)) ∧ w'.cell? ⟨(ad227.add ((x4_1).toNat * 4)).block, (ad227.add ((x4_1).toNat * 4)).off + 3, none⟩ = some (.int .i64 ((rd_T54 l0_2 x4_1).f3))) (ds := []) #[Ff,Ff,Ff,Ff,Ff,Ff,Ff,Ff,Ff] (by kernel_rfl) rfl rfl ⟨(blk_cell BK225.out 0).trans rfl, (blk_cell BK225.out 1).trans rfl, (blk_cell BK225.out 2).trans rfl, ((HB.out.cell (World.block_lt_of_cell? w _ hw227_0)).trans hw227_0), ((HB.out.cell (World.block_lt_of_cell? w _ hw227_1)).trans hw227_1), ((HB.out.cell (World.block_lt_of_cell? w _ hw227_2)).trans hw227_2), ((HB.out.cell (World.block_lt_of_cell? w _ hw227_3)).trans hw227_3)⟩ (fun hHeld => ?_); refine with_tabW ebbtideref05_Check.tab9 ebbtideref05_Check.bits9 (fun HT_ HW_ => ?_); generalize wr.drew = w14 at BK225 HB hx227_0 hx227_1 hx227_2 hx227_3 hHeld ⊢; refine pw_ 0 23 ?_; refine pw_ 2 25 ?_; refine pw_ 4 27 ?_; refine tk_ 1 24 ?_; refine tk_ 3 26 ?_; refine pw_ 5 28 ?_; refine tk_ 6 29 ?_; refine one_ (i := 7) (N := some 30) #[Tt,Tt,Tt,Tt,Tt,Tt,Tt,Tt,Ff] rfl rfl (one_of HT_.out (by kernel_rfl)) (by decide) (fun K hK => ?_); refine goes_ Try.func57 (by kernel_rfl) rfl #[.int .i64 a0_0, .agg #[.int .i64 ((rd_T54 l0_2 x4_1).f0), .int .i64 ((rd_T54 l0_2 x4_1).f1), .int .i64 ((rd_T54 l0_2 x4_1).f2), .int .i64 ((rd_T54 l0_2 x4_1).f3)]] (by rfl) rfl rfl mt_ ?_
       with_reducible refine (ebbtideref05_Arc.calls k1 a0_0 ((rd_T54 l0_2 x4_1).f0) ((rd_T54 l0_2 x4_1).f1) ((rd_T54 l0_2 x4_1).f2) ((rd_T54 l0_2 x4_1).f3) t228 _ A11.out).mono ?_
       rintro e w15 ⟨rfl, hb⟩; refine ⟨_, rfl, ?_⟩; replace BK225 := am_ (bb_ BK225.out hb); replace HB := hst_ hb
       (try clear hb)
       (try clear hb2)
       (try clear hk)
       (try clear hi)
       refine hK.out _ _ ⟨(blk_cell BK225.out 0).trans rfl, (blk_cell BK225.out 1).trans rfl, (blk_cell BK225.out 2).trans rfl, ((HB.out.cell (World.block_lt_of_cell? w _ hw227_0)).trans hw227_0), ((HB.out.cell (World.block_lt_of_cell? w _ hw227_1)).trans hw227_1), ((HB.out.cell (World.block_lt_of_cell? w _ hw227_2)).trans hw227_2), ((HB.out.cell (World.block_lt_of_cell? w _ hw227_3)).trans hw227_3)⟩ (fun hHeld => ?_); clear hK K; refine norm_ (a' := ?_) ?_ ?_; rotate_left
       ·show Act.put _ (some 30) _ = _
        simp only [Act.put, List.setIfInBounds_toArray, List.set_cons_zero, List.set_cons_succ, i64_w, i32_w]; rfl
       refine pw_ 8 5 ?_; refine done_ (done_of HT_.out (by kernel_rfl)) ?_
       try go_wp2
       go_roundg k1
       case measure => have := HK1.out; omega
       case rel => exact ⟨(wrap64 (x4_1 + 1)), rs_, H', ⟨by have := HK1.out; omega⟩, ⟨bq_ BK225.out⟩, ⟨hb_⟩⟩
      ·rw [if_neg c12] at H
       obtain ⟨c12b0, c12b1⟩ := neb_ c12; obtain rfl := Option.some.inj H; obtain ⟨hcz16_0, hcz16_1, hcz16_2, hfz16_0, hfz16_1, hfz16_2⟩ := cf3_ BK225.out
       try go_wp2
       replace BK225 := am_ (blk_drew BK225.out); replace HB := am_ (below_drew1 HB.out); have p227 : 0 ≤ (x4_1 : Int) := of_decide_eq_true sm_; have q227 : x4_1 < (l0_2.length : Int) := of_decide_eq_true sm_; obtain ⟨ad227, e227, hx227_0, hx227_1, hx227_2, hx227_3⟩ := at_T54 HR0_2.out x4_1 p227 q227; have hw227_3 := hx227_3; have hw227_2 := hx227_2; have hw227_1 := hx227_1; have hw227_0 := hx227_0; cases e227; replace hx227_0 := (HB.out.cell (World.block_lt_of_cell? w _ hx227_0)).trans hx227_0; replace hx227_1 := (HB.out.cell (World.block_lt_of_cell? w _ hx227_1)).trans hx227_1; replace hx227_2 := (HB.out.cell (World.block_lt_of_cell? w _ hx227_2)).trans hx227_2; replace hx227_3 := (HB.out.cell (World.block_lt_of_cell? w _ hx227_3)).trans hx227_3; replace p227 := eq_true p227; replace q227 := eq_true q227; refine start_ (n := 9) (S := fun w' => w'.cell? ⟨gb225, 0, none⟩ = some (.int .i64 a0_0) ∧ w'.cell? ⟨gb225, 1, none⟩ = some (.bool a0_1) ∧ w'.cell? ⟨gb225, 2, none⟩ = some (.slice (some ad227) l0_2.length c0_2) ∧ w'.cell? (ad227.add ((x4_1).toNat * 4)) = some (.int .i64 ((rd_T54 l0_2 x4_1).f0)) ∧ w'.cell? ⟨(ad227.add ((x4_1).toNat * 4)).block, (ad227.add ((x4_1).toNat * 4)).off + 1, none⟩ = some (.int .i64 ((rd_T54 l0_2 x4_1).f1)) ∧ w'.cell? ⟨(ad227.add ((x4_1).toNat * 4)).block, (ad227.add ((x4_1).toNat * 4)).off + 2, none⟩ = some (.int .i64 ((rd_T54 l0_2 x4_1).f2)) ∧ w'.cell? ⟨(ad227.add ((x4_1).toNat * 4)).block, (ad227.add ((x4_1).toNat * 4)).off + 3, none⟩ = some (.int .i64 ((rd_T54 l0_2 x4_1).f3))) (ds := []) #[Ff,Ff,Ff,Ff,Ff,Ff,Ff,Ff,Ff] (by kernel_rfl) rfl rfl ⟨(blk_cell BK225.out 0).trans rfl, (blk_cell BK225.out 1).trans rfl, (blk_cell BK225.out 2).trans rfl, ((HB.out.cell (World.block_lt_of_cell? w _ hw227_0)).trans hw227_0), ((HB.out.cell (World.block_lt_of_cell? w _ hw227_1)).trans hw227_1), ((HB.out.cell (World.block_lt_of_cell? w _ hw227_2)).trans hw227_2), ((HB.out.cell (World.block_lt_of_cell? w _ hw227_3)).trans hw227_3)⟩ (fun hHeld => ?_); refine with_tabW ebbtideref05_Check.tab9 ebbtideref05_Check.bits9 (fun HT_ HW_ => ?_); generalize wr.drew = w17 at BK225 HB hx227_0 hx227_1 hx227_2 hx227_3 hHeld ⊢; refine pw_ 0 23 ?_; refine pw_ 2 25 ?_; refine pw_ 4 27 ?_; refine tk_ 1 24 ?_; refine tk_ 3 26 ?_; refine pw_ 5 28 ?_; refine tk_ 6 29 ?_; refine one_ (i := 7) (N := some 30) #[Tt,Tt,Tt,Tt,Tt,Tt,Tt,Tt,Ff] rfl rfl (one_of HT_.out (by kernel_rfl)) (by decide) (fun K hK => ?_); refine goes_ Try.func57 (by kernel_rfl) rfl #[.int .i64 a0_0, .agg #[.int .i64 ((rd_T54 l0_2 x4_1).f0), .int .i64 ((rd_T54 l0_2 x4_1).f1), .int .i64 ((rd_T54 l0_2 x4_1).f2), .int .i64 ((rd_T54 l0_2 x4_1).f3)]] (by rfl) rfl rfl mt_ ?_
       with_reducible refine (ebbtideref05_Arc.calls k1 a0_0 ((rd_T54 l0_2 x4_1).f0) ((rd_T54 l0_2 x4_1).f1) ((rd_T54 l0_2 x4_1).f2) ((rd_T54 l0_2 x4_1).f3) t228 _ A11.out).mono ?_
       rintro e w18 ⟨rfl, hb⟩; refine ⟨_, rfl, ?_⟩; replace BK225 := am_ (bb_ BK225.out hb); replace HB := hst_ hb
       (try clear hb)
       (try clear hb2)
       (try clear hk)
       (try clear hi)
       refine hK.out _ _ ⟨(blk_cell BK225.out 0).trans rfl, (blk_cell BK225.out 1).trans rfl, (blk_cell BK225.out 2).trans rfl, ((HB.out.cell (World.block_lt_of_cell? w _ hw227_0)).trans hw227_0), ((HB.out.cell (World.block_lt_of_cell? w _ hw227_1)).trans hw227_1), ((HB.out.cell (World.block_lt_of_cell? w _ hw227_2)).trans hw227_2), ((HB.out.cell (World.block_lt_of_cell? w _ hw227_3)).trans hw227_3)⟩ (fun hHeld => ?_); clear hK K; refine norm_ (a' := ?_) ?_ ?_; rotate_left
       ·show Act.put _ (some 30) _ = _
        simp only [Act.put, List.setIfInBounds_toArray, List.set_cons_zero, List.set_cons_succ, i64_w, i32_w]; rfl
       refine pw_ 8 5 ?_; refine done_ (done_of HT_.out (by kernel_rfl)) ?_
       try go_wp2
       go_ret
       exact ⟨er_, hb_⟩
     ·rw [if_neg c9] at H
      have c9b0 := decide_eq_false c9; clear c9; obtain rfl := Option.some.inj H; obtain ⟨hcz19_0, hcz19_1, hcz19_2, hfz19_0, hfz19_1, hfz19_2⟩ := cf3_ BK225.out
      go_wp2
      go_ret
      exact ⟨er_, hb_⟩
 ·rw [if_neg c3] at H
  obtain ⟨c3b0, c3b1⟩ := neb_ c3; obtain rfl := Option.some.inj H
  go_enter Try.func36, Try.ntmps36
  go_wp2_with (first | ((with_reducible refine gate_dst (N := 1) rfl ?_); refine bx_ 1 #[.int .i64 a0_0, .bool a0_1, .slice A0_2 l0_2.length c0_2] 24 ?_; intro gb225 hg w20 BK225 hb; have GE225 := ge_ (w := w) hg; replace HB := hst_ hb; clear hb hg; obtain ⟨hcz21_0, hcz21_1, hcz21_2, hfz21_0, hfz21_1, hfz21_2⟩ := cf3_ BK225.out) | ((with_reducible refine gate_callee (f := 56) rfl ?_); refine cl_ 8 Try.func56 (ebbtideref05_nodes.calls a0_0 t226 _ A2.out) ?_; rintro e w' ⟨rfl, ⟨nd, rfl⟩⟩; refine ⟨_, rfl, ?_⟩))
  go_ret
  exact ⟨er_, hb_⟩
end Go.Proofs.Ytfhkkbpkajfdlaa.Q
end
section
namespace Go.Proofs.Ytfhkkbpkajfdlaa.Q
attribute [local go_sem] max2_int min2_int max_two min_two min_four
def ebbtideref12_Span.f (a0 : Int) : Option (Int) := if a0 < 0 then (some 1) else (if a0 > 1024 then (some 2) else (some 0))
set_option maxHeartbeats 8000000 in
set_option maxRecDepth 100000 in
theorem ebbtideref12_Span.calls (a0 : Int) (r : Int) (w : World) (h : ebbtideref12_Span.f a0 = some r) :
  Calls Try.prog 37 #[.int .i64 a0] w fun e w' => e = .returned (.int .i64 r) ∧ Drawn0 w w' := by
 have H : (if a0 < 0 then (some 1) else (if a0 > 1024 then (some 2) else (some 0))) = some r := h; clear h
 by_cases c2 : a0 < 0
 ·rw [if_pos c2] at H
  have c2b0 : decide (a0 < 0) = true := decide_eq_true c2; clear c2; obtain rfl := Option.some.inj H
  go_enter Try.func37, Try.ntmps37
  go_wp2
  go_ret
  exact ⟨by first | rfl | (simp; done) | (simp [*]; done), by repeat (first | exact Drawn0.refl _ | apply Drawn0.step)⟩
 ·rw [if_neg c2] at H
  have c2b0 : decide (a0 < 0) = false := decide_eq_false c2; clear c2
  by_cases c3 : a0 > 1024
  ·rw [if_pos c3] at H
   have c3b0 : decide (1024 < a0) = true := decide_eq_true c3; clear c3; obtain rfl := Option.some.inj H
   go_enter Try.func37, Try.ntmps37
   go_wp2
   go_ret
   exact ⟨by first | rfl | (simp; done) | (simp [*]; done), by repeat (first | exact Drawn0.refl _ | apply Drawn0.step)⟩
  ·rw [if_neg c3] at H
   have c3b0 : decide (1024 < a0) = false := decide_eq_false c3; clear c3; obtain rfl := Option.some.inj H
   go_enter Try.func37, Try.ntmps37
   go_wp2
   go_ret
   exact ⟨by first | rfl | (simp; done) | (simp [*]; done), by repeat (first | exact Drawn0.refl _ | apply Drawn0.step)⟩
end Go.Proofs.Ytfhkkbpkajfdlaa.Q
end
section
namespace Go.Proofs.Ytfhkkbpkajfdlaa.Q
def ebbtideref06_Node.f (a0_0 : Int) (a0_1 : Bool) (l0_2 : List (S54)) (a1 : Int) : Option (Bool) := if a1 ≥ 0 then (some (decide (a1 < a0_0))) else (some false)
set_option maxHeartbeats 8000000 in
set_option maxRecDepth 100000 in
theorem ebbtideref06_Node.calls (a0_0 : Int) (a0_1 : Bool) (A0_2 : Option Addr) (c0_2 : Nat) (l0_2 : List (S54)) (a1 : Int) (r : Bool) (w : World) (hr0_2 : Kd.C k54 w A0_2 l0_2.length l0_2) (hc0_2 : l0_2.length ≤ c0_2) (h : ebbtideref06_Node.f a0_0 a0_1 l0_2 a1 = some r) :
  Calls Try.prog 92 #[.agg #[.int .i64 a0_0, .bool a0_1, .slice A0_2 l0_2.length c0_2], .int .i64 a1] w fun e w' => e = .returned (.bool r) ∧ Below w.heap.size w w' := by
 have hu24 := Try.underlying24; have HR0_2 := am_ hr0_2; have HC0_2 := am_ hc0_2; clear hr0_2 hc0_2; have HB := am_ (Below.refl w.heap.size w); have H : (if a1 ≥ 0 then (some (decide (a1 < a0_0))) else (some false)) = some r := h; clear h
 by_cases c3 : a1 ≥ 0
 ·rw [if_pos c3] at H
  have c3b0 := decide_eq_true c3; clear c3; obtain rfl := Option.some.inj H
  go_enter Try.func92, Try.ntmps92
  go_wp2_with (first | ((with_reducible refine gate_dst (N := 2) rfl ?_); refine bx_ 2 #[.int .i64 a0_0, .bool a0_1, .slice A0_2 l0_2.length c0_2] 24 ?_; intro gb332 hg w4 BK332 hb; have GE332 := ge_ (w := w) hg; replace HB := hst_ hb; clear hb hg; obtain ⟨hcz5_0, hcz5_1, hcz5_2, hfz5_0, hfz5_1, hfz5_2⟩ := cf3_ BK332.out))
  go_ret
  exact ⟨er_, hb_⟩
 ·rw [if_neg c3] at H
  have c3b0 := decide_eq_false c3; clear c3; obtain rfl := Option.some.inj H
  go_enter Try.func92, Try.ntmps92
  go_wp2_with (first | ((with_reducible refine gate_dst (N := 2) rfl ?_); refine bx_ 2 #[.int .i64 a0_0, .bool a0_1, .slice A0_2 l0_2.length c0_2] 24 ?_; intro gb332 hg w6 BK332 hb; have GE332 := ge_ (w := w) hg; replace HB := hst_ hb; clear hb hg))
  go_ret
  exact ⟨er_, hb_⟩
def ebbtideref07_Ends.f (k : Nat) (a0_0 : Int) (a0_1 : Bool) (l0_2 : List (S54)) (a1 : Int) (a2 : Int) : Option (Int) := (ebbtideref05_Check.f k a0_0 a0_1 l0_2).bind fun t334 => (if t334 = 0 then ((ebbtideref06_Node.f a0_0 a0_1 l0_2 a1).bind fun t335 => (if t335 = true then ((ebbtideref06_Node.f a0_0 a0_1 l0_2 a2).bind fun t336 => (if t336 = true then (if a1 = a2 then (some 70) else (some 0)) else (some 70))) else (some 70))) else (some t334))
set_option maxHeartbeats 8000000 in
set_option maxRecDepth 100000 in
theorem ebbtideref07_Ends.calls (k : Nat) (a0_0 : Int) (a0_1 : Bool) (A0_2 : Option Addr) (c0_2 : Nat) (l0_2 : List (S54)) (a1 : Int) (a2 : Int) (r : Int) (w : World) (hr0_2 : Kd.C k54 w A0_2 l0_2.length l0_2) (hc0_2 : l0_2.length ≤ c0_2) (h : ebbtideref07_Ends.f k a0_0 a0_1 l0_2 a1 a2 = some r) :
  Calls Try.prog 84 #[.agg #[.int .i64 a0_0, .bool a0_1, .slice A0_2 l0_2.length c0_2], .int .i64 a1, .int .i64 a2] w fun e w' => e = .returned (.int .i64 r) ∧ Below w.heap.size w w' := by
 have hu24 := Try.underlying24; have HR0_2 := am_ hr0_2; have HC0_2 := am_ hc0_2; clear hr0_2 hc0_2; have HB := am_ (Below.refl w.heap.size w); have H : ((ebbtideref05_Check.f k a0_0 a0_1 l0_2).bind fun t334 => (if t334 = 0 then ((ebbtideref06_Node.f a0_0 a0_1 l0_2 a1).bind fun t335 => (if t335 = true then ((ebbtideref06_Node.f a0_0 a0_1 l0_2 a2).bind fun t336 => (if t336 = true then (if a1 = a2 then (some 70) else (some 0)) else (some 70))) else (some 70))) else (some t334))) = some r := h; clear h; replace H := Option.bind_eq_some_iff.mp H; obtain ⟨t334, A40, H⟩ := H; replace H : (if t334 = 0 then ((ebbtideref06_Node.f a0_0 a0_1 l0_2 a1).bind fun t335 => (if t335 = true then ((ebbtideref06_Node.f a0_0 a0_1 l0_2 a2).bind fun t336 => (if t336 = true then (if a1 = a2 then (some 70) else (some 0)) else (some 70))) else (some 70))) else (some t334)) = some r := H; have A4 := am_ A40; clear A40
 by_cases c5 : t334 = 0
 ·rw [if_pos c5] at H
  obtain ⟨c5b0, c5b1⟩ := eqb_ c5; clear c5; replace H := Option.bind_eq_some_iff.mp H; obtain ⟨t335, A60, H⟩ := H; replace H : (if t335 = true then ((ebbtideref06_Node.f a0_0 a0_1 l0_2 a2).bind fun t336 => (if t336 = true then (if a1 = a2 then (some 70) else (some 0)) else (some 70))) else (some 70)) = some r := H; have A6 := am_ A60; clear A60
  by_cases c7 : t335 = true
  ·subst c7
   have H1 : ((ebbtideref06_Node.f a0_0 a0_1 l0_2 a2).bind fun t336 => (if t336 = true then (if a1 = a2 then (some 70) else (some 0)) else (some 70))) = some r := by rw [if_pos rfl] at H; exact H
   clear H; have H := H1; clear H1; replace H := Option.bind_eq_some_iff.mp H; obtain ⟨t336, A80, H⟩ := H; replace H : (if t336 = true then (if a1 = a2 then (some 70) else (some 0)) else (some 70)) = some r := H; have A8 := am_ A80; clear A80
   by_cases c9 : t336 = true
   ·subst c9
    have H1 : (if a1 = a2 then (some 70) else (some 0)) = some r := by rw [if_pos rfl] at H; exact H
    clear H; have H := H1; clear H1
    by_cases c10 : a1 = a2
    ·rw [if_pos c10] at H
     obtain ⟨c10b0, c10b1⟩ := eqb_ c10; clear c10; obtain rfl := Option.some.inj H
     go_enter Try.func84, Try.ntmps84
     go_wp2_with (first | ((with_reducible refine gate_dst (N := 3) rfl ?_); refine bx_ 3 #[.int .i64 a0_0, .bool a0_1, .slice A0_2 l0_2.length c0_2] 24 ?_; intro gb333 hg w11 BK333 hb; have GE333 := ge_ (w := w) hg; replace HB := hst_ hb; clear hb hg; obtain ⟨hcz12_0, hcz12_1, hcz12_2, hfz12_0, hfz12_1, hfz12_2⟩ := cf3_ BK333.out) | ((with_reducible refine gate_callee (f := 36) rfl ?_); refine cl_ 9 Try.func36 (ebbtideref05_Check.calls k a0_0 a0_1 _ _ l0_2 t334 _ (cb_ HR0_2.out) HC0_2.out A4.out) ?_; rintro e w13 ⟨rfl, hb⟩; refine ⟨_, rfl, ?_⟩; replace BK333 := am_ (bb_ BK333.out hb); replace HB := hst_ hb; (try clear hb); (try clear hb2); (try clear hk); (try clear hi); obtain ⟨hcz14_0, hcz14_1, hcz14_2, hfz14_0, hfz14_1, hfz14_2⟩ := cf3_ BK333.out) | ((with_reducible refine gate_callee (f := 92) rfl ?_); refine cl_ 15 Try.func92 (ebbtideref06_Node.calls a0_0 a0_1 _ _ l0_2 a1 true _ (cb_ HR0_2.out) HC0_2.out A6.out) ?_; rintro e w15 ⟨rfl, hb⟩; refine ⟨_, rfl, ?_⟩; replace BK333 := am_ (bb_ BK333.out hb); replace HB := hst_ hb; (try clear hb); (try clear hb2); (try clear hk); (try clear hi); obtain ⟨hcz16_0, hcz16_1, hcz16_2, hfz16_0, hfz16_1, hfz16_2⟩ := cf3_ BK333.out) | (go_at_call 92; (with_reducible refine (ebbtideref06_Node.calls a0_0 a0_1 _ _ l0_2 a2 true _ ?side1 ?side2 A8.out).mono ?_); (case side1 => exact cb_ HR0_2.out); (case side2 => exact HC0_2.out); rintro e w17 ⟨rfl, hb⟩; replace BK333 := am_ (bb_ BK333.out hb); replace HB := hst_ hb; (try clear hb); (try clear hb2); (try clear hk); (try clear hi)))
     go_ret
     exact ⟨er_, hb_⟩
    ·rw [if_neg c10] at H
     obtain ⟨c10b0, c10b1⟩ := neb_ c10; obtain rfl := Option.some.inj H
     go_enter Try.func84, Try.ntmps84
     go_wp2_with (first | ((with_reducible refine gate_dst (N := 3) rfl ?_); refine bx_ 3 #[.int .i64 a0_0, .bool a0_1, .slice A0_2 l0_2.length c0_2] 24 ?_; intro gb333 hg w18 BK333 hb; have GE333 := ge_ (w := w) hg; replace HB := hst_ hb; clear hb hg; obtain ⟨hcz19_0, hcz19_1, hcz19_2, hfz19_0, hfz19_1, hfz19_2⟩ := cf3_ BK333.out) | ((with_reducible refine gate_callee (f := 36) rfl ?_); refine cl_ 9 Try.func36 (ebbtideref05_Check.calls k a0_0 a0_1 _ _ l0_2 t334 _ (cb_ HR0_2.out) HC0_2.out A4.out) ?_; rintro e w20 ⟨rfl, hb⟩; refine ⟨_, rfl, ?_⟩; replace BK333 := am_ (bb_ BK333.out hb); replace HB := hst_ hb; (try clear hb); (try clear hb2); (try clear hk); (try clear hi); obtain ⟨hcz21_0, hcz21_1, hcz21_2, hfz21_0, hfz21_1, hfz21_2⟩ := cf3_ BK333.out) | ((with_reducible refine gate_callee (f := 92) rfl ?_); refine cl_ 15 Try.func92 (ebbtideref06_Node.calls a0_0 a0_1 _ _ l0_2 a1 true _ (cb_ HR0_2.out) HC0_2.out A6.out) ?_; rintro e w22 ⟨rfl, hb⟩; refine ⟨_, rfl, ?_⟩; replace BK333 := am_ (bb_ BK333.out hb); replace HB := hst_ hb; (try clear hb); (try clear hb2); (try clear hk); (try clear hi); obtain ⟨hcz23_0, hcz23_1, hcz23_2, hfz23_0, hfz23_1, hfz23_2⟩ := cf3_ BK333.out) | (go_at_call 92; (with_reducible refine (ebbtideref06_Node.calls a0_0 a0_1 _ _ l0_2 a2 true _ ?side1 ?side2 A8.out).mono ?_); (case side1 => exact cb_ HR0_2.out); (case side2 => exact HC0_2.out); rintro e w24 ⟨rfl, hb⟩; replace BK333 := am_ (bb_ BK333.out hb); replace HB := hst_ hb; (try clear hb); (try clear hb2); (try clear hk); (try clear hi)))
     go_ret
     exact ⟨er_, hb_⟩
   ·replace c9 := Bool.eq_false_iff.mpr c9
    subst c9
    have H1 : (some 70) = some r := by rw [if_neg (show ¬ (false = true) by decide)] at H; exact H
    clear H; have H := H1; clear H1; obtain rfl := Option.some.inj H
    go_enter Try.func84, Try.ntmps84
    go_wp2_with (first | ((with_reducible refine gate_dst (N := 3) rfl ?_); refine bx_ 3 #[.int .i64 a0_0, .bool a0_1, .slice A0_2 l0_2.length c0_2] 24 ?_; intro gb333 hg w25 BK333 hb; have GE333 := ge_ (w := w) hg; replace HB := hst_ hb; clear hb hg; obtain ⟨hcz26_0, hcz26_1, hcz26_2, hfz26_0, hfz26_1, hfz26_2⟩ := cf3_ BK333.out) | ((with_reducible refine gate_callee (f := 36) rfl ?_); refine cl_ 9 Try.func36 (ebbtideref05_Check.calls k a0_0 a0_1 _ _ l0_2 t334 _ (cb_ HR0_2.out) HC0_2.out A4.out) ?_; rintro e w27 ⟨rfl, hb⟩; refine ⟨_, rfl, ?_⟩; replace BK333 := am_ (bb_ BK333.out hb); replace HB := hst_ hb; (try clear hb); (try clear hb2); (try clear hk); (try clear hi); obtain ⟨hcz28_0, hcz28_1, hcz28_2, hfz28_0, hfz28_1, hfz28_2⟩ := cf3_ BK333.out) | ((with_reducible refine gate_callee (f := 92) rfl ?_); refine cl_ 15 Try.func92 (ebbtideref06_Node.calls a0_0 a0_1 _ _ l0_2 a1 true _ (cb_ HR0_2.out) HC0_2.out A6.out) ?_; rintro e w29 ⟨rfl, hb⟩; refine ⟨_, rfl, ?_⟩; replace BK333 := am_ (bb_ BK333.out hb); replace HB := hst_ hb; (try clear hb); (try clear hb2); (try clear hk); (try clear hi); obtain ⟨hcz30_0, hcz30_1, hcz30_2, hfz30_0, hfz30_1, hfz30_2⟩ := cf3_ BK333.out) | (go_at_call 92; (with_reducible refine (ebbtideref06_Node.calls a0_0 a0_1 _ _ l0_2 a2 false _ ?side1 ?side2 A8.out).mono ?_); (case side1 => exact cb_ HR0_2.out); (case side2 => exact HC0_2.out); rintro e w31 ⟨rfl, hb⟩; replace BK333 := am_ (bb_ BK333.out hb); replace HB := hst_ hb; (try clear hb); (try clear hb2); (try clear hk); (try clear hi)))
    go_ret
    exact ⟨er_, hb_⟩
  ·replace c7 := Bool.eq_false_iff.mpr c7
   subst c7
   have H1 : (some 70) = some r := by rw [if_neg (show ¬ (false = true) by decide)] at H; exact H
   clear H; have H := H1; clear H1; obtain rfl := Option.some.inj H
   go_enter Try.func84, Try.ntmps84
   go_wp2_with (first | ((with_reducible refine gate_dst (N := 3) rfl ?_); refine bx_ 3 #[.int .i64 a0_0, .bool a0_1, .slice A0_2 l0_2.length c0_2] 24 ?_; intro gb333 hg w32 BK333 hb; have GE333 := ge_ (w := w) hg; replace HB := hst_ hb; clear hb hg; obtain ⟨hcz33_0, hcz33_1, hcz33_2, hfz33_0, hfz33_1, hfz33_2⟩ := cf3_ BK333.out) | ((with_reducible refine gate_callee (f := 36) rfl ?_); refine cl_ 9 Try.func36 (ebbtideref05_Check.calls k a0_0 a0_1 _ _ l0_2 t334 _ (cb_ HR0_2.out) HC0_2.out A4.out) ?_; rintro e w34 ⟨rfl, hb⟩; refine ⟨_, rfl, ?_⟩; replace BK333 := am_ (bb_ BK333.out hb); replace HB := hst_ hb; (try clear hb); (try clear hb2); (try clear hk); (try clear hi); obtain ⟨hcz35_0, hcz35_1, hcz35_2, hfz35_0, hfz35_1, hfz35_2⟩ := cf3_ BK333.out) | ((with_reducible refine gate_callee (f := 92) rfl ?_); refine cl_ 15 Try.func92 (ebbtideref06_Node.calls a0_0 a0_1 _ _ l0_2 a1 false _ (cb_ HR0_2.out) HC0_2.out A6.out) ?_; rintro e w36 ⟨rfl, hb⟩; refine ⟨_, rfl, ?_⟩; replace BK333 := am_ (bb_ BK333.out hb); replace HB := hst_ hb; (try clear hb); (try clear hb2); (try clear hk); (try clear hi)))
   go_ret
   exact ⟨er_, hb_⟩
 ·rw [if_neg c5] at H
  obtain ⟨c5b0, c5b1⟩ := neb_ c5; obtain rfl := Option.some.inj H
  go_enter Try.func84, Try.ntmps84
  go_wp2_with (first | ((with_reducible refine gate_dst (N := 3) rfl ?_); refine bx_ 3 #[.int .i64 a0_0, .bool a0_1, .slice A0_2 l0_2.length c0_2] 24 ?_; intro gb333 hg w37 BK333 hb; have GE333 := ge_ (w := w) hg; replace HB := hst_ hb; clear hb hg; obtain ⟨hcz38_0, hcz38_1, hcz38_2, hfz38_0, hfz38_1, hfz38_2⟩ := cf3_ BK333.out) | ((with_reducible refine gate_callee (f := 36) rfl ?_); refine cl_ 9 Try.func36 (ebbtideref05_Check.calls k a0_0 a0_1 _ _ l0_2 t334 _ (cb_ HR0_2.out) HC0_2.out A4.out) ?_; rintro e w39 ⟨rfl, hb⟩; refine ⟨_, rfl, ?_⟩; replace BK333 := am_ (bb_ BK333.out hb); replace HB := hst_ hb; (try clear hb); (try clear hb2); (try clear hk); (try clear hi)))
  go_ret
  exact ⟨er_, hb_⟩
def ebbtideref12_Asked.f (k : Nat) (a0_0 : Int) (a0_1 : Bool) (l0_2 : List (S54)) (a1 : Int) (a2 : Int) (a3 : Int) : Option (Int) := (ebbtideref07_Ends.f k a0_0 a0_1 l0_2 a1 a2).bind fun t338 => (if t338 = 0 then ((ebbtideref12_Span.f a3).bind fun t339 => (some t339)) else (some t338))
set_option maxHeartbeats 8000000 in
set_option maxRecDepth 100000 in
theorem ebbtideref12_Asked.calls (k : Nat) (a0_0 : Int) (a0_1 : Bool) (A0_2 : Option Addr) (c0_2 : Nat) (l0_2 : List (S54)) (a1 : Int) (a2 : Int) (a3 : Int) (r : Int) (w : World) (hr0_2 : Kd.C k54 w A0_2 l0_2.length l0_2) (hc0_2 : l0_2.length ≤ c0_2) (h : ebbtideref12_Asked.f k a0_0 a0_1 l0_2 a1 a2 a3 = some r) :
  Calls Try.prog 65 #[.agg #[.int .i64 a0_0, .bool a0_1, .slice A0_2 l0_2.length c0_2], .int .i64 a1, .int .i64 a2, .int .i64 a3] w fun e w' => e = .returned (.int .i64 r) ∧ Below w.heap.size w w' := by
 have hu24 := Try.underlying24; have HR0_2 := am_ hr0_2; have HC0_2 := am_ hc0_2; clear hr0_2 hc0_2; have HB := am_ (Below.refl w.heap.size w); have H : ((ebbtideref07_Ends.f k a0_0 a0_1 l0_2 a1 a2).bind fun t338 => (if t338 = 0 then ((ebbtideref12_Span.f a3).bind fun t339 => (some t339)) else (some t338))) = some r := h; clear h; replace H := Option.bind_eq_some_iff.mp H; obtain ⟨t338, A50, H⟩ := H; replace H : (if t338 = 0 then ((ebbtideref12_Span.f a3).bind fun t339 => (some t339)) else (some t338)) = some r := H; have A5 := am_ A50; clear A50
 by_cases c6 : t338 = 0
 ·rw [if_pos c6] at H
  obtain ⟨c6b0, c6b1⟩ := eqb_ c6; clear c6; replace H := Option.bind_eq_some_iff.mp H; obtain ⟨t339, A70, H⟩ := H; replace H : (some t339) = some r := H; have A7 := am_ A70; clear A70; obtain rfl := Option.some.inj H
  go_enter Try.func65, Try.ntmps65
  go_wp2_with (first | ((with_reducible refine gate_dst (N := 4) rfl ?_); refine bx_ 4 #[.int .i64 a0_0, .bool a0_1, .slice A0_2 l0_2.length c0_2] 24 ?_; intro gb337 hg w8 BK337 hb; have GE337 := ge_ (w := w) hg; replace HB := hst_ hb; clear hb hg; obtain ⟨hcz9_0, hcz9_1, hcz9_2, hfz9_0, hfz9_1, hfz9_2⟩ := cf3_ BK337.out) | ((with_reducible refine gate_callee (f := 84) rfl ?_); refine cl_ 13 Try.func84 (ebbtideref07_Ends.calls k a0_0 a0_1 _ _ l0_2 a1 a2 t338 _ (cb_ HR0_2.out) HC0_2.out A5.out) ?_; rintro e w10 ⟨rfl, hb⟩; refine ⟨_, rfl, ?_⟩; replace BK337 := am_ (bb_ BK337.out hb); replace HB := hst_ hb; (try clear hb); (try clear hb2); (try clear hk); (try clear hi)) | ((with_reducible refine gate_callee (f := 37) rfl ?_); refine cl_ 18 Try.func37 (ebbtideref12_Span.calls a3 t339 _ A7.out) ?_; rintro e w' ⟨rfl, ⟨nd, rfl⟩⟩; refine ⟨_, rfl, ?_⟩))
  go_ret
  exact ⟨er_, hb_⟩
 ·rw [if_neg c6] at H
  obtain ⟨c6b0, c6b1⟩ := neb_ c6; obtain rfl := Option.some.inj H
  go_enter Try.func65, Try.ntmps65
  go_wp2_with (first | ((with_reducible refine gate_dst (N := 4) rfl ?_); refine bx_ 4 #[.int .i64 a0_0, .bool a0_1, .slice A0_2 l0_2.length c0_2] 24 ?_; intro gb337 hg w11 BK337 hb; have GE337 := ge_ (w := w) hg; replace HB := hst_ hb; clear hb hg; obtain ⟨hcz12_0, hcz12_1, hcz12_2, hfz12_0, hfz12_1, hfz12_2⟩ := cf3_ BK337.out) | ((with_reducible refine gate_callee (f := 84) rfl ?_); refine cl_ 13 Try.func84 (ebbtideref07_Ends.calls k a0_0 a0_1 _ _ l0_2 a1 a2 t338 _ (cb_ HR0_2.out) HC0_2.out A5.out) ?_; rintro e w13 ⟨rfl, hb⟩; refine ⟨_, rfl, ?_⟩; replace BK337 := am_ (bb_ BK337.out hb); replace HB := hst_ hb; (try clear hb); (try clear hb2); (try clear hk); (try clear hi)))
  go_ret
  exact ⟨er_, hb_⟩
end Go.Proofs.Ytfhkkbpkajfdlaa.Q
end
section
namespace Go.Proofs.Ytfhkkbpkajfdlaa.Q
attribute [local go_sem] max2_int min2_int max_two min_two min_four
theorem eqA54 (d : Nat) (w : World) (x0 y0 : Int) (x1 y1 : Int) (x2 y2 : Int) (x3 y3 : Int) :
  (Op.equalIn (d + 2) 54 (.agg #[.int .i64 x0, .int .i64 x1, .int .i64 x2, .int .i64 x3]) (.agg #[.int .i64 y0, .int .i64 y1, .int .i64 y2, .int .i64 y3])).run Try.prog w = .ok (x0 == y0 && (x1 == y1 && (x2 == y2 && (x3 == y3)))) w := by
 refine eqA_of Try.underlying54 (by kernel_rfl) ?_; refine eqf_cons (by rfl) (by go_simp; rfl) (by go_simp; rfl) (by go_simp) ?_; refine eqf_cons (by rfl) (by go_simp; rfl) (by go_simp; rfl) (by go_simp) ?_; refine eqf_cons (by rfl) (by go_simp; rfl) (by go_simp; rfl) (by go_simp) ?_; exact eqf_last (by rfl) (by go_simp; rfl) (by go_simp; rfl) (by go_simp)
end Go.Proofs.Ytfhkkbpkajfdlaa.Q
end
