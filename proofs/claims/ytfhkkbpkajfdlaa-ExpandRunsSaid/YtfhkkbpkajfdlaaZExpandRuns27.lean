/- A part of the proof: words, contracts, plain lemmas. Conditions: none. -/
import Derived.Test.YtfhkkbpkajfdlaaZExpandRuns26
set_option linter.unusedSectionVars false
set_option linter.unusedSimpArgs false
set_option linter.unusedVariables false
section
namespace Go.Proofs.Ytfhkkbpkajfdlaa.P
open Go.RowKit Go.Proofs.Ytfhkkbpkajfdlaa.Q Go.Proofs.YtfhkkbpkajfdlaaW.PrintWords Go.Proofs.YtfhkkbpkajfdlaaW.PrintLast Go.Proofs.YtfhkkbpkajfdlaaW.PrintMore
section
variable {n : Int} {hold : Bool} {arcs : List S54} {s t h : Int}
theorem arc_ends (hn : NetOk n arcs) (hs : 0 ≤ s ∧ s < n) (ht : 0 ≤ t ∧ t < n) (hst : s ≠ t) (hh : 0 ≤ h) {k : S83} (hk : k ∈ gridKinds n h hold s t arcs) :
 (0 ≤ (arcAll n h s arcs k).f0 ∧ (arcAll n h s arcs k).f0 < (h + 1) * n + 2) ∧ (0 ≤ (arcAll n h s arcs k).f1 ∧ (arcAll n h s arcs k).f1 < (h + 1) * n + 2) := by
 have hV : 0 < n := by omega
 have cell : ∀ b u : Int, 0 ≤ b → b ≤ h → 0 ≤ u → u < n → 0 ≤ b * n + u ∧ b * n + u < (h + 1) * n + 2 := fun b u b0 b1 u0 u1 => by
  have h1 := cell_lt (a := b) (b := h + 1) hV u1 (by omega)
  have h2 := Int.mul_nonneg b0 (show 0 ≤ n by omega)
  omega
 have h3 := Int.mul_nonneg (show 0 ≤ h + 1 by omega) (show 0 ≤ n by omega)
 rcases kind_cases hh hk with ⟨h0, hm⟩ | ⟨h1, hw⟩ | ⟨h0, h1, hk, k0, k1⟩
 ·have e : arcAll n h s arcs k = ⟨k.f4 * n + (arcAt arcs k.f2).f0, (k.f4 + (arcAt arcs k.f2).f3) * n + (arcAt arcs k.f2).f1, (arcAt arcs k.f2).f2, 0⟩ := by
   unfold arcAll arcK
   rw [if_pos (Or.inl h0), if_pos h0]
   rfl
  have ho := arcAt_ok hn hm.i0 hm.i1
  have o3 := ho.f3
  have a1 := hm.a1
  rw [e]
  exact ⟨cell _ _ hm.a0 (by omega) ho.f0.1 ho.f0.2, cell _ _ (by have := hm.a0; omega) hm.a1 ho.f1.1 ho.f1.2⟩
 ·have e : arcAll n h s arcs k = ⟨k.f4 * n + k.f3, (k.f4 + 1) * n + k.f3, 1099511627776, 0⟩ := by
   unfold arcAll arcK
   rw [if_pos (Or.inr h1), if_neg (by rw [hw.n0]; exact Bool.false_ne_true)]
  have a0 := hw.a0
  have a1 := hw.a1
  rw [e]
  exact ⟨cell _ _ a0 (by omega) hw.v0 hw.v1, cell _ _ (by omega) (by omega) hw.v0 hw.v1⟩
 ·rcases hk with hk | hk
  ·have e : arcAll n h s arcs k = ⟨(h + 1) * n, k.f4 * n + s, 1099511627776, 0⟩ := by
    unfold arcAll
    rw [if_neg (by rw [h0, h1]; simp), if_pos hk]
   rw [e]
   exact ⟨⟨h3, by show (h + 1) * n < _; omega⟩, cell _ _ k0 k1 hs.1 hs.2⟩
  ·have e : arcAll n h s arcs k = ⟨k.f4 * n + t, (h + 1) * n + 1, 1099511627776, 0⟩ := by
    unfold arcAll
    rw [if_neg (by rw [h0, h1]; simp), if_neg (by rw [hk]; exact fun e => hst e.symm), hk]
   rw [e]
   exact ⟨cell _ _ k0 k1 ht.1 ht.2, ⟨by show 0 ≤ (h + 1) * n + 1; omega, by show (h + 1) * n + 1 < _; omega⟩⟩
theorem small_exp {l : List S85} (hs : Small n arcs s t h l) : expErr n arcs s t h = 0 := by
 have h1 := hs.two
 have h2 := hs.hor
 have h3 := hs.net.len
 unfold expErr
 rw [if_pos (small_ask hs), if_pos]
 unfold fitsB
 have e1 : (h + 1) * n ≤ 4000 := by
  have := Int.mul_le_mul (show h + 1 ≤ 8 by omega) (show n ≤ 5 by omega) (by omega) (by omega)
  omega
 have e2 : (h + 1) * (arcs.length : Int) ≤ 10000 := by
  have := Int.mul_le_mul (show h + 1 ≤ 8 by omega) (show (arcs.length : Int) ≤ 200 by omega) (by omega) (by omega)
  omega
 rw [if_pos (checkErr_ok.2 hs.net), if_pos (spanErr_ok.2 (by omega)), if_pos e1]
 exact decide_eq_true e2
end
end Go.Proofs.Ytfhkkbpkajfdlaa.P
end
section
namespace Go.Proofs.Ytfhkkbpkajfdlaa.Q
open Go.RowKit Go.Proofs.YtfhkkbpkajfdlaaW.PrintWords Go.Proofs.YtfhkkbpkajfdlaaW.PrintLast Go.Proofs.YtfhkkbpkajfdlaaW.PrintMore
def ebbtideref08_found_has.l0 : Nat → Int → Int → List Int → List (S115) → Option (Int)
 | 0, _, _, _, _ => none
 | k + 1, x1, x5, x465000, x465001 => if x5 < (x465000.length : Int) then (if 0 ≤ x5 then (if (rd x465000 x5) = x1 then (some x5) else (ebbtideref08_found_has.l0 k x1 (wrap64 (x5 + 1)) x465000 x465001)) else (none)) else (some (-1))
def ebbtideref08_found_has.f (k : Nat) (l0_0 : List Int) (l0_1 : List (S115)) (a1 : Int) : Option (Int) := ebbtideref08_found_has.l0 k a1 0 l0_0 l0_1
set_option maxHeartbeats 8000000 in
set_option maxRecDepth 100000 in
theorem ebbtideref08_found_has.calls (k : Nat) (A0_0 : Option Addr) (c0_0 : Nat) (l0_0 : List Int) (A0_1 : Option Addr) (c0_1 : Nat) (l0_1 : List (S115)) (a1 : Int) (r : Int) (w : World) (hr0_0 : Kd.C (Kd.int .i64) w A0_0 l0_0.length l0_0) (hc0_0 : l0_0.length ≤ c0_0) (hr0_1 : Kd.C k115 w A0_1 l0_1.length l0_1) (hc0_1 : l0_1.length ≤ c0_1) (h : ebbtideref08_found_has.f k l0_0 l0_1 a1 = some r) :
  Calls Try.prog 68 #[.agg #[.slice A0_0 l0_0.length c0_0, .slice A0_1 l0_1.length c0_1], .int .i64 a1] w fun e w' => e = .returned (.int .i64 r) ∧ Below w.heap.size w w' := by
 have hu111 := Try.underlying111; have HR0_0 := am_ hr0_0; have HC0_0 := am_ hc0_0; clear hr0_0 hc0_0; have HR0_1 := am_ hr0_1; have HC0_1 := am_ hc0_1; clear hr0_1 hc0_1; have HB := am_ (Below.refl w.heap.size w); have H : (ebbtideref08_found_has.l0 k a1 0 l0_0 l0_1) = some r := h; clear h; have H' := am_ H; clear H
 go_enter Try.func68, Try.ntmps68
 go_wp2_with (first | ((with_reducible refine gate_dst (N := 2) rfl ?_); refine bx_ 2 #[.slice A0_0 l0_0.length c0_0, .slice A0_1 l0_1.length c0_1] 111 ?_; intro gb464 hg w3 BK464 hb; have GE464 := ge_ (w := w) hg; replace HB := hst_ hb; clear hb hg))
 go_loopg [5] k (fun kq v5 w' => ∃ (x5_1 : Int), v5 = .int .i64 x5_1 ∧ Aside0 (ebbtideref08_found_has.l0 kq a1 x5_1 l0_0 l0_1 = some r) ∧ Aside0 (kq ≤ k) ∧ Aside0 (w'.heap[gb464]? = some (.cells #[(.slice A0_0 l0_0.length c0_0), (.slice A0_1 l0_1.length c0_1)] 111 (0, 0))) ∧ Aside0 (Below w.heap.size w w'))
 case atStart => exact ⟨(0), rs_, H', ⟨Nat.le_refl _⟩, ⟨bq_ BK464.out⟩, ⟨hb_⟩⟩
 case round =>
  clear H'
  try clear p2
  obtain ⟨x5_1, rfl, HA, HK1, BK464, HB⟩ := hrel
  cases gk with
  | zero => exact absurd HA.out (by simp [ebbtideref08_found_has.l0])
  | succ k1 =>
   have H := HA.out; clear HA; simp only [ebbtideref08_found_has.l0] at H
   by_cases c4 : x5_1 < (l0_0.length : Int)
   ·rw [if_pos c4] at H
    have c4b0 := decide_eq_true c4; clear c4
    replace H := ifn_ H; obtain ⟨c5, H⟩ := H
    have c5b0 := decide_eq_true c5; clear c5
    by_cases c6 : (rd l0_0 x5_1) = a1
    ·rw [if_pos c6] at H
     obtain ⟨c6b0, c6b1⟩ := eqb_ c6; clear c6; obtain rfl := Option.some.inj H; obtain ⟨hcz7_0, hcz7_1, hfz7_0, hfz7_1⟩ := cf2_ BK464.out; have p465 := od_ (p := 0 ≤ (x5_1 : Int)); have q465 := od_ (p := x5_1 < (l0_0.length : Int)); obtain ⟨ad465, e465, hx465_0⟩ := tr1_ HB.out (Kd.at_int HR0_0.out x5_1 p465 q465); cases e465; replace p465 := eq_true p465; replace q465 := eq_true q465
     go_wp2
     go_ret
     exact ⟨er_, hb_⟩
    ·rw [if_neg c6] at H
     obtain ⟨c6b0, c6b1⟩ := neb_ c6; have H' := am_ H; clear H; obtain ⟨hcz8_0, hcz8_1, hfz8_0, hfz8_1⟩ := cf2_ BK464.out; have p465 := od_ (p := 0 ≤ (x5_1 : Int)); have q465 := od_ (p := x5_1 < (l0_0.length : Int)); obtain ⟨ad465, e465, hx465_0⟩ := tr1_ HB.out (Kd.at_int HR0_0.out x5_1 p465 q465); cases e465; replace p465 := eq_true p465; replace q465 := eq_true q465
     go_wp2
     go_roundg k1
     case measure => have := HK1.out; omega
     case rel => exact ⟨(wrap64 (x5_1 + 1)), rs_, H', ⟨by have := HK1.out; omega⟩, ⟨bq_ BK464.out⟩, ⟨hb_⟩⟩
   ·rw [if_neg c4] at H
    have c4b0 := decide_eq_false c4; clear c4; obtain rfl := Option.some.inj H; obtain ⟨hcz9_0, hcz9_1, hfz9_0, hfz9_1⟩ := cf2_ BK464.out
    go_wp2
    go_ret
    exact ⟨er_, hb_⟩
def ebbtideref07_From.f (a0_0 : Int) (a0_1 : Bool) (l0_2 : List (S54)) (a1_0 : Int) (a1_1 : Bool) : Option (Int) := if a1_1 = true then (if 0 ≤ a1_0 then (if a1_0 < (l0_2.length : Int) then (some ((rd_T54 l0_2 a1_0).f1)) else (none)) else (none)) else (if 0 ≤ a1_0 then (if a1_0 < (l0_2.length : Int) then (some ((rd_T54 l0_2 a1_0).f0)) else (none)) else (none))
set_option maxHeartbeats 8000000 in
set_option maxRecDepth 100000 in
theorem ebbtideref07_From.calls (a0_0 : Int) (a0_1 : Bool) (A0_2 : Option Addr) (c0_2 : Nat) (l0_2 : List (S54)) (a1_0 : Int) (a1_1 : Bool) (r : Int) (w : World) (hr0_2 : Kd.C k54 w A0_2 l0_2.length l0_2) (hc0_2 : l0_2.length ≤ c0_2) (h : ebbtideref07_From.f a0_0 a0_1 l0_2 a1_0 a1_1 = some r) :
  Calls Try.prog 69 #[.agg #[.int .i64 a0_0, .bool a0_1, .slice A0_2 l0_2.length c0_2], .agg #[.int .i64 a1_0, .bool a1_1]] w fun e w' => e = .returned (.int .i64 r) ∧ Below w.heap.size w w' := by
 have hu24 := Try.underlying24; have hu115 := Try.underlying115; have HR0_2 := am_ hr0_2; have HC0_2 := am_ hc0_2; clear hr0_2 hc0_2; have HB := am_ (Below.refl w.heap.size w); have H : (if a1_1 = true then (if 0 ≤ a1_0 then (if a1_0 < (l0_2.length : Int) then (some ((rd_T54 l0_2 a1_0).f1)) else (none)) else (none)) else (if 0 ≤ a1_0 then (if a1_0 < (l0_2.length : Int) then (some ((rd_T54 l0_2 a1_0).f0)) else (none)) else (none))) = some r := h; clear h
 by_cases c3 : a1_1 = true
 ·subst c3
  have H1 : (if 0 ≤ a1_0 then (if a1_0 < (l0_2.length : Int) then (some ((rd_T54 l0_2 a1_0).f1)) else (none)) else (none)) = some r := by rw [if_pos rfl] at H; exact H
  clear H; have H := H1; clear H1
  replace H := ifn_ H; obtain ⟨c4, H⟩ := H
  have c4b0 := decide_eq_true c4; clear c4
  replace H := ifn_ H; obtain ⟨c5, H⟩ := H
  have c5b0 := decide_eq_true c5; clear c5; obtain rfl := Option.some.inj H
  go_enter Try.func69, Try.ntmps69
  go_wp2_with (first | ((with_reducible refine gate_dst (N := 2) rfl ?_); refine bx_ 2 #[.int .i64 a0_0, .bool a0_1, .slice A0_2 l0_2.length c0_2] 24 ?_; intro gb466 hg w6 BK466 hb; have GE466 := ge_ (w := w) hg; replace HB := hst_ hb; clear hb hg) | ((with_reducible refine gate_dst (N := 3) rfl ?_); refine bx_ 3 #[.int .i64 a1_0, .bool true] 115 ?_; intro gb467 hg w7 BK467 hb; have GE467 := ge_ (w := w) hg; replace HB := hst_ hb; have NB466_467 := am_ (nl_ BK466.out hg); have NB467_466 := am_ (ng_ BK466.out hg); replace BK466 := am_ (bb_ BK466.out hb); clear hb hg; have hnb8 := NB467_466.out; have hnc8 := NB466_467.out; obtain ⟨hcz9_0, hcz9_1, hfz9_0, hfz9_1⟩ := cf2_ BK467.out; obtain ⟨hcz10_0, hcz10_1, hcz10_2, hfz10_0, hfz10_1, hfz10_2⟩ := cf3_ BK466.out; have p468 : 0 ≤ (a1_0 : Int) := of_decide_eq_true sm_; have q468 : a1_0 < (l0_2.length : Int) := of_decide_eq_true sm_; obtain ⟨ad468, e468, hx468_0, hx468_1, hx468_2, hx468_3⟩ := at_T54 HR0_2.out a1_0 p468 q468; cases e468; replace hx468_0 := (HB.out.cell (World.block_lt_of_cell? w _ hx468_0)).trans hx468_0; replace hx468_1 := (HB.out.cell (World.block_lt_of_cell? w _ hx468_1)).trans hx468_1; replace hx468_2 := (HB.out.cell (World.block_lt_of_cell? w _ hx468_2)).trans hx468_2; replace hx468_3 := (HB.out.cell (World.block_lt_of_cell? w _ hx468_3)).trans hx468_3; replace p468 := eq_true p468; replace q468 := eq_true q468))
  go_ret
  exact ⟨er_, hb_⟩
 ·replace c3 := Bool.eq_false_iff.mpr c3
  subst c3
  have H1 : (if 0 ≤ a1_0 then (if a1_0 < (l0_2.length : Int) then (some ((rd_T54 l0_2 a1_0).f0)) else (none)) else (none)) = some r := by rw [if_neg (show ¬ (false = true) by decide)] at H; exact H
  clear H; have H := H1; clear H1
  replace H := ifn_ H; obtain ⟨c11, H⟩ := H
  have c11b0 := decide_eq_true c11; clear c11
  replace H := ifn_ H; obtain ⟨c12, H⟩ := H
  have c12b0 := decide_eq_true c12; clear c12; obtain rfl := Option.some.inj H
  go_enter Try.func69, Try.ntmps69
  go_wp2_with (first | ((with_reducible refine gate_dst (N := 2) rfl ?_); refine bx_ 2 #[.int .i64 a0_0, .bool a0_1, .slice A0_2 l0_2.length c0_2] 24 ?_; intro gb466 hg w13 BK466 hb; have GE466 := ge_ (w := w) hg; replace HB := hst_ hb; clear hb hg) | ((with_reducible refine gate_dst (N := 3) rfl ?_); refine bx_ 3 #[.int .i64 a1_0, .bool false] 115 ?_; intro gb467 hg w14 BK467 hb; have GE467 := ge_ (w := w) hg; replace HB := hst_ hb; have NB466_467 := am_ (nl_ BK466.out hg); have NB467_466 := am_ (ng_ BK466.out hg); replace BK466 := am_ (bb_ BK466.out hb); clear hb hg; have hnb15 := NB467_466.out; have hnc15 := NB466_467.out; obtain ⟨hcz16_0, hcz16_1, hfz16_0, hfz16_1⟩ := cf2_ BK467.out; obtain ⟨hcz17_0, hcz17_1, hcz17_2, hfz17_0, hfz17_1, hfz17_2⟩ := cf3_ BK466.out; have p469 : 0 ≤ (a1_0 : Int) := of_decide_eq_true sm_; have q469 : a1_0 < (l0_2.length : Int) := of_decide_eq_true sm_; obtain ⟨ad469, e469, hx469_0, hx469_1, hx469_2, hx469_3⟩ := at_T54 HR0_2.out a1_0 p469 q469; cases e469; replace hx469_0 := (HB.out.cell (World.block_lt_of_cell? w _ hx469_0)).trans hx469_0; replace hx469_1 := (HB.out.cell (World.block_lt_of_cell? w _ hx469_1)).trans hx469_1; replace hx469_2 := (HB.out.cell (World.block_lt_of_cell? w _ hx469_2)).trans hx469_2; replace hx469_3 := (HB.out.cell (World.block_lt_of_cell? w _ hx469_3)).trans hx469_3; replace p469 := eq_true p469; replace q469 := eq_true q469))
  go_ret
  exact ⟨er_, hb_⟩
def ebbtideref07_To.f (a0_0 : Int) (a0_1 : Bool) (l0_2 : List (S54)) (a1_0 : Int) (a1_1 : Bool) : Option (Int) := if a1_1 = true then (if 0 ≤ a1_0 then (if a1_0 < (l0_2.length : Int) then (some ((rd_T54 l0_2 a1_0).f0)) else (none)) else (none)) else (if 0 ≤ a1_0 then (if a1_0 < (l0_2.length : Int) then (some ((rd_T54 l0_2 a1_0).f1)) else (none)) else (none))
set_option maxHeartbeats 8000000 in
set_option maxRecDepth 100000 in
theorem ebbtideref07_To.calls (a0_0 : Int) (a0_1 : Bool) (A0_2 : Option Addr) (c0_2 : Nat) (l0_2 : List (S54)) (a1_0 : Int) (a1_1 : Bool) (r : Int) (w : World) (hr0_2 : Kd.C k54 w A0_2 l0_2.length l0_2) (hc0_2 : l0_2.length ≤ c0_2) (h : ebbtideref07_To.f a0_0 a0_1 l0_2 a1_0 a1_1 = some r) :
  Calls Try.prog 85 #[.agg #[.int .i64 a0_0, .bool a0_1, .slice A0_2 l0_2.length c0_2], .agg #[.int .i64 a1_0, .bool a1_1]] w fun e w' => e = .returned (.int .i64 r) ∧ Below w.heap.size w w' := by
 have hu24 := Try.underlying24; have hu115 := Try.underlying115; have HR0_2 := am_ hr0_2; have HC0_2 := am_ hc0_2; clear hr0_2 hc0_2; have HB := am_ (Below.refl w.heap.size w); have H : (if a1_1 = true then (if 0 ≤ a1_0 then (if a1_0 < (l0_2.length : Int) then (some ((rd_T54 l0_2 a1_0).f0)) else (none)) else (none)) else (if 0 ≤ a1_0 then (if a1_0 < (l0_2.length : Int) then (some ((rd_T54 l0_2 a1_0).f1)) else (none)) else (none))) = some r := h; clear h
 by_cases c3 : a1_1 = true
 ·subst c3
  have H1 : (if 0 ≤ a1_0 then (if a1_0 < (l0_2.length : Int) then (some ((rd_T54 l0_2 a1_0).f0)) else (none)) else (none)) = some r := by rw [if_pos rfl] at H; exact H
  clear H; have H := H1; clear H1
  replace H := ifn_ H; obtain ⟨c4, H⟩ := H
  have c4b0 := decide_eq_true c4; clear c4
  replace H := ifn_ H; obtain ⟨c5, H⟩ := H
  have c5b0 := decide_eq_true c5; clear c5; obtain rfl := Option.some.inj H
  go_enter Try.func85, Try.ntmps85
  go_wp2_with (first | ((with_reducible refine gate_dst (N := 2) rfl ?_); refine bx_ 2 #[.int .i64 a0_0, .bool a0_1, .slice A0_2 l0_2.length c0_2] 24 ?_; intro gb470 hg w6 BK470 hb; have GE470 := ge_ (w := w) hg; replace HB := hst_ hb; clear hb hg) | ((with_reducible refine gate_dst (N := 3) rfl ?_); refine bx_ 3 #[.int .i64 a1_0, .bool true] 115 ?_; intro gb471 hg w7 BK471 hb; have GE471 := ge_ (w := w) hg; replace HB := hst_ hb; have NB470_471 := am_ (nl_ BK470.out hg); have NB471_470 := am_ (ng_ BK470.out hg); replace BK470 := am_ (bb_ BK470.out hb); clear hb hg; have hnb8 := NB471_470.out; have hnc8 := NB470_471.out; obtain ⟨hcz9_0, hcz9_1, hfz9_0, hfz9_1⟩ := cf2_ BK471.out; obtain ⟨hcz10_0, hcz10_1, hcz10_2, hfz10_0, hfz10_1, hfz10_2⟩ := cf3_ BK470.out; have p472 : 0 ≤ (a1_0 : Int) := of_decide_eq_true sm_; have q472 : a1_0 < (l0_2.length : Int) := of_decide_eq_true sm_; obtain ⟨ad472, e472, hx472_0, hx472_1, hx472_2, hx472_3⟩ := at_T54 HR0_2.out a1_0 p472 q472; cases e472; replace hx472_0 := (HB.out.cell (World.block_lt_of_cell? w _ hx472_0)).trans hx472_0; replace hx472_1 := (HB.out.cell (World.block_lt_of_cell? w _ hx472_1)).trans hx472_1; replace hx472_2 := (HB.out.cell (World.block_lt_of_cell? w _ hx472_2)).trans hx472_2; replace hx472_3 := (HB.out.cell (World.block_lt_of_cell? w _ hx472_3)).trans hx472_3; replace p472 := eq_true p472; replace q472 := eq_true q472))
  go_ret
  exact ⟨er_, hb_⟩
 ·replace c3 := Bool.eq_false_iff.mpr c3
  subst c3
  have H1 : (if 0 ≤ a1_0 then (if a1_0 < (l0_2.length : Int) then (some ((rd_T54 l0_2 a1_0).f1)) else (none)) else (none)) = some r := by rw [if_neg (show ¬ (false = true) by decide)] at H; exact H
  clear H; have H := H1; clear H1
  replace H := ifn_ H; obtain ⟨c11, H⟩ := H
  have c11b0 := decide_eq_true c11; clear c11
  replace H := ifn_ H; obtain ⟨c12, H⟩ := H
  have c12b0 := decide_eq_true c12; clear c12; obtain rfl := Option.some.inj H
  go_enter Try.func85, Try.ntmps85
  go_wp2_with (first | ((with_reducible refine gate_dst (N := 2) rfl ?_); refine bx_ 2 #[.int .i64 a0_0, .bool a0_1, .slice A0_2 l0_2.length c0_2] 24 ?_; intro gb470 hg w13 BK470 hb; have GE470 := ge_ (w := w) hg; replace HB := hst_ hb; clear hb hg) | ((with_reducible refine gate_dst (N := 3) rfl ?_); refine bx_ 3 #[.int .i64 a1_0, .bool false] 115 ?_; intro gb471 hg w14 BK471 hb; have GE471 := ge_ (w := w) hg; replace HB := hst_ hb; have NB470_471 := am_ (nl_ BK470.out hg); have NB471_470 := am_ (ng_ BK470.out hg); replace BK470 := am_ (bb_ BK470.out hb); clear hb hg; have hnb15 := NB471_470.out; have hnc15 := NB470_471.out; obtain ⟨hcz16_0, hcz16_1, hfz16_0, hfz16_1⟩ := cf2_ BK471.out; obtain ⟨hcz17_0, hcz17_1, hcz17_2, hfz17_0, hfz17_1, hfz17_2⟩ := cf3_ BK470.out; have p473 : 0 ≤ (a1_0 : Int) := of_decide_eq_true sm_; have q473 : a1_0 < (l0_2.length : Int) := of_decide_eq_true sm_; obtain ⟨ad473, e473, hx473_0, hx473_1, hx473_2, hx473_3⟩ := at_T54 HR0_2.out a1_0 p473 q473; cases e473; replace hx473_0 := (HB.out.cell (World.block_lt_of_cell? w _ hx473_0)).trans hx473_0; replace hx473_1 := (HB.out.cell (World.block_lt_of_cell? w _ hx473_1)).trans hx473_1; replace hx473_2 := (HB.out.cell (World.block_lt_of_cell? w _ hx473_2)).trans hx473_2; replace hx473_3 := (HB.out.cell (World.block_lt_of_cell? w _ hx473_3)).trans hx473_3; replace p473 := eq_true p473; replace q473 := eq_true q473))
  go_ret
  exact ⟨er_, hb_⟩
end Go.Proofs.Ytfhkkbpkajfdlaa.Q
end
