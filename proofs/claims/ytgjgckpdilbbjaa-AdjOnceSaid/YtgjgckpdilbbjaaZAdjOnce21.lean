/- A part of the proof: words, contracts, plain lemmas. Conditions: none. -/
import Derived.Test.YtgjgckpdilbbjaaZAdjOnce3
import Derived.Test.YtgjgckpdilbbjaaZAdjOnce17
import Derived.Test.YtgjgckpdilbbjaaZAdjOnce19
import Derived.Test.YtgjgckpdilbbjaaZAdjOnce20
section
namespace Go.Proofs.Ytgjgckpdilbbjaa.Q
open Go.RowKit Go.Proofs.YtgjgckpdilbbjaaW.PrintWords Go.Proofs.YtgjgckpdilbbjaaW.PrintLast Go.Proofs.YtgjgckpdilbbjaaW.PrintMore
attribute [local go_sem] max2_int min2_int max_two min_four
set_option linter.unusedVariables false
set_option linter.unusedSimpArgs false
mutual
def ebbtidelaw06_AdjOnce.j0 : Nat → Bool → List (List Int) → List (List Int) → Bool → Int → Bool → List (S37) → Option (Bool)
 | 0, _, _, _, _, _, _, _ => none
 | k + 1, x3, x4, x6, x52, x349000, x349001, x349002 => if x52 = true then (some false) else (if 0 ≤ (x349002.length : Int) then (if ((x349002.length : Int) : Int).toNat ≤ 35184372088832 then (ebbtidelaw06_AdjOnce.l0 k x3 x4 x6 (List.replicate ((x349002.length : Int) : Int).toNat 0) (List.replicate ((x349002.length : Int) : Int).toNat 0) 0 x349000 x349001 x349002) else (none)) else (none))
def ebbtidelaw06_AdjOnce.l0 : Nat → Bool → List (List Int) → List (List Int) → List Int → List Int → Int → Int → Bool → List (S37) → Option (Bool)
 | 0, _, _, _, _, _, _, _, _, _ => none
 | k + 1, x3, x4, x6, x8, x9, x10, x349000, x349001, x349002 => if x10 < x349000 then (ebbtidelaw06_AdjOnce.l1 k x3 x4 x6 x8 x9 x10 0 x349000 x349001 x349002) else (ebbtidelaw06_AdjOnce.l3 k x3 x8 x9 0)
def ebbtidelaw06_AdjOnce.l1 : Nat → Bool → List (List Int) → List (List Int) → List Int → List Int → Int → Int → Int → Bool → List (S37) → Option (Bool)
 | 0, _, _, _, _, _, _, _, _, _, _ => none
 | k + 1, x3, x4, x6, x8, x9, x10, x11, x349000, x349001, x349002 => if 0 ≤ x10 then (if x10 < (x4.length : Int) then (if x11 < ((rd_L3 x4 x10).length : Int) then (if 0 ≤ x11 then (if (rd (rd_L3 x4 x10) x11) < 0 then (some false) else (if (rd (rd_L3 x4 x10) x11) ≥ (x8.length : Int) then (some false) else (if 0 ≤ (rd (rd_L3 x4 x10) x11) then (if (rd (rd_L3 x4 x10) x11) < (x349002.length : Int) then (if ((rd_T37 x349002 (rd (rd_L3 x4 x10) x11)).f0) = x10 then (if (rd (rd_L3 x4 x10) x11) < (x8.length : Int) then (ebbtidelaw06_AdjOnce.l1 k x3 x4 x6 (x8.set ((rd (rd_L3 x4 x10) x11) : Int).toNat (wrap64 ((rd x8 (rd (rd_L3 x4 x10) x11)) + 1))) x9 x10 (wrap64 (x11 + 1)) x349000 x349001 x349002) else (none)) else (some false)) else (none)) else (none)))) else (none)) else (ebbtidelaw06_AdjOnce.l2 k x3 x4 x6 x8 x9 x10 0 x349000 x349001 x349002)) else (none)) else (none)
def ebbtidelaw06_AdjOnce.l2 : Nat → Bool → List (List Int) → List (List Int) → List Int → List Int → Int → Int → Int → Bool → List (S37) → Option (Bool)
 | 0, _, _, _, _, _, _, _, _, _, _ => none
 | k + 1, x3, x4, x6, x8, x9, x10, x13, x349000, x349001, x349002 => if 0 ≤ x10 then (if x10 < (x6.length : Int) then (if x13 < ((rd_L3 x6 x10).length : Int) then (if 0 ≤ x13 then (if (rd (rd_L3 x6 x10) x13) < 0 then (some false) else (if (rd (rd_L3 x6 x10) x13) ≥ (x9.length : Int) then (some false) else (if 0 ≤ (rd (rd_L3 x6 x10) x13) then (if (rd (rd_L3 x6 x10) x13) < (x349002.length : Int) then (if ((rd_T37 x349002 (rd (rd_L3 x6 x10) x13)).f1) = x10 then (if (rd (rd_L3 x6 x10) x13) < (x9.length : Int) then (ebbtidelaw06_AdjOnce.l2 k x3 x4 x6 x8 (x9.set ((rd (rd_L3 x6 x10) x13) : Int).toNat (wrap64 ((rd x9 (rd (rd_L3 x6 x10) x13)) + 1))) x10 (wrap64 (x13 + 1)) x349000 x349001 x349002) else (none)) else (some false)) else (none)) else (none)))) else (none)) else (ebbtidelaw06_AdjOnce.l0 k x3 x4 x6 x8 x9 (wrap64 (x10 + 1)) x349000 x349001 x349002)) else (none)) else (none)
def ebbtidelaw06_AdjOnce.l3 : Nat → Bool → List Int → List Int → Int → Option (Bool)
 | 0, _, _, _, _ => none
 | k + 1, x3, x8, x9, x15 => if x15 < (x8.length : Int) then (if 0 ≤ x15 then (if (rd x8 x15) = 1 then (if x15 < (x9.length : Int) then (if (rd x9 x15) = 1 then (ebbtidelaw06_AdjOnce.l3 k x3 x8 x9 (wrap64 (x15 + 1))) else (some false)) else (none)) else (some false)) else (none)) else (some x3)
end
def ebbtidelaw06_AdjOnce.f (k : Nat) (a0_0 : Int) (a0_1 : Bool) (l0_2 : List (S37)) : Option (Bool) := (ebbtidelaw06_awake.f k).bind fun t349 => (if t349 = true then ((ebbtideref05_Check.f k a0_0 a0_1 l0_2).bind fun t350 => (if t350 = 0 then ((adj_Out.f k a0_0 a0_1 l0_2).bind fun bt351 => ((adj_In.f k a0_0 a0_1 l0_2).bind fun bt355 => (if bt351.2 = 0 then (if bt355.2 = 0 then (if (bt351.1.length : Int) = a0_0 then (ebbtidelaw06_AdjOnce.j0 k t349 bt351.1 bt355.1 ((bt355.1.length : Int) != a0_0) a0_0 a0_1 l0_2) else (ebbtidelaw06_AdjOnce.j0 k t349 bt351.1 bt355.1 true a0_0 a0_1 l0_2)) else (ebbtidelaw06_AdjOnce.j0 k t349 bt351.1 bt355.1 true a0_0 a0_1 l0_2)) else (ebbtidelaw06_AdjOnce.j0 k t349 bt351.1 bt355.1 true a0_0 a0_1 l0_2)))) else (some t349))) else (some false))
def ebbtidelaw06_AdjOnce.T10 : Bool × List (List Nat × List Nat) := (true, [([], []), ([0], [0]), ([1], [1]), ([2, 2], [2]), ([], []), ([4], [4]), ([5], [5]), ([6, 6], [6]), ([3, 0, 1, 2, 3], [3]), ([7, 8, 0, 1, 2, 3, 4, 5, 6, 7, 8], [7])])
def ebbtidelaw06_AdjOnce.B10 : List Nat := [0, 1, 3, 7, 0, 16, 48, 112, 15, 511]
theorem ebbtidelaw06_AdjOnce.tab10 : rtab .any (opsOf Try.f9 10) = ebbtidelaw06_AdjOnce.T10 := by kernel_rfl
theorem ebbtidelaw06_AdjOnce.bits10 : waitsOk ebbtidelaw06_AdjOnce.T10.2 ebbtidelaw06_AdjOnce.B10 = true := by kernel_rfl
set_option maxHeartbeats 8000000 in
set_option maxRecDepth 100000 in
theorem ebbtidelaw06_AdjOnce.calls (k : Nat) (a0_0 : Int) (a0_1 : Bool) (A0_2 : Option Addr) (c0_2 : Nat) (l0_2 : List (S37)) (r : Bool) (w : World) (hr0_2 : Kd.C k37 w A0_2 l0_2.length l0_2) (hc0_2 : l0_2.length ≤ c0_2) (h : ebbtidelaw06_AdjOnce.f k a0_0 a0_1 l0_2 = some r) (hrt : r = true := by first | rfl | exact HRT.out | assumption) :
  Calls Try.prog 9 #[.agg #[.int .i64 a0_0, .bool a0_1, .slice A0_2 l0_2.length c0_2]] w fun e w' => e = .returned (.bool r) ∧ Below w.heap.size w w' := by
 have HRT := Aside0.mk hrt; clear hrt; have hu24 := Try.underlying24; have HR0_2 := Aside0.mk hr0_2; have HC0_2 := Aside0.mk hc0_2; clear hr0_2 hc0_2; have HB := Aside0.mk (Below.refl w.heap.size w); have H : ((ebbtidelaw06_awake.f k).bind fun t349 => (if t349 = true then ((ebbtideref05_Check.f k a0_0 a0_1 l0_2).bind fun t350 => (if t350 = 0 then ((adj_Out.f k a0_0 a0_1 l0_2).bind fun bt351 => ((adj_In.f k a0_0 a0_1 l0_2).bind fun bt355 => (if bt351.2 = 0 then (if bt355.2 = 0 then (if (bt351.1.length : Int) = a0_0 then (ebbtidelaw06_AdjOnce.j0 k t349 bt351.1 bt355.1 ((bt355.1.length : Int) != a0_0) a0_0 a0_1 l0_2) else (ebbtidelaw06_AdjOnce.j0 k t349 bt351.1 bt355.1 true a0_0 a0_1 l0_2)) else (ebbtidelaw06_AdjOnce.j0 k t349 bt351.1 bt355.1 true a0_0 a0_1 l0_2)) else (ebbtidelaw06_AdjOnce.j0 k t349 bt351.1 bt355.1 true a0_0 a0_1 l0_2)))) else (some t349))) else (some false))) = some r := h; clear h; replace H := Option.bind_eq_some_iff.mp H; obtain ⟨t349, A20, H⟩ := H; replace H : (if t349 = true then ((ebbtideref05_Check.f k a0_0 a0_1 l0_2).bind fun t350 => (if t350 = 0 then ((adj_Out.f k a0_0 a0_1 l0_2).bind fun bt351 => ((adj_In.f k a0_0 a0_1 l0_2).bind fun bt355 => (if bt351.2 = 0 then (if bt355.2 = 0 then (if (bt351.1.length : Int) = a0_0 then (ebbtidelaw06_AdjOnce.j0 k t349 bt351.1 bt355.1 ((bt355.1.length : Int) != a0_0) a0_0 a0_1 l0_2) else (ebbtidelaw06_AdjOnce.j0 k t349 bt351.1 bt355.1 true a0_0 a0_1 l0_2)) else (ebbtidelaw06_AdjOnce.j0 k t349 bt351.1 bt355.1 true a0_0 a0_1 l0_2)) else (ebbtidelaw06_AdjOnce.j0 k t349 bt351.1 bt355.1 true a0_0 a0_1 l0_2)))) else (some t349))) else (some false)) = some r := H; have A2 := Aside0.mk A20; clear A20
 by_cases c3 : t349 = true
 ·subst c3
  have H1 : ((ebbtideref05_Check.f k a0_0 a0_1 l0_2).bind fun t350 => (if t350 = 0 then ((adj_Out.f k a0_0 a0_1 l0_2).bind fun bt351 => ((adj_In.f k a0_0 a0_1 l0_2).bind fun bt355 => (if bt351.2 = 0 then (if bt355.2 = 0 then (if (bt351.1.length : Int) = a0_0 then (ebbtidelaw06_AdjOnce.j0 k true bt351.1 bt355.1 ((bt355.1.length : Int) != a0_0) a0_0 a0_1 l0_2) else (ebbtidelaw06_AdjOnce.j0 k true bt351.1 bt355.1 true a0_0 a0_1 l0_2)) else (ebbtidelaw06_AdjOnce.j0 k true bt351.1 bt355.1 true a0_0 a0_1 l0_2)) else (ebbtidelaw06_AdjOnce.j0 k true bt351.1 bt355.1 true a0_0 a0_1 l0_2)))) else (some true))) = some r := by rw [if_pos rfl] at H; exact H
  clear H; have H := H1; clear H1; replace H := Option.bind_eq_some_iff.mp H; obtain ⟨t350, A40, H⟩ := H; replace H : (if t350 = 0 then ((adj_Out.f k a0_0 a0_1 l0_2).bind fun bt351 => ((adj_In.f k a0_0 a0_1 l0_2).bind fun bt355 => (if bt351.2 = 0 then (if bt355.2 = 0 then (if (bt351.1.length : Int) = a0_0 then (ebbtidelaw06_AdjOnce.j0 k true bt351.1 bt355.1 ((bt355.1.length : Int) != a0_0) a0_0 a0_1 l0_2) else (ebbtidelaw06_AdjOnce.j0 k true bt351.1 bt355.1 true a0_0 a0_1 l0_2)) else (ebbtidelaw06_AdjOnce.j0 k true bt351.1 bt355.1 true a0_0 a0_1 l0_2)) else (ebbtidelaw06_AdjOnce.j0 k true bt351.1 bt355.1 true a0_0 a0_1 l0_2)))) else (some true)) = some r := H; have A4 := Aside0.mk A40; clear A40
  by_cases c5 : t350 = 0
  ·rw [if_pos c5] at H
   have c5b0 : (t350 == 0) = true := beq_iff_eq.mpr c5; have c5b1 : (t350 != 0) = false := bne_eq_false_iff_eq.mpr c5; clear c5; replace H := Option.bind_eq_some_iff.mp H; obtain ⟨⟨t351, t354⟩, A60, H⟩ := H; replace H : ((adj_In.f k a0_0 a0_1 l0_2).bind fun bt355 => (if t354 = 0 then (if bt355.2 = 0 then (if (t351.length : Int) = a0_0 then (ebbtidelaw06_AdjOnce.j0 k true t351 bt355.1 ((bt355.1.length : Int) != a0_0) a0_0 a0_1 l0_2) else (ebbtidelaw06_AdjOnce.j0 k true t351 bt355.1 true a0_0 a0_1 l0_2)) else (ebbtidelaw06_AdjOnce.j0 k true t351 bt355.1 true a0_0 a0_1 l0_2)) else (ebbtidelaw06_AdjOnce.j0 k true t351 bt355.1 true a0_0 a0_1 l0_2))) = some r := H; have A6 := Aside0.mk A60; clear A60; replace H := Option.bind_eq_some_iff.mp H; obtain ⟨⟨t355, t358⟩, A70, H⟩ := H; replace H : (if t354 = 0 then (if t358 = 0 then (if (t351.length : Int) = a0_0 then (ebbtidelaw06_AdjOnce.j0 k true t351 t355 ((t355.length : Int) != a0_0) a0_0 a0_1 l0_2) else (ebbtidelaw06_AdjOnce.j0 k true t351 t355 true a0_0 a0_1 l0_2)) else (ebbtidelaw06_AdjOnce.j0 k true t351 t355 true a0_0 a0_1 l0_2)) else (ebbtidelaw06_AdjOnce.j0 k true t351 t355 true a0_0 a0_1 l0_2)) = some r := H; have A7 := Aside0.mk A70; clear A70; have HC8 := Aside0.mk H; clear H
   go_enter Try.func9, Try.ntmps9
   go_upto_region 8 with (first | ((with_reducible refine gate_dst (N := 1) rfl ?_); (try (refine gate_guard (by rfl) ?_; dsimp only)); refine box_event ?hg (N := 1) ?hd (cs := #[.int .i64 a0_0, .bool a0_1, .slice A0_2 l0_2.length c0_2]) (t := 24) ?hr ?_; (case hd => rfl); (case hg => rfl); (case hr => first | (go_simp; done) | (go_simp; rfl)); intro gb348 hg w9 hbox hb; have n0_ := Aside0.mk (below_step (by repeat (first | (with_reducible first | exact HB.out | apply below_alloc | apply pw_below_drewN | apply below_drew1) | exact HB.out)) hb); have n1_ := Aside0.mk (hbox); have n2_ := Aside0.mk ((by rw [hg]; exact (below_size (by repeat (first | (with_reducible first | exact HB.out | apply below_alloc | apply pw_below_drewN | apply below_drew1) | exact HB.out))) : w.heap.size ≤ gb348)); have n3_ := Aside0.mk ((by rw [hg]; exact (below_size (by repeat (first | (with_reducible first | exact HB.out | apply below_alloc | apply pw_below_drewN | apply below_drew1) | exact HB.out))) : w.heap.size ≤ gb348)); clear HB; have HB := n0_; have BK348 := n1_; have GW348 := n2_; have GE348 := n3_; clear n0_ n1_ n2_ n3_; clear hb hbox hg) | ((with_reducible refine gate_callee (f := 12) rfl ?_); refine goesL_ (some 16) rfl rfl Try.func12 (by kernel_rfl) rfl #[] rfl (by (try simp only [List.map_toArray, List.map_cons, List.map_nil]); first | done | rfl | (simp only [List.length_drop, List.length_take]; rfl)) ?_; (with_reducible refine (ebbtidelaw06_awake.calls k  true _ A2.out).mono ?_); rintro e w10 ⟨rfl, hb⟩; refine ⟨_, rfl, ?_⟩; have n0_ := Aside0.mk (blk_below (g := gb348) (o := .cells #[.int .i64 a0_0, .bool a0_1, .slice A0_2 l0_2.length c0_2] 24 (0, 0)) (by (with_reducible repeat (first | refine blk_drewN ?_ _ | refine blk_drew ?_ | refine blk_alloc ?_ _)); exact BK348.out) hb); have n1_ := Aside0.mk (below_step (by repeat (first | (with_reducible first | exact HB.out | apply below_alloc | apply pw_below_drewN | apply below_drew1 | refine below_set ?_ GE348.out) | exact HB.out)) hb); clear BK348; clear HB; have BK348 := n0_; have HB := n1_; clear n0_ n1_; (try clear hb); (try clear hb2); (try clear hk); (try clear hi); have hcz11_0 : w10.cell? ⟨gb348, 0, none⟩ = some (.int .i64 a0_0) := (blk_cell BK348.out 0).trans rfl; have hcz11_1 : w10.cell? ⟨gb348, 1, none⟩ = some (.bool a0_1) := (blk_cell BK348.out 1).trans rfl; have hcz11_2 : w10.cell? ⟨gb348, 2, none⟩ = some (.slice A0_2 l0_2.length c0_2) := (blk_cell BK348.out 2).trans rfl; have hfz11_0 := blk_frozen BK348.out 0; have hfz11_1 := blk_frozen BK348.out 1; have hfz11_2 := blk_frozen BK348.out 2) | ((with_reducible refine gate_callee (f := 24) rfl ?_); refine goesL_ (some 20) rfl rfl Try.func24 (by kernel_rfl) rfl #[.agg #[.int .i64 a0_0, .bool a0_1, .slice A0_2 l0_2.length c0_2]] rfl (by (try simp only [List.map_toArray, List.map_cons, List.map_nil]); first | done | rfl | (simp only [List.length_drop, List.length_take]; rfl)) ?_; (with_reducible refine (ebbtideref05_Check.calls k a0_0 a0_1 _ _ l0_2 t350 _ ?side1 ?side2 A4.out).mono ?_); (case side1 => repeat (first | exact (Kd.C_below HR0_2.out HB.out) | (with_reducible refine Kd.C_alloc ?_ _) | (with_reducible refine Kd.C_drewN ?_ _) | (with_reducible refine Kd.C_drew ?_))); (case side2 => exact HC0_2.out); rintro e w12 ⟨rfl, hb⟩; refine ⟨_, rfl, ?_⟩; have n0_ := Aside0.mk (blk_below (g := gb348) (o := .cells #[.int .i64 a0_0, .bool a0_1, .slice A0_2 l0_2.length c0_2] 24 (0, 0)) (by (with_reducible repeat (first | refine blk_drewN ?_ _ | refine blk_drew ?_ | refine blk_alloc ?_ _)); exact BK348.out) hb); have n1_ := Aside0.mk (below_step (by repeat (first | (with_reducible first | exact HB.out | apply below_alloc | apply pw_below_drewN | apply below_drew1 | refine below_set ?_ GE348.out) | exact HB.out)) hb); clear BK348; clear HB; have BK348 := n0_; have HB := n1_; clear n0_ n1_; (try clear hb); (try clear hb2); (try clear hk); (try clear hi); have hcz13_0 : w12.cell? ⟨gb348, 0, none⟩ = some (.int .i64 a0_0) := (blk_cell BK348.out 0).trans rfl; have hcz13_1 : w12.cell? ⟨gb348, 1, none⟩ = some (.bool a0_1) := (blk_cell BK348.out 1).trans rfl; have hcz13_2 : w12.cell? ⟨gb348, 2, none⟩ = some (.slice A0_2 l0_2.length c0_2) := (blk_cell BK348.out 2).trans rfl; have hfz13_0 := blk_frozen BK348.out 0; have hfz13_1 := blk_frozen BK348.out 1; have hfz13_2 := blk_frozen BK348.out 2) | ((with_reducible refine gate_callee (f := 19) rfl ?_); refine goesL_ (some 25) rfl rfl Try.func19 (by kernel_rfl) rfl #[.agg #[.int .i64 a0_0, .bool a0_1, .slice A0_2 l0_2.length c0_2]] rfl (by (try simp only [List.map_toArray, List.map_cons, List.map_nil]); first | done | rfl | (simp only [List.length_drop, List.length_take]; rfl)) ?_; (with_reducible refine (adj_Out.calls k a0_0 a0_1 _ _ l0_2 t351 t354 _ ?side1 ?side2 A6.out).mono ?_); (case side1 => repeat (first | exact (Kd.C_below HR0_2.out HB.out) | (with_reducible refine Kd.C_alloc ?_ _) | (with_reducible refine Kd.C_drewN ?_ _) | (with_reducible refine Kd.C_drew ?_))); (case side2 => exact HC0_2.out); rintro e w14 ⟨v352, rfl, ho0, hb⟩; refine ⟨_, rfl, ?_⟩; have n0_ := Aside0.mk (Kd.S_lower ho0 (below_size (by repeat (first | (with_reducible first | exact HB.out | apply below_alloc | apply pw_below_drewN | apply below_drew1 | refine below_set ?_ GE348.out) | exact HB.out)))); have n1_ := Aside0.mk (blk_below (g := gb348) (o := .cells #[.int .i64 a0_0, .bool a0_1, .slice A0_2 l0_2.length c0_2] 24 (0, 0)) (by (with_reducible repeat (first | refine blk_drewN ?_ _ | refine blk_drew ?_ | refine blk_alloc ?_ _)); exact BK348.out) hb); have n2_ := Aside0.mk (below_step (by repeat (first | (with_reducible first | exact HB.out | apply below_alloc | apply pw_below_drewN | apply below_drew1 | refine below_set ?_ GE348.out) | exact HB.out)) hb); clear BK348; clear HB; have HO353 := n0_; have BK348 := n1_; have HB := n2_; clear n0_ n1_ n2_; (try clear hb); (try clear hb2); (try clear hk); (try clear hi); (try clear ho0); have hcz15_0 : w14.cell? ⟨gb348, 0, none⟩ = some (.int .i64 a0_0) := (blk_cell BK348.out 0).trans rfl; have hcz15_1 : w14.cell? ⟨gb348, 1, none⟩ = some (.bool a0_1) := (blk_cell BK348.out 1).trans rfl; have hcz15_2 : w14.cell? ⟨gb348, 2, none⟩ = some (.slice A0_2 l0_2.length c0_2) := (blk_cell BK348.out 2).trans rfl; have hfz15_0 := blk_frozen BK348.out 0; have hfz15_1 := blk_frozen BK348.out 1; have hfz15_2 := blk_frozen BK348.out 2) | ((with_reducible refine gate_callee (f := 21) rfl ?_); refine goesL_ (some 30) rfl rfl Try.func21 (by kernel_rfl) rfl #[.agg #[.int .i64 a0_0, .bool a0_1, .slice A0_2 l0_2.length c0_2]] rfl (by (try simp only [List.map_toArray, List.map_cons, List.map_nil]); first | done | rfl | (simp only [List.length_drop, List.length_take]; rfl)) ?_; (with_reducible refine (adj_In.calls k a0_0 a0_1 _ _ l0_2 t355 t358 _ ?side1 ?side2 A7.out).mono ?_); (case side1 => repeat (first | exact (Kd.C_below HR0_2.out HB.out) | (with_reducible refine Kd.C_alloc ?_ _) | (with_reducible refine Kd.C_drewN ?_ _) | (with_reducible refine Kd.C_drew ?_))); (case side2 => exact HC0_2.out); rintro e w16 ⟨v356, rfl, ho0, hb⟩; refine ⟨_, rfl, ?_⟩; have n0_ := Aside0.mk (Kd.S_elder' (by (with_reducible repeat (first | apply Kd.S_alloc | apply Kd.S_drewN | apply Kd.S_drew)); exact HO353.out) (Kd.S_base ho0) hb); have n1_ := Aside0.mk (Kd.S_lower (Kd.S_new' ho0 (Kd.S_lt (by (with_reducible repeat (first | apply Kd.S_alloc | apply Kd.S_drewN | apply Kd.S_drew)); exact HO353.out))) (below_size (by repeat (first | (with_reducible first | exact HB.out | apply below_alloc | apply pw_below_drewN | apply below_drew1 | refine below_set ?_ GE348.out) | exact HB.out)))); have n2_ := Aside0.mk (blk_below (g := gb348) (o := .cells #[.int .i64 a0_0, .bool a0_1, .slice A0_2 l0_2.length c0_2] 24 (0, 0)) (by (with_reducible repeat (first | refine blk_drewN ?_ _ | refine blk_drew ?_ | refine blk_alloc ?_ _)); exact BK348.out) hb); have n3_ := Aside0.mk (below_step (by repeat (first | (with_reducible first | exact HB.out | apply below_alloc | apply pw_below_drewN | apply below_drew1 | refine below_set ?_ GE348.out) | exact HB.out)) hb); clear HO353; clear BK348; clear HB; have HO353 := n0_; have HO357 := n1_; have BK348 := n2_; have HB := n3_; clear n0_ n1_ n2_ n3_; (try clear hb); (try clear hb2); (try clear hk); (try clear hi); (try clear ho0)))
   (try simp only [Act.put, List.setIfInBounds_toArray, List.set_cons_zero, List.set_cons_succ])
   go_cut [52] (fun v52 wc => ∃ (kq : Nat) (x52_7 : Bool), v52 = .bool x52_7 ∧ Aside0 (ebbtidelaw06_AdjOnce.j0 kq true t351 t355 x52_7 a0_0 a0_1 l0_2 = some r) ∧ Aside0 (kq ≤ k) ∧ Aside0 (Kd.S (Kd.slice 3 (Kd.int .i64)) 25 wc w.heap.size (fun k_ => some k_ ≠ (v356 : Value).ownBlock) v352 t351) ∧ Aside0 (Kd.S (Kd.slice 3 (Kd.int .i64)) 25 wc w.heap.size (fun k_ => some k_ ≠ (v352 : Value).ownBlock) v356 t355) ∧ Aside0 (wc.heap[gb348]? = some (.cells #[.int .i64 a0_0, .bool a0_1, (.slice A0_2 l0_2.length c0_2)] 24 (0, 0))) ∧ Aside0 (Below w.heap.size w wc))
   case first =>
    have H := HC8.out; clear HC8
    by_cases c17 : t354 = 0
    ·rw [if_pos c17] at H
     have c17b0 : (t354 == 0) = true := beq_iff_eq.mpr c17; have c17b1 : (t354 != 0) = false := bne_eq_false_iff_eq.mpr c17; clear c17
     (first | rw [c17b0] | (simp only [i64_w, i32_w]; rw [c17b0]) | skip)
     by_cases c18 : t358 = 0
     ·rw [if_pos c18] at H
      have c18b0 : (t358 == 0) = true := beq_iff_eq.mpr c18; have c18b1 : (t358 != 0) = false := bne_eq_false_iff_eq.mpr c18; clear c18
      by_cases c19 : (t351.length : Int) = a0_0
      ·rw [if_pos c19] at H
       have c19b0 : ((t351.length : Int) == a0_0) = true := beq_iff_eq.mpr c19; have c19b1 : ((t351.length : Int) != a0_0) = false := bne_eq_false_iff_eq.mpr c19; clear c19; have H' := Aside0.mk H; clear H; obtain ⟨Ao20, co20, eo20⟩ := Kd.S_slice HO353.out; subst eo20; have hcz21_0 : w16.cell? ⟨gb348, 0, none⟩ = some (.int .i64 a0_0) := (blk_cell BK348.out 0).trans rfl; have hcz21_1 : w16.cell? ⟨gb348, 1, none⟩ = some (.bool a0_1) := (blk_cell BK348.out 1).trans rfl; have hcz21_2 : w16.cell? ⟨gb348, 2, none⟩ = some (.slice A0_2 l0_2.length c0_2) := (blk_cell BK348.out 2).trans rfl; have hfz21_0 := blk_frozen BK348.out 0; have hfz21_1 := blk_frozen BK348.out 1; have hfz21_2 := blk_frozen BK348.out 2; obtain ⟨Ao22, co22, eo22⟩ := Kd.S_slice HO357.out; subst eo22
       go_wp2
       go_meet
       case rel => exact ⟨_, (((t355.length : Int) != a0_0)), (by first | rfl | (simp; done) | (simp [*]; done)), H', ⟨by first | omega | exact Nat.le_refl _⟩, ⟨by (with_reducible repeat (first | apply Kd.S_alloc | apply Kd.S_drewN | apply Kd.S_drew)); exact Kd.S_mono HO353.out (fun _ hk => hk.2)⟩, ⟨by (with_reducible repeat (first | apply Kd.S_alloc | apply Kd.S_drewN | apply Kd.S_drew)); exact Kd.S_mono HO357.out (fun _ hk => hk.2)⟩, ⟨by (with_reducible repeat (first | refine blk_drewN ?_ _ | refine blk_drew ?_ | refine blk_alloc ?_ _)); exact BK348.out⟩, ⟨by repeat (first | (with_reducible first | exact HB.out | apply below_alloc | apply pw_below_drewN | apply below_drew1 | refine below_set ?_ GE348.out) | exact HB.out)⟩⟩
      ·rw [if_neg c19] at H
       have c19b0 : ((t351.length : Int) == a0_0) = false := beq_eq_false_iff_ne.mpr c19; have c19b1 : ((t351.length : Int) != a0_0) = true := bne_iff_ne.mpr c19; have H' := Aside0.mk H; clear H; obtain ⟨Ao23, co23, eo23⟩ := Kd.S_slice HO353.out; subst eo23; have hcz24_0 : w16.cell? ⟨gb348, 0, none⟩ = some (.int .i64 a0_0) := (blk_cell BK348.out 0).trans rfl; have hcz24_1 : w16.cell? ⟨gb348, 1, none⟩ = some (.bool a0_1) := (blk_cell BK348.out 1).trans rfl; have hcz24_2 : w16.cell? ⟨gb348, 2, none⟩ = some (.slice A0_2 l0_2.length c0_2) := (blk_cell BK348.out 2).trans rfl; have hfz24_0 := blk_frozen BK348.out 0; have hfz24_1 := blk_frozen BK348.out 1; have hfz24_2 := blk_frozen BK348.out 2
       go_wp2
       go_meet
       case rel => exact ⟨_, (true), (by first | rfl | (simp; done) | (simp [*]; done)), H', ⟨by first | omega | exact Nat.le_refl _⟩, ⟨by (with_reducible repeat (first | apply Kd.S_alloc | apply Kd.S_drewN | apply Kd.S_drew)); exact Kd.S_mono HO353.out (fun _ hk => hk.2)⟩, ⟨by (with_reducible repeat (first | apply Kd.S_alloc | apply Kd.S_drewN | apply Kd.S_drew)); exact Kd.S_mono HO357.out (fun _ hk => hk.2)⟩, ⟨by (with_reducible repeat (first | refine blk_drewN ?_ _ | refine blk_drew ?_ | refine blk_alloc ?_ _)); exact BK348.out⟩, ⟨by repeat (first | (with_reducible first | exact HB.out | apply below_alloc | apply pw_below_drewN | apply below_drew1 | refine below_set ?_ GE348.out) | exact HB.out)⟩⟩
     ·rw [if_neg c18] at H
      have c18b0 : (t358 == 0) = false := beq_eq_false_iff_ne.mpr c18; have c18b1 : (t358 != 0) = true := bne_iff_ne.mpr c18; have H' := Aside0.mk H; clear H
      go_wp2
      go_meet
      case rel => exact ⟨_, (true), (by first | rfl | (simp; done) | (simp [*]; done)), H', ⟨by first | omega | exact Nat.le_refl _⟩, ⟨by (with_reducible repeat (first | apply Kd.S_alloc | apply Kd.S_drewN | apply Kd.S_drew)); exact Kd.S_mono HO353.out (fun _ hk => hk.2)⟩, ⟨by (with_reducible repeat (first | apply Kd.S_alloc | apply Kd.S_drewN | apply Kd.S_drew)); exact Kd.S_mono HO357.out (fun _ hk => hk.2)⟩, ⟨by (with_reducible repeat (first | refine blk_drewN ?_ _ | refine blk_drew ?_ | refine blk_alloc ?_ _)); exact BK348.out⟩, ⟨by repeat (first | (with_reducible first | exact HB.out | apply below_alloc | apply pw_below_drewN | apply below_drew1 | refine below_set ?_ GE348.out) | exact HB.out)⟩⟩
    ·rw [if_neg c17] at H
     have c17b0 : (t354 == 0) = false := beq_eq_false_iff_ne.mpr c17; have c17b1 : (t354 != 0) = true := bne_iff_ne.mpr c17
     (first | rw [c17b0] | (simp only [i64_w, i32_w]; rw [c17b0]) | skip)
     have H' := Aside0.mk H; clear H
     go_wp2
     go_meet
     case rel => exact ⟨_, (true), (by first | rfl | (simp; done) | (simp [*]; done)), H', ⟨by first | omega | exact Nat.le_refl _⟩, ⟨by (with_reducible repeat (first | apply Kd.S_alloc | apply Kd.S_drewN | apply Kd.S_drew)); exact Kd.S_mono HO353.out (fun _ hk => hk.2)⟩, ⟨by (with_reducible repeat (first | apply Kd.S_alloc | apply Kd.S_drewN | apply Kd.S_drew)); exact Kd.S_mono HO357.out (fun _ hk => hk.2)⟩, ⟨by (with_reducible repeat (first | refine blk_drewN ?_ _ | refine blk_drew ?_ | refine blk_alloc ?_ _)); exact BK348.out⟩, ⟨by repeat (first | (with_reducible first | exact HB.out | apply below_alloc | apply pw_below_drewN | apply below_drew1 | refine below_set ?_ GE348.out) | exact HB.out)⟩⟩
   case rest =>
    clear HC8
    try clear c1
    try clear c2
    try clear p2
    try clear c3
    try clear c5
    try clear c5b0
    try clear c5b1
    try clear c9
    try clear c12
    try clear c17
    try clear c17b0
    try clear c17b1
    try clear c18
    try clear c18b0
    try clear c18b1
    try clear c19
    try clear c19b0
    try clear c19b1
    try clear c21
    try clear c24
    try clear hcz11_0
    try clear hcz11_1
    try clear hcz11_2
    try clear hcz13_0
    try clear hcz13_1
    try clear hcz13_2
    try clear hcz15_0
    try clear hcz15_1
    try clear hcz15_2
    try clear hcz21_0
    try clear hcz21_1
    try clear hcz21_2
    try clear hcz24_0
    try clear hcz24_1
    try clear hcz24_2
    try clear hfz11_0
    try clear hfz11_1
    try clear hfz11_2
    try clear hfz13_0
    try clear hfz13_1
    try clear hfz13_2
    try clear hfz15_0
    try clear hfz15_1
    try clear hfz15_2
    try clear hfz21_0
    try clear hfz21_1
    try clear hfz21_2
    try clear hfz24_0
    try clear hfz24_1
    try clear hfz24_2
    obtain ⟨kq, x52_7, rfl, HA, HJ7, HO_4, HO_6, BK348, HB⟩ := hcut
    cases kq with
    | zero => exact absurd HA.out (by simp [ebbtidelaw06_AdjOnce.j0])
    | succ kj7 =>
     have H := HA.out; clear HA; simp only [ebbtidelaw06_AdjOnce.j0] at H
     by_cases c25 : x52_7 = true
     ·subst c25
      have H1 : (some false) = some r := by rw [if_pos rfl] at H; exact H
      clear H; have H := H1; clear H1; exact absurd ((Option.some.inj H).trans HRT.out) (by decide)
     ·replace c25 := Bool.eq_false_iff.mpr c25
      subst c25
      have H1 : (if 0 ≤ (l0_2.length : Int) then (if ((l0_2.length : Int) : Int).toNat ≤ 35184372088832 then (ebbtidelaw06_AdjOnce.l0 kj7 true t351 t355 (List.replicate ((l0_2.length : Int) : Int).toNat 0) (List.replicate ((l0_2.length : Int) : Int).toNat 0) 0 a0_0 a0_1 l0_2) else (none)) else (none)) = some r := by rw [if_neg (show ¬ (false = true) by decide)] at H; exact H
      clear H; have H := H1; clear H1
      by_cases c26 : 0 ≤ (l0_2.length : Int)
      ·rw [if_pos c26] at H
       have c26b0 := eq_true c26; have c26b1 : decide (0 ≤ (l0_2.length : Int)) = true := decide_eq_true c26; clear c26
       by_cases c27 : ((l0_2.length : Int) : Int).toNat ≤ 35184372088832
       ·rw [if_pos c27] at H
        have c27b0 := eq_true c27; have c27b1 : decide (((l0_2.length : Int) : Int).toNat ≤ 35184372088832) = true := decide_eq_true c27; clear c27; obtain ⟨y359, hy359⟩ : ∃ y_ : List Int, y_ = (List.replicate ((l0_2.length : Int) : Int).toNat 0) := ⟨_, rfl⟩
        replace H : (ebbtidelaw06_AdjOnce.l0 kj7 true t351 t355 y359 (List.replicate ((l0_2.length : Int) : Int).toNat 0) 0 a0_0 a0_1 l0_2) = some r := by first | (rw [hy359]; with_reducible exact H) | (have H2_ := (Option.bind_some _ _).symm.trans H; rw [hy359]; with_reducible exact H2_) | (have H2_ := (Option.bind_some _ _).symm.trans H; with_reducible exact H2_) | with_reducible exact H | (rw [hy359]; exact H) | exact H
        have Ny359 := Aside0.mk hy359; clear hy359; obtain ⟨y362, hy362⟩ : ∃ y_ : List Int, y_ = (List.replicate ((l0_2.length : Int) : Int).toNat 0) := ⟨_, rfl⟩
        replace H : (ebbtidelaw06_AdjOnce.l0 kj7 true t351 t355 y359 y362 0 a0_0 a0_1 l0_2) = some r := by first | (rw [hy362]; with_reducible exact H) | (have H2_ := (Option.bind_some _ _).symm.trans H; rw [hy362]; with_reducible exact H2_) | (have H2_ := (Option.bind_some _ _).symm.trans H; with_reducible exact H2_) | with_reducible exact H | (rw [hy362]; exact H) | exact H
        have Ny362 := Aside0.mk hy362; clear hy362; have H' := Aside0.mk H; clear H
        try go_wp2
        have n0_ := Aside0.mk (Kd.S_drew HO_4.out); have n1_ := Aside0.mk (Kd.S_drew HO_6.out); have n2_ := Aside0.mk (blk_drew BK348.out); have n3_ := Aside0.mk (below_drew1 HB.out); clear HO_4; clear HO_6; clear BK348; clear HB; have HO_4 := n0_; have HO_6 := n1_; have BK348 := n2_; have HB := n3_; clear n0_ n1_ n2_ n3_; refine start_ (n := 10) (S := fun w' => w'.cell? ⟨gb348, 0, none⟩ = some (.int .i64 a0_0) ∧ w'.cell? ⟨gb348, 1, none⟩ = some (.bool a0_1) ∧ w'.cell? ⟨gb348, 2, none⟩ = some (.slice A0_2 l0_2.length c0_2)) (ds := []) #[Ff,Ff,Ff,Ff,Ff,Ff,Ff,Ff,Ff,Ff] (by kernel_rfl) rfl rfl ⟨(blk_cell BK348.out 0).trans rfl, (blk_cell BK348.out 1).trans rfl, (blk_cell BK348.out 2).trans rfl⟩ (fun hHeld => ?_); refine with_tabW ebbtidelaw06_AdjOnce.tab10 ebbtidelaw06_AdjOnce.bits10 (fun HT_ HW_ => ?_); generalize wc.drew = w28 at HO_4 HO_6 BK348 HB hHeld ⊢; refine pv_ 0 53 #[Tt,Ff,Ff,Ff,Ff,Ff,Ff,Ff,Ff,Ff] ?_; refine pv_ 4 57 #[Tt,Ff,Ff,Ff,Tt,Ff,Ff,Ff,Ff,Ff] ?_; refine take_ (i := 1) (N := some 54) (v := ?_) (a' := ?_) #[Tt,Tt,Ff,Ff,Tt,Ff,Ff,Ff,Ff,Ff] rfl rfl (take_ofW HT_.out HW_.out (by kernel_rfl)) (fun _ _ _ h => h) (Or.inl ⟨by rfl, ?_⟩) hHeld ?_ ?_; rotate_left; (· rintro w' ⟨s0, s1, s2⟩; go_simp; with_reducible rfl); rotate_left; exact ap_; refine pv_ 2 55 #[Tt,Tt,Tt,Ff,Tt,Ff,Ff,Ff,Ff,Ff] ?_; refine take_ (i := 5) (N := some 58) (v := ?_) (a' := ?_) #[Tt,Tt,Tt,Ff,Tt,Tt,Ff,Ff,Ff,Ff] rfl rfl (take_ofW HT_.out HW_.out (by kernel_rfl)) (fun _ _ _ h => h) (Or.inl ⟨by rfl, ?_⟩) hHeld ?_ ?_; rotate_left; (· rintro w' ⟨s0, s1, s2⟩; go_simp; with_reducible rfl); rotate_left; exact ap_; refine pv_ 6 59 #[Tt,Tt,Tt,Ff,Tt,Tt,Tt,Ff,Ff,Ff] ?_; refine join_ (σ := Value × Value) 1 #[Tt,Tt,Tt,Tt,Tt,Tt,Tt,Tt,Tt,Ff] (fun s_ => [(56, s_.1), (60, s_.2), (8, s_.1)]) (fun s_ w' => (w'.cell? ⟨gb348, 0, none⟩ = some (.int .i64 a0_0) ∧ w'.cell? ⟨gb348, 1, none⟩ = some (.bool a0_1) ∧ w'.cell? ⟨gb348, 2, none⟩ = some (.slice A0_2 l0_2.length c0_2)) ∧ (Kd.R (Kd.int .i64) 3 w' w.heap.size (fun k_ => some k_ ≠ (s_.2 : Value).ownBlock) s_.1 y359) ∧ (Kd.R (Kd.int .i64) 3 w' w.heap.size (fun k_ => some k_ ≠ (s_.1 : Value).ownBlock) s_.2 y362) ∧ (Kd.S (Kd.slice 3 (Kd.int .i64)) 25 w' w.heap.size (fun k_ => some k_ ≠ (s_.1 : Value).ownBlock ∧ some k_ ≠ (s_.2 : Value).ownBlock ∧ some k_ ≠ (v356 : Value).ownBlock) v352 t351) ∧ (Kd.S (Kd.slice 3 (Kd.int .i64)) 25 w' w.heap.size (fun k_ => some k_ ≠ (s_.1 : Value).ownBlock ∧ some k_ ≠ (s_.2 : Value).ownBlock ∧ some k_ ≠ (v352 : Value).ownBlock) v356 t355) ∧ (w'.heap[gb348]? = some (.cells #[.int .i64 a0_0, .bool a0_1, .slice A0_2 l0_2.length c0_2] 24 (0, 0))) ∧ (Below w.heap.size w w')) ?_ ?_; rotate_left
        ·intro hCont
         refine two_ (i := 3) (j := 7) (Ni := some 56) (Nj := some 60) #[Tt,Tt,Tt,Tt,Tt,Tt,Tt,Ff,Ff,Ff] #[Tt,Tt,Tt,Ff,Tt,Tt,Tt,Tt,Ff,Ff] rfl rfl rfl rfl (two_of HT_.out (by kernel_rfl)) (by decide) (by decide) (fun K hK => ?_) (fun K hK => ?_)
         ·skip
          refine Kd.R_make_step (Kd.int .i64) _ 3 (by rfl) (N := 56) rfl 25 _ _ rfl (l0_2.length : Int) rfl rfl Try.underlying25 (.int .i64 0) 8 info3 rfl (by decide) (by omega) 0 (ok := fun _ => True) (okp := fun _ => True) rfl (fun _ hk => hk) trivial (of_decide_eq_true (by first | (with_reducible assumption) | assumption)) (Nat.le_trans (Nat.mul_le_mul_right _ (of_decide_eq_true (by first | (with_reducible assumption) | assumption) : (l0_2.length : Int).toNat ≤ 35184372088832)) (by omega)) (Below.refl _ _) (Nat.le_refl _) ?_; intro v360 w29 ho30 hb hg_ hnew_; clear hg_ hnew_
          (first | rw [← Ny359.out] at ho30 | (simp only [Int.reduceToNat] at ho30; rw [← Ny359.out] at ho30))
          have n0_ := Aside0.mk (Kd.S_elder' (by (with_reducible repeat (first | apply Kd.S_alloc | apply Kd.S_drewN | apply Kd.S_drew)); exact HO_4.out) (Kd.R_base ho30) hb); have n1_ := Aside0.mk (Kd.S_elder' (by (with_reducible repeat (first | apply Kd.S_alloc | apply Kd.S_drewN | apply Kd.S_drew)); exact HO_6.out) (Kd.R_base ho30) hb); have n2_ := Aside0.mk (Kd.R_lower ho30 (below_size (by repeat (first | (with_reducible first | exact HB.out | apply below_alloc | apply pw_below_drewN | apply below_drew1 | refine below_set ?_ GE348.out) | exact HB.out)))); have n3_ := Aside0.mk (blk_below (g := gb348) (o := .cells #[.int .i64 a0_0, .bool a0_1, .slice A0_2 l0_2.length c0_2] 24 (0, 0)) (by (with_reducible repeat (first | refine blk_drewN ?_ _ | refine blk_drew ?_ | refine blk_alloc ?_ _)); exact BK348.out) hb); have n4_ := Aside0.mk (below_step (by repeat (first | (with_reducible first | exact HB.out | apply below_alloc | apply pw_below_drewN | apply below_drew1 | refine below_set ?_ GE348.out) | exact HB.out)) hb); clear HO_4; clear HO_6; clear BK348; clear HB; have HO_4 := n0_; have HO_6 := n1_; have HO361 := n2_; have BK348 := n3_; have HB := n4_; clear n0_ n1_ n2_ n3_ n4_; clear hb ho30; refine hK.out _ _ ⟨(blk_cell BK348.out 0).trans rfl, (blk_cell BK348.out 1).trans rfl, (blk_cell BK348.out 2).trans rfl⟩ (fun hHeld => ?_); clear hK K; refine norm_ (a' := ?_) ?_ ?_; rotate_left
          ·show Act.put _ (some 56) _ = _
           simp only [Act.put, List.setIfInBounds_toArray, List.set_cons_zero, List.set_cons_succ, i64_w, i32_w]; rfl
          refine pv_ 8 8 #[Tt,Tt,Tt,Tt,Tt,Tt,Tt,Ff,Tt,Ff] ?_; refine one_ (i := 7) (N := some 60) #[Tt,Tt,Tt,Tt,Tt,Tt,Tt,Tt,Tt,Ff] rfl rfl (one_of HT_.out (by kernel_rfl)) (by decide) (fun K hK => ?_); refine Kd.R_make_step (Kd.int .i64) _ 3 (by rfl) (N := 60) rfl 25 _ _ rfl (l0_2.length : Int) rfl rfl Try.underlying25 (.int .i64 0) 8 info3 rfl (by decide) (by omega) 0 (ok := fun _ => True) (okp := fun _ => True) rfl (fun _ hk => hk) trivial (of_decide_eq_true (by first | (with_reducible assumption) | assumption)) (Nat.le_trans (Nat.mul_le_mul_right _ (of_decide_eq_true (by first | (with_reducible assumption) | assumption) : (l0_2.length : Int).toNat ≤ 35184372088832)) (by omega)) (Below.refl _ _) (Nat.le_refl _) ?_; intro v363 w31 ho32 hb hg_ hnew_; clear hg_ hnew_
          (first | rw [← Ny362.out] at ho32 | (simp only [Int.reduceToNat] at ho32; rw [← Ny362.out] at ho32))
          have n0_ := Aside0.mk (Kd.S_elder' (by (with_reducible repeat (first | apply Kd.S_alloc | apply Kd.S_drewN | apply Kd.S_drew)); exact HO_4.out) (Kd.R_base ho32) hb); have n1_ := Aside0.mk (Kd.S_elder' (by (with_reducible repeat (first | apply Kd.S_alloc | apply Kd.S_drewN | apply Kd.S_drew)); exact HO_6.out) (Kd.R_base ho32) hb); have n2_ := Aside0.mk (Kd.R_elder' (by (with_reducible repeat (first | apply Kd.R_alloc | apply Kd.R_drewN | apply Kd.R_drew)); exact HO361.out) (Kd.R_base ho32) hb); have n3_ := Aside0.mk (Kd.R_lower (Kd.R_new' ho32 (Kd.R_lt (by (with_reducible repeat (first | apply Kd.R_alloc | apply Kd.R_drewN | apply Kd.R_drew)); exact HO361.out))) (below_size (by repeat (first | (with_reducible first | exact HB.out | apply below_alloc | apply pw_below_drewN | apply below_drew1 | refine below_set ?_ GE348.out) | exact HB.out)))); have n4_ := Aside0.mk (blk_below (g := gb348) (o := .cells #[.int .i64 a0_0, .bool a0_1, .slice A0_2 l0_2.length c0_2] 24 (0, 0)) (by (with_reducible repeat (first | refine blk_drewN ?_ _ | refine blk_drew ?_ | refine blk_alloc ?_ _)); exact BK348.out) hb); have n5_ := Aside0.mk (below_step (by repeat (first | (with_reducible first | exact HB.out | apply below_alloc | apply pw_below_drewN | apply below_drew1 | refine below_set ?_ GE348.out) | exact HB.out)) hb); clear HO_4; clear HO_6; clear HO361; clear BK348; clear HB; have HO_4 := n0_; have HO_6 := n1_; have HO361 := n2_; have HO364 := n3_; have BK348 := n4_; have HB := n5_; clear n0_ n1_ n2_ n3_ n4_ n5_; clear hb ho32; refine hK.out _ _ ⟨(blk_cell BK348.out 0).trans rfl, (blk_cell BK348.out 1).trans rfl, (blk_cell BK348.out 2).trans rfl⟩ (fun hHeld => ?_); clear hK K; refine norm_ (a' := ?_) ?_ ?_; rotate_left
          ·show Act.put _ (some 60) _ = _
           simp only [Act.put, List.setIfInBounds_toArray, List.set_cons_zero, List.set_cons_succ, i64_w, i32_w]; rfl
          exact norm_ (by simp only [putAll, Act.put, List.setIfInBounds_toArray, List.set_cons_zero, List.set_cons_succ]) (hCont (v360, v363) _ ⟨hHeld, (by (with_reducible repeat (first | apply Kd.R_alloc | apply Kd.R_drewN | apply Kd.R_drew)); exact Kd.R_mono HO361.out (fun _ hk => hk.2)), (by (with_reducible repeat (first | apply Kd.R_alloc | apply Kd.R_drewN | apply Kd.R_drew)); exact Kd.R_mono HO364.out (fun _ hk => hk.2)), (by (with_reducible repeat (first | apply Kd.S_alloc | apply Kd.S_drewN | apply Kd.S_drew)); exact Kd.S_mono HO_4.out (fun _ hk => ⟨hk.1.2, ⟨hk.2, hk.1.1⟩⟩)), (by (with_reducible repeat (first | apply Kd.S_alloc | apply Kd.S_drewN | apply Kd.S_drew)); exact Kd.S_mono HO_6.out (fun _ hk => ⟨hk.1.2, ⟨hk.2, hk.1.1⟩⟩)), (by (with_reducible repeat (first | refine blk_drewN ?_ _ | refine blk_drew ?_ | refine blk_alloc ?_ _)); exact BK348.out), (by repeat (first | (with_reducible first | exact HB.out | apply below_alloc | apply pw_below_drewN | apply below_drew1 | refine below_set ?_ GE348.out) | exact HB.out))⟩)
         ·skip
          refine Kd.R_make_step (Kd.int .i64) _ 3 (by rfl) (N := 60) rfl 25 _ _ rfl (l0_2.length : Int) rfl rfl Try.underlying25 (.int .i64 0) 8 info3 rfl (by decide) (by omega) 0 (ok := fun _ => True) (okp := fun _ => True) rfl (fun _ hk => hk) trivial (of_decide_eq_true (by first | (with_reducible assumption) | assumption)) (Nat.le_trans (Nat.mul_le_mul_right _ (of_decide_eq_true (by first | (with_reducible assumption) | assumption) : (l0_2.length : Int).toNat ≤ 35184372088832)) (by omega)) (Below.refl _ _) (Nat.le_refl _) ?_; intro v363 w29 ho30 hb hg_ hnew_; clear hg_ hnew_
          (first | rw [← Ny362.out] at ho30 | (simp only [Int.reduceToNat] at ho30; rw [← Ny362.out] at ho30))
          have n0_ := Aside0.mk (Kd.S_elder' (by (with_reducible repeat (first | apply Kd.S_alloc | apply Kd.S_drewN | apply Kd.S_drew)); exact HO_4.out) (Kd.R_base ho30) hb); have n1_ := Aside0.mk (Kd.S_elder' (by (with_reducible repeat (first | apply Kd.S_alloc | apply Kd.S_drewN | apply Kd.S_drew)); exact HO_6.out) (Kd.R_base ho30) hb); have n2_ := Aside0.mk (Kd.R_lower ho30 (below_size (by repeat (first | (with_reducible first | exact HB.out | apply below_alloc | apply pw_below_drewN | apply below_drew1 | refine below_set ?_ GE348.out) | exact HB.out)))); have n3_ := Aside0.mk (blk_below (g := gb348) (o := .cells #[.int .i64 a0_0, .bool a0_1, .slice A0_2 l0_2.length c0_2] 24 (0, 0)) (by (with_reducible repeat (first | refine blk_drewN ?_ _ | refine blk_drew ?_ | refine blk_alloc ?_ _)); exact BK348.out) hb); have n4_ := Aside0.mk (below_step (by repeat (first | (with_reducible first | exact HB.out | apply below_alloc | apply pw_below_drewN | apply below_drew1 | refine below_set ?_ GE348.out) | exact HB.out)) hb); clear HO_4; clear HO_6; clear BK348; clear HB; have HO_4 := n0_; have HO_6 := n1_; have HO364 := n2_; have BK348 := n3_; have HB := n4_; clear n0_ n1_ n2_ n3_ n4_; clear hb ho30; refine hK.out _ _ ⟨(blk_cell BK348.out 0).trans rfl, (blk_cell BK348.out 1).trans rfl, (blk_cell BK348.out 2).trans rfl⟩ (fun hHeld => ?_); clear hK K; refine norm_ (a' := ?_) ?_ ?_; rotate_left
          ·show Act.put _ (some 60) _ = _
           simp only [Act.put, List.setIfInBounds_toArray, List.set_cons_zero, List.set_cons_succ, i64_w, i32_w]; rfl
          refine one_ (i := 3) (N := some 56) #[Tt,Tt,Tt,Tt,Tt,Tt,Tt,Tt,Ff,Ff] rfl rfl (one_of HT_.out (by kernel_rfl)) (by decide) (fun K hK => ?_); refine Kd.R_make_step (Kd.int .i64) _ 3 (by rfl) (N := 56) rfl 25 _ _ rfl (l0_2.length : Int) rfl rfl Try.underlying25 (.int .i64 0) 8 info3 rfl (by decide) (by omega) 0 (ok := fun _ => True) (okp := fun _ => True) rfl (fun _ hk => hk) trivial (of_decide_eq_true (by first | (with_reducible assumption) | assumption)) (Nat.le_trans (Nat.mul_le_mul_right _ (of_decide_eq_true (by first | (with_reducible assumption) | assumption) : (l0_2.length : Int).toNat ≤ 35184372088832)) (by omega)) (Below.refl _ _) (Nat.le_refl _) ?_; intro v360 w31 ho32 hb hg_ hnew_; clear hg_ hnew_
          (first | rw [← Ny359.out] at ho32 | (simp only [Int.reduceToNat] at ho32; rw [← Ny359.out] at ho32))
          have n0_ := Aside0.mk (Kd.S_elder' (by (with_reducible repeat (first | apply Kd.S_alloc | apply Kd.S_drewN | apply Kd.S_drew)); exact HO_4.out) (Kd.R_base ho32) hb); have n1_ := Aside0.mk (Kd.S_elder' (by (with_reducible repeat (first | apply Kd.S_alloc | apply Kd.S_drewN | apply Kd.S_drew)); exact HO_6.out) (Kd.R_base ho32) hb); have n2_ := Aside0.mk (Kd.R_elder' (by (with_reducible repeat (first | apply Kd.R_alloc | apply Kd.R_drewN | apply Kd.R_drew)); exact HO364.out) (Kd.R_base ho32) hb); have n3_ := Aside0.mk (Kd.R_lower (Kd.R_new' ho32 (Kd.R_lt (by (with_reducible repeat (first | apply Kd.R_alloc | apply Kd.R_drewN | apply Kd.R_drew)); exact HO364.out))) (below_size (by repeat (first | (with_reducible first | exact HB.out | apply below_alloc | apply pw_below_drewN | apply below_drew1 | refine below_set ?_ GE348.out) | exact HB.out)))); have n4_ := Aside0.mk (blk_below (g := gb348) (o := .cells #[.int .i64 a0_0, .bool a0_1, .slice A0_2 l0_2.length c0_2] 24 (0, 0)) (by (with_reducible repeat (first | refine blk_drewN ?_ _ | refine blk_drew ?_ | refine blk_alloc ?_ _)); exact BK348.out) hb); have n5_ := Aside0.mk (below_step (by repeat (first | (with_reducible first | exact HB.out | apply below_alloc | apply pw_below_drewN | apply below_drew1 | refine below_set ?_ GE348.out) | exact HB.out)) hb); clear HO_4; clear HO_6; clear HO364; clear BK348; clear HB; have HO_4 := n0_; have HO_6 := n1_; have HO364 := n2_; have HO361 := n3_; have BK348 := n4_; have HB := n5_; clear n0_ n1_ n2_ n3_ n4_ n5_; clear hb ho32; refine hK.out _ _ ⟨(blk_cell BK348.out 0).trans rfl, (blk_cell BK348.out 1).trans rfl, (blk_cell BK348.out 2).trans rfl⟩ (fun hHeld => ?_); clear hK K; refine norm_ (a' := ?_) ?_ ?_; rotate_left
          ·show Act.put _ (some 56) _ = _
           simp only [Act.put, List.setIfInBounds_toArray, List.set_cons_zero, List.set_cons_succ, i64_w, i32_w]; rfl
          refine pv_ 8 8 #[Tt,Tt,Tt,Tt,Tt,Tt,Tt,Tt,Tt,Ff] ?_; exact norm_ (by simp only [putAll, Act.put, List.setIfInBounds_toArray, List.set_cons_zero, List.set_cons_succ]) (hCont (v360, v363) _ ⟨hHeld, (by (with_reducible repeat (first | apply Kd.R_alloc | apply Kd.R_drewN | apply Kd.R_drew)); exact Kd.R_mono HO361.out (fun _ hk => hk.2)), (by (with_reducible repeat (first | apply Kd.R_alloc | apply Kd.R_drewN | apply Kd.R_drew)); exact Kd.R_mono HO364.out (fun _ hk => hk.2)), (by (with_reducible repeat (first | apply Kd.S_alloc | apply Kd.S_drewN | apply Kd.S_drew)); exact Kd.S_mono HO_4.out (fun _ hk => ⟨hk.2, ⟨hk.1.2, hk.1.1⟩⟩)), (by (with_reducible repeat (first | apply Kd.S_alloc | apply Kd.S_drewN | apply Kd.S_drew)); exact Kd.S_mono HO_6.out (fun _ hk => ⟨hk.2, ⟨hk.1.2, hk.1.1⟩⟩)), (by (with_reducible repeat (first | refine blk_drewN ?_ _ | refine blk_drew ?_ | refine blk_alloc ?_ _)); exact BK348.out), (by repeat (first | (with_reducible first | exact HB.out | apply below_alloc | apply pw_below_drewN | apply below_drew1 | refine below_set ?_ GE348.out) | exact HB.out))⟩)
        rintro ⟨v360, v363⟩ w33 ⟨hS_, h0_, h1_, h2_, h3_, h4_, h5_⟩; have n0_ : Aside0 (Kd.R (Kd.int .i64) 3 w33 w.heap.size (fun k_ => some k_ ≠ (v363 : Value).ownBlock) v360 y359) := ⟨h0_⟩; have n1_ : Aside0 (Kd.R (Kd.int .i64) 3 w33 w.heap.size (fun k_ => some k_ ≠ (v360 : Value).ownBlock) v363 y362) := ⟨h1_⟩; have n2_ : Aside0 (Kd.S (Kd.slice 3 (Kd.int .i64)) 25 w33 w.heap.size (fun k_ => some k_ ≠ (v360 : Value).ownBlock ∧ some k_ ≠ (v363 : Value).ownBlock ∧ some k_ ≠ (v356 : Value).ownBlock) v352 t351) := ⟨h2_⟩; have n3_ : Aside0 (Kd.S (Kd.slice 3 (Kd.int .i64)) 25 w33 w.heap.size (fun k_ => some k_ ≠ (v360 : Value).ownBlock ∧ some k_ ≠ (v363 : Value).ownBlock ∧ some k_ ≠ (v352 : Value).ownBlock) v356 t355) := ⟨h3_⟩; have n4_ : Aside0 (w33.heap[gb348]? = some (.cells #[.int .i64 a0_0, .bool a0_1, .slice A0_2 l0_2.length c0_2] 24 (0, 0))) := ⟨h4_⟩; have n5_ : Aside0 (Below w.heap.size w w33) := ⟨h5_⟩; clear HO_4; clear HO_6; clear BK348; clear HB; clear h0_ h1_ h2_ h3_ h4_ h5_; have HO361 := n0_; have HO364 := n1_; have HO_4 := n2_; have HO_6 := n3_; have BK348 := n4_; have HB := n5_; clear n0_ n1_ n2_ n3_ n4_ n5_; have hHeld : w33.cell? ⟨gb348, 0, none⟩ = some (.int .i64 a0_0) ∧ w33.cell? ⟨gb348, 1, none⟩ = some (.bool a0_1) ∧ w33.cell? ⟨gb348, 2, none⟩ = some (.slice A0_2 l0_2.length c0_2) := hS_; refine norm_ (a' := ?_) ?_ ?_; rotate_left; (· simp only [putAll, Act.put, List.setIfInBounds_toArray, List.set_cons_zero, List.set_cons_succ]; rfl); refine pv_ 9 9 #[Tt,Tt,Tt,Tt,Tt,Tt,Tt,Tt,Tt,Tt] ?_; refine done_ (done_of HT_.out (by kernel_rfl)) ?_
        try go_wp2
        go_loopg [10] kj7 (fun kq v10 w' => ∃ (x8_2 : List Int) (x9_2 : List Int) (x10_2 : Int), v10 = .int .i64 x10_2 ∧ Aside0 (ebbtidelaw06_AdjOnce.l0 kq true t351 t355 x8_2 x9_2 x10_2 a0_0 a0_1 l0_2 = some r) ∧ Aside0 (kq ≤ kj7) ∧ Aside0 (Kd.S (Kd.slice 3 (Kd.int .i64)) 25 w' w.heap.size (fun k_ => some k_ ≠ (v356 : Value).ownBlock ∧ some k_ ≠ (v360 : Value).ownBlock ∧ some k_ ≠ (v363 : Value).ownBlock) v352 t351) ∧ Aside0 (Kd.S (Kd.slice 3 (Kd.int .i64)) 25 w' w.heap.size (fun k_ => some k_ ≠ (v352 : Value).ownBlock ∧ some k_ ≠ (v360 : Value).ownBlock ∧ some k_ ≠ (v363 : Value).ownBlock) v356 t355) ∧ Aside0 (Kd.R (Kd.int .i64) 3 w' w.heap.size (fun k_ => some k_ ≠ (v363 : Value).ownBlock) v360 x8_2) ∧ Aside0 (Kd.R (Kd.int .i64) 3 w' w.heap.size (fun k_ => some k_ ≠ (v360 : Value).ownBlock) v363 x9_2) ∧ Aside0 (w'.heap[gb348]? = some (.cells #[.int .i64 a0_0, .bool a0_1, (.slice A0_2 l0_2.length c0_2)] 24 (0, 0))) ∧ Aside0 (Below w.heap.size w w'))
        case atStart => exact ⟨(y359), (y362), (0), (by first | rfl | (simp; done) | (simp [*]; done)), H', ⟨Nat.le_refl _⟩, ⟨by (with_reducible repeat (first | apply Kd.S_alloc | apply Kd.S_drewN | apply Kd.S_drew)); exact Kd.S_mono HO_4.out (fun _ hk => ⟨hk.2.2, ⟨hk.1, hk.2.1⟩⟩)⟩, ⟨by (with_reducible repeat (first | apply Kd.S_alloc | apply Kd.S_drewN | apply Kd.S_drew)); exact Kd.S_mono HO_6.out (fun _ hk => ⟨hk.2.2, ⟨hk.1, hk.2.1⟩⟩)⟩, ⟨by (with_reducible repeat (first | apply Kd.R_alloc | apply Kd.R_drewN | apply Kd.R_drew)); exact HO361.out⟩, ⟨by (with_reducible repeat (first | apply Kd.R_alloc | apply Kd.R_drewN | apply Kd.R_drew)); exact HO364.out⟩, ⟨by (with_reducible repeat (first | refine blk_drewN ?_ _ | refine blk_drew ?_ | refine blk_alloc ?_ _)); exact BK348.out⟩, ⟨by repeat (first | (with_reducible first | exact HB.out | apply below_alloc | apply pw_below_drewN | apply below_drew1 | refine below_set ?_ GE348.out) | exact HB.out)⟩⟩
        case round =>
         clear H'
         try clear c1
         try clear c2
         try clear p2
         try clear c3
         try clear c5
         try clear c5b0
         try clear c5b1
         try clear c9
         try clear c12
         try clear c17
         try clear c17b0
         try clear c17b1
         try clear c18
         try clear c18b0
         try clear c18b1
         try clear c19
         try clear c19b0
         try clear c19b1
         try clear c21
         try clear c24
         try clear c25
         try clear c26
         try clear c26b0
         try clear c26b1
         try clear c27
         try clear c27b0
         try clear c27b1
         try clear hcz11_0
         try clear hcz11_1
         try clear hcz11_2
         try clear hcz13_0
         try clear hcz13_1
         try clear hcz13_2
         try clear hcz15_0
         try clear hcz15_1
         try clear hcz15_2
         try clear hcz21_0
         try clear hcz21_1
         try clear hcz21_2
         try clear hcz24_0
         try clear hcz24_1
         try clear hcz24_2
         try clear hfz11_0
         try clear hfz11_1
         try clear hfz11_2
         try clear hfz13_0
         try clear hfz13_1
         try clear hfz13_2
         try clear hfz15_0
         try clear hfz15_1
         try clear hfz15_2
         try clear hfz21_0
         try clear hfz21_1
         try clear hfz21_2
         try clear hfz24_0
         try clear hfz24_1
         try clear hfz24_2
         try clear p2
         obtain ⟨x8_2, x9_2, x10_2, rfl, HA, HK2, HO_4, HO_6, HO_8, HO_9, BK348, HB⟩ := hrel
         cases gk with
         | zero => exact absurd HA.out (by simp [ebbtidelaw06_AdjOnce.l0])
         | succ k2 =>
          have H := HA.out; clear HA; simp only [ebbtidelaw06_AdjOnce.l0] at H
          by_cases c34 : x10_2 < a0_0
          ·rw [if_pos c34] at H
           have c34b0 : decide (x10_2 < a0_0) = true := decide_eq_true c34; clear c34; have H' := Aside0.mk H; clear H; have hcz35_0 : wr.cell? ⟨gb348, 0, none⟩ = some (.int .i64 a0_0) := (blk_cell BK348.out 0).trans rfl; have hcz35_1 : wr.cell? ⟨gb348, 1, none⟩ = some (.bool a0_1) := (blk_cell BK348.out 1).trans rfl; have hcz35_2 : wr.cell? ⟨gb348, 2, none⟩ = some (.slice A0_2 l0_2.length c0_2) := (blk_cell BK348.out 2).trans rfl; have hfz35_0 := blk_frozen BK348.out 0; have hfz35_1 := blk_frozen BK348.out 1; have hfz35_2 := blk_frozen BK348.out 2
           go_wp2
           go_loopg [11] k2 (fun kq v11 w' => ∃ (x8_3 : List Int) (x11_3 : Int), v11 = .int .i64 x11_3 ∧ Aside0 (ebbtidelaw06_AdjOnce.l1 kq true t351 t355 x8_3 x9_2 x10_2 x11_3 a0_0 a0_1 l0_2 = some r) ∧ Aside0 (kq ≤ k2) ∧ Aside0 (Kd.S (Kd.slice 3 (Kd.int .i64)) 25 w' w.heap.size (fun k_ => some k_ ≠ (v356 : Value).ownBlock ∧ some k_ ≠ (v360 : Value).ownBlock ∧ some k_ ≠ (v363 : Value).ownBlock) v352 t351) ∧ Aside0 (Kd.S (Kd.slice 3 (Kd.int .i64)) 25 w' w.heap.size (fun k_ => some k_ ≠ (v352 : Value).ownBlock ∧ some k_ ≠ (v360 : Value).ownBlock ∧ some k_ ≠ (v363 : Value).ownBlock) v356 t355) ∧ Aside0 (Kd.R (Kd.int .i64) 3 w' w.heap.size (fun k_ => some k_ ≠ (v363 : Value).ownBlock) v360 x8_3) ∧ Aside0 (Kd.R (Kd.int .i64) 3 w' w.heap.size (fun k_ => some k_ ≠ (v360 : Value).ownBlock) v363 x9_2) ∧ Aside0 (w'.heap[gb348]? = some (.cells #[.int .i64 a0_0, .bool a0_1, (.slice A0_2 l0_2.length c0_2)] 24 (0, 0))) ∧ Aside0 (Below w.heap.size w w'))
           case atStart => exact ⟨(x8_2), (0), (by first | rfl | (simp; done) | (simp [*]; done)), H', ⟨Nat.le_refl _⟩, ⟨by (with_reducible repeat (first | apply Kd.S_alloc | apply Kd.S_drewN | apply Kd.S_drew)); exact HO_4.out⟩, ⟨by (with_reducible repeat (first | apply Kd.S_alloc | apply Kd.S_drewN | apply Kd.S_drew)); exact HO_6.out⟩, ⟨by (with_reducible repeat (first | apply Kd.R_alloc | apply Kd.R_drewN | apply Kd.R_drew)); exact HO_8.out⟩, ⟨by (with_reducible repeat (first | apply Kd.R_alloc | apply Kd.R_drewN | apply Kd.R_drew)); exact HO_9.out⟩, ⟨by (with_reducible repeat (first | refine blk_drewN ?_ _ | refine blk_drew ?_ | refine blk_alloc ?_ _)); exact BK348.out⟩, ⟨by repeat (first | (with_reducible first | exact HB.out | apply below_alloc | apply pw_below_drewN | apply below_drew1 | refine below_set ?_ GE348.out) | exact HB.out)⟩⟩
           case round =>
            clear H'
            try clear c1
            try clear c2
            try clear p2
            try clear c3
            try clear c5
            try clear c5b0
            try clear c5b1
            try clear c9
            try clear c12
            try clear c17
            try clear c17b0
            try clear c17b1
            try clear c18
            try clear c18b0
            try clear c18b1
            try clear c19
            try clear c19b0
            try clear c19b1
            try clear c21
            try clear c24
            try clear c25
            try clear c26
            try clear c26b0
            try clear c26b1
            try clear c27
            try clear c27b0
            try clear c27b1
            try clear c34
            try clear c34b0
            try clear hcz11_0
            try clear hcz11_1
            try clear hcz11_2
            try clear hcz13_0
            try clear hcz13_1
            try clear hcz13_2
            try clear hcz15_0
            try clear hcz15_1
            try clear hcz15_2
            try clear hcz21_0
            try clear hcz21_1
            try clear hcz21_2
            try clear hcz24_0
            try clear hcz24_1
            try clear hcz24_2
            try clear hcz35_0
            try clear hcz35_1
            try clear hcz35_2
            try clear hfz11_0
            try clear hfz11_1
            try clear hfz11_2
            try clear hfz13_0
            try clear hfz13_1
            try clear hfz13_2
            try clear hfz15_0
            try clear hfz15_1
            try clear hfz15_2
            try clear hfz21_0
            try clear hfz21_1
            try clear hfz21_2
            try clear hfz24_0
            try clear hfz24_1
            try clear hfz24_2
            try clear hfz35_0
            try clear hfz35_1
            try clear hfz35_2
            try clear p2
            obtain ⟨x8_3, x11_3, rfl, HA, HK3, HO_4, HO_6, HO_8, HO_9, BK348, HB⟩ := hrel
            cases gk with
            | zero => exact absurd HA.out (by simp [ebbtidelaw06_AdjOnce.l1])
            | succ k3 =>
             have H := HA.out; clear HA; simp only [ebbtidelaw06_AdjOnce.l1] at H
             by_cases c36 : 0 ≤ x10_2
             ·rw [if_pos c36] at H
              have c36b0 : decide (0 ≤ x10_2) = true := decide_eq_true c36; clear c36
              by_cases c37 : x10_2 < (t351.length : Int)
              ·rw [if_pos c37] at H
               have c37b0 : decide (x10_2 < (t351.length : Int)) = true := decide_eq_true c37; clear c37
               by_cases c38 : x11_3 < ((rd_L3 t351 x10_2).length : Int)
               ·rw [if_pos c38] at H
                have c38b0 : decide (x11_3 < ((rd_L3 t351 x10_2).length : Int)) = true := decide_eq_true c38; clear c38
                by_cases c39 : 0 ≤ x11_3
                ·rw [if_pos c39] at H
                 have c39b0 : decide (0 ≤ x11_3) = true := decide_eq_true c39; clear c39
                 by_cases c40 : (rd (rd_L3 t351 x10_2) x11_3) < 0
                 ·rw [if_pos c40] at H
                  have c40b0 : decide ((rd (rd_L3 t351 x10_2) x11_3) < 0) = true := decide_eq_true c40; clear c40; exact absurd ((Option.some.inj H).trans HRT.out) (by decide)
                 ·rw [if_neg c40] at H
                  have c40b0 : decide ((rd (rd_L3 t351 x10_2) x11_3) < 0) = false := decide_eq_false c40; clear c40
                  by_cases c41 : (rd (rd_L3 t351 x10_2) x11_3) ≥ (x8_3.length : Int)
                  ·rw [if_pos c41] at H
                   have c41b0 : decide ((x8_3.length : Int) ≤ (rd (rd_L3 t351 x10_2) x11_3)) = true := decide_eq_true c41; clear c41; exact absurd ((Option.some.inj H).trans HRT.out) (by decide)
                  ·rw [if_neg c41] at H
                   have c41b0 : decide ((x8_3.length : Int) ≤ (rd (rd_L3 t351 x10_2) x11_3)) = false := decide_eq_false c41; clear c41
                   by_cases c42 : 0 ≤ (rd (rd_L3 t351 x10_2) x11_3)
                   ·rw [if_pos c42] at H
                    have c42b0 : decide (0 ≤ (rd (rd_L3 t351 x10_2) x11_3)) = true := decide_eq_true c42; clear c42
                    by_cases c43 : (rd (rd_L3 t351 x10_2) x11_3) < (l0_2.length : Int)
                    ·rw [if_pos c43] at H
                     have c43b0 : decide ((rd (rd_L3 t351 x10_2) x11_3) < (l0_2.length : Int)) = true := decide_eq_true c43; clear c43
                     by_cases c44 : ((rd_T37 l0_2 (rd (rd_L3 t351 x10_2) x11_3)).f0) = x10_2
                     ·rw [if_pos c44] at H
                      have c44b0 : (((rd_T37 l0_2 (rd (rd_L3 t351 x10_2) x11_3)).f0) == x10_2) = true := beq_iff_eq.mpr c44; have c44b1 : (((rd_T37 l0_2 (rd (rd_L3 t351 x10_2) x11_3)).f0) != x10_2) = false := bne_eq_false_iff_eq.mpr c44; clear c44
                      by_cases c45 : (rd (rd_L3 t351 x10_2) x11_3) < (x8_3.length : Int)
                      ·rw [if_pos c45] at H
                       have c45b0 : decide ((rd (rd_L3 t351 x10_2) x11_3) < (x8_3.length : Int)) = true := decide_eq_true c45; clear c45; obtain ⟨y370, hy370⟩ : ∃ y_ : List Int, y_ = (x8_3.set ((rd (rd_L3 t351 x10_2) x11_3) : Int).toNat (wrap64 ((rd x8_3 (rd (rd_L3 t351 x10_2) x11_3)) + 1))) := ⟨_, rfl⟩
                       replace H : (ebbtidelaw06_AdjOnce.l1 k3 true t351 t355 y370 x9_2 x10_2 (wrap64 (x11_3 + 1)) a0_0 a0_1 l0_2) = some r := by first | (rw [hy370]; with_reducible exact H) | (have H2_ := (Option.bind_some _ _).symm.trans H; rw [hy370]; with_reducible exact H2_) | (have H2_ := (Option.bind_some _ _).symm.trans H; with_reducible exact H2_) | with_reducible exact H | (rw [hy370]; exact H) | exact H
                       have Ny370 := Aside0.mk hy370; clear hy370; have H' := Aside0.mk H; clear H; obtain ⟨Ao47, co47, eo47⟩ := Kd.S_slice HO_4.out; subst eo47; have p365 : 0 ≤ (x10_2 : Int) := of_decide_eq_true (by first | (with_reducible assumption) | assumption); have q365 : x10_2 < (t351.length : Int) := of_decide_eq_true (by first | (with_reducible assumption) | assumption); obtain ⟨ad365, A365_0, c365_0, e365, hx365_0, hl365_0, hi365_0⟩ := at_L3 (Kd.S_reads' HO_4.out).2.2 x10_2 p365 q365; cases e365; obtain ⟨ce365, hce365, hMe365, hcc365⟩ := Kd.S_get HO_4.out [] x10_2 p365 (by first | exact q365 | exact of_decide_eq_true (by first | (with_reducible assumption) | assumption) | (have e_ := (Kd.S_reads' HO_4.out).1; omega)); obtain ⟨ve365_0, rfl, ge365_0⟩ := hMe365; have hv365_0 := hcc365 0 _ rfl; rw [Nat.add_zero, show ((Kd.slice 3 (Kd.int .i64))).sz = 1 from rfl, Nat.mul_one] at hv365_0; replace hv365_0 := Option.some.inj (hv365_0.symm.trans hx365_0); rw [hv365_0] at ge365_0; have HL365_0 := Aside0.mk (show Kd.R (Kd.int .i64) 3 _ _ _ _ (rd_L3 t351 x10_2) from ge365_0); clear hv365_0 ge365_0; clear hcc365 hce365; have HR365_0 := Aside0.mk hi365_0; have HC365_0 := Aside0.mk hl365_0; clear hi365_0 hl365_0; replace p365 := eq_true p365; replace q365 := eq_true q365; have p366 : 0 ≤ (x10_2 : Int) := of_decide_eq_true (by first | (with_reducible assumption) | assumption); have q366 : x10_2 < (t351.length : Int) := of_decide_eq_true (by first | (with_reducible assumption) | assumption); obtain ⟨ad366, A366_0, c366_0, e366, hx366_0, hl366_0, hi366_0⟩ := at_L3 (Kd.S_reads' HO_4.out).2.2 x10_2 p366 q366; obtain rfl : ad365 = ad366 := (by injection e366); obtain ⟨ce366, hce366, hMe366, hcc366⟩ := Kd.S_get HO_4.out [] x10_2 p366 (by first | exact q366 | exact of_decide_eq_true (by first | (with_reducible assumption) | assumption) | (have e_ := (Kd.S_reads' HO_4.out).1; omega)); obtain ⟨ve366_0, rfl, ge366_0⟩ := hMe366; have hv366_0 := hcc366 0 _ rfl; rw [Nat.add_zero, show ((Kd.slice 3 (Kd.int .i64))).sz = 1 from rfl, Nat.mul_one] at hv366_0; replace hv366_0 := Option.some.inj (hv366_0.symm.trans hx366_0); rw [hv366_0] at ge366_0; have HL366_0 := Aside0.mk (show Kd.R (Kd.int .i64) 3 _ _ _ _ (rd_L3 t351 x10_2) from ge366_0); clear hv366_0 ge366_0; clear hcc366 hce366; have HR366_0 := Aside0.mk hi366_0; have HC366_0 := Aside0.mk hl366_0; clear hi366_0 hl366_0; replace p366 := eq_true p366; replace q366 := eq_true q366; have ea_ := Option.some.inj (hx365_0.symm.trans hx366_0)
                       injection ea_ with ea_ en_ ec_
                       subst ea_; subst ec_; clear en_; have p367 : 0 ≤ (x11_3 : Int) := of_decide_eq_true (by first | (with_reducible assumption) | assumption); have q367 : x11_3 < ((rd_L3 t351 x10_2).length : Int) := of_decide_eq_true (by first | (with_reducible assumption) | assumption); obtain ⟨ad367, e367, hx367_0⟩ := Kd.at_int (by repeat (first | (with_reducible exact HR366_0.out) | (with_reducible refine Kd.C_alloc ?_ _) | (with_reducible refine Kd.C_drewN ?_ _) | (with_reducible refine Kd.C_drew ?_) | exact HR366_0.out)) x11_3 p367 q367; cases e367; replace p367 := eq_true p367; replace q367 := eq_true q367; obtain ⟨Ao48, co48, eo48⟩ := Kd.R_slice HO_8.out; subst eo48; have hcz49_0 : wr.cell? ⟨gb348, 0, none⟩ = some (.int .i64 a0_0) := (blk_cell BK348.out 0).trans rfl; have hcz49_1 : wr.cell? ⟨gb348, 1, none⟩ = some (.bool a0_1) := (blk_cell BK348.out 1).trans rfl; have hcz49_2 : wr.cell? ⟨gb348, 2, none⟩ = some (.slice A0_2 l0_2.length c0_2) := (blk_cell BK348.out 2).trans rfl; have hfz49_0 := blk_frozen BK348.out 0; have hfz49_1 := blk_frozen BK348.out 1; have hfz49_2 := blk_frozen BK348.out 2; have p368 : 0 ≤ ((rd (rd_L3 t351 x10_2) x11_3) : Int) := of_decide_eq_true (by first | (with_reducible assumption) | assumption); have q368 : (rd (rd_L3 t351 x10_2) x11_3) < (l0_2.length : Int) := of_decide_eq_true (by first | (with_reducible assumption) | assumption); obtain ⟨ad368, e368, hx368_0, hx368_1, hx368_2, hx368_3⟩ := at_T37 HR0_2.out (rd (rd_L3 t351 x10_2) x11_3) p368 q368; cases e368; replace hx368_0 := (HB.out.cell (World.block_lt_of_cell? w _ hx368_0)).trans hx368_0; replace hx368_1 := (HB.out.cell (World.block_lt_of_cell? w _ hx368_1)).trans hx368_1; replace hx368_2 := (HB.out.cell (World.block_lt_of_cell? w _ hx368_2)).trans hx368_2; replace hx368_3 := (HB.out.cell (World.block_lt_of_cell? w _ hx368_3)).trans hx368_3; replace p368 := eq_true p368; replace q368 := eq_true q368; have p369 : 0 ≤ ((rd (rd_L3 t351 x10_2) x11_3) : Int) := of_decide_eq_true (by first | (with_reducible assumption) | assumption); have q369 : (rd (rd_L3 t351 x10_2) x11_3) < (x8_3.length : Int) := of_decide_eq_true (by first | (with_reducible assumption) | assumption); obtain ⟨ad369, e369, hx369_0⟩ := Kd.at_int (Kd.R_reads' HO_8.out).2.2 (rd (rd_L3 t351 x10_2) x11_3) p369 q369; cases e369; replace p369 := eq_true p369; replace q369 := eq_true q369; have p46 : 0 ≤ ((rd (rd_L3 t351 x10_2) x11_3) : Int) := of_decide_eq_true (by first | (with_reducible assumption) | assumption); have q46 : ((rd (rd_L3 t351 x10_2) x11_3) : Int) < ((x8_3.length : Int) : Int) := of_decide_eq_true (by first | (with_reducible assumption) | assumption); obtain ⟨go46, co46, eo46, gb46, gl46, cl46, HG46⟩ := Kd.R_form HO_8.out (by omega)
                       (first | cases eo46 | (injection eo46 with ea_ en_ ec_; (first | subst ea_ | (injection ea_ with ea_; subst ea_)); subst ec_; clear en_))
                       have GB46 := Aside0.mk gb46; have GG46 := Aside0.mk HG46; clear gb46 gl46 HG46
                       (first | simp only [add_plain] at hx369_0 | skip)
                       obtain ⟨hx46_0, hf46_0⟩ := Kd.R_celln 0 HO_8.out ((rd (rd_L3 t351 x10_2) x11_3) : Int) p46 q46; replace p46 := eq_true p46; replace q46 := eq_true q46; have HP50 := Kd.R_putg HO_8.out ((rd (rd_L3 t351 x10_2) x11_3) : Int) (wrap64 ((rd x8_3 (rd (rd_L3 t351 x10_2) x11_3)) + 1))
                       go_wp2_with (first | ((with_reducible refine gate_store (t := 3) (p := 106) rfl ?_); refine store_event (t := 3) (p := 106) (v := ?vo_w51) (w1 := (wr.setCell ⟨go46, ((rd (rd_L3 t351 x10_2) x11_3) : Int).toNat, none⟩ (.int .i64 (wrap64 ((rd x8_3 (rd (rd_L3 t351 x10_2) x11_3)) + 1))))) ?hg ?ho ?hn ?hr ?_; (case ho => rfl); (case hg => rfl); (case hn => rfl); (case hr => first | (go_simp; done) | (go_simp; rfl)); intro w51 hw; have hg : wr.grownBy w51 (some go46) := (by rw [hw]; exact HP50.2); have hp_ : Kd.R (Kd.int .i64) 3 w51 w.heap.size (fun k_ => some k_ ≠ (v363 : Value).ownBlock) (.slice (some ⟨go46, 0, none⟩) x8_3.length co48) y370 := (by rw [hw, Ny370.out]; exact HP50.1); clear HP50; have n0_ := Aside0.mk (Kd.S_after (v := (.slice (some ⟨go46, 0, none⟩) x8_3.length co48)) (v1 := (.slice (some ⟨go46, 0, none⟩) x8_3.length co48)) (ok := (fun k_ => some k_ ≠ (v356 : Value).ownBlock ∧ some k_ ≠ (v363 : Value).ownBlock)) (by (with_reducible repeat (first | apply Kd.S_alloc | apply Kd.S_drewN | apply Kd.S_drew)); exact Kd.S_mono HO_4.out (fun _ hk => ⟨⟨hk.1, hk.2.2⟩, hk.2.1⟩)) hg (.inl rfl)); have n1_ := Aside0.mk (Kd.S_after (v := (.slice (some ⟨go46, 0, none⟩) x8_3.length co48)) (v1 := (.slice (some ⟨go46, 0, none⟩) x8_3.length co48)) (ok := (fun k_ => some k_ ≠ (.slice (some ad365) t351.length co47 : Value).ownBlock ∧ some k_ ≠ (v363 : Value).ownBlock)) (by (with_reducible repeat (first | apply Kd.S_alloc | apply Kd.S_drewN | apply Kd.S_drew)); exact Kd.S_mono HO_6.out (fun _ hk => ⟨⟨hk.1, hk.2.2⟩, hk.2.1⟩)) hg (.inl rfl)); have n2_ := Aside0.mk (hp_); have n3_ := Aside0.mk (Kd.R_after (v := (.slice (some ⟨go46, 0, none⟩) x8_3.length co48)) (v1 := (.slice (some ⟨go46, 0, none⟩) x8_3.length co48)) (ok := (fun _ => True)) (by (with_reducible repeat (first | apply Kd.R_alloc | apply Kd.R_drewN | apply Kd.R_drew)); exact Kd.R_mono HO_9.out (fun _ hk => ⟨trivial, hk⟩)) hg (.inl rfl)); have n4_ := Aside0.mk (blk_grown (g := gb348) (o := .cells #[.int .i64 a0_0, .bool a0_1, .slice (some ad368) l0_2.length c0_2] 24 (0, 0)) (by (with_reducible repeat (first | refine blk_drewN ?_ _ | refine blk_drew ?_ | refine blk_alloc ?_ _)); exact BK348.out) hg (Kd.R_ne HO_8.out BK348.out (by decide))); have n5_ := Aside0.mk (Kd.R_after (v := (.slice (some ⟨go46, 0, none⟩) x8_3.length co48)) (v1 := (.slice (some ⟨go46, 0, none⟩) x8_3.length co48)) (ok := (fun k_ => some k_ ≠ (.slice (some ad365) t351.length co47 : Value).ownBlock ∧ some k_ ≠ (v356 : Value).ownBlock ∧ some k_ ≠ (v363 : Value).ownBlock)) (by (with_reducible repeat (first | apply Kd.R_alloc | apply Kd.R_drewN | apply Kd.R_drew)); exact Kd.R_mono HL365_0.out (fun _ hk => ⟨⟨hk.2, ⟨hk.1.1, hk.1.2.2⟩⟩, hk.1.2.1⟩)) hg (.inl rfl)); have n6_ := Aside0.mk (Kd.R_after (v := (.slice (some ⟨go46, 0, none⟩) x8_3.length co48)) (v1 := (.slice (some ⟨go46, 0, none⟩) x8_3.length co48)) (ok := (fun k_ => some k_ ≠ (.slice (some ad365) t351.length co47 : Value).ownBlock ∧ some k_ ≠ (v356 : Value).ownBlock ∧ some k_ ≠ (v363 : Value).ownBlock)) (by (with_reducible repeat (first | apply Kd.R_alloc | apply Kd.R_drewN | apply Kd.R_drew)); exact Kd.R_mono HL366_0.out (fun _ hk => ⟨⟨hk.2, ⟨hk.1.1, hk.1.2.2⟩⟩, hk.1.2.1⟩)) hg (.inl rfl)); have n7_ := Aside0.mk ((by rw [hw]; exact below_set (HB.out) GB46.out : Below w.heap.size w w51)); clear HO_4; clear HO_6; clear HO_8; clear HO_9; clear BK348; clear HL365_0; clear HL366_0; clear HB; have HO_4 := n0_; have HO_6 := n1_; have HO_8 := n2_; have HO_9 := n3_; have BK348 := n4_; have HL365_0 := n5_; have HL366_0 := n6_; have HB := n7_; clear n0_ n1_ n2_ n3_ n4_ n5_ n6_ n7_; clear hg hw hp_))
                       go_roundg k3
                       case measure => have := HJ7.out; have := HK2.out; have := HK3.out; omega
                       case rel => exact ⟨(y370), (wrap64 (x11_3 + 1)), (by first | rfl | (simp; done) | (simp [*]; done)), H', ⟨by have := HJ7.out; have := HK2.out; have := HK3.out; omega⟩, ⟨by (with_reducible repeat (first | apply Kd.S_alloc | apply Kd.S_drewN | apply Kd.S_drew)); exact Kd.S_mono HO_4.out (fun _ hk => ⟨hk.1.1, ⟨hk.2, hk.1.2⟩⟩)⟩, ⟨by (with_reducible repeat (first | apply Kd.S_alloc | apply Kd.S_drewN | apply Kd.S_drew)); exact Kd.S_mono HO_6.out (fun _ hk => ⟨hk.1.1, ⟨hk.2, hk.1.2⟩⟩)⟩, ⟨by (with_reducible repeat (first | apply Kd.R_alloc | apply Kd.R_drewN | apply Kd.R_drew)); exact HO_8.out⟩, ⟨by (with_reducible repeat (first | apply Kd.R_alloc | apply Kd.R_drewN | apply Kd.R_drew)); exact Kd.R_mono HO_9.out (fun _ hk => hk.2)⟩, ⟨by (with_reducible repeat (first | refine blk_drewN ?_ _ | refine blk_drew ?_ | refine blk_alloc ?_ _)); exact BK348.out⟩, ⟨by repeat (first | (with_reducible first | exact HB.out | apply below_alloc | apply pw_below_drewN | apply below_drew1 | refine below_set ?_ GE348.out) | exact HB.out)⟩⟩
                      ·rw [if_neg c45] at H
                       exact absurd H (by simp)
                     ·rw [if_neg c44] at H
                      have c44b0 : (((rd_T37 l0_2 (rd (rd_L3 t351 x10_2) x11_3)).f0) == x10_2) = false := beq_eq_false_iff_ne.mpr c44; have c44b1 : (((rd_T37 l0_2 (rd (rd_L3 t351 x10_2) x11_3)).f0) != x10_2) = true := bne_iff_ne.mpr c44; exact absurd ((Option.some.inj H).trans HRT.out) (by decide)
                    ·rw [if_neg c43] at H
                     exact absurd H (by simp)
                   ·rw [if_neg c42] at H
                    exact absurd H (by simp)
                ·rw [if_neg c39] at H
                 exact absurd H (by simp)
               ·rw [if_neg c38] at H
                have c38b0 : decide (x11_3 < ((rd_L3 t351 x10_2).length : Int)) = false := decide_eq_false c38; clear c38; have H' := Aside0.mk H; clear H; obtain ⟨Ao52, co52, eo52⟩ := Kd.S_slice HO_4.out; subst eo52; have p365 : 0 ≤ (x10_2 : Int) := of_decide_eq_true (by first | (with_reducible assumption) | assumption); have q365 : x10_2 < (t351.length : Int) := of_decide_eq_true (by first | (with_reducible assumption) | assumption); obtain ⟨ad365, A365_0, c365_0, e365, hx365_0, hl365_0, hi365_0⟩ := at_L3 (Kd.S_reads' HO_4.out).2.2 x10_2 p365 q365; cases e365; obtain ⟨ce365, hce365, hMe365, hcc365⟩ := Kd.S_get HO_4.out [] x10_2 p365 (by first | exact q365 | exact of_decide_eq_true (by first | (with_reducible assumption) | assumption) | (have e_ := (Kd.S_reads' HO_4.out).1; omega)); obtain ⟨ve365_0, rfl, ge365_0⟩ := hMe365; have hv365_0 := hcc365 0 _ rfl; rw [Nat.add_zero, show ((Kd.slice 3 (Kd.int .i64))).sz = 1 from rfl, Nat.mul_one] at hv365_0; replace hv365_0 := Option.some.inj (hv365_0.symm.trans hx365_0); rw [hv365_0] at ge365_0; have HL365_0 := Aside0.mk (show Kd.R (Kd.int .i64) 3 _ _ _ _ (rd_L3 t351 x10_2) from ge365_0); clear hv365_0 ge365_0; clear hcc365 hce365; have HR365_0 := Aside0.mk hi365_0; have HC365_0 := Aside0.mk hl365_0; clear hi365_0 hl365_0; replace p365 := eq_true p365; replace q365 := eq_true q365
                go_wp2
                go_loopg [13] k3 (fun kq v13 w' => ∃ (x9_4 : List Int) (x13_4 : Int), v13 = .int .i64 x13_4 ∧ Aside0 (ebbtidelaw06_AdjOnce.l2 kq true t351 t355 x8_3 x9_4 x10_2 x13_4 a0_0 a0_1 l0_2 = some r) ∧ Aside0 (kq ≤ k3) ∧ Aside0 (Kd.S (Kd.slice 3 (Kd.int .i64)) 25 w' w.heap.size (fun k_ => some k_ ≠ (v356 : Value).ownBlock ∧ some k_ ≠ (v360 : Value).ownBlock ∧ some k_ ≠ (v363 : Value).ownBlock) (.slice (some ad365) t351.length co52) t351) ∧ Aside0 (Kd.S (Kd.slice 3 (Kd.int .i64)) 25 w' w.heap.size (fun k_ => some k_ ≠ ((.slice (some ad365) t351.length co52) : Value).ownBlock ∧ some k_ ≠ (v360 : Value).ownBlock ∧ some k_ ≠ (v363 : Value).ownBlock) v356 t355) ∧ Aside0 (Kd.R (Kd.int .i64) 3 w' w.heap.size (fun k_ => some k_ ≠ (v363 : Value).ownBlock) v360 x8_3) ∧ Aside0 (Kd.R (Kd.int .i64) 3 w' w.heap.size (fun k_ => some k_ ≠ (v360 : Value).ownBlock) v363 x9_4) ∧ Aside0 (w'.heap[gb348]? = some (.cells #[.int .i64 a0_0, .bool a0_1, (.slice A0_2 l0_2.length c0_2)] 24 (0, 0))) ∧ Aside0 (Below w.heap.size w w'))
                case atStart => exact ⟨(x9_2), (0), (by first | rfl | (simp; done) | (simp [*]; done)), H', ⟨Nat.le_refl _⟩, ⟨by (with_reducible repeat (first | apply Kd.S_alloc | apply Kd.S_drewN | apply Kd.S_drew)); exact HO_4.out⟩, ⟨by (with_reducible repeat (first | apply Kd.S_alloc | apply Kd.S_drewN | apply Kd.S_drew)); exact HO_6.out⟩, ⟨by (with_reducible repeat (first | apply Kd.R_alloc | apply Kd.R_drewN | apply Kd.R_drew)); exact HO_8.out⟩, ⟨by (with_reducible repeat (first | apply Kd.R_alloc | apply Kd.R_drewN | apply Kd.R_drew)); exact HO_9.out⟩, ⟨by (with_reducible repeat (first | refine blk_drewN ?_ _ | refine blk_drew ?_ | refine blk_alloc ?_ _)); exact BK348.out⟩, ⟨by repeat (first | (with_reducible first | exact HB.out | apply below_alloc | apply pw_below_drewN | apply below_drew1 | refine below_set ?_ GE348.out) | exact HB.out)⟩⟩
                case round =>
                 clear H'
                 try clear c1
                 try clear c2
                 try clear p2
                 try clear c3
                 try clear p3
                 try clear q3
                 try clear hx3
                 try clear c4
                 try clear p4
                 try clear q4
                 try clear hx4
                 try clear hf4
                 try clear c5
                 try clear c5b0
                 try clear c5b1
                 try clear p6
                 try clear c9
                 try clear c12
                 try clear c17
                 try clear c17b0
                 try clear c17b1
                 try clear c18
                 try clear c18b0
                 try clear c18b1
                 try clear c19
                 try clear c19b0
                 try clear c19b1
                 try clear c21
                 try clear c24
                 try clear c25
                 try clear c26
                 try clear c26b0
                 try clear c26b1
                 try clear c27
                 try clear c27b0
                 try clear c27b1
                 try clear c34
                 try clear c34b0
                 try clear c36
                 try clear c36b0
                 try clear p36
                 try clear q36
                 try clear hx36
                 try clear c37
                 try clear c37b0
                 try clear c38
                 try clear c38b0
                 try clear c39
                 try clear c39b0
                 try clear c40
                 try clear c40b0
                 try clear c41
                 try clear c41b0
                 try clear c42
                 try clear c42b0
                 try clear c43
                 try clear c43b0
                 try clear c44
                 try clear c44b0
                 try clear c44b1
                 try clear c45
                 try clear c45b0
                 try clear p46
                 try clear q46
                 try clear hx46
                 try clear hf46
                 try clear hcz11_0
                 try clear hcz11_1
                 try clear hcz11_2
                 try clear hcz13_0
                 try clear hcz13_1
                 try clear hcz13_2
                 try clear hcz15_0
                 try clear hcz15_1
                 try clear hcz15_2
                 try clear hcz21_0
                 try clear hcz21_1
                 try clear hcz21_2
                 try clear hcz24_0
                 try clear hcz24_1
                 try clear hcz24_2
                 try clear hcz35_0
                 try clear hcz35_1
                 try clear hcz35_2
                 try clear hcz49_0
                 try clear hcz49_1
                 try clear hcz49_2
                 try clear hfz11_0
                 try clear hfz11_1
                 try clear hfz11_2
                 try clear hfz13_0
                 try clear hfz13_1
                 try clear hfz13_2
                 try clear hfz15_0
                 try clear hfz15_1
                 try clear hfz15_2
                 try clear hfz21_0
                 try clear hfz21_1
                 try clear hfz21_2
                 try clear hfz24_0
                 try clear hfz24_1
                 try clear hfz24_2
                 try clear hfz35_0
                 try clear hfz35_1
                 try clear hfz35_2
                 try clear hfz49_0
                 try clear hfz49_1
                 try clear hfz49_2
                 try clear hx365_0
                 try clear hx366_0
                 try clear hx367_0
                 try clear hx368_0
                 try clear hx368_1
                 try clear hx368_2
                 try clear hx368_3
                 try clear hx369_0
                 try clear hx46_0
                 try clear p2
                 try clear p365
                 try clear p366
                 try clear p367
                 try clear p368
                 try clear p369
                 try clear p46
                 try clear q365
                 try clear q366
                 try clear q367
                 try clear q368
                 try clear q369
                 try clear q46
                 obtain ⟨x9_4, x13_4, rfl, HA, HK4, HO_4, HO_6, HO_8, HO_9, BK348, HB⟩ := hrel
                 cases gk with
                 | zero => exact absurd HA.out (by simp [ebbtidelaw06_AdjOnce.l2])
                 | succ k4 =>
                  have H := HA.out; clear HA; simp only [ebbtidelaw06_AdjOnce.l2] at H
                  by_cases c53 : 0 ≤ x10_2
                  ·rw [if_pos c53] at H
                   have c53b0 : decide (0 ≤ x10_2) = true := decide_eq_true c53; clear c53
                   by_cases c54 : x10_2 < (t355.length : Int)
                   ·rw [if_pos c54] at H
                    have c54b0 : decide (x10_2 < (t355.length : Int)) = true := decide_eq_true c54; clear c54
                    by_cases c55 : x13_4 < ((rd_L3 t355 x10_2).length : Int)
                    ·rw [if_pos c55] at H
                     have c55b0 : decide (x13_4 < ((rd_L3 t355 x10_2).length : Int)) = true := decide_eq_true c55; clear c55
                     by_cases c56 : 0 ≤ x13_4
                     ·rw [if_pos c56] at H
                      have c56b0 : decide (0 ≤ x13_4) = true := decide_eq_true c56; clear c56
                      by_cases c57 : (rd (rd_L3 t355 x10_2) x13_4) < 0
                      ·rw [if_pos c57] at H
                       have c57b0 : decide ((rd (rd_L3 t355 x10_2) x13_4) < 0) = true := decide_eq_true c57; clear c57; exact absurd ((Option.some.inj H).trans HRT.out) (by decide)
                      ·rw [if_neg c57] at H
                       have c57b0 : decide ((rd (rd_L3 t355 x10_2) x13_4) < 0) = false := decide_eq_false c57; clear c57
                       by_cases c58 : (rd (rd_L3 t355 x10_2) x13_4) ≥ (x9_4.length : Int)
                       ·rw [if_pos c58] at H
                        have c58b0 : decide ((x9_4.length : Int) ≤ (rd (rd_L3 t355 x10_2) x13_4)) = true := decide_eq_true c58; clear c58; exact absurd ((Option.some.inj H).trans HRT.out) (by decide)
                       ·rw [if_neg c58] at H
                        have c58b0 : decide ((x9_4.length : Int) ≤ (rd (rd_L3 t355 x10_2) x13_4)) = false := decide_eq_false c58; clear c58
                        by_cases c59 : 0 ≤ (rd (rd_L3 t355 x10_2) x13_4)
                        ·rw [if_pos c59] at H
                         have c59b0 : decide (0 ≤ (rd (rd_L3 t355 x10_2) x13_4)) = true := decide_eq_true c59; clear c59
                         by_cases c60 : (rd (rd_L3 t355 x10_2) x13_4) < (l0_2.length : Int)
                         ·rw [if_pos c60] at H
                          have c60b0 : decide ((rd (rd_L3 t355 x10_2) x13_4) < (l0_2.length : Int)) = true := decide_eq_true c60; clear c60
                          by_cases c61 : ((rd_T37 l0_2 (rd (rd_L3 t355 x10_2) x13_4)).f1) = x10_2
                          ·rw [if_pos c61] at H
                           have c61b0 : (((rd_T37 l0_2 (rd (rd_L3 t355 x10_2) x13_4)).f1) == x10_2) = true := beq_iff_eq.mpr c61; have c61b1 : (((rd_T37 l0_2 (rd (rd_L3 t355 x10_2) x13_4)).f1) != x10_2) = false := bne_eq_false_iff_eq.mpr c61; clear c61
                           by_cases c62 : (rd (rd_L3 t355 x10_2) x13_4) < (x9_4.length : Int)
                           ·rw [if_pos c62] at H
                            have c62b0 : decide ((rd (rd_L3 t355 x10_2) x13_4) < (x9_4.length : Int)) = true := decide_eq_true c62; clear c62; obtain ⟨y376, hy376⟩ : ∃ y_ : List Int, y_ = (x9_4.set ((rd (rd_L3 t355 x10_2) x13_4) : Int).toNat (wrap64 ((rd x9_4 (rd (rd_L3 t355 x10_2) x13_4)) + 1))) := ⟨_, rfl⟩
                            replace H : (ebbtidelaw06_AdjOnce.l2 k4 true t351 t355 x8_3 y376 x10_2 (wrap64 (x13_4 + 1)) a0_0 a0_1 l0_2) = some r := by first | (rw [hy376]; with_reducible exact H) | (have H2_ := (Option.bind_some _ _).symm.trans H; rw [hy376]; with_reducible exact H2_) | (have H2_ := (Option.bind_some _ _).symm.trans H; with_reducible exact H2_) | with_reducible exact H | (rw [hy376]; exact H) | exact H
                            have Ny376 := Aside0.mk hy376; clear hy376; have H' := Aside0.mk H; clear H; obtain ⟨Ao64, co64, eo64⟩ := Kd.S_slice HO_6.out; subst eo64; have p371 : 0 ≤ (x10_2 : Int) := of_decide_eq_true (by first | (with_reducible assumption) | assumption); have q371 : x10_2 < (t355.length : Int) := of_decide_eq_true (by first | (with_reducible assumption) | assumption); obtain ⟨ad371, A371_0, c371_0, e371, hx371_0, hl371_0, hi371_0⟩ := at_L3 (Kd.S_reads' HO_6.out).2.2 x10_2 p371 q371; cases e371; obtain ⟨ce371, hce371, hMe371, hcc371⟩ := Kd.S_get HO_6.out [] x10_2 p371 (by first | exact q371 | exact of_decide_eq_true (by first | (with_reducible assumption) | assumption) | (have e_ := (Kd.S_reads' HO_6.out).1; omega)); obtain ⟨ve371_0, rfl, ge371_0⟩ := hMe371; have hv371_0 := hcc371 0 _ rfl; rw [Nat.add_zero, show ((Kd.slice 3 (Kd.int .i64))).sz = 1 from rfl, Nat.mul_one] at hv371_0; replace hv371_0 := Option.some.inj (hv371_0.symm.trans hx371_0); rw [hv371_0] at ge371_0; have HL371_0 := Aside0.mk (show Kd.R (Kd.int .i64) 3 _ _ _ _ (rd_L3 t355 x10_2) from ge371_0); clear hv371_0 ge371_0; clear hcc371 hce371; have HR371_0 := Aside0.mk hi371_0; have HC371_0 := Aside0.mk hl371_0; clear hi371_0 hl371_0; replace p371 := eq_true p371; replace q371 := eq_true q371; have p372 : 0 ≤ (x10_2 : Int) := of_decide_eq_true (by first | (with_reducible assumption) | assumption); have q372 : x10_2 < (t355.length : Int) := of_decide_eq_true (by first | (with_reducible assumption) | assumption); obtain ⟨ad372, A372_0, c372_0, e372, hx372_0, hl372_0, hi372_0⟩ := at_L3 (Kd.S_reads' HO_6.out).2.2 x10_2 p372 q372; obtain rfl : ad371 = ad372 := (by injection e372); obtain ⟨ce372, hce372, hMe372, hcc372⟩ := Kd.S_get HO_6.out [] x10_2 p372 (by first | exact q372 | exact of_decide_eq_true (by first | (with_reducible assumption) | assumption) | (have e_ := (Kd.S_reads' HO_6.out).1; omega)); obtain ⟨ve372_0, rfl, ge372_0⟩ := hMe372; have hv372_0 := hcc372 0 _ rfl; rw [Nat.add_zero, show ((Kd.slice 3 (Kd.int .i64))).sz = 1 from rfl, Nat.mul_one] at hv372_0; replace hv372_0 := Option.some.inj (hv372_0.symm.trans hx372_0); rw [hv372_0] at ge372_0; have HL372_0 := Aside0.mk (show Kd.R (Kd.int .i64) 3 _ _ _ _ (rd_L3 t355 x10_2) from ge372_0); clear hv372_0 ge372_0; clear hcc372 hce372; have HR372_0 := Aside0.mk hi372_0; have HC372_0 := Aside0.mk hl372_0; clear hi372_0 hl372_0; replace p372 := eq_true p372; replace q372 := eq_true q372; have ea_ := Option.some.inj (hx371_0.symm.trans hx372_0)
                            injection ea_ with ea_ en_ ec_
                            subst ea_; subst ec_; clear en_; have p373 : 0 ≤ (x13_4 : Int) := of_decide_eq_true (by first | (with_reducible assumption) | assumption); have q373 : x13_4 < ((rd_L3 t355 x10_2).length : Int) := of_decide_eq_true (by first | (with_reducible assumption) | assumption); obtain ⟨ad373, e373, hx373_0⟩ := Kd.at_int (by repeat (first | (with_reducible exact HR372_0.out) | (with_reducible refine Kd.C_alloc ?_ _) | (with_reducible refine Kd.C_drewN ?_ _) | (with_reducible refine Kd.C_drew ?_) | exact HR372_0.out)) x13_4 p373 q373; cases e373; replace p373 := eq_true p373; replace q373 := eq_true q373; obtain ⟨Ao65, co65, eo65⟩ := Kd.R_slice HO_9.out; subst eo65; have hcz66_0 : wr.cell? ⟨gb348, 0, none⟩ = some (.int .i64 a0_0) := (blk_cell BK348.out 0).trans rfl; have hcz66_1 : wr.cell? ⟨gb348, 1, none⟩ = some (.bool a0_1) := (blk_cell BK348.out 1).trans rfl; have hcz66_2 : wr.cell? ⟨gb348, 2, none⟩ = some (.slice A0_2 l0_2.length c0_2) := (blk_cell BK348.out 2).trans rfl; have hfz66_0 := blk_frozen BK348.out 0; have hfz66_1 := blk_frozen BK348.out 1; have hfz66_2 := blk_frozen BK348.out 2; have p374 : 0 ≤ ((rd (rd_L3 t355 x10_2) x13_4) : Int) := of_decide_eq_true (by first | (with_reducible assumption) | assumption); have q374 : (rd (rd_L3 t355 x10_2) x13_4) < (l0_2.length : Int) := of_decide_eq_true (by first | (with_reducible assumption) | assumption); obtain ⟨ad374, e374, hx374_0, hx374_1, hx374_2, hx374_3⟩ := at_T37 HR0_2.out (rd (rd_L3 t355 x10_2) x13_4) p374 q374; cases e374; replace hx374_0 := (HB.out.cell (World.block_lt_of_cell? w _ hx374_0)).trans hx374_0; replace hx374_1 := (HB.out.cell (World.block_lt_of_cell? w _ hx374_1)).trans hx374_1; replace hx374_2 := (HB.out.cell (World.block_lt_of_cell? w _ hx374_2)).trans hx374_2; replace hx374_3 := (HB.out.cell (World.block_lt_of_cell? w _ hx374_3)).trans hx374_3; replace p374 := eq_true p374; replace q374 := eq_true q374; have p375 : 0 ≤ ((rd (rd_L3 t355 x10_2) x13_4) : Int) := of_decide_eq_true (by first | (with_reducible assumption) | assumption); have q375 : (rd (rd_L3 t355 x10_2) x13_4) < (x9_4.length : Int) := of_decide_eq_true (by first | (with_reducible assumption) | assumption); obtain ⟨ad375, e375, hx375_0⟩ := Kd.at_int (Kd.R_reads' HO_9.out).2.2 (rd (rd_L3 t355 x10_2) x13_4) p375 q375; cases e375; replace p375 := eq_true p375; replace q375 := eq_true q375; have p63 : 0 ≤ ((rd (rd_L3 t355 x10_2) x13_4) : Int) := of_decide_eq_true (by first | (with_reducible assumption) | assumption); have q63 : ((rd (rd_L3 t355 x10_2) x13_4) : Int) < ((x9_4.length : Int) : Int) := of_decide_eq_true (by first | (with_reducible assumption) | assumption); obtain ⟨go63, co63, eo63, gb63, gl63, cl63, HG63⟩ := Kd.R_form HO_9.out (by omega)
                            (first | cases eo63 | (injection eo63 with ea_ en_ ec_; (first | subst ea_ | (injection ea_ with ea_; subst ea_)); subst ec_; clear en_))
                            have GB63 := Aside0.mk gb63; have GG63 := Aside0.mk HG63; clear gb63 gl63 HG63
                            (first | simp only [add_plain] at hx375_0 | skip)
                            obtain ⟨hx63_0, hf63_0⟩ := Kd.R_celln 0 HO_9.out ((rd (rd_L3 t355 x10_2) x13_4) : Int) p63 q63; replace p63 := eq_true p63; replace q63 := eq_true q63; have HP67 := Kd.R_putg HO_9.out ((rd (rd_L3 t355 x10_2) x13_4) : Int) (wrap64 ((rd x9_4 (rd (rd_L3 t355 x10_2) x13_4)) + 1))
                            go_wp2_with (first | ((with_reducible refine gate_store (t := 3) (p := 146) rfl ?_); refine store_event (t := 3) (p := 146) (v := ?vo_w68) (w1 := (wr.setCell ⟨go63, ((rd (rd_L3 t355 x10_2) x13_4) : Int).toNat, none⟩ (.int .i64 (wrap64 ((rd x9_4 (rd (rd_L3 t355 x10_2) x13_4)) + 1))))) ?hg ?ho ?hn ?hr ?_; (case ho => rfl); (case hg => rfl); (case hn => rfl); (case hr => first | (go_simp; done) | (go_simp; rfl)); intro w68 hw; have hg : wr.grownBy w68 (some go63) := (by rw [hw]; exact HP67.2); have hp_ : Kd.R (Kd.int .i64) 3 w68 w.heap.size (fun k_ => some k_ ≠ (v360 : Value).ownBlock) (.slice (some ⟨go63, 0, none⟩) x9_4.length co65) y376 := (by rw [hw, Ny376.out]; exact HP67.1); clear HP67; have n0_ := Aside0.mk (Kd.S_after (v := (.slice (some ⟨go63, 0, none⟩) x9_4.length co65)) (v1 := (.slice (some ⟨go63, 0, none⟩) x9_4.length co65)) (ok := (fun k_ => some k_ ≠ (.slice (some ad371) t355.length co64 : Value).ownBlock ∧ some k_ ≠ (v360 : Value).ownBlock)) (by (with_reducible repeat (first | apply Kd.S_alloc | apply Kd.S_drewN | apply Kd.S_drew)); exact Kd.S_mono HO_4.out (fun _ hk => ⟨⟨hk.1, hk.2.1⟩, hk.2.2⟩)) hg (.inl rfl)); have n1_ := Aside0.mk (Kd.S_after (v := (.slice (some ⟨go63, 0, none⟩) x9_4.length co65)) (v1 := (.slice (some ⟨go63, 0, none⟩) x9_4.length co65)) (ok := (fun k_ => some k_ ≠ (.slice (some ad365) t351.length co52 : Value).ownBlock ∧ some k_ ≠ (v360 : Value).ownBlock)) (by (with_reducible repeat (first | apply Kd.S_alloc | apply Kd.S_drewN | apply Kd.S_drew)); exact Kd.S_mono HO_6.out (fun _ hk => ⟨⟨hk.1, hk.2.1⟩, hk.2.2⟩)) hg (.inl rfl)); have n2_ := Aside0.mk (Kd.R_after (v := (.slice (some ⟨go63, 0, none⟩) x9_4.length co65)) (v1 := (.slice (some ⟨go63, 0, none⟩) x9_4.length co65)) (ok := (fun _ => True)) (by (with_reducible repeat (first | apply Kd.R_alloc | apply Kd.R_drewN | apply Kd.R_drew)); exact Kd.R_mono HO_8.out (fun _ hk => ⟨trivial, hk⟩)) hg (.inl rfl)); have n3_ := Aside0.mk (hp_); have n4_ := Aside0.mk (blk_grown (g := gb348) (o := .cells #[.int .i64 a0_0, .bool a0_1, .slice (some ad374) l0_2.length c0_2] 24 (0, 0)) (by (with_reducible repeat (first | refine blk_drewN ?_ _ | refine blk_drew ?_ | refine blk_alloc ?_ _)); exact BK348.out) hg (Kd.R_ne HO_9.out BK348.out (by decide))); have n5_ := Aside0.mk (Kd.R_after (v := (.slice (some ⟨go63, 0, none⟩) x9_4.length co65)) (v1 := (.slice (some ⟨go63, 0, none⟩) x9_4.length co65)) (ok := (fun k_ => some k_ ≠ (.slice (some ad365) t351.length co52 : Value).ownBlock ∧ some k_ ≠ (.slice (some ad371) t355.length co64 : Value).ownBlock ∧ some k_ ≠ (v360 : Value).ownBlock)) (by (with_reducible repeat (first | apply Kd.R_alloc | apply Kd.R_drewN | apply Kd.R_drew)); exact Kd.R_mono HL371_0.out (fun _ hk => ⟨⟨hk.1.1, ⟨hk.2, hk.1.2.1⟩⟩, hk.1.2.2⟩)) hg (.inl rfl)); have n6_ := Aside0.mk (Kd.R_after (v := (.slice (some ⟨go63, 0, none⟩) x9_4.length co65)) (v1 := (.slice (some ⟨go63, 0, none⟩) x9_4.length co65)) (ok := (fun k_ => some k_ ≠ (.slice (some ad365) t351.length co52 : Value).ownBlock ∧ some k_ ≠ (.slice (some ad371) t355.length co64 : Value).ownBlock ∧ some k_ ≠ (v360 : Value).ownBlock)) (by (with_reducible repeat (first | apply Kd.R_alloc | apply Kd.R_drewN | apply Kd.R_drew)); exact Kd.R_mono HL372_0.out (fun _ hk => ⟨⟨hk.1.1, ⟨hk.2, hk.1.2.1⟩⟩, hk.1.2.2⟩)) hg (.inl rfl)); have n7_ := Aside0.mk ((by rw [hw]; exact below_set (HB.out) GB63.out : Below w.heap.size w w68)); clear HO_4; clear HO_6; clear HO_8; clear HO_9; clear BK348; clear HL371_0; clear HL372_0; clear HB; have HO_4 := n0_; have HO_6 := n1_; have HO_8 := n2_; have HO_9 := n3_; have BK348 := n4_; have HL371_0 := n5_; have HL372_0 := n6_; have HB := n7_; clear n0_ n1_ n2_ n3_ n4_ n5_ n6_ n7_; clear hg hw hp_))
                            go_roundg k4
                            case measure => have := HJ7.out; have := HK2.out; have := HK3.out; have := HK4.out; omega
                            case rel => exact ⟨(y376), (wrap64 (x13_4 + 1)), (by first | rfl | (simp; done) | (simp [*]; done)), H', ⟨by have := HJ7.out; have := HK2.out; have := HK3.out; have := HK4.out; omega⟩, ⟨by (with_reducible repeat (first | apply Kd.S_alloc | apply Kd.S_drewN | apply Kd.S_drew)); exact Kd.S_mono HO_4.out (fun _ hk => ⟨hk.1.1, ⟨hk.1.2, hk.2⟩⟩)⟩, ⟨by (with_reducible repeat (first | apply Kd.S_alloc | apply Kd.S_drewN | apply Kd.S_drew)); exact Kd.S_mono HO_6.out (fun _ hk => ⟨hk.1.1, ⟨hk.1.2, hk.2⟩⟩)⟩, ⟨by (with_reducible repeat (first | apply Kd.R_alloc | apply Kd.R_drewN | apply Kd.R_drew)); exact Kd.R_mono HO_8.out (fun _ hk => hk.2)⟩, ⟨by (with_reducible repeat (first | apply Kd.R_alloc | apply Kd.R_drewN | apply Kd.R_drew)); exact HO_9.out⟩, ⟨by (with_reducible repeat (first | refine blk_drewN ?_ _ | refine blk_drew ?_ | refine blk_alloc ?_ _)); exact BK348.out⟩, ⟨by repeat (first | (with_reducible first | exact HB.out | apply below_alloc | apply pw_below_drewN | apply below_drew1 | refine below_set ?_ GE348.out) | exact HB.out)⟩⟩
                           ·rw [if_neg c62] at H
                            exact absurd H (by simp)
                          ·rw [if_neg c61] at H
                           have c61b0 : (((rd_T37 l0_2 (rd (rd_L3 t355 x10_2) x13_4)).f1) == x10_2) = false := beq_eq_false_iff_ne.mpr c61; have c61b1 : (((rd_T37 l0_2 (rd (rd_L3 t355 x10_2) x13_4)).f1) != x10_2) = true := bne_iff_ne.mpr c61; exact absurd ((Option.some.inj H).trans HRT.out) (by decide)
                         ·rw [if_neg c60] at H
                          exact absurd H (by simp)
                        ·rw [if_neg c59] at H
                         exact absurd H (by simp)
                     ·rw [if_neg c56] at H
                      exact absurd H (by simp)
                    ·rw [if_neg c55] at H
                     have c55b0 : decide (x13_4 < ((rd_L3 t355 x10_2).length : Int)) = false := decide_eq_false c55; clear c55; have H' := Aside0.mk H; clear H; obtain ⟨Ao69, co69, eo69⟩ := Kd.S_slice HO_6.out; subst eo69; have p371 : 0 ≤ (x10_2 : Int) := of_decide_eq_true (by first | (with_reducible assumption) | assumption); have q371 : x10_2 < (t355.length : Int) := of_decide_eq_true (by first | (with_reducible assumption) | assumption); obtain ⟨ad371, A371_0, c371_0, e371, hx371_0, hl371_0, hi371_0⟩ := at_L3 (Kd.S_reads' HO_6.out).2.2 x10_2 p371 q371; cases e371; obtain ⟨ce371, hce371, hMe371, hcc371⟩ := Kd.S_get HO_6.out [] x10_2 p371 (by first | exact q371 | exact of_decide_eq_true (by first | (with_reducible assumption) | assumption) | (have e_ := (Kd.S_reads' HO_6.out).1; omega)); obtain ⟨ve371_0, rfl, ge371_0⟩ := hMe371; have hv371_0 := hcc371 0 _ rfl; rw [Nat.add_zero, show ((Kd.slice 3 (Kd.int .i64))).sz = 1 from rfl, Nat.mul_one] at hv371_0; replace hv371_0 := Option.some.inj (hv371_0.symm.trans hx371_0); rw [hv371_0] at ge371_0; have HL371_0 := Aside0.mk (show Kd.R (Kd.int .i64) 3 _ _ _ _ (rd_L3 t355 x10_2) from ge371_0); clear hv371_0 ge371_0; clear hcc371 hce371; have HR371_0 := Aside0.mk hi371_0; have HC371_0 := Aside0.mk hl371_0; clear hi371_0 hl371_0; replace p371 := eq_true p371; replace q371 := eq_true q371
                     go_wp2
                     go_roundg k4
                     case measure => have := HJ7.out; have := HK2.out; have := HK3.out; have := HK4.out; omega
                     case rel => exact ⟨(x8_3), (x9_4), (wrap64 (x10_2 + 1)), (by first | rfl | (simp; done) | (simp [*]; done)), H', ⟨by have := HJ7.out; have := HK2.out; have := HK3.out; have := HK4.out; omega⟩, ⟨by (with_reducible repeat (first | apply Kd.S_alloc | apply Kd.S_drewN | apply Kd.S_drew)); exact HO_4.out⟩, ⟨by (with_reducible repeat (first | apply Kd.S_alloc | apply Kd.S_drewN | apply Kd.S_drew)); exact HO_6.out⟩, ⟨by (with_reducible repeat (first | apply Kd.R_alloc | apply Kd.R_drewN | apply Kd.R_drew)); exact HO_8.out⟩, ⟨by (with_reducible repeat (first | apply Kd.R_alloc | apply Kd.R_drewN | apply Kd.R_drew)); exact HO_9.out⟩, ⟨by (with_reducible repeat (first | refine blk_drewN ?_ _ | refine blk_drew ?_ | refine blk_alloc ?_ _)); exact BK348.out⟩, ⟨by repeat (first | (with_reducible first | exact HB.out | apply below_alloc | apply pw_below_drewN | apply below_drew1 | refine below_set ?_ GE348.out) | exact HB.out)⟩⟩
                   ·rw [if_neg c54] at H
                    exact absurd H (by simp)
                  ·rw [if_neg c53] at H
                   exact absurd H (by simp)
              ·rw [if_neg c37] at H
               exact absurd H (by simp)
             ·rw [if_neg c36] at H
              exact absurd H (by simp)
          ·rw [if_neg c34] at H
           have c34b0 : decide (x10_2 < a0_0) = false := decide_eq_false c34; clear c34; have H' := Aside0.mk H; clear H; have hcz70_0 : wr.cell? ⟨gb348, 0, none⟩ = some (.int .i64 a0_0) := (blk_cell BK348.out 0).trans rfl; have hcz70_1 : wr.cell? ⟨gb348, 1, none⟩ = some (.bool a0_1) := (blk_cell BK348.out 1).trans rfl; have hcz70_2 : wr.cell? ⟨gb348, 2, none⟩ = some (.slice A0_2 l0_2.length c0_2) := (blk_cell BK348.out 2).trans rfl; have hfz70_0 := blk_frozen BK348.out 0; have hfz70_1 := blk_frozen BK348.out 1; have hfz70_2 := blk_frozen BK348.out 2
           go_wp2
           go_loopg [15] k2 (fun kq v15 w' => ∃ (x15_3 : Int), v15 = .int .i64 x15_3 ∧ Aside0 (ebbtidelaw06_AdjOnce.l3 kq true x8_2 x9_2 x15_3 = some r) ∧ Aside0 (kq ≤ k2) ∧ Aside0 (Kd.R (Kd.int .i64) 3 w' w.heap.size (fun k_ => some k_ ≠ (v363 : Value).ownBlock) v360 x8_2) ∧ Aside0 (Kd.R (Kd.int .i64) 3 w' w.heap.size (fun k_ => some k_ ≠ (v360 : Value).ownBlock) v363 x9_2) ∧ Aside0 (w'.heap[gb348]? = some (.cells #[.int .i64 a0_0, .bool a0_1, (.slice A0_2 l0_2.length c0_2)] 24 (0, 0))) ∧ Aside0 (Below w.heap.size w w'))
           case atStart => exact ⟨(0), (by first | rfl | (simp; done) | (simp [*]; done)), H', ⟨Nat.le_refl _⟩, ⟨by (with_reducible repeat (first | apply Kd.R_alloc | apply Kd.R_drewN | apply Kd.R_drew)); exact HO_8.out⟩, ⟨by (with_reducible repeat (first | apply Kd.R_alloc | apply Kd.R_drewN | apply Kd.R_drew)); exact HO_9.out⟩, ⟨by (with_reducible repeat (first | refine blk_drewN ?_ _ | refine blk_drew ?_ | refine blk_alloc ?_ _)); exact BK348.out⟩, ⟨by repeat (first | (with_reducible first | exact HB.out | apply below_alloc | apply pw_below_drewN | apply below_drew1 | refine below_set ?_ GE348.out) | exact HB.out)⟩⟩
           case round =>
            clear H'
            try clear c1
            try clear c2
            try clear p2
            try clear c3
            try clear p3
            try clear q3
            try clear hx3
            try clear c4
            try clear p4
            try clear q4
            try clear hx4
            try clear hf4
            try clear c5
            try clear c5b0
            try clear c5b1
            try clear c6
            try clear p6
            try clear q6
            try clear hx6
            try clear hf6
            try clear c9
            try clear c12
            try clear c17
            try clear c17b0
            try clear c17b1
            try clear c18
            try clear c18b0
            try clear c18b1
            try clear c19
            try clear c19b0
            try clear c19b1
            try clear c21
            try clear c24
            try clear c25
            try clear c26
            try clear c26b0
            try clear c26b1
            try clear c27
            try clear c27b0
            try clear c27b1
            try clear c34
            try clear c34b0
            try clear c36
            try clear c36b0
            try clear p36
            try clear q36
            try clear hx36
            try clear c37
            try clear c37b0
            try clear p37
            try clear q37
            try clear hx37
            try clear c38
            try clear c38b0
            try clear c39
            try clear c39b0
            try clear c40
            try clear c40b0
            try clear c41
            try clear c41b0
            try clear c42
            try clear c42b0
            try clear c43
            try clear c43b0
            try clear c44
            try clear c44b0
            try clear c44b1
            try clear c45
            try clear c45b0
            try clear p46
            try clear q46
            try clear hx46
            try clear hf46
            try clear c53
            try clear c53b0
            try clear c54
            try clear c54b0
            try clear c55
            try clear c55b0
            try clear c56
            try clear c56b0
            try clear c57
            try clear c57b0
            try clear c58
            try clear c58b0
            try clear c59
            try clear c59b0
            try clear c60
            try clear c60b0
            try clear c61
            try clear c61b0
            try clear c61b1
            try clear c62
            try clear c62b0
            try clear p63
            try clear q63
            try clear hx63
            try clear hf63
            try clear p64
            try clear hcz11_0
            try clear hcz11_1
            try clear hcz11_2
            try clear hcz13_0
            try clear hcz13_1
            try clear hcz13_2
            try clear hcz15_0
            try clear hcz15_1
            try clear hcz15_2
            try clear hcz21_0
            try clear hcz21_1
            try clear hcz21_2
            try clear hcz24_0
            try clear hcz24_1
            try clear hcz24_2
            try clear hcz35_0
            try clear hcz35_1
            try clear hcz35_2
            try clear hcz49_0
            try clear hcz49_1
            try clear hcz49_2
            try clear hcz66_0
            try clear hcz66_1
            try clear hcz66_2
            try clear hcz70_0
            try clear hcz70_1
            try clear hcz70_2
            try clear hfz11_0
            try clear hfz11_1
            try clear hfz11_2
            try clear hfz13_0
            try clear hfz13_1
            try clear hfz13_2
            try clear hfz15_0
            try clear hfz15_1
            try clear hfz15_2
            try clear hfz21_0
            try clear hfz21_1
            try clear hfz21_2
            try clear hfz24_0
            try clear hfz24_1
            try clear hfz24_2
            try clear hfz35_0
            try clear hfz35_1
            try clear hfz35_2
            try clear hfz49_0
            try clear hfz49_1
            try clear hfz49_2
            try clear hfz66_0
            try clear hfz66_1
            try clear hfz66_2
            try clear hfz70_0
            try clear hfz70_1
            try clear hfz70_2
            try clear hx365_0
            try clear hx366_0
            try clear hx367_0
            try clear hx368_0
            try clear hx368_1
            try clear hx368_2
            try clear hx368_3
            try clear hx369_0
            try clear hx371_0
            try clear hx372_0
            try clear hx373_0
            try clear hx374_0
            try clear hx374_1
            try clear hx374_2
            try clear hx374_3
            try clear hx375_0
            try clear hx46_0
            try clear hx63_0
            try clear p2
            try clear p3
            try clear p36
            try clear p365
            try clear p366
            try clear p367
            try clear p368
            try clear p369
            try clear p371
            try clear p372
            try clear p373
            try clear p374
            try clear p375
            try clear p4
            try clear p46
            try clear p6
            try clear p63
            try clear q3
            try clear q36
            try clear q365
            try clear q366
            try clear q367
            try clear q368
            try clear q369
            try clear q371
            try clear q372
            try clear q373
            try clear q374
            try clear q375
            try clear q4
            try clear q46
            try clear q63
            obtain ⟨x15_3, rfl, HA, HK3, HO_8, HO_9, BK348, HB⟩ := hrel
            cases gk with
            | zero => exact absurd HA.out (by simp [ebbtidelaw06_AdjOnce.l3])
            | succ k3 =>
             have H := HA.out; clear HA; simp only [ebbtidelaw06_AdjOnce.l3] at H
             by_cases c71 : x15_3 < (x8_2.length : Int)
             ·rw [if_pos c71] at H
              have c71b0 : decide (x15_3 < (x8_2.length : Int)) = true := decide_eq_true c71; clear c71
              by_cases c72 : 0 ≤ x15_3
              ·rw [if_pos c72] at H
               have c72b0 : decide (0 ≤ x15_3) = true := decide_eq_true c72; clear c72
               by_cases c73 : (rd x8_2 x15_3) = 1
               ·rw [if_pos c73] at H
                have c73b0 : ((rd x8_2 x15_3) == 1) = true := beq_iff_eq.mpr c73; have c73b1 : ((rd x8_2 x15_3) != 1) = false := bne_eq_false_iff_eq.mpr c73; clear c73
                by_cases c74 : x15_3 < (x9_2.length : Int)
                ·rw [if_pos c74] at H
                 have c74b0 : decide (x15_3 < (x9_2.length : Int)) = true := decide_eq_true c74; clear c74
                 by_cases c75 : (rd x9_2 x15_3) = 1
                 ·rw [if_pos c75] at H
                  have c75b0 : ((rd x9_2 x15_3) == 1) = true := beq_iff_eq.mpr c75; have c75b1 : ((rd x9_2 x15_3) != 1) = false := bne_eq_false_iff_eq.mpr c75; clear c75; have H' := Aside0.mk H; clear H; obtain ⟨Ao76, co76, eo76⟩ := Kd.R_slice HO_8.out; subst eo76; have p377 : 0 ≤ (x15_3 : Int) := of_decide_eq_true (by first | (with_reducible assumption) | assumption); have q377 : x15_3 < (x8_2.length : Int) := of_decide_eq_true (by first | (with_reducible assumption) | assumption); obtain ⟨ad377, e377, hx377_0⟩ := Kd.at_int (Kd.R_reads' HO_8.out).2.2 x15_3 p377 q377; cases e377; replace p377 := eq_true p377; replace q377 := eq_true q377; obtain ⟨Ao77, co77, eo77⟩ := Kd.R_slice HO_9.out; subst eo77; have p378 : 0 ≤ (x15_3 : Int) := of_decide_eq_true (by first | (with_reducible assumption) | assumption); have q378 : x15_3 < (x9_2.length : Int) := of_decide_eq_true (by first | (with_reducible assumption) | assumption); obtain ⟨ad378, e378, hx378_0⟩ := Kd.at_int (Kd.R_reads' HO_9.out).2.2 x15_3 p378 q378; cases e378; replace p378 := eq_true p378; replace q378 := eq_true q378
                  go_wp2
                  go_roundg k3
                  case measure => have := HJ7.out; have := HK2.out; have := HK3.out; omega
                  case rel => exact ⟨(wrap64 (x15_3 + 1)), (by first | rfl | (simp; done) | (simp [*]; done)), H', ⟨by have := HJ7.out; have := HK2.out; have := HK3.out; omega⟩, ⟨by (with_reducible repeat (first | apply Kd.R_alloc | apply Kd.R_drewN | apply Kd.R_drew)); exact HO_8.out⟩, ⟨by (with_reducible repeat (first | apply Kd.R_alloc | apply Kd.R_drewN | apply Kd.R_drew)); exact HO_9.out⟩, ⟨by (with_reducible repeat (first | refine blk_drewN ?_ _ | refine blk_drew ?_ | refine blk_alloc ?_ _)); exact BK348.out⟩, ⟨by repeat (first | (with_reducible first | exact HB.out | apply below_alloc | apply pw_below_drewN | apply below_drew1 | refine below_set ?_ GE348.out) | exact HB.out)⟩⟩
                 ·rw [if_neg c75] at H
                  have c75b0 : ((rd x9_2 x15_3) == 1) = false := beq_eq_false_iff_ne.mpr c75; have c75b1 : ((rd x9_2 x15_3) != 1) = true := bne_iff_ne.mpr c75; exact absurd ((Option.some.inj H).trans HRT.out) (by decide)
                ·rw [if_neg c74] at H
                 exact absurd H (by simp)
               ·rw [if_neg c73] at H
                have c73b0 : ((rd x8_2 x15_3) == 1) = false := beq_eq_false_iff_ne.mpr c73; have c73b1 : ((rd x8_2 x15_3) != 1) = true := bne_iff_ne.mpr c73; exact absurd ((Option.some.inj H).trans HRT.out) (by decide)
              ·rw [if_neg c72] at H
               exact absurd H (by simp)
             ·rw [if_neg c71] at H
              have c71b0 : decide (x15_3 < (x8_2.length : Int)) = false := decide_eq_false c71; clear c71; obtain rfl := Option.some.inj H; obtain ⟨Ao78, co78, eo78⟩ := Kd.R_slice HO_8.out; subst eo78
              go_wp2
              go_ret
              exact ⟨by first | rfl | (simp [errW_none, errW_some] <;> rfl) | (simp [*, errW_none, errW_some] <;> rfl), by repeat (first | (with_reducible first | exact HB.out | apply below_alloc | apply pw_below_drewN | apply below_drew1 | refine below_set ?_ GE348.out) | exact HB.out)⟩
       ·rw [if_neg c27] at H
        exact absurd H (by simp)
      ·rw [if_neg c26] at H
       exact absurd H (by simp)
  ·rw [if_neg c5] at H
   have c5b0 : (t350 == 0) = false := beq_eq_false_iff_ne.mpr c5; have c5b1 : (t350 != 0) = true := bne_iff_ne.mpr c5; obtain rfl := Option.some.inj H
   go_enter Try.func9, Try.ntmps9
   go_wp2_with (first | ((with_reducible refine gate_dst (N := 1) rfl ?_); (try (refine gate_guard (by rfl) ?_; dsimp only)); refine box_event ?hg (N := 1) ?hd (cs := #[.int .i64 a0_0, .bool a0_1, .slice A0_2 l0_2.length c0_2]) (t := 24) ?hr ?_; (case hd => rfl); (case hg => rfl); (case hr => first | (go_simp; done) | (go_simp; rfl)); intro gb348 hg w79 hbox hb; have n0_ := Aside0.mk (below_step (by repeat (first | (with_reducible first | exact HB.out | apply below_alloc | apply pw_below_drewN | apply below_drew1) | exact HB.out)) hb); have n1_ := Aside0.mk (hbox); have n2_ := Aside0.mk ((by rw [hg]; exact (below_size (by repeat (first | (with_reducible first | exact HB.out | apply below_alloc | apply pw_below_drewN | apply below_drew1) | exact HB.out))) : w.heap.size ≤ gb348)); have n3_ := Aside0.mk ((by rw [hg]; exact (below_size (by repeat (first | (with_reducible first | exact HB.out | apply below_alloc | apply pw_below_drewN | apply below_drew1) | exact HB.out))) : w.heap.size ≤ gb348)); clear HB; have HB := n0_; have BK348 := n1_; have GW348 := n2_; have GE348 := n3_; clear n0_ n1_ n2_ n3_; clear hb hbox hg) | ((with_reducible refine gate_callee (f := 12) rfl ?_); refine goesL_ (some 16) rfl rfl Try.func12 (by kernel_rfl) rfl #[] rfl (by (try simp only [List.map_toArray, List.map_cons, List.map_nil]); first | done | rfl | (simp only [List.length_drop, List.length_take]; rfl)) ?_; (with_reducible refine (ebbtidelaw06_awake.calls k  true _ A2.out).mono ?_); rintro e w80 ⟨rfl, hb⟩; refine ⟨_, rfl, ?_⟩; have n0_ := Aside0.mk (blk_below (g := gb348) (o := .cells #[.int .i64 a0_0, .bool a0_1, .slice A0_2 l0_2.length c0_2] 24 (0, 0)) (by (with_reducible repeat (first | refine blk_drewN ?_ _ | refine blk_drew ?_ | refine blk_alloc ?_ _)); exact BK348.out) hb); have n1_ := Aside0.mk (below_step (by repeat (first | (with_reducible first | exact HB.out | apply below_alloc | apply pw_below_drewN | apply below_drew1 | refine below_set ?_ GE348.out) | exact HB.out)) hb); clear BK348; clear HB; have BK348 := n0_; have HB := n1_; clear n0_ n1_; (try clear hb); (try clear hb2); (try clear hk); (try clear hi); have hcz81_0 : w80.cell? ⟨gb348, 0, none⟩ = some (.int .i64 a0_0) := (blk_cell BK348.out 0).trans rfl; have hcz81_1 : w80.cell? ⟨gb348, 1, none⟩ = some (.bool a0_1) := (blk_cell BK348.out 1).trans rfl; have hcz81_2 : w80.cell? ⟨gb348, 2, none⟩ = some (.slice A0_2 l0_2.length c0_2) := (blk_cell BK348.out 2).trans rfl; have hfz81_0 := blk_frozen BK348.out 0; have hfz81_1 := blk_frozen BK348.out 1; have hfz81_2 := blk_frozen BK348.out 2) | ((with_reducible refine gate_callee (f := 24) rfl ?_); refine goesL_ (some 20) rfl rfl Try.func24 (by kernel_rfl) rfl #[.agg #[.int .i64 a0_0, .bool a0_1, .slice A0_2 l0_2.length c0_2]] rfl (by (try simp only [List.map_toArray, List.map_cons, List.map_nil]); first | done | rfl | (simp only [List.length_drop, List.length_take]; rfl)) ?_; (with_reducible refine (ebbtideref05_Check.calls k a0_0 a0_1 _ _ l0_2 t350 _ ?side1 ?side2 A4.out).mono ?_); (case side1 => repeat (first | exact (Kd.C_below HR0_2.out HB.out) | (with_reducible refine Kd.C_alloc ?_ _) | (with_reducible refine Kd.C_drewN ?_ _) | (with_reducible refine Kd.C_drew ?_))); (case side2 => exact HC0_2.out); rintro e w82 ⟨rfl, hb⟩; refine ⟨_, rfl, ?_⟩; have n0_ := Aside0.mk (blk_below (g := gb348) (o := .cells #[.int .i64 a0_0, .bool a0_1, .slice A0_2 l0_2.length c0_2] 24 (0, 0)) (by (with_reducible repeat (first | refine blk_drewN ?_ _ | refine blk_drew ?_ | refine blk_alloc ?_ _)); exact BK348.out) hb); have n1_ := Aside0.mk (below_step (by repeat (first | (with_reducible first | exact HB.out | apply below_alloc | apply pw_below_drewN | apply below_drew1 | refine below_set ?_ GE348.out) | exact HB.out)) hb); clear BK348; clear HB; have BK348 := n0_; have HB := n1_; clear n0_ n1_; (try clear hb); (try clear hb2); (try clear hk); (try clear hi)))
   go_ret
   exact ⟨by first | rfl | (simp [errW_none, errW_some] <;> rfl) | (simp [*, errW_none, errW_some] <;> rfl), by repeat (first | (with_reducible first | exact HB.out | apply below_alloc | apply pw_below_drewN | apply below_drew1 | refine below_set ?_ GE348.out) | exact HB.out)⟩
 ·replace c3 := Bool.eq_false_iff.mpr c3
  subst c3
  have H1 : (some false) = some r := by rw [if_neg (show ¬ (false = true) by decide)] at H; exact H
  clear H; have H := H1; clear H1; exact absurd ((Option.some.inj H).trans HRT.out) (by decide)
end Go.Proofs.Ytgjgckpdilbbjaa.Q
end
