/- A part of the proof: words, contracts, plain lemmas. Conditions: none. -/
import Derived.Test.YtgjgckpdilbbjaaZAdjOnce3
import Derived.Test.YtgjgckpdilbbjaaZAdjOnce11
import Derived.Test.YtgjgckpdilbbjaaZAdjOnce15
import Derived.Test.YtgjgckpdilbbjaaZAdjOnce17
import Derived.Test.YtgjgckpdilbbjaaZAdjOnce18
import Derived.Test.YtgjgckpdilbbjaaZAdjOnce19
import Derived.Test.YtgjgckpdilbbjaaRows
import Derived.Deep.Slices
import Derived.ProofKit
section
namespace Go.Proofs.Ytgjgckpdilbbjaa.Q
open Go.RowKit Go.Proofs.YtgjgckpdilbbjaaW.PrintWords Go.Proofs.YtgjgckpdilbbjaaW.PrintLast Go.Proofs.YtgjgckpdilbbjaaW.PrintMore
attribute [local go_sem] max2_int min2_int max_two min_four
set_option linter.unusedVariables false
set_option linter.unusedSimpArgs false
def adj_In.f (k : Nat) (a0_0 : Int) (a0_1 : Bool) (l0_2 : List (S37)) : Option ((List (List Int)) × Int) := (netfmt_Check.f k a0_0 a0_1 l0_2).bind fun t308 => (if t308 = 0 then ((adj_Coming.f k a0_0 a0_1 l0_2).bind fun t309 => (some (t309, 0))) else (some (([] : List (List Int)), t308)))
set_option maxHeartbeats 8000000 in
set_option maxRecDepth 100000 in
theorem adj_In.calls (k : Nat) (a0_0 : Int) (a0_1 : Bool) (A0_2 : Option Addr) (c0_2 : Nat) (l0_2 : List (S37)) (r1 : List (List Int)) (r2 : Int) (w : World) (hr0_2 : Kd.C k37 w A0_2 l0_2.length l0_2) (hc0_2 : l0_2.length ≤ c0_2) (h : adj_In.f k a0_0 a0_1 l0_2 = some (r1, r2)) :
  Calls Try.prog 21 #[.agg #[.int .i64 a0_0, .bool a0_1, .slice A0_2 l0_2.length c0_2]] w fun e w' => ∃ v0_ : Value, e = .returned (.tuple #[v0_, .int .i64 r2]) ∧ Kd.S (Kd.slice 3 (Kd.int .i64)) 25 w' w.heap.size (fun _ => True) v0_ r1 ∧ Below w.heap.size w w' := by
 have hu24 := Try.underlying24; have HR0_2 := Aside0.mk hr0_2; have HC0_2 := Aside0.mk hc0_2; clear hr0_2 hc0_2; have HB := Aside0.mk (Below.refl w.heap.size w); have H : ((netfmt_Check.f k a0_0 a0_1 l0_2).bind fun t308 => (if t308 = 0 then ((adj_Coming.f k a0_0 a0_1 l0_2).bind fun t309 => (some (t309, 0))) else (some (([] : List (List Int)), t308)))) = some (r1, r2) := h; clear h; replace H := Option.bind_eq_some_iff.mp H; obtain ⟨t308, A20, H⟩ := H; replace H : (if t308 = 0 then ((adj_Coming.f k a0_0 a0_1 l0_2).bind fun t309 => (some (t309, 0))) else (some (([] : List (List Int)), t308))) = some (r1, r2) := H; have A2 := Aside0.mk A20; clear A20
 by_cases c3 : t308 = 0
 ·rw [if_pos c3] at H
  have c3b0 : (t308 == 0) = true := beq_iff_eq.mpr c3; have c3b1 : (t308 != 0) = false := bne_eq_false_iff_eq.mpr c3; clear c3; replace H := Option.bind_eq_some_iff.mp H; obtain ⟨t309, A40, H⟩ := H; replace H : (some (t309, 0)) = some (r1, r2) := H; have A4 := Aside0.mk A40; clear A40; simp only [Option.some.injEq, Prod.mk.injEq] at H; obtain ⟨rfl, rfl⟩ := H
  go_enter Try.func21, Try.ntmps21
  go_wp2_with (first | ((with_reducible refine gate_dst (N := 1) rfl ?_); refine box_event ?hg (N := 1) ?hd (cs := #[.int .i64 a0_0, .bool a0_1, .slice A0_2 l0_2.length c0_2]) (t := 24) ?hr ?_; (case hd => rfl); (case hg => rfl); (case hr => first | (go_simp; done) | (go_simp; rfl)); intro gb307 hg w5 hbox hb; have n0_ := Aside0.mk (below_step (by repeat (first | (with_reducible first | exact HB.out | apply below_alloc | apply pw_below_drewN | apply below_drew1) | exact HB.out)) hb); have n1_ := Aside0.mk (hbox); have n2_ := Aside0.mk ((by rw [hg]; exact (below_size (by repeat (first | (with_reducible first | exact HB.out | apply below_alloc | apply pw_below_drewN | apply below_drew1) | exact HB.out))) : w.heap.size ≤ gb307)); have n3_ := Aside0.mk ((by rw [hg]; exact (below_size (by repeat (first | (with_reducible first | exact HB.out | apply below_alloc | apply pw_below_drewN | apply below_drew1) | exact HB.out))) : w.heap.size ≤ gb307)); clear HB; have HB := n0_; have BK307 := n1_; have GW307 := n2_; have GE307 := n3_; clear n0_ n1_ n2_ n3_; clear hb hbox hg; have hcz6_0 : w5.cell? ⟨gb307, 0, none⟩ = some (.int .i64 a0_0) := (blk_cell BK307.out 0).trans rfl; have hcz6_1 : w5.cell? ⟨gb307, 1, none⟩ = some (.bool a0_1) := (blk_cell BK307.out 1).trans rfl; have hcz6_2 : w5.cell? ⟨gb307, 2, none⟩ = some (.slice A0_2 l0_2.length c0_2) := (blk_cell BK307.out 2).trans rfl; have hfz6_0 := blk_frozen BK307.out 0; have hfz6_1 := blk_frozen BK307.out 1; have hfz6_2 := blk_frozen BK307.out 2) | ((with_reducible refine gate_callee (f := 33) rfl ?_); refine goesL_ (some 6) rfl rfl Try.func33 (by kernel_rfl) rfl #[.agg #[.int .i64 a0_0, .bool a0_1, .slice A0_2 l0_2.length c0_2]] rfl (by (try simp only [List.map_toArray, List.map_cons, List.map_nil]); first | done | rfl | (simp only [List.length_drop, List.length_take]; rfl)) ?_; (with_reducible refine (netfmt_Check.calls k a0_0 a0_1 _ _ l0_2 t308 _ ?side1 ?side2 A2.out).mono ?_); (case side1 => repeat (first | exact (Kd.C_below HR0_2.out HB.out) | (with_reducible refine Kd.C_alloc ?_ _) | (with_reducible refine Kd.C_drewN ?_ _) | (with_reducible refine Kd.C_drew ?_))); (case side2 => exact HC0_2.out); rintro e w7 ⟨rfl, hb⟩; refine ⟨_, rfl, ?_⟩; have n0_ := Aside0.mk (blk_below (g := gb307) (o := .cells #[.int .i64 a0_0, .bool a0_1, .slice A0_2 l0_2.length c0_2] 24 (0, 0)) (by (with_reducible repeat (first | refine blk_drewN ?_ _ | refine blk_drew ?_ | refine blk_alloc ?_ _)); exact BK307.out) hb); have n1_ := Aside0.mk (below_step (by repeat (first | (with_reducible first | exact HB.out | apply below_alloc | apply pw_below_drewN | apply below_drew1 | refine below_set ?_ GE307.out) | exact HB.out)) hb); clear BK307; clear HB; have BK307 := n0_; have HB := n1_; clear n0_ n1_; (try clear hb); (try clear hb2); (try clear hk); (try clear hi); have hcz8_0 : w7.cell? ⟨gb307, 0, none⟩ = some (.int .i64 a0_0) := (blk_cell BK307.out 0).trans rfl; have hcz8_1 : w7.cell? ⟨gb307, 1, none⟩ = some (.bool a0_1) := (blk_cell BK307.out 1).trans rfl; have hcz8_2 : w7.cell? ⟨gb307, 2, none⟩ = some (.slice A0_2 l0_2.length c0_2) := (blk_cell BK307.out 2).trans rfl; have hfz8_0 := blk_frozen BK307.out 0; have hfz8_1 := blk_frozen BK307.out 1; have hfz8_2 := blk_frozen BK307.out 2) | ((with_reducible refine gate_callee (f := 38) rfl ?_); refine goesL_ (some 11) rfl rfl Try.func38 (by kernel_rfl) rfl #[.agg #[.int .i64 a0_0, .bool a0_1, .slice A0_2 l0_2.length c0_2]] rfl (by (try simp only [List.map_toArray, List.map_cons, List.map_nil]); first | done | rfl | (simp only [List.length_drop, List.length_take]; rfl)) ?_; (with_reducible refine (adj_Coming.calls k a0_0 a0_1 _ _ l0_2 t309 _ ?side1 ?side2 A4.out).mono ?_); (case side1 => repeat (first | exact (Kd.C_below HR0_2.out HB.out) | (with_reducible refine Kd.C_alloc ?_ _) | (with_reducible refine Kd.C_drewN ?_ _) | (with_reducible refine Kd.C_drew ?_))); (case side2 => exact HC0_2.out); rintro e w9 ⟨v310, rfl, ho0, hb⟩; refine ⟨_, rfl, ?_⟩; have n0_ := Aside0.mk (Kd.S_lower ho0 (below_size (by repeat (first | (with_reducible first | exact HB.out | apply below_alloc | apply pw_below_drewN | apply below_drew1 | refine below_set ?_ GE307.out) | exact HB.out)))); have n1_ := Aside0.mk (blk_below (g := gb307) (o := .cells #[.int .i64 a0_0, .bool a0_1, .slice A0_2 l0_2.length c0_2] 24 (0, 0)) (by (with_reducible repeat (first | refine blk_drewN ?_ _ | refine blk_drew ?_ | refine blk_alloc ?_ _)); exact BK307.out) hb); have n2_ := Aside0.mk (below_step (by repeat (first | (with_reducible first | exact HB.out | apply below_alloc | apply pw_below_drewN | apply below_drew1 | refine below_set ?_ GE307.out) | exact HB.out)) hb); clear BK307; clear HB; have HO311 := n0_; have BK307 := n1_; have HB := n2_; clear n0_ n1_ n2_; (try clear hb); (try clear hb2); (try clear hk); (try clear hi); (try clear ho0)))
  go_ret2
  exact ⟨_, by first | rfl | (simp [errW_none, errW_some] <;> rfl) | (simp [*, errW_none, errW_some] <;> rfl), by (with_reducible repeat (first | apply Kd.S_alloc | apply Kd.S_drewN | apply Kd.S_drew)); exact HO311.out, by repeat (first | (with_reducible first | exact HB.out | apply below_alloc | apply pw_below_drewN | apply below_drew1 | refine below_set ?_ GE307.out) | exact HB.out)⟩
 ·rw [if_neg c3] at H
  have c3b0 : (t308 == 0) = false := beq_eq_false_iff_ne.mpr c3; have c3b1 : (t308 != 0) = true := bne_iff_ne.mpr c3; simp only [Option.some.injEq, Prod.mk.injEq] at H; obtain ⟨rfl, rfl⟩ := H
  go_enter Try.func21, Try.ntmps21
  go_wp2_with (first | ((with_reducible refine gate_dst (N := 1) rfl ?_); refine box_event ?hg (N := 1) ?hd (cs := #[.int .i64 a0_0, .bool a0_1, .slice A0_2 l0_2.length c0_2]) (t := 24) ?hr ?_; (case hd => rfl); (case hg => rfl); (case hr => first | (go_simp; done) | (go_simp; rfl)); intro gb307 hg w10 hbox hb; have n0_ := Aside0.mk (below_step (by repeat (first | (with_reducible first | exact HB.out | apply below_alloc | apply pw_below_drewN | apply below_drew1) | exact HB.out)) hb); have n1_ := Aside0.mk (hbox); have n2_ := Aside0.mk ((by rw [hg]; exact (below_size (by repeat (first | (with_reducible first | exact HB.out | apply below_alloc | apply pw_below_drewN | apply below_drew1) | exact HB.out))) : w.heap.size ≤ gb307)); have n3_ := Aside0.mk ((by rw [hg]; exact (below_size (by repeat (first | (with_reducible first | exact HB.out | apply below_alloc | apply pw_below_drewN | apply below_drew1) | exact HB.out))) : w.heap.size ≤ gb307)); clear HB; have HB := n0_; have BK307 := n1_; have GW307 := n2_; have GE307 := n3_; clear n0_ n1_ n2_ n3_; clear hb hbox hg; have hcz11_0 : w10.cell? ⟨gb307, 0, none⟩ = some (.int .i64 a0_0) := (blk_cell BK307.out 0).trans rfl; have hcz11_1 : w10.cell? ⟨gb307, 1, none⟩ = some (.bool a0_1) := (blk_cell BK307.out 1).trans rfl; have hcz11_2 : w10.cell? ⟨gb307, 2, none⟩ = some (.slice A0_2 l0_2.length c0_2) := (blk_cell BK307.out 2).trans rfl; have hfz11_0 := blk_frozen BK307.out 0; have hfz11_1 := blk_frozen BK307.out 1; have hfz11_2 := blk_frozen BK307.out 2) | ((with_reducible refine gate_callee (f := 33) rfl ?_); refine goesL_ (some 6) rfl rfl Try.func33 (by kernel_rfl) rfl #[.agg #[.int .i64 a0_0, .bool a0_1, .slice A0_2 l0_2.length c0_2]] rfl (by (try simp only [List.map_toArray, List.map_cons, List.map_nil]); first | done | rfl | (simp only [List.length_drop, List.length_take]; rfl)) ?_; (with_reducible refine (netfmt_Check.calls k a0_0 a0_1 _ _ l0_2 t308 _ ?side1 ?side2 A2.out).mono ?_); (case side1 => repeat (first | exact (Kd.C_below HR0_2.out HB.out) | (with_reducible refine Kd.C_alloc ?_ _) | (with_reducible refine Kd.C_drewN ?_ _) | (with_reducible refine Kd.C_drew ?_))); (case side2 => exact HC0_2.out); rintro e w12 ⟨rfl, hb⟩; refine ⟨_, rfl, ?_⟩; have n0_ := Aside0.mk (blk_below (g := gb307) (o := .cells #[.int .i64 a0_0, .bool a0_1, .slice A0_2 l0_2.length c0_2] 24 (0, 0)) (by (with_reducible repeat (first | refine blk_drewN ?_ _ | refine blk_drew ?_ | refine blk_alloc ?_ _)); exact BK307.out) hb); have n1_ := Aside0.mk (below_step (by repeat (first | (with_reducible first | exact HB.out | apply below_alloc | apply pw_below_drewN | apply below_drew1 | refine below_set ?_ GE307.out) | exact HB.out)) hb); clear BK307; clear HB; have BK307 := n0_; have HB := n1_; clear n0_ n1_; (try clear hb); (try clear hb2); (try clear hk); (try clear hi)))
  go_ret2
  exact ⟨_, by first | rfl | (simp [errW_none, errW_some] <;> rfl) | (simp [*, errW_none, errW_some] <;> rfl), by first | exact Kd.S_nil _ _ _ _ _ | exact Kd.N_nil _ _ _ _ _ | exact Kd.V_nil _ _ _ _ _ | exact Kd.Q_nil _ _ _ _ _ | exact Kd.R_nil _ _ _ _ _, by repeat (first | (with_reducible first | exact HB.out | apply below_alloc | apply pw_below_drewN | apply below_drew1 | refine below_set ?_ GE307.out) | exact HB.out)⟩
end Go.Proofs.Ytgjgckpdilbbjaa.Q
end
section
namespace Go.Proofs.Ytgjgckpdilbbjaa.P
set_option linter.unusedSimpArgs false
set_option linter.unusedVariables false
open Go.RowKit Go.Proofs.Ytgjgckpdilbbjaa.Q Go.Proofs.YtgjgckpdilbbjaaW.PrintWords Go.Proofs.YtgjgckpdilbbjaaW.PrintLast Go.Proofs.YtgjgckpdilbbjaaW.PrintMore
theorem awake06_at : ebbtidelaw06_awake.f 60 = some true := by decide +kernel
theorem awake06_ev : Ev (fun k => ebbtidelaw06_awake.f k) true := Ev.of (fun k => ebbtidelaw06_awake.mono k) awake06_at
def placesAt (e : S37 → Int) (l : List S37) (i : Nat) (v : Int) : List Int := ((List.range i).filter (fun (j : Nat) => e (rd_T37 l (j : Int)) == v)).map (fun (j : Nat) => (j : Int))
theorem placesAt_succ (e : S37 → Int) (l : List S37) (i : Nat) (v : Int) : placesAt e l (i + 1) v = if e (rd_T37 l (i : Int)) = v then placesAt e l i v ++ [(i : Int)] else placesAt e l i v := by
  unfold placesAt
  rw [List.range_succ, List.filter_append]
  by_cases c : e (rd_T37 l (i : Int)) = v
  · rw [if_pos c, List.map_append]
    simp [c]
  · rw [if_neg c]
    simp [c]
theorem placesAt_length (e : S37 → Int) (l : List S37) (i : Nat) (v : Int) : (placesAt e l i v).length ≤ i := by
  unfold placesAt
  rw [List.length_map]
  refine Nat.le_trans (List.length_filter_le _ _) ?_
  rw [List.length_range]; exact Nat.le_refl _
def rowsAt (e : S37 → Int) (l : List S37) (n i : Nat) : List (List Int) := (List.range n).map (fun (v : Nat) => placesAt e l i (v : Int))
theorem rowsAt_length (e : S37 → Int) (l : List S37) (n i : Nat) : (rowsAt e l n i).length = n := by unfold rowsAt; simp
theorem rowsAt_rd (e : S37 → Int) (l : List S37) (n i : Nat) (v : Int) (h0 : 0 ≤ v) (h1 : v < (n : Int)) : rd_L3 (rowsAt e l n i) v = placesAt e l i v := by
  unfold rd_L3 rowsAt
  rw [List.getD_eq_getElem?_getD, List.getElem?_map, List.getElem?_range (by omega)]
  simp only [Option.map_some, Option.getD_some]
  rw [Int.toNat_of_nonneg h0]
theorem rowsAt_zero (e : S37 → Int) (l : List S37) (n : Nat) : rowsAt e l n 0 = List.replicate n [] := by
  apply List.ext_getElem
  · simp [rowsAt]
  · intro i h1 h2; simp [rowsAt, placesAt]
theorem rowsAt_step (e : S37 → Int) (l : List S37) (n i : Nat) (h0 : 0 ≤ e (rd_T37 l (i : Int))) (h1 : e (rd_T37 l (i : Int)) < (n : Int)) : (rowsAt e l n i).set (e (rd_T37 l (i : Int))).toNat (rd_L3 (rowsAt e l n i) (e (rd_T37 l (i : Int))) ++ [(i : Int)]) = rowsAt e l n (i + 1) := by
  rw [rowsAt_rd e l n i _ h0 h1]
  apply List.ext_getElem
  · simp [rowsAt]
  · intro j h2 h3
    rw [rowsAt_length] at h3
    rw [List.getElem_set]
    have e1 : (rowsAt e l n (i + 1))[j]'(by rw [rowsAt_length]; exact h3) = placesAt e l (i + 1) (j : Int) := by simp [rowsAt]
    have e2 : (rowsAt e l n i)[j]'(by rw [rowsAt_length]; exact h3) = placesAt e l i (j : Int) := by simp [rowsAt]
    rw [e1, placesAt_succ]
    by_cases c : e (rd_T37 l (i : Int)) = (j : Int)
    · rw [if_pos (by omega), if_pos c, c]
    · rw [if_neg (by omega), if_neg c, e2]
theorem rdT_mem {l : List S37} {i : Nat} (h : i < l.length) : rd_T37 l (i : Int) ∈ l := by rw [rdA_of h]; exact List.getElem_mem h
theorem lists_loop (n : Nat) (l : List S37) (hok : ∀ a ∈ l, ArcOk (n : Int) a) (hl : l.length ≤ 200) (d : Nat) : ∀ i, i + d = l.length → Ev (fun k => adj_lists.l0 k (rowsAt S37.f0 l n i) l (l.length : Int) (i : Int)) (rowsAt S37.f0 l n l.length) := by
  induction d with
  | zero =>
    intro i hi
    rw [show i = l.length by omega]
    exact ev_cst fun k => by rw [adj_lists.l0, if_neg (by omega)]
  | succ d ih =>
    intro i hi
    have ha := hok _ (rdT_mem (l := l) (i := i) (by omega))
    refine Ev.step (fun k => ?_) (ih (i + 1) (by omega))
    have hp := placesAt_length S37.f0 l i ((rd_T37 l (i : Int)).f0)
    rw [adj_lists.l0, if_pos (by omega), if_pos (by omega), if_pos (by omega)]
    simp only [adj_from.f, Option.bind_some]
    rw [if_pos ha.f0.1, if_pos (by rw [rowsAt_length]; exact ha.f0.2), if_pos (by rw [rowsAt_rd _ _ _ _ _ ha.f0.1 ha.f0.2]; omega), rowsAt_step S37.f0 l n i ha.f0.1 ha.f0.2, wrap1 (by omega)]
theorem listsTo_loop (n : Nat) (l : List S37) (hok : ∀ a ∈ l, ArcOk (n : Int) a) (hl : l.length ≤ 200) (d : Nat) : ∀ i, i + d = l.length → Ev (fun k => adj_listsTo.l0 k (rowsAt S37.f1 l n i) l (l.length : Int) (i : Int)) (rowsAt S37.f1 l n l.length) := by
  induction d with
  | zero =>
    intro i hi
    rw [show i = l.length by omega]
    exact ev_cst fun k => by rw [adj_listsTo.l0, if_neg (by omega)]
  | succ d ih =>
    intro i hi
    have ha := hok _ (rdT_mem (l := l) (i := i) (by omega))
    refine Ev.step (fun k => ?_) (ih (i + 1) (by omega))
    have hp := placesAt_length S37.f1 l i ((rd_T37 l (i : Int)).f1)
    rw [adj_listsTo.l0, if_pos (by omega), if_pos (by omega), if_pos (by omega)]
    simp only [adj_to.f, Option.bind_some]
    rw [if_pos ha.f1.1, if_pos (by rw [rowsAt_length]; exact ha.f1.2), if_pos (by rw [rowsAt_rd _ _ _ _ _ ha.f1.1 ha.f1.2]; omega), rowsAt_step S37.f1 l n i ha.f1.1 ha.f1.2, wrap1 (by omega)]
def leav (n : Int) (l : List S37) : List (List Int) := rowsAt S37.f0 l n.toNat l.length
def comi (n : Int) (l : List S37) : List (List Int) := rowsAt S37.f1 l n.toNat l.length
theorem leaving_ev {n : Int} {l : List S37} (b : Bool) (h : NetOk n l) : Ev (fun k => adj_Leaving.f k n b l) (leav n l) := by
  have hn : (n.toNat : Int) = n := Int.toNat_of_nonneg (by have := h.lo; omega)
  have hloop := lists_loop n.toNat l (by rw [hn]; exact h.arcs) h.len l.length 0 (by omega)
  unfold adj_Leaving.f
  refine Ev.bind (Ev.congr (fun k => ?_) hloop) (Ev.now _)
  · unfold adj_lists.f
    rw [if_pos (by have := h.lo; omega), if_pos (by have := h.hi; omega), rowsAt_zero]
    rfl
theorem coming_ev {n : Int} {l : List S37} (b : Bool) (h : NetOk n l) : Ev (fun k => adj_Coming.f k n b l) (comi n l) := by
  have hn : (n.toNat : Int) = n := Int.toNat_of_nonneg (by have := h.lo; omega)
  have hloop := listsTo_loop n.toNat l (by rw [hn]; exact h.arcs) h.len l.length 0 (by omega)
  unfold adj_Coming.f
  refine Ev.bind (Ev.congr (fun k => ?_) hloop) (Ev.now _)
  · unfold adj_listsTo.f
    rw [if_pos (by have := h.lo; omega), if_pos (by have := h.hi; omega), rowsAt_zero]
    rfl
def outErr (n : Int) (l : List S37) (r : List (List Int)) : List (List Int) × Int := if checkErr n l = 0 then (r, 0) else ([], checkErr n l)
theorem out_ev (n : Int) (b : Bool) (l : List S37) : Ev (fun k => adj_Out.f k n b l) (outErr n l (leav n l)) := by
  unfold adj_Out.f outErr
  refine Ev.bind (check_ev n b l) ?_
  by_cases c : checkErr n l = 0
  · rw [if_pos c]
    simp only [c, if_true]
    exact Ev.bind (leaving_ev b (checkErr_ok.1 c)) (Ev.now _)
  · rw [if_neg c]
    simp only [c, if_false]
    exact Ev.now _
theorem in_ev (n : Int) (b : Bool) (l : List S37) : Ev (fun k => adj_In.f k n b l) (outErr n l (comi n l)) := by
  unfold adj_In.f outErr
  refine Ev.bind (check_ev n b l) ?_
  by_cases c : checkErr n l = 0
  · rw [if_pos c]
    simp only [c, if_true]
    exact Ev.bind (coming_ev b (checkErr_ok.1 c)) (Ev.now _)
  · rw [if_neg c]
    simp only [c, if_false]
    exact Ev.now _
end Go.Proofs.Ytgjgckpdilbbjaa.P
end
section
namespace Go.Proofs.Ytgjgckpdilbbjaa.R
open Go.RowKit Go.Proofs.Ytgjgckpdilbbjaa.Q Go.Proofs.YtgjgckpdilbbjaaW.PrintWords Go.Proofs.YtgjgckpdilbbjaaW.PrintLast Go.Proofs.YtgjgckpdilbbjaaW.PrintMore
open Go.ChangeShapes Go.WideShapes Go.Deep
def Reads (t : TypeId) {α : Type} (d : Kd α) (G : Nat → α → Prop) : Prop :=
  ∀ {H : Type} (enc : TypeId × Value → H) (w : World) (base : Nat) (spare : Nat → Bool) (held : Bool) (fuel : Nat) (cs : List Value) (x : DataW H × List MemPlace),
    DataW.trod enc Try.prog w base spare held fuel t cs = some x → ∃ a, d.K w a cs ∧ ∀ N, Rows.uptoBulk x.1 ≤ N → G N a
def gInt (k : IntKind) (_ : Nat) (n : Int) : Prop := (Lit.int k n).wf = true
def gTrue (_ : Nat) (_ : Bool) : Prop := True
def gList {α : Type} (G : Nat → α → Prop) (N : Nat) (l : List α) : Prop := l.length ≤ maxLen ∧ l.length ≤ N ∧ ∀ x ∈ l, G N x
theorem readsInt {t : TypeId} {k : IntKind} (ht : Try.prog.underlying t = some (.int k)) : Reads t (Kd.int k) (gInt k) := by
  intro H enc w base spare held fuel cs x h
  obtain ⟨n, rfl, rfl, hw⟩ := DataW.trod_int ht h
  exact ⟨n, rfl, fun _ _ => hw⟩
theorem readsBool {t : TypeId} (ht : Try.prog.underlying t = some .bool) : Reads t Kd.bool gTrue := by
  intro H enc w base spare held fuel cs x h
  obtain ⟨n, rfl, rfl⟩ := DataW.trod_bool ht h
  exact ⟨n, rfl, fun _ _ => trivial⟩
theorem one_le {H : Type} (d : DataW H) : 1 ≤ Rows.uptoBulk d := by
  cases d with
  | lit l => cases l <;> simp [Rows.uptoBulk]
  | nil => simp [Rows.uptoBulk]
  | ptr d => simp [Rows.uptoBulk]
  | slice elems spare => simp [Rows.uptoBulk]
  | agg parts => simp [Rows.uptoBulk]
  | iface t d => simp [Rows.uptoBulk]
  | map entries => simp [Rows.uptoBulk]
  | held h => simp [Rows.uptoBulk]
theorem part_le {H : Type} {d : DataW H} {l : List (DataW H)} (h : d ∈ l) : Rows.uptoBulk d ≤ Rows.uptoBulkAll l := by
  induction l with
  | nil => cases h
  | cons x r ih =>
    simp only [Rows.uptoBulkAll]
    cases List.mem_cons.1 h with
    | inl e => subst e; omega
    | inr e => have := ih e; omega
theorem length_le {H : Type} (l : List (DataW H)) : l.length ≤ Rows.uptoBulkAll l := by
  induction l with
  | nil => simp [Rows.uptoBulkAll]
  | cons x r ih => have := one_le x; simp only [Rows.uptoBulkAll, List.length_cons]; omega
theorem readsSlice {t e : TypeId} {α : Type} [Inhabited α] {d : Kd α} {G : Nat → α → Prop} (ht : Try.prog.underlying t = some (.slice e)) (hc : Try.prog.cellsOf e = d.sz) (R : Reads e d G) : Reads t (Kd.slice e d) (gList G) := by
  intro H enc w base spare held fuel cs x h
  rcases open_slice ht h with ⟨rfl, rfl⟩ | ⟨a, len, cap, m, n, D, Pl, rfl, hb, hl, hm, hmm, rfl, hx⟩
  · exact ⟨[], ⟨none, 0, rfl, Nat.le_refl _, Kd.C_nil d w⟩, fun N _ => ⟨Nat.zero_le _, Nat.zero_le _, fun x hx => by cases hx⟩⟩
  · have hlm : len ≤ m := by rw [hmm]; split <;> omega
    obtain ⟨f, hf⟩ := choose_lt (α := α) (n := m) (p := fun i y => ∃ c, c.length = d.sz ∧ d.K w y c ∧ (∀ j u, c[j]? = some u → w.cell? (a.add (i * d.sz + j)) = some u) ∧ ∀ N, Rows.uptoBulk (D i) ≤ N → G N y) (fun i hi => by
      obtain ⟨c, h1, h2⟩ := hx i hi
      obtain ⟨y, hK, hG⟩ := R enc w base spare held n c _ h2
      obtain ⟨_, hlen, hcell⟩ := World.cells?_some h1
      rw [hc] at hlen hcell
      refine ⟨y, c, hlen, hK, fun j u hu => ?_, hG⟩
      have hj : j < d.sz := by rw [← hlen]; exact (List.getElem?_eq_some_iff.1 hu).1
      have := hcell j hj
      rw [Deep.add_add] at this
      rw [this, hu])
    have hL : ((List.range len).map f).length = len := by simp
    refine ⟨(List.range len).map f, ⟨some a, cap, by rw [hL], by rw [hL]; exact hl, ?_⟩, fun N hN => ?_⟩
    · refine ⟨rfl, by rw [hL]; exact Nat.le_trans hl (Nat.le_trans hm (by decide)), fun _ => ⟨a, rfl, fun j p hj => ?_⟩⟩
      have hjl : j < len := by
        have := (List.getElem?_eq_some_iff.1 hj).1
        rwa [hL] at this
      have hp : f j = p := by
        rw [List.getElem?_map, List.getElem?_range hjl] at hj
        exact Option.some.inj hj
      obtain ⟨c, h1, h2, h3, _⟩ := hf j (by omega)
      rw [hp] at h2
      exact ⟨c, h1, h2, h3⟩
    · have hbulk : Rows.uptoBulkAll ((List.range len).map D) ≤ N := by
        simp only [Rows.uptoBulk] at hN
        omega
      refine ⟨by rw [hL]; omega, by rw [hL]; have := length_le ((List.range len).map D); simp at this; omega, fun y hy => ?_⟩
      obtain ⟨i, hi, rfl⟩ := List.mem_map.1 hy
      have hi' := List.mem_range.1 hi
      obtain ⟨c, _, _, _, hG⟩ := hf i (by omega)
      exact hG N (Nat.le_trans (part_le (List.mem_map.2 ⟨i, hi, rfl⟩)) hbulk)
instance : Inhabited S37 := ⟨z37⟩
def g37 (N : Nat) (x : S37) : Prop := gInt .i64 N x.f0 ∧ gInt .i64 N x.f1 ∧ gInt .i64 N x.f2 ∧ gInt .i64 N x.f3
set_option maxRecDepth 100000 in
theorem reads37 : Reads 37 k37 g37 := by
  intro H enc w base spare held fuel cs x h
  obtain ⟨xs, n, _, hx, hl, hlen, hf⟩ := DataW.trod_struct Try.underlying37 h
  have hl2 : cs.length = 4 := hl.trans (by kernel_rfl)
  have hlen2 : xs.length = 4 := hlen
  match xs, hlen2, cs, hl2 with
  | [y0, y1, y2, y3], _, [v0, v1, v2, v3], _ =>
    have c0 : Try.prog.cellsOf 3 = 1 := by kernel_rfl
    have e0 : DataW.trod enc Try.prog w base spare held n 3 (List.take (Try.prog.cellsOf 3) (List.drop 0 [v0, v1, v2, v3])) = some y0 := hf 0 _ rfl
    rw [c0] at e0
    obtain ⟨a0, K0, G0⟩ := (readsInt Try.underlying3) enc w base spare held n [v0] y0 e0
    have c1 : Try.prog.cellsOf 3 = 1 := by kernel_rfl
    have e1 : DataW.trod enc Try.prog w base spare held n 3 (List.take (Try.prog.cellsOf 3) (List.drop 1 [v0, v1, v2, v3])) = some y1 := hf 1 _ rfl
    rw [c1] at e1
    obtain ⟨a1, K1, G1⟩ := (readsInt Try.underlying3) enc w base spare held n [v1] y1 e1
    have c2 : Try.prog.cellsOf 3 = 1 := by kernel_rfl
    have e2 : DataW.trod enc Try.prog w base spare held n 3 (List.take (Try.prog.cellsOf 3) (List.drop 2 [v0, v1, v2, v3])) = some y2 := hf 2 _ rfl
    rw [c2] at e2
    obtain ⟨a2, K2, G2⟩ := (readsInt Try.underlying3) enc w base spare held n [v2] y2 e2
    have c3 : Try.prog.cellsOf 3 = 1 := by kernel_rfl
    have e3 : DataW.trod enc Try.prog w base spare held n 3 (List.take (Try.prog.cellsOf 3) (List.drop 3 [v0, v1, v2, v3])) = some y3 := hf 3 _ rfl
    rw [c3] at e3
    obtain ⟨a3, K3, G3⟩ := (readsInt Try.underlying3) enc w base spare held n [v3] y3 e3
    refine ⟨⟨a0, a1, a2, a3⟩, ⟨_, _, rfl, K0, ⟨_, _, rfl, K1, ⟨_, _, rfl, K2, K3⟩⟩⟩, fun N hN => ?_⟩
    rw [hx] at hN
    simp only [List.map_cons, List.map_nil, Rows.uptoBulk, Rows.uptoBulkAll] at hN
    exact ⟨G0 N (by omega), G1 N (by omega), G2 N (by omega), G3 N (by omega)⟩
structure S24 where
  f0 : Int
  f1 : Bool
  f2 : List S37
def z24 : S24 := ⟨(0 : Int), false, []⟩
def k24 : Kd S24 := Kd.iso (Kd.pair (Kd.int .i64) (Kd.pair Kd.bool (Kd.slice 37 k37))) (fun x : S24 => (x.f0, x.f1, x.f2))
instance : Inhabited S24 := ⟨z24⟩
def g24 (N : Nat) (x : S24) : Prop := gInt .i64 N x.f0 ∧ gTrue N x.f1 ∧ gList (g37) N x.f2
set_option maxRecDepth 100000 in
theorem reads24 : Reads 24 k24 g24 := by
  intro H enc w base spare held fuel cs x h
  obtain ⟨xs, n, _, hx, hl, hlen, hf⟩ := DataW.trod_struct Try.underlying24 h
  have hl2 : cs.length = 3 := hl.trans (by kernel_rfl)
  have hlen2 : xs.length = 3 := hlen
  match xs, hlen2, cs, hl2 with
  | [y0, y1, y2], _, [v0, v1, v2], _ =>
    have c0 : Try.prog.cellsOf 3 = 1 := by kernel_rfl
    have e0 : DataW.trod enc Try.prog w base spare held n 3 (List.take (Try.prog.cellsOf 3) (List.drop 0 [v0, v1, v2])) = some y0 := hf 0 _ rfl
    rw [c0] at e0
    obtain ⟨a0, K0, G0⟩ := (readsInt Try.underlying3) enc w base spare held n [v0] y0 e0
    have c1 : Try.prog.cellsOf 4 = 1 := by kernel_rfl
    have e1 : DataW.trod enc Try.prog w base spare held n 4 (List.take (Try.prog.cellsOf 4) (List.drop 1 [v0, v1, v2])) = some y1 := hf 1 _ rfl
    rw [c1] at e1
    obtain ⟨a1, K1, G1⟩ := (readsBool Try.underlying4) enc w base spare held n [v1] y1 e1
    have c2 : Try.prog.cellsOf 22 = 1 := by kernel_rfl
    have e2 : DataW.trod enc Try.prog w base spare held n 22 (List.take (Try.prog.cellsOf 22) (List.drop 2 [v0, v1, v2])) = some y2 := hf 2 _ rfl
    rw [c2] at e2
    obtain ⟨a2, K2, G2⟩ := (readsSlice Try.underlying22 (by kernel_rfl) reads37) enc w base spare held n [v2] y2 e2
    refine ⟨⟨a0, a1, a2⟩, ⟨_, _, rfl, K0, ⟨_, _, rfl, K1, K2⟩⟩, fun N hN => ?_⟩
    rw [hx] at hN
    simp only [List.map_cons, List.map_nil, Rows.uptoBulk, Rows.uptoBulkAll] at hN
    exact ⟨G0 N (by omega), G1 N (by omega), G2 N (by omega)⟩
end Go.Proofs.Ytgjgckpdilbbjaa.R
end
