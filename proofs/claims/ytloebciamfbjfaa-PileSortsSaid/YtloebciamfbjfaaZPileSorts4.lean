/- A part of the proof: words, contracts, plain lemmas. Conditions: none. -/
import Derived.Test.YtloebciamfbjfaaZPileSorts3
section
namespace Go.Proofs.Ytloebciamfbjfaa.Q
open Go.RowKit Go.Proofs.YtloebciamfbjfaaW.PrintWords Go.Proofs.YtloebciamfbjfaaW.PrintLast Go.Proofs.YtloebciamfbjfaaW.PrintMore
set_option linter.unusedVariables false
set_option linter.unusedSimpArgs false
def ebbtideref02_before.f (a0_0 : Int) (a0_1 : Int) (a1_0 : Int) (a1_1 : Int) : Option (Bool) := if a0_0 < a1_0 then (some true) else (if a0_0 = a1_0 then (some (decide (a0_1 < a1_1))) else (some false))
set_option maxHeartbeats 8000000 in
set_option maxRecDepth 100000 in
theorem ebbtideref02_before.calls (a0_0 : Int) (a0_1 : Int) (a1_0 : Int) (a1_1 : Int) (r : Bool) (w : World) (h : ebbtideref02_before.f a0_0 a0_1 a1_0 a1_1 = some r) :
  Calls Try.prog 31 #[.agg #[.int .i64 a0_0, .int .i64 a0_1], .agg #[.int .i64 a1_0, .int .i64 a1_1]] w fun e w' => e = .returned (.bool r) ∧ Below w.heap.size w w' := by
 have hu34 := Try.underlying34; have HB := Aside0.mk (Below.refl w.heap.size w); have H : (if a0_0 < a1_0 then (some true) else (if a0_0 = a1_0 then (some (decide (a0_1 < a1_1))) else (some false))) = some r := h; clear h
 by_cases c3 : a0_0 < a1_0
 ·rw [if_pos c3] at H
  have c3b0 : decide (a0_0 < a1_0) = true := decide_eq_true c3; clear c3; obtain rfl := Option.some.inj H
  go_enter Try.func31, Try.ntmps31
  go_wp2_with (first | ((with_reducible refine gate_dst (N := 2) rfl ?_); refine box_event ?hg (N := 2) ?hd (cs := #[.int .i64 a0_0, .int .i64 a0_1]) (t := 34) ?hr ?_; (case hd => rfl); (case hg => rfl); (case hr => first | (go_simp; done) | (go_simp; rfl)); intro gb112 hg w4 hbox hb; have n0_ := Aside0.mk (below_step (by repeat (first | (with_reducible first | exact HB.out | apply below_alloc | apply pw_below_drewN | apply below_drew1) | exact HB.out)) hb); have n1_ := Aside0.mk (hbox); have n2_ := Aside0.mk ((by rw [hg]; exact (below_size (by repeat (first | (with_reducible first | exact HB.out | apply below_alloc | apply pw_below_drewN | apply below_drew1) | exact HB.out))) : w.heap.size ≤ gb112)); have n3_ := Aside0.mk ((by rw [hg]; exact (below_size (by repeat (first | (with_reducible first | exact HB.out | apply below_alloc | apply pw_below_drewN | apply below_drew1) | exact HB.out))) : w.heap.size ≤ gb112)); clear HB; have HB := n0_; have BK112 := n1_; have GW112 := n2_; have GE112 := n3_; clear n0_ n1_ n2_ n3_; clear hb hbox hg) | ((with_reducible refine gate_dst (N := 3) rfl ?_); refine box_event ?hg (N := 3) ?hd (cs := #[.int .i64 a1_0, .int .i64 a1_1]) (t := 34) ?hr ?_; (case hd => rfl); (case hg => rfl); (case hr => first | (go_simp; done) | (go_simp; rfl)); intro gb113 hg w5 hbox hb; have n0_ := Aside0.mk (blk_below (g := gb112) (o := .cells #[.int .i64 a0_0, .int .i64 a0_1] 34 (0, 0)) (by (with_reducible repeat (first | refine blk_drewN ?_ _ | refine blk_drew ?_ | refine blk_alloc ?_ _)); exact BK112.out) hb); have n1_ := Aside0.mk (below_step (by repeat (first | (with_reducible first | exact HB.out | apply below_alloc | apply pw_below_drewN | apply below_drew1 | refine below_set ?_ GE112.out) | exact HB.out)) hb); have n2_ := Aside0.mk (hbox); have n3_ := Aside0.mk ((by rw [hg]; exact (below_size (by repeat (first | (with_reducible first | exact HB.out | apply below_alloc | apply pw_below_drewN | apply below_drew1 | refine below_set ?_ GE112.out) | exact HB.out))) : w.heap.size ≤ gb113)); have n4_ := Aside0.mk ((by rw [hg]; exact (below_size (by repeat (first | (with_reducible first | exact HB.out | apply below_alloc | apply pw_below_drewN | apply below_drew1 | refine below_set ?_ GE112.out) | exact HB.out))) : w.heap.size ≤ gb113)); have n5_ := Aside0.mk ((by rw [hg]; exact Nat.ne_of_lt (blk_lt (g := gb112) (o := .cells #[.int .i64 a0_0, .int .i64 a0_1] 34 (0, 0)) (by (with_reducible repeat (first | refine blk_drewN ?_ _ | refine blk_drew ?_ | refine blk_alloc ?_ _)); exact BK112.out)) : gb112 ≠ gb113)); have n6_ := Aside0.mk ((by rw [hg]; exact Nat.ne_of_gt (blk_lt (g := gb112) (o := .cells #[.int .i64 a0_0, .int .i64 a0_1] 34 (0, 0)) (by (with_reducible repeat (first | refine blk_drewN ?_ _ | refine blk_drew ?_ | refine blk_alloc ?_ _)); exact BK112.out)) : gb113 ≠ gb112)); clear BK112; clear HB; have BK112 := n0_; have HB := n1_; have BK113 := n2_; have GW113 := n3_; have GE113 := n4_; have NB112_113 := n5_; have NB113_112 := n6_; clear n0_ n1_ n2_ n3_ n4_ n5_ n6_; clear hb hbox hg; have hnb6 := NB112_113.out; have hnc6 := NB113_112.out; have hcz7_0 : w5.cell? ⟨gb112, 0, none⟩ = some (.int .i64 a0_0) := (blk_cell BK112.out 0).trans rfl; have hcz7_1 : w5.cell? ⟨gb112, 1, none⟩ = some (.int .i64 a0_1) := (blk_cell BK112.out 1).trans rfl; have hfz7_0 := blk_frozen BK112.out 0; have hfz7_1 := blk_frozen BK112.out 1; have hcz8_0 : w5.cell? ⟨gb113, 0, none⟩ = some (.int .i64 a1_0) := (blk_cell BK113.out 0).trans rfl; have hcz8_1 : w5.cell? ⟨gb113, 1, none⟩ = some (.int .i64 a1_1) := (blk_cell BK113.out 1).trans rfl; have hfz8_0 := blk_frozen BK113.out 0; have hfz8_1 := blk_frozen BK113.out 1))
  go_ret
  exact ⟨by first | rfl | (simp [errW_none, errW_some] <;> rfl) | (simp [*, errW_none, errW_some] <;> rfl), by repeat (first | (with_reducible first | exact HB.out | apply below_alloc | apply pw_below_drewN | apply below_drew1 | refine below_set ?_ GE112.out | refine below_set ?_ GE113.out) | exact HB.out)⟩
 ·rw [if_neg c3] at H
  have c3b0 : decide (a0_0 < a1_0) = false := decide_eq_false c3; clear c3
  by_cases c9 : a0_0 = a1_0
  ·rw [if_pos c9] at H
   have c9b0 : (a0_0 == a1_0) = true := beq_iff_eq.mpr c9; have c9b1 : (a0_0 != a1_0) = false := bne_eq_false_iff_eq.mpr c9; clear c9; obtain rfl := Option.some.inj H
   go_enter Try.func31, Try.ntmps31
   go_wp2_with (first | ((with_reducible refine gate_dst (N := 2) rfl ?_); refine box_event ?hg (N := 2) ?hd (cs := #[.int .i64 a0_0, .int .i64 a0_1]) (t := 34) ?hr ?_; (case hd => rfl); (case hg => rfl); (case hr => first | (go_simp; done) | (go_simp; rfl)); intro gb112 hg w10 hbox hb; have n0_ := Aside0.mk (below_step (by repeat (first | (with_reducible first | exact HB.out | apply below_alloc | apply pw_below_drewN | apply below_drew1) | exact HB.out)) hb); have n1_ := Aside0.mk (hbox); have n2_ := Aside0.mk ((by rw [hg]; exact (below_size (by repeat (first | (with_reducible first | exact HB.out | apply below_alloc | apply pw_below_drewN | apply below_drew1) | exact HB.out))) : w.heap.size ≤ gb112)); have n3_ := Aside0.mk ((by rw [hg]; exact (below_size (by repeat (first | (with_reducible first | exact HB.out | apply below_alloc | apply pw_below_drewN | apply below_drew1) | exact HB.out))) : w.heap.size ≤ gb112)); clear HB; have HB := n0_; have BK112 := n1_; have GW112 := n2_; have GE112 := n3_; clear n0_ n1_ n2_ n3_; clear hb hbox hg) | ((with_reducible refine gate_dst (N := 3) rfl ?_); refine box_event ?hg (N := 3) ?hd (cs := #[.int .i64 a1_0, .int .i64 a1_1]) (t := 34) ?hr ?_; (case hd => rfl); (case hg => rfl); (case hr => first | (go_simp; done) | (go_simp; rfl)); intro gb113 hg w11 hbox hb; have n0_ := Aside0.mk (blk_below (g := gb112) (o := .cells #[.int .i64 a0_0, .int .i64 a0_1] 34 (0, 0)) (by (with_reducible repeat (first | refine blk_drewN ?_ _ | refine blk_drew ?_ | refine blk_alloc ?_ _)); exact BK112.out) hb); have n1_ := Aside0.mk (below_step (by repeat (first | (with_reducible first | exact HB.out | apply below_alloc | apply pw_below_drewN | apply below_drew1 | refine below_set ?_ GE112.out) | exact HB.out)) hb); have n2_ := Aside0.mk (hbox); have n3_ := Aside0.mk ((by rw [hg]; exact (below_size (by repeat (first | (with_reducible first | exact HB.out | apply below_alloc | apply pw_below_drewN | apply below_drew1 | refine below_set ?_ GE112.out) | exact HB.out))) : w.heap.size ≤ gb113)); have n4_ := Aside0.mk ((by rw [hg]; exact (below_size (by repeat (first | (with_reducible first | exact HB.out | apply below_alloc | apply pw_below_drewN | apply below_drew1 | refine below_set ?_ GE112.out) | exact HB.out))) : w.heap.size ≤ gb113)); have n5_ := Aside0.mk ((by rw [hg]; exact Nat.ne_of_lt (blk_lt (g := gb112) (o := .cells #[.int .i64 a0_0, .int .i64 a0_1] 34 (0, 0)) (by (with_reducible repeat (first | refine blk_drewN ?_ _ | refine blk_drew ?_ | refine blk_alloc ?_ _)); exact BK112.out)) : gb112 ≠ gb113)); have n6_ := Aside0.mk ((by rw [hg]; exact Nat.ne_of_gt (blk_lt (g := gb112) (o := .cells #[.int .i64 a0_0, .int .i64 a0_1] 34 (0, 0)) (by (with_reducible repeat (first | refine blk_drewN ?_ _ | refine blk_drew ?_ | refine blk_alloc ?_ _)); exact BK112.out)) : gb113 ≠ gb112)); clear BK112; clear HB; have BK112 := n0_; have HB := n1_; have BK113 := n2_; have GW113 := n3_; have GE113 := n4_; have NB112_113 := n5_; have NB113_112 := n6_; clear n0_ n1_ n2_ n3_ n4_ n5_ n6_; clear hb hbox hg; have hnb12 := NB112_113.out; have hnc12 := NB113_112.out; have hcz13_0 : w11.cell? ⟨gb112, 0, none⟩ = some (.int .i64 a0_0) := (blk_cell BK112.out 0).trans rfl; have hcz13_1 : w11.cell? ⟨gb112, 1, none⟩ = some (.int .i64 a0_1) := (blk_cell BK112.out 1).trans rfl; have hfz13_0 := blk_frozen BK112.out 0; have hfz13_1 := blk_frozen BK112.out 1; have hcz14_0 : w11.cell? ⟨gb113, 0, none⟩ = some (.int .i64 a1_0) := (blk_cell BK113.out 0).trans rfl; have hcz14_1 : w11.cell? ⟨gb113, 1, none⟩ = some (.int .i64 a1_1) := (blk_cell BK113.out 1).trans rfl; have hfz14_0 := blk_frozen BK113.out 0; have hfz14_1 := blk_frozen BK113.out 1))
   go_ret
   exact ⟨by first | rfl | (simp [errW_none, errW_some] <;> rfl) | (simp [*, errW_none, errW_some] <;> rfl), by repeat (first | (with_reducible first | exact HB.out | apply below_alloc | apply pw_below_drewN | apply below_drew1 | refine below_set ?_ GE112.out | refine below_set ?_ GE113.out) | exact HB.out)⟩
  ·rw [if_neg c9] at H
   have c9b0 : (a0_0 == a1_0) = false := beq_eq_false_iff_ne.mpr c9; have c9b1 : (a0_0 != a1_0) = true := bne_iff_ne.mpr c9; obtain rfl := Option.some.inj H
   go_enter Try.func31, Try.ntmps31
   go_wp2_with (first | ((with_reducible refine gate_dst (N := 2) rfl ?_); refine box_event ?hg (N := 2) ?hd (cs := #[.int .i64 a0_0, .int .i64 a0_1]) (t := 34) ?hr ?_; (case hd => rfl); (case hg => rfl); (case hr => first | (go_simp; done) | (go_simp; rfl)); intro gb112 hg w15 hbox hb; have n0_ := Aside0.mk (below_step (by repeat (first | (with_reducible first | exact HB.out | apply below_alloc | apply pw_below_drewN | apply below_drew1) | exact HB.out)) hb); have n1_ := Aside0.mk (hbox); have n2_ := Aside0.mk ((by rw [hg]; exact (below_size (by repeat (first | (with_reducible first | exact HB.out | apply below_alloc | apply pw_below_drewN | apply below_drew1) | exact HB.out))) : w.heap.size ≤ gb112)); have n3_ := Aside0.mk ((by rw [hg]; exact (below_size (by repeat (first | (with_reducible first | exact HB.out | apply below_alloc | apply pw_below_drewN | apply below_drew1) | exact HB.out))) : w.heap.size ≤ gb112)); clear HB; have HB := n0_; have BK112 := n1_; have GW112 := n2_; have GE112 := n3_; clear n0_ n1_ n2_ n3_; clear hb hbox hg) | ((with_reducible refine gate_dst (N := 3) rfl ?_); refine box_event ?hg (N := 3) ?hd (cs := #[.int .i64 a1_0, .int .i64 a1_1]) (t := 34) ?hr ?_; (case hd => rfl); (case hg => rfl); (case hr => first | (go_simp; done) | (go_simp; rfl)); intro gb113 hg w16 hbox hb; have n0_ := Aside0.mk (blk_below (g := gb112) (o := .cells #[.int .i64 a0_0, .int .i64 a0_1] 34 (0, 0)) (by (with_reducible repeat (first | refine blk_drewN ?_ _ | refine blk_drew ?_ | refine blk_alloc ?_ _)); exact BK112.out) hb); have n1_ := Aside0.mk (below_step (by repeat (first | (with_reducible first | exact HB.out | apply below_alloc | apply pw_below_drewN | apply below_drew1 | refine below_set ?_ GE112.out) | exact HB.out)) hb); have n2_ := Aside0.mk (hbox); have n3_ := Aside0.mk ((by rw [hg]; exact (below_size (by repeat (first | (with_reducible first | exact HB.out | apply below_alloc | apply pw_below_drewN | apply below_drew1 | refine below_set ?_ GE112.out) | exact HB.out))) : w.heap.size ≤ gb113)); have n4_ := Aside0.mk ((by rw [hg]; exact (below_size (by repeat (first | (with_reducible first | exact HB.out | apply below_alloc | apply pw_below_drewN | apply below_drew1 | refine below_set ?_ GE112.out) | exact HB.out))) : w.heap.size ≤ gb113)); have n5_ := Aside0.mk ((by rw [hg]; exact Nat.ne_of_lt (blk_lt (g := gb112) (o := .cells #[.int .i64 a0_0, .int .i64 a0_1] 34 (0, 0)) (by (with_reducible repeat (first | refine blk_drewN ?_ _ | refine blk_drew ?_ | refine blk_alloc ?_ _)); exact BK112.out)) : gb112 ≠ gb113)); have n6_ := Aside0.mk ((by rw [hg]; exact Nat.ne_of_gt (blk_lt (g := gb112) (o := .cells #[.int .i64 a0_0, .int .i64 a0_1] 34 (0, 0)) (by (with_reducible repeat (first | refine blk_drewN ?_ _ | refine blk_drew ?_ | refine blk_alloc ?_ _)); exact BK112.out)) : gb113 ≠ gb112)); clear BK112; clear HB; have BK112 := n0_; have HB := n1_; have BK113 := n2_; have GW113 := n3_; have GE113 := n4_; have NB112_113 := n5_; have NB113_112 := n6_; clear n0_ n1_ n2_ n3_ n4_ n5_ n6_; clear hb hbox hg; have hnb17 := NB112_113.out; have hnc17 := NB113_112.out; have hcz18_0 : w16.cell? ⟨gb112, 0, none⟩ = some (.int .i64 a0_0) := (blk_cell BK112.out 0).trans rfl; have hcz18_1 : w16.cell? ⟨gb112, 1, none⟩ = some (.int .i64 a0_1) := (blk_cell BK112.out 1).trans rfl; have hfz18_0 := blk_frozen BK112.out 0; have hfz18_1 := blk_frozen BK112.out 1; have hcz19_0 : w16.cell? ⟨gb113, 0, none⟩ = some (.int .i64 a1_0) := (blk_cell BK113.out 0).trans rfl; have hcz19_1 : w16.cell? ⟨gb113, 1, none⟩ = some (.int .i64 a1_1) := (blk_cell BK113.out 1).trans rfl; have hfz19_0 := blk_frozen BK113.out 0; have hfz19_1 := blk_frozen BK113.out 1))
   go_ret
   exact ⟨by first | rfl | (simp [errW_none, errW_some] <;> rfl) | (simp [*, errW_none, errW_some] <;> rfl), by repeat (first | (with_reducible first | exact HB.out | apply below_alloc | apply pw_below_drewN | apply below_drew1 | refine below_set ?_ GE112.out | refine below_set ?_ GE113.out) | exact HB.out)⟩
end Go.Proofs.Ytloebciamfbjfaa.Q
end
section
namespace Go.Proofs.Ytloebciamfbjfaa.P
def row {β : Type} (V : Nat) (g : Nat → β) : List β := (List.range V).map g
section
variable {β : Type}
end
def plt (a b : Int × Int) : Prop := a.1 < b.1 ∨ a.1 = b.1 ∧ a.2 < b.2
instance (a b : Int × Int) : Decidable (plt a b) := by unfold plt; exact inferInstance
theorem plt_irrefl (a : Int × Int) : ¬ plt a a := by unfold plt; omega
theorem plt_asym {a b : Int × Int} (h : plt a b) : ¬ plt b a := by unfold plt at *; omega
theorem plt_trans {a b c : Int × Int} (h : plt a b) (k : plt b c) : plt a c := by unfold plt at *; omega
theorem plt_ntrans {a b c : Int × Int} (h : ¬ plt a b) (k : ¬ plt b c) : ¬ plt a c := by unfold plt at *; omega
theorem plt_total {a b : Int × Int} (h : ¬ plt a b) (k : ¬ plt b a) : a = b := by unfold plt at *; exact Prod.ext (by omega) (by omega)
section
variable {n : Nat} {f : Nat → Int × Int}
def sw (f : Nat → Int × Int) (i k : Nat) : Nat → Int × Int := fun j => if j = k then f i else if j = i then f k else f j
def Heaped (n : Nat) (f : Nat → Int × Int) : Prop := ∀ j, 0 < j → j < n → ¬ plt (f j) (f ((j - 1) / 2))
def HeapUp (n : Nat) (f : Nat → Int × Int) (i : Nat) : Prop := (∀ j, 0 < j → j < n → j ≠ i → ¬ plt (f j) (f ((j - 1) / 2))) ∧ (0 < i → ∀ j, 0 < j → j < n → (j - 1) / 2 = i → ¬ plt (f j) (f ((i - 1) / 2)))
def HeapDown (n : Nat) (f : Nat → Int × Int) (i : Nat) : Prop := (∀ j, 0 < j → j < n → (j - 1) / 2 ≠ i → ¬ plt (f j) (f ((j - 1) / 2))) ∧ (0 < i → ∀ j, 0 < j → j < n → (j - 1) / 2 = i → ¬ plt (f j) (f ((i - 1) / 2)))
theorem heapUp_step {i : Nat} (h : HeapUp n f i) (hi : 0 < i) (hn : i < n) (hl : plt (f i) (f ((i - 1) / 2))) : HeapUp n (sw f i ((i - 1) / 2)) ((i - 1) / 2) := by
  obtain ⟨h1, h2⟩ := h
  have hp : (i - 1) / 2 < i := by omega
  generalize hpe : (i - 1) / 2 = p at *
  refine ⟨fun j hj hjn hjp => ?_, fun hp0 j hj hjn hjp => ?_⟩
  · unfold sw
    rw [if_neg hjp]
    by_cases e : j = i
    · subst e
      rw [if_pos rfl, hpe, if_pos rfl]
      exact plt_asym hl
    · rw [if_neg e]
      by_cases q1 : (j - 1) / 2 = p
      · rw [if_pos q1]
        intro hc
        have := h1 j hj hjn e
        rw [q1] at this
        exact this (plt_trans hc hl)
      · rw [if_neg q1]
        by_cases q2 : (j - 1) / 2 = i
        · rw [if_pos q2]
          exact h2 hi j hj hjn q2
        · rw [if_neg q2]
          exact h1 j hj hjn e
  · have hpar := h1 p hp0 (by omega) (by omega)
    unfold sw
    rw [if_neg (show j ≠ p by omega), if_neg (show (p - 1) / 2 ≠ p by omega), if_neg (show (p - 1) / 2 ≠ i by omega)]
    by_cases e : j = i
    · rw [if_pos e]
      exact hpar
    · rw [if_neg e]
      have := h1 j hj hjn e
      rw [hjp] at this
      exact plt_ntrans this hpar
theorem heapUp_done {i : Nat} (h : HeapUp n f i) (hl : i = 0 ∨ ¬ plt (f i) (f ((i - 1) / 2))) : Heaped n f := by
  intro j hj hjn
  by_cases e : j = i
  · subst e
    rcases hl with hl | hl
    · omega
    · exact hl
  · exact h.1 j hj hjn e
theorem heapUp_push (h : Heaped n f) (x : Int × Int) : HeapUp (n + 1) (fun j => if j = n then x else f j) n := by
  refine ⟨fun j hj hjn hne => ?_, fun hn j hj hjn hp => by omega⟩
  simp only
  rw [if_neg hne, if_neg (show (j - 1) / 2 ≠ n by omega)]
  exact h j hj (by omega)
def lowest (n : Nat) (f : Nat → Int × Int) (i : Nat) : Nat :=
  let a := if 2 * i + 1 < n ∧ plt (f (2 * i + 1)) (f i) then 2 * i + 1 else i
  if 2 * i + 2 < n ∧ plt (f (2 * i + 2)) (f a) then 2 * i + 2 else a
theorem lowest_spec (n : Nat) (f : Nat → Int × Int) (i : Nat) : (lowest n f i = i ∨ (lowest n f i = 2 * i + 1 ∨ lowest n f i = 2 * i + 2) ∧ lowest n f i < n ∧ plt (f (lowest n f i)) (f i)) ∧
    (2 * i + 1 < n → ¬ plt (f (2 * i + 1)) (f (lowest n f i))) ∧ (2 * i + 2 < n → ¬ plt (f (2 * i + 2)) (f (lowest n f i))) := by
  by_cases c1 : 2 * i + 1 < n ∧ plt (f (2 * i + 1)) (f i)
  · by_cases c2 : 2 * i + 2 < n ∧ plt (f (2 * i + 2)) (f (2 * i + 1))
    · have e : lowest n f i = 2 * i + 2 := by unfold lowest; rw [if_pos c1]; simp only; rw [if_pos c2]
      rw [e]
      exact ⟨.inr ⟨.inr rfl, c2.1, plt_trans c2.2 c1.2⟩, fun _ => plt_asym c2.2, fun _ => plt_irrefl _⟩
    · have e : lowest n f i = 2 * i + 1 := by unfold lowest; rw [if_pos c1]; simp only; rw [if_neg c2]
      rw [e]
      exact ⟨.inr ⟨.inl rfl, c1.1, c1.2⟩, fun _ => plt_irrefl _, fun h h' => c2 ⟨h, h'⟩⟩
  · by_cases c2 : 2 * i + 2 < n ∧ plt (f (2 * i + 2)) (f i)
    · have e : lowest n f i = 2 * i + 2 := by unfold lowest; rw [if_neg c1]; simp only; rw [if_pos c2]
      rw [e]
      exact ⟨.inr ⟨.inr rfl, c2.1, c2.2⟩, fun h h' => c1 ⟨h, plt_trans h' c2.2⟩, fun _ => plt_irrefl _⟩
    · have e : lowest n f i = i := by unfold lowest; rw [if_neg c1]; simp only; rw [if_neg c2]
      rw [e]
      exact ⟨.inl rfl, fun h h' => c1 ⟨h, h'⟩, fun h h' => c2 ⟨h, h'⟩⟩
theorem heapDown_step {i : Nat} (h : HeapDown n f i) (hk : lowest n f i ≠ i) : HeapDown n (sw f i (lowest n f i)) (lowest n f i) := by
  obtain ⟨h0, hs1, hs2⟩ := lowest_spec n f i
  obtain ⟨hkk, hkn, hkl⟩ := h0.resolve_left hk
  obtain ⟨h1, h2⟩ := h
  generalize lowest n f i = k at *
  have hpk : (k - 1) / 2 = i := by omega
  refine ⟨fun j hj hjn hjp => ?_, fun hk0 j hj hjn hjp => ?_⟩
  · unfold sw
    by_cases e : j = k
    · subst e
      rw [if_pos rfl, hpk, if_neg (show i ≠ j by omega), if_pos rfl]
      exact plt_asym hkl
    · rw [if_neg e, if_neg hjp]
      by_cases e2 : j = i
      · rw [if_pos e2, if_neg (show (j - 1) / 2 ≠ i by omega)]
        subst e2
        exact h2 (by omega) k (by omega) hkn hpk
      · rw [if_neg e2]
        by_cases q : (j - 1) / 2 = i
        · rw [if_pos q]
          have hj2 : j = 2 * i + 1 ∨ j = 2 * i + 2 := by omega
          rcases hj2 with rfl | rfl
          · exact hs1 hjn
          · exact hs2 hjn
        · rw [if_neg q]
          exact h1 j hj hjn q
  · unfold sw
    rw [hpk, if_neg (show j ≠ k by omega), if_neg (show j ≠ i by omega), if_neg (show i ≠ k by omega), if_pos rfl]
    have := h1 j hj hjn (by omega)
    rw [hjp] at this
    exact this
theorem heapDown_done {i : Nat} (h : HeapDown n f i) (hk : lowest n f i = i) : Heaped n f := by
  obtain ⟨_, hs1, hs2⟩ := lowest_spec n f i
  rw [hk] at hs1 hs2
  intro j hj hjn
  by_cases q : (j - 1) / 2 = i
  · have hj2 : j = 2 * i + 1 ∨ j = 2 * i + 2 := by omega
    rw [q]
    rcases hj2 with rfl | rfl
    · exact hs1 hjn
    · exact hs2 hjn
  · exact h.1 j hj hjn q
theorem lowest_end {i : Nat} (hi : n ≤ i) : lowest n f i = i := by
  unfold lowest
  rw [if_neg (show ¬ (2 * i + 1 < n ∧ _) from fun h => by omega)]
  simp only
  rw [if_neg (show ¬ (2 * i + 2 < n ∧ _) from fun h => by omega)]
theorem heapDown_pop (h : Heaped (n + 1) f) : HeapDown n (fun j => if j = 0 then f n else f j) 0 := by
  refine ⟨fun j hj hjn hne => ?_, fun h0 => by omega⟩
  simp only
  rw [if_neg (show j ≠ 0 by omega), if_neg hne]
  exact h j hj (by omega)
theorem heaped_least (h : Heaped n f) : ∀ j, j < n → ¬ plt (f j) (f 0) := by
  intro j
  induction j using Nat.strongRecOn with
  | _ j ih =>
    intro hj
    rcases Nat.eq_zero_or_pos j with rfl | h0
    · exact plt_irrefl _
    · exact plt_ntrans (h j h0 hj) (ih _ (by omega) (by omega))
end
end Go.Proofs.Ytloebciamfbjfaa.P
end
section
namespace Go.Proofs.Ytloebciamfbjfaa.Q
open Go.RowKit Go.Proofs.Ytloebciamfbjfaa.P Go.Proofs.YtloebciamfbjfaaW.PrintWords Go.Proofs.YtloebciamfbjfaaW.PrintLast Go.Proofs.YtloebciamfbjfaaW.PrintMore
set_option linter.unusedVariables false
set_option linter.unusedSimpArgs false
def pr (x : S34) : Int × Int := (x.f0, x.f1)
def cmpI (a b : Int) : Int := if a < b then -1 else if b < a then 1 else 0
theorem cmp_eq (a b : Int) : cmp_Compare_int.f a b = some (cmpI a b) := by
  unfold cmp_Compare_int.f cmp_isNaN_int.f cmpI
  simp only [bne_self_eq_false, Option.bind_some, Bool.false_eq_true, if_false, gt_iff_lt]
  (repeat' split) <;> rfl
def cfPair (x y : S34) : Int := if x.f0 < y.f0 then -1 else if y.f0 < x.f0 then 1 else if x.f1 < y.f1 then -1 else if y.f1 < x.f1 then 1 else 0
theorem or_2 (a b : Int) : cmp_Or_int.f 8 [a, b] = some (if a = 0 then b else a) := by
  unfold cmp_Or_int.f
  have e01 : wrap64 (0 + 1) = 1 := by unfold wrap64; omega
  have e02 : wrap64 (1 + 1) = 2 := by unfold wrap64; omega
  have h0 : rd [a, b] 0 = a := rfl
  have h1 : rd [a, b] 1 = b := rfl
  simp only [cmp_Or_int.l0, List.length_cons, List.length_nil, e01, e02, h0, h1, show ((0 + 1 + 1 : Nat) : Int) = 2 from rfl]
  by_cases c : a = 0
  · by_cases c2 : b = 0
    · simp [c, c2]
    · simp [c, c2]
  · simp [c]
theorem pile_compare_val (x y : S34) : pile_compare.f 8 x.f0 x.f1 y.f0 y.f1 = some (cfPair x y) := by
  unfold pile_compare.f cfPair
  simp only [cmp_eq, Option.bind_some]
  rw [or_2]
  simp only [Option.bind_some]
  congr 1
  unfold cmpI; (repeat' split) <;> omega
theorem cfPair_neg (x y : S34) : cfPair x y < 0 ↔ plt (pr x) (pr y) := by unfold cfPair plt pr; simp only; (repeat' split) <;> omega
theorem goesT_ {P : Program} {ops : Array Oper} {Q : Exit → Act → World → Prop} {oi : Oper} {N : Option Tmp} {a : Act} {w : World} {K : Act → World → Prop} {f : FuncId} {fn : Func} {t : Tmp} {as_ : Array Operand} {ts : Array TypeId} (hf : P.funcs[f]? = some fn) (hname : (fn.name == "runtime.NumGoroutine") = false) (hb : fn.body.isSome = true) (args : Array Value)
    (hw : Region.wanted oi (yielded ops a.tmps) = true) (hN : oi.dst = N) (hop : oi.op = .call { callee := .value (.tmp t), args := as_, argTypes := ts }) (hv : a.eval (.tmp t) = .func (.func f) #[] #[]) (hargs : as_.map a.eval = args)
    (h : Calls P f args w fun e w' => ∃ v, e = .returned v ∧ K (a.put N v) w') : if Region.wanted oi (yielded ops a.tmps) = true then Oper.wp P oi a w K Q else K (a.put N undef) w := by
  refine call_ f args hw hN ?_ h
  have he := enters_ hf hname hb args w
  unfold execOp
  simp [hop, resolve, Deferred.ofValue, invoke, hv, hargs, he]
theorem Kept.blk {w w' : World} {S : Nat → Prop} {g : Nat} {o : Obj} (hk : Kept w w' S) (h : w.heap[g]? = some o) (hn : ¬ S g) : w'.heap[g]? = some o := (hk.2 g (blk_lt h) hn).trans h
theorem wrapId {n : Int} (h0 : -1000000000000 ≤ n) (h1 : n ≤ 1000000000000) : wrap64 n = n := by unfold wrap64; omega
structure PileC (w : World) (base : Nat) (ok : Nat → Prop) (g : Nat) (most : Int) (v : Value) (l : List S34) : Prop where
  blk : w.heap[g]? = some (.cells #[.int .i64 most, v, .func (.func 29) #[] #[]] 62 (0, 0))
  row : Kd.R k34 34 w base (fun k => ok k ∧ k ≠ g) v l
  ge : base ≤ g
section
variable {w w1 : World} {base : Nat} {ok ok' : Nat → Prop} {g : Nat} {most : Int} {v : Value} {l : List S34}
theorem PileC.below (h : PileC w base ok g most v l) (hb : Below w.heap.size w w1) : PileC w1 base ok g most v l := ⟨blk_below h.blk hb, Kd.R_below h.row hb, h.ge⟩
theorem PileC.drew (h : PileC w base ok g most v l) : PileC w.drew base ok g most v l := h.below (below_drew (Below.refl _ _))
theorem PileC.mono (h : PileC w base ok g most v l) (hk : ∀ k, ok k → ok' k) : PileC w base ok' g most v l := ⟨h.blk, Kd.R_mono h.row (fun k hh => ⟨hk k hh.1, hh.2⟩), h.ge⟩
theorem PileC.elder (h : PileC w base ok g most v l) (a : Nat) (ha : w.heap.size ≤ a) : PileC w base (fun k => ok k ∧ k ≠ a) g most v l := ⟨h.blk, Kd.R_mono (Kd.R_elderB h.row a ha) (fun k hh => ⟨⟨hh.1.1, hh.2⟩, hh.1.2⟩), h.ge⟩
theorem PileC.kept {S : Nat → Prop} (h : PileC w base ok g most v l) (hk : Kept w w1 S) (hg : ¬ S g) (ho : ∀ k, ok k → ¬ S k) : PileC w1 base ok g most v l := ⟨Kept.blk hk h.blk hg, Kd.R_kept h.row hk (fun k hh => ho k hh.1), h.ge⟩
theorem PileC.far (h : PileC w base ok g most v l) {gb j : Nat} (hne : g ≠ gb) (hok : ¬ ok gb) (u : Value) : PileC (w.setCell ⟨gb, j, none⟩ u) base ok g most v l :=
  ⟨blk_far h.blk hne u, Kd.R_far (p := ⟨gb, j, none⟩) h.row (fun k hk e => hok (by subst e; exact hk.1)) u, h.ge⟩
theorem PileC.fresh (h : PileC w base ok g most v l) (hf : ∀ k, w.heap.size ≤ k → ok k) : ∀ k, w.heap.size ≤ k → ok k ∧ k ≠ g := fun k hk => ⟨hf k hk, fun e => by have := blk_lt h.blk; omega⟩
theorem PileC.added {u : Value} {xs : List S34} (h : PileC w base ok g most u l) (ho : Kd.R k34 34 w1 base (fun k => ok k ∧ k ≠ g) v xs) (hg : w.grownBy w1 u.ownBlock) :
    PileC (w1.setCell ⟨g, 1, none⟩ v) base ok g most v xs ∧ w1.heap[g]? = some (.cells #[.int .i64 most, u, .func (.func 29) #[] #[]] 62 (0, 0)) ∧ Kept w (w1.setCell ⟨g, 1, none⟩ v) (fun k => k = g ∨ ok k) := by
  have hne : some g ≠ u.ownBlock := fun e => (h.row.1 g e.symm).2 rfl
  have hb := blk_grown h.blk hg hne
  exact ⟨⟨blk_put (cs' := #[.int .i64 most, v, .func (.func 29) #[] #[]]) hb 1 v rfl, Kd.R_far (p := ⟨g, 1, none⟩) ho (fun k hk => hk.2) _, h.ge⟩, hb, Kept.setCell (p := ⟨g, 1, none⟩) (Kept.of_grown hg (Kept.refl w (fun k => k = g ∨ ok k)) (fun k hk => Or.inl (Or.inr (h.row.1 k hk).1))) (Or.inl (Or.inl rfl)) v⟩
end
theorem pair_at {w : World} {base : Nat} {ok : Nat → Prop} {g n cap : Nat} {xs : List S34} (h : Kd.R k34 34 w base ok (.slice (some ⟨g, 0, none⟩) n cap) xs) (j : Nat) (hj : j < xs.length) :
    w.cell? ⟨g, j * 2, none⟩ = some (.int .i64 xs[j].f0) ∧ w.cell? ⟨g, j * 2 + 1, none⟩ = some (.int .i64 xs[j].f1) ∧ w.frozen? ⟨g, j * 2, none⟩ = false ∧ w.frozen? ⟨g, j * 2 + 1, none⟩ = false := by
  have hn := (Kd.R_reads' h).1
  obtain ⟨c, hcl, hM, hcc, hfr⟩ := Kd.R_elem h z34 (j : Int) (by omega) (by omega)
  obtain rfl := k34_openM hM
  rw [Int.toNat_natCast, List.getD_eq_getElem?_getD, List.getElem?_eq_getElem hj] at hcc
  rw [Int.toNat_natCast] at hfr
  exact ⟨hcc 0 _ rfl, hcc 1 _ rfl, hfr 0, hfr 1⟩
theorem pair_put {w : World} {base : Nat} {ok : Nat → Prop} {g n cap : Nat} {xs : List S34} (h : Kd.R k34 34 w base ok (.slice (some ⟨g, 0, none⟩) n cap) xs) (j : Nat) (hj : j < xs.length) (x : S34) :
    Kd.R k34 34 ((w.setCell ⟨g, j * 2, none⟩ (.int .i64 x.f0)).setCell ⟨g, j * 2 + 1, none⟩ (.int .i64 x.f1)) base ok (.slice (some ⟨g, 0, none⟩) n cap) (xs.set j x) ∧ w.grownBy ((w.setCell ⟨g, j * 2, none⟩ (.int .i64 x.f0)).setCell ⟨g, j * 2 + 1, none⟩ (.int .i64 x.f1)) (some g) := by
  have hn := (Kd.R_reads' h).1
  obtain ⟨c, hcl, hM, hcc, hfr⟩ := Kd.R_elem h z34 (j : Int) (by omega) (by omega)
  obtain rfl := k34_openM hM
  have h2 := Kd.R_seg h (j : Int) (by omega) (by omega) (seg := [.int .i64 x.f0, .int .i64 x.f1]) (j := 0) hcl hcc (show 2 ≤ 2 from by decide) (x' := x) (k34_mkM _ _ _ x) (fun _ hk => hk)
  rw [Int.toNat_natCast] at h2
  exact h2
theorem info34 : (Try.prog.info? 34).map (fun i => (i.zero, i.size, i.bytes)) = some (some (.agg #[(.int .i64 0), (.int .i64 0)]), 2, 16) := by kernel_rfl
def leastL (l : List S34) : Int × Int × Int := match l with | [] => (0, 0, 21) | x :: _ => (x.f0, x.f1, 0)
set_option maxHeartbeats 8000000 in
set_option maxRecDepth 100000 in
theorem Pile_New.calls (most : Int) (w : World) :
    Calls Try.prog 9 #[.int .i64 most] w fun e w' => Below w.heap.size w w' ∧ if 0 ≤ most ∧ most ≤ 65536 then ∃ g, e = .returned (.tuple #[.pointer (some ⟨g, 0, none⟩), .int .i64 0]) ∧ PileC w' w.heap.size (fun _ => True) g most (.slice none 0 0) [] else e = .returned (.tuple #[.pointer none, .int .i64 1]) := by
  have hu62 := Try.underlying62
  have HB := Aside0.mk (Below.refl w.heap.size w)
  by_cases c : 0 ≤ most ∧ most ≤ 65536
  · have hf : pile_room.f most = some true := by unfold pile_room.f; rw [if_pos (show most ≥ 0 by omega), decide_eq_true c.2]
    have HF := Aside0.mk hf
    simp only [if_pos c]
    clear hf
    go_enter Try.func9, Try.ntmps9
    go_wp2_with (first
      | (go_at_call 28; refine (pile_room.calls most true _ HF.out).mono ?_; rintro e w1 ⟨rfl, hd⟩; have n0_ := Aside0.mk (below_step HB.out (Drawn0.below hd)); clear HB hd; have HB := n0_; clear n0_)
      | ((with_reducible refine gate_dst (N := 9) rfl ?_); refine box_event ?hg (N := 9) ?hd (cs := #[.int .i64 most, .slice none 0 0, .func (.func 29) #[] #[]]) (t := 62) ?hr ?_; (case hd => rfl); (case hg => rfl); (case hr => first | (go_simp; done) | (go_simp; rfl)); intro g hg w2 hbox hb; have HG := Aside0.mk (⟨hbox, Kd.R_nil _ _ _ _ _, by rw [hg]; exact below_size HB.out⟩ : PileC w2 w.heap.size (fun _ => True) g most (.slice none 0 0) []); have n0_ := Aside0.mk (below_step HB.out hb); clear HB; have HB := n0_; clear n0_ hb hbox hg))
    go_ret2
    exact ⟨HB.out, g, rfl, HG.out⟩
  · have hf : pile_room.f most = some false := by
      unfold pile_room.f
      by_cases c1 : most ≥ 0
      · rw [if_pos c1, decide_eq_false (by omega)]
      · rw [if_neg c1]
    have HF := Aside0.mk hf
    simp only [if_neg c]
    clear hf
    go_enter Try.func9, Try.ntmps9
    go_wp2_with (go_at_call 28; refine (pile_room.calls most false _ HF.out).mono ?_; rintro e w1 ⟨rfl, hd⟩; have n0_ := Aside0.mk (below_step HB.out (Drawn0.below hd)); clear HB hd; have HB := n0_; clear n0_)
    go_ret2
    exact ⟨HB.out, rfl⟩
set_option maxHeartbeats 8000000 in
set_option maxRecDepth 100000 in
theorem Pile_Len.calls {base : Nat} {ok : Nat → Prop} (g : Nat) (most : Int) (v : Value) (l : List S34) (w : World) (hP : PileC w base ok g most v l) :
    Calls Try.prog 15 #[.pointer (some ⟨g, 0, none⟩)] w fun e w' => e = .returned (.int .i64 (l.length : Int)) ∧ w' = w := by
  obtain ⟨A, c, ev⟩ := Kd.R_slice hP.row
  subst ev
  have z : w.cell? ⟨g, 1, none⟩ = some (.slice A l.length c) := (blk_cell hP.blk 1).trans rfl
  have hu62 := Try.underlying62
  clear hP
  go_enter Try.func15, Try.ntmps15
  go_wp2
  go_ret
  exact ⟨rfl, rfl⟩
set_option maxHeartbeats 8000000 in
set_option maxRecDepth 100000 in
theorem Pile_Least.calls {base : Nat} {ok : Nat → Prop} (g : Nat) (most : Int) (v : Value) (l : List S34) (w : World) (hP : PileC w base ok g most v l) :
    Calls Try.prog 13 #[.pointer (some ⟨g, 0, none⟩)] w fun e w' => e = .returned (.tuple #[.agg #[.int .i64 (leastL l).1, .int .i64 (leastL l).2.1], .int .i64 (leastL l).2.2]) ∧ Below w.heap.size w w' := by
  have hu62 := Try.underlying62
  have hu34 := Try.underlying34
  have HB := Aside0.mk (Below.refl w.heap.size w)
  have HP := Aside0.mk hP
  cases l with
  | nil =>
    obtain ⟨A, c, ev⟩ := Kd.R_slice hP.row
    subst ev
    clear hP
    go_enter Try.func13, Try.ntmps13
    go_wp2_with ((with_reducible refine gate_dst (N := 2) rfl ?_); refine box_event ?hg (N := 2) ?hd (cs := #[.int .i64 0, .int .i64 0]) (t := 34) ?hr ?_; (case hd => rfl); (case hg => rfl); (case hr => first | (go_simp; done) | (go_simp; rfl)); intro gr hg w2 hbox hb; have n0_ := Aside0.mk (below_step HB.out hb); have n1_ := Aside0.mk (HP.out.below hb); have GE := Aside0.mk (show w.heap.size ≤ gr by rw [hg]; exact below_size HB.out); have BK := Aside0.mk hbox; clear HB HP; have HB := n0_; have HP := n1_; clear n0_ n1_ hb hbox hg; have z : w2.cell? ⟨g, 1, none⟩ = some (.slice A 0 c) := (blk_cell HP.out.blk 1).trans rfl; have z0 : w2.cell? ⟨gr, 0, none⟩ = some (.int .i64 0) := (blk_cell BK.out 0).trans rfl; have z1 : w2.cell? ⟨gr, 1, none⟩ = some (.int .i64 0) := (blk_cell BK.out 1).trans rfl; have y0 := blk_frozen BK.out 0; have y1 := blk_frozen BK.out 1)
    refine bodyPost_ret (results_ct rfl _ _ gr 34 #[.int .i64 0, .int .i64 0] (0, 0) _ rfl (blk_put (cs' := #[.int .i64 0, .int .i64 0]) (blk_put (cs' := #[.int .i64 0, .int .i64 0]) BK.out 0 (.int .i64 0) rfl) 1 (.int .i64 0) rfl) Try.underlying34 rfl (by kernel_rfl)) rfl ?_
    exact ⟨rfl, below_set (below_set HB.out GE.out) GE.out⟩
  | cons x l =>
    obtain ⟨g0, c, ev, _⟩ := Kd.R_form hP.row (by simp)
    subst ev
    clear hP
    have hln : decide (((x :: l).length : Int) = 0) = false := decide_eq_false (by simp only [List.length_cons]; omega)
    have hln2 : (((x :: l).length : Int) == 0) = false := by simpa using hln
    have p1 := eq_true (show (0 : Int) < ((x :: l).length : Int) by simp only [List.length_cons]; omega)
    have HLN := Aside0.mk (show 0 < (x :: l).length by simp)
    generalize (x :: l).length = n at *
    have hn0 := eq_false (show ¬ n = 0 by have := HLN.out; omega)
    have hn1 : decide (n = 0) = false := decide_eq_false (by have := HLN.out; omega)
    have hn2 : (n == 0) = false := by simpa using (show ¬ n = 0 by have := HLN.out; omega)
    have p2 := eq_true HLN.out
    go_enter Try.func13, Try.ntmps13
    go_wp2_with ((with_reducible refine gate_dst (N := 2) rfl ?_); refine box_event ?hg (N := 2) ?hd (cs := #[.int .i64 0, .int .i64 0]) (t := 34) ?hr ?_; (case hd => rfl); (case hg => rfl); (case hr => first | (go_simp; done) | (go_simp; rfl)); intro gr hg w2 hbox hb; have n0_ := Aside0.mk (below_step HB.out hb); have n1_ := Aside0.mk (HP.out.below hb); have GE := Aside0.mk (show w.heap.size ≤ gr by rw [hg]; exact below_size HB.out); have BK := Aside0.mk hbox; clear HB HP; have HB := n0_; have HP := n1_; clear n0_ n1_ hb hbox hg; have z : w2.cell? ⟨g, 1, none⟩ = some (.slice (some ⟨g0, 0, none⟩) n c) := (blk_cell HP.out.blk 1).trans rfl; have hpa := pair_at HP.out.row 0 (by simp); have q0 : w2.cell? ⟨g0, 0, none⟩ = some (.int .i64 x.f0) := hpa.1; have q1 : w2.cell? ⟨g0, 1, none⟩ = some (.int .i64 x.f1) := hpa.2.1; clear hpa; have z0 : w2.cell? ⟨gr, 0, none⟩ = some (.int .i64 0) := (blk_cell BK.out 0).trans rfl; have z1 : w2.cell? ⟨gr, 1, none⟩ = some (.int .i64 0) := (blk_cell BK.out 1).trans rfl; have y0 := blk_frozen BK.out 0; have y1 := blk_frozen BK.out 1)
    refine bodyPost_ret (results_ct rfl _ _ gr 34 #[.int .i64 x.f0, .int .i64 x.f1] (0, 0) _ rfl (blk_put (cs' := #[.int .i64 x.f0, .int .i64 x.f1]) (blk_put (cs' := #[.int .i64 x.f0, .int .i64 0]) BK.out 0 (.int .i64 x.f0) rfl) 1 (.int .i64 x.f1) rfl) Try.underlying34 rfl (by kernel_rfl)) rfl ?_
    exact ⟨rfl, below_set (below_set HB.out GE.out) GE.out⟩
end Go.Proofs.Ytloebciamfbjfaa.Q
end
