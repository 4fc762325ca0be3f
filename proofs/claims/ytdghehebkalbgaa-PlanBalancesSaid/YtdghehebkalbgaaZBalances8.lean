/- Parts of the proof: words, plain functions and contracts of the law's functions. Conditions: none. -/
import Derived.Test.YtdghehebkalbgaaZBalances7
import Derived.Test.YtdghehebkalbgaaZBalances4
section
namespace Go.Proofs.Ytdghehebkalbgaa.P
open Go.RowKit Go.Proofs.Ytdghehebkalbgaa.Q Go.Proofs.YtdghehebkalbgaaW.PrintWords
def mlt (a b : S45) : Prop := a.f1 < b.f1 ∨ a.f1 = b.f1 ∧ a.f0 < b.f0
instance (a b : S45) : Decidable (mlt a b) := by unfold mlt; exact inferInstance
def msum (l : List S45) (k : Int × Int) : Int := sumK keyM S45.f2 l k
def fits (n : Int) : Prop := -9223372036854775808 ≤ n ∧ n ≤ 9223372036854775807
instance (n : Int) : Decidable (fits n) := by unfold fits; exact inferInstance
def AllFit (l : List S45) : Prop := ∀ k ∈ keysOf keyM l, fits (msum l k)
instance (l : List S45) : Decidable (AllFit l) := by unfold AllFit; exact inferInstance
structure IsMerge (l r : List S45) : Prop where
  sorted : r.Pairwise mlt
  mem : ∀ m, m ∈ r ↔ keyM m ∈ keysOf keyM l ∧ m.f2 = msum l (keyM m) ∧ m.f2 ≠ 0
theorem sorted_keys {r : List S45} (h : r.Pairwise mlt) : (r.map keyM).Nodup := by
  rw [List.Nodup, List.pairwise_map]
  refine h.imp ?_
  intro a b hab e
  unfold keyM at e
  have e0 := congrArg Prod.fst e
  have e1 := congrArg Prod.snd e
  simp only at e0 e1
  unfold mlt at hab
  omega
theorem msum_nodup {r : List S45} (h : (r.map keyM).Nodup) {m : S45} (hm : m ∈ r) : msum r (keyM m) = m.f2 := by
  induction r with
  | nil => cases hm
  | cons x r ih =>
    rw [List.map_cons, List.nodup_cons] at h
    unfold msum
    rw [sumK_cons]
    rcases List.mem_cons.1 hm with rfl | hm'
    · have hz : ∀ (r : List S45) (k : Int × Int), k ∉ r.map keyM → sumK keyM S45.f2 r k = 0 := by
        intro r k hk
        unfold sumK
        rw [List.filter_eq_nil_iff.2 (fun y hy => by
          simp only [decide_eq_true_eq]
          intro e
          exact hk (List.mem_map.2 ⟨y, hy, e⟩))]
        rfl
      rw [hz r _ h.1]
      simp
    · have hne : keyM x ≠ keyM m := fun e => h.1 (e ▸ List.mem_map_of_mem hm')
      rw [if_neg hne, Int.zero_add]
      exact ih h.2 hm'
def wsum (c : Int × Int → Int) (l : List S45) : Int := (l.map fun x => c (keyM x) * x.f2).sum
theorem wsum_cons (c : Int × Int → Int) (x : S45) (l : List S45) : wsum c (x :: l) = c (keyM x) * x.f2 + wsum c l := by unfold wsum; simp
theorem wsum_append (c : Int × Int → Int) (a b : List S45) : wsum c (a ++ b) = wsum c a + wsum c b := by unfold wsum; simp
theorem wsum_nil (c : Int × Int → Int) : wsum c [] = 0 := rfl
theorem sum_zero {α : Type} (K : List α) (f : α → Int) (h : ∀ k ∈ K, f k = 0) : (K.map f).sum = 0 := by
  induction K with
  | nil => rfl
  | cons x K ih => rw [List.map_cons, List.sum_cons, h x List.mem_cons_self, ih (fun k hk => h k (List.mem_cons_of_mem _ hk))]; rfl
theorem sum_add {α : Type} (K : List α) (f g : α → Int) : (K.map fun k => f k + g k).sum = (K.map f).sum + (K.map g).sum := by
  induction K with
  | nil => rfl
  | cons x K ih => simp only [List.map_cons, List.sum_cons, ih]; omega
theorem sum_single {α : Type} [DecidableEq α] (K : List α) (hK : K.Nodup) (k : α) (hk : k ∈ K) (f : α → Int) (n : Int) : (K.map fun j => f j * (if k = j then n else 0)).sum = f k * n := by
  induction K with
  | nil => cases hk
  | cons x K ih =>
    rw [List.nodup_cons] at hK
    rw [List.map_cons, List.sum_cons]
    by_cases e : k = x
    · subst e
      rw [if_pos rfl, sum_zero K _ (fun j hj => by rw [if_neg (fun e => hK.1 (by rw [e]; exact hj)), Int.mul_zero]), Int.add_zero]
    · rw [if_neg e, Int.mul_zero, Int.zero_add]
      exact ih hK.2 ((List.mem_cons.1 hk).resolve_left e)
theorem wsum_keys (c : Int × Int → Int) (K : List (Int × Int)) (hK : K.Nodup) (l : List S45) (h : ∀ x ∈ l, keyM x ∈ K) : wsum c l = (K.map fun k => c k * msum l k).sum := by
  induction l with
  | nil => rw [wsum_nil, sum_zero]; intro k _; unfold msum; rw [sumK_nil, Int.mul_zero]
  | cons x l ih =>
    rw [wsum_cons, ih (fun y hy => h y (List.mem_cons_of_mem _ hy))]
    have e : ∀ k, c k * msum (x :: l) k = c k * (if keyM x = k then x.f2 else 0) + c k * msum l k := by
      intro k; unfold msum; rw [sumK_cons, Int.mul_add]
    rw [List.map_congr_left (fun k _ => e k), sum_add, sum_single K hK _ (h x List.mem_cons_self)]
theorem wsum_merge (c : Int × Int → Int) {l r : List S45} (h : IsMerge l r) : wsum c r = wsum c l := by
  have h2 := wsum_keys c (keysOf keyM l) (nodup_keysOf _ _) l (fun x hx => (mem_keysOf _ _ _).2 ⟨x, hx, rfl⟩)
  have h1 := wsum_keys c (keysOf keyM l) (nodup_keysOf _ _) r (fun x hx => ((h.mem x).1 hx).1)
  rw [h1, h2]
  congr 1
  refine List.map_congr_left fun k hk => ?_
  congr 1
  by_cases hz : msum l k = 0
  · rw [hz]
    unfold msum sumK
    rw [List.filter_eq_nil_iff.2 (fun y hy => by
      simp only [decide_eq_true_eq]
      rintro rfl
      have := ((h.mem y).1 hy).2
      exact this.2 (this.1.trans hz))]
    rfl
  · have hm : (⟨k.1, k.2, msum l k⟩ : S45) ∈ r := (h.mem _).2 ⟨hk, rfl, hz⟩
    exact msum_nodup (sorted_keys h.sorted) hm
theorem wsum_congr {c c' : Int × Int → Int} {l : List S45} (h : ∀ x ∈ l, c (keyM x) = c' (keyM x)) : wsum c l = wsum c' l := by
  unfold wsum
  congr 1
  exact List.map_congr_left fun x hx => by rw [h x hx]
theorem wsum_add (c c' : Int × Int → Int) (l : List S45) : wsum (fun k => c k + c' k) l = wsum c l + wsum c' l := by
  unfold wsum
  rw [← sum_add]
  congr 1
  exact List.map_congr_left fun x _ => by rw [Int.add_mul]
theorem wsum_zero {c : Int × Int → Int} {l : List S45} (h : ∀ x ∈ l, c (keyM x) = 0) : wsum c l = 0 := by
  unfold wsum
  exact sum_zero _ _ fun x hx => by rw [h x hx, Int.zero_mul]
theorem wsum_bd {c : Int × Int → Int} {l : List S45} {B : Int} (hB : 0 ≤ B) (hc : ∀ x ∈ l, -1 ≤ c (keyM x) ∧ c (keyM x) ≤ 1) (hn : ∀ x ∈ l, 0 ≤ x.f2 ∧ x.f2 ≤ B) : -(B * l.length) ≤ wsum c l ∧ wsum c l ≤ B * l.length := by
  induction l with
  | nil => simp [wsum_nil]
  | cons x l ih =>
    have hi := ih (fun y hy => hc y (List.mem_cons_of_mem _ hy)) (fun y hy => hn y (List.mem_cons_of_mem _ hy))
    have h1 := hc x List.mem_cons_self
    have h2 := hn x List.mem_cons_self
    rw [wsum_cons, List.length_cons]
    have e : B * ((l.length + 1 : Nat) : Int) = B * (l.length : Int) + B := by rw [Int.natCast_add, Int.mul_add]; simp
    rw [e]
    have h3 : c (keyM x) = -1 ∨ c (keyM x) = 0 ∨ c (keyM x) = 1 := by omega
    rcases h3 with h3 | h3 | h3 <;> rw [h3] <;> omega
end Go.Proofs.Ytdghehebkalbgaa.P
end
section
namespace Go.Proofs.Ytdghehebkalbgaa.Q
open Go.RowKit Go.Proofs.YtdghehebkalbgaaW.PrintWords Go.Proofs.YtdghehebkalbgaaW.PrintLast Go.Proofs.YtdghehebkalbgaaW.PrintMore
attribute [local go_sem] max2_int min2_int max_two min_two min_four
set_option linter.unusedVariables false
set_option linter.unusedSimpArgs false
def netfmt_nodes.f (a0 : Int) : Option (Int) := if a0 < 1 then (some 51) else (if a0 > 50 then (some 2) else (some 0))
set_option maxHeartbeats 8000000 in
set_option maxRecDepth 100000 in
theorem netfmt_nodes.calls (a0 : Int) (r : Int) (w : World) (h : netfmt_nodes.f a0 = some r) :
  Calls Try.prog 56 #[.int .i64 a0] w fun e w' => e = .returned (.int .i64 r) ∧ Drawn0 w w' := by
 have H : (if a0 < 1 then (some 51) else (if a0 > 50 then (some 2) else (some 0))) = some r := h; clear h
 by_cases c2 : a0 < 1
 ·rw [if_pos c2] at H
  have c2b0 : decide (a0 < 1) = true := decide_eq_true c2; clear c2; obtain rfl := Option.some.inj H
  go_enter Try.func56, Try.ntmps56
  go_wp2
  go_ret
  exact ⟨by first | rfl | (simp; done) | (simp [*]; done), by repeat (first | exact Drawn0.refl _ | apply Drawn0.step)⟩
 ·rw [if_neg c2] at H
  have c2b0 : decide (a0 < 1) = false := decide_eq_false c2; clear c2
  by_cases c3 : a0 > 50
  ·rw [if_pos c3] at H
   have c3b0 : decide (50 < a0) = true := decide_eq_true c3; clear c3; obtain rfl := Option.some.inj H
   go_enter Try.func56, Try.ntmps56
   go_wp2
   go_ret
   exact ⟨by first | rfl | (simp; done) | (simp [*]; done), by repeat (first | exact Drawn0.refl _ | apply Drawn0.step)⟩
  ·rw [if_neg c3] at H
   have c3b0 : decide (50 < a0) = false := decide_eq_false c3; clear c3; obtain rfl := Option.some.inj H
   go_enter Try.func56, Try.ntmps56
   go_wp2
   go_ret
   exact ⟨by first | rfl | (simp; done) | (simp [*]; done), by repeat (first | exact Drawn0.refl _ | apply Drawn0.step)⟩
end Go.Proofs.Ytdghehebkalbgaa.Q
end
section
namespace Go.Proofs.Ytdghehebkalbgaa.Q
open Go.RowKit Go.Proofs.YtdghehebkalbgaaW.PrintWords Go.Proofs.YtdghehebkalbgaaW.PrintLast Go.Proofs.YtdghehebkalbgaaW.PrintMore
attribute [local go_sem] max2_int min2_int max_two min_two min_four
set_option linter.unusedVariables false
set_option linter.unusedSimpArgs false
def netfmt_arc.j0 : Nat → Bool → Int → Int → Int → Int → Option (Int)
 | 0, _, _, _, _, _ => none
 | k + 1, x5, x114000, x114001, x114002, x114003 => if x5 = true then (some 51) else (if x114002 > 1048576 then (some 2) else (if x114003 > 1048576 then (some 2) else (some 0)))
def netfmt_arc.f (k : Nat) (a0 : Int) (a1_0 : Int) (a1_1 : Int) (a1_2 : Int) (a1_3 : Int) : Option (Int) := if (mn (mn (mn a1_0 a1_1) a1_2) a1_3) < 0 then (netfmt_arc.j0 k true a1_0 a1_1 a1_2 a1_3) else (netfmt_arc.j0 k (decide ((mx a1_0 a1_1) ≥ a0)) a1_0 a1_1 a1_2 a1_3)
theorem netfmt_arc.mono_l : ∀ k, (∀ y0 y1 y2 y3 y4, LeO (netfmt_arc.j0 k y0 y1 y2 y3 y4) (netfmt_arc.j0 (k + 1) y0 y1 y2 y3 y4))
 | 0 => fun _ _ _ _ _ r h => by simp [netfmt_arc.j0] at h
 | k + 1 => by
  have ih0 := netfmt_arc.mono_l k
  ·intro y0 y1 y2 y3 y4
   unfold netfmt_arc.j0
   repeat' first
   | (with_reducible exact ih0 _ _ _ _ _)
   | (with_reducible exact LeO.refl _)
   | (with_reducible exact LeO.none _)
   | (with_reducible refine LeO.ite ?_ ?_)
   | (with_reducible refine LeO.bind ?_ (fun _ => ?_))
   | exact ih0 _ _ _ _ _
   | exact LeO.none _
   | refine LeO.ite ?_ ?_
   | refine LeO.bind ?_ (fun _ => ?_)
theorem netfmt_arc.mono : ∀ a0 a1 a2 a3 a4 k, LeO (netfmt_arc.f k a0 a1 a2 a3 a4) (netfmt_arc.f (k + 1) a0 a1 a2 a3 a4) := by
 intro a0 a1 a2 a3 a4 k; have ih0 := netfmt_arc.mono_l k
 unfold netfmt_arc.f
 repeat' first
   | (with_reducible exact ih0 _ _ _ _ _)
   | (with_reducible exact LeO.refl _)
   | (with_reducible exact LeO.none _)
   | (with_reducible refine LeO.ite ?_ ?_)
   | (with_reducible refine LeO.bind ?_ (fun _ => ?_))
   | exact ih0 _ _ _ _ _
   | exact LeO.none _
   | refine LeO.ite ?_ ?_
   | refine LeO.bind ?_ (fun _ => ?_)
set_option maxHeartbeats 8000000 in
set_option maxRecDepth 100000 in
theorem netfmt_arc.calls (k : Nat) (a0 : Int) (a1_0 : Int) (a1_1 : Int) (a1_2 : Int) (a1_3 : Int) (r : Int) (w : World) (h : netfmt_arc.f k a0 a1_0 a1_1 a1_2 a1_3 = some r) :
  Calls Try.prog 57 #[.int .i64 a0, .agg #[.int .i64 a1_0, .int .i64 a1_1, .int .i64 a1_2, .int .i64 a1_3]] w fun e w' => e = .returned (.int .i64 r) ∧ Below w.heap.size w w' := by
 have hu47 := Try.underlying47; have HB := Aside0.mk (Below.refl w.heap.size w); have H : (if (mn (mn (mn a1_0 a1_1) a1_2) a1_3) < 0 then (netfmt_arc.j0 k true a1_0 a1_1 a1_2 a1_3) else (netfmt_arc.j0 k (decide ((mx a1_0 a1_1) ≥ a0)) a1_0 a1_1 a1_2 a1_3)) = some r := h; clear h; have HC3 := Aside0.mk H; clear H
 go_enter Try.func57, Try.ntmps57
 go_upto_region 1 with (first | ((with_reducible refine gate_dst (N := 3) rfl ?_); (try (refine gate_guard (by rfl) ?_; dsimp only)); refine box_event ?hg (N := 3) ?hd (cs := #[.int .i64 a1_0, .int .i64 a1_1, .int .i64 a1_2, .int .i64 a1_3]) (t := 47) ?hr ?_; (case hd => rfl); (case hg => rfl); (case hr => first | (go_simp; done) | (go_simp; rfl)); intro gb113 hg w4 hbox hb; have n0_ := Aside0.mk (below_step (by repeat (first | (with_reducible first | exact HB.out | apply below_alloc | apply pw_below_drewN | apply below_drew1) | exact HB.out)) hb); have n1_ := Aside0.mk (hbox); have n2_ := Aside0.mk ((by rw [hg]; exact (below_size (by repeat (first | (with_reducible first | exact HB.out | apply below_alloc | apply pw_below_drewN | apply below_drew1) | exact HB.out))) : w.heap.size ≤ gb113)); have n3_ := Aside0.mk ((by rw [hg]; exact (below_size (by repeat (first | (with_reducible first | exact HB.out | apply below_alloc | apply pw_below_drewN | apply below_drew1) | exact HB.out))) : w.heap.size ≤ gb113)); clear HB; have HB := n0_; have BK113 := n1_; have GW113 := n2_; have GE113 := n3_; clear n0_ n1_ n2_ n3_; clear hb hbox hg))
 (try simp only [Act.put, List.setIfInBounds_toArray, List.set_cons_zero, List.set_cons_succ])
 go_cut [5] (fun v5 wc => ∃ (kq : Nat) (x5_2 : Bool), v5 = .bool x5_2 ∧ Aside0 (netfmt_arc.j0 kq x5_2 a1_0 a1_1 a1_2 a1_3 = some r) ∧ Aside0 (kq ≤ k) ∧ Aside0 (wc.heap[gb113]? = some (.cells #[.int .i64 a1_0, .int .i64 a1_1, .int .i64 a1_2, .int .i64 a1_3] 47 (0, 0))) ∧ Aside0 (Below w.heap.size w wc))
 case first =>
  have H := HC3.out; clear HC3; obtain ⟨ji5, hji5⟩ : ∃ j_ : Int, (mn a1_0 a1_1) = j_ := ⟨_, rfl⟩
  replace H : (if (mn (mn (ji5) a1_2) a1_3) < 0 then (netfmt_arc.j0 k true a1_0 a1_1 a1_2 a1_3) else (netfmt_arc.j0 k (decide ((mx a1_0 a1_1) ≥ a0)) a1_0 a1_1 a1_2 a1_3)) = some r := by first | (rw [hji5] at H; exact H) | (simp only [hji5] at H ⊢; exact H)
  have hji5_ : (if a1_1 < a1_0 then a1_1 else a1_0) = ji5 := hji5; obtain ⟨ji6, hji6⟩ : ∃ j_ : Int, (mn (ji5) a1_2) = j_ := ⟨_, rfl⟩
  replace H : (if (mn (ji6) a1_3) < 0 then (netfmt_arc.j0 k true a1_0 a1_1 a1_2 a1_3) else (netfmt_arc.j0 k (decide ((mx a1_0 a1_1) ≥ a0)) a1_0 a1_1 a1_2 a1_3)) = some r := by first | (rw [hji6] at H; exact H) | (simp only [hji6] at H ⊢; exact H)
  have hji6_ : (if a1_2 < (ji5) then a1_2 else (ji5)) = ji6 := hji6; obtain ⟨ji7, hji7⟩ : ∃ j_ : Int, (mn (ji6) a1_3) = j_ := ⟨_, rfl⟩
  replace H : (if (ji7) < 0 then (netfmt_arc.j0 k true a1_0 a1_1 a1_2 a1_3) else (netfmt_arc.j0 k (decide ((mx a1_0 a1_1) ≥ a0)) a1_0 a1_1 a1_2 a1_3)) = some r := by first | (rw [hji7] at H; exact H) | (simp only [hji7] at H ⊢; exact H)
  have hji7_ : (if a1_3 < (ji6) then a1_3 else (ji6)) = ji7 := hji7
  by_cases c8 : (ji7) < 0
  ·rw [if_pos c8] at H
   have c8b0 : decide ((ji7) < 0) = true := decide_eq_true c8; clear c8
   (first | rw [c8b0] | (simp only [i64_w, i32_w]; rw [c8b0]) | skip)
   have H' := Aside0.mk H; clear H; have hcz9_0 : w4.cell? ⟨gb113, 0, none⟩ = some (.int .i64 a1_0) := (blk_cell BK113.out 0).trans rfl; have hcz9_1 : w4.cell? ⟨gb113, 1, none⟩ = some (.int .i64 a1_1) := (blk_cell BK113.out 1).trans rfl; have hcz9_2 : w4.cell? ⟨gb113, 2, none⟩ = some (.int .i64 a1_2) := (blk_cell BK113.out 2).trans rfl; have hcz9_3 : w4.cell? ⟨gb113, 3, none⟩ = some (.int .i64 a1_3) := (blk_cell BK113.out 3).trans rfl; have hfz9_0 := blk_frozen BK113.out 0; have hfz9_1 := blk_frozen BK113.out 1; have hfz9_2 := blk_frozen BK113.out 2; have hfz9_3 := blk_frozen BK113.out 3
   go_wp2
   go_meet
   case rel => exact ⟨_, (true), (by first | rfl | (simp; done) | (simp [*]; done)), H', ⟨by first | omega | exact Nat.le_refl _⟩, ⟨by (with_reducible repeat (first | refine blk_drewN ?_ _ | refine blk_drew ?_ | refine blk_alloc ?_ _)); exact BK113.out⟩, ⟨by repeat (first | (with_reducible first | exact HB.out | apply below_alloc | apply pw_below_drewN | apply below_drew1 | refine below_set ?_ GE113.out) | exact HB.out)⟩⟩
  ·rw [if_neg c8] at H
   have c8b0 : decide ((ji7) < 0) = false := decide_eq_false c8; clear c8
   (first | rw [c8b0] | (simp only [i64_w, i32_w]; rw [c8b0]) | skip)
   obtain ⟨ji10, hji10⟩ : ∃ j_ : Int, (mx a1_0 a1_1) = j_ := ⟨_, rfl⟩
   replace H : (netfmt_arc.j0 k (decide ((ji10) ≥ a0)) a1_0 a1_1 a1_2 a1_3) = some r := by first | (rw [hji10] at H; exact H) | (simp only [hji10] at H ⊢; exact H)
   have hji10_ : (if a1_0 < a1_1 then a1_1 else a1_0) = ji10 := hji10; have H' := Aside0.mk H; clear H; have hcz11_0 : w4.cell? ⟨gb113, 0, none⟩ = some (.int .i64 a1_0) := (blk_cell BK113.out 0).trans rfl; have hcz11_1 : w4.cell? ⟨gb113, 1, none⟩ = some (.int .i64 a1_1) := (blk_cell BK113.out 1).trans rfl; have hcz11_2 : w4.cell? ⟨gb113, 2, none⟩ = some (.int .i64 a1_2) := (blk_cell BK113.out 2).trans rfl; have hcz11_3 : w4.cell? ⟨gb113, 3, none⟩ = some (.int .i64 a1_3) := (blk_cell BK113.out 3).trans rfl; have hfz11_0 := blk_frozen BK113.out 0; have hfz11_1 := blk_frozen BK113.out 1; have hfz11_2 := blk_frozen BK113.out 2; have hfz11_3 := blk_frozen BK113.out 3
   go_wp2
   go_meet
   case rel => exact ⟨_, (decide ((ji10) ≥ a0)), (by first | rfl | (simp; done) | (simp only [← hji10] <;> (first | rfl | simp)) | (simp [*]; done)), H', ⟨by first | omega | exact Nat.le_refl _⟩, ⟨by (with_reducible repeat (first | refine blk_drewN ?_ _ | refine blk_drew ?_ | refine blk_alloc ?_ _)); exact BK113.out⟩, ⟨by repeat (first | (with_reducible first | exact HB.out | apply below_alloc | apply pw_below_drewN | apply below_drew1 | refine below_set ?_ GE113.out) | exact HB.out)⟩⟩
 case rest =>
  clear HC3
  try clear p2
  try clear c5
  try clear c8
  try clear c8b0
  try clear hcz11_0
  try clear hcz11_1
  try clear hcz11_2
  try clear hcz11_3
  try clear hcz9_0
  try clear hcz9_1
  try clear hcz9_2
  try clear hcz9_3
  try clear hfz11_0
  try clear hfz11_1
  try clear hfz11_2
  try clear hfz11_3
  try clear hfz9_0
  try clear hfz9_1
  try clear hfz9_2
  try clear hfz9_3
  obtain ⟨kq, x5_2, rfl, HA, HJ2, BK113, HB⟩ := hcut
  cases kq with
  | zero => exact absurd HA.out (by simp [netfmt_arc.j0])
  | succ kj2 =>
   have H := HA.out; clear HA; simp only [netfmt_arc.j0] at H
   by_cases c12 : x5_2 = true
   ·subst c12
    have H1 : (some 51) = some r := by rw [if_pos rfl] at H; exact H
    clear H; have H := H1; clear H1; obtain rfl := Option.some.inj H
    go_wp2
    go_ret
    exact ⟨by first | rfl | (simp [errW_none, errW_some] <;> rfl) | (simp [*, errW_none, errW_some] <;> rfl), by repeat (first | (with_reducible first | exact HB.out | apply below_alloc | apply pw_below_drewN | apply below_drew1 | refine below_set ?_ GE113.out) | exact HB.out)⟩
   ·replace c12 := Bool.eq_false_iff.mpr c12
    subst c12
    have H1 : (if a1_2 > 1048576 then (some 2) else (if a1_3 > 1048576 then (some 2) else (some 0))) = some r := by rw [if_neg (show ¬ (false = true) by decide)] at H; exact H
    clear H; have H := H1; clear H1
    by_cases c13 : a1_2 > 1048576
    ·rw [if_pos c13] at H
     have c13b0 : decide (1048576 < a1_2) = true := decide_eq_true c13; clear c13; obtain rfl := Option.some.inj H; have hcz14_0 : wc.cell? ⟨gb113, 0, none⟩ = some (.int .i64 a1_0) := (blk_cell BK113.out 0).trans rfl; have hcz14_1 : wc.cell? ⟨gb113, 1, none⟩ = some (.int .i64 a1_1) := (blk_cell BK113.out 1).trans rfl; have hcz14_2 : wc.cell? ⟨gb113, 2, none⟩ = some (.int .i64 a1_2) := (blk_cell BK113.out 2).trans rfl; have hcz14_3 : wc.cell? ⟨gb113, 3, none⟩ = some (.int .i64 a1_3) := (blk_cell BK113.out 3).trans rfl; have hfz14_0 := blk_frozen BK113.out 0; have hfz14_1 := blk_frozen BK113.out 1; have hfz14_2 := blk_frozen BK113.out 2; have hfz14_3 := blk_frozen BK113.out 3
     go_wp2
     go_ret
     exact ⟨by first | rfl | (simp [errW_none, errW_some] <;> rfl) | (simp [*, errW_none, errW_some] <;> rfl), by repeat (first | (with_reducible first | exact HB.out | apply below_alloc | apply pw_below_drewN | apply below_drew1 | refine below_set ?_ GE113.out) | exact HB.out)⟩
    ·rw [if_neg c13] at H
     have c13b0 : decide (1048576 < a1_2) = false := decide_eq_false c13; clear c13
     by_cases c15 : a1_3 > 1048576
     ·rw [if_pos c15] at H
      have c15b0 : decide (1048576 < a1_3) = true := decide_eq_true c15; clear c15; obtain rfl := Option.some.inj H; have hcz16_0 : wc.cell? ⟨gb113, 0, none⟩ = some (.int .i64 a1_0) := (blk_cell BK113.out 0).trans rfl; have hcz16_1 : wc.cell? ⟨gb113, 1, none⟩ = some (.int .i64 a1_1) := (blk_cell BK113.out 1).trans rfl; have hcz16_2 : wc.cell? ⟨gb113, 2, none⟩ = some (.int .i64 a1_2) := (blk_cell BK113.out 2).trans rfl; have hcz16_3 : wc.cell? ⟨gb113, 3, none⟩ = some (.int .i64 a1_3) := (blk_cell BK113.out 3).trans rfl; have hfz16_0 := blk_frozen BK113.out 0; have hfz16_1 := blk_frozen BK113.out 1; have hfz16_2 := blk_frozen BK113.out 2; have hfz16_3 := blk_frozen BK113.out 3
      go_wp2
      go_ret
      exact ⟨by first | rfl | (simp [errW_none, errW_some] <;> rfl) | (simp [*, errW_none, errW_some] <;> rfl), by repeat (first | (with_reducible first | exact HB.out | apply below_alloc | apply pw_below_drewN | apply below_drew1 | refine below_set ?_ GE113.out) | exact HB.out)⟩
     ·rw [if_neg c15] at H
      have c15b0 : decide (1048576 < a1_3) = false := decide_eq_false c15; clear c15; obtain rfl := Option.some.inj H; have hcz17_0 : wc.cell? ⟨gb113, 0, none⟩ = some (.int .i64 a1_0) := (blk_cell BK113.out 0).trans rfl; have hcz17_1 : wc.cell? ⟨gb113, 1, none⟩ = some (.int .i64 a1_1) := (blk_cell BK113.out 1).trans rfl; have hcz17_2 : wc.cell? ⟨gb113, 2, none⟩ = some (.int .i64 a1_2) := (blk_cell BK113.out 2).trans rfl; have hcz17_3 : wc.cell? ⟨gb113, 3, none⟩ = some (.int .i64 a1_3) := (blk_cell BK113.out 3).trans rfl; have hfz17_0 := blk_frozen BK113.out 0; have hfz17_1 := blk_frozen BK113.out 1; have hfz17_2 := blk_frozen BK113.out 2; have hfz17_3 := blk_frozen BK113.out 3
      go_wp2
      go_ret
      exact ⟨by first | rfl | (simp [errW_none, errW_some] <;> rfl) | (simp [*, errW_none, errW_some] <;> rfl), by repeat (first | (with_reducible first | exact HB.out | apply below_alloc | apply pw_below_drewN | apply below_drew1 | refine below_set ?_ GE113.out) | exact HB.out)⟩
end Go.Proofs.Ytdghehebkalbgaa.Q
end
