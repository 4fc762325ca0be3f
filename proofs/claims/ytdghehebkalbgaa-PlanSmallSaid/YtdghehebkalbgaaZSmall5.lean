/- A part of the proof: words, contracts, plain lemmas. Conditions: none. -/
import Derived.Test.YtdghehebkalbgaaZSmall4
import Derived.Sort.Grow
import Derived.Maps.OwnSet
import Derived.Maps.OwnOps
import Derived.Maps.Views
import Derived.DeepKeys4
import Derived.WideKeyPair
section
namespace Go.Proofs.Ytdghehebkalbgaa.Q
open Go.RowKit Go.Proofs.YtdghehebkalbgaaW.PrintWords Go.Proofs.YtdghehebkalbgaaW.PrintLast Go.Proofs.YtdghehebkalbgaaW.PrintMore
attribute [local go_sem] max2_int min2_int max_two min_two min_four
set_option linter.unusedVariables false
set_option linter.unusedSimpArgs false
def BelowD (B : Nat) (w w' : World) : Prop := Below B w w' ∧ w.drawn ≤ w'.drawn
theorem BelowD.refl (B : Nat) (w : World) : BelowD B w w := ⟨Below.refl _ _, Nat.le_refl _⟩
theorem belowD_size {w W : World} (h : BelowD w.heap.size w W) : w.heap.size ≤ W.heap.size := h.1.size
theorem belowD_alloc {w W : World} (h : BelowD w.heap.size w W) (o : Obj) : BelowD w.heap.size w (W.alloc o) := ⟨below_alloc h.1 o, h.2⟩
theorem pw_belowD_drewN {B : Nat} {w W : World} (h : BelowD B w W) (n : Nat) : BelowD B w (W.drewN n) := ⟨pw_below_drewN h.1 n, Nat.le_trans h.2 (Nat.le_add_right _ _)⟩
theorem belowD_drew1 {base : Nat} {w W : World} (h : BelowD base w W) : BelowD base w W.drew := ⟨below_drew1 h.1, Nat.le_trans h.2 (Nat.le_add_right _ _)⟩
theorem setCell_drawn (W : World) (p : Addr) (v : Value) : (W.setCell p v).drawn = W.drawn := by
  unfold World.setCell
  split <;> rfl
theorem belowD_set {w W : World} {g j : Nat} {v : Value} (h : BelowD w.heap.size w W) (hg : w.heap.size ≤ g) : BelowD w.heap.size w (W.setCell ⟨g, j, none⟩ v) := ⟨below_set h.1 hg, by rw [setCell_drawn]; exact h.2⟩
theorem belowD_step {w W w2 : World} (h : BelowD w.heap.size w W) (k : BelowD W.heap.size W w2) : BelowD w.heap.size w w2 := ⟨below_step h.1 k.1, Nat.le_trans h.2 k.2⟩
theorem BelowD.grow {w w' : World} (h : BelowD w.heap.size w w') : ∃ q os', w' = Go.Sort.grow (w.drewN q) os' := by
  obtain ⟨⟨h1, h2, h3, h4, h5⟩, hd⟩ := h
  refine ⟨w'.drawn - w.drawn, w'.heap.extract w.heap.size w'.heap.size, ?_⟩
  obtain ⟨hp, tp, dr, os, ou⟩ := w'
  obtain ⟨hp0, tp0, dr0, os0, ou0⟩ := w
  simp only at h1 h2 h3 h4 h5 hd
  subst h1 h2 h3
  unfold Go.Sort.grow World.drewN
  simp only [World.mk.injEq, and_true, true_and]
  refine ⟨?_, by omega⟩
  apply Array.ext_getElem?
  intro i
  by_cases hi : i < hp0.size
  · rw [h5 i hi, Array.getElem?_append_left hi]
  · rw [Array.getElem?_append_right (by omega)]
    by_cases h2 : i < hp.size
    · rw [Array.getElem?_eq_getElem h2, Array.getElem?_eq_getElem (by simp; omega)]
      simp [Array.getElem_extract, show hp0.size + (i - hp0.size) = i from by omega]
    · rw [Array.getElem?_eq_none (by omega), Array.getElem?_eq_none (by simp; omega)]
section
variable {P : Program} {ops : Array Oper} {rest : List Oper} {o : Oper} {a : Act} {Q : Exit → Act → World → Prop}
theorem box_eventD {W : World} (hgd : o.guard = none) {N : Tmp} (_hd : o.dst = some N) {cs : Array Value} {t : TypeId}
    (hrun : (execOp a.eval o).run P W = .ok (.value (.pointer (some ⟨W.heap.size, 0, none⟩))) (W.alloc (.cells cs t (0, 0))))
    (h : ∀ g, g = W.heap.size → ∀ w1, w1.heap[g]? = some (.cells cs t (0, 0)) → BelowD W.heap.size W w1 → wpList P ops Q rest (a.put o.dst (.pointer (some ⟨g, 0, none⟩))) w1) : wpList P ops Q (o :: rest) a W :=
  Kd.event_run hgd hrun (h _ rfl _ (blk_new W _) (belowD_alloc (BelowD.refl _ _) _))
end
section
variable {P : Program} {ops : Array Oper} {o : Oper} {a : Act} {Q : Exit → Act → World → Prop} {Kc : Act → World → Prop} {α : Type}
theorem R_lit_stepD (d : Kd α) {W : World} (e : Nat) (hw : Region.wanted o (yielded ops a.tmps) = true) {N : Tmp} (hd : o.dst = some N) {xs : List α} {inner : List Value} {ok okp : Nat → Prop}
    (hrun : (execOp a.eval o).run P W = .ok (.value (.slice (some ⟨W.heap.size, 0, none⟩) xs.length xs.length)) (W.alloc (.cells inner.toArray e)))
    (hrep : Reps (d.M W W.heap.size okp) d.sz xs inner) (hok : ∀ k, okp k → ok k) (hfresh : ok W.heap.size) (HB : Below W.heap.size W W) (hbase : W.heap.size ≤ W.heap.size) (hm : xs.length ≤ 9223372036854775807)
    (h : ∀ v1 w1, d.R e w1 W.heap.size ok v1 xs → BelowD W.heap.size W w1 → W.grownBy w1 none → (∃ b, v1.ownBlock = some b ∧ W.heap.size ≤ b) → Kc (a.put o.dst v1) w1) : if Region.wanted o (yielded ops a.tmps) = true then Oper.wp P o a W Kc Q else Kc (a.put o.dst undef) W := by
  refine event_step hw hrun (h _ _ ⟨fun k hk => ?_, inner, ?_, ?_⟩ (belowD_alloc (BelowD.refl _ _) _) (World.grownBy_alloc W _ none) ⟨W.heap.size, by simp [Value.ownBlock], Nat.le_refl _⟩)
  · have : W.heap.size = k := by simpa [Value.ownBlock] using hk
    subst this
    exact hfresh
  · have h2 := World.ownsRow_lit (base := W.heap.size) (e := e) (size := d.sz) W inner.toArray xs.length hbase (by simpa [maxLen] using hm) (by simpa using hrep.1)
    simpa using h2
  · refine hrep.imp_ (fun p c hp => d.M_mono (fun k hk => ⟨hok k hk.1, fun he => ?_⟩) (Kd.M_below (d.M_bound hp) (below_alloc (Below.refl _ _) _)))
    have h3 : k = W.heap.size := by simpa [Value.ownBlock] using he
    have := hk.2.2.1
    omega
end
set_option maxHeartbeats 8000000 in
set_option maxRecDepth 100000 in
theorem table_Moves_3.callsD (k : Nat) (a0_0 : Int) (a0_1 : Int) (a0_2 : Int) (a1_0 : Int) (a1_1 : Int) (a1_2 : Int) (r : Int) (w : World) (h : table_Moves_3.f k a0_0 a0_1 a0_2 a1_0 a1_1 a1_2 = some r) :
    Calls Try.prog 44 #[.agg #[.int .i64 a0_0, .int .i64 a0_1, .int .i64 a0_2], .agg #[.int .i64 a1_0, .int .i64 a1_1, .int .i64 a1_2]] w fun e w' => e = .returned (.int .i64 r) ∧ BelowD w.heap.size w w' := by
  have hu45 := Try.underlying45
  have HB := am_ (BelowD.refl w.heap.size w)
  have H : ((cmp_Compare_int.f a0_1 a1_1).bind fun t107 => ((cmp_Compare_int.f a0_0 a1_0).bind fun t108 => ((cmp_Or_int.f k (([t107, t108] : List Int))).bind fun t112 => (some t112)))) = some r := h
  clear h
  replace H := Option.bind_eq_some_iff.mp H
  obtain ⟨t107, A30, H⟩ := H
  replace H : ((cmp_Compare_int.f a0_0 a1_0).bind fun t108 => ((cmp_Or_int.f k (([t107, t108] : List Int))).bind fun t112 => (some t112))) = some r := H
  have A3 := am_ A30
  clear A30
  replace H := Option.bind_eq_some_iff.mp H
  obtain ⟨t108, A40, H⟩ := H
  replace H : ((cmp_Or_int.f k (([t107, t108] : List Int))).bind fun t112 => (some t112)) = some r := H
  have A4 := am_ A40
  clear A40
  obtain ⟨y109, hy109⟩ : ∃ y_ : List Int, y_ = (([t107, t108] : List Int)) := ⟨_, rfl⟩
  replace H : ((cmp_Or_int.f k y109).bind fun t112 => (some t112)) = some r := by first | (rw [hy109]; with_reducible exact H) | (have H2_ := (Option.bind_some _ _).symm.trans H; rw [hy109]; with_reducible exact H2_) | (have H2_ := (Option.bind_some _ _).symm.trans H; with_reducible exact H2_) | with_reducible exact H | (rw [hy109]; exact H) | exact H
  have Ny109 := am_ hy109
  clear hy109
  replace H := Option.bind_eq_some_iff.mp H
  obtain ⟨t112, A50, H⟩ := H
  replace H : (some t112) = some r := H
  have A5 := am_ A50
  clear A50
  obtain rfl := Option.some.inj H
  go_enter Try.func44, Try.ntmps44
  try go_wp2_with (first | ((with_reducible refine gate_dst (N := 2) rfl ?_); refine box_eventD ?hg (N := 2) ?hd (cs := #[.int .i64 a0_0, .int .i64 a0_1, .int .i64 a0_2]) (t := 45) ?hr ?_; (case hd => rfl); (case hg => rfl); (case hr => first | (go_simp; done) | (go_simp; rfl)); intro gb105 hg w6 hbox hb; have BK105 := am_ (hbox); have GE105 := am_ ((by rw [hg]; exact (belowD_size (by repeat (first | (with_reducible first | exact HB.out | apply belowD_alloc | apply pw_belowD_drewN | apply belowD_drew1) | exact HB.out))) : w.heap.size ≤ gb105)); replace HB := am_ (belowD_step (by repeat (first | (with_reducible first | exact HB.out | apply belowD_alloc | apply pw_belowD_drewN | apply belowD_drew1) | exact HB.out)) hb); clear hb hbox hg) | ((with_reducible refine gate_dst (N := 3) rfl ?_); refine box_eventD ?hg (N := 3) ?hd (cs := #[.int .i64 a1_0, .int .i64 a1_1, .int .i64 a1_2]) (t := 45) ?hr ?_; (case hd => rfl); (case hg => rfl); (case hr => first | (go_simp; done) | (go_simp; rfl)); intro gb106 hg w7 hbox hb; have BK106 := am_ (hbox); have GE106 := am_ ((by rw [hg]; exact (belowD_size (by repeat (first | (with_reducible first | exact HB.out | apply belowD_alloc | apply pw_belowD_drewN | apply belowD_drew1 | refine belowD_set ?_ GE105.out) | exact HB.out))) : w.heap.size ≤ gb106)); replace HB := am_ (belowD_step (by repeat (first | (with_reducible first | exact HB.out | apply belowD_alloc | apply pw_belowD_drewN | apply belowD_drew1 | refine belowD_set ?_ GE105.out) | exact HB.out)) hb); have NB105_106 := am_ ((by rw [hg]; exact Nat.ne_of_lt (blk_lt (g := gb105) (o := .cells #[.int .i64 a0_0, .int .i64 a0_1, .int .i64 a0_2] 45 (0, 0)) (bq_ BK105.out)) : gb105 ≠ gb106)); have NB106_105 := am_ ((by rw [hg]; exact Nat.ne_of_gt (blk_lt (g := gb105) (o := .cells #[.int .i64 a0_0, .int .i64 a0_1, .int .i64 a0_2] 45 (0, 0)) (bq_ BK105.out)) : gb106 ≠ gb105)); replace BK105 := am_ (blk_below (g := gb105) (o := .cells #[.int .i64 a0_0, .int .i64 a0_1, .int .i64 a0_2] 45 (0, 0)) (bq_ BK105.out) hb.1); clear hb hbox hg))
  have n0_ := am_ (blk_drew BK105.out)
  have n1_ := am_ (blk_drew BK106.out)
  have n2_ := am_ (belowD_drew1 HB.out)
  clear BK105
  clear BK106
  clear HB
  have BK105 := n0_
  have BK106 := n1_
  have HB := n2_
  clear n0_ n1_ n2_
  refine start_ (n := 13) (S := fun w' => w'.cell? ⟨gb105, 0, none⟩ = some (.int .i64 a0_0) ∧ w'.cell? ⟨gb105, 1, none⟩ = some (.int .i64 a0_1) ∧ w'.cell? ⟨gb105, 2, none⟩ = some (.int .i64 a0_2) ∧ w'.cell? ⟨gb106, 0, none⟩ = some (.int .i64 a1_0) ∧ w'.cell? ⟨gb106, 1, none⟩ = some (.int .i64 a1_1) ∧ w'.cell? ⟨gb106, 2, none⟩ = some (.int .i64 a1_2)) (ds := []) #[false, false, false, false, false, false, false, false, false, false, false, false, false] (by kernel_rfl) rfl rfl ⟨(blk_cell BK105.out 0).trans rfl, (blk_cell BK105.out 1).trans rfl, (blk_cell BK105.out 2).trans rfl, (blk_cell BK106.out 0).trans rfl, (blk_cell BK106.out 1).trans rfl, (blk_cell BK106.out 2).trans rfl⟩ (fun hHeld => ?_); refine with_tabW table_Moves_3.tab1 table_Moves_3.bits1 (fun HT_ HW_ => ?_)
  generalize w7.drew = w8 at BK105 BK106 HB hHeld ⊢
  refine pure_ (i := 0) (N := some 5) (v := ?_) (a' := ?_) #[true, false, false, false, false, false, false, false, false, false, false, false, false] rfl rfl (any_of HT_.out (by kernel_rfl)) (fun _ _ _ h => h) (Or.inl ⟨by rfl, ?_⟩) ?_ ?_
  rotate_left
  · intro w'
    go_simp
    with_reducible rfl
  rotate_left
  · simp only [Act.put, List.setIfInBounds_toArray, List.set_cons_zero, List.set_cons_succ, i64_w, i32_w]
    rfl
  refine pure_ (i := 2) (N := some 7) (v := ?_) (a' := ?_) #[true, false, true, false, false, false, false, false, false, false, false, false, false] rfl rfl (any_of HT_.out (by kernel_rfl)) (fun _ _ _ h => h) (Or.inl ⟨by rfl, ?_⟩) ?_ ?_
  rotate_left
  · intro w'
    go_simp
    with_reducible rfl
  rotate_left
  · simp only [Act.put, List.setIfInBounds_toArray, List.set_cons_zero, List.set_cons_succ, i64_w, i32_w]
    rfl
  refine pure_ (i := 5) (N := some 10) (v := ?_) (a' := ?_) #[true, false, true, false, false, true, false, false, false, false, false, false, false] rfl rfl (any_of HT_.out (by kernel_rfl)) (fun _ _ _ h => h) (Or.inl ⟨by rfl, ?_⟩) ?_ ?_
  rotate_left
  · intro w'
    go_simp
    with_reducible rfl
  rotate_left
  · simp only [Act.put, List.setIfInBounds_toArray, List.set_cons_zero, List.set_cons_succ, i64_w, i32_w]
    rfl
  refine pure_ (i := 7) (N := some 12) (v := ?_) (a' := ?_) #[true, false, true, false, false, true, false, true, false, false, false, false, false] rfl rfl (any_of HT_.out (by kernel_rfl)) (fun _ _ _ h => h) (Or.inl ⟨by rfl, ?_⟩) ?_ ?_
  rotate_left
  · intro w'
    go_simp
    with_reducible rfl
  rotate_left
  · simp only [Act.put, List.setIfInBounds_toArray, List.set_cons_zero, List.set_cons_succ, i64_w, i32_w]
    rfl
  refine take_ (i := 1) (N := some 6) (v := ?_) (a' := ?_) #[true, true, true, false, false, true, false, true, false, false, false, false, false] rfl rfl (take_ofW HT_.out HW_.out (by kernel_rfl)) (fun _ _ _ h => h) (Or.inl ⟨by rfl, ?_⟩) hHeld ?_ ?_
  rotate_left
  · rintro w' ⟨s0, s1, s2, s3, s4, s5⟩
    go_simp
    with_reducible rfl
  rotate_left
  · simp only [Act.put, List.setIfInBounds_toArray, List.set_cons_zero, List.set_cons_succ, i64_w, i32_w]
    rfl
  refine take_ (i := 3) (N := some 8) (v := ?_) (a' := ?_) #[true, true, true, true, false, true, false, true, false, false, false, false, false] rfl rfl (take_ofW HT_.out HW_.out (by kernel_rfl)) (fun _ _ _ h => h) (Or.inl ⟨by rfl, ?_⟩) hHeld ?_ ?_
  rotate_left
  · rintro w' ⟨s0, s1, s2, s3, s4, s5⟩
    go_simp
    with_reducible rfl
  rotate_left
  · simp only [Act.put, List.setIfInBounds_toArray, List.set_cons_zero, List.set_cons_succ, i64_w, i32_w]
    rfl
  refine take_ (i := 6) (N := some 11) (v := ?_) (a' := ?_) #[true, true, true, true, false, true, true, true, false, false, false, false, false] rfl rfl (take_ofW HT_.out HW_.out (by kernel_rfl)) (fun _ _ _ h => h) (Or.inl ⟨by rfl, ?_⟩) hHeld ?_ ?_
  rotate_left
  · rintro w' ⟨s0, s1, s2, s3, s4, s5⟩
    go_simp
    with_reducible rfl
  rotate_left
  · simp only [Act.put, List.setIfInBounds_toArray, List.set_cons_zero, List.set_cons_succ, i64_w, i32_w]
    rfl
  refine take_ (i := 8) (N := some 13) (v := ?_) (a' := ?_) #[true, true, true, true, false, true, true, true, true, false, false, false, false] rfl rfl (take_ofW HT_.out HW_.out (by kernel_rfl)) (fun _ _ _ h => h) (Or.inl ⟨by rfl, ?_⟩) hHeld ?_ ?_
  rotate_left
  · rintro w' ⟨s0, s1, s2, s3, s4, s5⟩
    go_simp
    with_reducible rfl
  rotate_left
  · simp only [Act.put, List.setIfInBounds_toArray, List.set_cons_zero, List.set_cons_succ, i64_w, i32_w]
    rfl
  refine one_ (i := 4) (N := some 9) #[true, true, true, true, true, true, true, true, true, false, false, false, false] rfl rfl (one_of HT_.out (by kernel_rfl)) (by decide) (fun K hK => ?_)
  refine goes_ Try.func46 (by kernel_rfl) rfl #[.int .i64 a0_1, .int .i64 a1_1] (by rfl) rfl rfl mt_ ?_
  with_reducible refine (cmp_Compare_int.calls a0_1 a1_1 t107 _ A3.out).mono ?_
  rintro e w' ⟨rfl, ⟨nd, rfl⟩⟩
  refine ⟨_, rfl, ?_⟩
  refine hK.out _ _ ⟨(blk_cell BK105.out 0).trans rfl, (blk_cell BK105.out 1).trans rfl, (blk_cell BK105.out 2).trans rfl, (blk_cell BK106.out 0).trans rfl, (blk_cell BK106.out 1).trans rfl, (blk_cell BK106.out 2).trans rfl⟩ (fun hHeld => ?_)
  clear hK K
  refine norm_ (a' := ?_) ?_ ?_
  rotate_left
  · show Act.put _ (some 9) _ = _
    simp only [Act.put, List.setIfInBounds_toArray, List.set_cons_zero, List.set_cons_succ, i64_w, i32_w]
    rfl
  refine one_ (i := 9) (N := some 14) #[true, true, true, true, true, true, true, true, true, true, false, false, false] rfl rfl (one_of HT_.out (by kernel_rfl)) (by decide) (fun K hK => ?_)
  refine goes_ Try.func46 (by kernel_rfl) rfl #[.int .i64 a0_0, .int .i64 a1_0] (by rfl) rfl rfl mt_ ?_
  with_reducible refine (cmp_Compare_int.calls a0_0 a1_0 t108 _ A4.out).mono ?_
  rintro e w' ⟨rfl, ⟨nd, rfl⟩⟩
  refine ⟨_, rfl, ?_⟩
  refine hK.out _ _ ⟨(blk_cell BK105.out 0).trans rfl, (blk_cell BK105.out 1).trans rfl, (blk_cell BK105.out 2).trans rfl, (blk_cell BK106.out 0).trans rfl, (blk_cell BK106.out 1).trans rfl, (blk_cell BK106.out 2).trans rfl⟩ (fun hHeld => ?_)
  clear hK K
  refine norm_ (a' := ?_) ?_ ?_
  rotate_left
  · show Act.put _ (some 14) _ = _
    simp only [Act.put, List.setIfInBounds_toArray, List.set_cons_zero, List.set_cons_succ, i64_w, i32_w]
    rfl
  refine one_ (i := 10) (N := some 15) #[true, true, true, true, true, true, true, true, true, true, true, false, false] rfl rfl (one_of HT_.out (by kernel_rfl)) (by decide) (fun K hK => ?_)
  refine R_lit_stepD (Kd.int .i64) 3 ?hg (N := 15) ?hd (xs := ([t107, t108] : List Int)) (inner := [.int .i64 t107, .int .i64 t108]) (ok := fun _ => True) (okp := fun _ => True) ?hr ?hp (fun _ hk => hk) trivial (Below.refl _ _) (Nat.le_refl _) (by simp) ?_; (case hd => rfl); (case hg => rfl); (case hr => first | (go_simp; done) | (go_simp; rfl)); (case hp => exact (Reps.one (show Kd.M (Kd.int .i64) _ _ _ t107 [.int .i64 t107] from rfl) (Reps.one (show Kd.M (Kd.int .i64) _ _ _ t108 [.int .i64 t108] from rfl) (Reps.none _ _))))
  intro v110 w9 ho10 hb hg_ hnew_
  clear hg_ hnew_
  (first | rw [← Ny109.out] at ho10 | (simp only [Int.reduceToNat] at ho10; rw [← Ny109.out] at ho10))
  have n0_ := am_ (Kd.R_lower ho10 (belowD_size (by repeat (first | (with_reducible first | exact HB.out | apply belowD_alloc | apply pw_belowD_drewN | apply belowD_drew1 | refine belowD_set ?_ GE105.out | refine belowD_set ?_ GE106.out) | exact HB.out))))
  have n1_ := am_ (blk_below (g := gb105) (o := .cells #[.int .i64 a0_0, .int .i64 a0_1, .int .i64 a0_2] 45 (0, 0)) (bq_ BK105.out) hb.1)
  have n2_ := am_ (blk_below (g := gb106) (o := .cells #[.int .i64 a1_0, .int .i64 a1_1, .int .i64 a1_2] 45 (0, 0)) (bq_ BK106.out) hb.1)
  have n3_ := am_ (belowD_step (by repeat (first | (with_reducible first | exact HB.out | apply belowD_alloc | apply pw_belowD_drewN | apply belowD_drew1 | refine belowD_set ?_ GE105.out | refine belowD_set ?_ GE106.out) | exact HB.out)) hb)
  clear BK105
  clear BK106
  clear HB
  have HO111 := n0_
  have BK105 := n1_
  have BK106 := n2_
  have HB := n3_
  clear n0_ n1_ n2_ n3_
  clear hb ho10
  obtain ⟨Ao11, co11, eo11⟩ := Kd.R_slice HO111.out
  (first | subst eo11 | (injection eo11 with f1_ f2_ f3_; have f4_ := f1_.symm; have f5_ := f3_.symm; clear f1_ f2_ f3_; subst f4_; subst f5_))
  refine hK.out _ _ ⟨(blk_cell BK105.out 0).trans rfl, (blk_cell BK105.out 1).trans rfl, (blk_cell BK105.out 2).trans rfl, (blk_cell BK106.out 0).trans rfl, (blk_cell BK106.out 1).trans rfl, (blk_cell BK106.out 2).trans rfl⟩ (fun hHeld => ?_)
  clear hK K
  refine norm_ (a' := ?_) ?_ ?_
  rotate_left
  · show Act.put _ (some 15) _ = _
    simp only [Act.put, List.setIfInBounds_toArray, List.set_cons_zero, List.set_cons_succ, i64_w, i32_w]
    rfl
  refine one_ (i := 11) (N := some 16) #[true, true, true, true, true, true, true, true, true, true, true, true, false] rfl rfl (one_of HT_.out (by kernel_rfl)) (by decide) (fun K hK => ?_)
  refine goes_ Try.func45 (by kernel_rfl) rfl #[.slice Ao11 y109.length co11] (by rfl) rfl rfl mt_ ?_
  with_reducible refine (cmp_Or_int.calls k _ _ y109 t112 _ ?side1 ?side2 A5.out).mono ?_
  (case side1 => repeat (first | exact (Kd.R_reads' HO111.out).2.2 | (with_reducible refine Kd.C_alloc ?_ _) | (with_reducible refine Kd.C_drewN ?_ _) | (with_reducible refine Kd.C_drew ?_)))
  (case side2 => exact (Kd.R_reads' HO111.out).2.1)
  rintro e w' ⟨rfl, ⟨nd, rfl⟩⟩
  refine ⟨_, rfl, ?_⟩
  refine hK.out _ _ ⟨(blk_cell BK105.out 0).trans rfl, (blk_cell BK105.out 1).trans rfl, (blk_cell BK105.out 2).trans rfl, (blk_cell BK106.out 0).trans rfl, (blk_cell BK106.out 1).trans rfl, (blk_cell BK106.out 2).trans rfl⟩ (fun hHeld => ?_)
  clear hK K
  refine norm_ (a' := ?_) ?_ ?_
  rotate_left
  · show Act.put _ (some 16) _ = _
    simp only [Act.put, List.setIfInBounds_toArray, List.set_cons_zero, List.set_cons_succ, i64_w, i32_w]
    rfl
  refine pure_ (i := 12) (N := some 4) (v := ?_) (a' := ?_) #[true, true, true, true, true, true, true, true, true, true, true, true, true] rfl rfl (any_of HT_.out (by kernel_rfl)) (fun _ _ _ h => h) (Or.inl ⟨by rfl, ?_⟩) ?_ ?_
  rotate_left
  · intro w'
    go_simp
    with_reducible rfl
  rotate_left
  · simp only [Act.put, List.setIfInBounds_toArray, List.set_cons_zero, List.set_cons_succ, i64_w, i32_w]
    rfl
  refine done_ (done_of HT_.out (by kernel_rfl)) ?_
  try go_wp2
  go_ret
  exact ⟨by first | rfl | (simp [errW_none, errW_some] <;> rfl) | (simp [*, errW_none, errW_some] <;> rfl), by repeat (first | (with_reducible first | exact HB.out | apply belowD_alloc | apply pw_belowD_drewN | apply belowD_drew1 | refine belowD_set ?_ GE105.out | refine belowD_set ?_ GE106.out) | exact HB.out)⟩
end Go.Proofs.Ytdghehebkalbgaa.Q
end
section
namespace Go.Proofs.Ytdghehebkalbgaa.Q
open Go.RowKit Go.Maps Go.Proofs.YtdghehebkalbgaaW.PrintWords Go.Proofs.YtdghehebkalbgaaW.PrintLast Go.Proofs.YtdghehebkalbgaaW.PrintMore
def lookM {α : Type} [DecidableEq α] (es : List (α × Int)) (x : α) : Option Int := es.foldl (fun r p => if p.1 = x then some p.2 else r) none
theorem lookM_snoc {α : Type} [DecidableEq α] (es : List (α × Int)) (k : α) (v : Int) (x : α) : lookM (es ++ [(k, v)]) x = if k = x then some v else lookM es x := by
  unfold lookM; rw [List.foldl_append]; rfl
structure KeyEnc (K : TypeId) (α : Type) where
  enc : α → Value
  good : α → Prop
  kl : α → Lit
  law : Keyed Try.prog K
  key : ∀ x, good x → keyOf Try.prog K (enc x) = some (kl x)
  inj : ∀ x y, enc x = enc y → x = y
theorem KeyEnc.kl_inj {K : TypeId} {α : Type} (E : KeyEnc K α) {x y : α} (hx : E.good x) (hy : E.good y) (h : E.kl x = E.kl y) : x = y :=
  E.inj _ _ (E.law.inj (E.key x hx) (by rw [E.key y hy, h]))
theorem KeyEnc.isKey {K : TypeId} {α : Type} (E : KeyEnc K α) {x : α} (hx : E.good x) : WideAt.IsKeyLit (E.kl x) := E.law.key (E.key x hx)
def datM {α : Type} (kl : α → Lit) (es : List (α × Int)) : DataW Unit := es.foldl (fun m p => m.put (kl p.1) (.lit (.int .i64 p.2))) (.map [])
theorem datM_snoc {α : Type} (kl : α → Lit) (es : List (α × Int)) (k : α) (v : Int) : datM kl (es ++ [(k, v)]) = (datM kl es).put (kl k) (.lit (.int .i64 v)) := by
  unfold datM; rw [List.foldl_append]; rfl
section
variable {K : TypeId} {α : Type} [DecidableEq α] (E : KeyEnc K α)
theorem datM_fold (es : List (α × Int)) : ∀ (m : DataW Unit) (r : Option Int) (x : α), E.good x → (∀ p ∈ es, E.good p.1) → IsMap m → Maps.has m (E.kl x) = r.isSome → m.atKey (E.kl x) (.lit (.int .i64 0)) = .lit (.int .i64 (r.getD 0)) →
    Maps.has (es.foldl (fun m p => m.put (E.kl p.1) (.lit (.int .i64 p.2))) m) (E.kl x) = (es.foldl (fun r p => if p.1 = x then some p.2 else r) r).isSome ∧
    (es.foldl (fun m p => m.put (E.kl p.1) (.lit (.int .i64 p.2))) m).atKey (E.kl x) (.lit (.int .i64 0)) = .lit (.int .i64 ((es.foldl (fun r p => if p.1 = x then some p.2 else r) r).getD 0)) := by
  induction es with
  | nil => intro m r x _ _ _ h1 h2; exact ⟨h1, h2⟩
  | cons p es ih =>
    intro m r x hx hg hm h1 h2
    simp only [List.foldl_cons]
    have hp := hg p List.mem_cons_self
    refine ih _ _ x hx (fun q hq => hg q (List.mem_cons_of_mem _ hq)) (hm.put _ _) ?_ ?_
    · by_cases e : p.1 = x
      · rw [if_pos e, e, has_put_same hm (E.isKey hx)]; rfl
      · rw [if_neg e, has_put_other (fun h => e (E.kl_inj hp hx h.symm))]; exact h1
    · by_cases e : p.1 = x
      · rw [if_pos e, e, atKey_put_same hm (E.isKey hx)]; rfl
      · rw [if_neg e, atKey_put_other (fun h => e (E.kl_inj hp hx h.symm))]; exact h2
theorem has_datM {es : List (α × Int)} (hes : ∀ p ∈ es, E.good p.1) {x : α} (hx : E.good x) : Maps.has (datM E.kl es) (E.kl x) = (lookM es x).isSome :=
  (datM_fold E es (.map []) none x hx hes isMap_empty rfl rfl).1
theorem at_datM {es : List (α × Int)} (hes : ∀ p ∈ es, E.good p.1) {x : α} (hx : E.good x) : (datM E.kl es).atKey (E.kl x) (.lit (.int .i64 0)) = .lit (.int .i64 ((lookM es x).getD 0)) :=
  (datM_fold E es (.map []) none x hx hes isMap_empty rfl rfl).2
end
def MapI {K : TypeId} {α : Type} (E : KeyEnc K α) (w : World) (b n : Nat) (es : List (α × Int)) : Prop := (w.ownsMap Try.prog K (plainElem Try.prog 3) b n (datM E.kl es)) ∧ ∀ p ∈ es, E.good p.1
section
variable {K : TypeId} {α : Type} {E : KeyEnc K α} {w w1 : World} {b n : Nat} {es : List (α × Int)}
theorem MapI.made (E : KeyEnc K α) (w : World) : MapI E (w.alloc (.map #[] 0)) w.heap.size 0 ([] : List (α × Int)) := ⟨World.ownsMap_made _ _ _ _, fun p hp => by cases hp⟩
theorem MapI.block (h : MapI E w b n es) : ∃ es clock, w.heap[b]? = some (.map es clock) := by obtain ⟨⟨x, c, hb, _⟩, _⟩ := h; exact ⟨x, c, hb⟩
theorem MapI.lt (h : MapI E w b n es) : b < w.heap.size := by
  obtain ⟨x, c, hb⟩ := h.block
  exact (Array.getElem?_eq_some_iff.1 hb).1
theorem MapI.move (h : MapI E w b n es) (hb : w1.heap[b]? = w.heap[b]?) : MapI E w1 b n es := by
  obtain ⟨⟨x, c, hx, r⟩, g⟩ := h
  exact ⟨⟨x, c, hb.trans hx, r⟩, g⟩
theorem MapI.below (h : MapI E w b n es) (hb : Below w.heap.size w w1) : MapI E w1 b n es := h.move (hb.block b h.lt)
theorem MapI.alloc (h : MapI E w b n es) (o : Obj) : MapI E (w.alloc o) b n es := h.below (below_alloc (Below.refl _ _) o)
theorem MapI.drew (h : MapI E w b n es) : MapI E w.drew b n es := h.below (below_drew (Below.refl _ _))
theorem MapI.drewN (h : MapI E w b n es) (m : Nat) : MapI E (w.drewN m) b n es := h.below (pw_below_drewN (Below.refl _ _) m)
theorem MapI.grown (h : MapI E w b n es) {row : Option Nat} (hg : w.grownBy w1 row) (ht : ∀ k, row = some k → ∃ cells q fr, w.heap[k]? = some (.cells cells q fr)) : MapI E w1 b n es :=
  h.move (hg.block b h.lt (fun e => by
    obtain ⟨x, c, hb⟩ := h.block
    obtain ⟨cells, q, fr, hk⟩ := ht b e.symm
    rw [hk] at hb; injection hb with hb; cases hb))
theorem MapI.put [DecidableEq α] (h : MapI E w b n es) {n' : Nat} {x : α} {v : Int} (hx : E.good x) (hw : w1.ownsMap Try.prog K (plainElem Try.prog 3) b n' ((datM E.kl es).put (E.kl x) (.lit (.int .i64 v)))) : MapI E w1 b n' (es ++ [(x, v)]) := by
  refine ⟨by rw [datM_snoc]; exact hw, fun p hp => ?_⟩
  rcases List.mem_append.1 hp with hp | hp
  · exact h.2 p hp
  · rw [List.mem_singleton.1 hp]; exact hx
end
theorem S_nomap {α : Type} {d : Kd α} {e : Nat} {w : World} {base : Nat} {ok : Nat → Prop} {v : Value} {xs : List α} (h : Kd.S d e w base ok v xs) {b : Nat} (hb : ∃ es clock, w.heap[b]? = some (.map es clock)) : Kd.S d e w base (fun k => ok k ∧ k ≠ b) v xs :=
  Kd.S_mono (Kd.S_bound h) (fun k hk => ⟨hk.1, by
    obtain ⟨_, _, _, q, _, cells, hc⟩ := hk
    obtain ⟨es, clock, hm⟩ := hb
    rintro rfl
    rw [hc] at hm; injection hm with hm; cases hm⟩)
theorem laidOutT : laidOutB Try.prog = true := by kernel_rfl
theorem zeroInt (w : World) : (zeroValue 3).run Try.prog w = .ok (.int .i64 0) w := by kernel_rfl
def w64 (n : Int) : Prop := (Lit.int .i64 n).wf = true
def kl2 (p : Int × Int) : Lit := .string (keyBytes [.int .i64 p.1, .int .i64 p.2])
theorem sizeT : ∃ m, Try.prog.types.size = m + 1 := ⟨127, by kernel_rfl⟩
theorem arr75 : WideMaps.ArrKey Try.prog 75 3 2 := ⟨Try.underlying75, by kernel_rfl, by kernel_rfl, by kernel_rfl⟩
theorem key_75 (a b : Int) (ha : w64 a) (hb : w64 b) : keyOf Try.prog 75 (.agg #[.int .i64 a, .int .i64 b]) = some (kl2 (a, b)) :=
  WideMaps.keyOf_pair arr75 Try.underlying3 sizeT ha hb
theorem law75 : Keyed Try.prog 75 := Keyed.of_law (deep_law_laid laidOutT (m := 2) (by decide) (by decide +kernel) (by kernel_rfl) (by rw [Try.underlying75]))
def enc2 (p : Int × Int) : Value := .agg #[.int .i64 p.1, .int .i64 p.2]
theorem enc2_inj (x y : Int × Int) (h : enc2 x = enc2 y) : x = y := by
  unfold enc2 at h
  injection h with h
  simp only [Array.mk.injEq, List.cons.injEq, Value.int.injEq, true_and, and_true] at h
  exact Prod.ext h.1 h.2
def E75 : KeyEnc 75 (Int × Int) := ⟨enc2, fun p => w64 p.1 ∧ w64 p.2, kl2, law75, fun x h => key_75 x.1 x.2 h.1 h.2, enc2_inj⟩
section
variable {K : TypeId} {α : Type} {E : KeyEnc K α} {w w1 : World} {b n : Nat} {es : List (α × Int)}
theorem MapI.ne (h : MapI E w b n es) {g : Nat} {cells : Array Value} {q : TypeId} {fr : Nat × Nat} (hg : w.heap[g]? = some (.cells cells q fr)) : g ≠ b := by
  obtain ⟨x, c, hb⟩ := h.block
  rintro rfl
  rw [hg] at hb; injection hb with hb; cases hb
theorem MapI.far (h : MapI E w b n es) {p : Addr} (hne : p.block ≠ b) (u : Value) : MapI E (w.setCell p u) b n es := h.move (Below.heap_setCell w p u b (fun e => hne e.symm))
theorem MapI.farg (h : MapI E w b n es) {g j : Nat} (hne : g ≠ b) (u : Value) : MapI E (w.setCell ⟨g, j, none⟩ u) b n es := h.far (p := ⟨g, j, none⟩) hne u
theorem MapI.grownT (h : MapI E w b n es) {row : Option Nat} (hg : w.grownBy w1 row) {q : TypeId} (ht : ∀ k, row = some k → ∃ cells, w.heap[k]? = some (.cells cells q (0, 0))) : MapI E w1 b n es :=
  h.grown hg (fun k hk => by obtain ⟨c, hc⟩ := ht k hk; exact ⟨c, q, (0, 0), hc⟩)
end
section
variable {ops : Array Oper} {rest : List Oper} {o : Oper} {a : Act} {Q : Exit → Act → World → Prop} {K : TypeId} {α : Type}
theorem mmake (E : KeyEnc K α) (W : World) (hg : o.guard = none) (t : TypeId) (hop : o.op = Op.makeMap t none)
    (hK : ∀ w' mb, MapI E w' mb 0 ([] : List (α × Int)) → Below W.heap.size W w' → W.heap.size ≤ mb → wpList Try.prog ops Q rest (a.put o.dst (.map (some mb))) w') : wpList Try.prog ops Q (o :: rest) a W := by
  refine wpList_plain hg fun K' hK' => ?_
  unfold Oper.wp
  have hmm := @run_makeMap Try.prog t W
  simp [execOp, hop, hmm, Result.andThen]
  exact hK' _ _ (hK _ _ (MapI.made E W) (below_alloc (Below.refl _ _) _) (Nat.le_refl _))
theorem mlook [DecidableEq α] (E : KeyEnc K α) (W : World) (hg : o.guard = none) (m x : Operand) (t : TypeId) (hop : o.op = Op.lookup t m x true) (ht : Try.prog.underlying t = some (.map K 3)) {b n : Nat} {es : List (α × Int)}
    (hm : a.eval m = .map (some b)) (hM : MapI E W b n es) (key : α) (hx : a.eval x = E.enc key) (hk : E.good key)
    (hK : ∀ w', Below W.heap.size W w' → wpList Try.prog ops Q rest (a.put o.dst (.tuple #[.int .i64 ((lookM es key).getD 0), .bool (lookM es key).isSome])) w') : wpList Try.prog ops Q (o :: rest) a W := by
  refine wpList_lookup_own_ok_int W hg m x t hop K 3 .i64 E.law ht Try.underlying3 (zeroInt W) b n _ hm hM.1 _ (E.kl key) hx (E.key key hk) ?_
  intro c hat hwc
  rw [has_datM E hM.2 hk]
  have h2 := at_datM E hM.2 hk
  rw [hat] at h2
  injection h2 with h2
  injection h2 with _ h2
  subst h2
  exact hK W (Below.refl _ _)
theorem mput [DecidableEq α] (E : KeyEnc K α) (W : World) (hg : o.guard = none) (m x v : Operand) (t : TypeId) (hop : o.op = Op.mapUpdate t m x v) (ht : Try.prog.underlying t = some (.map K 3)) {b n : Nat} {es : List (α × Int)}
    (hm : a.eval m = .map (some b)) (hM : MapI E W b n es) (key : α) (val : Int) (hx : a.eval x = E.enc key) (hv : a.eval v = .int .i64 val) (hk : E.good key) (hw : w64 val) (hn : n < maxLen)
    (hK : ∀ w', MapI E w' b (n + 1) (es ++ [(key, val)]) → W.grownBy w' (some b) → wpList Try.prog ops Q rest (a.put o.dst undef) w') : wpList Try.prog ops Q (o :: rest) a W := by
  refine wpList_mapUpdate_own W hg m x v t hop K 3 E.law ht (plainElem Try.prog 3) b n _ hm hM.1 hn _ _ (E.kl key) hx hv (E.key key hk) (.lit (.int .i64 val)) [] (plainElem_int Try.underlying3 hw) ?_
  intro w' h1 h2
  exact hK w' (MapI.put hM hk h1) h2
end
def lookF {α : Type} [DecidableEq α] (good : α → Bool) (es : List (α × Int)) (x : α) : Option (Int × Bool) := if good x = true then some ((lookM es x).getD 0, (lookM es x).isSome) else none
def putF {α : Type} (good : α → Bool) (es : List (α × Int)) (x : α) (v : Int) : Option (List (α × Int)) := if good x = true ∧ (Lit.int .i64 v).wf = true ∧ es.length < 100000000 then some (es ++ [(x, v)]) else none
def good2 (p : Int × Int) : Bool := (Lit.int .i64 p.1).wf && (Lit.int .i64 p.2).wf
theorem good2_ok {p : Int × Int} (h : good2 p = true) : w64 p.1 ∧ w64 p.2 := by simpa [good2, w64] using h
theorem lookF_some {α : Type} [DecidableEq α] {good : α → Bool} {es : List (α × Int)} {x : α} {v : Int} {b : Bool} (h : lookF good es x = some (v, b)) : good x = true ∧ (lookM es x).getD 0 = v ∧ (lookM es x).isSome = b := by
  unfold lookF at h
  split at h
  · rename_i hg
    injection h with h
    injection h with h1 h2
    exact ⟨hg, h1, h2⟩
  · cases h
theorem putF_some {α : Type} {good : α → Bool} {es es' : List (α × Int)} {x : α} {v : Int} (h : putF good es x v = some es') : good x = true ∧ w64 v ∧ es.length < 100000000 ∧ es' = es ++ [(x, v)] := by
  unfold putF at h
  split at h
  · rename_i hg
    injection h with h
    exact ⟨hg.1, hg.2.1, hg.2.2, h.symm⟩
  · cases h
end Go.Proofs.Ytdghehebkalbgaa.Q
end
