/- A part of the proof: words, contracts, plain lemmas. Conditions: none. -/
import Derived.Test.YtloebciamfbjfaaZPileOrders3
import Derived.Test.YtloebciamfbjfaaZPileOrders4
import Derived.Sort.Grow
import Derived.Shelf.SlSortCmp.NoneTotal
section
namespace Go.Proofs.Ytloebciamfbjfaa.Q
open Go.RowKit Go.Proofs.YtloebciamfbjfaaW.PrintWords Go.Proofs.YtloebciamfbjfaaW.PrintLast Go.Proofs.YtloebciamfbjfaaW.PrintMore
set_option linter.unusedVariables false
set_option linter.unusedSimpArgs false
def BelowD (B : Nat) (w w' : World) : Prop := Below B w w' ∧ w.drawn ≤ w'.drawn
theorem BelowD.refl (B : Nat) (w : World) : BelowD B w w := ⟨Below.refl _ _, Nat.le_refl _⟩
theorem belowD_size {w W : World} (h : BelowD w.heap.size w W) : w.heap.size ≤ W.heap.size := h.1.size
theorem belowD_alloc {w W : World} (h : BelowD w.heap.size w W) (o : Obj) : BelowD w.heap.size w (W.alloc o) := ⟨below_alloc h.1 o, h.2⟩
theorem pw_belowD_drewN {B : Nat} {w W : World} (h : BelowD B w W) (n : Nat) : BelowD B w (W.drewN n) := ⟨pw_below_drewN h.1 n, Nat.le_trans h.2 (Nat.le_add_right _ _)⟩
theorem belowD_drew1 {base : Nat} {w W : World} (h : BelowD base w W) : BelowD base w W.drew := ⟨below_drew1 h.1, Nat.le_trans h.2 (Nat.le_add_right _ _)⟩
theorem setCell_drawn (W : World) (p : Addr) (v : Value) : (W.setCell p v).drawn = W.drawn := by
  unfold World.setCell
  split <;> rfl
theorem belowD_set {w W : World} {g j : Nat} {v : Value} (h : BelowD w.heap.size w W) (hg : w.heap.size ≤ g) : BelowD w.heap.size w (W.setCell ⟨g, j, none⟩ v) := ⟨below_set h.1 hg, by rw [setCell_drawn]; exact h.2⟩
theorem belowD_step {w W w2 : World} (h : BelowD w.heap.size w W) (k : BelowD W.heap.size W w2) : BelowD w.heap.size w w2 := ⟨below_step h.1 k.1, Nat.le_trans h.2 k.2⟩
theorem BelowD.grow {w w' : World} (h : BelowD w.heap.size w w') : ∃ q os', w' = Go.Sort.grow (w.drewN q) os' := by
  obtain ⟨⟨h1, h2, h3, h4, h5⟩, hd⟩ := h
  refine ⟨w'.drawn - w.drawn, w'.heap.extract w.heap.size w'.heap.size, ?_⟩
  obtain ⟨hp, tp, dr, os, ou⟩ := w'
  obtain ⟨hp0, tp0, dr0, os0, ou0⟩ := w
  simp only at h1 h2 h3 h4 h5 hd
  subst h1 h2 h3
  unfold Go.Sort.grow World.drewN
  simp only [World.mk.injEq, and_true, true_and]
  refine ⟨?_, by omega⟩
  apply Array.ext_getElem?
  intro i
  by_cases hi : i < hp0.size
  · rw [h5 i hi, Array.getElem?_append_left hi]
  · rw [Array.getElem?_append_right (by omega)]
    by_cases h2 : i < hp.size
    · rw [Array.getElem?_eq_getElem h2, Array.getElem?_eq_getElem (by simp; omega)]
      simp [Array.getElem_extract, show hp0.size + (i - hp0.size) = i from by omega]
    · rw [Array.getElem?_eq_none (by omega), Array.getElem?_eq_none (by simp; omega)]
section
variable {P : Program} {ops : Array Oper} {rest : List Oper} {o : Oper} {a : Act} {Q : Exit → Act → World → Prop}
theorem box_eventD {W : World} (hgd : o.guard = none) {N : Tmp} (_hd : o.dst = some N) {cs : Array Value} {t : TypeId}
    (hrun : (execOp a.eval o).run P W = .ok (.value (.pointer (some ⟨W.heap.size, 0, none⟩))) (W.alloc (.cells cs t (0, 0))))
    (h : ∀ g, g = W.heap.size → ∀ w1, w1.heap[g]? = some (.cells cs t (0, 0)) → BelowD W.heap.size W w1 → wpList P ops Q rest (a.put o.dst (.pointer (some ⟨g, 0, none⟩))) w1) : wpList P ops Q (o :: rest) a W :=
  Kd.event_run hgd hrun (h _ rfl _ (blk_new W _) (belowD_alloc (BelowD.refl _ _) _))
end
section
variable {P : Program} {ops : Array Oper} {o : Oper} {a : Act} {Q : Exit → Act → World → Prop} {Kc : Act → World → Prop} {α : Type}
theorem R_lit_stepD (d : Kd α) {W : World} (e : Nat) (hw : Region.wanted o (yielded ops a.tmps) = true) {N : Tmp} (hd : o.dst = some N) {xs : List α} {inner : List Value} {ok okp : Nat → Prop}
    (hrun : (execOp a.eval o).run P W = .ok (.value (.slice (some ⟨W.heap.size, 0, none⟩) xs.length xs.length)) (W.alloc (.cells inner.toArray e)))
    (hrep : Reps (d.M W W.heap.size okp) d.sz xs inner) (hok : ∀ k, okp k → ok k) (hfresh : ok W.heap.size) (HB : Below W.heap.size W W) (hbase : W.heap.size ≤ W.heap.size) (hm : xs.length ≤ 9223372036854775807)
    (h : ∀ v1 w1, d.R e w1 W.heap.size ok v1 xs → BelowD W.heap.size W w1 → W.grownBy w1 none → (∃ b, v1.ownBlock = some b ∧ W.heap.size ≤ b) → Kc (a.put o.dst v1) w1) : if Region.wanted o (yielded ops a.tmps) = true then Oper.wp P o a W Kc Q else Kc (a.put o.dst undef) W := by
  refine event_step hw hrun (h _ _ ⟨fun k hk => ?_, inner, ?_, ?_⟩ (belowD_alloc (BelowD.refl _ _) _) (World.grownBy_alloc W _ none) ⟨W.heap.size, by simp [Value.ownBlock], Nat.le_refl _⟩)
  · have : W.heap.size = k := by simpa [Value.ownBlock] using hk
    subst this
    exact hfresh
  · have h2 := World.ownsRow_lit (base := W.heap.size) (e := e) (size := d.sz) W inner.toArray xs.length hbase (by simpa [maxLen] using hm) (by simpa using hrep.1)
    simpa using h2
  · refine hrep.imp_ (fun p c hp => d.M_mono (fun k hk => ⟨hok k hk.1, fun he => ?_⟩) (Kd.M_below (d.M_bound hp) (below_alloc (Below.refl _ _) _)))
    have h3 : k = W.heap.size := by simpa [Value.ownBlock] using he
    have := hk.2.2.1
    omega
end
set_option maxHeartbeats 8000000 in
set_option maxRecDepth 100000 in
theorem pile_compare.callsD (k : Nat) (a0_0 : Int) (a0_1 : Int) (a1_0 : Int) (a1_1 : Int) (r : Int) (w : World) (h : pile_compare.f k a0_0 a0_1 a1_0 a1_1 = some r) :
    Calls Try.prog 29 #[.agg #[.int .i64 a0_0, .int .i64 a0_1], .agg #[.int .i64 a1_0, .int .i64 a1_1]] w fun e w' => e = .returned (.int .i64 r) ∧ BelowD w.heap.size w w' := by
  have hu34 := Try.underlying34
  have HB := Aside0.mk (BelowD.refl w.heap.size w)
  have H : ((cmp_Compare_int.f a0_0 a1_0).bind fun t137 => ((cmp_Compare_int.f a0_1 a1_1).bind fun t138 => ((cmp_Or_int.f k (([t137, t138] : List Int))).bind fun t142 => (some t142)))) = some r := h
  clear h
  replace H := Option.bind_eq_some_iff.mp H
  obtain ⟨t137, A30, H⟩ := H
  replace H : ((cmp_Compare_int.f a0_1 a1_1).bind fun t138 => ((cmp_Or_int.f k (([t137, t138] : List Int))).bind fun t142 => (some t142))) = some r := H
  have A3 := Aside0.mk A30
  clear A30
  replace H := Option.bind_eq_some_iff.mp H
  obtain ⟨t138, A40, H⟩ := H
  replace H : ((cmp_Or_int.f k (([t137, t138] : List Int))).bind fun t142 => (some t142)) = some r := H
  have A4 := Aside0.mk A40
  clear A40
  obtain ⟨y139, hy139⟩ : ∃ y_ : List Int, y_ = (([t137, t138] : List Int)) := ⟨_, rfl⟩
  replace H : ((cmp_Or_int.f k y139).bind fun t142 => (some t142)) = some r := by first | (rw [hy139]; with_reducible exact H) | (have H2_ := (Option.bind_some _ _).symm.trans H; rw [hy139]; with_reducible exact H2_) | (have H2_ := (Option.bind_some _ _).symm.trans H; with_reducible exact H2_) | with_reducible exact H | (rw [hy139]; exact H) | exact H
  have Ny139 := Aside0.mk hy139
  clear hy139
  replace H := Option.bind_eq_some_iff.mp H
  obtain ⟨t142, A50, H⟩ := H
  replace H : (some t142) = some r := H
  have A5 := Aside0.mk A50
  clear A50
  obtain rfl := Option.some.inj H
  go_enter Try.func29, Try.ntmps29
  try go_wp2_with (first | ((with_reducible refine gate_dst (N := 2) rfl ?_); refine box_eventD ?hg (N := 2) ?hd (cs := #[.int .i64 a0_0, .int .i64 a0_1]) (t := 34) ?hr ?_; (case hd => rfl); (case hg => rfl); (case hr => first | (go_simp; done) | (go_simp; rfl)); intro gb135 hg w6 hbox hb; have n0_ := Aside0.mk (belowD_step (by repeat (first | (with_reducible first | exact HB.out | apply belowD_alloc | apply pw_belowD_drewN | apply belowD_drew1) | exact HB.out)) hb); have n1_ := Aside0.mk (hbox); have n2_ := Aside0.mk ((by rw [hg]; exact (belowD_size (by repeat (first | (with_reducible first | exact HB.out | apply belowD_alloc | apply pw_belowD_drewN | apply belowD_drew1) | exact HB.out))) : w.heap.size ≤ gb135)); have n3_ := Aside0.mk ((by rw [hg]; exact (belowD_size (by repeat (first | (with_reducible first | exact HB.out | apply belowD_alloc | apply pw_belowD_drewN | apply belowD_drew1) | exact HB.out))) : w.heap.size ≤ gb135)); clear HB; have HB := n0_; have BK135 := n1_; have GW135 := n2_; have GE135 := n3_; clear n0_ n1_ n2_ n3_; clear hb hbox hg) | ((with_reducible refine gate_dst (N := 3) rfl ?_); refine box_eventD ?hg (N := 3) ?hd (cs := #[.int .i64 a1_0, .int .i64 a1_1]) (t := 34) ?hr ?_; (case hd => rfl); (case hg => rfl); (case hr => first | (go_simp; done) | (go_simp; rfl)); intro gb136 hg w7 hbox hb; have n0_ := Aside0.mk (blk_below (g := gb135) (o := .cells #[.int .i64 a0_0, .int .i64 a0_1] 34 (0, 0)) (by (with_reducible repeat (first | refine blk_drewN ?_ _ | refine blk_drew ?_ | refine blk_alloc ?_ _)); exact BK135.out) hb.1); have n1_ := Aside0.mk (belowD_step (by repeat (first | (with_reducible first | exact HB.out | apply belowD_alloc | apply pw_belowD_drewN | apply belowD_drew1 | refine belowD_set ?_ GE135.out) | exact HB.out)) hb); have n2_ := Aside0.mk (hbox); have n3_ := Aside0.mk ((by rw [hg]; exact (belowD_size (by repeat (first | (with_reducible first | exact HB.out | apply belowD_alloc | apply pw_belowD_drewN | apply belowD_drew1 | refine belowD_set ?_ GE135.out) | exact HB.out))) : w.heap.size ≤ gb136)); have n4_ := Aside0.mk ((by rw [hg]; exact (belowD_size (by repeat (first | (with_reducible first | exact HB.out | apply belowD_alloc | apply pw_belowD_drewN | apply belowD_drew1 | refine belowD_set ?_ GE135.out) | exact HB.out))) : w.heap.size ≤ gb136)); have n5_ := Aside0.mk ((by rw [hg]; exact Nat.ne_of_lt (blk_lt (g := gb135) (o := .cells #[.int .i64 a0_0, .int .i64 a0_1] 34 (0, 0)) (by (with_reducible repeat (first | refine blk_drewN ?_ _ | refine blk_drew ?_ | refine blk_alloc ?_ _)); exact BK135.out)) : gb135 ≠ gb136)); have n6_ := Aside0.mk ((by rw [hg]; exact Nat.ne_of_gt (blk_lt (g := gb135) (o := .cells #[.int .i64 a0_0, .int .i64 a0_1] 34 (0, 0)) (by (with_reducible repeat (first | refine blk_drewN ?_ _ | refine blk_drew ?_ | refine blk_alloc ?_ _)); exact BK135.out)) : gb136 ≠ gb135)); clear BK135; clear HB; have BK135 := n0_; have HB := n1_; have BK136 := n2_; have GW136 := n3_; have GE136 := n4_; have NB135_136 := n5_; have NB136_135 := n6_; clear n0_ n1_ n2_ n3_ n4_ n5_ n6_; clear hb hbox hg))
  have n0_ := Aside0.mk (blk_drew BK135.out)
  have n1_ := Aside0.mk (blk_drew BK136.out)
  have n2_ := Aside0.mk (belowD_drew1 HB.out)
  clear BK135
  clear BK136
  clear HB
  have BK135 := n0_
  have BK136 := n1_
  have HB := n2_
  clear n0_ n1_ n2_
  refine start_ (n := 13) (S := fun w' => w'.cell? ⟨gb135, 0, none⟩ = some (.int .i64 a0_0) ∧ w'.cell? ⟨gb135, 1, none⟩ = some (.int .i64 a0_1) ∧ w'.cell? ⟨gb136, 0, none⟩ = some (.int .i64 a1_0) ∧ w'.cell? ⟨gb136, 1, none⟩ = some (.int .i64 a1_1)) (ds := []) #[false, false, false, false, false, false, false, false, false, false, false, false, false] (by kernel_rfl) rfl rfl ⟨(blk_cell BK135.out 0).trans rfl, (blk_cell BK135.out 1).trans rfl, (blk_cell BK136.out 0).trans rfl, (blk_cell BK136.out 1).trans rfl⟩ (fun hHeld => ?_); refine with_tabW pile_compare.tab1 pile_compare.bits1 (fun HT_ HW_ => ?_)
  generalize w7.drew = w8 at BK135 BK136 HB hHeld ⊢
  refine pure_ (i := 0) (N := some 5) (v := ?_) (a' := ?_) #[true, false, false, false, false, false, false, false, false, false, false, false, false] rfl rfl (any_of HT_.out (by kernel_rfl)) (fun _ _ _ h => h) (Or.inl ⟨by rfl, ?_⟩) ?_ ?_
  rotate_left
  · intro w'
    go_simp
    with_reducible rfl
  rotate_left
  · simp only [Act.put, List.setIfInBounds_toArray, List.set_cons_zero, List.set_cons_succ, i64_w, i32_w]
    rfl
  refine pure_ (i := 2) (N := some 7) (v := ?_) (a' := ?_) #[true, false, true, false, false, false, false, false, false, false, false, false, false] rfl rfl (any_of HT_.out (by kernel_rfl)) (fun _ _ _ h => h) (Or.inl ⟨by rfl, ?_⟩) ?_ ?_
  rotate_left
  · intro w'
    go_simp
    with_reducible rfl
  rotate_left
  · simp only [Act.put, List.setIfInBounds_toArray, List.set_cons_zero, List.set_cons_succ, i64_w, i32_w]
    rfl
  refine pure_ (i := 5) (N := some 10) (v := ?_) (a' := ?_) #[true, false, true, false, false, true, false, false, false, false, false, false, false] rfl rfl (any_of HT_.out (by kernel_rfl)) (fun _ _ _ h => h) (Or.inl ⟨by rfl, ?_⟩) ?_ ?_
  rotate_left
  · intro w'
    go_simp
    with_reducible rfl
  rotate_left
  · simp only [Act.put, List.setIfInBounds_toArray, List.set_cons_zero, List.set_cons_succ, i64_w, i32_w]
    rfl
  refine pure_ (i := 7) (N := some 12) (v := ?_) (a' := ?_) #[true, false, true, false, false, true, false, true, false, false, false, false, false] rfl rfl (any_of HT_.out (by kernel_rfl)) (fun _ _ _ h => h) (Or.inl ⟨by rfl, ?_⟩) ?_ ?_
  rotate_left
  · intro w'
    go_simp
    with_reducible rfl
  rotate_left
  · simp only [Act.put, List.setIfInBounds_toArray, List.set_cons_zero, List.set_cons_succ, i64_w, i32_w]
    rfl
  refine take_ (i := 1) (N := some 6) (v := ?_) (a' := ?_) #[true, true, true, false, false, true, false, true, false, false, false, false, false] rfl rfl (take_ofW HT_.out HW_.out (by kernel_rfl)) (fun _ _ _ h => h) (Or.inl ⟨by rfl, ?_⟩) hHeld ?_ ?_
  rotate_left
  · rintro w' ⟨s0, s1, s2, s3⟩
    go_simp
    with_reducible rfl
  rotate_left
  · simp only [Act.put, List.setIfInBounds_toArray, List.set_cons_zero, List.set_cons_succ, i64_w, i32_w]
    rfl
  refine take_ (i := 3) (N := some 8) (v := ?_) (a' := ?_) #[true, true, true, true, false, true, false, true, false, false, false, false, false] rfl rfl (take_ofW HT_.out HW_.out (by kernel_rfl)) (fun _ _ _ h => h) (Or.inl ⟨by rfl, ?_⟩) hHeld ?_ ?_
  rotate_left
  · rintro w' ⟨s0, s1, s2, s3⟩
    go_simp
    with_reducible rfl
  rotate_left
  · simp only [Act.put, List.setIfInBounds_toArray, List.set_cons_zero, List.set_cons_succ, i64_w, i32_w]
    rfl
  refine take_ (i := 6) (N := some 11) (v := ?_) (a' := ?_) #[true, true, true, true, false, true, true, true, false, false, false, false, false] rfl rfl (take_ofW HT_.out HW_.out (by kernel_rfl)) (fun _ _ _ h => h) (Or.inl ⟨by rfl, ?_⟩) hHeld ?_ ?_
  rotate_left
  · rintro w' ⟨s0, s1, s2, s3⟩
    go_simp
    with_reducible rfl
  rotate_left
  · simp only [Act.put, List.setIfInBounds_toArray, List.set_cons_zero, List.set_cons_succ, i64_w, i32_w]
    rfl
  refine take_ (i := 8) (N := some 13) (v := ?_) (a' := ?_) #[true, true, true, true, false, true, true, true, true, false, false, false, false] rfl rfl (take_ofW HT_.out HW_.out (by kernel_rfl)) (fun _ _ _ h => h) (Or.inl ⟨by rfl, ?_⟩) hHeld ?_ ?_
  rotate_left
  · rintro w' ⟨s0, s1, s2, s3⟩
    go_simp
    with_reducible rfl
  rotate_left
  · simp only [Act.put, List.setIfInBounds_toArray, List.set_cons_zero, List.set_cons_succ, i64_w, i32_w]
    rfl
  refine one_ (i := 4) (N := some 9) #[true, true, true, true, true, true, true, true, true, false, false, false, false] rfl rfl (one_of HT_.out (by kernel_rfl)) (by decide) (fun K hK => ?_)
  refine goes_ Try.func36 (by kernel_rfl) rfl #[.int .i64 a0_0, .int .i64 a1_0] (by rfl) rfl rfl (by (try simp only [List.map_toArray, List.map_cons, List.map_nil]); first | done | rfl | (simp only [List.length_drop, List.length_take]; rfl)) ?_
  with_reducible refine (cmp_Compare_int.calls a0_0 a1_0 t137 _ A3.out).mono ?_
  rintro e w' ⟨rfl, ⟨nd, rfl⟩⟩
  refine ⟨_, rfl, ?_⟩
  refine hK.out _ _ ⟨(blk_cell BK135.out 0).trans rfl, (blk_cell BK135.out 1).trans rfl, (blk_cell BK136.out 0).trans rfl, (blk_cell BK136.out 1).trans rfl⟩ (fun hHeld => ?_)
  clear hK K
  refine norm_ (a' := ?_) ?_ ?_
  rotate_left
  · show Act.put _ (some 9) _ = _
    simp only [Act.put, List.setIfInBounds_toArray, List.set_cons_zero, List.set_cons_succ, i64_w, i32_w]
    rfl
  refine one_ (i := 9) (N := some 14) #[true, true, true, true, true, true, true, true, true, true, false, false, false] rfl rfl (one_of HT_.out (by kernel_rfl)) (by decide) (fun K hK => ?_)
  refine goes_ Try.func36 (by kernel_rfl) rfl #[.int .i64 a0_1, .int .i64 a1_1] (by rfl) rfl rfl (by (try simp only [List.map_toArray, List.map_cons, List.map_nil]); first | done | rfl | (simp only [List.length_drop, List.length_take]; rfl)) ?_
  with_reducible refine (cmp_Compare_int.calls a0_1 a1_1 t138 _ A4.out).mono ?_
  rintro e w' ⟨rfl, ⟨nd, rfl⟩⟩
  refine ⟨_, rfl, ?_⟩
  refine hK.out _ _ ⟨(blk_cell BK135.out 0).trans rfl, (blk_cell BK135.out 1).trans rfl, (blk_cell BK136.out 0).trans rfl, (blk_cell BK136.out 1).trans rfl⟩ (fun hHeld => ?_)
  clear hK K
  refine norm_ (a' := ?_) ?_ ?_
  rotate_left
  · show Act.put _ (some 14) _ = _
    simp only [Act.put, List.setIfInBounds_toArray, List.set_cons_zero, List.set_cons_succ, i64_w, i32_w]
    rfl
  refine one_ (i := 10) (N := some 15) #[true, true, true, true, true, true, true, true, true, true, true, false, false] rfl rfl (one_of HT_.out (by kernel_rfl)) (by decide) (fun K hK => ?_)
  refine R_lit_stepD (Kd.int .i64) 3 ?hg (N := 15) ?hd (xs := ([t137, t138] : List Int)) (inner := [.int .i64 t137, .int .i64 t138]) (ok := fun _ => True) (okp := fun _ => True) ?hr ?hp (fun _ hk => hk) trivial (Below.refl _ _) (Nat.le_refl _) (by simp) ?_; (case hd => rfl); (case hg => rfl); (case hr => first | (go_simp; done) | (go_simp; rfl)); (case hp => exact (Reps.one (show Kd.M (Kd.int .i64) _ _ _ t137 [.int .i64 t137] from rfl) (Reps.one (show Kd.M (Kd.int .i64) _ _ _ t138 [.int .i64 t138] from rfl) (Reps.none _ _))))
  intro v140 w9 ho10 hb hg_ hnew_
  clear hg_ hnew_
  (first | rw [← Ny139.out] at ho10 | (simp only [Int.reduceToNat] at ho10; rw [← Ny139.out] at ho10))
  have n0_ := Aside0.mk (Kd.R_lower ho10 (belowD_size (by repeat (first | (with_reducible first | exact HB.out | apply belowD_alloc | apply pw_belowD_drewN | apply belowD_drew1 | refine belowD_set ?_ GE135.out | refine belowD_set ?_ GE136.out) | exact HB.out))))
  have n1_ := Aside0.mk (blk_below (g := gb135) (o := .cells #[.int .i64 a0_0, .int .i64 a0_1] 34 (0, 0)) (by (with_reducible repeat (first | refine blk_drewN ?_ _ | refine blk_drew ?_ | refine blk_alloc ?_ _)); exact BK135.out) hb.1)
  have n2_ := Aside0.mk (blk_below (g := gb136) (o := .cells #[.int .i64 a1_0, .int .i64 a1_1] 34 (0, 0)) (by (with_reducible repeat (first | refine blk_drewN ?_ _ | refine blk_drew ?_ | refine blk_alloc ?_ _)); exact BK136.out) hb.1)
  have n3_ := Aside0.mk (belowD_step (by repeat (first | (with_reducible first | exact HB.out | apply belowD_alloc | apply pw_belowD_drewN | apply belowD_drew1 | refine belowD_set ?_ GE135.out | refine belowD_set ?_ GE136.out) | exact HB.out)) hb)
  clear BK135
  clear BK136
  clear HB
  have HO141 := n0_
  have BK135 := n1_
  have BK136 := n2_
  have HB := n3_
  clear n0_ n1_ n2_ n3_
  clear hb ho10
  obtain ⟨Ao11, co11, eo11⟩ := Kd.R_slice HO141.out
  (first | subst eo11 | (injection eo11 with f1_ f2_ f3_; have f4_ := f1_.symm; have f5_ := f3_.symm; clear f1_ f2_ f3_; subst f4_; subst f5_))
  refine hK.out _ _ ⟨(blk_cell BK135.out 0).trans rfl, (blk_cell BK135.out 1).trans rfl, (blk_cell BK136.out 0).trans rfl, (blk_cell BK136.out 1).trans rfl⟩ (fun hHeld => ?_)
  clear hK K
  refine norm_ (a' := ?_) ?_ ?_
  rotate_left
  · show Act.put _ (some 15) _ = _
    simp only [Act.put, List.setIfInBounds_toArray, List.set_cons_zero, List.set_cons_succ, i64_w, i32_w]
    rfl
  refine one_ (i := 11) (N := some 16) #[true, true, true, true, true, true, true, true, true, true, true, true, false] rfl rfl (one_of HT_.out (by kernel_rfl)) (by decide) (fun K hK => ?_)
  refine goes_ Try.func35 (by kernel_rfl) rfl #[.slice Ao11 y139.length co11] (by rfl) rfl rfl (by (try simp only [List.map_toArray, List.map_cons, List.map_nil]); first | done | rfl | (simp only [List.length_drop, List.length_take]; rfl)) ?_
  with_reducible refine (cmp_Or_int.calls k _ _ y139 t142 _ ?side1 ?side2 A5.out).mono ?_
  (case side1 => repeat (first | exact (Kd.R_reads' HO141.out).2.2 | (with_reducible refine Kd.C_alloc ?_ _) | (with_reducible refine Kd.C_drewN ?_ _) | (with_reducible refine Kd.C_drew ?_)))
  (case side2 => exact (Kd.R_reads' HO141.out).2.1)
  rintro e w' ⟨rfl, ⟨nd, rfl⟩⟩
  refine ⟨_, rfl, ?_⟩
  refine hK.out _ _ ⟨(blk_cell BK135.out 0).trans rfl, (blk_cell BK135.out 1).trans rfl, (blk_cell BK136.out 0).trans rfl, (blk_cell BK136.out 1).trans rfl⟩ (fun hHeld => ?_)
  clear hK K
  refine norm_ (a' := ?_) ?_ ?_
  rotate_left
  · show Act.put _ (some 16) _ = _
    simp only [Act.put, List.setIfInBounds_toArray, List.set_cons_zero, List.set_cons_succ, i64_w, i32_w]
    rfl
  refine pure_ (i := 12) (N := some 4) (v := ?_) (a' := ?_) #[true, true, true, true, true, true, true, true, true, true, true, true, true] rfl rfl (any_of HT_.out (by kernel_rfl)) (fun _ _ _ h => h) (Or.inl ⟨by rfl, ?_⟩) ?_ ?_
  rotate_left
  · intro w'
    go_simp
    with_reducible rfl
  rotate_left
  · simp only [Act.put, List.setIfInBounds_toArray, List.set_cons_zero, List.set_cons_succ, i64_w, i32_w]
    rfl
  refine done_ (done_of HT_.out (by kernel_rfl)) ?_
  try go_wp2
  go_ret
  exact ⟨by first | rfl | (simp [errW_none, errW_some] <;> rfl) | (simp [*, errW_none, errW_some] <;> rfl), by repeat (first | (with_reducible first | exact HB.out | apply belowD_alloc | apply pw_belowD_drewN | apply belowD_drew1 | refine belowD_set ?_ GE135.out | refine belowD_set ?_ GE136.out) | exact HB.out)⟩
end Go.Proofs.Ytloebciamfbjfaa.Q
end
section
namespace Go.Proofs.Ytloebciamfbjfaa.Q
open Go.RowKit Go.Sort Go.Proofs.YtloebciamfbjfaaW.PrintWords Go.Proofs.YtloebciamfbjfaaW.PrintLast Go.Proofs.YtloebciamfbjfaaW.PrintMore
structure FlatKd {α : Type} (d : Kd α) (enc : α → List Value) : Prop where
  hM : ∀ w base ok x cs, d.M w base ok x cs ↔ cs = enc x
  len : ∀ x, (enc x).length = d.sz
  one : ∀ x, ∀ v ∈ enc x, v.oneCell' = true
  pos : 0 < d.sz
section
variable {α : Type} [Inhabited α] {d : Kd α} {enc : α → List Value} {w : World} {base : Nat} {ok : Nat → Prop} {xs : List α} {inner : List Value}
theorem flat_get {sz : Nat} (F : FlatKd d enc) (hsz : d.sz = sz) (xs : List α) (t : Nat) (ht : t < xs.length * sz) : (flatK enc sz xs.toArray)[t]? = (enc (xs.getD (t / sz) default))[t % sz]? := by
  subst hsz
  have h0 := F.pos
  have hj : t / d.sz < xs.length := Nat.div_lt_of_lt_mul (by rwa [Nat.mul_comm] at ht)
  have hm : t % d.sz < d.sz := Nat.mod_lt _ h0
  have e := get_flatK enc d.sz xs.toArray t (by simpa using ht)
  have hs : t < (flatK enc d.sz xs.toArray).size := by simpa using ht
  rw [getElem!_pos _ t hs] at e
  rw [Array.getElem?_eq_getElem hs, e]
  have e2 : (xs.toArray)[t / d.sz]! = xs.getD (t / d.sz) default := by
    rw [getElem!_pos _ _ (by simpa using hj)]
    simp [List.getD_eq_getElem?_getD, List.getElem?_eq_getElem hj]
  rw [e2]
  have hl : t % d.sz < (enc (xs.getD (t / d.sz) default)).length := by rw [F.len]; exact hm
  rw [List.getElem?_eq_getElem hl]
  congr 1
  exact getElem!_pos (enc (xs.getD (t / d.sz) default)) (t % d.sz) hl
theorem reps_flat (F : FlatKd d enc) (hr : Reps (d.M w base ok) d.sz xs inner) : inner = (flatK enc d.sz xs.toArray).toList := by
  apply List.ext_getElem?
  intro t
  have h0 := F.pos
  rcases Nat.lt_or_ge t (xs.length * d.sz) with ht | ht
  · have hj : t / d.sz < xs.length := Nat.div_lt_of_lt_mul (by rwa [Nat.mul_comm] at ht)
    have hm : t % d.sz < d.sz := Nat.mod_lt _ h0
    have e0 : (flatK enc d.sz xs.toArray).toList[t]? = (flatK enc d.sz xs.toArray)[t]? := Array.getElem?_toList ..
    rw [e0, flat_get F rfl xs t ht]
    have h := (F.hM _ _ _ _ _).1 (hr.2 (t / d.sz) _ (List.getElem?_eq_getElem hj))
    rw [show xs.getD (t / d.sz) default = xs[t / d.sz] by simp [List.getD_eq_getElem?_getD, List.getElem?_eq_getElem hj], ← h]
    rw [List.getElem?_take, if_pos hm, List.getElem?_drop]
    congr 1
    rw [Nat.mul_comm]
    exact (Nat.div_add_mod t d.sz).symm
  · rw [List.getElem?_eq_none (by rw [hr.1]; exact ht), List.getElem?_eq_none (by rw [Array.length_toList, size_flatK]; simpa using ht)]
theorem flat_reps (F : FlatKd d enc) (xs : List α) : Reps (d.M w base ok) d.sz xs (flatK enc d.sz xs.toArray).toList := by
  refine ⟨by simp, fun j p hp => ?_⟩
  rw [F.hM]
  have hj := (List.getElem?_eq_some_iff.1 hp).1
  have h0 := F.pos
  apply List.ext_getElem?
  intro i
  rcases Nat.lt_or_ge i d.sz with hi | hi
  · have hlt : j * d.sz + i < xs.length * d.sz := by
      have := Nat.mul_le_mul_right d.sz (show j + 1 ≤ xs.length from hj)
      rw [Nat.add_mul, Nat.one_mul] at this
      omega
    have e1 : (j * d.sz + i) / d.sz = j := by rw [Nat.add_comm, Nat.add_mul_div_right _ _ h0, Nat.div_eq_of_lt hi, Nat.zero_add]
    have e2 : (j * d.sz + i) % d.sz = i := by rw [Nat.add_comm, Nat.add_mul_mod_self_right, Nat.mod_eq_of_lt hi]
    rw [List.getElem?_take, if_pos hi, List.getElem?_drop, Array.getElem?_toList, flat_get F rfl xs _ hlt, e1, e2]
    rw [List.getD_eq_getElem?_getD, hp]; rfl
  · rw [List.getElem?_eq_none (by rw [List.length_take]; omega), List.getElem?_eq_none (by rw [F.len]; exact hi)]
theorem holdsK_of (F : FlatKd d enc) {e g n cap : Nat} (h : d.R e w base ok (.slice (some ⟨g, 0, none⟩) n cap) xs) : n = xs.length ∧ HoldsK enc d.sz w g 0 xs.toArray ∧ g < w.heap.size ∧ base ≤ g ∧ ok g := by
  obtain ⟨h0, inner, ho, hr⟩ := h
  have hn : n = xs.length := by
    rcases ho.2 with ⟨h', _⟩ | ⟨g', cap', cur, h', _⟩
    · cases h'
    · injection h' with _ h2 _
  subst hn
  obtain rfl := reps_flat F hr
  refine ⟨rfl, fun t ht => ?_, own_lt ho g (by simp [Value.ownBlock]), own_base ho g (by simp [Value.ownBlock]), h0 g (by simp [Value.ownBlock])⟩
  have ht' : t < xs.length * d.sz := by simpa using ht
  rw [Nat.zero_add]
  refine ⟨?_, ho.frozenAt t⟩
  rw [ho.cellAt t ht', Array.getElem?_toList, Array.getElem?_eq_getElem ht, getElem!_pos _ t ht]
  rfl
theorem heap_sortWorldK (enc : α → List Value) (k : Nat) (w : World) (g m : Nat) (d' : Array α) (os : Array Obj) : (sortWorldK enc k w g 0 m d' os).heap = (w.heap.modify g (onCells (putCells id 0 (flatK enc k d')))) ++ os := rfl
theorem sortWorldK_kept (enc : α → List Value) (k : Nat) (w : World) (g m : Nat) (d' : Array α) (os : Array Obj) (i : Nat) (hi : i < w.heap.size) (hne : i ≠ g) : (sortWorldK enc k w g 0 m d' os).heap[i]? = w.heap[i]? := by
  rw [heap_sortWorldK, Array.getElem?_append_left (by simpa using hi), Array.getElem?_modify, if_neg (Ne.symm hne)]
theorem own_sorted {sz : Nat} {e g n cap : Nat} {F0 : List Value} {k : Nat} {d' : Array α} (ho : w.ownsRow base e sz (.slice (some ⟨g, 0, none⟩) n cap) n F0) (hs : (flatK enc k d').size = n * sz) (m : Nat) (os : Array Obj) :
    (sortWorldK enc k w g 0 m d' os).ownsRow base e sz (.slice (some ⟨g, 0, none⟩) n cap) n (flatK enc k d').toList := by
  refine ⟨by rw [Array.length_toList]; exact hs, .inr ?_⟩
  rcases ho.2 with ⟨h', _⟩ | ⟨g', cap', cur, h', hb, hg, hnc, hcm, hcs, htake⟩
  · cases h'
  · injection h' with h1 _ h3
    injection h1 with h1
    injection h1 with h1
    subst h1 h3
    have hlt : g < w.heap.size := (Array.getElem?_eq_some_iff.1 hg).1
    refine ⟨g, cap, putCells id 0 (flatK enc k d') cur, rfl, hb, ?_, hnc, hcm, by simp [putCells, hcs], ?_⟩
    · rw [heap_sortWorldK, Array.getElem?_append_left (by simpa using hlt), Array.getElem?_modify, if_pos rfl, hg]
      rfl
    · have hle : n * sz ≤ cur.size := by rw [hcs]; exact Nat.mul_le_mul_right _ hnc
      apply List.ext_getElem?
      intro t
      rcases Nat.lt_or_ge t (n * sz) with ht | ht
      · rw [List.getElem?_take, if_pos ht, Array.getElem?_toList, Array.getElem?_toList]
        unfold putCells
        rw [Array.getElem?_mapIdx, Array.getElem?_eq_getElem (show t < cur.size by omega), Option.map_some, if_pos ⟨Nat.zero_le _, by omega⟩, Array.getElem?_eq_getElem (show t < (flatK enc k d').size by omega)]
        rw [getElem!_pos _ _ (by omega)]
        simp
      · rw [List.getElem?_eq_none (by rw [List.length_take]; omega), List.getElem?_eq_none (by rw [Array.length_toList]; omega)]
theorem R_sorted (F : FlatKd d enc) {e g n cap : Nat} (h : d.R e w base ok (.slice (some ⟨g, 0, none⟩) n cap) xs) (ys : List α) (hl : ys.length = xs.length) (m : Nat) (os : Array Obj) :
    d.R e (sortWorldK enc d.sz w g 0 m ys.toArray os) base ok (.slice (some ⟨g, 0, none⟩) n cap) ys := by
  obtain ⟨hn, _⟩ := holdsK_of F h
  obtain ⟨h0, inner, ho, hr⟩ := h
  subst hn
  refine ⟨h0, _, ?_, flat_reps F ys⟩
  have h2 := own_sorted (enc := enc) (k := d.sz) (d' := ys.toArray) (sz := d.sz) ho (by simp [hl]) m os
  rw [← hl] at h2 ⊢
  exact h2
end
def srtL {α : Type} [Inhabited α] (cf : α → α → Int) (l : List α) : List α := (pdq (ltOf cf) l.toArray 0 l.toArray.size (Lib.bitLen l.toArray.size) true true).toList
theorem srtL_spec {α : Type} [Inhabited α] {cf : α → α → Int} (hO : SWO (ltOf cf)) (l : List α) : (srtL cf l).Perm l ∧ (srtL cf l).Pairwise (fun x y => ltOf cf y x = false) := by
  obtain ⟨⟨h1, h2, h3⟩, h4⟩ := pdq_sorts (ltOf cf) hO l.toArray 0 l.toArray.size (Lib.bitLen l.toArray.size) true true (Nat.zero_le _) (Nat.le_refl _) (Or.inl rfl)
  unfold srtL
  generalize pdq (ltOf cf) l.toArray 0 l.toArray.size (Lib.bitLen l.toArray.size) true true = r at *
  constructor
  · have e1 : r.extract 0 l.toArray.size = r := by rw [← h1]; exact Array.extract_size
    rw [e1] at h3
    simpa using h3
  · rw [List.pairwise_iff_getElem]
    intro i j hi hj hij
    have := h4 i j (Nat.zero_le _) hij (by rw [← h1]; simpa using hj)
    rw [getElem!_pos r j (by simpa using hj), getElem!_pos r i (by simpa using hi)] at this
    simpa using this
theorem srtL_length {α : Type} [Inhabited α] {cf : α → α → Int} (hO : SWO (ltOf cf)) (l : List α) : (srtL cf l).length = l.length := (srtL_spec hO l).1.length_eq
theorem srtL_nil {α : Type} [Inhabited α] {cf : α → α → Int} (hO : SWO (ltOf cf)) : srtL cf [] = [] := List.eq_nil_of_length_eq_zero (srtL_length hO [])
theorem sort_calls {α : Type} [Inhabited α] {d : Kd α} {enc : α → List Value} (F : FlatKd d enc) {cf : α → α → Int} (hO : SWO (ltOf cf)) {ρ : Go.Shelf.Ren} (L : SlLaysF0.n6 Try.prog ρ) (aE : ∀ w, (isAgg (ρ.t 24)).run Try.prog w = .ok true w) (zE : ∀ w, (Go.sizeOf (ρ.t 24)).run Try.prog w = .ok d.sz w)
    (g : Nat) (eg : ∀ args w, (callFunc g args).run Try.prog w = .ok (.enter g args) w) (hcl : ∀ x y W, Calls Try.prog g #[.agg (enc x).toArray, .agg (enc y).toArray] W fun e w' => e = .returned (.int .i64 (cf x y)) ∧ BelowD W.heap.size W w')
    (e : Nat) (P0 : Nat → Prop) (v : Value) (l : List α) (w0 w : World) (hB : Below w0.heap.size w0 w) (ho : d.R e w w0.heap.size P0 v l) (hl : l.length < 4611686018427387904) :
    Calls Try.prog (ρ.f 6) #[v, .func (.func g) #[] #[]] w fun e' w' => e' = .returned (.tuple #[]) ∧ d.R e w' w0.heap.size (fun k => P0 k ∨ w.heap.size ≤ k) v (srtL cf l) ∧ Below w0.heap.size w0 w' ∧ Kept w w' P0 := by
  by_cases h0 : l.length = 0
  · obtain rfl : l = [] := List.eq_nil_of_length_eq_zero h0
    obtain ⟨A, c, rfl⟩ := Kd.R_slice ho
    refine (AnyF.slices_SortFunc_none L A c _ w).mono ?_
    rintro e' w' ⟨rfl, rfl⟩
    exact ⟨rfl, by rw [srtL_nil hO]; exact Kd.R_mono ho (fun _ h => .inl h), hB, Kept.refl _ _⟩
  · obtain ⟨b, cap, rfl, _, _⟩ := Kd.R_form ho (by omega)
    obtain ⟨_, hH, hlt, hbase, hok⟩ := holdsK_of F ho
    have hc : CmpLays Try.prog g #[] enc d.sz cf b 0 l.toArray.size w := by
      intro m os dk _ x y
      refine (hcl x y _).mono ?_
      rintro e' w' ⟨rfl, hb⟩
      exact ⟨rfl, hb.grow⟩
    have hcon := AnyQ.slices_SortFunc_eq L d.sz aE zE enc F.len F.one cf hO g #[] b 0 cap l.toArray w eg hc hH hlt (by simpa using hl)
    refine hcon.mono ?_
    rintro e' w' ⟨rfl, n, os, rfl⟩
    have hs := R_sorted F ho (srtL cf l) (srtL_length hO l) n os
    have e2 : (srtL cf l).toArray = pdq (ltOf cf) l.toArray 0 l.toArray.size (Lib.bitLen l.toArray.size) true true := by unfold srtL; simp
    rw [e2] at hs
    refine ⟨rfl, Kd.R_mono hs (fun _ h => .inl h), ⟨hB.os, hB.tape, hB.output, ?_, fun i hi => ?_⟩, ?_, fun i hi hn => ?_⟩
    · refine Nat.le_trans hB.size ?_
      rw [heap_sortWorldK, Array.size_append, Array.size_modify]
      exact Nat.le_add_right _ _
    · have := hB.size
      rw [sortWorldK_kept _ _ _ _ _ _ _ _ (by omega) (by omega)]
      exact hB.block i hi
    · rw [heap_sortWorldK, Array.size_append, Array.size_modify]
      exact Nat.le_add_right _ _
    · exact sortWorldK_kept _ _ _ _ _ _ _ _ hi (fun h => hn (h ▸ hok))
end Go.Proofs.Ytloebciamfbjfaa.Q
end
section
namespace Go.Proofs.Ytloebciamfbjfaa.Q
open Go.Sort hiding rd
open Go.RowKit Go.Proofs.YtloebciamfbjfaaW.PrintWords Go.Proofs.YtloebciamfbjfaaW.PrintLast Go.Proofs.YtloebciamfbjfaaW.PrintMore
def sortPair_ren : Go.Shelf.Ren := ⟨fun | 6 => 38 | 15 => 43 | 14 => 42 | 28 => 52 | 29 => 53 | 20 => 44 | 21 => 45 | 22 => 46 | 23 => 47 | 24 => 48 | 25 => 49 | 26 => 50 | 27 => 51 | 46 => 54 | 47 => 55 | 48 => 56 | 49 => 57 | 50 => 58 | 57 => 59 | n => n, fun | 22 => 38 | 24 => 34 | 25 => 60 | 3 => 3 | 39 => 64 | 0 => 0 | 53 => 89 | 55 => 91 | 4 => 4 | 46 => 82 | 45 => 81 | 50 => 86 | 5 => 5 | 9 => 9 | 66 => 92 | 70 => 96 | 76 => 98 | 77 => 99 | n => n, fun | n => n⟩
theorem sortPair : Go.Proofs.SlLaysF0.n6 Try.prog sortPair_ren := { mixed := by kernel_rfl, f6 := ⟨Try.f38.name, by decide, Try.func38.trans (congrArg some (by kernel_rfl))⟩, f14 := ⟨Try.f42.name, by decide, Try.func42.trans (congrArg some (by kernel_rfl))⟩, f15 := Try.func43.trans (congrArg some (by kernel_rfl)), f20 := ⟨Try.f44.name, by decide, Try.func44.trans (congrArg some (by kernel_rfl))⟩, f21 := ⟨Try.f45.name, by decide, Try.func45.trans (congrArg some (by kernel_rfl))⟩, f22 := ⟨Try.f46.name, by decide, Try.func46.trans (congrArg some (by kernel_rfl))⟩, f23 := ⟨Try.f47.name, by decide, Try.func47.trans (congrArg some (by kernel_rfl))⟩, f24 := ⟨Try.f48.name, by decide, Try.func48.trans (congrArg some (by kernel_rfl))⟩, f25 := ⟨Try.f49.name, by decide, Try.func49.trans (congrArg some (by kernel_rfl))⟩, f26 := ⟨Try.f50.name, by decide, Try.func50.trans (congrArg some (by kernel_rfl))⟩, f27 := ⟨Try.f51.name, by decide, Try.func51.trans (congrArg some (by kernel_rfl))⟩, f28 := Try.func52.trans (congrArg some (by kernel_rfl)), f29 := Try.func53.trans (congrArg some (by kernel_rfl)), f46 := ⟨Try.f54.name, by decide, Try.func54.trans (congrArg some (by kernel_rfl))⟩, f47 := Try.func55.trans (congrArg some (by kernel_rfl)), f48 := Try.func56.trans (congrArg some (by kernel_rfl)), f49 := ⟨Try.f57.name, by decide, Try.func57.trans (congrArg some (by kernel_rfl))⟩, f50 := ⟨Try.f58.name, by decide, Try.func58.trans (congrArg some (by kernel_rfl))⟩, f57 := ⟨Try.f59.name, by decide, Try.func59.trans (congrArg some (by kernel_rfl))⟩, t0 := Try.underlying0, a0 := Try.isAgg0, z0 := Try.sizeOf0, v0 := Try.zeroValue0, t3 := Try.underlying3, a3 := Try.isAgg3, z3 := Try.sizeOf3, v3 := Try.zeroValue3, t4 := Try.underlying4, a4 := Try.isAgg4, z4 := Try.sizeOf4, v4 := Try.zeroValue4, t5 := Try.underlying5, a5 := Try.isAgg5, z5 := Try.sizeOf5, v5 := Try.zeroValue5, t9 := Try.underlying9, a9 := Try.isAgg9, z9 := Try.sizeOf9, v9 := Try.zeroValue9, t22 := Try.underlying38, a22 := Try.isAgg38, z22 := Try.sizeOf38, v22 := Try.zeroValue38, t25 := Try.underlying60, a25 := Try.isAgg60, z25 := Try.sizeOf60, v25 := Try.zeroValue60, t39 := Try.underlying64, a39 := Try.isAgg64, z39 := Try.sizeOf64, v39 := Try.zeroValue64, t45 := Try.underlying81, a45 := Try.isAgg81, z45 := Try.sizeOf81, v45 := Try.zeroValue81, t46 := Try.underlying82, a46 := Try.isAgg82, z46 := Try.sizeOf82, v46 := Try.zeroValue82, t50 := Try.underlying86, a50 := Try.isAgg86, z50 := Try.sizeOf86, v50 := Try.zeroValue86, t53 := Try.underlying89, a53 := Try.isAgg89, z53 := Try.sizeOf89, v53 := Try.zeroValue89, t55 := Try.underlying91, a55 := Try.isAgg91, z55 := Try.sizeOf91, v55 := Try.zeroValue91, t66 := Try.underlying92, a66 := Try.isAgg92, z66 := Try.sizeOf92, v66 := Try.zeroValue92, t70 := Try.underlying96, a70 := Try.isAgg96, z70 := Try.sizeOf96, v70 := Try.zeroValue96, t76 := Try.underlying98, a76 := Try.isAgg98, z76 := Try.sizeOf98, v76 := Try.zeroValue98, t77 := Try.underlying99, a77 := Try.isAgg99, z77 := Try.sizeOf99, v77 := Try.zeroValue99 }
def encPair (x : S34) : List Value := [.int .i64 x.f0, .int .i64 x.f1]
instance : Inhabited S34 := ⟨z34⟩
theorem flatPair : FlatKd k34 encPair :=
  ⟨fun w base ok x cs => ⟨fun h => k34_openM h, fun h => by rw [h]; exact k34_mkM w base ok x⟩, fun _ => rfl, fun x v hv => by
    simp only [encPair, List.mem_cons, List.not_mem_nil, or_false] at hv
    rcases hv with rfl | rfl <;> rfl, by decide⟩
def ltPair (x y : S34) : Prop := x.f0 < y.f0 ∨ x.f0 = y.f0 ∧ (x.f1 < y.f1)
theorem ltPair_eq (x y : S34) : (ltOf cfPair x y = true) ↔ ltPair x y := by
  unfold ltOf cfPair ltPair
  rw [decide_eq_true_iff]
  (repeat' split) <;> omega
theorem swoPair : SWO (ltOf cfPair) where
  irrefl x := by rw [← Bool.not_eq_true, ltPair_eq]; unfold ltPair; omega
  trans x y z h1 h2 := by rw [ltPair_eq] at *; unfold ltPair at *; omega
  ntrans x y z h1 h2 := by rw [← Bool.not_eq_true, ltPair_eq] at *; unfold ltPair at *; omega
theorem pile_compare_lays (x y : S34) (W : World) : Calls Try.prog 29 #[.agg (encPair x).toArray, .agg (encPair y).toArray] W fun e w' => e = .returned (.int .i64 (cfPair x y)) ∧ BelowD W.heap.size W w' :=
  pile_compare.callsD 8 x.f0 x.f1 y.f0 y.f1 (cfPair x y) W (pile_compare_val x y)
def api_Pair_38.f (l : List (S34)) : Option (List (S34)) := if l.length < 4611686018427387904 then some (srtL cfPair l) else none
theorem api_Pair_38.calls (P0_ : Nat → Prop) (u9000_ : Value) (l0 : List (S34)) (r : List S34) (w0 w : World) (hB : Below w0.heap.size w0 w) (ho0 : Kd.R k34 34 w w0.heap.size P0_ u9000_ l0) (h : api_Pair_38.f l0 = some r) :
    Calls Try.prog 38 #[u9000_, .func (.func 29) #[] #[]] w fun e w' => e = .returned (.tuple #[]) ∧ Kd.R k34 34 w' w0.heap.size (fun k_ => (P0_ k_ ∨ w.heap.size ≤ k_)) u9000_ r ∧ Below w0.heap.size w0 w' ∧ Kept w w' (fun k_ => P0_ k_) := by
  unfold api_Pair_38.f at h
  split at h
  · rename_i hl
    injection h with h
    subst h
    exact sort_calls flatPair swoPair sortPair Try.isAgg34 Try.sizeOf34 29 (enters_of Try.func29 (by kernel_rfl) rfl) pile_compare_lays 34 P0_ u9000_ l0 w0 w hB ho0 hl
  · cases h
end Go.Proofs.Ytloebciamfbjfaa.Q
end
