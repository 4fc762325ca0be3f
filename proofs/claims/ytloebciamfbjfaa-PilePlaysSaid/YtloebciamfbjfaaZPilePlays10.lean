/- A part of the proof: words, contracts, plain lemmas. Conditions: none. -/
import Derived.Test.YtloebciamfbjfaaZPilePlays9
section
namespace Go.Proofs.Ytloebciamfbjfaa.Q
open Go.RowKit Go.Proofs.Ytloebciamfbjfaa.P Go.Proofs.YtloebciamfbjfaaW.PrintWords Go.Proofs.YtloebciamfbjfaaW.PrintLast Go.Proofs.YtloebciamfbjfaaW.PrintMore
set_option linter.unusedVariables false
set_option linter.unusedSimpArgs false
structure RP (w : World) (base : Nat) (ok : Nat → Prop) (g : Nat) (most : Int) (v : Value) (c : List S34) : Prop where
  blk : w.heap[g]? = some (.cells #[.int .i64 most, v] 40 (0, 0))
  row : Kd.Q k34 34 w base (fun k => ok k ∧ k ≠ g) v c
  ge : base ≤ g
  le : (c.length : Int) ≤ most ∧ most ≤ 65536
section
variable {w w1 : World} {base : Nat} {ok ok' : Nat → Prop} {g : Nat} {most : Int} {v : Value} {c : List S34}
theorem RP.below (h : RP w base ok g most v c) (hb : Below w.heap.size w w1) : RP w1 base ok g most v c := ⟨blk_below h.blk hb, Kd.Q_below h.row hb, h.ge, h.le⟩
theorem RP.drew (h : RP w base ok g most v c) : RP w.drew base ok g most v c := h.below (below_drew (Below.refl _ _))
theorem RP.mono (h : RP w base ok g most v c) (hk : ∀ k, ok k → ok' k) : RP w base ok' g most v c := ⟨h.blk, Kd.Q_mono h.row (fun k hh => ⟨hk k hh.1, hh.2⟩), h.ge, h.le⟩
theorem RP.lower {base' : Nat} (h : RP w base ok g most v c) (hb : base' ≤ base) : RP w base' ok g most v c := ⟨h.blk, Kd.Q_lower h.row hb, Nat.le_trans hb h.ge, h.le⟩
theorem RP.kept {S : Nat → Prop} (h : RP w base ok g most v c) (hk : Kept w w1 S) (hg : ¬ S g) (ho : ∀ k, ok k → ¬ S k) : RP w1 base ok g most v c := ⟨Kept.blk hk h.blk hg, Kd.Q_kept h.row hk (fun k hh => ho k hh.1), h.ge, h.le⟩
theorem RP.typed (h : RP w base ok g most v c) : RP w base (fun k => ok k ∧ Ty w 34 k) g most v c := by
  refine ⟨h.blk, Kd.Q_mono (Kd.Q_bound h.row) (fun k hk => ?_), h.ge, h.le⟩
  obtain ⟨⟨h1, h2⟩, _, _, q, hq, hc⟩ := hk
  rcases List.mem_cons.1 hq with rfl | hq
  · exact ⟨⟨h1, hc⟩, h2⟩
  · cases hq
theorem RP.ty (h : RP w base ok g most v c) : Ty w 40 g := ⟨_, h.blk⟩
theorem RP.put {u : Value} {xs : List S34} (h : RP w base ok g most v c) (ho : Kd.Q k34 34 w base (fun k => ok k ∧ k ≠ g) u xs) (hl : (xs.length : Int) ≤ most) : RP (w.setCell ⟨g, 1, none⟩ u) base ok g most u xs :=
  ⟨blk_put (cs' := #[.int .i64 most, u]) h.blk 1 u rfl, Kd.Q_far (p := ⟨g, 1, none⟩) ho (fun k hk => hk.2) _, h.ge, hl, h.le.2⟩
theorem RP.elder (h : RP w base ok g most v c) (a : Nat) (ha : w.heap.size ≤ a) : RP w base (fun k => ok k ∧ k ≠ a) g most v c := ⟨h.blk, Kd.Q_mono (Kd.Q_elderB h.row a ha) (fun k hh => ⟨⟨hh.1.1, hh.2⟩, hh.1.2⟩), h.ge, h.le⟩
theorem RP.far2 {gb : Nat} (h : RP w base ok g most v c) (hg : g ≠ gb) (hok : ∀ k, ok k → k ≠ gb) (u u' : Value) : RP ((w.setCell ⟨gb, 0, none⟩ u).setCell ⟨gb, 1, none⟩ u') base ok g most v c :=
  h.kept (S := fun k => k = gb) (Kept.setCell (p := ⟨gb, 1, none⟩) (Kept.setCell (p := ⟨gb, 0, none⟩) (Kept.refl w (fun k => k = gb)) (Or.inl rfl) u) (Or.inl rfl) u') hg hok
end
set_option maxHeartbeats 8000000 in
set_option maxRecDepth 100000 in
theorem RefP_New.calls (most : Int) (w : World) :
    Calls Try.prog 10 #[.int .i64 most] w fun e w' => Below w.heap.size w w' ∧ if 0 ≤ most ∧ most ≤ 65536 then ∃ g, e = .returned (.tuple #[.pointer (some ⟨g, 0, none⟩), .int .i64 0]) ∧ RP w' w.heap.size (fun _ => True) g most (.slice none 0 0) [] else e = .returned (.tuple #[.pointer none, .int .i64 1]) := by
  have hu40 := Try.underlying40
  have HB := Aside0.mk (Below.refl w.heap.size w)
  by_cases c : 0 ≤ most ∧ most ≤ 65536
  · have d1 : decide (most < 0) = false := decide_eq_false (by omega)
    have d2 : decide (65536 < most) = false := decide_eq_false (by omega)
    have CC := Aside0.mk c
    simp only [if_pos c]
    clear c
    go_enter Try.func10, Try.ntmps10
    go_wp2_with ((with_reducible refine gate_dst (N := 12) rfl ?_); refine box_event ?hg (N := 12) ?hd (cs := #[.int .i64 most, .slice none 0 0]) (t := 40) ?hr ?_; (case hd => rfl); (case hg => rfl); (case hr => first | (go_simp; done) | (go_simp; rfl)); intro g hg w2 hbox hb; have HG := Aside0.mk (⟨hbox, Kd.Q_nil _ _ _ _ _, by rw [hg]; exact below_size HB.out, CC.out.1, CC.out.2⟩ : RP w2 w.heap.size (fun _ => True) g most (.slice none 0 0) []); have n0_ := Aside0.mk (below_step HB.out hb); clear HB; have HB := n0_; clear n0_ hb hbox hg)
    go_ret2
    exact ⟨HB.out, g, rfl, HG.out⟩
  · simp only [if_neg c]
    by_cases c1 : most < 0
    · have d1 : decide (most < 0) = true := decide_eq_true c1
      clear c c1
      go_enter Try.func10, Try.ntmps10
      go_wp2
      go_ret2
      exact ⟨HB.out, rfl⟩
    · have d1 : decide (most < 0) = false := decide_eq_false c1
      have d2 : decide (65536 < most) = true := decide_eq_true (by omega)
      clear c c1
      go_enter Try.func10, Try.ntmps10
      go_wp2
      go_ret2
      exact ⟨HB.out, rfl⟩
theorem pairQ {w : World} {base : Nat} {ok : Nat → Prop} {g o n cap : Nat} {xs : List S34} (h : Kd.Q k34 34 w base ok (.slice (some ⟨g, o, none⟩) n cap) xs) (j : Nat) (hj : j < xs.length) :
    w.cell? ⟨g, o + j * 2, none⟩ = some (.int .i64 xs[j].f0) ∧ w.cell? ⟨g, o + j * 2 + 1, none⟩ = some (.int .i64 xs[j].f1) := by
  obtain ⟨ad, ea, h0, h1⟩ := at_T34 (Kd.Q_reads' h).2.2 (j : Int) (by omega) (by omega)
  obtain rfl := Option.some.inj ea
  have hr : rd_T34 xs (j : Int) = xs[j] := by unfold rd_T34; rw [Int.toNat_natCast, List.getD_eq_getElem?_getD, List.getElem?_eq_getElem hj]; rfl
  rw [hr, Int.toNat_natCast] at h0 h1
  have hadd : (Addr.add ⟨g, o, none⟩ (j * 2)) = ⟨g, o + j * 2, none⟩ := by unfold Addr.add; split <;> simp_all
  rw [hadd] at h0 h1
  exact ⟨h0, h1⟩
set_option maxHeartbeats 8000000 in
set_option maxRecDepth 100000 in
theorem RefP_Least.calls {base : Nat} {ok : Nat → Prop} (g : Nat) (most : Int) (v : Value) (l : List S34) (w : World) (hP : RP w base ok g most v l) :
    Calls Try.prog 14 #[.pointer (some ⟨g, 0, none⟩)] w fun e w' => e = .returned (.tuple #[.agg #[.int .i64 (leastL l).1, .int .i64 (leastL l).2.1], .int .i64 (leastL l).2.2]) ∧ Below w.heap.size w w' := by
  have hu40 := Try.underlying40
  have hu34 := Try.underlying34
  have HB := Aside0.mk (Below.refl w.heap.size w)
  have HP := Aside0.mk hP
  cases l with
  | nil =>
    obtain ⟨A, c, ev, _⟩ := Kd.Q_slice hP.row
    subst ev
    clear hP
    go_enter Try.func14, Try.ntmps14
    go_wp2_with ((with_reducible refine gate_dst (N := 2) rfl ?_); refine box_event ?hg (N := 2) ?hd (cs := #[.int .i64 0, .int .i64 0]) (t := 34) ?hr ?_; (case hd => rfl); (case hg => rfl); (case hr => first | (go_simp; done) | (go_simp; rfl)); intro gr hg w2 hbox hb; have n0_ := Aside0.mk (below_step HB.out hb); have n1_ := Aside0.mk (HP.out.below hb); have GE := Aside0.mk (show w.heap.size ≤ gr by rw [hg]; exact below_size HB.out); have BK := Aside0.mk hbox; clear HB HP; have HB := n0_; have HP := n1_; clear n0_ n1_ hb hbox hg; have z : w2.cell? ⟨g, 1, none⟩ = some (.slice A 0 c) := (blk_cell HP.out.blk 1).trans rfl; have z0 : w2.cell? ⟨gr, 0, none⟩ = some (.int .i64 0) := (blk_cell BK.out 0).trans rfl; have z1 : w2.cell? ⟨gr, 1, none⟩ = some (.int .i64 0) := (blk_cell BK.out 1).trans rfl; have y0 := blk_frozen BK.out 0; have y1 := blk_frozen BK.out 1)
    refine bodyPost_ret (results_ct rfl _ _ gr 34 #[.int .i64 0, .int .i64 0] (0, 0) _ rfl (blk_put (cs' := #[.int .i64 0, .int .i64 0]) (blk_put (cs' := #[.int .i64 0, .int .i64 0]) BK.out 0 (.int .i64 0) rfl) 1 (.int .i64 0) rfl) Try.underlying34 rfl (by kernel_rfl)) rfl ?_
    exact ⟨rfl, below_set (below_set HB.out GE.out) GE.out⟩
  | cons x l =>
    obtain ⟨g0, o, c, ev, _⟩ := Kd.Q_form hP.row (by simp)
    subst ev
    clear hP
    have hln : decide (((x :: l).length : Int) = 0) = false := decide_eq_false (by simp only [List.length_cons]; omega)
    have hln2 : (((x :: l).length : Int) == 0) = false := by simpa using hln
    have p1 := eq_true (show (0 : Int) < ((x :: l).length : Int) by simp only [List.length_cons]; omega)
    have HLN := Aside0.mk (show 0 < (x :: l).length by simp)
    generalize (x :: l).length = n at *
    have hn0 := eq_false (show ¬ n = 0 by have := HLN.out; omega)
    have hn1 : decide (n = 0) = false := decide_eq_false (by have := HLN.out; omega)
    have hn2 : (n == 0) = false := by simpa using (show ¬ n = 0 by have := HLN.out; omega)
    have p2 := eq_true HLN.out
    go_enter Try.func14, Try.ntmps14
    go_wp2_with ((with_reducible refine gate_dst (N := 2) rfl ?_); refine box_event ?hg (N := 2) ?hd (cs := #[.int .i64 0, .int .i64 0]) (t := 34) ?hr ?_; (case hd => rfl); (case hg => rfl); (case hr => first | (go_simp; done) | (go_simp; rfl)); intro gr hg w2 hbox hb; have n0_ := Aside0.mk (below_step HB.out hb); have n1_ := Aside0.mk (HP.out.below hb); have GE := Aside0.mk (show w.heap.size ≤ gr by rw [hg]; exact below_size HB.out); have BK := Aside0.mk hbox; clear HB HP; have HB := n0_; have HP := n1_; clear n0_ n1_ hb hbox hg; have z : w2.cell? ⟨g, 1, none⟩ = some (.slice (some ⟨g0, o, none⟩) n c) := (blk_cell HP.out.blk 1).trans rfl; have hpa := pairQ HP.out.row 0 (by simp); rw [Nat.zero_mul, Nat.add_zero] at hpa; have q0 : w2.cell? ⟨g0, o, none⟩ = some (.int .i64 x.f0) := hpa.1; have q1 : w2.cell? ⟨g0, o + 1, none⟩ = some (.int .i64 x.f1) := hpa.2; clear hpa; have z0 : w2.cell? ⟨gr, 0, none⟩ = some (.int .i64 0) := (blk_cell BK.out 0).trans rfl; have z1 : w2.cell? ⟨gr, 1, none⟩ = some (.int .i64 0) := (blk_cell BK.out 1).trans rfl; have y0 := blk_frozen BK.out 0; have y1 := blk_frozen BK.out 1)
    refine bodyPost_ret (results_ct rfl _ _ gr 34 #[.int .i64 x.f0, .int .i64 x.f1] (0, 0) _ rfl (blk_put (cs' := #[.int .i64 x.f0, .int .i64 x.f1]) (blk_put (cs' := #[.int .i64 x.f0, .int .i64 0]) BK.out 0 (.int .i64 x.f0) rfl) 1 (.int .i64 x.f1) rfl) Try.underlying34 rfl (by kernel_rfl)) rfl ?_
    exact ⟨rfl, below_set (below_set HB.out GE.out) GE.out⟩
set_option maxHeartbeats 8000000 in
set_option maxRecDepth 100000 in
theorem RefP_Pop.calls (ok : Nat → Prop) (g : Nat) (most : Int) (v : Value) (c : List S34) (w0 w : World) (hB : Below w0.heap.size w0 w) (hP : RP w w0.heap.size ok g most v c) :
    Calls Try.prog 12 #[.pointer (some ⟨g, 0, none⟩)] w fun e w' => Below w0.heap.size w0 w' ∧ Kept w w' (fun k => k = g ∨ ok k) ∧ e = .returned (.tuple #[.agg #[.int .i64 (leastL c).1, .int .i64 (leastL c).2.1], .int .i64 (leastL c).2.2]) ∧ ∃ v', RP w' w0.heap.size ok g most v' c.tail := by
  have hu40 := Try.underlying40
  have hu38 := Try.underlying38
  have hu34 := Try.underlying34
  have HB := Aside0.mk hB
  have HP := Aside0.mk hP
  have HK := Aside0.mk (Kept.refl w (fun k => k = g ∨ ok k))
  clear hB hP
  obtain ⟨y0_, hy0⟩ : ∃ y, (leastL c).1 = y := ⟨_, rfl⟩
  obtain ⟨y1_, hy1⟩ : ∃ y, (leastL c).2.1 = y := ⟨_, rfl⟩
  obtain ⟨er, her⟩ : ∃ y, (leastL c).2.2 = y := ⟨_, rfl⟩
  have HL3 := Aside0.mk (⟨hy0, hy1, her⟩ : (leastL c).1 = y0_ ∧ (leastL c).2.1 = y1_ ∧ (leastL c).2.2 = er)
  have hleast : ∀ (W : World) (ok : Nat → Prop), RP W w0.heap.size ok g most v c → Calls Try.prog 14 #[.pointer (some ⟨g, 0, none⟩)] W fun e w' => e = .returned (.tuple #[.agg #[.int .i64 y0_, .int .i64 y1_], .int .i64 er]) ∧ Below W.heap.size W w' := fun W ok h => by
    have h2 := RefP_Least.calls g most v c W h
    rw [hy0, hy1, her] at h2
    exact h2
  have HLEAST := Aside0.mk hleast
  rw [hy0, hy1, her]
  clear hy0 hy1 her hleast
  cases c with
  | nil =>
    have e0 : y0_ = 0 := HL3.out.1.symm
    have e1 : y1_ = 0 := HL3.out.2.1.symm
    have e2 : er = 21 := HL3.out.2.2.symm
    subst e0 e1 e2
    clear HL3
    go_enter Try.func12, Try.ntmps12
    go_wp2_with (first
      | ((with_reducible refine gate_dst (N := 2) rfl ?_); refine box_event ?hg (N := 2) ?hd (cs := #[.int .i64 0, .int .i64 0]) (t := 34) ?hr ?_; (case hd => rfl); (case hg => rfl); (case hr => first | (go_simp; done) | (go_simp; rfl)); intro g2 hg w2 hbox hb; have GE2 := Aside0.mk (show w.heap.size ≤ g2 by rw [hg]; exact HK.out.1); have GB2 := Aside0.mk (show w0.heap.size ≤ g2 by rw [hg]; exact below_size HB.out); have NG2 := Aside0.mk (show g ≠ g2 by rw [hg]; exact Nat.ne_of_lt (blk_lt HP.out.blk)); have n0_ := Aside0.mk (below_step HB.out hb); have n1_ := Aside0.mk ((HP.out.elder g2 (Nat.le_of_eq hg.symm)).below hb); have n2_ := Aside0.mk (HK.out.below hb); have n3_ := Aside0.mk hbox; clear HB HP HK hb hbox hg; have HB := n0_; have HP := n1_; have HK := n2_; have BK2 := n3_; clear n0_ n1_ n2_ n3_)
      | (go_at_call 14; refine (HLEAST.out _ _ HP.out).mono ?_; rintro e w3 ⟨rfl, hb⟩; have n0_ := Aside0.mk (below_step HB.out hb); have n1_ := Aside0.mk (HP.out.below hb); have n2_ := Aside0.mk (HK.out.below hb); have n3_ := Aside0.mk (blk_below BK2.out hb); clear HB HP HK BK2 hb; have HB := n0_; have HP := n1_; have HK := n2_; have BK2 := n3_; clear n0_ n1_ n2_ n3_)
      | ((with_reducible refine gate_dst (N := 4) rfl ?_); refine box_event ?hg (N := 4) ?hd (cs := #[.int .i64 0, .int .i64 0]) (t := 34) ?hr ?_; (case hd => rfl); (case hg => rfl); (case hr => first | (go_simp; done) | (go_simp; rfl)); intro g4 hg w4 hbox hb; have GE4 := Aside0.mk (show w.heap.size ≤ g4 by rw [hg]; exact HK.out.1); have GB4 := Aside0.mk (show w0.heap.size ≤ g4 by rw [hg]; exact below_size HB.out); have NG4 := Aside0.mk (show g ≠ g4 by rw [hg]; exact Nat.ne_of_lt (blk_lt HP.out.blk)); have NG24 := Aside0.mk (show g2 ≠ g4 by rw [hg]; exact Nat.ne_of_lt (blk_lt BK2.out)); have n0_ := Aside0.mk (below_step HB.out hb); have n1_ := Aside0.mk ((HP.out.elder g4 (Nat.le_of_eq hg.symm)).below hb); have n2_ := Aside0.mk (HK.out.below hb); have n3_ := Aside0.mk (blk_below BK2.out hb); have n4_ := Aside0.mk hbox; clear HB HP HK BK2 hb hbox hg; have HB := n0_; have HP := n1_; have HK := n2_; have BK2 := n3_; have BK4 := n4_; clear n0_ n1_ n2_ n3_ n4_; have z0 : w4.cell? ⟨g4, 0, none⟩ = some (.int .i64 0) := (blk_cell BK4.out 0).trans rfl; have z1 : w4.cell? ⟨g4, 1, none⟩ = some (.int .i64 0) := (blk_cell BK4.out 1).trans rfl; have y0 := blk_frozen BK4.out 0; have y1 := blk_frozen BK4.out 1; have z2 : w4.cell? ⟨g, 1, none⟩ = some (v) := (blk_cell HP.out.blk 1).trans rfl; have y2 := blk_frozen HP.out.blk 1; have z4 : w4.cell? ⟨g2, 0, none⟩ = some (.int .i64 0) := (blk_cell BK2.out 0).trans rfl; have z5 : w4.cell? ⟨g2, 1, none⟩ = some (.int .i64 0) := (blk_cell BK2.out 1).trans rfl; have y4 := blk_frozen BK2.out 0; have y5 := blk_frozen BK2.out 1; have ne1 := eq_false NG4.out; have ne2 := eq_false NG4.out.symm; have ne3 := eq_false NG2.out; have ne4 := eq_false NG2.out.symm; have ne5 := eq_false NG24.out; have ne6 := eq_false NG24.out.symm))
    have n1_ := (HP.out.far2 NG4.out (fun k hk => hk.2) (.int .i64 0) (.int .i64 0)).mono (ok' := fun k => ok k ∧ k ≠ g2) (fun k hk => hk.1)
    have n3_ := blk_far (p := ⟨g4, 1, none⟩) (blk_far (p := ⟨g4, 0, none⟩) BK2.out NG24.out (.int .i64 0)) NG24.out (.int .i64 0)
    refine bodyPost_ret (results_ct rfl _ _ g2 34 #[.int .i64 0, .int .i64 0] (0, 0) _ rfl (blk_put (cs' := #[.int .i64 0, .int .i64 0]) (blk_put (cs' := #[.int .i64 0, .int .i64 0]) n3_ 0 (.int .i64 0) rfl) 1 (.int .i64 0) rfl) Try.underlying34 rfl (by kernel_rfl)) rfl ?_
    exact ⟨below_set (below_set (below_set (below_set HB.out GB4.out) GB4.out) GB2.out) GB2.out, Kept.setCell (p := ⟨g2, 1, none⟩) (Kept.setCell (p := ⟨g2, 0, none⟩) (Kept.setCell (p := ⟨g4, 1, none⟩) (Kept.setCell (p := ⟨g4, 0, none⟩) HK.out (Or.inr GE4.out) _) (Or.inr GE4.out) _) (Or.inr GE2.out) _) (Or.inr GE2.out) _, rfl, _, (n1_.far2 NG2.out (fun k hk => hk.2) _ _).mono (fun k hk => hk.1)⟩
  | cons x t =>
    have e2 : er = 0 := HL3.out.2.2.symm
    subst e2
    clear HL3
    obtain ⟨gr, o, cap, ev, _⟩ := Kd.Q_form HP.out.row (by simp)
    subst ev
    have HLM := Aside0.mk HP.out.le.1
    obtain ⟨n, hn⟩ : ∃ n, t.length = n := ⟨_, rfl⟩
    have HN := Aside0.mk hn
    have hn2 : (x :: t).length = n + 1 := by rw [List.length_cons, hn]
    rw [hn2] at HP HLM HLEAST
    clear hn hn2
    by_cases c3 : cap = 1
    · have c4 := eq_true c3
      have HC3 := Aside0.mk c3
      clear c3
      go_enter Try.func12, Try.ntmps12
      go_wp2_with (first
        | ((with_reducible refine gate_dst (N := 2) rfl ?_); refine box_event ?hg (N := 2) ?hd (cs := #[.int .i64 0, .int .i64 0]) (t := 34) ?hr ?_; (case hd => rfl); (case hg => rfl); (case hr => first | (go_simp; done) | (go_simp; rfl)); intro g2 hg w2 hbox hb; have GE2 := Aside0.mk (show w.heap.size ≤ g2 by rw [hg]; exact HK.out.1); have GB2 := Aside0.mk (show w0.heap.size ≤ g2 by rw [hg]; exact below_size HB.out); have NG2 := Aside0.mk (show g ≠ g2 by rw [hg]; exact Nat.ne_of_lt (blk_lt HP.out.blk)); have n0_ := Aside0.mk (below_step HB.out hb); have n1_ := Aside0.mk ((HP.out.elder g2 (Nat.le_of_eq hg.symm)).below hb); have n2_ := Aside0.mk (HK.out.below hb); have n3_ := Aside0.mk hbox; clear HB HP HK hb hbox hg; have HB := n0_; have HP := n1_; have HK := n2_; have BK2 := n3_; clear n0_ n1_ n2_ n3_)
        | (go_at_call 14; refine (HLEAST.out _ _ HP.out).mono ?_; rintro e w3 ⟨rfl, hb⟩; have n0_ := Aside0.mk (below_step HB.out hb); have n1_ := Aside0.mk (HP.out.below hb); have n2_ := Aside0.mk (HK.out.below hb); have n3_ := Aside0.mk (blk_below BK2.out hb); clear HB HP HK BK2 hb; have HB := n0_; have HP := n1_; have HK := n2_; have BK2 := n3_; clear n0_ n1_ n2_ n3_)
        | ((with_reducible refine gate_dst (N := 4) rfl ?_); refine box_event ?hg (N := 4) ?hd (cs := #[.int .i64 0, .int .i64 0]) (t := 34) ?hr ?_; (case hd => rfl); (case hg => rfl); (case hr => first | (go_simp; done) | (go_simp; rfl)); intro g4 hg w4 hbox hb; have GE4 := Aside0.mk (show w.heap.size ≤ g4 by rw [hg]; exact HK.out.1); have GB4 := Aside0.mk (show w0.heap.size ≤ g4 by rw [hg]; exact below_size HB.out); have NG4 := Aside0.mk (show g ≠ g4 by rw [hg]; exact Nat.ne_of_lt (blk_lt HP.out.blk)); have NG24 := Aside0.mk (show g2 ≠ g4 by rw [hg]; exact Nat.ne_of_lt (blk_lt BK2.out)); have n0_ := Aside0.mk (below_step HB.out hb); have n1_ := Aside0.mk ((HP.out.elder g4 (Nat.le_of_eq hg.symm)).below hb); have n2_ := Aside0.mk (HK.out.below hb); have n3_ := Aside0.mk (blk_below BK2.out hb); have n4_ := Aside0.mk hbox; clear HB HP HK BK2 hb hbox hg; have HB := n0_; have HP := n1_; have HK := n2_; have BK2 := n3_; have BK4 := n4_; clear n0_ n1_ n2_ n3_ n4_; have z0 : w4.cell? ⟨g4, 0, none⟩ = some (.int .i64 0) := (blk_cell BK4.out 0).trans rfl; have z1 : w4.cell? ⟨g4, 1, none⟩ = some (.int .i64 0) := (blk_cell BK4.out 1).trans rfl; have y0 := blk_frozen BK4.out 0; have y1 := blk_frozen BK4.out 1; have z2 : w4.cell? ⟨g, 1, none⟩ = some (.slice (some ⟨gr, o, none⟩) (n + 1) cap) := (blk_cell HP.out.blk 1).trans rfl; have y2 := blk_frozen HP.out.blk 1; have z4 : w4.cell? ⟨g2, 0, none⟩ = some (.int .i64 0) := (blk_cell BK2.out 0).trans rfl; have z5 : w4.cell? ⟨g2, 1, none⟩ = some (.int .i64 0) := (blk_cell BK2.out 1).trans rfl; have y4 := blk_frozen BK2.out 0; have y5 := blk_frozen BK2.out 1; have ne1 := eq_false NG4.out; have ne2 := eq_false NG4.out.symm; have ne3 := eq_false NG2.out; have ne4 := eq_false NG2.out.symm; have ne5 := eq_false NG24.out; have ne6 := eq_false NG24.out.symm))
      have c4_ := HC3.out
      have n1_ := (HP.out.far2 NG4.out (fun k hk => hk.2) (.int .i64 y0_) (.int .i64 y1_)).mono (ok' := fun k => ok k ∧ k ≠ g2) (fun k hk => hk.1)
      have hd_ := Kd.Q_drop (k := 1) n1_.row (by simp)
      rw [if_pos c4_] at hd_
      have n2_ := n1_.put (u := .slice (some ⟨gr, o, none⟩) n (cap - 1)) (xs := t) hd_ (by have h1_ := HN.out; have h2_ := HLM.out; omega)
      have n3_ := blk_far (p := ⟨g, 1, none⟩) (blk_far (p := ⟨g4, 1, none⟩) (blk_far (p := ⟨g4, 0, none⟩) BK2.out NG24.out (.int .i64 y0_)) NG24.out (.int .i64 y1_)) NG2.out.symm (.slice (some ⟨gr, o, none⟩) n (cap - 1))
      refine bodyPost_ret (results_ct rfl _ _ g2 34 #[.int .i64 y0_, .int .i64 y1_] (0, 0) _ rfl (blk_put (cs' := #[.int .i64 y0_, .int .i64 y1_]) (blk_put (cs' := #[.int .i64 y0_, .int .i64 0]) n3_ 0 (.int .i64 y0_) rfl) 1 (.int .i64 y1_) rfl) Try.underlying34 rfl (by kernel_rfl)) rfl ?_
      exact ⟨below_set (below_set (below_set (below_set (below_set HB.out GB4.out) GB4.out) HP.out.ge) GB2.out) GB2.out, Kept.setCell (p := ⟨g2, 1, none⟩) (Kept.setCell (p := ⟨g2, 0, none⟩) (Kept.setCell (p := ⟨g, 1, none⟩) (Kept.setCell (p := ⟨g4, 1, none⟩) (Kept.setCell (p := ⟨g4, 0, none⟩) HK.out (Or.inr GE4.out) _) (Or.inr GE4.out) _) (Or.inl (Or.inl rfl)) _) (Or.inr GE2.out) _) (Or.inr GE2.out) _, rfl, _, (n2_.far2 NG2.out (fun k hk => hk.2) _ _).mono (fun k hk => hk.1)⟩
    · have c4 := eq_false c3
      have HC3 := Aside0.mk c3
      clear c3
      go_enter Try.func12, Try.ntmps12
      go_wp2_with (first
        | ((with_reducible refine gate_dst (N := 2) rfl ?_); refine box_event ?hg (N := 2) ?hd (cs := #[.int .i64 0, .int .i64 0]) (t := 34) ?hr ?_; (case hd => rfl); (case hg => rfl); (case hr => first | (go_simp; done) | (go_simp; rfl)); intro g2 hg w2 hbox hb; have GE2 := Aside0.mk (show w.heap.size ≤ g2 by rw [hg]; exact HK.out.1); have GB2 := Aside0.mk (show w0.heap.size ≤ g2 by rw [hg]; exact below_size HB.out); have NG2 := Aside0.mk (show g ≠ g2 by rw [hg]; exact Nat.ne_of_lt (blk_lt HP.out.blk)); have n0_ := Aside0.mk (below_step HB.out hb); have n1_ := Aside0.mk ((HP.out.elder g2 (Nat.le_of_eq hg.symm)).below hb); have n2_ := Aside0.mk (HK.out.below hb); have n3_ := Aside0.mk hbox; clear HB HP HK hb hbox hg; have HB := n0_; have HP := n1_; have HK := n2_; have BK2 := n3_; clear n0_ n1_ n2_ n3_)
        | (go_at_call 14; refine (HLEAST.out _ _ HP.out).mono ?_; rintro e w3 ⟨rfl, hb⟩; have n0_ := Aside0.mk (below_step HB.out hb); have n1_ := Aside0.mk (HP.out.below hb); have n2_ := Aside0.mk (HK.out.below hb); have n3_ := Aside0.mk (blk_below BK2.out hb); clear HB HP HK BK2 hb; have HB := n0_; have HP := n1_; have HK := n2_; have BK2 := n3_; clear n0_ n1_ n2_ n3_)
        | ((with_reducible refine gate_dst (N := 4) rfl ?_); refine box_event ?hg (N := 4) ?hd (cs := #[.int .i64 0, .int .i64 0]) (t := 34) ?hr ?_; (case hd => rfl); (case hg => rfl); (case hr => first | (go_simp; done) | (go_simp; rfl)); intro g4 hg w4 hbox hb; have GE4 := Aside0.mk (show w.heap.size ≤ g4 by rw [hg]; exact HK.out.1); have GB4 := Aside0.mk (show w0.heap.size ≤ g4 by rw [hg]; exact below_size HB.out); have NG4 := Aside0.mk (show g ≠ g4 by rw [hg]; exact Nat.ne_of_lt (blk_lt HP.out.blk)); have NG24 := Aside0.mk (show g2 ≠ g4 by rw [hg]; exact Nat.ne_of_lt (blk_lt BK2.out)); have n0_ := Aside0.mk (below_step HB.out hb); have n1_ := Aside0.mk ((HP.out.elder g4 (Nat.le_of_eq hg.symm)).below hb); have n2_ := Aside0.mk (HK.out.below hb); have n3_ := Aside0.mk (blk_below BK2.out hb); have n4_ := Aside0.mk hbox; clear HB HP HK BK2 hb hbox hg; have HB := n0_; have HP := n1_; have HK := n2_; have BK2 := n3_; have BK4 := n4_; clear n0_ n1_ n2_ n3_ n4_; have z0 : w4.cell? ⟨g4, 0, none⟩ = some (.int .i64 0) := (blk_cell BK4.out 0).trans rfl; have z1 : w4.cell? ⟨g4, 1, none⟩ = some (.int .i64 0) := (blk_cell BK4.out 1).trans rfl; have y0 := blk_frozen BK4.out 0; have y1 := blk_frozen BK4.out 1; have z2 : w4.cell? ⟨g, 1, none⟩ = some (.slice (some ⟨gr, o, none⟩) (n + 1) cap) := (blk_cell HP.out.blk 1).trans rfl; have y2 := blk_frozen HP.out.blk 1; have z4 : w4.cell? ⟨g2, 0, none⟩ = some (.int .i64 0) := (blk_cell BK2.out 0).trans rfl; have z5 : w4.cell? ⟨g2, 1, none⟩ = some (.int .i64 0) := (blk_cell BK2.out 1).trans rfl; have y4 := blk_frozen BK2.out 0; have y5 := blk_frozen BK2.out 1; have ne1 := eq_false NG4.out; have ne2 := eq_false NG4.out.symm; have ne3 := eq_false NG2.out; have ne4 := eq_false NG2.out.symm; have ne5 := eq_false NG24.out; have ne6 := eq_false NG24.out.symm))
      have c4_ := HC3.out
      have n1_ := (HP.out.far2 NG4.out (fun k hk => hk.2) (.int .i64 y0_) (.int .i64 y1_)).mono (ok' := fun k => ok k ∧ k ≠ g2) (fun k hk => hk.1)
      have hd_ := Kd.Q_drop (k := 1) n1_.row (by simp)
      rw [if_neg c4_] at hd_
      have n2_ := n1_.put (u := .slice (some ⟨gr, o + 2, none⟩) n (cap - 1)) (xs := t) hd_ (by have h1_ := HN.out; have h2_ := HLM.out; omega)
      have n3_ := blk_far (p := ⟨g, 1, none⟩) (blk_far (p := ⟨g4, 1, none⟩) (blk_far (p := ⟨g4, 0, none⟩) BK2.out NG24.out (.int .i64 y0_)) NG24.out (.int .i64 y1_)) NG2.out.symm (.slice (some ⟨gr, o + 2, none⟩) n (cap - 1))
      refine bodyPost_ret (results_ct rfl _ _ g2 34 #[.int .i64 y0_, .int .i64 y1_] (0, 0) _ rfl (blk_put (cs' := #[.int .i64 y0_, .int .i64 y1_]) (blk_put (cs' := #[.int .i64 y0_, .int .i64 0]) n3_ 0 (.int .i64 y0_) rfl) 1 (.int .i64 y1_) rfl) Try.underlying34 rfl (by kernel_rfl)) rfl ?_
      exact ⟨below_set (below_set (below_set (below_set (below_set HB.out GB4.out) GB4.out) HP.out.ge) GB2.out) GB2.out, Kept.setCell (p := ⟨g2, 1, none⟩) (Kept.setCell (p := ⟨g2, 0, none⟩) (Kept.setCell (p := ⟨g, 1, none⟩) (Kept.setCell (p := ⟨g4, 1, none⟩) (Kept.setCell (p := ⟨g4, 0, none⟩) HK.out (Or.inr GE4.out) _) (Or.inr GE4.out) _) (Or.inl (Or.inl rfl)) _) (Or.inr GE2.out) _) (Or.inr GE2.out) _, rfl, _, (n2_.far2 NG2.out (fun k hk => hk.2) _ _).mono (fun k hk => hk.1)⟩
end Go.Proofs.Ytloebciamfbjfaa.Q
end
