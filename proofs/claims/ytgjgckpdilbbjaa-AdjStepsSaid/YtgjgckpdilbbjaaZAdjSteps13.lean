/- A part of the proof: words, contracts, plain lemmas. Conditions: none. -/
import Derived.Test.YtgjgckpdilbbjaaZAdjSteps12
section
namespace Go.Proofs.Ytgjgckpdilbbjaa.Q
open Go.RowKit Go.Proofs.Ytgjgckpdilbbjaa.P Go.Proofs.YtgjgckpdilbbjaaW.PrintWords Go.Proofs.YtgjgckpdilbbjaaW.PrintLast Go.Proofs.YtgjgckpdilbbjaaW.PrintMore
set_option linter.unusedVariables false
set_option linter.unusedSimpArgs false
structure FS (w1 w' : World) (gd gp : Nat) (most : Int) (d : List Int) (s : List (Int × Int)) (X : Nat → Prop) : Prop where
  below : Below w1.heap.size w1 w'
  row : w'.heap[gd]? = some (.cells (ints d) 3 (0, 0))
  pile : PState w' w1.heap.size (fun k => gd < k ∧ ¬ X k) gp most s
section
variable {w1 w' w'' : World} {gd gp : Nat} {most : Int} {d : List Int} {s : List (Int × Int)} {X Y : Nat → Prop}
theorem FS.step (h : FS w1 w' gd gp most d s X) (hb : Below w'.heap.size w' w'') : FS w1 w'' gd gp most d s X := ⟨below_step h.below hb, blk_below h.row hb, h.pile.below hb⟩
theorem FS.drew (h : FS w1 w' gd gp most d s X) : FS w1 w'.drew gd gp most d s X := h.step (below_drew (Below.refl _ _))
theorem FS.box (h : FS w1 w' gd gp most d s X) {g : Nat} (hg : g = w'.heap.size) (hb : Below w'.heap.size w' w'') : FS w1 w'' gd gp most d s (fun k => X k ∨ k = g) :=
  ⟨below_step h.below hb, blk_below h.row hb, ((h.pile.elder g (by omega)).below hb).mono (fun k hk => ⟨hk.1.1, fun e => e.elim hk.1.2 hk.2⟩)⟩
theorem FS.mono (h : FS w1 w' gd gp most d s X) (hk : ∀ k, Y k → X k) : FS w1 w' gd gp most d s Y := ⟨h.below, h.row, h.pile.mono (fun k e => ⟨e.1, fun y => e.2 (hk k y)⟩)⟩
theorem FS.set (h : FS w1 w' gd gp most d s X) {g : Nat} (hx : X g) (hg : w1.heap.size ≤ g) (hd : gd ≠ g) (hp : gp ≠ g) (j : Nat) (u : Value) : FS w1 (w'.setCell ⟨g, j, none⟩ u) gd gp most d s X :=
  ⟨below_set h.below hg, blk_far (p := ⟨g, j, none⟩) h.row hd _, h.pile.kept (S := fun k => k = g) (Kept.setCell (p := ⟨g, j, none⟩) (Kept.refl w' (fun k => k = g)) (Or.inl rfl) _) hp (fun k hk e => by subst e; exact hk.2 hx)⟩
theorem FS.put (h : FS w1 w' gd gp most d s X) (hg : w1.heap.size ≤ gd) (hp : gd < gp) (j : Nat) (x : Int) : FS w1 (w'.setCell ⟨gd, j, none⟩ (.int .i64 x)) gd gp most (d.set j x) s X :=
  ⟨below_set h.below hg, ints_put h.row j x, h.pile.kept (S := fun k => k = gd) (Kept.setCell (p := ⟨gd, j, none⟩) (Kept.refl w' (fun k => k = gd)) (Or.inl rfl) _) (by omega) (fun k hk e => by subst e; exact absurd hk.1 (by omega))⟩
theorem FS.pop {x : Int × Int} (h : FS w1 w' gd gp most d (x :: s) X) (hp : gd < gp) (hl : (x :: s).length ≤ 65536) : Calls Try.prog 37 #[.pointer (some ⟨gp, 0, none⟩)] w' fun e w'' => e = .returned (.tuple #[.agg #[.int .i64 x.1, .int .i64 x.2], .int .i64 0]) ∧ FS w1 w'' gd gp most d s X ∧ Kept w' w'' (fun k => k = gp ∨ (gd < k ∧ ¬ X k)) := by
  refine (popP1 _ gp most x s w1 w' h.below h.pile hl).mono ?_
  rintro e w2 ⟨hb, hk, he, hq⟩
  exact ⟨he, ⟨hb, Kept.blk hk h.row (fun e_ => by omega), hq⟩, hk⟩
theorem FS.push (h : FS w1 w' gd gp most d s X) (hp : gd < gp) (hX : ∀ k, X k → k < w'.heap.size) (x0 x1 : Int) (hl : s.length ≤ 65536) (s' : List (Int × Int)) (hs : (if (s.length : Int) = most then s else ins (x0, x1) s) = s') : Calls Try.prog 35 #[.pointer (some ⟨gp, 0, none⟩), .agg #[.int .i64 x0, .int .i64 x1]] w' fun e w'' => (∃ r, e = .returned (.int .i64 r)) ∧ FS w1 w'' gd gp most d s' X ∧ Kept w' w'' (fun k => k = gp ∨ (gd < k ∧ ¬ X k)) := by
  refine (pushP1 _ gp most s x0 x1 w1 w' h.below h.pile (fun k hk => ⟨Nat.lt_of_lt_of_le (blk_lt h.row) hk, fun e => by have := hX k e; omega⟩) hl s' hs).mono ?_
  rintro e w2 ⟨hb, hk, he, hq⟩
  exact ⟨he, ⟨hb, Kept.blk hk h.row (fun e_ => by omega), hq⟩, hk⟩
end
def fastIn (arcs : List S37) (most key : Int) : List Int → List Int → List (Int × Int) → Option (List Int × List (Int × Int))
  | [], d, s => some (d, s)
  | i :: r, d, s =>
    if 0 ≤ i ∧ i < (arcs.length : Int) ∧ 0 ≤ (rd_T37 arcs i).f1 ∧ (rd_T37 arcs i).f1 < (d.length : Int) ∧ s.length ≤ 65536 then
      (if rd d (rd_T37 arcs i).f1 < 0 ∨ wrap64 (key + (rd_T37 arcs i).f3) < rd d (rd_T37 arcs i).f1 then fastIn arcs most key r (d.set ((rd_T37 arcs i).f1).toNat (wrap64 (key + (rd_T37 arcs i).f3))) (if (s.length : Int) = most then s else ins (wrap64 (key + (rd_T37 arcs i).f3), (rd_T37 arcs i).f1) s)
       else fastIn arcs most key r d s)
    else none
def fastLoop (arcs : List S37) (out : List (List Int)) (most : Int) : Nat → List Int → List (Int × Int) → Option (List Int)
  | 0, _, _ => none
  | _ + 1, d, [] => some d
  | k + 1, d, x :: s => if 0 ≤ x.2 ∧ x.2 < (out.length : Int) ∧ x.2 < (d.length : Int) ∧ (x :: s).length ≤ 65536 then (if x.1 > rd d x.2 then fastLoop arcs out most k d s else (fastIn arcs most x.1 (rd_L3 out x.2) d s).bind (fun y => fastLoop arcs out most k y.1 y.2)) else none
def adj_Fastest.f (k : Nat) (a0_0 : Int) (a0_1 : Bool) (l0_2 : List S37) (a1 : Int) : Option (List Int × Int) :=
  (adj_asked.f k a0_0 a0_1 l0_2 a1).bind fun e => if e = 0 then (if (1 ≤ a0_0 ∧ a0_0 ≤ 50 ∧ l0_2.length ≤ 60000) ∧ 0 ≤ a1 ∧ a1 < a0_0 then (adj_Leaving.f k a0_0 a0_1 l0_2).bind fun out => (fastLoop l0_2 out (wrap64 ((l0_2.length : Int) + 1)) k ((List.replicate a0_0.toNat (-1)).set a1.toNat 0) [(0, a1)]).bind fun d => some (d, 0) else none) else some ([], e)
theorem fastLoop.mono (arcs : List S37) (out : List (List Int)) (N : Int) : ∀ k d q, LeO (fastLoop arcs out N k d q) (fastLoop arcs out N (k + 1) d q)
  | 0, _, _ => LeO.none _
  | k + 1, d, [] => LeO.refl _
  | k + 1, d, v :: q => by
    unfold fastLoop
    exact LeO.ite (LeO.ite (fastLoop.mono arcs out N k _ _) (LeO.bind (LeO.refl _) (fun x => fastLoop.mono arcs out N k x.1 x.2))) (LeO.none _)
theorem adj_Fastest.mono : ∀ a0 a1 a2 a3 k, LeO (adj_Fastest.f k a0 a1 a2 a3) (adj_Fastest.f (k + 1) a0 a1 a2 a3) := by
  intro a0 a1 a2 a3 k
  unfold adj_Fastest.f
  exact LeO.bind (adj_asked.mono _ _ _ _ _) (fun _ => LeO.ite (LeO.ite (LeO.bind (adj_Leaving.mono _ _ _ _) (fun _ => LeO.bind (fastLoop.mono _ _ _ _ _ _) (fun _ => LeO.refl _))) (LeO.none _)) (LeO.refl _))
def adj_Fastest.T4 : Bool × List (List Nat × List Nat) := (true, [([], []), ([0], [0]), ([], []), ([], []), ([2, 3, 1], [2, 3]), ([1, 4, 0, 1], [1]), ([4, 5, 0, 1, 2, 3, 4, 5], [4])])
def adj_Fastest.B4 : List Nat := [0, 1, 0, 0, 15, 31, 63]
theorem adj_Fastest.tab4 : rtab .any (opsOf Try.f17 4) = adj_Fastest.T4 := by kernel_rfl
theorem adj_Fastest.bits4 : waitsOk adj_Fastest.T4.2 adj_Fastest.B4 = true := by kernel_rfl
def adj_Fastest.T9 : Bool × List (List Nat × List Nat) := (true, [([], []), ([0], [0]), ([], []), ([], []), ([3], [3]), ([2, 4], [2, 4]), ([5], [5]), ([1, 6], [1, 6])])
def adj_Fastest.B9 : List Nat := [0, 1, 0, 0, 8, 28, 60, 127]
theorem adj_Fastest.tab9 : rtab .any (opsOf Try.f17 9) = adj_Fastest.T9 := by kernel_rfl
theorem adj_Fastest.bits9 : waitsOk adj_Fastest.T9.2 adj_Fastest.B9 = true := by kernel_rfl
set_option maxHeartbeats 8000000 in
set_option maxRecDepth 100000 in
theorem adj_Fastest.calls (k : Nat) (a0_0 : Int) (a0_1 : Bool) (A0_2 : Option Addr) (c0_2 : Nat) (l0_2 : List (S37)) (a1 : Int) (r1 : List Int) (r2 : Int) (w : World) (hr0_2 : Kd.C k37 w A0_2 l0_2.length l0_2) (hc0_2 : l0_2.length ≤ c0_2) (h : adj_Fastest.f k a0_0 a0_1 l0_2 a1 = some (r1, r2)) :
    Calls Try.prog 17 #[.agg #[.int .i64 a0_0, .bool a0_1, .slice A0_2 l0_2.length c0_2], .int .i64 a1] w fun e w' => ∃ v0_, e = .returned (.tuple #[v0_, .int .i64 r2]) ∧ Kd.R (Kd.int .i64) 3 w' w.heap.size (fun _ => True) v0_ r1 ∧ Below w.heap.size w w' := by
  have hu24 := Try.underlying24
  have hu25 := Try.underlying25
  have HR0 := Aside0.mk hr0_2
  have HC0 := Aside0.mk hc0_2
  have HB := Aside0.mk (Below.refl w.heap.size w)
  clear hr0_2 hc0_2
  unfold adj_Fastest.f at h
  replace h := Option.bind_eq_some_iff.mp h
  obtain ⟨e0, ha, h⟩ := h
  have HA := Aside0.mk ha
  clear ha
  by_cases ce : e0 = 0
  · rw [if_pos ce] at h
    by_cases cg : (1 ≤ a0_0 ∧ a0_0 ≤ 50 ∧ l0_2.length ≤ 60000) ∧ 0 ≤ a1 ∧ a1 < a0_0
    · rw [if_pos cg] at h
      replace h := Option.bind_eq_some_iff.mp h
      obtain ⟨out, ho, h⟩ := h
      replace h := Option.bind_eq_some_iff.mp h
      obtain ⟨dr, hl, h⟩ := h
      simp only [Option.some.injEq, Prod.mk.injEq] at h
      obtain ⟨rfl, rfl⟩ := h
      have HO := Aside0.mk ho
      have HL := Aside0.mk hl
      subst ce
      obtain ⟨N, hN⟩ : ∃ N : Nat, a0_0 = (N : Int) := ⟨a0_0.toNat, by omega⟩
      obtain ⟨s, hs⟩ : ∃ s : Nat, a1 = (s : Int) := ⟨a1.toNat, by omega⟩
      subst hN hs
      have HN : Aside0 (1 ≤ N ∧ N ≤ 50 ∧ s < N ∧ l0_2.length ≤ 60000) := ⟨by omega⟩
      clear ho hl cg
      go_enter Try.func17, Try.ntmps17
      go_wp2_with (first
        | ((with_reducible refine gate_dst (N := 2) rfl ?_); refine box_event ?hg (N := 2) ?hd (cs := #[.int .i64 (N : Int), .bool a0_1, .slice A0_2 l0_2.length c0_2]) (t := 24) ?hr ?_; (case hd => rfl); (case hg => rfl); (case hr => first | (go_simp; done) | (go_simp; rfl)); intro gb hg w1 hbox hb; have n0_ := Aside0.mk (below_step HB.out hb); have n1_ := Aside0.mk hbox; have GB := Aside0.mk (show w.heap.size ≤ gb by rw [hg]; exact below_size HB.out); clear HB; have HB := n0_; have BK := n1_; clear n0_ n1_ hb hbox hg; have hcz0 : w1.cell? ⟨gb, 0, none⟩ = some (.int .i64 (N : Int)) := (blk_cell BK.out 0).trans rfl; have hcz1 : w1.cell? ⟨gb, 1, none⟩ = some (.bool a0_1) := (blk_cell BK.out 1).trans rfl; have hcz2 : w1.cell? ⟨gb, 2, none⟩ = some (.slice A0_2 l0_2.length c0_2) := (blk_cell BK.out 2).trans rfl)
        | (go_at_call 25; refine (adj_asked.calls k (N : Int) a0_1 _ _ l0_2 (s : Int) 0 _ (Kd.C_below HR0.out HB.out) HC0.out HA.out).mono ?_; rintro e w2 ⟨rfl, hb⟩; have n0_ := Aside0.mk (below_step HB.out hb); have n1_ := Aside0.mk (blk_below BK.out hb); clear HB BK hb hcz0 hcz1 hcz2; have HB := n0_; have BK := n1_; clear n0_ n1_))
      clear HA
      have n0_ := Aside0.mk (below_drew1 HB.out)
      have n1_ := Aside0.mk (blk_drew BK.out)
      clear HB BK
      have HB := n0_
      have BK := n1_
      clear n0_ n1_
      refine start_ (n := 7) (S := fun w' => w'.cell? ⟨gb, 0, none⟩ = some (.int .i64 (N : Int)) ∧ w'.cell? ⟨gb, 1, none⟩ = some (.bool a0_1) ∧ w'.cell? ⟨gb, 2, none⟩ = some (.slice A0_2 l0_2.length c0_2)) (ds := []) #[Ff,Ff,Ff,Ff,Ff,Ff,Ff] (by kernel_rfl) rfl rfl ⟨(blk_cell BK.out 0).trans rfl, (blk_cell BK.out 1).trans rfl, (blk_cell BK.out 2).trans rfl⟩ (fun hHeld => ?_)
      generalize w2.drew = w3 at HB BK hHeld ⊢
      refine with_tabW adj_Fastest.tab4 adj_Fastest.bits4 (fun HT_ HW_ => ?_)
      refine pv_ 3 26 #[Ff,Ff,Ff,Tt,Ff,Ff,Ff] ?_
      refine take_ (i := 0) (N := (some 23)) (v := ?_) (a' := ?_) #[Tt,Ff,Ff,Tt,Ff,Ff,Ff] rfl rfl (take_ofW HT_.out HW_.out (by kernel_rfl)) (fun _ _ _ h => h) (Or.inl ⟨by rfl, ?_⟩) hHeld ?_ ?_
      rotate_left
      · rintro w' ⟨s0, s1, s2⟩
        go_simp
        with_reducible rfl
      rotate_left
      exact ap_
      refine take_ (i := 2) (N := (some 25)) (v := ?_) (a' := ?_) #[Tt,Ff,Tt,Tt,Ff,Ff,Ff] rfl rfl (take_ofW HT_.out HW_.out (by kernel_rfl)) (fun _ _ _ h => h) (Or.inl ⟨by rfl, ?_⟩) hHeld ?_ ?_
      rotate_left
      · rintro w' ⟨s0, s1, s2⟩
        go_simp
        with_reducible rfl
      rotate_left
      exact ap_
      refine one_ (i := 1) (N := (some 24)) #[Tt,Tt,Tt,Tt,Ff,Ff,Ff] rfl rfl (one_of HT_.out (by kernel_rfl)) (by decide) (fun K hK => ?_)
      refine goes_ Try.func26 (by kernel_rfl) rfl #[.agg #[.int .i64 (N : Int), .bool a0_1, .slice A0_2 l0_2.length c0_2]] (by rfl) rfl rfl (by (try simp only [List.map_toArray, List.map_cons, List.map_nil]); first | done | rfl) ?_
      refine (adj_Leaving.calls k (N : Int) a0_1 _ _ l0_2 out _ (Kd.C_below HR0.out HB.out) HC0.out HO.out).mono ?_
      rintro e w4 ⟨vo, rfl, hs, hb⟩
      obtain ⟨Ao, co, rfl, hoc, hor⟩ := Kd.S_reads hs
      have n0_ := Aside0.mk (below_step HB.out hb)
      have n1_ := Aside0.mk (blk_below BK.out hb)
      clear HB BK hs
      have HB := n0_
      have BK := n1_
      have HOR := Aside0.mk hor
      have HOC := Aside0.mk hoc
      clear n0_ n1_ hor hoc
      refine ⟨_, rfl, hK.out _ _ ⟨(blk_cell BK.out 0).trans rfl, (blk_cell BK.out 1).trans rfl, (blk_cell BK.out 2).trans rfl⟩ (fun hHeld2 => ?_)⟩
      clear hK K hHeld
      have hHeld := hHeld2
      clear hHeld2
      refine norm_ (a' := ?_) ?_ ?_
      rotate_left
      · show Act.put _ (some 24) _ = _
        simp only [Act.put, List.setIfInBounds_toArray, List.set_cons_zero, List.set_cons_succ, i64_w, i32_w]
        rfl
      refine one_ (i := 4) (N := (some 27)) #[Tt,Tt,Tt,Tt,Tt,Ff,Ff] rfl rfl (one_of HT_.out (by kernel_rfl)) (by decide) (fun K hK => ?_)
      refine goes_ Try.func27 (by kernel_rfl) rfl #[.agg #[.int .i64 (N : Int), .bool a0_1, .slice A0_2 l0_2.length c0_2], .int .i64 (s : Int)] (by rfl) rfl rfl (by (try simp only [List.map_toArray, List.map_cons, List.map_nil]); first | done | rfl) ?_
      refine (adj_none.calls N s HN.out.2.2.1 HN.out.2.1 a0_1 _ _ rfl).mono ?_
      rintro e w5 ⟨gd, rfl, hd, hgd, hb⟩
      have HB0 := HB
      have GB4 : Aside0 (gb < w4.heap.size) := ⟨blk_lt BK.out⟩
      have HSZ : Aside0 (w.heap.size ≤ w4.heap.size) := ⟨below_size HB.out⟩
      have n1_ := Aside0.mk (blk_below BK.out hb)
      clear HB
      have HB := Aside0.mk hb
      have BD := Aside0.mk hd
      have GD := Aside0.mk hgd
      have BK4 := BK
      clear hb hd hgd BK
      refine ⟨_, rfl, hK.out _ _ ⟨(blk_cell n1_.out 0).trans rfl, (blk_cell n1_.out 1).trans rfl, (blk_cell n1_.out 2).trans rfl⟩ (fun hHeld2 => ?_)⟩
      clear hK K hHeld hHeld2 n1_
      refine norm_ (a' := ?_) ?_ ?_
      rotate_left
      · show Act.put _ (some 27) _ = _
        simp only [Act.put, List.setIfInBounds_toArray, List.set_cons_zero, List.set_cons_succ, i64_w, i32_w]
        rfl
      refine pv_ 5 7 #[Tt,Tt,Tt,Tt,Tt,Tt,Ff] ?_
      refine pv_ 6 8 #[Tt,Tt,Tt,Tt,Tt,Tt,Tt] ?_
      refine done_ (done_of HT_.out (by kernel_rfl)) ?_
      clear HT_ HW_
      have hcz0 : w5.cell? ⟨gb, 0, none⟩ = some (.int .i64 (N : Int)) := (blk_cell (blk_below BK4.out HB.out) 0).trans rfl
      obtain ⟨d0, hd0⟩ : ∃ d0, (List.replicate N (-1 : Int)).set s 0 = d0 := ⟨_, rfl⟩
      obtain ⟨M, hM⟩ : ∃ M, wrap64 ((l0_2.length : Int) + 1) = M := ⟨_, rfl⟩
      have HM : Aside0 (M = ((l0_2.length + 1 : Nat) : Int)) := ⟨by rw [← hM]; exact wrapId (by omega) (by have := HN.out; omega)⟩
      have HL0 : Aside0 (fastLoop l0_2 out M k d0 [(0, (s : Int))] = some dr) := ⟨by have h_ := HL.out; rw [Int.toNat_natCast, Int.toNat_natCast, hd0, hM] at h_; exact h_⟩
      have HD0 : Aside0 (d0.length = N) := ⟨by rw [← hd0]; simp⟩
      rw [hd0] at BD
      clear hd0 HL HO hcz0
      have hcz2 : w5.cell? ⟨gb, 2, none⟩ = some (.slice A0_2 l0_2.length c0_2) := (blk_cell (blk_below BK4.out HB.out) 2).trans rfl
      go_wp2_with (first
        | (go_at_call 34; refine (newP M _ (by have := HM.out; omega) (by have := HM.out; have := HN.out; omega)).mono ?_; rintro e w6 ⟨hb, gp, rfl, hq⟩; have GQ : Aside0 (gd < gp) := Aside0.mk (Nat.lt_of_lt_of_le (blk_lt BD.out) hq.ge); have n2_ := Aside0.mk ((⟨below_step HB.out hb, blk_below BD.out hb, (hq.based.mono (fun k hk => ⟨Nat.lt_of_lt_of_le (blk_lt BD.out) hk.2, id⟩)).lower (below_size HB.out)⟩ : FS w4 w6 gd gp M d0 [] (fun _ => False))); clear HB BD hb hq hcz2; have HF := n2_; clear n2_)
        | (go_at_call 35; refine (HF.out.push GQ.out (fun _ h_ => h_.elim) 0 (s : Int) (by simp) [(0, (s : Int))] (by rw [if_neg (by have := HM.out; simp; omega)]; rfl)).mono ?_; rintro e w7 ⟨⟨rp, rfl⟩, hf, hk⟩; have n0_ := Aside0.mk hf; clear HF hf hk; have HF := n0_; clear n0_))
      clear hM
      go_loopg [11] k (fun kq v11 w' => ∃ (d : List Int) (q : List (Int × Int)), Aside0 (fastLoop l0_2 out M kq d q = some dr) ∧ Aside0 (d.length = N) ∧ Aside0 (FS w4 w' gd gp M d q (fun _ => False)))
      case atStart => exact ⟨d0, _, HL0, HD0, HF⟩
      case round =>
        clear HF HL0 HD0
        obtain ⟨d, q, HL, HD, HF⟩ := hrel
        cases gk with
        | zero => exact absurd HL.out (by simp [fastLoop])
        | succ k1 =>
          cases q with
          | nil =>
            have hdr : d = dr := by have h_ := HL.out; simp only [fastLoop] at h_; exact Option.some.inj h_
            subst hdr
            go_wp2_with (go_at_call 36; refine (lenP' gp M [] 0 _ HF.out.pile rfl).mono ?_; rintro e w7 ⟨rfl, rfl⟩)
            go_ret2
            exact ⟨_, rfl, by have h_ := R_block (base := w.heap.size) HF.out.row (Nat.le_trans HSZ.out GD.out) (by have := HD.out; have := HN.out; omega); rw [HD.out] at h_; exact h_, below_step HB0.out HF.out.below⟩
          | cons x q =>
            obtain ⟨key, item⟩ := x
            have hH := HL.out
            unfold fastLoop at hH
            by_cases cv : 0 ≤ item ∧ item < (out.length : Int) ∧ item < (d.length : Int) ∧ ((key, item) :: q).length ≤ 65536
            · rw [if_pos cv] at hH
              have HV := Aside0.mk cv
              have HH0 := Aside0.mk hH
              clear cv HL hH
              obtain ⟨n, hn⟩ : ∃ n, ((key, item) :: q).length = n := ⟨_, rfl⟩
              have hpos : 0 < n := by rw [← hn]; simp
              have c1 : decide ((n : Int) > 0) = true := decide_eq_true (by omega)
              have c2 : decide (0 < (n : Int)) = true := decide_eq_true (by omega)
              have c3 : decide (0 < n) = true := decide_eq_true hpos
              have HNL := Aside0.mk hn
              clear hn hpos
              go_wp2_with (first
                | (go_at_call 36; refine (lenP' gp M ((key, item) :: q) n _ HF.out.pile HNL.out).mono ?_; rintro e w7 ⟨rfl, rfl⟩)
                | (go_at_call 37; refine (HF.out.pop GQ.out HV.out.2.2.2).mono ?_; rintro e w8 ⟨rfl, hf, hk⟩; have n0_ := Aside0.mk hf; clear HF hf hk; have HF := n0_; clear n0_)
                | ((with_reducible refine gate_dst (N := 11) rfl ?_); refine box_event ?hg (N := 11) ?hd (cs := #[.int .i64 0, .int .i64 0]) (t := 58) ?hr ?_; (case hd => rfl); (case hg => rfl); (case hr => first | (go_simp; done) | (go_simp; rfl)); intro gx hg w9 hbox hb; have n0_ := Aside0.mk (HF.out.box hg hb); have n1_ := Aside0.mk hbox; have GX : Aside0 (gd < gx ∧ gp ≠ gx) := Aside0.mk ⟨hg ▸ blk_lt HF.out.row, fun e_ => by have := HF.out.pile.ty.lt; omega⟩; clear HF hb hbox hg; have HF := n0_; have BX := n1_; clear n0_ n1_; have hcx0 : w9.cell? ⟨gx, 0, none⟩ = some (.int .i64 0) := (blk_cell BX.out 0).trans rfl; have hcx1 : w9.cell? ⟨gx, 1, none⟩ = some (.int .i64 0) := (blk_cell BX.out 1).trans rfl; have hfx0 := blk_frozen BX.out 0; have hfx1 := blk_frozen BX.out 1)
                | ((with_reducible refine gate_store (t := 58) (p := 11) rfl ?_); refine store_event (t := 58) (p := 11) (v := ?vo1) (w1 := ?wo1) ?hg ?ho ?hn ?hr ?_; (case ho => rfl); (case hg => rfl); (case hn => rfl); (case hr => first | (go_simp; done) | (go_simp; rfl)); intro w10 hw; have n0_ : Aside0 (FS w4 w10 gd gp M d q (fun k => False ∨ k = gx)) := Aside0.mk (by rw [hw]; exact (HF.out.set (Or.inr rfl) (by have := GX.out; have := GD.out; omega) (by have := GX.out; omega) GX.out.2 0 _).set (Or.inr rfl) (by have := GX.out; have := GD.out; omega) (by have := GX.out; omega) GX.out.2 1 _); have n1_ : Aside0 (w10.heap[gx]? = some (.cells #[.int .i64 key, .int .i64 item] 58 (0, 0))) := Aside0.mk (by rw [hw]; exact blk_put (cs' := #[.int .i64 key, .int .i64 item]) (blk_put (cs' := #[.int .i64 key, .int .i64 0]) BX.out 0 (.int .i64 key) rfl) 1 (.int .i64 item) rfl); clear HF BX hw hcx0 hcx1 hfx0 hfx1; have HF := n0_; have BX := n1_; clear n0_ n1_))
              clear c1 c2 c3
              obtain ⟨bf, hbf⟩ : ∃ b, decide (key > rd d item) = b := ⟨_, rfl⟩
              have hbf2 : decide (rd d item < key) = bf := hbf
              have p0 := eq_true HV.out.1
              have p1 : (item < (N : Int)) = True := eq_true (by have := HV.out.2.2.1; rw [HD.out] at this; exact this)
              have n0_ := Aside0.mk HF.out.drew
              have n1_ := Aside0.mk (blk_drew BX.out)
              clear HF BX
              have HF := n0_
              have BX := n1_
              clear n0_ n1_
              refine start_ (n := 8) (S := fun w' => w'.cell? ⟨gx, 0, none⟩ = some (.int .i64 key) ∧ w'.cell? ⟨gx, 1, none⟩ = some (.int .i64 item) ∧ w'.cell? ⟨gd, item.toNat, none⟩ = some (.int .i64 (rd d item))) (ds := []) #[Ff,Ff,Ff,Ff,Ff,Ff,Ff,Ff] (by kernel_rfl) rfl rfl ⟨(blk_cell BX.out 0).trans rfl, (blk_cell BX.out 1).trans rfl, ints_at HF.out.row item HV.out.1 HV.out.2.2.1⟩ (fun hHeld => ?_)
              generalize w10.drew = w11 at HF BX hHeld ⊢
              refine with_tabW adj_Fastest.tab9 adj_Fastest.bits9 (fun HT_ HW_ => ?_)
              refine pv_ 0 48 #[Tt,Ff,Ff,Ff,Ff,Ff,Ff,Ff] ?_
              refine pv_ 2 50 #[Tt,Ff,Tt,Ff,Ff,Ff,Ff,Ff] ?_
              refine pv_ 3 51 #[Tt,Ff,Tt,Tt,Ff,Ff,Ff,Ff] ?_
              refine take_ (i := 1) (N := (some 49)) (v := ?_) (a' := ?_) #[Tt,Tt,Tt,Tt,Ff,Ff,Ff,Ff] rfl rfl (take_ofW HT_.out HW_.out (by kernel_rfl)) (fun _ _ _ h => h) (Or.inl ⟨by rfl, ?_⟩) hHeld ?_ ?_
              rotate_left
              · rintro w' ⟨s0, s1, s2⟩
                go_simp
                with_reducible rfl
              rotate_left
              exact ap_
              refine take_ (i := 4) (N := (some 52)) (v := ?_) (a' := ?_) #[Tt,Tt,Tt,Tt,Tt,Ff,Ff,Ff] rfl rfl (take_ofW HT_.out HW_.out (by kernel_rfl)) (fun _ _ _ h => h) (Or.inl ⟨by rfl, ?_⟩) hHeld ?_ ?_
              rotate_left
              · rintro w' ⟨s0, s1, s2⟩
                go_simp
                with_reducible rfl
              rotate_left
              exact ap_
              refine pv_ 5 53 #[Tt,Tt,Tt,Tt,Tt,Tt,Ff,Ff] ?_
              refine take_ (i := 6) (N := (some 54)) (v := ?_) (a' := ?_) #[Tt,Tt,Tt,Tt,Tt,Tt,Tt,Ff] rfl rfl (take_ofW HT_.out HW_.out (by kernel_rfl)) (fun _ _ _ h => h) (Or.inl ⟨by rfl, ?_⟩) hHeld ?_ ?_
              rotate_left
              · rintro w' ⟨s0, s1, s2⟩
                go_simp
                with_reducible rfl
              rotate_left
              exact ap_
              refine pv_ 7 55 #[Tt,Tt,Tt,Tt,Tt,Tt,Tt,Tt] ?_
              refine done_ (done_of HT_.out (by kernel_rfl)) ?_
              clear hHeld HT_ HW_
              cases bf
              · have hH := HH0.out
                rw [if_neg (of_decide_eq_false hbf)] at hH
                replace hH := Option.bind_eq_some_iff.mp hH
                obtain ⟨⟨d2, q2⟩, hI, hH⟩ := hH
                have HI := Aside0.mk hI
                have HH : Aside0 (fastLoop l0_2 out M k1 d2 q2 = some dr) := Aside0.mk hH
                clear hI hH HH0 hbf hbf2
                obtain ⟨ado, A1, ca1, eA, hco, hca1, hrow⟩ := at_L3 HOR.out item HV.out.1 HV.out.2.1
                subst eA
                obtain ⟨row, hrw⟩ : ∃ row, rd_L3 out item = row := ⟨_, rfl⟩
                rw [hrw] at HI hco hca1 hrow
                have HROW := Aside0.mk hrow
                have p2 : (item < (out.length : Int)) = True := eq_true HV.out.2.1
                have hcx1 : w11.cell? ⟨gx, 1, none⟩ = some (.int .i64 item) := (blk_cell BX.out 1).trans rfl
                replace hco := (HF.out.below.cell (World.block_lt_of_cell? w4 _ hco)).trans hco
                clear hrow hrw hca1
                go_wp2
                clear p0 p1 p2 hcx1 hco
                go_loopg [62] row.length (fun kj v62 w' => ∃ (j : Nat) (d1 : List Int) (q1 : List (Int × Int)), v62 = .int .i64 (j : Int) ∧ Aside0 (j + kj = row.length) ∧ Aside0 (fastIn l0_2 M key (row.drop j) d1 q1 = some (d2, q2)) ∧ Aside0 (d1.length = N) ∧ Aside0 (FS w4 w' gd gp M d1 q1 (fun k => False ∨ k = gx)) ∧ Aside0 (w'.heap[gx]? = some (.cells #[.int .i64 key, .int .i64 item] 58 (0, 0))))
                case atStart => exact ⟨0, d, q, rfl, ⟨by omega⟩, HI, HD, HF, BX⟩
                case round =>
                  clear HF BX HI
                  obtain ⟨j, d1, q1, rfl, HJ, HI, HD1, HF, BX⟩ := hrel
                  cases gk with
                  | zero =>
                    have hj : j = row.length := by have := HJ.out; omega
                    subst hj
                    have c1 : decide ((row.length : Int) < (row.length : Int)) = false := decide_eq_false (by omega)
                    have c2 : decide (row.length < row.length) = false := decide_eq_false (by omega)
                    have hI := HI.out
                    rw [List.drop_length] at hI
                    simp only [fastIn, Option.some.injEq, Prod.mk.injEq] at hI
                    obtain ⟨rfl, rfl⟩ := hI
                    go_wp2
                    go_roundg k1
                    case measure => omega
                    case rel => exact ⟨d1, q1, HH, HD1, ⟨HF.out.mono (fun k hk => hk.elim)⟩⟩
                  | succ g1 =>
                    have hlt : j < row.length := by have := HJ.out; omega
                    have c1 : decide ((j : Int) < (row.length : Int)) = true := decide_eq_true (by omega)
                    have c2 : decide (j < row.length) = true := decide_eq_true hlt
                    have p0 := eq_true (show (0 : Int) ≤ (j : Int) by omega)
                    have p1 := eq_true (show (j : Int) < (row.length : Int) by omega)
                    have hI := HI.out
                    rw [drop_rd hlt] at hI
                    unfold fastIn at hI
                    have hci := Kd.at_int (Kd.C_below HROW.out HF.out.below) (j : Int) (by omega) (by omega)
                    obtain ⟨i, hi⟩ : ∃ i, rd row (j : Int) = i := ⟨_, rfl⟩
                    rw [hi] at hI hci
                    by_cases ci : 0 ≤ i ∧ i < (l0_2.length : Int) ∧ 0 ≤ (rd_T37 l0_2 i).f1 ∧ (rd_T37 l0_2 i).f1 < (d1.length : Int) ∧ q1.length ≤ 65536
                    · rw [if_pos ci] at hI
                      obtain ⟨ad1, e1, hx1⟩ := hci
                      subst e1
                      rw [Int.toNat_natCast] at hx1
                      have HLT := Aside0.mk hlt
                      have p2 := eq_true ci.1
                      have p3 := eq_true ci.2.1
                      obtain ⟨ad37, e37, hy0, hy1, hy2, hy3⟩ := at_T37 HR0.out i ci.1 ci.2.1
                      subst e37
                      have hbw : Below w.heap.size w wr := below_step HB0.out HF.out.below
                      replace hy0 := (hbw.cell (World.block_lt_of_cell? w _ hy0)).trans hy0
                      replace hy1 := (hbw.cell (World.block_lt_of_cell? w _ hy1)).trans hy1
                      replace hy2 := (hbw.cell (World.block_lt_of_cell? w _ hy2)).trans hy2
                      replace hy3 := (hbw.cell (World.block_lt_of_cell? w _ hy3)).trans hy3
                      have hcz2 : wr.cell? ⟨gb, 2, none⟩ = some (.slice (some ad37) l0_2.length c0_2) := (blk_cell (blk_below BK4.out HF.out.below) 2).trans rfl
                      obtain ⟨A, hA⟩ : ∃ A, rd_T37 l0_2 i = A := ⟨_, rfl⟩
                      rw [hA] at hI hy0 hy1 hy2 hy3 ci
                      have HCI := Aside0.mk ci
                      have p4 := eq_true ci.2.2.1
                      have p5 : (A.f1 < (N : Int)) = True := eq_true (by have := ci.2.2.2.1; rw [HD1.out] at this; exact this)
                      have hwj : wrap64 ((j : Int) + 1) = ((j + 1 : Nat) : Int) := by have := HROW.out.2.1; unfold wrap64; omega
                      have HWJ := Aside0.mk hwj
                      clear hwj hlt hi ci hbw hA
                      obtain ⟨b1, hb1⟩ : ∃ b, decide (rd d1 A.f1 < 0) = b := ⟨_, rfl⟩
                      obtain ⟨b2, hb2⟩ : ∃ b, decide (wrap64 (key + A.f3) < rd d1 A.f1) = b := ⟨_, rfl⟩
                      have HI2 := Aside0.mk hI
                      clear hI
                      cases b1
                      · cases b2
                        · have HI3 : Aside0 (fastIn l0_2 M key (row.drop (j + 1)) d1 q1 = some (d2, q2)) := ⟨by have h_ := HI2.out; rw [if_neg (fun e_ => e_.elim (of_decide_eq_false hb1) (of_decide_eq_false hb2))] at h_; exact h_⟩
                          clear HI2
                          go_wp2_with (first
                            | ((with_reducible refine gate_dst (N := 15) rfl ?_); refine box_event ?hg (N := 15) ?hd (cs := #[.int .i64 0, .int .i64 0, .int .i64 0, .int .i64 0]) (t := 37) ?hr ?_; (case hd => rfl); (case hg => rfl); (case hr => first | (go_simp; done) | (go_simp; rfl)); intro ga hg w12 hbox hb; have n0_ := Aside0.mk (HF.out.box hg hb); have n1_ := Aside0.mk hbox; have n2_ := Aside0.mk (blk_below BX.out hb); have GA : Aside0 (gd < ga ∧ gp ≠ ga ∧ gx ≠ ga) := Aside0.mk ⟨hg ▸ blk_lt HF.out.row, fun e_ => by have := HF.out.pile.ty.lt; omega, fun e_ => by have := blk_lt BX.out; omega⟩; clear HF BX hb hbox hg; have HF := n0_; have BA := n1_; have BX := n2_; clear n0_ n1_ n2_; have hcx0 : w12.cell? ⟨ga, 0, none⟩ = some (.int .i64 0) := (blk_cell BA.out 0).trans rfl; have hcx1 : w12.cell? ⟨ga, 1, none⟩ = some (.int .i64 0) := (blk_cell BA.out 1).trans rfl; have hcx2 : w12.cell? ⟨ga, 2, none⟩ = some (.int .i64 0) := (blk_cell BA.out 2).trans rfl; have hcx3 : w12.cell? ⟨ga, 3, none⟩ = some (.int .i64 0) := (blk_cell BA.out 3).trans rfl; have hfx0 := blk_frozen BA.out 0; have hfx1 := blk_frozen BA.out 1; have hfx2 := blk_frozen BA.out 2; have hfx3 := blk_frozen BA.out 3)
                            | ((with_reducible refine gate_store (t := 37) (p := 15) rfl ?_); refine store_event (t := 37) (p := 15) (v := ?va1) (w1 := ?wa1) ?hg ?ho ?hn ?hr ?_; (case ho => rfl); (case hg => rfl); (case hn => rfl); (case hr => first | (go_simp; done) | (go_simp; rfl)); intro w13 hw; have n0_ : Aside0 (FS w4 w13 gd gp M d1 q1 (fun k => (False ∨ k = gx) ∨ k = ga)) := Aside0.mk (by have h1_ := GA.out; have h2_ := GD.out; rw [hw]; exact (((HF.out.set (Or.inr rfl) (by omega) (by omega) h1_.2.1 0 _).set (Or.inr rfl) (by omega) (by omega) h1_.2.1 1 _).set (Or.inr rfl) (by omega) (by omega) h1_.2.1 2 _).set (Or.inr rfl) (by omega) (by omega) h1_.2.1 3 _); have n1_ : Aside0 (w13.heap[ga]? = some (.cells #[.int .i64 A.f0, .int .i64 A.f1, .int .i64 A.f2, .int .i64 A.f3] 37 (0, 0))) := Aside0.mk (by rw [hw]; exact blk_put (cs' := #[.int .i64 A.f0, .int .i64 A.f1, .int .i64 A.f2, .int .i64 A.f3]) (blk_put (cs' := #[.int .i64 A.f0, .int .i64 A.f1, .int .i64 A.f2, .int .i64 0]) (blk_put (cs' := #[.int .i64 A.f0, .int .i64 A.f1, .int .i64 0, .int .i64 0]) (blk_put (cs' := #[.int .i64 A.f0, .int .i64 0, .int .i64 0, .int .i64 0]) BA.out 0 (.int .i64 A.f0) rfl) 1 (.int .i64 A.f1) rfl) 2 (.int .i64 A.f2) rfl) 3 (.int .i64 A.f3) rfl); have n2_ : Aside0 (w13.heap[gx]? = some (.cells #[.int .i64 key, .int .i64 item] 58 (0, 0))) := Aside0.mk (by rw [hw]; exact blk_far (p := ⟨ga, 3, none⟩) (blk_far (p := ⟨ga, 2, none⟩) (blk_far (p := ⟨ga, 1, none⟩) (blk_far (p := ⟨ga, 0, none⟩) BX.out GA.out.2.2 _) GA.out.2.2 _) GA.out.2.2 _) GA.out.2.2 _); clear HF BA BX hw hcx0 hcx1 hcx2 hcx3 hfx0 hfx1 hfx2 hfx3; have HF := n0_; have BA := n1_; have BX := n2_; clear n0_ n1_ n2_; have hk0 : w13.cell? ⟨gx, 0, none⟩ = some (.int .i64 key) := (blk_cell BX.out 0).trans rfl; have hk1 : w13.cell? ⟨ga, 1, none⟩ = some (.int .i64 A.f1) := (blk_cell BA.out 1).trans rfl; have hk3 : w13.cell? ⟨ga, 3, none⟩ = some (.int .i64 A.f3) := (blk_cell BA.out 3).trans rfl; have hku : w13.cell? ⟨gd, A.f1.toNat, none⟩ = some (.int .i64 (rd d1 A.f1)) := ints_at HF.out.row A.f1 HCI.out.2.2.1 HCI.out.2.2.2.1; have hfu := blk_frozen HF.out.row A.f1.toNat)
                            | ((with_reducible refine gate_store (t := 3) (p := 95) rfl ?_); refine store_event (t := 3) (p := 95) (v := ?vb1) (w1 := ?wb1) ?hg ?ho ?hn ?hr ?_; (case ho => rfl); (case hg => rfl); (case hn => rfl); (case hr => first | (go_simp; done) | (go_simp; rfl)); intro w14 hw; have n0_ : Aside0 (FS w4 w14 gd gp M dn q1 (fun k => (False ∨ k = gx) ∨ k = ga)) := Aside0.mk (by rw [hw, ← HDN.out]; exact HF.out.put GD.out GQ.out _ _); have n1_ : Aside0 (w14.heap[ga]? = some (.cells #[.int .i64 A.f0, .int .i64 A.f1, .int .i64 A.f2, .int .i64 A.f3] 37 (0, 0))) := Aside0.mk (by rw [hw]; exact blk_far (p := ⟨gd, A.f1.toNat, none⟩) BA.out (show ga ≠ gd by have := GA.out; omega) _); have n2_ : Aside0 (w14.heap[gx]? = some (.cells #[.int .i64 key, .int .i64 item] 58 (0, 0))) := Aside0.mk (by rw [hw]; exact blk_far (p := ⟨gd, A.f1.toNat, none⟩) BX.out (show gx ≠ gd by have := GX.out; omega) _); clear HF BA BX hw hk0 hk1 hk3 hku hfu; have HF := n0_; have BA := n1_; have BX := n2_; clear n0_ n1_ n2_; have hk1 : w14.cell? ⟨ga, 1, none⟩ = some (.int .i64 A.f1) := (blk_cell BA.out 1).trans rfl)
                            | (go_at_call 35; refine (HF.out.push GQ.out (fun k_ hk_ => hk_.elim (fun h_ => h_.elim (fun h_ => h_.elim) (fun h_ => by rw [h_]; exact blk_lt BX.out)) (fun h_ => by rw [h_]; exact blk_lt BA.out)) (wrap64 (key + A.f3)) A.f1 HCI.out.2.2.2.2 qn HQN.out).mono ?_; rintro e w15 ⟨⟨rp, rfl⟩, hf, hk⟩; have n0_ := Aside0.mk hf; have n2_ := Aside0.mk (Kept.blk hk BX.out (fun e_ => e_.elim (fun e_ => GX.out.2 e_.symm) (fun e_ => e_.2 (Or.inl (Or.inr rfl))))); clear HF BX BA hf hk hk1; have HF := n0_; have BX := n2_; clear n0_ n2_))
                          clear hb1 hb2
                          go_roundg g1
                          case measure => omega
                          case rel => exact ⟨j + 1, d1, q1, congrArg (Value.int .i64) HWJ.out, ⟨by have := HJ.out; omega⟩, HI3, HD1, ⟨HF.out.mono (fun k hk => Or.inl hk)⟩, BX⟩
                        · skip
                          have HI3 : Aside0 (fastIn l0_2 M key (row.drop (j + 1)) (d1.set A.f1.toNat (wrap64 (key + A.f3))) (if (q1.length : Int) = M then q1 else ins (wrap64 (key + A.f3), A.f1) q1) = some (d2, q2)) := ⟨by have h_ := HI2.out; rw [if_pos (by first | exact Or.inl (of_decide_eq_true hb1) | exact Or.inr (of_decide_eq_true hb2))] at h_; exact h_⟩
                          obtain ⟨dn, hdn⟩ : ∃ dn, d1.set A.f1.toNat (wrap64 (key + A.f3)) = dn := ⟨_, rfl⟩
                          obtain ⟨qn, hqn⟩ : ∃ qn, (if (q1.length : Int) = M then q1 else ins (wrap64 (key + A.f3), A.f1) q1) = qn := ⟨_, rfl⟩
                          rw [hdn, hqn] at HI3
                          have HQN := Aside0.mk hqn
                          have HDN := Aside0.mk hdn
                          clear hdn hqn HI2
                          go_wp2_with (first
                            | ((with_reducible refine gate_dst (N := 15) rfl ?_); refine box_event ?hg (N := 15) ?hd (cs := #[.int .i64 0, .int .i64 0, .int .i64 0, .int .i64 0]) (t := 37) ?hr ?_; (case hd => rfl); (case hg => rfl); (case hr => first | (go_simp; done) | (go_simp; rfl)); intro ga hg w12 hbox hb; have n0_ := Aside0.mk (HF.out.box hg hb); have n1_ := Aside0.mk hbox; have n2_ := Aside0.mk (blk_below BX.out hb); have GA : Aside0 (gd < ga ∧ gp ≠ ga ∧ gx ≠ ga) := Aside0.mk ⟨hg ▸ blk_lt HF.out.row, fun e_ => by have := HF.out.pile.ty.lt; omega, fun e_ => by have := blk_lt BX.out; omega⟩; clear HF BX hb hbox hg; have HF := n0_; have BA := n1_; have BX := n2_; clear n0_ n1_ n2_; have hcx0 : w12.cell? ⟨ga, 0, none⟩ = some (.int .i64 0) := (blk_cell BA.out 0).trans rfl; have hcx1 : w12.cell? ⟨ga, 1, none⟩ = some (.int .i64 0) := (blk_cell BA.out 1).trans rfl; have hcx2 : w12.cell? ⟨ga, 2, none⟩ = some (.int .i64 0) := (blk_cell BA.out 2).trans rfl; have hcx3 : w12.cell? ⟨ga, 3, none⟩ = some (.int .i64 0) := (blk_cell BA.out 3).trans rfl; have hfx0 := blk_frozen BA.out 0; have hfx1 := blk_frozen BA.out 1; have hfx2 := blk_frozen BA.out 2; have hfx3 := blk_frozen BA.out 3)
                            | ((with_reducible refine gate_store (t := 37) (p := 15) rfl ?_); refine store_event (t := 37) (p := 15) (v := ?va3) (w1 := ?wa3) ?hg ?ho ?hn ?hr ?_; (case ho => rfl); (case hg => rfl); (case hn => rfl); (case hr => first | (go_simp; done) | (go_simp; rfl)); intro w13 hw; have n0_ : Aside0 (FS w4 w13 gd gp M d1 q1 (fun k => (False ∨ k = gx) ∨ k = ga)) := Aside0.mk (by have h1_ := GA.out; have h2_ := GD.out; rw [hw]; exact (((HF.out.set (Or.inr rfl) (by omega) (by omega) h1_.2.1 0 _).set (Or.inr rfl) (by omega) (by omega) h1_.2.1 1 _).set (Or.inr rfl) (by omega) (by omega) h1_.2.1 2 _).set (Or.inr rfl) (by omega) (by omega) h1_.2.1 3 _); have n1_ : Aside0 (w13.heap[ga]? = some (.cells #[.int .i64 A.f0, .int .i64 A.f1, .int .i64 A.f2, .int .i64 A.f3] 37 (0, 0))) := Aside0.mk (by rw [hw]; exact blk_put (cs' := #[.int .i64 A.f0, .int .i64 A.f1, .int .i64 A.f2, .int .i64 A.f3]) (blk_put (cs' := #[.int .i64 A.f0, .int .i64 A.f1, .int .i64 A.f2, .int .i64 0]) (blk_put (cs' := #[.int .i64 A.f0, .int .i64 A.f1, .int .i64 0, .int .i64 0]) (blk_put (cs' := #[.int .i64 A.f0, .int .i64 0, .int .i64 0, .int .i64 0]) BA.out 0 (.int .i64 A.f0) rfl) 1 (.int .i64 A.f1) rfl) 2 (.int .i64 A.f2) rfl) 3 (.int .i64 A.f3) rfl); have n2_ : Aside0 (w13.heap[gx]? = some (.cells #[.int .i64 key, .int .i64 item] 58 (0, 0))) := Aside0.mk (by rw [hw]; exact blk_far (p := ⟨ga, 3, none⟩) (blk_far (p := ⟨ga, 2, none⟩) (blk_far (p := ⟨ga, 1, none⟩) (blk_far (p := ⟨ga, 0, none⟩) BX.out GA.out.2.2 _) GA.out.2.2 _) GA.out.2.2 _) GA.out.2.2 _); clear HF BA BX hw hcx0 hcx1 hcx2 hcx3 hfx0 hfx1 hfx2 hfx3; have HF := n0_; have BA := n1_; have BX := n2_; clear n0_ n1_ n2_; have hk0 : w13.cell? ⟨gx, 0, none⟩ = some (.int .i64 key) := (blk_cell BX.out 0).trans rfl; have hk1 : w13.cell? ⟨ga, 1, none⟩ = some (.int .i64 A.f1) := (blk_cell BA.out 1).trans rfl; have hk3 : w13.cell? ⟨ga, 3, none⟩ = some (.int .i64 A.f3) := (blk_cell BA.out 3).trans rfl; have hku : w13.cell? ⟨gd, A.f1.toNat, none⟩ = some (.int .i64 (rd d1 A.f1)) := ints_at HF.out.row A.f1 HCI.out.2.2.1 HCI.out.2.2.2.1; have hfu := blk_frozen HF.out.row A.f1.toNat)
                            | ((with_reducible refine gate_store (t := 3) (p := 95) rfl ?_); refine store_event (t := 3) (p := 95) (v := ?vb3) (w1 := ?wb3) ?hg ?ho ?hn ?hr ?_; (case ho => rfl); (case hg => rfl); (case hn => rfl); (case hr => first | (go_simp; done) | (go_simp; rfl)); intro w14 hw; have n0_ : Aside0 (FS w4 w14 gd gp M dn q1 (fun k => (False ∨ k = gx) ∨ k = ga)) := Aside0.mk (by rw [hw, ← HDN.out]; exact HF.out.put GD.out GQ.out _ _); have n1_ : Aside0 (w14.heap[ga]? = some (.cells #[.int .i64 A.f0, .int .i64 A.f1, .int .i64 A.f2, .int .i64 A.f3] 37 (0, 0))) := Aside0.mk (by rw [hw]; exact blk_far (p := ⟨gd, A.f1.toNat, none⟩) BA.out (show ga ≠ gd by have := GA.out; omega) _); have n2_ : Aside0 (w14.heap[gx]? = some (.cells #[.int .i64 key, .int .i64 item] 58 (0, 0))) := Aside0.mk (by rw [hw]; exact blk_far (p := ⟨gd, A.f1.toNat, none⟩) BX.out (show gx ≠ gd by have := GX.out; omega) _); clear HF BA BX hw hk0 hk1 hk3 hku hfu; have HF := n0_; have BA := n1_; have BX := n2_; clear n0_ n1_ n2_; have hk1 : w14.cell? ⟨ga, 1, none⟩ = some (.int .i64 A.f1) := (blk_cell BA.out 1).trans rfl)
                            | (go_at_call 35; refine (HF.out.push GQ.out (fun k_ hk_ => hk_.elim (fun h_ => h_.elim (fun h_ => h_.elim) (fun h_ => by rw [h_]; exact blk_lt BX.out)) (fun h_ => by rw [h_]; exact blk_lt BA.out)) (wrap64 (key + A.f3)) A.f1 HCI.out.2.2.2.2 qn HQN.out).mono ?_; rintro e w15 ⟨⟨rp, rfl⟩, hf, hk⟩; have n0_ := Aside0.mk hf; have n2_ := Aside0.mk (Kept.blk hk BX.out (fun e_ => e_.elim (fun e_ => GX.out.2 e_.symm) (fun e_ => e_.2 (Or.inl (Or.inr rfl))))); clear HF BX BA hf hk hk1; have HF := n0_; have BX := n2_; clear n0_ n2_))
                          clear hb1 hb2
                          go_roundg g1
                          case measure => omega
                          case rel => exact ⟨j + 1, dn, qn, congrArg (Value.int .i64) HWJ.out, ⟨by have := HJ.out; omega⟩, HI3, ⟨by rw [← HDN.out, List.length_set]; exact HD1.out⟩, ⟨HF.out.mono (fun k hk => Or.inl hk)⟩, BX⟩
                      · skip
                        have HI3 : Aside0 (fastIn l0_2 M key (row.drop (j + 1)) (d1.set A.f1.toNat (wrap64 (key + A.f3))) (if (q1.length : Int) = M then q1 else ins (wrap64 (key + A.f3), A.f1) q1) = some (d2, q2)) := ⟨by have h_ := HI2.out; rw [if_pos (by first | exact Or.inl (of_decide_eq_true hb1) | exact Or.inr (of_decide_eq_true hb2))] at h_; exact h_⟩
                        obtain ⟨dn, hdn⟩ : ∃ dn, d1.set A.f1.toNat (wrap64 (key + A.f3)) = dn := ⟨_, rfl⟩
                        obtain ⟨qn, hqn⟩ : ∃ qn, (if (q1.length : Int) = M then q1 else ins (wrap64 (key + A.f3), A.f1) q1) = qn := ⟨_, rfl⟩
                        rw [hdn, hqn] at HI3
                        have HQN := Aside0.mk hqn
                        have HDN := Aside0.mk hdn
                        clear hdn hqn HI2
                        go_wp2_with (first
                          | ((with_reducible refine gate_dst (N := 15) rfl ?_); refine box_event ?hg (N := 15) ?hd (cs := #[.int .i64 0, .int .i64 0, .int .i64 0, .int .i64 0]) (t := 37) ?hr ?_; (case hd => rfl); (case hg => rfl); (case hr => first | (go_simp; done) | (go_simp; rfl)); intro ga hg w12 hbox hb; have n0_ := Aside0.mk (HF.out.box hg hb); have n1_ := Aside0.mk hbox; have n2_ := Aside0.mk (blk_below BX.out hb); have GA : Aside0 (gd < ga ∧ gp ≠ ga ∧ gx ≠ ga) := Aside0.mk ⟨hg ▸ blk_lt HF.out.row, fun e_ => by have := HF.out.pile.ty.lt; omega, fun e_ => by have := blk_lt BX.out; omega⟩; clear HF BX hb hbox hg; have HF := n0_; have BA := n1_; have BX := n2_; clear n0_ n1_ n2_; have hcx0 : w12.cell? ⟨ga, 0, none⟩ = some (.int .i64 0) := (blk_cell BA.out 0).trans rfl; have hcx1 : w12.cell? ⟨ga, 1, none⟩ = some (.int .i64 0) := (blk_cell BA.out 1).trans rfl; have hcx2 : w12.cell? ⟨ga, 2, none⟩ = some (.int .i64 0) := (blk_cell BA.out 2).trans rfl; have hcx3 : w12.cell? ⟨ga, 3, none⟩ = some (.int .i64 0) := (blk_cell BA.out 3).trans rfl; have hfx0 := blk_frozen BA.out 0; have hfx1 := blk_frozen BA.out 1; have hfx2 := blk_frozen BA.out 2; have hfx3 := blk_frozen BA.out 3)
                          | ((with_reducible refine gate_store (t := 37) (p := 15) rfl ?_); refine store_event (t := 37) (p := 15) (v := ?va5) (w1 := ?wa5) ?hg ?ho ?hn ?hr ?_; (case ho => rfl); (case hg => rfl); (case hn => rfl); (case hr => first | (go_simp; done) | (go_simp; rfl)); intro w13 hw; have n0_ : Aside0 (FS w4 w13 gd gp M d1 q1 (fun k => (False ∨ k = gx) ∨ k = ga)) := Aside0.mk (by have h1_ := GA.out; have h2_ := GD.out; rw [hw]; exact (((HF.out.set (Or.inr rfl) (by omega) (by omega) h1_.2.1 0 _).set (Or.inr rfl) (by omega) (by omega) h1_.2.1 1 _).set (Or.inr rfl) (by omega) (by omega) h1_.2.1 2 _).set (Or.inr rfl) (by omega) (by omega) h1_.2.1 3 _); have n1_ : Aside0 (w13.heap[ga]? = some (.cells #[.int .i64 A.f0, .int .i64 A.f1, .int .i64 A.f2, .int .i64 A.f3] 37 (0, 0))) := Aside0.mk (by rw [hw]; exact blk_put (cs' := #[.int .i64 A.f0, .int .i64 A.f1, .int .i64 A.f2, .int .i64 A.f3]) (blk_put (cs' := #[.int .i64 A.f0, .int .i64 A.f1, .int .i64 A.f2, .int .i64 0]) (blk_put (cs' := #[.int .i64 A.f0, .int .i64 A.f1, .int .i64 0, .int .i64 0]) (blk_put (cs' := #[.int .i64 A.f0, .int .i64 0, .int .i64 0, .int .i64 0]) BA.out 0 (.int .i64 A.f0) rfl) 1 (.int .i64 A.f1) rfl) 2 (.int .i64 A.f2) rfl) 3 (.int .i64 A.f3) rfl); have n2_ : Aside0 (w13.heap[gx]? = some (.cells #[.int .i64 key, .int .i64 item] 58 (0, 0))) := Aside0.mk (by rw [hw]; exact blk_far (p := ⟨ga, 3, none⟩) (blk_far (p := ⟨ga, 2, none⟩) (blk_far (p := ⟨ga, 1, none⟩) (blk_far (p := ⟨ga, 0, none⟩) BX.out GA.out.2.2 _) GA.out.2.2 _) GA.out.2.2 _) GA.out.2.2 _); clear HF BA BX hw hcx0 hcx1 hcx2 hcx3 hfx0 hfx1 hfx2 hfx3; have HF := n0_; have BA := n1_; have BX := n2_; clear n0_ n1_ n2_; have hk0 : w13.cell? ⟨gx, 0, none⟩ = some (.int .i64 key) := (blk_cell BX.out 0).trans rfl; have hk1 : w13.cell? ⟨ga, 1, none⟩ = some (.int .i64 A.f1) := (blk_cell BA.out 1).trans rfl; have hk3 : w13.cell? ⟨ga, 3, none⟩ = some (.int .i64 A.f3) := (blk_cell BA.out 3).trans rfl; have hku : w13.cell? ⟨gd, A.f1.toNat, none⟩ = some (.int .i64 (rd d1 A.f1)) := ints_at HF.out.row A.f1 HCI.out.2.2.1 HCI.out.2.2.2.1; have hfu := blk_frozen HF.out.row A.f1.toNat)
                          | ((with_reducible refine gate_store (t := 3) (p := 95) rfl ?_); refine store_event (t := 3) (p := 95) (v := ?vb5) (w1 := ?wb5) ?hg ?ho ?hn ?hr ?_; (case ho => rfl); (case hg => rfl); (case hn => rfl); (case hr => first | (go_simp; done) | (go_simp; rfl)); intro w14 hw; have n0_ : Aside0 (FS w4 w14 gd gp M dn q1 (fun k => (False ∨ k = gx) ∨ k = ga)) := Aside0.mk (by rw [hw, ← HDN.out]; exact HF.out.put GD.out GQ.out _ _); have n1_ : Aside0 (w14.heap[ga]? = some (.cells #[.int .i64 A.f0, .int .i64 A.f1, .int .i64 A.f2, .int .i64 A.f3] 37 (0, 0))) := Aside0.mk (by rw [hw]; exact blk_far (p := ⟨gd, A.f1.toNat, none⟩) BA.out (show ga ≠ gd by have := GA.out; omega) _); have n2_ : Aside0 (w14.heap[gx]? = some (.cells #[.int .i64 key, .int .i64 item] 58 (0, 0))) := Aside0.mk (by rw [hw]; exact blk_far (p := ⟨gd, A.f1.toNat, none⟩) BX.out (show gx ≠ gd by have := GX.out; omega) _); clear HF BA BX hw hk0 hk1 hk3 hku hfu; have HF := n0_; have BA := n1_; have BX := n2_; clear n0_ n1_ n2_; have hk1 : w14.cell? ⟨ga, 1, none⟩ = some (.int .i64 A.f1) := (blk_cell BA.out 1).trans rfl)
                          | (go_at_call 35; refine (HF.out.push GQ.out (fun k_ hk_ => hk_.elim (fun h_ => h_.elim (fun h_ => h_.elim) (fun h_ => by rw [h_]; exact blk_lt BX.out)) (fun h_ => by rw [h_]; exact blk_lt BA.out)) (wrap64 (key + A.f3)) A.f1 HCI.out.2.2.2.2 qn HQN.out).mono ?_; rintro e w15 ⟨⟨rp, rfl⟩, hf, hk⟩; have n0_ := Aside0.mk hf; have n2_ := Aside0.mk (Kept.blk hk BX.out (fun e_ => e_.elim (fun e_ => GX.out.2 e_.symm) (fun e_ => e_.2 (Or.inl (Or.inr rfl))))); clear HF BX BA hf hk hk1; have HF := n0_; have BX := n2_; clear n0_ n2_))
                        clear hb1 hb2
                        go_roundg g1
                        case measure => omega
                        case rel => exact ⟨j + 1, dn, qn, congrArg (Value.int .i64) HWJ.out, ⟨by have := HJ.out; omega⟩, HI3, ⟨by rw [← HDN.out, List.length_set]; exact HD1.out⟩, ⟨HF.out.mono (fun k hk => Or.inl hk)⟩, BX⟩
                    · rw [if_neg ci] at hI
                      cases hI
              · have HH : Aside0 (fastLoop l0_2 out M k1 d q = some dr) := ⟨by have h_ := HH0.out; rw [if_pos (of_decide_eq_true hbf)] at h_; exact h_⟩
                clear HH0 hbf hbf2
                go_wp2
                go_roundg k1
                case measure => omega
                case rel => exact ⟨d, q, HH, HD, ⟨HF.out.mono (fun k hk => hk.elim)⟩⟩
            · rw [if_neg cv] at hH
              cases hH
    · rw [if_neg cg] at h
      cases h
  · rw [if_neg ce] at h
    simp only [Option.some.injEq, Prod.mk.injEq] at h
    obtain ⟨rfl, rfl⟩ := h
    have c1 : decide (e0 = 0) = false := decide_eq_false ce
    have c2 : (e0 == 0) = false := beq_eq_false_iff_ne.2 ce
    have c3 := eq_false ce
    go_enter Try.func17, Try.ntmps17
    go_wp2_with (first
      | ((with_reducible refine gate_dst (N := 2) rfl ?_); refine box_event ?hg (N := 2) ?hd (cs := #[.int .i64 a0_0, .bool a0_1, .slice A0_2 l0_2.length c0_2]) (t := 24) ?hr ?_; (case hd => rfl); (case hg => rfl); (case hr => first | (go_simp; done) | (go_simp; rfl)); intro gb hg w1 hbox hb; have n0_ := Aside0.mk (below_step HB.out hb); have n1_ := Aside0.mk hbox; clear HB; have HB := n0_; have BK := n1_; clear n0_ n1_ hb hbox hg; have hcz0 : w1.cell? ⟨gb, 0, none⟩ = some (.int .i64 a0_0) := (blk_cell BK.out 0).trans rfl; have hcz1 : w1.cell? ⟨gb, 1, none⟩ = some (.bool a0_1) := (blk_cell BK.out 1).trans rfl; have hcz2 : w1.cell? ⟨gb, 2, none⟩ = some (.slice A0_2 l0_2.length c0_2) := (blk_cell BK.out 2).trans rfl)
      | (go_at_call 25; refine (adj_asked.calls k a0_0 a0_1 _ _ l0_2 a1 e0 _ (Kd.C_below HR0.out HB.out) HC0.out HA.out).mono ?_; rintro e w2 ⟨rfl, hb⟩; have n0_ := Aside0.mk (below_step HB.out hb); clear HB BK hb hcz0 hcz1 hcz2; have HB := n0_; clear n0_))
    go_ret2
    exact ⟨_, rfl, Kd.R_nil _ _ _ _ _, HB.out⟩
end Go.Proofs.Ytgjgckpdilbbjaa.Q
end
