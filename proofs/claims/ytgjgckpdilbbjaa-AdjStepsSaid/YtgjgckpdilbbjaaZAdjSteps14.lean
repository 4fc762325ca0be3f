/- A part of the proof: words, contracts, plain lemmas. Conditions: none. -/
import Derived.Test.YtgjgckpdilbbjaaZAdjSteps12
import Derived.Test.YtgjgckpdilbbjaaZAdjSteps3
import Derived.Test.YtgjgckpdilbbjaaZAdjSteps10
section
namespace Go.Proofs.Ytgjgckpdilbbjaa.Q
open Go.RowKit Go.Proofs.Ytgjgckpdilbbjaa.P Go.Proofs.YtgjgckpdilbbjaaW.PrintWords Go.Proofs.YtgjgckpdilbbjaaW.PrintLast Go.Proofs.YtgjgckpdilbbjaaW.PrintMore
set_option linter.unusedVariables false
set_option linter.unusedSimpArgs false
def hopsIn (arcs : List S37) (N v : Int) : List Int → List Int → List Int → Option (List Int × List Int)
  | [], d, q => some (d, q)
  | i :: r, d, q =>
    if 0 ≤ i ∧ i < (arcs.length : Int) ∧ 0 ≤ (rd_T37 arcs i).f1 ∧ (rd_T37 arcs i).f1 < (d.length : Int) then
      (if rd d (rd_T37 arcs i).f1 < 0 then hopsIn arcs N v r (d.set ((rd_T37 arcs i).f1).toNat (wrap64 (rd d v + 1))) (if (q.length : Int) = N then q else q ++ [(rd_T37 arcs i).f1])
       else hopsIn arcs N v r d q)
    else none
def hopsLoop (arcs : List S37) (out : List (List Int)) (N : Int) : Nat → List Int → List Int → Option (List Int)
  | 0, _, _ => none
  | _ + 1, d, [] => some d
  | k + 1, d, v :: q => if 0 ≤ v ∧ v < (out.length : Int) ∧ v < (d.length : Int) then (hopsIn arcs N v (rd_L3 out v) d q).bind (fun x => hopsLoop arcs out N k x.1 x.2) else none
def adj_Hops.f (k : Nat) (a0_0 : Int) (a0_1 : Bool) (l0_2 : List S37) (a1 : Int) : Option (List Int × Int) :=
  (adj_asked.f k a0_0 a0_1 l0_2 a1).bind fun e => if e = 0 then (if (1 ≤ a0_0 ∧ a0_0 ≤ 50) ∧ 0 ≤ a1 ∧ a1 < a0_0 then (adj_Leaving.f k a0_0 a0_1 l0_2).bind fun out => (hopsLoop l0_2 out a0_0 k ((List.replicate a0_0.toNat (-1)).set a1.toNat 0) [a1]).bind fun d => some (d, 0) else none) else some ([], e)
theorem hopsLoop.mono (arcs : List S37) (out : List (List Int)) (N : Int) : ∀ k d q, LeO (hopsLoop arcs out N k d q) (hopsLoop arcs out N (k + 1) d q)
  | 0, _, _ => LeO.none _
  | k + 1, d, [] => LeO.refl _
  | k + 1, d, v :: q => by
    unfold hopsLoop
    exact LeO.ite (LeO.bind (LeO.refl _) (fun x => hopsLoop.mono arcs out N k x.1 x.2)) (LeO.none _)
theorem adj_Hops.mono : ∀ a0 a1 a2 a3 k, LeO (adj_Hops.f k a0 a1 a2 a3) (adj_Hops.f (k + 1) a0 a1 a2 a3) := by
  intro a0 a1 a2 a3 k
  unfold adj_Hops.f
  exact LeO.bind (adj_asked.mono _ _ _ _ _) (fun _ => LeO.ite (LeO.ite (LeO.bind (adj_Leaving.mono _ _ _ _) (fun _ => LeO.bind (hopsLoop.mono _ _ _ _ _ _) (fun _ => LeO.refl _))) (LeO.none _)) (LeO.refl _))
def adj_Hops.T4 : Bool × List (List Nat × List Nat) := (true, [([], []), ([0], [0]), ([], []), ([], []), ([2, 3, 1], [2, 3]), ([1, 4, 0, 1], [1]), ([4, 5, 0, 1, 2, 3, 4, 5], [4])])
def adj_Hops.B4 : List Nat := [0, 1, 0, 0, 15, 31, 63]
theorem adj_Hops.tab4 : rtab .any (opsOf Try.f10 4) = adj_Hops.T4 := by kernel_rfl
theorem adj_Hops.bits4 : waitsOk adj_Hops.T4.2 adj_Hops.B4 = true := by kernel_rfl
set_option maxHeartbeats 8000000 in
set_option maxRecDepth 100000 in
theorem adj_Hops.calls (k : Nat) (a0_0 : Int) (a0_1 : Bool) (A0_2 : Option Addr) (c0_2 : Nat) (l0_2 : List (S37)) (a1 : Int) (r1 : List Int) (r2 : Int) (w : World) (hr0_2 : Kd.C k37 w A0_2 l0_2.length l0_2) (hc0_2 : l0_2.length ≤ c0_2) (h : adj_Hops.f k a0_0 a0_1 l0_2 a1 = some (r1, r2)) :
    Calls Try.prog 10 #[.agg #[.int .i64 a0_0, .bool a0_1, .slice A0_2 l0_2.length c0_2], .int .i64 a1] w fun e w' => ∃ v0_, e = .returned (.tuple #[v0_, .int .i64 r2]) ∧ Kd.R (Kd.int .i64) 3 w' w.heap.size (fun _ => True) v0_ r1 ∧ Below w.heap.size w w' := by
  have hu24 := Try.underlying24
  have hu25 := Try.underlying25
  have HR0 := Aside0.mk hr0_2
  have HC0 := Aside0.mk hc0_2
  have HB := Aside0.mk (Below.refl w.heap.size w)
  clear hr0_2 hc0_2
  unfold adj_Hops.f at h
  replace h := Option.bind_eq_some_iff.mp h
  obtain ⟨e0, ha, h⟩ := h
  have HA := Aside0.mk ha
  clear ha
  by_cases ce : e0 = 0
  · rw [if_pos ce] at h
    by_cases cg : (1 ≤ a0_0 ∧ a0_0 ≤ 50) ∧ 0 ≤ a1 ∧ a1 < a0_0
    · rw [if_pos cg] at h
      replace h := Option.bind_eq_some_iff.mp h
      obtain ⟨out, ho, h⟩ := h
      replace h := Option.bind_eq_some_iff.mp h
      obtain ⟨dr, hl, h⟩ := h
      simp only [Option.some.injEq, Prod.mk.injEq] at h
      obtain ⟨rfl, rfl⟩ := h
      have HO := Aside0.mk ho
      have HL := Aside0.mk hl
      subst ce
      obtain ⟨N, hN⟩ : ∃ N : Nat, a0_0 = (N : Int) := ⟨a0_0.toNat, by omega⟩
      obtain ⟨s, hs⟩ : ∃ s : Nat, a1 = (s : Int) := ⟨a1.toNat, by omega⟩
      subst hN hs
      have HN : Aside0 (1 ≤ N ∧ N ≤ 50 ∧ s < N) := ⟨by omega⟩
      clear ho hl cg
      go_enter Try.func10, Try.ntmps10
      go_wp2_with (first
        | ((with_reducible refine gate_dst (N := 2) rfl ?_); refine box_event ?hg (N := 2) ?hd (cs := #[.int .i64 (N : Int), .bool a0_1, .slice A0_2 l0_2.length c0_2]) (t := 24) ?hr ?_; (case hd => rfl); (case hg => rfl); (case hr => first | (go_simp; done) | (go_simp; rfl)); intro gb hg w1 hbox hb; have n0_ := Aside0.mk (below_step HB.out hb); have n1_ := Aside0.mk hbox; have GB := Aside0.mk (show w.heap.size ≤ gb by rw [hg]; exact below_size HB.out); clear HB; have HB := n0_; have BK := n1_; clear n0_ n1_ hb hbox hg; have hcz0 : w1.cell? ⟨gb, 0, none⟩ = some (.int .i64 (N : Int)) := (blk_cell BK.out 0).trans rfl; have hcz1 : w1.cell? ⟨gb, 1, none⟩ = some (.bool a0_1) := (blk_cell BK.out 1).trans rfl; have hcz2 : w1.cell? ⟨gb, 2, none⟩ = some (.slice A0_2 l0_2.length c0_2) := (blk_cell BK.out 2).trans rfl)
        | (go_at_call 25; refine (adj_asked.calls k (N : Int) a0_1 _ _ l0_2 (s : Int) 0 _ (Kd.C_below HR0.out HB.out) HC0.out HA.out).mono ?_; rintro e w2 ⟨rfl, hb⟩; have n0_ := Aside0.mk (below_step HB.out hb); have n1_ := Aside0.mk (blk_below BK.out hb); clear HB BK hb hcz0 hcz1 hcz2; have HB := n0_; have BK := n1_; clear n0_ n1_))
      clear HA
      have n0_ := Aside0.mk (below_drew1 HB.out)
      have n1_ := Aside0.mk (blk_drew BK.out)
      clear HB BK
      have HB := n0_
      have BK := n1_
      clear n0_ n1_
      refine start_ (n := 7) (S := fun w' => w'.cell? ⟨gb, 0, none⟩ = some (.int .i64 (N : Int)) ∧ w'.cell? ⟨gb, 1, none⟩ = some (.bool a0_1) ∧ w'.cell? ⟨gb, 2, none⟩ = some (.slice A0_2 l0_2.length c0_2)) (ds := []) #[Ff,Ff,Ff,Ff,Ff,Ff,Ff] (by kernel_rfl) rfl rfl ⟨(blk_cell BK.out 0).trans rfl, (blk_cell BK.out 1).trans rfl, (blk_cell BK.out 2).trans rfl⟩ (fun hHeld => ?_)
      generalize w2.drew = w3 at HB BK hHeld ⊢
      refine with_tabW adj_Hops.tab4 adj_Hops.bits4 (fun HT_ HW_ => ?_)
      refine pv_ 3 25 #[Ff,Ff,Ff,Tt,Ff,Ff,Ff] ?_
      refine take_ (i := 0) (N := (some 22)) (v := ?_) (a' := ?_) #[Tt,Ff,Ff,Tt,Ff,Ff,Ff] rfl rfl (take_ofW HT_.out HW_.out (by kernel_rfl)) (fun _ _ _ h => h) (Or.inl ⟨by rfl, ?_⟩) hHeld ?_ ?_
      rotate_left
      · rintro w' ⟨s0, s1, s2⟩
        go_simp
        with_reducible rfl
      rotate_left
      exact ap_
      refine take_ (i := 2) (N := (some 24)) (v := ?_) (a' := ?_) #[Tt,Ff,Tt,Tt,Ff,Ff,Ff] rfl rfl (take_ofW HT_.out HW_.out (by kernel_rfl)) (fun _ _ _ h => h) (Or.inl ⟨by rfl, ?_⟩) hHeld ?_ ?_
      rotate_left
      · rintro w' ⟨s0, s1, s2⟩
        go_simp
        with_reducible rfl
      rotate_left
      exact ap_
      refine one_ (i := 1) (N := (some 23)) #[Tt,Tt,Tt,Tt,Ff,Ff,Ff] rfl rfl (one_of HT_.out (by kernel_rfl)) (by decide) (fun K hK => ?_)
      refine goes_ Try.func26 (by kernel_rfl) rfl #[.agg #[.int .i64 (N : Int), .bool a0_1, .slice A0_2 l0_2.length c0_2]] (by rfl) rfl rfl (by (try simp only [List.map_toArray, List.map_cons, List.map_nil]); first | done | rfl) ?_
      refine (adj_Leaving.calls k (N : Int) a0_1 _ _ l0_2 out _ (Kd.C_below HR0.out HB.out) HC0.out HO.out).mono ?_
      rintro e w4 ⟨vo, rfl, hs, hb⟩
      obtain ⟨Ao, co, rfl, hoc, hor⟩ := Kd.S_reads hs
      have n0_ := Aside0.mk (below_step HB.out hb)
      have n1_ := Aside0.mk (blk_below BK.out hb)
      clear HB BK hs
      have HB := n0_
      have BK := n1_
      have HOR := Aside0.mk hor
      have HOC := Aside0.mk hoc
      clear n0_ n1_ hor hoc
      refine ⟨_, rfl, hK.out _ _ ⟨(blk_cell BK.out 0).trans rfl, (blk_cell BK.out 1).trans rfl, (blk_cell BK.out 2).trans rfl⟩ (fun hHeld2 => ?_)⟩
      clear hK K hHeld
      have hHeld := hHeld2
      clear hHeld2
      refine norm_ (a' := ?_) ?_ ?_
      rotate_left
      · show Act.put _ (some 23) _ = _
        simp only [Act.put, List.setIfInBounds_toArray, List.set_cons_zero, List.set_cons_succ, i64_w, i32_w]
        rfl
      refine one_ (i := 4) (N := (some 26)) #[Tt,Tt,Tt,Tt,Tt,Ff,Ff] rfl rfl (one_of HT_.out (by kernel_rfl)) (by decide) (fun K hK => ?_)
      refine goes_ Try.func27 (by kernel_rfl) rfl #[.agg #[.int .i64 (N : Int), .bool a0_1, .slice A0_2 l0_2.length c0_2], .int .i64 (s : Int)] (by rfl) rfl rfl (by (try simp only [List.map_toArray, List.map_cons, List.map_nil]); first | done | rfl) ?_
      refine (adj_none.calls N s HN.out.2.2 HN.out.2.1 a0_1 _ _ rfl).mono ?_
      rintro e w5 ⟨gd, rfl, hd, hgd, hb⟩
      have HB0 := HB
      have GB4 : Aside0 (gb < w4.heap.size) := ⟨blk_lt BK.out⟩
      have HSZ : Aside0 (w.heap.size ≤ w4.heap.size) := ⟨below_size HB.out⟩
      have n1_ := Aside0.mk (blk_below BK.out hb)
      clear HB
      have HB := Aside0.mk hb
      have BD := Aside0.mk hd
      have GD := Aside0.mk hgd
      have BK4 := BK
      clear hb hd hgd BK
      refine ⟨_, rfl, hK.out _ _ ⟨(blk_cell n1_.out 0).trans rfl, (blk_cell n1_.out 1).trans rfl, (blk_cell n1_.out 2).trans rfl⟩ (fun hHeld2 => ?_)⟩
      clear hK K hHeld hHeld2 n1_
      refine norm_ (a' := ?_) ?_ ?_
      rotate_left
      · show Act.put _ (some 26) _ = _
        simp only [Act.put, List.setIfInBounds_toArray, List.set_cons_zero, List.set_cons_succ, i64_w, i32_w]
        rfl
      refine pv_ 5 7 #[Tt,Tt,Tt,Tt,Tt,Tt,Ff] ?_
      refine pv_ 6 8 #[Tt,Tt,Tt,Tt,Tt,Tt,Tt] ?_
      refine done_ (done_of HT_.out (by kernel_rfl)) ?_
      clear HT_ HW_
      have hcz0 : w5.cell? ⟨gb, 0, none⟩ = some (.int .i64 (N : Int)) := (blk_cell (blk_below BK4.out HB.out) 0).trans rfl
      obtain ⟨d0, hd0⟩ : ∃ d0, (List.replicate N (-1 : Int)).set s 0 = d0 := ⟨_, rfl⟩
      have HL0 : Aside0 (hopsLoop l0_2 out (N : Int) k d0 [(s : Int)] = some dr) := ⟨by have h_ := HL.out; rw [Int.toNat_natCast, Int.toNat_natCast, hd0] at h_; exact h_⟩
      have HD0 : Aside0 (d0.length = N) := ⟨by rw [← hd0]; simp⟩
      rw [hd0] at BD
      clear hd0 HL HO
      go_wp2_with (first
        | (go_at_call 28; refine (newQ (N : Int) _ (by have := HN.out; omega) (by have := HN.out; omega)).mono ?_; rintro e w6 ⟨hb, gq, rfl, hq⟩; have GQ : Aside0 (gd < gq) := Aside0.mk (Nat.lt_of_lt_of_le (blk_lt BD.out) hq.ge); have n2_ := Aside0.mk ((hq.based.mono (ok' := fun k => gd < k) (fun k hk => Nat.lt_of_lt_of_le (blk_lt BD.out) hk.2)).lower (below_size HB.out)); have n1_ := Aside0.mk (blk_below BD.out hb); have n0_ := Aside0.mk (below_step HB.out hb); clear HB BD hb hq hcz0; have HB := n0_; have BD := n1_; have HQ := n2_; clear n0_ n1_ n2_)
        | (go_at_call 29; refine (putQ1 (fun k => gd < k) gq (N : Int) [] (s : Int) w4 _ HB.out HQ.out (fun k hk => Nat.lt_of_lt_of_le (blk_lt BD.out) hk) [(s : Int)] (by rw [if_neg (by have := HN.out; simp; omega)]; rfl)).mono ?_; rintro e w7 ⟨hb, hk, ⟨rp, rfl⟩, hq⟩; have n1_ := Aside0.mk (Kept.blk hk BD.out (fun e_ => by have := GQ.out; omega)); have n0_ := Aside0.mk hb; have n2_ := Aside0.mk hq; clear HB BD HQ hb hk hq; have HB := n0_; have BD := n1_; have HQ := n2_; clear n0_ n1_ n2_))
      go_loopg [11] k (fun kq v11 w' => ∃ (d q : List Int), Aside0 (hopsLoop l0_2 out (N : Int) kq d q = some dr) ∧ Aside0 (d.length = N) ∧ Aside0 (Below w4.heap.size w4 w') ∧ Aside0 (w'.heap[gd]? = some (.cells (ints d) 3 (0, 0))) ∧ Aside0 (QState w' w4.heap.size (fun k => gd < k) gq (N : Int) q))
      case atStart => exact ⟨d0, _, HL0, HD0, HB, BD, HQ⟩
      case round =>
        clear HB BD HQ HL0 HD0
        obtain ⟨d, q, HL, HD, HB, BD, HQ⟩ := hrel
        cases gk with
        | zero => exact absurd HL.out (by simp [hopsLoop])
        | succ k1 =>
          cases q with
          | nil =>
            have hdr : d = dr := by have h_ := HL.out; simp only [hopsLoop] at h_; exact Option.some.inj h_
            subst hdr
            go_wp2_with (go_at_call 30; refine (lenQ' gq (N : Int) [] 0 _ HQ.out rfl).mono ?_; rintro e w7 ⟨rfl, rfl⟩)
            go_ret2
            exact ⟨_, rfl, by have h_ := R_block (base := w.heap.size) BD.out (Nat.le_trans HSZ.out GD.out) (by have := HD.out; have := HN.out; omega); rw [HD.out] at h_; exact h_, below_step HB0.out HB.out⟩
          | cons v q =>
            have hH := HL.out
            unfold hopsLoop at hH
            by_cases cv : 0 ≤ v ∧ v < (out.length : Int) ∧ v < (d.length : Int)
            · rw [if_pos cv] at hH
              replace hH := Option.bind_eq_some_iff.mp hH
              obtain ⟨⟨d2, q2⟩, hI, hH⟩ := hH
              have HI := Aside0.mk hI
              have HH : Aside0 (hopsLoop l0_2 out (N : Int) k1 d2 q2 = some dr) := Aside0.mk hH
              have HV := Aside0.mk cv
              clear hI hH cv HL
              obtain ⟨n, hn⟩ : ∃ n, (v :: q).length = n := ⟨_, rfl⟩
              have hpos : 0 < n := by rw [← hn]; simp
              have c1 : decide ((n : Int) > 0) = true := decide_eq_true (by omega)
              have c2 : decide (0 < (n : Int)) = true := decide_eq_true (by omega)
              have c3 : decide (0 < n) = true := decide_eq_true hpos
              have HNL := Aside0.mk hn
              clear hn hpos
              have p0 := eq_true HV.out.1
              have p1 := eq_true HV.out.2.1
              obtain ⟨ado, A1, ca1, eA, hco, hca1, hrow⟩ := at_L3 HOR.out v HV.out.1 HV.out.2.1
              subst eA
              obtain ⟨row, hrw⟩ : ∃ row, rd_L3 out v = row := ⟨_, rfl⟩
              rw [hrw] at HI hco hca1 hrow
              have HROW := Aside0.mk hrow
              have HCO := Aside0.mk hco
              clear hrow hrw hca1 hco
              go_wp2_with (first
                | (go_at_call 30; refine (lenQ' gq (N : Int) (v :: q) n _ HQ.out HNL.out).mono ?_; rintro e w7 ⟨rfl, rfl⟩)
                | (go_at_call 31; refine (takeQ1 (fun k => gd < k) gq (N : Int) v q w4 _ HB.out HQ.out).mono ?_; rintro e w8 ⟨hb, hk, rfl, hq⟩; have n1_ := Aside0.mk (Kept.blk hk BD.out (fun e_ => by have := GQ.out; omega)); have n0_ := Aside0.mk hb; have n2_ := Aside0.mk hq; clear HB BD HQ hb hk hq; have HB := n0_; have BD := n1_; have HQ := n2_; clear n0_ n1_ n2_; have hco := (HB.out.cell (World.block_lt_of_cell? w4 _ HCO.out)).trans HCO.out))
              clear c1 c2 c3 p0 p1 hco
              go_loopg [49] row.length (fun kj v49 w' => ∃ (j : Nat) (d1 q1 : List Int), v49 = .int .i64 (j : Int) ∧ Aside0 (j + kj = row.length) ∧ Aside0 (hopsIn l0_2 (N : Int) v (row.drop j) d1 q1 = some (d2, q2)) ∧ Aside0 (d1.length = N) ∧ Aside0 (Below w4.heap.size w4 w') ∧ Aside0 (w'.heap[gd]? = some (.cells (ints d1) 3 (0, 0))) ∧ Aside0 (QState w' w4.heap.size (fun k => gd < k) gq (N : Int) q1))
              case atStart => exact ⟨0, d, q, rfl, ⟨by omega⟩, HI, HD, HB, BD, HQ⟩
              case round =>
                clear HB BD HQ HI
                obtain ⟨j, d1, q1, rfl, HJ, HI, HD1, HB, BD, HQ⟩ := hrel
                cases gk with
                | zero =>
                  have hj : j = row.length := by have := HJ.out; omega
                  subst hj
                  have c1 : decide ((row.length : Int) < (row.length : Int)) = false := decide_eq_false (by omega)
                  have c2 : decide (row.length < row.length) = false := decide_eq_false (by omega)
                  have hI := HI.out
                  rw [List.drop_length] at hI
                  simp only [hopsIn, Option.some.injEq, Prod.mk.injEq] at hI
                  obtain ⟨rfl, rfl⟩ := hI
                  go_wp2
                  go_roundg k1
                  case measure => omega
                  case rel => exact ⟨d1, q1, HH, HD1, HB, BD, HQ⟩
                | succ g1 =>
                  have hlt : j < row.length := by have := HJ.out; omega
                  have c1 : decide ((j : Int) < (row.length : Int)) = true := decide_eq_true (by omega)
                  have c2 : decide (j < row.length) = true := decide_eq_true hlt
                  have p0 := eq_true (show (0 : Int) ≤ (j : Int) by omega)
                  have p1 := eq_true (show (j : Int) < (row.length : Int) by omega)
                  have hI := HI.out
                  rw [drop_rd hlt] at hI
                  unfold hopsIn at hI
                  have hci := Kd.at_int (Kd.C_below HROW.out HB.out) (j : Int) (by omega) (by omega)
                  obtain ⟨i, hi⟩ : ∃ i, rd row (j : Int) = i := ⟨_, rfl⟩
                  rw [hi] at hI hci
                  by_cases ci : 0 ≤ i ∧ i < (l0_2.length : Int) ∧ 0 ≤ (rd_T37 l0_2 i).f1 ∧ (rd_T37 l0_2 i).f1 < (d1.length : Int)
                  · rw [if_pos ci] at hI
                    obtain ⟨ad1, e1, hx1⟩ := hci
                    subst e1
                    rw [Int.toNat_natCast] at hx1
                    have HLT := Aside0.mk hlt
                    have HCI := Aside0.mk ci
                    have p2 := eq_true ci.1
                    have p3 := eq_true ci.2.1
                    obtain ⟨ad37, e37, hy0, hy1, hy2, hy3⟩ := at_T37 HR0.out i ci.1 ci.2.1
                    subst e37
                    have hbw : Below w.heap.size w wr := below_step HB0.out HB.out
                    replace hy0 := (hbw.cell (World.block_lt_of_cell? w _ hy0)).trans hy0
                    replace hy1 := (hbw.cell (World.block_lt_of_cell? w _ hy1)).trans hy1
                    replace hy2 := (hbw.cell (World.block_lt_of_cell? w _ hy2)).trans hy2
                    replace hy3 := (hbw.cell (World.block_lt_of_cell? w _ hy3)).trans hy3
                    have hcz2 : wr.cell? ⟨gb, 2, none⟩ = some (.slice (some ad37) l0_2.length c0_2) := (blk_cell (blk_below BK4.out HB.out) 2).trans rfl
                    obtain ⟨u, hu⟩ : ∃ u, (rd_T37 l0_2 i).f1 = u := ⟨_, rfl⟩
                    have HCU : Aside0 (0 ≤ u ∧ u < (d1.length : Int)) := ⟨hu ▸ ci.2.2⟩
                    rw [hu] at hI hy1
                    have p4 := eq_true HCU.out.1
                    have p5 : (u < (N : Int)) = True := eq_true (by have := HCU.out.2; rw [HD1.out] at this; exact this)
                    have hdu := ints_at BD.out u HCU.out.1 HCU.out.2
                    have hfu := blk_frozen BD.out u.toNat
                    have hwj : wrap64 ((j : Int) + 1) = ((j + 1 : Nat) : Int) := by have := HROW.out.2.1; unfold wrap64; omega
                    have HWJ := Aside0.mk hwj
                    clear hwj hlt hi hu ci hbw
                    by_cases cd : rd d1 u < 0
                    · rw [if_pos cd] at hI
                      have HI2 := Aside0.mk hI
                      have c3 : decide (rd d1 u < 0) = true := decide_eq_true cd
                      have hv0 : 0 ≤ v := HV.out.1
                      have hv1 : v < (d1.length : Int) := by have := HV.out.2.2; have := HD.out; have := HD1.out; omega
                      have p6 := eq_true hv0
                      have p7 : (v < (N : Int)) = True := eq_true (by rw [HD1.out] at hv1; exact hv1)
                      have hdv := ints_at BD.out v hv0 hv1
                      have hfv := blk_frozen BD.out v.toNat
                      clear hI cd hv0 hv1
                      obtain ⟨dn, hdn⟩ : ∃ dn, d1.set u.toNat (wrap64 (rd d1 v + 1)) = dn := ⟨_, rfl⟩
                      obtain ⟨qn, hqn⟩ : ∃ qn, (if (q1.length : Int) = (N : Int) then q1 else q1 ++ [u]) = qn := ⟨_, rfl⟩
                      rw [hdn, hqn] at HI2
                      have HQN := Aside0.mk hqn
                      have HDN := Aside0.mk hdn
                      clear hdn hqn
                      go_wp2_with (go_at_call 29; refine (putQ1 (fun k => gd < k) gq (N : Int) q1 u w4 _ (below_set HB.out GD.out) (HQ.out.kept (S := fun k => k = gd) (Kept.setCell (p := ⟨gd, u.toNat, none⟩) (Kept.refl wr (fun k => k = gd)) (Or.inl rfl) _) (fun e_ => by have := GQ.out; omega) (fun k_ hk_ e_ => by omega)) (fun k_ hk_ => Nat.lt_of_lt_of_le (blk_lt (ints_put BD.out u.toNat (wrap64 (rd d1 v + 1)))) hk_) qn HQN.out).mono ?_; rintro e w9 ⟨hb, hk, ⟨rp, rfl⟩, hq⟩; have n1_ := Aside0.mk (Kept.blk hk (ints_put BD.out u.toNat (wrap64 (rd d1 v + 1))) (fun e_ => by have := GQ.out; omega)); have n0_ := Aside0.mk hb; have n2_ := Aside0.mk hq; clear HB BD HQ hb hk hq; have HB := n0_; have BD := n1_; have HQ := n2_; clear n0_ n1_ n2_)
                      rw [HDN.out] at BD
                      go_roundg g1
                      case measure => omega
                      case rel => exact ⟨j + 1, dn, qn, congrArg (Value.int .i64) HWJ.out, ⟨by have := HJ.out; omega⟩, HI2, ⟨by rw [← HDN.out, List.length_set]; exact HD1.out⟩, HB, BD, HQ⟩
                    · rw [if_neg cd] at hI
                      have HI2 := Aside0.mk hI
                      have c3 : decide (rd d1 u < 0) = false := decide_eq_false cd
                      clear hI cd
                      go_wp2
                      go_roundg g1
                      case measure => omega
                      case rel => exact ⟨j + 1, d1, q1, congrArg (Value.int .i64) HWJ.out, ⟨by have := HJ.out; omega⟩, HI2, HD1, HB, BD, HQ⟩
                  · rw [if_neg ci] at hI
                    cases hI
            · rw [if_neg cv] at hH
              cases hH
    · rw [if_neg cg] at h
      cases h
  · rw [if_neg ce] at h
    simp only [Option.some.injEq, Prod.mk.injEq] at h
    obtain ⟨rfl, rfl⟩ := h
    have c1 : decide (e0 = 0) = false := decide_eq_false ce
    have c2 : (e0 == 0) = false := beq_eq_false_iff_ne.2 ce
    have c3 := eq_false ce
    go_enter Try.func10, Try.ntmps10
    go_wp2_with (first
      | ((with_reducible refine gate_dst (N := 2) rfl ?_); refine box_event ?hg (N := 2) ?hd (cs := #[.int .i64 a0_0, .bool a0_1, .slice A0_2 l0_2.length c0_2]) (t := 24) ?hr ?_; (case hd => rfl); (case hg => rfl); (case hr => first | (go_simp; done) | (go_simp; rfl)); intro gb hg w1 hbox hb; have n0_ := Aside0.mk (below_step HB.out hb); have n1_ := Aside0.mk hbox; clear HB; have HB := n0_; have BK := n1_; clear n0_ n1_ hb hbox hg; have hcz0 : w1.cell? ⟨gb, 0, none⟩ = some (.int .i64 a0_0) := (blk_cell BK.out 0).trans rfl; have hcz1 : w1.cell? ⟨gb, 1, none⟩ = some (.bool a0_1) := (blk_cell BK.out 1).trans rfl; have hcz2 : w1.cell? ⟨gb, 2, none⟩ = some (.slice A0_2 l0_2.length c0_2) := (blk_cell BK.out 2).trans rfl)
      | (go_at_call 25; refine (adj_asked.calls k a0_0 a0_1 _ _ l0_2 a1 e0 _ (Kd.C_below HR0.out HB.out) HC0.out HA.out).mono ?_; rintro e w2 ⟨rfl, hb⟩; have n0_ := Aside0.mk (below_step HB.out hb); clear HB BK hb hcz0 hcz1 hcz2; have HB := n0_; clear n0_))
    go_ret2
    exact ⟨_, rfl, Kd.R_nil _ _ _ _ _, HB.out⟩
end Go.Proofs.Ytgjgckpdilbbjaa.Q
end
