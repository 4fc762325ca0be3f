/- A part of the proof: words, contracts, plain lemmas. Conditions: none. -/
import Derived.Test.YtfhkkbpkajfdlaaZExpandMoves22
import Derived.Test.YtfhkkbpkajfdlaaZExpandMoves4
import Derived.Test.YtfhkkbpkajfdlaaZExpandMoves23
import Derived.Test.YtfhkkbpkajfdlaaZExpandMoves20
import Derived.Test.YtfhkkbpkajfdlaaZExpandMoves9
section
namespace Go.Proofs.Ytfhkkbpkajfdlaa.Q
open Go.RowKit Go.Maps Go.Proofs.YtfhkkbpkajfdlaaW.PrintWords Go.Proofs.YtfhkkbpkajfdlaaW.PrintLast Go.Proofs.YtfhkkbpkajfdlaaW.PrintMore
set_option linter.unusedVariables false
set_option linter.unusedSimpArgs false
def withinB (lf : List Int) (arcs : List S54) : Bool := (List.range arcs.length).all fun i => decide (0 ≤ rd lf (i : Int) ∧ rd lf (i : Int) ≤ (rd_T54 arcs (i : Int)).f2)
def toldL (lf : List Int) (vis : List ((Int × Int) × Int)) : List S85 := vis.filterMap fun p => if 0 < rd lf p.2 then some ⟨p.1.1, p.1.2, rd lf p.2⟩ else none
theorem toldL_snoc (lf : List Int) (vis : List ((Int × Int) × Int)) (a b i : Int) : toldL lf (vis ++ [((a, b), i)]) = if 0 < rd lf i then toldL lf vis ++ [⟨a, b, rd lf i⟩] else toldL lf vis := by
  unfold toldL
  rw [List.filterMap_append]
  by_cases c : 0 < rd lf i
  · simp [c]
  · simp [c]
theorem toldL_length (lf : List Int) (vis : List ((Int × Int) × Int)) : (toldL lf vis).length ≤ vis.length := List.length_filterMap_le _ _
def Grid_Told.T6 : Bool × List (List Nat × List Nat) := (true, [([], []), ([], []), ([1], [1]), ([], []), ([3], [3]), ([], []), ([], []), ([5, 6], [5, 6]), ([7], [7]), ([2, 4, 8], [2, 4, 8]), ([9], [9]), ([0, 10], [0, 10]), ([11, 11, 0, 1, 2, 3, 4, 5, 6, 7, 8, 9, 10, 11], [0, 11])])
def Grid_Told.B6 : List Nat := [0, 0, 2, 0, 8, 0, 0, 96, 224, 510, 1022, 2047, 4095]
theorem Grid_Told.tab6 : rtab .any (opsOf Try.f42 6) = Grid_Told.T6 := by kernel_rfl
theorem Grid_Told.bits6 : waitsOk Grid_Told.T6.2 Grid_Told.B6 = true := by kernel_rfl
set_option maxHeartbeats 8000000 in
set_option maxRecDepth 100000 in
theorem Grid_Told.calls (gg : Nat) (N V : Int) (v p2 p3 p4 : Value) (m1 : Nat) (l1 : List ((Int × Int) × Int)) (A : Option Addr) (c : Nat) (lf : List Int) (w : World)
    (hb : w.heap[gg]? = some (.cells #[.int .i64 N, .bool false, v, .map (some m1), p2, p3, p4, .int .i64 V] 76 (0, 0))) (hM : MapI E26 w m1 l1.length l1) (hd : (l1.map (·.1)).Nodup)
    (hf : Kd.C (Kd.int .i64) w A lf.length lf) (hc : lf.length ≤ c) (hp : ∀ p ∈ l1, 0 ≤ p.2 ∧ p.2 < (lf.length : Int)) (hl : l1.length ≤ 1048576)
    (hT : ∀ vis, vis.Perm l1 → ∃ k, table_Moves.f k (toldL lf vis) = some (toldL lf l1, 0)) :
    Calls Try.prog 42 #[.pointer (some ⟨gg, 0, none⟩), .slice A lf.length c] w fun e w' => ∃ v0, e = .returned v0 ∧ Kd.R k85 85 w' w.heap.size (fun _ => True) v0 (toldL lf l1) ∧ Below w.heap.size w w' := by
  have hu26 := Try.underlying26
  have hu85 := Try.underlying85
  have HM := Aside0.mk hM
  have HD := Aside0.mk hd
  have HRf := Aside0.mk hf
  have HCf := Aside0.mk hc
  have HP := Aside0.mk hp
  have HLn := Aside0.mk hl
  have HT := Aside0.mk hT
  have HB := Aside0.mk (Below.refl w.heap.size w)
  have HG := Aside0.mk hb
  clear hb hM hd hf hc hp hl hT
  go_enter Try.func42, Try.ntmps42
  go_wp2_with (first
    | ((with_reducible refine gate_dst (N := 10) rfl ?_); refine Kd.R_lit k85 _ 85 ?hg (N := 10) ?hd (xs := ([] : List (S85))) (inner := []) (ok := fun _ => True) (okp := fun _ => True) ?hr ?hp (fun _ hk => hk) trivial (Below.refl _ _) (Nat.le_refl _) (by simp) ?_; (case hd => rfl); (case hg => rfl); (case hr => first | (go_simp; done) | (go_simp; rfl)); (case hp => exact (Reps.none _ _)); intro v0 w3 ho4 hb hg_ hnew_; clear hg_ hnew_; have n0_ := Aside0.mk (Kd.R_lower ho4 (below_size HB.out)); have n1_ := Aside0.mk (below_step HB.out hb); have n2_ := Aside0.mk (HM.out.below hb); have n3_ := Aside0.mk (blk_below HG.out hb); clear HB HM HG ho4 hb; have HO := n0_; have HB := n1_; have HM := n2_; have HG := n3_; clear n0_ n1_ n2_ n3_; have z3 : w3.cell? ⟨gg, 3, none⟩ = some (.map (some m1)) := (blk_cell HG.out 3).trans rfl)
    | (at_range; refine mrange E26 rfl _ 73 rfl Try.underlying73 rfl HM.out HD.out ?_; intro r wr hr hR hg hs; clear z3; have GEr := Aside0.mk (by rw [hr]; exact below_size HB.out : w.heap.size ≤ r); have n0_ := Aside0.mk (Kd.R_grown HO.out hg (fun k_ hk e_ => by cases e_)); have n1_ := Aside0.mk (Below.grown HB.out hg (below_size HB.out) (fun k_ e_ => by cases e_)); clear HB HO HM HG hg hs hr; have HO := n0_; have HB := n1_; have HR := Aside0.mk hR; clear n0_ n1_ hR))
  go_frame
  go_loopg [5] (l1.length) (fun kq v5 w' => ∃ (vis : List ((Int × Int) × Int)), Aside0 (vis.length + kq = l1.length) ∧ Aside0 (MapR E26 w' m1 r l1.length l1 vis) ∧ Aside0 (Kd.R k85 85 w' w.heap.size (fun _ => True) v5 (toldL lf vis)) ∧ Aside0 (Below w.heap.size w w'))
  case atStart => exact ⟨[], ⟨Nat.zero_add _⟩, HR, HO, HB⟩
  case round =>
    clear HO HB HR
    obtain ⟨vis, HV, HR, HO, HB⟩ := hrel
    go_wp2_with (first | (at_next; refine mnext E26 rfl _ rfl rfl HR.out ?_ ?_))
    · intro hperm
      obtain ⟨k, hk⟩ := HT.out vis hperm
      have HKm := Aside0.mk hk
      obtain ⟨Ao, co, eo⟩ := Kd.R_slice HO.out
      subst eo
      clear hperm hk
      go_wp2_with (first
        | (go_at_call 50; (with_reducible refine (table_Moves.calls k Ao co (toldL lf vis) (toldL lf l1) 0 _ ?s1 ?s2 HKm.out).mono ?_); (case s1 => exact (Kd.R_reads' HO.out).2.2); (case s2 => exact (Kd.R_reads' HO.out).2.1); rintro e w9 ⟨v9, rfl, ho, hb⟩; have n0_ := Aside0.mk (Kd.R_lower ho (below_size HB.out)); have n1_ := Aside0.mk (below_step HB.out hb); clear HO HB ho hb; have HO := n0_; have HB := n1_; clear n0_ n1_))
      go_ret
      exact ⟨_, rfl, HO.out, HB.out⟩
    · intro pn pa pi w' hp hnv hR2 hg hs hen
      have n0_ := Aside0.mk (Kd.R_mono (Kd.R_grown (R_noiter HO.out HR.out.iter) hg (fun k_ hk e_ => hk.2 (Option.some.inj e_))) (fun _ hk => hk.1))
      have n1_ := Aside0.mk (Below.grown HB.out hg (below_size HB.out) (fun k_ e_ => by injection e_ with e_; subst e_; exact GEr.out))
      have hpi := HP.out _ hp
      have hV2 : vis.length + 1 ≤ l1.length := by have := hR2.le; rw [List.length_append] at this; exact this
      clear HO HB HR hg hs hnv hp
      have HO := n0_
      have HB := n1_
      have HR := Aside0.mk hR2
      have HV2 := Aside0.mk hV2
      clear n0_ n1_ hR2 hV2
      obtain ⟨pi0, pi1⟩ := hpi
      obtain ⟨ad, e, hx⟩ := Kd.at_int HRf.out pi pi0 pi1
      cases e
      replace hx := (HB.out.cell (World.block_lt_of_cell? w _ hx)).trans hx
      have hx2 := ((below_alloc (Below.refl w'.heap.size w') (.cells #[.int .i64 pn, .int .i64 pa] 26 (0, 0))).cell (World.block_lt_of_cell? w' _ hx)).trans hx
      replace pi0 := eq_true pi0
      replace pi1 := eq_true pi1
      rw [show E26.enc (pn, pa) = .agg #[.int .i64 pn, .int .i64 pa] from rfl] at hen ⊢
      by_cases c0 : 0 < rd lf pi
      · have c1 : decide (rd lf pi > 0) = true := decide_eq_true c0
        go_wp2
        have n0_ := Aside0.mk (Kd.R_alloc HO.out (.cells #[.int .i64 pn, .int .i64 pa] 26 (0, 0)))
        have n1_ := Aside0.mk (below_alloc HB.out (.cells #[.int .i64 pn, .int .i64 pa] 26 (0, 0)))
        have n2_ := Aside0.mk (HR.out.alloc (.cells #[.int .i64 pn, .int .i64 pa] 26 (0, 0)))
        have BKx := Aside0.mk (blk_new w' (.cells #[.int .i64 pn, .int .i64 pa] 26 (0, 0)))
        clear HO HB HR hx hen
        have HO := n0_
        have HB := n1_
        have HR := n2_
        clear n0_ n1_ n2_
        generalize hw2 : w'.alloc (.cells #[.int .i64 pn, .int .i64 pa] 26 (0, 0)) = w2 at HO HB HR BKx hx2 ⊢
        generalize hgx : w'.heap.size = gx at BKx ⊢
        clear hw2 hgx w'
        have zx0 : w2.cell? ⟨gx, 0, none⟩ = some (.int .i64 pn) := (blk_cell BKx.out 0).trans rfl
        have zx1 : w2.cell? ⟨gx, 1, none⟩ = some (.int .i64 pa) := (blk_cell BKx.out 1).trans rfl
        have n0_ := Aside0.mk (Kd.R_drew HO.out)
        have n1_ := Aside0.mk (below_drew1 HB.out)
        have n2_ := Aside0.mk HR.out.drew
        clear HO HB HR
        have HO := n0_
        have HB := n1_
        have HR := n2_
        clear n0_ n1_ n2_
        refine start_ (n := 13) (S := fun w' => w'.cell? ⟨gx, 0, none⟩ = some (.int .i64 pn) ∧ w'.cell? ⟨gx, 1, none⟩ = some (.int .i64 pa) ∧ w'.cell? (ad.add pi.toNat) = some (.int .i64 (rd lf pi))) (ds := [10, 11]) #[Ff,Ff,Ff,Ff,Ff,Ff,Ff,Ff,Ff,Ff,Ff,Ff,Ff] (by kernel_rfl) rfl rfl ⟨zx0, zx1, hx2⟩ (fun hHeld => ?_)
        clear zx0 zx1 hx2 BKx
        generalize w2.drew = w10 at HB HO HR hHeld ⊢
        refine with_tabW Grid_Told.tab6 Grid_Told.bits6 (fun HT_ HW_ => ?_)
        refine pv_ 0 26 #[Tt,Ff,Ff,Ff,Ff,Ff,Ff,Ff,Ff,Ff,Ff,Ff,Ff] ?_
        refine pv_ 1 27 #[Tt,Tt,Ff,Ff,Ff,Ff,Ff,Ff,Ff,Ff,Ff,Ff,Ff] ?_
        refine pv_ 3 29 #[Tt,Tt,Ff,Tt,Ff,Ff,Ff,Ff,Ff,Ff,Ff,Ff,Ff] ?_
        refine pv_ 5 31 #[Tt,Tt,Ff,Tt,Ff,Tt,Ff,Ff,Ff,Ff,Ff,Ff,Ff] ?_
        refine pv_ 6 32 #[Tt,Tt,Ff,Tt,Ff,Tt,Tt,Ff,Ff,Ff,Ff,Ff,Ff] ?_
        refine pv_ 7 33 #[Tt,Tt,Ff,Tt,Ff,Tt,Tt,Tt,Ff,Ff,Ff,Ff,Ff] ?_
        refine take_ (i := 2) (N := (some 28)) (v := ?_) (a' := ?_) #[Tt,Tt,Tt,Tt,Ff,Tt,Tt,Tt,Ff,Ff,Ff,Ff,Ff] rfl rfl (take_ofW HT_.out HW_.out (by kernel_rfl)) (fun _ _ _ h => h) (Or.inl ⟨by rfl, ?_⟩) hHeld ?_ ?_
        rotate_left
        · rintro w' ⟨s0, s1, s2⟩
          go_simp
          with_reducible rfl
        rotate_left
        exact ap_
        refine take_ (i := 4) (N := (some 30)) (v := ?_) (a' := ?_) #[Tt,Tt,Tt,Tt,Tt,Tt,Tt,Tt,Ff,Ff,Ff,Ff,Ff] rfl rfl (take_ofW HT_.out HW_.out (by kernel_rfl)) (fun _ _ _ h => h) (Or.inl ⟨by rfl, ?_⟩) hHeld ?_ ?_
        rotate_left
        · rintro w' ⟨s0, s1, s2⟩
          go_simp
          with_reducible rfl
        rotate_left
        exact ap_
        refine take_ (i := 8) (N := (some 34)) (v := ?_) (a' := ?_) #[Tt,Tt,Tt,Tt,Tt,Tt,Tt,Tt,Tt,Ff,Ff,Ff,Ff] rfl rfl (take_ofW HT_.out HW_.out (by kernel_rfl)) (fun _ _ _ h => h) (Or.inl ⟨by rfl, ?_⟩) hHeld ?_ ?_
        rotate_left
        · rintro w' ⟨s0, s1, s2⟩
          go_simp
          with_reducible rfl
        rotate_left
        exact ap_
        refine pv_ 9 35 #[Tt,Tt,Tt,Tt,Tt,Tt,Tt,Tt,Tt,Tt,Ff,Ff,Ff] ?_
        refine last_ (i := 10) (N := (some 36)) #[Tt,Tt,Tt,Tt,Tt,Tt,Tt,Tt,Tt,Tt,Tt,Ff,Ff] rfl rfl (one_of HT_.out (by kernel_rfl)) (by decide) (fun K hK => ?_)
        refine value_ (w1 := ?_) (v := ?_) (by rfl) rfl ?_ ?_
        rotate_left 2
        · go_simp
          constructor
          · rfl
          · rfl
        refine hK.out _ _ ?_
        clear hK K hHeld
        refine norm_ (a' := ?_) ?_ ?_
        rotate_left
        · show Act.put _ (some 36) _ = _
          simp only [Act.put, List.setIfInBounds_toArray, List.set_cons_zero, List.set_cons_succ, i64_w, i32_w]
          rfl
        refine last_ (i := 11) (N := (some 37)) #[Tt,Tt,Tt,Tt,Tt,Tt,Tt,Tt,Tt,Tt,Tt,Tt,Ff] rfl rfl (one_of HT_.out (by kernel_rfl)) (by decide) (fun K hK => ?_)
        refine Kd.R_append_step k85 (w0 := w) w.heap.size (by rfl) (.tmp 26) (.tmp 36) 45 85 (.agg #[(.int .i64 0), (.int .i64 0), (.int .i64 0)]) 24 rfl Try.underlying45 info85 rfl (by decide) (by omega) u5 (toldL lf vis) (⟨pn, pa, rd lf pi⟩ : S85) [.int .i64 pn, .int .i64 pa, .int .i64 (rd lf pi)] (fun _ => True) (fun _ => False) rfl rfl ?aP (fun _ hk => hk.elim) ?aF ?aO ?aB ?aS ?aL ?_
        case aP => exact k85_mkM _ _ _ (⟨pn, pa, rd lf pi⟩ : S85)
        case aB => exact HB.out
        case aF => exact (fun _ _ => trivial)
        case aO => exact HO.out
        case aS => exact below_size HB.out
        case aL => have := toldL_length lf vis; have := HLn.out; have := HV2.out; omega
        intro v5 w33 ho hb hg hat
        have n0_ := Aside0.mk (MapR.grownT HR.out hg (Kd.R_typed HO.out))
        clear HO HB HR hg hat
        have HO := Aside0.mk ho
        have HB := Aside0.mk hb
        have HR := n0_
        clear ho hb n0_
        refine hK.out _ _ ?_
        clear hK K
        refine norm_ (a' := ?_) ?_ ?_
        rotate_left
        · show Act.put _ (some 37) _ = _
          simp only [Act.put, List.setIfInBounds_toArray, List.set_cons_zero, List.set_cons_succ, i64_w, i32_w]
          rfl
        refine pv_ 12 5 #[Tt,Tt,Tt,Tt,Tt,Tt,Tt,Tt,Tt,Tt,Tt,Tt,Tt] ?_
        refine done_ (done_of HT_.out (by kernel_rfl)) ?_
        try go_wp2
        go_roundg (gk - 1)
        case measure => have := HV.out; have := HV2.out; omega
        case rel => exact ⟨vis ++ [((pn, pa), pi)], ⟨by rw [List.length_append]; have := HV.out; have := HV2.out; simp only [List.length_singleton]; omega⟩, HR, ⟨by rw [toldL_snoc, if_pos c0]; exact HO.out⟩, HB⟩
      · have c1 : decide (rd lf pi > 0) = false := decide_eq_false c0
        go_wp2
        go_roundg (gk - 1)
        case measure => have := HV.out; have := HV2.out; omega
        case rel => exact ⟨vis ++ [((pn, pa), pi)], ⟨by rw [List.length_append]; have := HV.out; have := HV2.out; simp only [List.length_singleton]; omega⟩, ⟨HR.out.alloc _⟩, ⟨by rw [toldL_snoc, if_neg (by omega)]; exact Kd.R_alloc HO.out _⟩, ⟨below_alloc HB.out _⟩⟩
end Go.Proofs.Ytfhkkbpkajfdlaa.Q
end
section
namespace Go.Proofs.Ytfhkkbpkajfdlaa.P
open Go.RowKit Go.Proofs.Ytfhkkbpkajfdlaa.Q Go.Proofs.YtfhkkbpkajfdlaaW.PrintWords Go.Proofs.YtfhkkbpkajfdlaaW.PrintLast Go.Proofs.YtfhkkbpkajfdlaaW.PrintMore
def kord (p q : (Int × Int) × Int) : Prop := p.1.2 < q.1.2 ∨ p.1.2 = q.1.2 ∧ p.1.1 < q.1.1
theorem zip_sorted {K : List S83} (h : K.Pairwise klt) : K.zipIdx.Pairwise (fun p q => klt p.1 q.1) := by
  rw [← List.pairwise_map (f := Prod.fst) (R := klt), List.zipIdx_map_fst]
  exact h
theorem movesK_sorted {K : List S83} (h : K.Pairwise klt) : (movesK K).Pairwise kord := by
  unfold movesK
  rw [List.pairwise_filterMap]
  refine (zip_sorted h).imp ?_
  rintro ⟨x, i⟩ ⟨y, j⟩ hk p hp q hq
  unfold mvK at hp hq
  simp only at hp hq hk
  split at hp
  · split at hq
    · rename_i hx hy
      simp only [Option.some.injEq] at hp hq
      subst hp; subst hq
      unfold klt at hk
      unfold kord
      simp only [hx, hy, forall_const, and_self] at hk ⊢
      omega
    · cases hq
  · cases hp
theorem kord_nodup {l : List ((Int × Int) × Int)} (h : l.Pairwise kord) : (l.map (·.1)).Nodup := by
  rw [List.Nodup, List.pairwise_map]
  refine h.imp ?_
  rintro ⟨⟨a, b⟩, i⟩ ⟨⟨c, d⟩, j⟩ hk e
  unfold kord at hk
  simp only [Prod.mk.injEq] at hk e
  omega
theorem movesK_mem {K : List S83} {p : (Int × Int) × Int} : p ∈ movesK K ↔ ∃ (i : Nat) (k : S83), K[i]? = some k ∧ k.f0 = true ∧ p = ((k.f2, k.f4), (i : Int)) := by
  unfold movesK
  rw [List.mem_filterMap]
  constructor
  · rintro ⟨⟨k, i⟩, hm, hp⟩
    rw [List.mem_zipIdx_iff_getElem?] at hm
    unfold mvK at hp
    split at hp
    · rename_i h
      simp only [Option.some.injEq] at hp
      exact ⟨i, k, hm, h, hp.symm⟩
    · cases hp
  · rintro ⟨i, k, hm, h, rfl⟩
    exact ⟨(k, i), List.mem_zipIdx_iff_getElem?.2 hm, by unfold mvK; rw [if_pos h]⟩
theorem movesK_len (K : List S83) : (movesK K).length ≤ K.length := by
  unfold movesK
  refine Nat.le_trans (List.length_filterMap_le _ _) ?_
  rw [List.length_zipIdx]; exact Nat.le_refl _
theorem msum_perm {l l' : List S85} (h : l.Perm l') (k : Int × Int) : msum l k = msum l' k := by
  unfold msum
  induction h with
  | nil => rfl
  | cons x _ ih => rw [sumK_cons, sumK_cons, ih]
  | swap x y l => rw [sumK_cons, sumK_cons, sumK_cons, sumK_cons]; omega
  | trans _ _ h1 h2 => rw [h1, h2]
theorem told_sorted {lf : List Int} {l1 : List ((Int × Int) × Int)} (h : l1.Pairwise kord) : (toldL lf l1).Pairwise mlt := by
  unfold toldL
  rw [List.pairwise_filterMap]
  refine h.imp ?_
  rintro ⟨⟨a, b⟩, i⟩ ⟨⟨c, d⟩, j⟩ hk x hx y hy
  simp only at hx hy
  split at hx
  · split at hy
    · simp only [Option.some.injEq] at hx hy
      subst hx; subst hy
      exact hk
    · cases hy
  · cases hx
theorem told_mem {lf : List Int} {l1 : List ((Int × Int) × Int)} {m : S85} : m ∈ toldL lf l1 ↔ ∃ i, ((m.f0, m.f1), i) ∈ l1 ∧ 0 < rd lf i ∧ m.f2 = rd lf i := by
  unfold toldL
  rw [List.mem_filterMap]
  constructor
  · rintro ⟨⟨⟨a, b⟩, i⟩, hm, hp⟩
    simp only at hp
    split at hp
    · rename_i h
      simp only [Option.some.injEq] at hp
      subst hp
      exact ⟨i, hm, h, rfl⟩
    · cases hp
  · rintro ⟨i, hm, h, e⟩
    refine ⟨_, hm, ?_⟩
    simp only [if_pos h]
    rw [← e]
theorem merge_self {r : List S85} (h : r.Pairwise mlt) (hz : ∀ m ∈ r, m.f2 ≠ 0) : IsMerge r r := by
  refine ⟨h, fun m => ⟨fun hm => ⟨(mem_keysOf _ _ _).2 ⟨m, hm, rfl⟩, (msum_nodup (sorted_keys h) hm).symm, hz m hm⟩, ?_⟩⟩
  rintro ⟨h1, h2, h3⟩
  obtain ⟨x, hx, hk⟩ := (mem_keysOf _ _ _).1 h1
  have e : m = x := by
    have := msum_nodup (sorted_keys h) hx
    rw [hk, ← h2] at this
    unfold keyM at hk
    exact s85_ext (congrArg Prod.fst hk).symm (congrArg Prod.snd hk).symm this
  rw [e]; exact hx
theorem merge_perm {l r : List S85} (hp : l.Perm r) (h : r.Pairwise mlt) (hz : ∀ m ∈ r, m.f2 ≠ 0) : IsMerge l r :=
  isMerge_congr (l := r) (fun k => by
    rw [mem_keysOf, mem_keysOf]
    constructor
    · rintro ⟨x, hx, e⟩; exact ⟨x, hp.mem_iff.2 hx, e⟩
    · rintro ⟨x, hx, e⟩; exact ⟨x, hp.mem_iff.1 hx, e⟩) (fun k _ => (msum_perm hp k).symm) (merge_self h hz)
theorem moves_perm {l r : List S85} (hp : l.Perm r) (h : r.Pairwise mlt) (hz : ∀ m ∈ r, m.f2 ≠ 0) (hok : ∀ m ∈ r, OkM m) (hl : r.length ≤ 1048576) : Ev (fun k => table_Moves.f k l) (r, 0) := by
  have hE := moves_ev l (by rw [hp.length_eq]; exact hl) (fun m hm => hok m (hp.mem_iff.1 hm))
  have hm : mergeL l = r := isMerge_unique (mergeL_is l) (merge_perm hp h hz)
  have hf : AllFit l := by
    intro k hk
    obtain ⟨x, hx, e⟩ := (mem_keysOf _ _ _).1 hk
    rw [msum_perm hp, ← e, msum_nodup (sorted_keys h) (hp.mem_iff.1 hx)]
    exact (hok x (hp.mem_iff.1 hx)).2.2
  have e : mergeR l = (r, 0) := by unfold mergeR; rw [if_pos hf, hm]
  rw [e] at hE
  exact hE
section
variable {V H s t : Int} {hold : Bool} {l0 : List S54}
theorem log1 (n : Nat) : (atLoop V H hold s t l0 n).2.1 = movesK (kindsB V H hold s t l0 n) := by rw [(rel_ats n).mv, rAts_kinds]
theorem arcs1 (n : Nat) : (atLoop V H hold s t l0 n).1 = (kindsB V H hold s t l0 n).map (arcK V l0) := by rw [(rel_ats n).same, (rel_ats (hold := hold) n).arcs, rAts_kinds]
theorem kind_move {n : Nat} {k : S83} (hk : k ∈ kindsB V H hold s t l0 n) (h : k.f0 = true) : ∃ a i : Nat, a < n ∧ i < l0.length ∧ k = ⟨true, false, (i : Int), 0, (a : Int)⟩ ∧ (a : Int) + (l0.getD i z54).f3 ≤ H ∧ (l0.getD i z54).f1 ≠ s ∧ (l0.getD i z54).f0 ≠ t := by
  obtain ⟨a, ha, ⟨i, hi, hm⟩ | ⟨v, hv, hm⟩⟩ := mem_kindsB.1 hk
  · rw [mvAt_some] at hm
    exact ⟨a, i, ha, hi, hm.2, hm.1⟩
  · rw [wtAt_some] at hm
    rw [hm.2] at h; cases h
theorem gridArcs_get {i : Nat} {k : S83} (h : (kindsB V H hold s t l0 (H.toNat + 1))[i]? = some k) : (gridArcs V H hold s t l0)[i]? = some (arcK V l0 k) := by
  have hi := (List.getElem?_eq_some_iff.1 h).1
  unfold gridArcs
  rw [arcs1, List.append_assoc, List.getElem?_append_left (by rw [List.length_map]; exact hi), List.getElem?_map, h]
  rfl
theorem withinB_at {lf : List Int} {arcs : List S54} (h : withinB lf arcs = true) {i : Nat} {a : S54} (hi : arcs[i]? = some a) : 0 ≤ rd lf (i : Int) ∧ rd lf (i : Int) ≤ a.f2 := by
  unfold withinB at h
  obtain ⟨hl, e⟩ := List.getElem?_eq_some_iff.1 hi
  have := List.all_eq_true.1 h i (List.mem_range.2 hl)
  rw [rdA_of hl, e] at this
  exact of_decide_eq_true this
theorem grid_len (hok : okNet V H l0 = true) : (gridArcs V H hold s t l0).length ≤ 300000 := by
  unfold okNet at hok
  simp only [Bool.and_eq_true, decide_eq_true_eq] at hok
  obtain ⟨⟨hV0, hV1, hH0, hH1, hl⟩, hall⟩ := hok
  have h1 := (atLoop_bal (H := H) (s := s) (t := t) (hold := hold) hV1 hl (H.toNat + 1)).2
  unfold gridArcs
  rw [List.length_append, List.length_append, firstsA_length, lastsA_length]
  omega
theorem grid_told (hok : okNet V H l0 = true) (lf : List Int) (hlen : lf.length = (gridArcs V H hold s t l0).length) (hw : withinB lf (gridArcs V H hold s t l0) = true) :
    (((atLoop V H hold s t l0 (H.toNat + 1)).2.1).map (·.1)).Nodup ∧ (∀ p ∈ (atLoop V H hold s t l0 (H.toNat + 1)).2.1, 0 ≤ p.2 ∧ p.2 < (lf.length : Int)) ∧ (atLoop V H hold s t l0 (H.toNat + 1)).2.1.length ≤ 1048576 ∧
    ∀ vis, vis.Perm (atLoop V H hold s t l0 (H.toNat + 1)).2.1 → ∃ k, table_Moves.f k (toldL lf vis) = some (toldL lf (atLoop V H hold s t l0 (H.toNat + 1)).2.1, 0) := by
  unfold okNet at hok
  simp only [Bool.and_eq_true, decide_eq_true_eq] at hok
  obtain ⟨⟨hV0, hV1, hH0, hH1, hl⟩, hall⟩ := hok
  rw [log1]
  have hs := movesK_sorted (kindsB_sorted (V := V) (H := H) (s := s) (t := t) (hold := hold) (l0 := l0) (H.toNat + 1))
  have hKl : (kindsB V H hold s t l0 (H.toNat + 1)).length ≤ 256250 := by
    have h1 := (atLoop_bal (H := H) (s := s) (t := t) (hold := hold) hV1 hl (H.toNat + 1)).2
    rw [arcs1, List.length_map] at h1
    omega
  have hKg : (kindsB V H hold s t l0 (H.toNat + 1)).length ≤ (gridArcs V H hold s t l0).length := by
    unfold gridArcs
    rw [arcs1, List.length_append, List.length_append, List.length_map]; omega
  have hml := movesK_len (kindsB V H hold s t l0 (H.toNat + 1))
  refine ⟨kord_nodup hs, ?_, by omega, ?_⟩
  · intro p hp
    obtain ⟨i, k, hi, _, rfl⟩ := movesK_mem.1 hp
    have := (List.getElem?_eq_some_iff.1 hi).1
    simp only
    omega
  · intro vis hvis
    have hE := moves_perm (l := toldL lf vis) (r := toldL lf (movesK (kindsB V H hold s t l0 (H.toNat + 1)))) (by unfold toldL; exact hvis.filterMap _) (told_sorted hs) ?_ ?_ (by have := toldL_length lf (movesK (kindsB V H hold s t l0 (H.toNat + 1))); omega)
    · obtain ⟨k, hk⟩ := hE
      exact ⟨k, hk k (Nat.le_refl _)⟩
    · intro m hm
      obtain ⟨i, _, h1, h2⟩ := told_mem.1 hm
      omega
    · intro m hm
      obtain ⟨i, h0, h1, h2⟩ := told_mem.1 hm
      obtain ⟨j, k, hj, hk, e⟩ := movesK_mem.1 h0
      obtain ⟨a, q, ha, hq, rfl, _⟩ := kind_move (List.mem_of_getElem? hj) hk
      simp only [Prod.mk.injEq] at e
      obtain ⟨⟨e1, e2⟩, rfl⟩ := e
      have hb := withinB_at hw (gridArcs_get hj)
      have hc : (arcK V l0 ⟨true, false, (q : Int), 0, (a : Int)⟩).f2 = (l0.getD q z54).f2 := rfl
      rw [hc] at hb
      have ho := List.all_eq_true.1 hall (l0.getD q z54) (by rw [List.getD_eq_getElem?_getD, List.getElem?_eq_getElem hq]; exact List.getElem_mem _)
      unfold okA at ho
      simp only [decide_eq_true_eq] at ho
      unfold OkM fits
      rw [e1, e2, h2]
      omega
end
end Go.Proofs.Ytfhkkbpkajfdlaa.P
end
section
namespace Go.Proofs.Ytfhkkbpkajfdlaa.Q
open Go.RowKit Go.Maps Go.Proofs.YtfhkkbpkajfdlaaW.PrintWords Go.Proofs.YtfhkkbpkajfdlaaW.PrintLast Go.Proofs.YtfhkkbpkajfdlaaW.PrintMore
set_option linter.unusedVariables false
set_option linter.unusedSimpArgs false
def gridMoves (V H : Int) (hold : Bool) (s t : Int) (l0 : List S54) : List ((Int × Int) × Int) := (atLoop V H hold s t l0 (H.toNat + 1)).2.1
def expand_Moves.f (k : Nat) (a0_0 : Int) (a0_1 : Bool) (l0_2 : List S54) (a1 a2 a3 : Int) (l4 : List Int) : Option (List S85 × Int) := (expand_Asked.f k a0_0 a0_1 l0_2 a1 a2 a3).bind fun e => if e = 0 then (if okNet a0_0 a3 l0_2 = true ∧ (0 ≤ a1 ∧ a1 < a0_0 ∧ 0 ≤ a2 ∧ a2 < a0_0) then (if l4.length = (gridArcs a0_0 a3 a0_1 a1 a2 l0_2).length then (if withinB l4 (gridArcs a0_0 a3 a0_1 a1 a2 l0_2) = true then some (toldL l4 (gridMoves a0_0 a3 a0_1 a1 a2 l0_2), 0) else some ([], 71)) else some ([], 71)) else none) else some ([], e)
theorem within_bad {lf : List Int} {arcs : List S54} {i : Nat} (hi : i < arcs.length) (h : ¬ (0 ≤ rd lf (i : Int) ∧ rd lf (i : Int) ≤ (rd_T54 arcs (i : Int)).f2)) : withinB lf arcs = false := by
  cases e : withinB lf arcs
  · rfl
  · exact absurd (of_decide_eq_true (List.all_eq_true.1 e i (List.mem_range.2 hi))) h
theorem within_all {lf : List Int} {arcs : List S54} (h : ∀ i, i < arcs.length → 0 ≤ rd lf (i : Int) ∧ rd lf (i : Int) ≤ (rd_T54 arcs (i : Int)).f2) : withinB lf arcs = true :=
  List.all_eq_true.2 (fun i hi => decide_eq_true (h i (List.mem_range.1 hi)))
set_option maxHeartbeats 8000000 in
set_option maxRecDepth 100000 in
theorem expand_Moves.calls (k : Nat) (a0_0 : Int) (a0_1 : Bool) (A0_2 : Option Addr) (c0_2 : Nat) (l0_2 : List S54) (a1 a2 a3 : Int) (A4 : Option Addr) (c4 : Nat) (l4 : List Int) (r1 : List S85) (r2 : Int) (w : World) (hr0_2 : Kd.C k54 w A0_2 l0_2.length l0_2) (hc0_2 : l0_2.length ≤ c0_2) (hr4 : Kd.C (Kd.int .i64) w A4 l4.length l4) (hc4 : l4.length ≤ c4) (h : expand_Moves.f k a0_0 a0_1 l0_2 a1 a2 a3 l4 = some (r1, r2)) :
    Calls Try.prog 21 #[.agg #[.int .i64 a0_0, .bool a0_1, .slice A0_2 l0_2.length c0_2], .int .i64 a1, .int .i64 a2, .int .i64 a3, .slice A4 l4.length c4] w fun e w' => ∃ v0_ : Value, e = .returned (.tuple #[v0_, .int .i64 r2]) ∧ Kd.R k85 85 w' w.heap.size (fun _ => True) v0_ r1 ∧ Below w.heap.size w w' := by
  have hu24 := Try.underlying24
  have hu54 := Try.underlying54
  have hu76 := Try.underlying76
  have HR0 := Aside0.mk hr0_2
  have HC0 := Aside0.mk hc0_2
  have HR4 := Aside0.mk hr4
  have HC4 := Aside0.mk hc4
  have HB := Aside0.mk (Below.refl w.heap.size w)
  clear hr0_2 hc0_2 hr4 hc4
  unfold expand_Moves.f at h
  replace h := Option.bind_eq_some_iff.1 h
  obtain ⟨e, he, h⟩ := h
  have HE := Aside0.mk he
  clear he
  by_cases c : e = 0
  · rw [if_pos c] at h
    split at h
    case isFalse => cases h
    rename_i hh
    have HOK := Aside0.mk hh.1
    have HEN := Aside0.mk hh.2
    have c1 : (e == 0) = true := beq_iff_eq.2 c
    have c2 : (e != 0) = false := by rw [c]; rfl
    have HGL := Aside0.mk (P.grid_len (hold := a0_1) (s := a1) (t := a2) hh.1)
    have HGT := Aside0.mk (P.grid_told (hold := a0_1) (s := a1) (t := a2) hh.1 l4)
    clear hh c
    unfold gridMoves at h
    have HLE := Aside0.mk h
    clear h
    by_cases cq : l4.length = (gridArcs a0_0 a3 a0_1 a1 a2 l0_2).length
    · have cl : ((l4.length : Int) != ((gridArcs a0_0 a3 a0_1 a1 a2 l0_2).length : Int)) = false := by rw [cq]; exact bne_self_eq_false _
      have HCQ := Aside0.mk cq
      clear cq
      go_enter Try.func21, Try.ntmps21
      go_wp2_with (first
        | ((with_reducible refine gate_dst (N := 5) rfl ?_); refine box_event ?hg (N := 5) ?hd (cs := #[.int .i64 a0_0, .bool a0_1, .slice A0_2 l0_2.length c0_2]) (t := 24) ?hr ?_; (case hd => rfl); (case hg => rfl); (case hr => first | (go_simp; done) | (go_simp; rfl)); intro gn hg w2 hbox hb; have n0_ := Aside0.mk (below_step HB.out hb); have n1_ := Aside0.mk hbox; clear HB; have HB := n0_; have BKn := n1_; clear n0_ n1_; clear hb hbox hg; have zn0 : w2.cell? ⟨gn, 0, none⟩ = some (.int .i64 a0_0) := (blk_cell BKn.out 0).trans rfl; have zn1 : w2.cell? ⟨gn, 1, none⟩ = some (.bool a0_1) := (blk_cell BKn.out 1).trans rfl; have zn2 : w2.cell? ⟨gn, 2, none⟩ = some (.slice A0_2 l0_2.length c0_2) := (blk_cell BKn.out 2).trans rfl)
        | (go_at_call 38; (with_reducible refine (expand_Asked.calls k a0_0 a0_1 A0_2 c0_2 l0_2 a1 a2 a3 e _ ?side11 HC0.out HE.out).mono ?_); (case side11 => exact (Kd.C_below HR0.out HB.out)); rintro e4 w4 ⟨rfl, hb⟩; have n0_ := Aside0.mk (below_step HB.out hb); have n1_ := Aside0.mk (blk_below BKn.out hb); clear HB BKn zn0 zn1 zn2 hb; have HB := n0_; have BKn := n1_; clear n0_ n1_; have zn0 : w4.cell? ⟨gn, 0, none⟩ = some (.int .i64 a0_0) := (blk_cell BKn.out 0).trans rfl; have zn1 : w4.cell? ⟨gn, 1, none⟩ = some (.bool a0_1) := (blk_cell BKn.out 1).trans rfl; have zn2 : w4.cell? ⟨gn, 2, none⟩ = some (.slice A0_2 l0_2.length c0_2) := (blk_cell BKn.out 2).trans rfl)
        | (go_at_call 39; refine (expand_Of.calls a0_0 a3 a1 a2 a0_1 A0_2 c0_2 l0_2 _ (Kd.C_below HR0.out HB.out) HC0.out HOK.out HEN.out.1 HEN.out.2.1 HEN.out.2.2.1 HEN.out.2.2.2).mono ?_; rintro e5 w5 ⟨gg, v, m1, m2, m3, m4, rfl, hG, hb⟩; obtain ⟨Av, cv, ev⟩ := Kd.R_slice hG.row; generalize gridArcs a0_0 a3 a0_1 a1 a2 l0_2 = arcs at hG ev HLE HGT HGL HCQ cl; generalize (atLoop a0_0 a3 a0_1 a1 a2 l0_2 (a3.toNat + 1)).2.1 = l1 at hG HLE HGT; subst ev; have n0_ := Aside0.mk (hG.lower (below_size HB.out)); have n1_ := Aside0.mk (below_step HB.out hb); clear HB BKn zn0 zn1 zn2 hb hG; have HG := n0_; have HB := n1_; clear n0_ n1_; have zg2 : w5.cell? ⟨gg, 2, none⟩ = some (.slice Av arcs.length cv) := (blk_cell HG.out.blk 2).trans rfl))
      clear zg2
      go_loopg [44] arcs.length (fun kq vi w' => ∃ (j : Nat), vi = .int .i64 (j : Int) ∧ Aside0 (j + kq = arcs.length) ∧ Aside0 (∀ i : Nat, i < j → 0 ≤ rd l4 (i : Int) ∧ rd l4 (i : Int) ≤ (rd_T54 arcs (i : Int)).f2) ∧ Aside0 (GridW w' w.heap.size (fun _ => True) gg ((a3 + 1) * a0_0 + 2) a0_0 (.slice Av arcs.length cv) arcs m1 m2 m3 m4 l1 (atLoop a0_0 a3 a0_1 a1 a2 l0_2 (a3.toNat + 1)).2.2 (placesL (atLoop a0_0 a3 a0_1 a1 a2 l0_2 (a3.toNat + 1)).1.length (a3.toNat + 1)) (placesL ((atLoop a0_0 a3 a0_1 a1 a2 l0_2 (a3.toNat + 1)).1.length + (a3.toNat + 1)) (a3.toNat + 1))) ∧ Aside0 (Below w.heap.size w w'))
      case atStart => exact ⟨0, rfl, ⟨Nat.zero_add _⟩, ⟨fun i hi => absurd hi (Nat.not_lt_zero _)⟩, HG, HB⟩
      case round =>
        clear HG HB
        obtain ⟨j, rfl, HJ, HW, HG, HB⟩ := hrel
        have hJ := HJ.out
        cases gk with
        | zero =>
          have hj : j = arcs.length := by omega
          have d1 : decide ((j : Int) < (arcs.length : Int)) = false := decide_eq_false (by omega)
          subst hj
          have hwi := within_all HW.out
          have h := HLE.out
          rw [if_pos HCQ.out, if_pos hwi] at h
          simp only [Option.some.injEq, Prod.mk.injEq] at h
          obtain ⟨rfl, rfl⟩ := h
          have HQ := Aside0.mk (HGT.out HCQ.out hwi)
          clear hwi hJ HJ HLE HGT
          go_wp2_with (first
            | (go_at_call 42; (with_reducible refine (Grid_Told.calls gg _ _ _ _ _ _ m1 l1 A4 c4 l4 _ HG.out.blk HG.out.M1 HQ.out.1 (Kd.C_below HR4.out HB.out) HC4.out HQ.out.2.1 HQ.out.2.2.1 HQ.out.2.2.2).mono ?_); rintro e w9 ⟨v9, rfl, ho, hb⟩; have n0_ := Aside0.mk (Kd.R_lower ho (below_size HB.out)); have n1_ := Aside0.mk (below_step HB.out hb); clear HB HG ho hb; have HO := n0_; have HB := n1_; clear n0_ n1_))
          go_ret2
          exact ⟨_, rfl, HO.out, HB.out⟩
        | succ gk0 =>
          have hjl : j < arcs.length := by omega
          have d1 : decide ((j : Int) < (arcs.length : Int)) = true := decide_eq_true (by omega)
          have hwj : wrap64 ((j : Int) + 1) = ((j + 1 : Nat) : Int) := P.wrap1 (by have := HGL.out; omega)
          obtain ⟨ad, ea, hx0, hx1, hx2, hx3⟩ := at_T54 (Kd.R_reads' HG.out.row).2.2 (j : Int) (by omega) (by omega)
          cases ea
          obtain ⟨af, eb, hf⟩ := Kd.at_int HR4.out (j : Int) (by omega) (by have := HCQ.out; omega)
          cases eb
          replace hf := (HB.out.cell (World.block_lt_of_cell? w _ hf)).trans hf
          rw [Int.toNat_natCast] at hx0 hx1 hx2 hx3 hf
          have p0 := eq_true (show (0 : Int) ≤ (j : Int) by omega)
          have p1 := eq_true (show (j : Int) < (arcs.length : Int) by omega)
          have p2 := eq_true (show (j : Int) < (l4.length : Int) by have := HCQ.out; omega)
          have HJL := Aside0.mk hjl
          have HWJ := Aside0.mk hwj
          clear hjl hwj hJ
          generalize hA : rd_T54 arcs (j : Int) = X at hx0 hx1 hx2 hx3
          generalize hF : rd l4 (j : Int) = F at hf
          obtain ⟨X0, X1, X2, X3⟩ := X
          have HA := Aside0.mk hA
          have HF := Aside0.mk hF
          have hfa := ((below_alloc (Below.refl wr.heap.size wr) (.cells #[.int .i64 X0, .int .i64 X1, .int .i64 X2, .int .i64 X3] 54 (0, 0))).cell (World.block_lt_of_cell? wr _ hf)).trans hf
          clear hA hF
          by_cases b1 : F < 0
          · have b2 : decide (F < 0) = true := decide_eq_true b1
            have HBAD : Aside0 (¬ (0 ≤ F ∧ F ≤ X2)) := ⟨by omega⟩
            clear b1
            as_aux_lemma =>
              go_wp2
              go_quiet (fail)
              go_wp2
              have hwi : withinB l4 arcs = false := within_bad HJL.out (by rw [HA.out, HF.out]; exact HBAD.out)
              have h := HLE.out
              rw [if_pos HCQ.out, if_neg (by rw [hwi]; exact Bool.false_ne_true)] at h
              simp only [Option.some.injEq, Prod.mk.injEq] at h
              obtain ⟨rfl, rfl⟩ := h
              go_ret2
              exact ⟨_, rfl, Kd.R_nil _ _ _ _ _, by first | exact pw_below_drewN (below_alloc HB.out _) _ | exact below_drew1 (below_alloc HB.out _)⟩
          · have b2 : decide (F < 0) = false := decide_eq_false b1
            by_cases b3 : F > X2
            · have b4 : decide (F > X2) = true := decide_eq_true b3
              have HBAD : Aside0 (¬ (0 ≤ F ∧ F ≤ X2)) := ⟨by omega⟩
              clear b1 b3
              as_aux_lemma =>
                go_wp2
                go_quiet (fail)
                go_wp2
                have hwi : withinB l4 arcs = false := within_bad HJL.out (by rw [HA.out, HF.out]; exact HBAD.out)
                have h := HLE.out
                rw [if_pos HCQ.out, if_neg (by rw [hwi]; exact Bool.false_ne_true)] at h
                simp only [Option.some.injEq, Prod.mk.injEq] at h
                obtain ⟨rfl, rfl⟩ := h
                go_ret2
                exact ⟨_, rfl, Kd.R_nil _ _ _ _ _, by first | exact pw_below_drewN (below_alloc HB.out _) _ | exact below_drew1 (below_alloc HB.out _)⟩
            · have b4 : decide (F > X2) = false := decide_eq_false b3
              have HOKB : Aside0 (0 ≤ F ∧ F ≤ X2) := ⟨by omega⟩
              clear b1 b3
              as_aux_lemma =>
                go_wp2
                go_quiet (fail)
                go_wp2
                go_roundg gk0
                case measure => omega
                case rel =>
                  refine ⟨j + 1, congrArg (Value.int .i64) HWJ.out, ⟨by have := HJ.out; omega⟩, ⟨fun i hi => ?_⟩, ⟨?_⟩, ⟨?_⟩⟩
                  · by_cases hij : i = j
                    · subst hij; rw [HA.out, HF.out]; exact HOKB.out
                    · exact HW.out i (by omega)
                  · exact HG.out.below (by first | exact pw_below_drewN (below_alloc (Below.refl _ _) _) _ | exact below_drew1 (below_alloc (Below.refl _ _) _))
                  · first | exact pw_below_drewN (below_alloc HB.out _) _ | exact below_drew1 (below_alloc HB.out _)
    · have cl : ((l4.length : Int) != ((gridArcs a0_0 a3 a0_1 a1 a2 l0_2).length : Int)) = true := bne_iff_ne.2 (fun e_ => cq (by omega))
      have HCQ := Aside0.mk cq
      clear cq
      go_enter Try.func21, Try.ntmps21
      go_wp2_with (first
        | ((with_reducible refine gate_dst (N := 5) rfl ?_); refine box_event ?hg (N := 5) ?hd (cs := #[.int .i64 a0_0, .bool a0_1, .slice A0_2 l0_2.length c0_2]) (t := 24) ?hr ?_; (case hd => rfl); (case hg => rfl); (case hr => first | (go_simp; done) | (go_simp; rfl)); intro gn hg w2 hbox hb; have n0_ := Aside0.mk (below_step HB.out hb); have n1_ := Aside0.mk hbox; clear HB; have HB := n0_; have BKn := n1_; clear n0_ n1_; clear hb hbox hg; have zn0 : w2.cell? ⟨gn, 0, none⟩ = some (.int .i64 a0_0) := (blk_cell BKn.out 0).trans rfl; have zn1 : w2.cell? ⟨gn, 1, none⟩ = some (.bool a0_1) := (blk_cell BKn.out 1).trans rfl; have zn2 : w2.cell? ⟨gn, 2, none⟩ = some (.slice A0_2 l0_2.length c0_2) := (blk_cell BKn.out 2).trans rfl)
        | (go_at_call 38; (with_reducible refine (expand_Asked.calls k a0_0 a0_1 A0_2 c0_2 l0_2 a1 a2 a3 e _ ?side14 HC0.out HE.out).mono ?_); (case side14 => exact (Kd.C_below HR0.out HB.out)); rintro e4 w4 ⟨rfl, hb⟩; have n0_ := Aside0.mk (below_step HB.out hb); have n1_ := Aside0.mk (blk_below BKn.out hb); clear HB BKn zn0 zn1 zn2 hb; have HB := n0_; have BKn := n1_; clear n0_ n1_; have zn0 : w4.cell? ⟨gn, 0, none⟩ = some (.int .i64 a0_0) := (blk_cell BKn.out 0).trans rfl; have zn1 : w4.cell? ⟨gn, 1, none⟩ = some (.bool a0_1) := (blk_cell BKn.out 1).trans rfl; have zn2 : w4.cell? ⟨gn, 2, none⟩ = some (.slice A0_2 l0_2.length c0_2) := (blk_cell BKn.out 2).trans rfl)
        | (go_at_call 39; refine (expand_Of.calls a0_0 a3 a1 a2 a0_1 A0_2 c0_2 l0_2 _ (Kd.C_below HR0.out HB.out) HC0.out HOK.out HEN.out.1 HEN.out.2.1 HEN.out.2.2.1 HEN.out.2.2.2).mono ?_; rintro e5 w5 ⟨gg, v, m1, m2, m3, m4, rfl, hG, hb⟩; obtain ⟨Av, cv, ev⟩ := Kd.R_slice hG.row; generalize gridArcs a0_0 a3 a0_1 a1 a2 l0_2 = arcs at hG ev HLE HGT HGL HCQ cl; generalize (atLoop a0_0 a3 a0_1 a1 a2 l0_2 (a3.toNat + 1)).2.1 = l1 at hG HLE HGT; subst ev; have n0_ := Aside0.mk (hG.lower (below_size HB.out)); have n1_ := Aside0.mk (below_step HB.out hb); clear HB BKn zn0 zn1 zn2 hb hG; have HG := n0_; have HB := n1_; clear n0_ n1_; have zg2 : w5.cell? ⟨gg, 2, none⟩ = some (.slice Av arcs.length cv) := (blk_cell HG.out.blk 2).trans rfl))
      have h := HLE.out
      rw [if_neg HCQ.out] at h
      simp only [Option.some.injEq, Prod.mk.injEq] at h
      obtain ⟨rfl, rfl⟩ := h
      go_ret2
      exact ⟨_, rfl, Kd.R_nil _ _ _ _ _, HB.out⟩
  · rw [if_neg c] at h
    simp only [Option.some.injEq, Prod.mk.injEq] at h
    obtain ⟨rfl, rfl⟩ := h
    have c1 : (e == 0) = false := beq_eq_false_iff_ne.2 c
    have c2 : (e != 0) = true := bne_iff_ne.2 c
    clear c
    have HOK := Aside0.mk (trivial : True)
    have HEN := HOK
    have HLE := HOK
    have HGT := HOK
    have HGL := HOK
    have cl := HOK
    have HCQ := HOK
    go_enter Try.func21, Try.ntmps21
    go_wp2_with (first
      | ((with_reducible refine gate_dst (N := 5) rfl ?_); refine box_event ?hg (N := 5) ?hd (cs := #[.int .i64 a0_0, .bool a0_1, .slice A0_2 l0_2.length c0_2]) (t := 24) ?hr ?_; (case hd => rfl); (case hg => rfl); (case hr => first | (go_simp; done) | (go_simp; rfl)); intro gn hg w2 hbox hb; have n0_ := Aside0.mk (below_step HB.out hb); have n1_ := Aside0.mk hbox; clear HB; have HB := n0_; have BKn := n1_; clear n0_ n1_; clear hb hbox hg; have zn0 : w2.cell? ⟨gn, 0, none⟩ = some (.int .i64 a0_0) := (blk_cell BKn.out 0).trans rfl; have zn1 : w2.cell? ⟨gn, 1, none⟩ = some (.bool a0_1) := (blk_cell BKn.out 1).trans rfl; have zn2 : w2.cell? ⟨gn, 2, none⟩ = some (.slice A0_2 l0_2.length c0_2) := (blk_cell BKn.out 2).trans rfl)
      | (go_at_call 38; (with_reducible refine (expand_Asked.calls k a0_0 a0_1 A0_2 c0_2 l0_2 a1 a2 a3 e _ ?side15 HC0.out HE.out).mono ?_); (case side15 => exact (Kd.C_below HR0.out HB.out)); rintro e4 w4 ⟨rfl, hb⟩; have n0_ := Aside0.mk (below_step HB.out hb); have n1_ := Aside0.mk (blk_below BKn.out hb); clear HB BKn zn0 zn1 zn2 hb; have HB := n0_; have BKn := n1_; clear n0_ n1_; have zn0 : w4.cell? ⟨gn, 0, none⟩ = some (.int .i64 a0_0) := (blk_cell BKn.out 0).trans rfl; have zn1 : w4.cell? ⟨gn, 1, none⟩ = some (.bool a0_1) := (blk_cell BKn.out 1).trans rfl; have zn2 : w4.cell? ⟨gn, 2, none⟩ = some (.slice A0_2 l0_2.length c0_2) := (blk_cell BKn.out 2).trans rfl)
      | (go_at_call 39; refine (expand_Of.calls a0_0 a3 a1 a2 a0_1 A0_2 c0_2 l0_2 _ (Kd.C_below HR0.out HB.out) HC0.out HOK.out HEN.out.1 HEN.out.2.1 HEN.out.2.2.1 HEN.out.2.2.2).mono ?_; rintro e5 w5 ⟨gg, v, m1, m2, m3, m4, rfl, hG, hb⟩; obtain ⟨Av, cv, ev⟩ := Kd.R_slice hG.row; generalize gridArcs a0_0 a3 a0_1 a1 a2 l0_2 = arcs at hG ev HLE HGT HGL HCQ cl; generalize (atLoop a0_0 a3 a0_1 a1 a2 l0_2 (a3.toNat + 1)).2.1 = l1 at hG HLE HGT; subst ev; have n0_ := Aside0.mk (hG.lower (below_size HB.out)); have n1_ := Aside0.mk (below_step HB.out hb); clear HB BKn zn0 zn1 zn2 hb hG; have HG := n0_; have HB := n1_; clear n0_ n1_; have zg2 : w5.cell? ⟨gg, 2, none⟩ = some (.slice Av arcs.length cv) := (blk_cell HG.out.blk 2).trans rfl))
    go_ret2
    exact ⟨_, rfl, Kd.R_nil _ _ _ _ _, HB.out⟩
end Go.Proofs.Ytfhkkbpkajfdlaa.Q
end
