/- A part of the proof: words, contracts, plain lemmas. Conditions: none. -/
import Derived.Test.YtloebciamfbjfaaZPileOrders4
section
namespace Go.Proofs.Ytloebciamfbjfaa.Q
open Go.RowKit Go.Proofs.Ytloebciamfbjfaa.P Go.Proofs.YtloebciamfbjfaaW.PrintWords Go.Proofs.YtloebciamfbjfaaW.PrintLast Go.Proofs.YtloebciamfbjfaaW.PrintMore
set_option linter.unusedVariables false
set_option linter.unusedSimpArgs false
def fA (l : List S34) : Nat → Int × Int := fun j => pr (l.getD j z34)
theorem fA_get {l : List S34} {j : Nat} (h : j < l.length) : fA l j = pr l[j] := by unfold fA; rw [List.getD_eq_getElem?_getD, List.getElem?_eq_getElem h]; rfl
theorem heapUp_congr {n i : Nat} {f f' : Nat → Int × Int} (hi : i < n) (he : ∀ j, j < n → f j = f' j) (h : HeapUp n f i) : HeapUp n f' i := by
  refine ⟨fun j h1 h2 h3 => ?_, fun h1 j h2 h3 h4 => ?_⟩
  · rw [← he j h2, ← he _ (by omega)]; exact h.1 j h1 h2 h3
  · rw [← he j h3, ← he _ (by omega)]; exact h.2 h1 j h2 h3 h4
theorem heap_snoc {l : List S34} (h : Heaped l.length (fA l)) (x : S34) : HeapUp (l ++ [x]).length (fA (l ++ [x])) l.length := by
  have e : (l ++ [x]).length = l.length + 1 := by simp
  rw [e]
  refine heapUp_congr (by omega) (fun j hj => ?_) (heapUp_push h (pr x))
  by_cases c : j = l.length
  · rw [if_pos c, fA_get (by omega)]; subst c; simp
  · rw [if_neg c, fA_get (by omega), fA_get (by omega), List.getElem_append_left (by omega)]
def swL (l : List S34) (i k : Nat) : List S34 := (l.set i (l.getD k z34)).set k (l.getD i z34)
theorem swL_length (l : List S34) (i k : Nat) : (swL l i k).length = l.length := by unfold swL; rw [List.length_set, List.length_set]
theorem swL_fA (l : List S34) {i k : Nat} (hi : i < l.length) (hk : k < l.length) : ∀ j, j < l.length → sw (fA l) i k j = fA (swL l i k) j := by
  intro j hj
  have e : (swL l i k).getD j z34 = if j = k then l.getD i z34 else if j = i then l.getD k z34 else l.getD j z34 := by
    unfold swL
    rw [List.getD_eq_getElem?_getD, List.getElem?_set, List.length_set, List.getElem?_set]
    by_cases c1 : k = j
    · subst c1
      rw [if_pos rfl, if_pos hk, if_pos rfl]
      rfl
    · rw [if_neg c1, if_neg (show ¬ j = k from fun h => c1 h.symm)]
      by_cases c2 : i = j
      · subst c2
        rw [if_pos rfl, if_pos hi, if_pos rfl]
        rfl
      · rw [if_neg c2, if_neg (show ¬ j = i from fun h => c2 h.symm), List.getD_eq_getElem?_getD]
  show (if j = k then pr (l.getD i z34) else if j = i then pr (l.getD k z34) else pr (l.getD j z34)) = pr ((swL l i k).getD j z34)
  rw [e]
  by_cases c1 : j = k
  · rw [if_pos c1, if_pos c1]
  · rw [if_neg c1, if_neg c1]
    by_cases c2 : j = i
    · rw [if_pos c2, if_pos c2]
    · rw [if_neg c2, if_neg c2]
theorem swL_perm (l : List S34) {i k : Nat} (hi : i < l.length) (hk : k < l.length) : (swL l i k).Perm l := by
  unfold swL
  rw [List.getD_eq_getElem?_getD, List.getElem?_eq_getElem hk, List.getD_eq_getElem?_getD, List.getElem?_eq_getElem hi]
  exact List.set_set_perm hi hk
theorem PileC.put {w w0 : World} {ok : Nat → Prop} {g : Nat} {most : Int} {g0 n cap : Nat} {l : List S34} (h : PileC w w0.heap.size ok g most (.slice (some ⟨g0, 0, none⟩) n cap) l) (hB : Below w0.heap.size w0 w) (j : Nat) (hj : j < l.length) (x : S34) :
    PileC ((w.setCell ⟨g0, j * 2, none⟩ (.int .i64 x.f0)).setCell ⟨g0, j * 2 + 1, none⟩ (.int .i64 x.f1)) w0.heap.size ok g most (.slice (some ⟨g0, 0, none⟩) n cap) (l.set j x) ∧ Below w0.heap.size w0 ((w.setCell ⟨g0, j * 2, none⟩ (.int .i64 x.f0)).setCell ⟨g0, j * 2 + 1, none⟩ (.int .i64 x.f1)) ∧ Kept w ((w.setCell ⟨g0, j * 2, none⟩ (.int .i64 x.f0)).setCell ⟨g0, j * 2 + 1, none⟩ (.int .i64 x.f1)) (fun k => k = g ∨ ok k) := by
  have hg0 := h.row.1 g0 (by simp [Value.ownBlock])
  have hb0 := Kd.R_base h.row g0 (by simp [Value.ownBlock])
  exact ⟨⟨blk_far (p := ⟨g0, j * 2 + 1, none⟩) (blk_far (p := ⟨g0, j * 2, none⟩) h.blk hg0.2.symm _) hg0.2.symm _, (pair_put h.row j hj x).1, h.ge⟩, below_set (below_set hB hb0) hb0, Kept.setCell (p := ⟨g0, j * 2 + 1, none⟩) (Kept.setCell (p := ⟨g0, j * 2, none⟩) (Kept.refl w _) (Or.inl (Or.inr hg0.1)) _) (Or.inl (Or.inr hg0.1)) _⟩
def Pile_Push.T1 : Bool × List (List Nat × List Nat) := (true, [([], []), ([0], [0]), ([1], [1]), ([2], [2]), ([3], [3]), ([], []), ([5], [5]), ([6], [6]), ([7], [7]), ([4, 8], [4, 8])])
def Pile_Push.B1 : List Nat := [0, 1, 3, 7, 15, 0, 32, 96, 224, 511]
theorem Pile_Push.tab1 : rtab .any (opsOf Try.f16 1) = Pile_Push.T1 := by kernel_rfl
theorem Pile_Push.bits1 : waitsOk Pile_Push.T1.2 Pile_Push.B1 = true := by kernel_rfl
def Pile_Push.T3 : Bool × List (List Nat × List Nat) := (true, [([], []), ([], []), ([1], [1]), ([2], [2]), ([3], [3]), ([], []), ([5], [5]), ([4, 6], [4, 6]), ([0, 0, 1, 2, 3, 4, 5, 6, 7], [0]), ([8, 0, 1, 2, 3, 4, 5, 6, 7], [8]), ([9, 7, 7, 0, 1, 2, 3, 4, 5, 6, 7], [7, 9])])
def Pile_Push.B3 : List Nat := [0, 0, 2, 6, 14, 0, 32, 126, 255, 511, 1023]
theorem Pile_Push.tab3 : rtab .any (opsOf Try.f16 3) = Pile_Push.T3 := by kernel_rfl
theorem Pile_Push.bits3 : waitsOk Pile_Push.T3.2 Pile_Push.B3 = true := by kernel_rfl
def Pile_Push.T7 : Bool × List (List Nat × List Nat) := (true, [([], []), ([0], [0]), ([1], [1]), ([2], [2]), ([], []), ([4], [4]), ([5], [5]), ([6], [6]), ([], []), ([7, 8], [7, 8]), ([9], [9]), ([], []), ([11], [11]), ([12], [12]), ([13], [13]), ([], []), ([14, 15], [14, 15]), ([16], [16]), ([3, 10, 17], [3, 10, 17]), ([18], [18])])
def Pile_Push.B7 : List Nat := [0, 1, 3, 7, 0, 16, 48, 112, 0, 496, 1008, 0, 2048, 6144, 14336, 0, 63488, 129024, 262143, 524287]
theorem Pile_Push.tab7 : rtab .any (opsOf Try.f16 7) = Pile_Push.T7 := by kernel_rfl
theorem Pile_Push.bits7 : waitsOk Pile_Push.T7.2 Pile_Push.B7 = true := by kernel_rfl
def Pile_Push.T8 : Bool × List (List Nat × List Nat) := (true, [([], []), ([0], [0]), ([1], [1]), ([2], [2]), ([], []), ([], []), ([5], [5]), ([6], [6]), ([7], [7]), ([], []), ([], []), ([10], [10]), ([11], [11]), ([12], [12]), ([], []), ([13, 14], [13, 14]), ([15], [15]), ([], []), ([17], [17]), ([18], [18]), ([19], [19]), ([], []), ([20, 21], [20, 21]), ([22], [22]), ([3, 4, 0, 1, 2, 3, 4, 8, 10, 11, 12, 13, 14, 15, 16, 20, 23], [3, 4]), ([24, 16, 0, 1, 2, 3, 4, 8, 10, 11, 12, 13, 14, 15, 16, 20, 23], [16, 24]), ([8, 9, 0, 1, 2, 3, 4, 5, 6, 7, 8, 9, 10, 11, 12, 13, 14, 15, 16, 17, 18, 19, 20, 21, 22, 23, 24, 25], [8, 9]), ([26, 23, 25, 0, 1, 2, 3, 4, 5, 6, 7, 8, 9, 10, 11, 12, 13, 14, 15, 16, 17, 18, 19, 20, 21, 22, 23, 24, 25], [23, 26])])
def Pile_Push.B8 : List Nat := [0, 1, 3, 7, 0, 0, 32, 96, 224, 0, 0, 1024, 3072, 7168, 0, 31744, 64512, 0, 131072, 393216, 917504, 0, 4063232, 8257536, 16776703, 33553919, 67108863, 134217727]
theorem Pile_Push.tab8 : rtab .any (opsOf Try.f16 8) = Pile_Push.T8 := by kernel_rfl
theorem Pile_Push.bits8 : waitsOk Pile_Push.T8.2 Pile_Push.B8 = true := by kernel_rfl
set_option maxHeartbeats 8000000 in
set_option maxRecDepth 100000 in
theorem Pile_Push.calls (ok : Nat → Prop) (g : Nat) (most : Int) (v : Value) (l : List S34) (x0 x1 : Int) (w0 w : World) (hB : Below w0.heap.size w0 w) (hP : PileC w w0.heap.size ok g most v l) (hfresh : ∀ k, w.heap.size ≤ k → ok k) (hl : l.length ≤ 65536) (hH : Heaped l.length (fA l)) :
    Calls Try.prog 16 #[.pointer (some ⟨g, 0, none⟩), .agg #[.int .i64 x0, .int .i64 x1]] w fun e w' => Below w0.heap.size w0 w' ∧ Kept w w' (fun k => k = g ∨ ok k) ∧ if (l.length : Int) = most then e = .returned (.int .i64 20) ∧ PileC w' w0.heap.size ok g most v l else e = .returned (.int .i64 0) ∧ ∃ v' l', PileC w' w0.heap.size ok g most v' l' ∧ Heaped l'.length (fA l') ∧ l'.Perm ((⟨x0, x1⟩ : S34) :: l) := by
  have hu62 := Try.underlying62
  have hu34 := Try.underlying34
  have HB := Aside0.mk hB
  have HP := Aside0.mk hP
  have HF := Aside0.mk hfresh
  have HL := Aside0.mk hl
  have HH := Aside0.mk hH
  have HK := Aside0.mk (Kept.refl w (fun k => k = g ∨ ok k))
  have GG := Aside0.mk (show g < w.heap.size from blk_lt hP.blk)
  obtain ⟨A, c, ev⟩ := Kd.R_slice hP.row
  subst ev
  clear hB hP hfresh hl hH
  obtain ⟨bf, hf⟩ : ∃ b, decide ((l.length : Int) = most) = b := ⟨_, rfl⟩
  have hf2 : ((l.length : Int) == most) = bf := by rw [← hf, Bool.beq_eq_decide_eq]
  cases bf
  · simp only [if_neg (of_decide_eq_false hf)]
    go_enter Try.func16, Try.ntmps16
    go_wp2_with ((with_reducible refine gate_dst (N := 3) rfl ?_); refine box_event ?hg (N := 3) ?hd (cs := #[.int .i64 x0, .int .i64 x1]) (t := 34) ?hr ?_; (case hd => rfl); (case hg => rfl); (case hr => first | (go_simp; done) | (go_simp; rfl)); intro gx hg w2 hbox hb; have n0_ := Aside0.mk (below_step HB.out hb); have n1_ := Aside0.mk ((HP.out.elder gx (Nat.le_of_eq hg.symm)).below hb); have n2_ := Aside0.mk (HK.out.below hb); have NGx := Aside0.mk (show g ≠ gx by rw [hg]; exact Nat.ne_of_lt (blk_lt HP.out.blk)); have GX := Aside0.mk (show w.heap.size ≤ gx by rw [hg]; exact HK.out.1); have BK := Aside0.mk hbox; clear HB HP HK; have HB := n0_; have HP := n1_; have HK := n2_; clear n0_ n1_ n2_ hb hbox hg)
    have n0_ := Aside0.mk (below_drew1 HB.out)
    have n1_ := Aside0.mk HP.out.drew
    have n2_ := Aside0.mk (Kept.drew HK.out)
    have n3_ := Aside0.mk (blk_drew BK.out)
    clear HB HP HK BK
    have HB := n0_
    have HP := n1_
    have HK := n2_
    have BK := n3_
    clear n0_ n1_ n2_ n3_
    refine start_ (n := 10) (S := fun w' => w'.cell? ⟨g, 0, none⟩ = some (.int .i64 most) ∧ w'.cell? ⟨g, 1, none⟩ = some (.slice A l.length c)) (ds := []) #[Ff,Ff,Ff,Ff,Ff,Ff,Ff,Ff,Ff,Ff] (by kernel_rfl) rfl rfl ⟨(blk_cell HP.out.blk 0).trans rfl, (blk_cell HP.out.blk 1).trans rfl⟩ (fun hHeld => ?_)
    generalize w2.drew = w3 at HB HP HK BK hHeld ⊢
    refine with_tabW Pile_Push.tab1 Pile_Push.bits1 (fun HT_ HW_ => ?_)
    refine pv_ 0 7 #[Tt,Ff,Ff,Ff,Ff,Ff,Ff,Ff,Ff,Ff] ?_
    refine pv_ 1 8 #[Tt,Tt,Ff,Ff,Ff,Ff,Ff,Ff,Ff,Ff] ?_
    refine pv_ 2 9 #[Tt,Tt,Tt,Ff,Ff,Ff,Ff,Ff,Ff,Ff] ?_
    refine pv_ 5 12 #[Tt,Tt,Tt,Ff,Ff,Tt,Ff,Ff,Ff,Ff] ?_
    refine pv_ 6 13 #[Tt,Tt,Tt,Ff,Ff,Tt,Tt,Ff,Ff,Ff] ?_
    refine pv_ 7 14 #[Tt,Tt,Tt,Ff,Ff,Tt,Tt,Tt,Ff,Ff] ?_
    refine take_ (i := 3) (N := (some 10)) (v := ?_) (a' := ?_) #[Tt,Tt,Tt,Tt,Ff,Tt,Tt,Tt,Ff,Ff] rfl rfl (take_ofW HT_.out HW_.out (by kernel_rfl)) (fun _ _ _ h => h) (Or.inl ⟨by rfl, ?_⟩) hHeld ?_ ?_
    rotate_left
    · rintro w' ⟨s0, s1⟩
      go_simp
      with_reducible rfl
    rotate_left
    exact ap_
    refine pv_ 4 11 #[Tt,Tt,Tt,Tt,Tt,Tt,Tt,Tt,Ff,Ff] ?_
    refine take_ (i := 8) (N := (some 15)) (v := ?_) (a' := ?_) #[Tt,Tt,Tt,Tt,Tt,Tt,Tt,Tt,Tt,Ff] rfl rfl (take_ofW HT_.out HW_.out (by kernel_rfl)) (fun _ _ _ h => h) (Or.inl ⟨by rfl, ?_⟩) hHeld ?_ ?_
    rotate_left
    · rintro w' ⟨s0, s1⟩
      go_simp
      with_reducible rfl
    rotate_left
    exact ap_
    refine pv_ 9 16 #[Tt,Tt,Tt,Tt,Tt,Tt,Tt,Tt,Tt,Tt] ?_
    refine done_ (done_of HT_.out (by kernel_rfl)) ?_
    go_wp2
    have n0_ := Aside0.mk (below_drew1 HB.out)
    have n1_ := Aside0.mk HP.out.drew
    have n2_ := Aside0.mk (Kept.drew HK.out)
    have n3_ := Aside0.mk (blk_drew BK.out)
    clear HB HP HK BK hHeld
    have HB := n0_
    have HP := n1_
    have HK := n2_
    have BK := n3_
    clear n0_ n1_ n2_ n3_
    refine start_ (n := 11) (S := fun w' => w'.cell? ⟨g, 1, none⟩ = some (.slice A l.length c) ∧ w'.cell? ⟨gx, 0, none⟩ = some (.int .i64 x0) ∧ w'.cell? ⟨gx, 1, none⟩ = some (.int .i64 x1)) (ds := [10]) #[Ff,Ff,Ff,Ff,Ff,Ff,Ff,Ff,Ff,Ff,Ff] (by kernel_rfl) rfl rfl ⟨(blk_cell HP.out.blk 1).trans rfl, (blk_cell BK.out 0).trans rfl, (blk_cell BK.out 1).trans rfl⟩ (fun hHeld => ?_)
    generalize w3.drew = w4 at HB HP HK BK hHeld ⊢
    clear HT_ HW_
    refine with_tabW Pile_Push.tab3 Pile_Push.bits3 (fun HT_ HW_ => ?_)
    refine pv_ 0 17 #[Tt,Ff,Ff,Ff,Ff,Ff,Ff,Ff,Ff,Ff,Ff] ?_
    refine pv_ 1 18 #[Tt,Tt,Ff,Ff,Ff,Ff,Ff,Ff,Ff,Ff,Ff] ?_
    refine pv_ 2 19 #[Tt,Tt,Tt,Ff,Ff,Ff,Ff,Ff,Ff,Ff,Ff] ?_
    refine pv_ 3 20 #[Tt,Tt,Tt,Tt,Ff,Ff,Ff,Ff,Ff,Ff,Ff] ?_
    refine take_ (i := 4) (N := (some 21)) (v := ?_) (a' := ?_) #[Tt,Tt,Tt,Tt,Tt,Ff,Ff,Ff,Ff,Ff,Ff] rfl rfl (take_ofW HT_.out HW_.out (by kernel_rfl)) (fun _ _ _ h => h) (Or.inl ⟨by rfl, ?_⟩) hHeld ?_ ?_
    rotate_left
    · rintro w' ⟨s0, s1, s2⟩
      go_simp
      with_reducible rfl
    rotate_left
    exact ap_
    refine take_ (i := 5) (N := (some 22)) (v := ?_) (a' := ?_) #[Tt,Tt,Tt,Tt,Tt,Tt,Ff,Ff,Ff,Ff,Ff] rfl rfl (take_ofW HT_.out HW_.out (by kernel_rfl)) (fun _ _ _ h => h) (Or.inl ⟨by rfl, ?_⟩) hHeld ?_ ?_
    rotate_left
    · rintro w' ⟨s0, s1, s2⟩
      go_simp
      with_reducible rfl
    rotate_left
    exact ap_
    refine one_ (i := 6) (N := (some 23)) #[Tt,Tt,Tt,Tt,Tt,Tt,Tt,Ff,Ff,Ff,Ff] rfl rfl (one_of HT_.out (by kernel_rfl)) (by decide) (fun K hK => ?_)
    refine event_step (v := .slice (some ⟨w4.heap.size, 0, none⟩) 1 1) (w1 := w4.alloc (.cells #[.int .i64 x0, .int .i64 x1] 34)) (by rfl) (by first | (go_simp; done) | (go_simp; rfl)) ?_
    refine hK.out _ _ ⟨(blk_cell (blk_below HP.out.blk (below_alloc (Below.refl _ _) _)) 1).trans rfl, (blk_cell (blk_below BK.out (below_alloc (Below.refl _ _) _)) 0).trans rfl, (blk_cell (blk_below BK.out (below_alloc (Below.refl _ _) _)) 1).trans rfl⟩ (fun hHeld => ?_)
    clear hK K
    refine norm_ (a' := ?_) ?_ ?_
    rotate_left
    · show Act.put _ (some 23) _ = _
      simp only [Act.put, List.setIfInBounds_toArray, List.set_cons_zero, List.set_cons_succ, i64_w, i32_w]
      rfl
    refine one_ (i := 7) (N := (some 24)) #[Tt,Tt,Tt,Tt,Tt,Tt,Tt,Tt,Ff,Ff,Ff] rfl rfl (one_of HT_.out (by kernel_rfl)) (by decide) (fun K hK => ?_)
    refine Kd.R_append_step k34 (w0 := w0) w0.heap.size (by rfl) (.tmp 21) (.tmp 23) 38 34 (.agg #[(.int .i64 0), (.int .i64 0)]) 16 rfl Try.underlying38 info34 rfl (by decide) (by omega) (.slice A l.length c) l (⟨x0, x1⟩ : S34) [(.int .i64 x0), (.int .i64 x1)] (fun k_ => (ok k_ ∧ k_ ≠ gx) ∧ k_ ≠ g) (fun _ => False) rfl rfl (k34_mkM _ _ _ (⟨x0, x1⟩ : S34)) (fun _ hk => hk.elim) (HP.out.fresh (fun k hk => ⟨HF.out k (Nat.le_trans HK.out.1 hk), fun e_ => by have := blk_lt BK.out; omega⟩)) HP.out.row HB.out (below_size HB.out) (by have := HL.out; omega) ?_
    intro v1 w5 ho hb hg hat
    have hadd := HP.out.added ho hg
    have hgx := blk_grown BK.out hg (fun e_ => (HP.out.row.1 gx e_.symm).1.2 rfl)
    obtain ⟨A1, c1, e1⟩ := Kd.R_slice ho
    rw [show (l ++ [(⟨x0, x1⟩ : S34)]).length = l.length + 1 from by simp] at e1
    subst e1
    refine hK.out _ _ ⟨(blk_cell hadd.2.1 1).trans rfl, (blk_cell hgx 0).trans rfl, (blk_cell hgx 1).trans rfl⟩ (fun hHeld => ?_)
    clear hK K
    refine norm_ (a' := ?_) ?_ ?_
    rotate_left
    · show Act.put _ (some 24) _ = _
      simp only [Act.put, List.setIfInBounds_toArray, List.set_cons_zero, List.set_cons_succ, i64_w, i32_w]
      rfl
    have z := (blk_cell hadd.2.1 1).trans (rfl : _ = some (Value.slice A l.length c))
    have y := blk_frozen hadd.2.1 1
    refine pv_ 8 25 #[Tt,Tt,Tt,Tt,Tt,Tt,Tt,Tt,Tt,Ff,Ff] ?_
    refine pv_ 9 26 #[Tt,Tt,Tt,Tt,Tt,Tt,Tt,Tt,Tt,Tt,Ff] ?_
    refine last_ (i := 10) (N := none) #[Tt,Tt,Tt,Tt,Tt,Tt,Tt,Tt,Tt,Tt,Tt] rfl rfl (one_of HT_.out (by kernel_rfl)) (by decide) (fun K hK => ?_)
    refine skip_ (w1 := ?_) (by rfl) rfl ?_ ?_
    rotate_left
    · go_simp
      rfl
    refine hK.out _ _ ?_
    clear hK K
    have n0_ := Aside0.mk hadd.1
    have n1_ := Aside0.mk (below_set hb HP.out.ge (j := 1) (v := (.slice A1 (l.length + 1) c1)))
    have n2_ := Aside0.mk (Kept.then_ HK.out hadd.2.2 (fun k hk => Or.inl (hk.elim Or.inl (fun h_ => Or.inr h_.1))))
    have n3_ := Aside0.mk (blk_far (p := ⟨g, 1, none⟩) hgx NGx.out.symm (.slice A1 (l.length + 1) c1))
    clear HB HP HK BK z y hadd hgx ho hb hg hat hHeld
    have HB := n1_
    have HP := n0_
    have HK := n2_
    have BK := n3_
    clear n0_ n1_ n2_ n3_
    refine done_ (done_of HT_.out (by kernel_rfl)) ?_
    generalize w5.setCell ⟨g, 1, none⟩ (.slice A1 (l.length + 1) c1) = w6 at HB HP HK BK ⊢
    have z : w6.cell? ⟨g, 1, none⟩ = some (.slice A1 (l.length + 1) c1) := (blk_cell HP.out.blk 1).trans rfl
    go_wp2
    clear z
    have hwl : wrap64 (((l.length + 1 : Nat) : Int) - 1) = (l.length : Int) := by have := HL.out; unfold wrap64; omega
    clear HT_ HW_
    go_loopg [5] l.length (fun kq v5 w' => ∃ (i : Nat) (v : Value) (xs : List S34), v5 = .int .i64 (i : Int) ∧ Aside0 (i ≤ kq) ∧ Aside0 (i < xs.length ∧ xs.length = l.length + 1 ∧ HeapUp xs.length (fA xs) i ∧ xs.Perm ((⟨x0, x1⟩ : S34) :: l)) ∧ Aside0 (Below w0.heap.size w0 w') ∧ Aside0 (PileC w' w0.heap.size (fun k => ok k ∧ k ≠ gx) g most v xs) ∧ Aside0 (Kept w w' (fun k => k = g ∨ ok k)))
    case atStart => exact ⟨l.length, _, l ++ [⟨x0, x1⟩], by first | rfl | exact congrArg (Value.int .i64) hwl | exact congrArg (Value.int .i64) (by have := HL.out; unfold wrap64; omega), ⟨Nat.le_refl _⟩, ⟨by simp, by simp, heap_snoc HH.out _, (List.perm_append_comm (l₁ := l) (l₂ := [(⟨x0, x1⟩ : S34)]))⟩, HB, HP, HK⟩
    case round =>
      clear HB HP HK BK hwl
      obtain ⟨i, v, xs, rfl, HI, HX, HB, HP, HK⟩ := hrel
      by_cases ci : i = 0
      · subst ci
        have c1 : decide ((0 : Int) < ((0 : Nat) : Int)) = false := by decide
        go_wp2
        go_ret
        exact ⟨HB.out, HK.out, rfl, v, xs, HP.out.mono (fun k hk => hk.1), heapUp_done HX.out.2.2.1 (.inl rfl), HX.out.2.2.2⟩
      · cases gk with
        | zero => exact absurd HI.out (by omega)
        | succ gk =>
          obtain ⟨p, hp⟩ : ∃ p, p = (i - 1) / 2 := ⟨_, rfl⟩
          have hpi : p < i := by omega
          have c1 : decide ((0 : Int) < (i : Int)) = true := decide_eq_true (by omega)
          have c2 : decide (0 < i) = true := decide_eq_true (by omega)
          have hil : (i : Int) ≤ 65536 := by have := HX.out.1; have := HX.out.2.1; have := HL.out; omega
          have w1_ : wrap64 ((i : Int) - 1) = (i : Int) - 1 := wrapId (by omega) (by omega)
          have hpp : ((i : Int) - 1) / 2 = (p : Int) := by omega
          have HPP := Aside0.mk hp
          have HCI := Aside0.mk ci
          have HPI := Aside0.mk hpi
          clear hp ci hpi
          go_wp2
          clear w1_ hpp
          obtain ⟨g0, c0, ev, _⟩ := Kd.R_form HP.out.row (by have := HX.out.1; omega)
          subst ev
          obtain ⟨n, hn⟩ : ∃ n, n = xs.length := ⟨_, rfl⟩
          rw [← hn] at HP
          have HN := Aside0.mk hn
          obtain ⟨a0, a1, hai⟩ : ∃ a b, xs[i]'HX.out.1 = (⟨a, b⟩ : S34) := ⟨_, _, rfl⟩
          obtain ⟨b0, b1, hbi⟩ : ∃ a b, xs[p]'(Nat.lt_trans HPI.out HX.out.1) = (⟨a, b⟩ : S34) := ⟨_, _, rfl⟩
          have HAI := Aside0.mk hai
          have HBI := Aside0.mk hbi
          have pi0 := eq_true (show (0 : Int) ≤ (i : Int) by omega)
          have pi1 := eq_true (show (i : Int) < (n : Int) by have := HX.out.1; omega)
          have pp0 := eq_true (show (0 : Int) ≤ (p : Int) by omega)
          have pp1 := eq_true (show (p : Int) < (n : Int) by have := HX.out.1; have := HPI.out; omega)
          clear hn hai hbi hil c1 c2
          have n0_ := Aside0.mk (below_drew1 HB.out)
          have n1_ := Aside0.mk HP.out.drew
          have n2_ := Aside0.mk (Kept.drew HK.out)
          clear HB HP HK
          have HB := n0_
          have HP := n1_
          have HK := n2_
          clear n0_ n1_ n2_
          have hpi := pair_at HP.out.row i HX.out.1
          have hpp := pair_at HP.out.row p (Nat.lt_trans HPI.out HX.out.1)
          rw [HAI.out] at hpi
          rw [HBI.out] at hpp
          refine start_ (n := 20) (S := fun w' => w'.cell? ⟨g, 1, none⟩ = some (.slice (some ⟨g0, 0, none⟩) n c0) ∧ w'.cell? ⟨g, 2, none⟩ = some (.func (.func 29) #[] #[]) ∧ w'.cell? ⟨g0, i * 2, none⟩ = some (.int .i64 a0) ∧ w'.cell? ⟨g0, i * 2 + 1, none⟩ = some (.int .i64 a1) ∧ w'.cell? ⟨g0, p * 2, none⟩ = some (.int .i64 b0) ∧ w'.cell? ⟨g0, p * 2 + 1, none⟩ = some (.int .i64 b1)) (ds := []) #[Ff,Ff,Ff,Ff,Ff,Ff,Ff,Ff,Ff,Ff,Ff,Ff,Ff,Ff,Ff,Ff,Ff,Ff,Ff,Ff] (by kernel_rfl) rfl rfl ⟨(blk_cell HP.out.blk 1).trans rfl, (blk_cell HP.out.blk 2).trans rfl, hpi.1, hpi.2.1, hpp.1, hpp.2.1⟩ (fun hHeld => ?_)
          clear hpi hpp
          generalize wr.drew = w7 at HB HP HK hHeld ⊢
          refine with_tabW Pile_Push.tab7 Pile_Push.bits7 (fun HT_ HW_ => ?_)
          refine pv_ 0 38 #[Tt,Ff,Ff,Ff,Ff,Ff,Ff,Ff,Ff,Ff,Ff,Ff,Ff,Ff,Ff,Ff,Ff,Ff,Ff,Ff] ?_
          refine pv_ 1 39 #[Tt,Tt,Ff,Ff,Ff,Ff,Ff,Ff,Ff,Ff,Ff,Ff,Ff,Ff,Ff,Ff,Ff,Ff,Ff,Ff] ?_
          refine pv_ 2 40 #[Tt,Tt,Tt,Ff,Ff,Ff,Ff,Ff,Ff,Ff,Ff,Ff,Ff,Ff,Ff,Ff,Ff,Ff,Ff,Ff] ?_
          refine pv_ 4 42 #[Tt,Tt,Tt,Ff,Tt,Ff,Ff,Ff,Ff,Ff,Ff,Ff,Ff,Ff,Ff,Ff,Ff,Ff,Ff,Ff] ?_
          refine pv_ 5 43 #[Tt,Tt,Tt,Ff,Tt,Tt,Ff,Ff,Ff,Ff,Ff,Ff,Ff,Ff,Ff,Ff,Ff,Ff,Ff,Ff] ?_
          refine pv_ 6 44 #[Tt,Tt,Tt,Ff,Tt,Tt,Tt,Ff,Ff,Ff,Ff,Ff,Ff,Ff,Ff,Ff,Ff,Ff,Ff,Ff] ?_
          refine pv_ 8 46 #[Tt,Tt,Tt,Ff,Tt,Tt,Tt,Ff,Tt,Ff,Ff,Ff,Ff,Ff,Ff,Ff,Ff,Ff,Ff,Ff] ?_
          refine pv_ 11 49 #[Tt,Tt,Tt,Ff,Tt,Tt,Tt,Ff,Tt,Ff,Ff,Tt,Ff,Ff,Ff,Ff,Ff,Ff,Ff,Ff] ?_
          refine pv_ 12 50 #[Tt,Tt,Tt,Ff,Tt,Tt,Tt,Ff,Tt,Ff,Ff,Tt,Tt,Ff,Ff,Ff,Ff,Ff,Ff,Ff] ?_
          refine pv_ 13 51 #[Tt,Tt,Tt,Ff,Tt,Tt,Tt,Ff,Tt,Ff,Ff,Tt,Tt,Tt,Ff,Ff,Ff,Ff,Ff,Ff] ?_
          refine pv_ 15 53 #[Tt,Tt,Tt,Ff,Tt,Tt,Tt,Ff,Tt,Ff,Ff,Tt,Tt,Tt,Ff,Tt,Ff,Ff,Ff,Ff] ?_
          refine take_ (i := 3) (N := (some 41)) (v := ?_) (a' := ?_) #[Tt,Tt,Tt,Tt,Tt,Tt,Tt,Ff,Tt,Ff,Ff,Tt,Tt,Tt,Ff,Tt,Ff,Ff,Ff,Ff] rfl rfl (take_ofW HT_.out HW_.out (by kernel_rfl)) (fun _ _ _ h => h) (Or.inl ⟨by rfl, ?_⟩) hHeld ?_ ?_
          rotate_left
          · rintro w' ⟨s0, s1, s2, s3, s4, s5⟩
            go_simp
            with_reducible rfl
          rotate_left
          exact ap_
          refine take_ (i := 7) (N := (some 45)) (v := ?_) (a' := ?_) #[Tt,Tt,Tt,Tt,Tt,Tt,Tt,Tt,Tt,Ff,Ff,Tt,Tt,Tt,Ff,Tt,Ff,Ff,Ff,Ff] rfl rfl (take_ofW HT_.out HW_.out (by kernel_rfl)) (fun _ _ _ h => h) (Or.inl ⟨by rfl, ?_⟩) hHeld ?_ ?_
          rotate_left
          · rintro w' ⟨s0, s1, s2, s3, s4, s5⟩
            go_simp
            with_reducible rfl
          rotate_left
          exact ap_
          refine pv_ 9 47 #[Tt,Tt,Tt,Tt,Tt,Tt,Tt,Tt,Tt,Tt,Ff,Tt,Tt,Tt,Ff,Tt,Ff,Ff,Ff,Ff] ?_
          refine take_ (i := 10) (N := (some 48)) (v := ?_) (a' := ?_) #[Tt,Tt,Tt,Tt,Tt,Tt,Tt,Tt,Tt,Tt,Tt,Tt,Tt,Tt,Ff,Tt,Ff,Ff,Ff,Ff] rfl rfl (take_ofW HT_.out HW_.out (by kernel_rfl)) (fun _ _ _ h => h) (Or.inl ⟨by rfl, ?_⟩) hHeld ?_ ?_
          rotate_left
          · rintro w' ⟨s0, s1, s2, s3, s4, s5⟩
            go_simp
            with_reducible rfl
          rotate_left
          exact ap_
          refine take_ (i := 14) (N := (some 52)) (v := ?_) (a' := ?_) #[Tt,Tt,Tt,Tt,Tt,Tt,Tt,Tt,Tt,Tt,Tt,Tt,Tt,Tt,Tt,Tt,Ff,Ff,Ff,Ff] rfl rfl (take_ofW HT_.out HW_.out (by kernel_rfl)) (fun _ _ _ h => h) (Or.inl ⟨by rfl, ?_⟩) hHeld ?_ ?_
          rotate_left
          · rintro w' ⟨s0, s1, s2, s3, s4, s5⟩
            go_simp
            with_reducible rfl
          rotate_left
          exact ap_
          refine pv_ 16 54 #[Tt,Tt,Tt,Tt,Tt,Tt,Tt,Tt,Tt,Tt,Tt,Tt,Tt,Tt,Tt,Tt,Tt,Ff,Ff,Ff] ?_
          refine take_ (i := 17) (N := (some 55)) (v := ?_) (a' := ?_) #[Tt,Tt,Tt,Tt,Tt,Tt,Tt,Tt,Tt,Tt,Tt,Tt,Tt,Tt,Tt,Tt,Tt,Tt,Ff,Ff] rfl rfl (take_ofW HT_.out HW_.out (by kernel_rfl)) (fun _ _ _ h => h) (Or.inl ⟨by rfl, ?_⟩) hHeld ?_ ?_
          rotate_left
          · rintro w' ⟨s0, s1, s2, s3, s4, s5⟩
            go_simp
            with_reducible rfl
          rotate_left
          exact ap_
          refine one_ (i := 18) (N := (some 56)) #[Tt,Tt,Tt,Tt,Tt,Tt,Tt,Tt,Tt,Tt,Tt,Tt,Tt,Tt,Tt,Tt,Tt,Tt,Tt,Ff] rfl rfl (one_of HT_.out (by kernel_rfl)) (by decide) (fun K hK => ?_)
          refine goesT_ Try.func29 (by kernel_rfl) rfl #[.agg #[.int .i64 a0, .int .i64 a1], .agg #[.int .i64 b0, .int .i64 b1]] (by rfl) rfl rfl rfl (by (try simp only [List.map_toArray, List.map_cons, List.map_nil]); first | done | rfl) ?_
          refine (pile_compare.calls 8 a0 a1 b0 b1 (cfPair ⟨a0, a1⟩ ⟨b0, b1⟩) _ (pile_compare_val ⟨a0, a1⟩ ⟨b0, b1⟩)).mono ?_
          rintro e w8 ⟨rfl, hb⟩
          refine ⟨_, rfl, ?_⟩
          have HCF := Aside0.mk (cfPair_neg ⟨a0, a1⟩ ⟨b0, b1⟩)
          generalize cfPair ⟨a0, a1⟩ ⟨b0, b1⟩ = r at *
          have n0_ := Aside0.mk (below_step HB.out hb)
          have n1_ := Aside0.mk (HP.out.below hb)
          have n2_ := Aside0.mk (HK.out.below hb)
          clear HB HP HK hb hHeld
          have HB := n0_
          have HP := n1_
          have HK := n2_
          clear n0_ n1_ n2_
          have hpi := pair_at HP.out.row i HX.out.1
          have hpp := pair_at HP.out.row p (Nat.lt_trans HPI.out HX.out.1)
          rw [HAI.out] at hpi
          rw [HBI.out] at hpp
          refine hK.out _ _ ⟨(blk_cell HP.out.blk 1).trans rfl, (blk_cell HP.out.blk 2).trans rfl, hpi.1, hpi.2.1, hpp.1, hpp.2.1⟩ (fun hHeld => ?_)
          clear hK K hpi hpp
          refine norm_ (a' := ?_) ?_ ?_
          rotate_left
          · show Act.put _ (some 56) _ = _
            simp only [Act.put, List.setIfInBounds_toArray, List.set_cons_zero, List.set_cons_succ, i64_w, i32_w]
            rfl
          refine pv_ 19 57 #[Tt,Tt,Tt,Tt,Tt,Tt,Tt,Tt,Tt,Tt,Tt,Tt,Tt,Tt,Tt,Tt,Tt,Tt,Tt,Tt] ?_
          refine done_ (done_of HT_.out (by kernel_rfl)) ?_
          obtain ⟨bc, hbc⟩ : ∃ b, decide (0 ≤ r) = b := ⟨_, rfl⟩
          rw [hbc]
          cases bc
          rotate_left
          · have HCR := Aside0.mk (of_decide_eq_true hbc)
            clear hbc
            go_wp2
            go_ret
            refine ⟨HB.out, HK.out, rfl, _, xs, HP.out.mono (fun k hk => hk.1), heapUp_done HX.out.2.2.1 (.inr ?_), HX.out.2.2.2⟩
            rw [fA_get HX.out.1, ← HPP.out, fA_get (Nat.lt_trans HPI.out HX.out.1), HAI.out, HBI.out, ← HCF.out]
            have := HCR.out
            omega
          · have HCR := Aside0.mk (of_decide_eq_false hbc)
            clear hbc
            go_wp2
            clear HT_ HW_
            have n0_ := Aside0.mk (below_drew1 HB.out)
            have n1_ := Aside0.mk HP.out.drew
            have n2_ := Aside0.mk (Kept.drew HK.out)
            clear HB HP HK hHeld
            have HB := n0_
            have HP := n1_
            have HK := n2_
            clear n0_ n1_ n2_
            have hpi := pair_at HP.out.row i HX.out.1
            have hpp := pair_at HP.out.row p (Nat.lt_trans HPI.out HX.out.1)
            rw [HAI.out] at hpi
            rw [HBI.out] at hpp
            refine start_ (n := 28) (S := fun w' => w'.cell? ⟨g, 1, none⟩ = some (.slice (some ⟨g0, 0, none⟩) n c0) ∧ w'.cell? ⟨g0, i * 2, none⟩ = some (.int .i64 a0) ∧ w'.cell? ⟨g0, i * 2 + 1, none⟩ = some (.int .i64 a1) ∧ w'.cell? ⟨g0, p * 2, none⟩ = some (.int .i64 b0) ∧ w'.cell? ⟨g0, p * 2 + 1, none⟩ = some (.int .i64 b1)) (ds := [25, 27]) #[Ff,Ff,Ff,Ff,Ff,Ff,Ff,Ff,Ff,Ff,Ff,Ff,Ff,Ff,Ff,Ff,Ff,Ff,Ff,Ff,Ff,Ff,Ff,Ff,Ff,Ff,Ff,Ff] (by kernel_rfl) rfl rfl ⟨(blk_cell HP.out.blk 1).trans rfl, hpi.1, hpi.2.1, hpp.1, hpp.2.1⟩ (fun hHeld => ?_)
            generalize w8.drew = w9 at HB HP HK hpi hpp hHeld ⊢
            have hy0 := hpi.2.2.1
            have hy1 := hpi.2.2.2
            have hz0 := hpi.1
            have hz1 := hpi.2.1
            clear hpi hpp
            refine with_tabW Pile_Push.tab8 Pile_Push.bits8 (fun HT_ HW_ => ?_)
            refine pv_ 0 58 #[Tt,Ff,Ff,Ff,Ff,Ff,Ff,Ff,Ff,Ff,Ff,Ff,Ff,Ff,Ff,Ff,Ff,Ff,Ff,Ff,Ff,Ff,Ff,Ff,Ff,Ff,Ff,Ff] ?_
            refine pv_ 1 59 #[Tt,Tt,Ff,Ff,Ff,Ff,Ff,Ff,Ff,Ff,Ff,Ff,Ff,Ff,Ff,Ff,Ff,Ff,Ff,Ff,Ff,Ff,Ff,Ff,Ff,Ff,Ff,Ff] ?_
            refine pv_ 2 60 #[Tt,Tt,Tt,Ff,Ff,Ff,Ff,Ff,Ff,Ff,Ff,Ff,Ff,Ff,Ff,Ff,Ff,Ff,Ff,Ff,Ff,Ff,Ff,Ff,Ff,Ff,Ff,Ff] ?_
            refine pv_ 4 62 #[Tt,Tt,Tt,Ff,Tt,Ff,Ff,Ff,Ff,Ff,Ff,Ff,Ff,Ff,Ff,Ff,Ff,Ff,Ff,Ff,Ff,Ff,Ff,Ff,Ff,Ff,Ff,Ff] ?_
            refine pv_ 5 63 #[Tt,Tt,Tt,Ff,Tt,Tt,Ff,Ff,Ff,Ff,Ff,Ff,Ff,Ff,Ff,Ff,Ff,Ff,Ff,Ff,Ff,Ff,Ff,Ff,Ff,Ff,Ff,Ff] ?_
            refine pv_ 6 64 #[Tt,Tt,Tt,Ff,Tt,Tt,Tt,Ff,Ff,Ff,Ff,Ff,Ff,Ff,Ff,Ff,Ff,Ff,Ff,Ff,Ff,Ff,Ff,Ff,Ff,Ff,Ff,Ff] ?_
            refine pv_ 7 65 #[Tt,Tt,Tt,Ff,Tt,Tt,Tt,Tt,Ff,Ff,Ff,Ff,Ff,Ff,Ff,Ff,Ff,Ff,Ff,Ff,Ff,Ff,Ff,Ff,Ff,Ff,Ff,Ff] ?_
            refine pv_ 9 67 #[Tt,Tt,Tt,Ff,Tt,Tt,Tt,Tt,Ff,Tt,Ff,Ff,Ff,Ff,Ff,Ff,Ff,Ff,Ff,Ff,Ff,Ff,Ff,Ff,Ff,Ff,Ff,Ff] ?_
            refine pv_ 10 68 #[Tt,Tt,Tt,Ff,Tt,Tt,Tt,Tt,Ff,Tt,Tt,Ff,Ff,Ff,Ff,Ff,Ff,Ff,Ff,Ff,Ff,Ff,Ff,Ff,Ff,Ff,Ff,Ff] ?_
            refine pv_ 11 69 #[Tt,Tt,Tt,Ff,Tt,Tt,Tt,Tt,Ff,Tt,Tt,Tt,Ff,Ff,Ff,Ff,Ff,Ff,Ff,Ff,Ff,Ff,Ff,Ff,Ff,Ff,Ff,Ff] ?_
            refine pv_ 12 70 #[Tt,Tt,Tt,Ff,Tt,Tt,Tt,Tt,Ff,Tt,Tt,Tt,Tt,Ff,Ff,Ff,Ff,Ff,Ff,Ff,Ff,Ff,Ff,Ff,Ff,Ff,Ff,Ff] ?_
            refine pv_ 14 72 #[Tt,Tt,Tt,Ff,Tt,Tt,Tt,Tt,Ff,Tt,Tt,Tt,Tt,Ff,Tt,Ff,Ff,Ff,Ff,Ff,Ff,Ff,Ff,Ff,Ff,Ff,Ff,Ff] ?_
            refine pv_ 17 75 #[Tt,Tt,Tt,Ff,Tt,Tt,Tt,Tt,Ff,Tt,Tt,Tt,Tt,Ff,Tt,Ff,Ff,Tt,Ff,Ff,Ff,Ff,Ff,Ff,Ff,Ff,Ff,Ff] ?_
            refine pv_ 18 76 #[Tt,Tt,Tt,Ff,Tt,Tt,Tt,Tt,Ff,Tt,Tt,Tt,Tt,Ff,Tt,Ff,Ff,Tt,Tt,Ff,Ff,Ff,Ff,Ff,Ff,Ff,Ff,Ff] ?_
            refine pv_ 19 77 #[Tt,Tt,Tt,Ff,Tt,Tt,Tt,Tt,Ff,Tt,Tt,Tt,Tt,Ff,Tt,Ff,Ff,Tt,Tt,Tt,Ff,Ff,Ff,Ff,Ff,Ff,Ff,Ff] ?_
            refine pv_ 21 79 #[Tt,Tt,Tt,Ff,Tt,Tt,Tt,Tt,Ff,Tt,Tt,Tt,Tt,Ff,Tt,Ff,Ff,Tt,Tt,Tt,Ff,Tt,Ff,Ff,Ff,Ff,Ff,Ff] ?_
            refine take_ (i := 3) (N := (some 61)) (v := ?_) (a' := ?_) #[Tt,Tt,Tt,Tt,Tt,Tt,Tt,Tt,Ff,Tt,Tt,Tt,Tt,Ff,Tt,Ff,Ff,Tt,Tt,Tt,Ff,Tt,Ff,Ff,Ff,Ff,Ff,Ff] rfl rfl (take_ofW HT_.out HW_.out (by kernel_rfl)) (fun _ _ _ h => h) (Or.inl ⟨by rfl, ?_⟩) hHeld ?_ ?_
            rotate_left
            · rintro w' ⟨s0, s1, s2, s3, s4⟩
              go_simp
              with_reducible rfl
            rotate_left
            exact ap_
            refine take_ (i := 8) (N := (some 66)) (v := ?_) (a' := ?_) #[Tt,Tt,Tt,Tt,Tt,Tt,Tt,Tt,Tt,Tt,Tt,Tt,Tt,Ff,Tt,Ff,Ff,Tt,Tt,Tt,Ff,Tt,Ff,Ff,Ff,Ff,Ff,Ff] rfl rfl (take_ofW HT_.out HW_.out (by kernel_rfl)) (fun _ _ _ h => h) (Or.inl ⟨by rfl, ?_⟩) hHeld ?_ ?_
            rotate_left
            · rintro w' ⟨s0, s1, s2, s3, s4⟩
              go_simp
              with_reducible rfl
            rotate_left
            exact ap_
            refine take_ (i := 13) (N := (some 71)) (v := ?_) (a' := ?_) #[Tt,Tt,Tt,Tt,Tt,Tt,Tt,Tt,Tt,Tt,Tt,Tt,Tt,Tt,Tt,Ff,Ff,Tt,Tt,Tt,Ff,Tt,Ff,Ff,Ff,Ff,Ff,Ff] rfl rfl (take_ofW HT_.out HW_.out (by kernel_rfl)) (fun _ _ _ h => h) (Or.inl ⟨by rfl, ?_⟩) hHeld ?_ ?_
            rotate_left
            · rintro w' ⟨s0, s1, s2, s3, s4⟩
              go_simp
              with_reducible rfl
            rotate_left
            exact ap_
            refine pv_ 15 73 #[Tt,Tt,Tt,Tt,Tt,Tt,Tt,Tt,Tt,Tt,Tt,Tt,Tt,Tt,Tt,Tt,Ff,Tt,Tt,Tt,Ff,Tt,Ff,Ff,Ff,Ff,Ff,Ff] ?_
            refine take_ (i := 16) (N := (some 74)) (v := ?_) (a' := ?_) #[Tt,Tt,Tt,Tt,Tt,Tt,Tt,Tt,Tt,Tt,Tt,Tt,Tt,Tt,Tt,Tt,Tt,Tt,Tt,Tt,Ff,Tt,Ff,Ff,Ff,Ff,Ff,Ff] rfl rfl (take_ofW HT_.out HW_.out (by kernel_rfl)) (fun _ _ _ h => h) (Or.inl ⟨by rfl, ?_⟩) hHeld ?_ ?_
            rotate_left
            · rintro w' ⟨s0, s1, s2, s3, s4⟩
              go_simp
              with_reducible rfl
            rotate_left
            exact ap_
            refine take_ (i := 20) (N := (some 78)) (v := ?_) (a' := ?_) #[Tt,Tt,Tt,Tt,Tt,Tt,Tt,Tt,Tt,Tt,Tt,Tt,Tt,Tt,Tt,Tt,Tt,Tt,Tt,Tt,Tt,Tt,Ff,Ff,Ff,Ff,Ff,Ff] rfl rfl (take_ofW HT_.out HW_.out (by kernel_rfl)) (fun _ _ _ h => h) (Or.inl ⟨by rfl, ?_⟩) hHeld ?_ ?_
            rotate_left
            · rintro w' ⟨s0, s1, s2, s3, s4⟩
              go_simp
              with_reducible rfl
            rotate_left
            exact ap_
            refine pv_ 22 80 #[Tt,Tt,Tt,Tt,Tt,Tt,Tt,Tt,Tt,Tt,Tt,Tt,Tt,Tt,Tt,Tt,Tt,Tt,Tt,Tt,Tt,Tt,Tt,Ff,Ff,Ff,Ff,Ff] ?_
            refine take_ (i := 23) (N := (some 81)) (v := ?_) (a' := ?_) #[Tt,Tt,Tt,Tt,Tt,Tt,Tt,Tt,Tt,Tt,Tt,Tt,Tt,Tt,Tt,Tt,Tt,Tt,Tt,Tt,Tt,Tt,Tt,Tt,Ff,Ff,Ff,Ff] rfl rfl (take_ofW HT_.out HW_.out (by kernel_rfl)) (fun _ _ _ h => h) (Or.inl ⟨by rfl, ?_⟩) hHeld ?_ ?_
            rotate_left
            · rintro w' ⟨s0, s1, s2, s3, s4⟩
              go_simp
              with_reducible rfl
            rotate_left
            exact ap_
            refine pv_ 24 82 #[Tt,Tt,Tt,Tt,Tt,Tt,Tt,Tt,Tt,Tt,Tt,Tt,Tt,Tt,Tt,Tt,Tt,Tt,Tt,Tt,Tt,Tt,Tt,Tt,Tt,Ff,Ff,Ff] ?_
            refine last_ (i := 25) (N := none) #[Tt,Tt,Tt,Tt,Tt,Tt,Tt,Tt,Tt,Tt,Tt,Tt,Tt,Tt,Tt,Tt,Tt,Tt,Tt,Tt,Tt,Tt,Tt,Tt,Tt,Tt,Ff,Ff] rfl rfl (one_of HT_.out (by kernel_rfl)) (by decide) (fun K hK => ?_)
            refine skip_ (w1 := ?_) (by rfl) rfl ?_ ?_
            rotate_left
            · go_simp
              rfl
            refine hK.out _ _ ?_
            clear hK K hy0 hy1 hz0 hz1 hHeld
            have hput := HP.out.put HB.out i HX.out.1 (⟨b0, b1⟩ : S34)
            have n0_ := Aside0.mk hput.1
            have n1_ := Aside0.mk hput.2.1
            have n2_ := Aside0.mk (Kept.then_ HK.out hput.2.2 (fun k hk => Or.inl (hk.elim Or.inl (fun h_ => Or.inr h_.1))))
            clear HB HP HK hput
            have HP := n0_
            have HB := n1_
            have HK := n2_
            clear n0_ n1_ n2_
            generalize (w9.setCell ⟨g0, i * 2, none⟩ (.int .i64 b0)).setCell ⟨g0, i * 2 + 1, none⟩ (.int .i64 b1) = w10 at HB HP HK ⊢
            have hpp := pair_at HP.out.row p (by rw [List.length_set]; exact Nat.lt_trans HPI.out HX.out.1)
            have hy0 := hpp.2.2.1
            have hy1 := hpp.2.2.2
            have hz0 := hpp.1
            have hz1 := hpp.2.1
            clear hpp
            refine pv_ 26 83 #[Tt,Tt,Tt,Tt,Tt,Tt,Tt,Tt,Tt,Tt,Tt,Tt,Tt,Tt,Tt,Tt,Tt,Tt,Tt,Tt,Tt,Tt,Tt,Tt,Tt,Tt,Tt,Ff] ?_
            refine last_ (i := 27) (N := none) #[Tt,Tt,Tt,Tt,Tt,Tt,Tt,Tt,Tt,Tt,Tt,Tt,Tt,Tt,Tt,Tt,Tt,Tt,Tt,Tt,Tt,Tt,Tt,Tt,Tt,Tt,Tt,Tt] rfl rfl (one_of HT_.out (by kernel_rfl)) (by decide) (fun K hK => ?_)
            refine skip_ (w1 := ?_) (by rfl) rfl ?_ ?_
            rotate_left
            · go_simp
              rfl
            refine hK.out _ _ ?_
            clear hK K hy0 hy1 hz0 hz1
            have hput := HP.out.put HB.out p (by rw [List.length_set]; exact Nat.lt_trans HPI.out HX.out.1) (⟨a0, a1⟩ : S34)
            have n0_ := Aside0.mk hput.1
            have n1_ := Aside0.mk hput.2.1
            have n2_ := Aside0.mk (Kept.then_ HK.out hput.2.2 (fun k hk => Or.inl (hk.elim Or.inl (fun h_ => Or.inr h_.1))))
            clear HB HP HK hput
            have HP := n0_
            have HB := n1_
            have HK := n2_
            clear n0_ n1_ n2_
            refine done_ (done_of HT_.out (by kernel_rfl)) ?_
            generalize (w10.setCell ⟨g0, p * 2, none⟩ (.int .i64 a0)).setCell ⟨g0, p * 2 + 1, none⟩ (.int .i64 a1) = w11 at HB HP HK ⊢
            have hsw : (xs.set i ⟨b0, b1⟩).set p ⟨a0, a1⟩ = swL xs i p := by
              unfold swL
              rw [List.getD_eq_getElem?_getD, List.getElem?_eq_getElem (Nat.lt_trans HPI.out HX.out.1), List.getD_eq_getElem?_getD, List.getElem?_eq_getElem HX.out.1, HAI.out, HBI.out]
              rfl
            have hplt : plt (fA xs i) (fA xs p) := by
              rw [fA_get HX.out.1, fA_get (Nat.lt_trans HPI.out HX.out.1), HAI.out, HBI.out, ← HCF.out]
              have := HCR.out
              omega
            have hup := heapUp_step (i := i) HX.out.2.2.1 (by have := HCI.out; omega) HX.out.1 (by rw [← HPP.out]; exact hplt)
            rw [← HPP.out] at hup
            rw [hsw] at HP
            have HUP := Aside0.mk hup
            clear hsw hplt hup
            try go_wp2
            go_roundg gk
            case measure => omega
            case rel =>
              refine ⟨p, _, swL xs i p, rfl, ⟨by have := HI.out; have := HPI.out; omega⟩, ⟨?_, ?_, ?_, ?_⟩, HB, HP, HK⟩
              · rw [swL_length]; exact Nat.lt_trans HPI.out HX.out.1
              · rw [swL_length]; exact HX.out.2.1
              · rw [swL_length]; exact heapUp_congr (Nat.lt_trans HPI.out HX.out.1) (swL_fA xs HX.out.1 (Nat.lt_trans HPI.out HX.out.1)) HUP.out
              · exact (swL_perm xs HX.out.1 (Nat.lt_trans HPI.out HX.out.1)).trans HX.out.2.2.2
  · simp only [if_pos (of_decide_eq_true hf)]
    go_enter Try.func16, Try.ntmps16
    go_wp2_with ((with_reducible refine gate_dst (N := 3) rfl ?_); refine box_event ?hg (N := 3) ?hd (cs := #[.int .i64 x0, .int .i64 x1]) (t := 34) ?hr ?_; (case hd => rfl); (case hg => rfl); (case hr => first | (go_simp; done) | (go_simp; rfl)); intro gx hg w2 hbox hb; have n0_ := Aside0.mk (below_step HB.out hb); have n1_ := Aside0.mk ((HP.out.elder gx (Nat.le_of_eq hg.symm)).below hb); have n2_ := Aside0.mk (HK.out.below hb); have NGx := Aside0.mk (show g ≠ gx by rw [hg]; exact Nat.ne_of_lt (blk_lt HP.out.blk)); have GX := Aside0.mk (show w.heap.size ≤ gx by rw [hg]; exact HK.out.1); have BK := Aside0.mk hbox; clear HB HP HK; have HB := n0_; have HP := n1_; have HK := n2_; clear n0_ n1_ n2_ hb hbox hg)
    have n0_ := Aside0.mk (below_drew1 HB.out)
    have n1_ := Aside0.mk HP.out.drew
    have n2_ := Aside0.mk (Kept.drew HK.out)
    have n3_ := Aside0.mk (blk_drew BK.out)
    clear HB HP HK BK
    have HB := n0_
    have HP := n1_
    have HK := n2_
    have BK := n3_
    clear n0_ n1_ n2_ n3_
    refine start_ (n := 10) (S := fun w' => w'.cell? ⟨g, 0, none⟩ = some (.int .i64 most) ∧ w'.cell? ⟨g, 1, none⟩ = some (.slice A l.length c)) (ds := []) #[Ff,Ff,Ff,Ff,Ff,Ff,Ff,Ff,Ff,Ff] (by kernel_rfl) rfl rfl ⟨(blk_cell HP.out.blk 0).trans rfl, (blk_cell HP.out.blk 1).trans rfl⟩ (fun hHeld => ?_)
    generalize w2.drew = w3 at HB HP HK BK hHeld ⊢
    refine with_tabW Pile_Push.tab1 Pile_Push.bits1 (fun HT_ HW_ => ?_)
    refine pv_ 0 7 #[Tt,Ff,Ff,Ff,Ff,Ff,Ff,Ff,Ff,Ff] ?_
    refine pv_ 1 8 #[Tt,Tt,Ff,Ff,Ff,Ff,Ff,Ff,Ff,Ff] ?_
    refine pv_ 2 9 #[Tt,Tt,Tt,Ff,Ff,Ff,Ff,Ff,Ff,Ff] ?_
    refine pv_ 5 12 #[Tt,Tt,Tt,Ff,Ff,Tt,Ff,Ff,Ff,Ff] ?_
    refine pv_ 6 13 #[Tt,Tt,Tt,Ff,Ff,Tt,Tt,Ff,Ff,Ff] ?_
    refine pv_ 7 14 #[Tt,Tt,Tt,Ff,Ff,Tt,Tt,Tt,Ff,Ff] ?_
    refine take_ (i := 3) (N := (some 10)) (v := ?_) (a' := ?_) #[Tt,Tt,Tt,Tt,Ff,Tt,Tt,Tt,Ff,Ff] rfl rfl (take_ofW HT_.out HW_.out (by kernel_rfl)) (fun _ _ _ h => h) (Or.inl ⟨by rfl, ?_⟩) hHeld ?_ ?_
    rotate_left
    · rintro w' ⟨s0, s1⟩
      go_simp
      with_reducible rfl
    rotate_left
    exact ap_
    refine pv_ 4 11 #[Tt,Tt,Tt,Tt,Tt,Tt,Tt,Tt,Ff,Ff] ?_
    refine take_ (i := 8) (N := (some 15)) (v := ?_) (a' := ?_) #[Tt,Tt,Tt,Tt,Tt,Tt,Tt,Tt,Tt,Ff] rfl rfl (take_ofW HT_.out HW_.out (by kernel_rfl)) (fun _ _ _ h => h) (Or.inl ⟨by rfl, ?_⟩) hHeld ?_ ?_
    rotate_left
    · rintro w' ⟨s0, s1⟩
      go_simp
      with_reducible rfl
    rotate_left
    exact ap_
    refine pv_ 9 16 #[Tt,Tt,Tt,Tt,Tt,Tt,Tt,Tt,Tt,Tt] ?_
    refine done_ (done_of HT_.out (by kernel_rfl)) ?_
    go_wp2
    go_ret
    exact ⟨HB.out, HK.out, rfl, HP.out.mono (fun k hk => hk.1)⟩
def firstN (l : List S34) (i k : Nat) : Nat := if k < l.length ∧ plt (fA l k) (fA l i) then k else i
theorem lowest_first (l : List S34) (i : Nat) : lowest l.length (fA l) i = firstN l (firstN l i (2 * i + 1)) (2 * i + 2) := rfl
def pile_first.T1 : Bool × List (List Nat × List Nat) := (true, [([], []), ([], []), ([1], [1]), ([0, 2], [0, 2]), ([3], [3]), ([4], [4]), ([4], [4]), ([4], [4]), ([6, 7, 4], [4, 6, 7]), ([8, 4], [4, 8]), ([4], [4]), ([4], [4]), ([10, 11, 4], [4, 10, 11]), ([12, 4], [4, 12]), ([5, 9, 13, 4, 4], [4, 5, 9, 13]), ([14, 4], [4, 14]), ([4, 15], [4, 15])])
def pile_first.B1 : List Nat := [0, 0, 2, 7, 15, 31, 31, 31, 223, 479, 31, 31, 3103, 7199, 16383, 32767, 65535]
theorem pile_first.tab1 : rtab .any (opsOf Try.f30 1) = pile_first.T1 := by kernel_rfl
theorem pile_first.bits1 : waitsOk pile_first.T1.2 pile_first.B1 = true := by kernel_rfl
set_option maxHeartbeats 8000000 in
set_option maxRecDepth 100000 in
theorem pile_first.calls {base : Nat} {ok : Nat → Prop} (g0 n c : Nat) (l : List S34) (i k : Nat) (w : World) (hr : Kd.R k34 34 w base ok (.slice (some ⟨g0, 0, none⟩) n c) l) (hi : i < l.length) :
    Calls Try.prog 30 #[.slice (some ⟨g0, 0, none⟩) n c, .int .i64 (i : Int), .int .i64 (k : Int), .func (.func 29) #[] #[]] w fun e w' => e = .returned (.int .i64 ((firstN l i k : Nat) : Int)) ∧ Below w.heap.size w w' := by
  have hu34 := Try.underlying34
  have hn := (Kd.R_reads' hr).1
  have HN := Aside0.mk hn
  have HR := Aside0.mk (Kd.R_drew hr)
  have HI := Aside0.mk hi
  have HB := Aside0.mk (below_drew1 (Below.refl w.heap.size w))
  by_cases ck : k < n
  · have hk : k < l.length := by rw [← hn]; exact ck
    obtain ⟨a0, a1, hai⟩ : ∃ a b, l[i] = (⟨a, b⟩ : S34) := ⟨_, _, rfl⟩
    obtain ⟨b0, b1, hbi⟩ : ∃ a b, l[k] = (⟨a, b⟩ : S34) := ⟨_, _, rfl⟩
    have hai2 : fA l i = pr ⟨a0, a1⟩ := by rw [fA_get hi, hai]
    have hbi2 : fA l k = pr ⟨b0, b1⟩ := by rw [fA_get hk, hbi]
    have hpi := pair_at (Kd.R_drew hr) i hi
    have hpk := pair_at (Kd.R_drew hr) k hk
    rw [hai] at hpi
    rw [hbi] at hpk
    have c1 : decide ((k : Int) < (n : Int)) = true := decide_eq_true (by omega)
    have c2 : decide (k < n) = true := decide_eq_true ck
    have pi0 := eq_true (show (0 : Int) ≤ (i : Int) by omega)
    have pi1 := eq_true (show (i : Int) < (n : Int) by omega)
    have pk0 := eq_true (show (0 : Int) ≤ (k : Int) by omega)
    have pk1 := eq_true (show (k : Int) < (n : Int) by omega)
    have HCF := Aside0.mk (cfPair_neg ⟨b0, b1⟩ ⟨a0, a1⟩)
    have hfn : firstN l i k = if plt (pr ⟨b0, b1⟩) (pr ⟨a0, a1⟩) then k else i := by
      unfold firstN
      rw [hai2, hbi2]
      by_cases c : plt (pr ⟨b0, b1⟩) (pr ⟨a0, a1⟩)
      · rw [if_pos ⟨hk, c⟩, if_pos c]
      · rw [if_neg (fun h => c h.2), if_neg c]
    have HFN := Aside0.mk hfn
    clear hn hr hi hk hai hbi hai2 hbi2 ck hfn
    go_enter Try.func30, Try.ntmps30
    go_wp2
    refine start_ (n := 17) (S := fun w' => w'.cell? ⟨g0, i * 2, none⟩ = some (.int .i64 a0) ∧ w'.cell? ⟨g0, i * 2 + 1, none⟩ = some (.int .i64 a1) ∧ w'.cell? ⟨g0, k * 2, none⟩ = some (.int .i64 b0) ∧ w'.cell? ⟨g0, k * 2 + 1, none⟩ = some (.int .i64 b1)) (ds := []) #[Ff,Ff,Ff,Ff,Ff,Ff,Ff,Ff,Ff,Ff,Ff,Ff,Ff,Ff,Ff,Ff,Ff] (by kernel_rfl) rfl rfl ⟨hpi.1, hpi.2.1, hpk.1, hpk.2.1⟩ (fun hHeld => ?_)
    clear hpi hpk
    generalize w.drew = w1 at HB HR hHeld ⊢
    refine with_tabW pile_first.tab1 pile_first.bits1 (fun HT_ HW_ => ?_)
    refine pv_ 0 9 #[Tt,Ff,Ff,Ff,Ff,Ff,Ff,Ff,Ff,Ff,Ff,Ff,Ff,Ff,Ff,Ff,Ff] ?_
    refine pv_ 1 10 #[Tt,Tt,Ff,Ff,Ff,Ff,Ff,Ff,Ff,Ff,Ff,Ff,Ff,Ff,Ff,Ff,Ff] ?_
    refine pv_ 2 11 #[Tt,Tt,Tt,Ff,Ff,Ff,Ff,Ff,Ff,Ff,Ff,Ff,Ff,Ff,Ff,Ff,Ff] ?_
    refine pv_ 3 12 #[Tt,Tt,Tt,Tt,Ff,Ff,Ff,Ff,Ff,Ff,Ff,Ff,Ff,Ff,Ff,Ff,Ff] ?_
    refine pv_ 4 13 #[Tt,Tt,Tt,Tt,Tt,Ff,Ff,Ff,Ff,Ff,Ff,Ff,Ff,Ff,Ff,Ff,Ff] ?_
    refine pv_ 5 14 #[Tt,Tt,Tt,Tt,Tt,Tt,Ff,Ff,Ff,Ff,Ff,Ff,Ff,Ff,Ff,Ff,Ff] ?_
    refine pv_ 6 15 #[Tt,Tt,Tt,Tt,Tt,Tt,Tt,Ff,Ff,Ff,Ff,Ff,Ff,Ff,Ff,Ff,Ff] ?_
    refine pv_ 7 16 #[Tt,Tt,Tt,Tt,Tt,Tt,Tt,Tt,Ff,Ff,Ff,Ff,Ff,Ff,Ff,Ff,Ff] ?_
    refine pv_ 8 17 #[Tt,Tt,Tt,Tt,Tt,Tt,Tt,Tt,Tt,Ff,Ff,Ff,Ff,Ff,Ff,Ff,Ff] ?_
    refine pv_ 10 19 #[Tt,Tt,Tt,Tt,Tt,Tt,Tt,Tt,Tt,Ff,Tt,Ff,Ff,Ff,Ff,Ff,Ff] ?_
    refine pv_ 11 20 #[Tt,Tt,Tt,Tt,Tt,Tt,Tt,Tt,Tt,Ff,Tt,Tt,Ff,Ff,Ff,Ff,Ff] ?_
    refine pv_ 12 21 #[Tt,Tt,Tt,Tt,Tt,Tt,Tt,Tt,Tt,Ff,Tt,Tt,Tt,Ff,Ff,Ff,Ff] ?_
    refine take_ (i := 9) (N := (some 18)) (v := ?_) (a' := ?_) #[Tt,Tt,Tt,Tt,Tt,Tt,Tt,Tt,Tt,Tt,Tt,Tt,Tt,Ff,Ff,Ff,Ff] rfl rfl (take_ofW HT_.out HW_.out (by kernel_rfl)) (fun _ _ _ h => h) (Or.inl ⟨by rfl, ?_⟩) hHeld ?_ ?_
    rotate_left
    · rintro w' ⟨s0, s1, s2, s3⟩
      go_simp
      with_reducible rfl
    rotate_left
    exact ap_
    refine take_ (i := 13) (N := (some 22)) (v := ?_) (a' := ?_) #[Tt,Tt,Tt,Tt,Tt,Tt,Tt,Tt,Tt,Tt,Tt,Tt,Tt,Tt,Ff,Ff,Ff] rfl rfl (take_ofW HT_.out HW_.out (by kernel_rfl)) (fun _ _ _ h => h) (Or.inl ⟨by rfl, ?_⟩) hHeld ?_ ?_
    rotate_left
    · rintro w' ⟨s0, s1, s2, s3⟩
      go_simp
      with_reducible rfl
    rotate_left
    exact ap_
    refine one_ (i := 14) (N := (some 23)) #[Tt,Tt,Tt,Tt,Tt,Tt,Tt,Tt,Tt,Tt,Tt,Tt,Tt,Tt,Tt,Ff,Ff] rfl rfl (one_of HT_.out (by kernel_rfl)) (by decide) (fun K hK => ?_)
    refine goesT_ Try.func29 (by kernel_rfl) rfl #[.agg #[.int .i64 b0, .int .i64 b1], .agg #[.int .i64 a0, .int .i64 a1]] (by rfl) rfl rfl rfl (by (try simp only [List.map_toArray, List.map_cons, List.map_nil]); first | done | rfl) ?_
    refine (pile_compare.calls 8 b0 b1 a0 a1 (cfPair ⟨b0, b1⟩ ⟨a0, a1⟩) _ (pile_compare_val ⟨b0, b1⟩ ⟨a0, a1⟩)).mono ?_
    rintro e w2 ⟨rfl, hb⟩
    refine ⟨_, rfl, ?_⟩
    generalize cfPair ⟨b0, b1⟩ ⟨a0, a1⟩ = r at *
    have n0_ := Aside0.mk (below_step HB.out hb)
    have n1_ := Aside0.mk (Kd.R_below HR.out hb)
    clear HB HR
    have HB := n0_
    have HR := n1_
    clear n0_ n1_
    refine hK.out _ _ ⟨(hb.cell (World.block_lt_of_cell? _ _ hHeld.1)).trans hHeld.1, (hb.cell (World.block_lt_of_cell? _ _ hHeld.2.1)).trans hHeld.2.1, (hb.cell (World.block_lt_of_cell? _ _ hHeld.2.2.1)).trans hHeld.2.2.1, (hb.cell (World.block_lt_of_cell? _ _ hHeld.2.2.2)).trans hHeld.2.2.2⟩ (fun hHeld => ?_)
    clear hK K hb
    refine norm_ (a' := ?_) ?_ ?_
    rotate_left
    · show Act.put _ (some 23) _ = _
      simp only [Act.put, List.setIfInBounds_toArray, List.set_cons_zero, List.set_cons_succ, i64_w, i32_w]
      rfl
    obtain ⟨bc, hbc⟩ : ∃ b, decide (r < 0) = b := ⟨_, rfl⟩
    cases bc
    · skip
      refine pv_ 15 24 #[Tt,Tt,Tt,Tt,Tt,Tt,Tt,Tt,Tt,Tt,Tt,Tt,Tt,Tt,Tt,Tt,Ff] ?_
      refine pv_ 16 25 #[Tt,Tt,Tt,Tt,Tt,Tt,Tt,Tt,Tt,Tt,Tt,Tt,Tt,Tt,Tt,Tt,Tt] ?_
      refine done_ (done_of HT_.out (by kernel_rfl)) ?_
      go_wp2
      go_ret
      refine ⟨?_, HB.out⟩
      rw [HFN.out, if_neg (fun h => of_decide_eq_false hbc (HCF.out.2 h))]
      rfl
    · skip
      refine pv_ 15 24 #[Tt,Tt,Tt,Tt,Tt,Tt,Tt,Tt,Tt,Tt,Tt,Tt,Tt,Tt,Tt,Tt,Ff] ?_
      refine pv_ 16 25 #[Tt,Tt,Tt,Tt,Tt,Tt,Tt,Tt,Tt,Tt,Tt,Tt,Tt,Tt,Tt,Tt,Tt] ?_
      refine done_ (done_of HT_.out (by kernel_rfl)) ?_
      go_wp2
      go_ret
      refine ⟨?_, HB.out⟩
      rw [HFN.out, if_pos (HCF.out.1 (of_decide_eq_true hbc))]
      rfl
  · have c1 : decide ((k : Int) < (n : Int)) = false := decide_eq_false (by omega)
    have c2 : decide (k < n) = false := decide_eq_false ck
    have hfn : firstN l i k = i := by unfold firstN; rw [if_neg (fun h => ck (by rw [hn]; exact h.1))]
    have HFN := Aside0.mk hfn
    clear hn hr hi ck hfn
    go_enter Try.func30, Try.ntmps30
    go_wp2
    refine start_ (n := 17) (S := fun w' => True) (ds := []) #[Ff,Ff,Ff,Ff,Ff,Ff,Ff,Ff,Ff,Ff,Ff,Ff,Ff,Ff,Ff,Ff,Ff] (by kernel_rfl) rfl rfl trivial (fun hHeld => ?_)
    generalize w.drew = w1 at HB HR hHeld ⊢
    refine with_tabW pile_first.tab1 pile_first.bits1 (fun HT_ HW_ => ?_)
    refine pv_ 0 9 #[Tt,Ff,Ff,Ff,Ff,Ff,Ff,Ff,Ff,Ff,Ff,Ff,Ff,Ff,Ff,Ff,Ff] ?_
    refine pv_ 1 10 #[Tt,Tt,Ff,Ff,Ff,Ff,Ff,Ff,Ff,Ff,Ff,Ff,Ff,Ff,Ff,Ff,Ff] ?_
    refine pv_ 2 11 #[Tt,Tt,Tt,Ff,Ff,Ff,Ff,Ff,Ff,Ff,Ff,Ff,Ff,Ff,Ff,Ff,Ff] ?_
    refine pv_ 3 12 #[Tt,Tt,Tt,Tt,Ff,Ff,Ff,Ff,Ff,Ff,Ff,Ff,Ff,Ff,Ff,Ff,Ff] ?_
    refine pv_ 4 13 #[Tt,Tt,Tt,Tt,Tt,Ff,Ff,Ff,Ff,Ff,Ff,Ff,Ff,Ff,Ff,Ff,Ff] ?_
    refine pu_ 5 14 #[Tt,Tt,Tt,Tt,Tt,Tt,Ff,Ff,Ff,Ff,Ff,Ff,Ff,Ff,Ff,Ff,Ff] ?_
    refine pu_ 6 15 #[Tt,Tt,Tt,Tt,Tt,Tt,Tt,Ff,Ff,Ff,Ff,Ff,Ff,Ff,Ff,Ff,Ff] ?_
    refine pu_ 7 16 #[Tt,Tt,Tt,Tt,Tt,Tt,Tt,Tt,Ff,Ff,Ff,Ff,Ff,Ff,Ff,Ff,Ff] ?_
    refine pu_ 8 17 #[Tt,Tt,Tt,Tt,Tt,Tt,Tt,Tt,Tt,Ff,Ff,Ff,Ff,Ff,Ff,Ff,Ff] ?_
    refine pu_ 9 18 #[Tt,Tt,Tt,Tt,Tt,Tt,Tt,Tt,Tt,Tt,Ff,Ff,Ff,Ff,Ff,Ff,Ff] ?_
    refine pu_ 10 19 #[Tt,Tt,Tt,Tt,Tt,Tt,Tt,Tt,Tt,Tt,Tt,Ff,Ff,Ff,Ff,Ff,Ff] ?_
    refine pu_ 11 20 #[Tt,Tt,Tt,Tt,Tt,Tt,Tt,Tt,Tt,Tt,Tt,Tt,Ff,Ff,Ff,Ff,Ff] ?_
    refine pu_ 12 21 #[Tt,Tt,Tt,Tt,Tt,Tt,Tt,Tt,Tt,Tt,Tt,Tt,Tt,Ff,Ff,Ff,Ff] ?_
    refine pu_ 13 22 #[Tt,Tt,Tt,Tt,Tt,Tt,Tt,Tt,Tt,Tt,Tt,Tt,Tt,Tt,Ff,Ff,Ff] ?_
    refine pu_ 14 23 #[Tt,Tt,Tt,Tt,Tt,Tt,Tt,Tt,Tt,Tt,Tt,Tt,Tt,Tt,Tt,Ff,Ff] ?_
    refine pu_ 15 24 #[Tt,Tt,Tt,Tt,Tt,Tt,Tt,Tt,Tt,Tt,Tt,Tt,Tt,Tt,Tt,Tt,Ff] ?_
    refine pv_ 16 25 #[Tt,Tt,Tt,Tt,Tt,Tt,Tt,Tt,Tt,Tt,Tt,Tt,Tt,Tt,Tt,Tt,Tt] ?_
    refine done_ (done_of HT_.out (by kernel_rfl)) ?_
    go_wp2
    go_ret
    exact ⟨by rw [HFN.out]; rfl, HB.out⟩
end Go.Proofs.Ytloebciamfbjfaa.Q
end
