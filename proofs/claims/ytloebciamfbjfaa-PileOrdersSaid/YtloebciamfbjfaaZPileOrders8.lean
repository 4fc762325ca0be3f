/- A part of the proof: words, contracts, plain lemmas. Conditions: none. -/
import Derived.Test.YtloebciamfbjfaaZPileOrders7
section
namespace Go.Proofs.Ytloebciamfbjfaa.Q
open Go.RowKit Go.Proofs.Ytloebciamfbjfaa.P Go.Proofs.YtloebciamfbjfaaW.PrintWords Go.Proofs.YtloebciamfbjfaaW.PrintLast Go.Proofs.YtloebciamfbjfaaW.PrintMore
set_option linter.unusedVariables false
set_option linter.unusedSimpArgs false
theorem heapDown_congr {n i : Nat} {f f' : Nat → Int × Int} (he : ∀ j, j < n → f j = f' j) (hi : i < n ∨ i = 0) (h : HeapDown n f i) : HeapDown n f' i := by
  refine ⟨fun j h1 h2 h3 => ?_, fun h1 j h2 h3 h4 => ?_⟩
  · rw [← he j h2, ← he _ (by omega)]; exact h.1 j h1 h2 h3
  · rw [← he j h3, ← he _ (by omega)]; exact h.2 h1 j h2 h3 h4
theorem PileC.cut {w : World} {base : Nat} {ok : Nat → Prop} {g : Nat} {most : Int} {A : Option Addr} {n c m : Nat} {l : List S34} (h : PileC w base ok g most (.slice A n c) l) (hm : m ≤ l.length) : PileC (w.setCell ⟨g, 1, none⟩ (.slice A m c)) base ok g most (.slice A m c) (l.take m) :=
  ⟨blk_put (cs' := #[.int .i64 most, .slice A m c, .func (.func 29) #[] #[]]) h.blk 1 _ rfl, Kd.R_far (p := ⟨g, 1, none⟩) (Kd.R_take h.row hm) (fun k hk => hk.2) _, h.ge⟩
def popRel : List S34 → List S34 → Prop
  | [], l' => l' = []
  | x :: r, l' => (x :: l').Perm (x :: r)
def cutL (l : List S34) : List S34 := (l.set 0 (l.getD (l.length - 1) z34)).take (l.length - 1)
theorem cutL_length (l : List S34) : (cutL l).length = l.length - 1 := by unfold cutL; rw [List.length_take, List.length_set]; omega
theorem heap_cut {l : List S34} (h : Heaped l.length (fA l)) (hl : 0 < l.length) : HeapDown (cutL l).length (fA (cutL l)) 0 := by
  rw [cutL_length]
  have h2 : HeapDown (l.length - 1) (fun j => if j = 0 then fA l (l.length - 1) else fA l j) 0 := heapDown_pop (by rw [Nat.sub_add_cancel hl]; exact h)
  refine heapDown_congr (fun j hj => ?_) (.inr rfl) h2
  rw [fA_get (l := cutL l) (by rw [cutL_length]; exact hj)]
  unfold cutL
  rw [List.getElem_take, List.getElem_set]
  by_cases c : j = 0
  · rw [if_pos c, if_pos c.symm]; rfl
  · rw [if_neg c, if_neg (fun h => c h.symm), fA_get (by omega)]
theorem cut_perm {l : List S34} (hl : 0 < l.length) : (l[0] :: cutL l).Perm l := by
  obtain ⟨x, r, rfl⟩ : ∃ x r, l = x :: r := by
    cases l with
    | nil => cases hl
    | cons x r => exact ⟨x, r, rfl⟩
  show (x :: cutL (x :: r)).Perm (x :: r)
  refine List.Perm.cons x ?_
  unfold cutL
  rcases List.eq_nil_or_concat r with rfl | ⟨q, y, rfl⟩
  · exact List.Perm.refl _
  · rw [List.concat_eq_append]
    have e1 : (x :: (q ++ [y])).length - 1 = (q ++ [y]).length := rfl
    rw [e1]
    have e2 : (x :: (q ++ [y])).getD (q ++ [y]).length z34 = y := by
      rw [List.length_append]
      show (x :: (q ++ [y])).getD (q.length + 1) z34 = y
      rw [List.getD_cons_succ, List.getD_eq_getElem?_getD, List.getElem?_append_right (Nat.le_refl _), Nat.sub_self]
      rfl
    rw [e2, List.set_cons_zero]
    have e3 : (y :: (q ++ [y])).take (q ++ [y]).length = y :: q := by
      rw [List.length_append]
      show (y :: (q ++ [y])).take (q.length + 1) = y :: q
      rw [List.take_succ_cons, List.take_left']
      rfl
    rw [e3]
    exact (List.perm_append_comm (l₁ := [y]) (l₂ := q))
def Pile_Pop.T5 : Bool × List (List Nat × List Nat) := (true, [([], []), ([0], [0]), ([1], [1]), ([2], [2]), ([], []), ([4], [4]), ([5], [5]), ([6], [6]), ([], []), ([7, 8], [7, 8]), ([9], [9]), ([3, 0, 1, 2, 3, 4, 5, 6, 7, 8, 9, 10], [3]), ([11, 10, 0, 1, 2, 3, 4, 5, 6, 7, 8, 9, 10], [10, 11])])
def Pile_Pop.B5 : List Nat := [0, 1, 3, 7, 0, 16, 48, 112, 0, 496, 1008, 2047, 4095]
theorem Pile_Pop.tab5 : rtab .any (opsOf Try.f11 5) = Pile_Pop.T5 := by kernel_rfl
theorem Pile_Pop.bits5 : waitsOk Pile_Pop.T5.2 Pile_Pop.B5 = true := by kernel_rfl
def Pile_Pop.T9 : Bool × List (List Nat × List Nat) := (true, [([], []), ([0], [0]), ([1], [1]), ([2], [2]), ([], []), ([4], [4]), ([5], [5]), ([6], [6]), ([], []), ([], []), ([9], [9]), ([10], [10]), ([], []), ([12], [12]), ([13], [13]), ([14], [14]), ([7, 8, 11, 15], [7, 8, 11, 15]), ([], []), ([17], [17]), ([18], [18]), ([], []), ([20], [20]), ([21], [21]), ([22], [22]), ([3, 16, 19, 23, 16], [3, 16, 19, 23]), ([24, 24, 0, 1, 2, 3, 4, 5, 6, 7, 8, 9, 10, 11, 12, 13, 14, 15, 16, 17, 18, 19, 20, 21, 22, 23, 24], [24])])
def Pile_Pop.B9 : List Nat := [0, 1, 3, 7, 0, 16, 48, 112, 0, 0, 512, 1536, 0, 4096, 12288, 28672, 65520, 0, 131072, 393216, 0, 1048576, 3145728, 7340032, 16777215, 33554431]
theorem Pile_Pop.tab9 : rtab .any (opsOf Try.f11 9) = Pile_Pop.T9 := by kernel_rfl
theorem Pile_Pop.bits9 : waitsOk Pile_Pop.T9.2 Pile_Pop.B9 = true := by kernel_rfl
def Pile_Pop.T11 : Bool × List (List Nat × List Nat) := (true, [([], []), ([0], [0]), ([1], [1]), ([2], [2]), ([], []), ([], []), ([5], [5]), ([6], [6]), ([7], [7]), ([], []), ([], []), ([10], [10]), ([11], [11]), ([12], [12]), ([], []), ([13, 14], [13, 14]), ([15], [15]), ([], []), ([17], [17]), ([18], [18]), ([19], [19]), ([], []), ([20, 21], [20, 21]), ([22], [22]), ([3, 4, 0, 1, 2, 3, 4, 8, 10, 11, 12, 13, 14, 15, 16, 20, 23], [3, 4]), ([24, 16, 0, 1, 2, 3, 4, 8, 10, 11, 12, 13, 14, 15, 16, 20, 23], [16, 24]), ([8, 9, 0, 1, 2, 3, 4, 5, 6, 7, 8, 9, 10, 11, 12, 13, 14, 15, 16, 17, 18, 19, 20, 21, 22, 23, 24, 25], [8, 9]), ([26, 23, 25, 0, 1, 2, 3, 4, 5, 6, 7, 8, 9, 10, 11, 12, 13, 14, 15, 16, 17, 18, 19, 20, 21, 22, 23, 24, 25], [23, 26])])
def Pile_Pop.B11 : List Nat := [0, 1, 3, 7, 0, 0, 32, 96, 224, 0, 0, 1024, 3072, 7168, 0, 31744, 64512, 0, 131072, 393216, 917504, 0, 4063232, 8257536, 16776703, 33553919, 67108863, 134217727]
theorem Pile_Pop.tab11 : rtab .any (opsOf Try.f11 11) = Pile_Pop.T11 := by kernel_rfl
theorem Pile_Pop.bits11 : waitsOk Pile_Pop.T11.2 Pile_Pop.B11 = true := by kernel_rfl
set_option maxHeartbeats 8000000 in
set_option maxRecDepth 100000 in
theorem Pile_Pop.calls (ok : Nat → Prop) (g : Nat) (most : Int) (v : Value) (l : List S34) (w0 w : World) (hB : Below w0.heap.size w0 w) (hP : PileC w w0.heap.size ok g most v l) (hl : l.length ≤ 65536) (hH : Heaped l.length (fA l)) :
    Calls Try.prog 11 #[.pointer (some ⟨g, 0, none⟩)] w fun e w' => Below w0.heap.size w0 w' ∧ Kept w w' (fun k => k = g ∨ ok k) ∧ e = .returned (.tuple #[.agg #[.int .i64 (leastL l).1, .int .i64 (leastL l).2.1], .int .i64 (leastL l).2.2]) ∧ ∃ v' l', PileC w' w0.heap.size ok g most v' l' ∧ Heaped l'.length (fA l') ∧ popRel l l' := by
  have hu62 := Try.underlying62
  have hu34 := Try.underlying34
  have HB := Aside0.mk hB
  have HP := Aside0.mk hP
  have HL := Aside0.mk hl
  have HH := Aside0.mk hH
  have HK := Aside0.mk (Kept.refl w (fun k => k = g ∨ ok k))
  clear hB hP hl hH
  obtain ⟨y0_, y1_, y2_, hy⟩ : ∃ a b c, leastL l = (a, b, c) := ⟨_, _, _, rfl⟩
  have HY := Aside0.mk hy
  simp only [hy]
  clear hy
  cases l with
  | nil =>
    have hye : y2_ = 21 := by have := HY.out; unfold leastL at this; injection this with _ h2; injection h2 with _ h3; exact h3.symm
    subst hye
    go_enter Try.func11, Try.ntmps11
    go_wp2_with (first
      | ((with_reducible refine gate_dst (N := 2) rfl ?_); refine box_event ?hg (N := 2) ?hd (cs := #[.int .i64 0, .int .i64 0]) (t := 34) ?hr ?_; (case hd => rfl); (case hg => rfl); (case hr => first | (go_simp; done) | (go_simp; rfl)); intro gr hg w2 hbox hb; have n0_ := Aside0.mk (below_step HB.out hb); have n1_ := Aside0.mk ((HP.out.elder gr (Nat.le_of_eq hg.symm)).below hb); have n2_ := Aside0.mk (HK.out.below hb); have NGr := Aside0.mk (show g ≠ gr by rw [hg]; exact Nat.ne_of_lt (blk_lt HP.out.blk)); have GR := Aside0.mk (show w.heap.size ≤ gr by rw [hg]; exact HK.out.1); have GRb := Aside0.mk (show w0.heap.size ≤ gr by rw [hg]; exact below_size HB.out); have BKr := Aside0.mk hbox; clear HB HP HK; have HB := n0_; have HP := n1_; have HK := n2_; clear n0_ n1_ n2_ hb hbox hg)
      | (go_at_call 13; refine (Pile_Least.calls g most v [] _ HP.out).mono ?_; rintro e w3 ⟨rfl, hb⟩; rw [HY.out]; have n0_ := Aside0.mk (below_step HB.out hb); have n1_ := Aside0.mk (HP.out.below hb); have n2_ := Aside0.mk (HK.out.below hb); have n4_ := Aside0.mk (blk_below BKr.out hb); clear HB HP HK BKr hb; have HB := n0_; have HP := n1_; have HK := n2_; have BKr := n4_; clear n0_ n1_ n2_ n4_)
      | ((with_reducible refine gate_dst (N := 4) rfl ?_); refine box_event ?hg (N := 4) ?hd (cs := #[.int .i64 0, .int .i64 0]) (t := 34) ?hr ?_; (case hd => rfl); (case hg => rfl); (case hr => first | (go_simp; done) | (go_simp; rfl)); intro gx hg w4 hbox hb; have n0_ := Aside0.mk (below_step HB.out hb); have n1_ := Aside0.mk ((HP.out.elder gx (Nat.le_of_eq hg.symm)).below hb); have n2_ := Aside0.mk (HK.out.below hb); have n4_ := Aside0.mk (blk_below BKr.out hb); have NGx := Aside0.mk (show g ≠ gx by rw [hg]; exact Nat.ne_of_lt (blk_lt HP.out.blk)); have GX := Aside0.mk (show w.heap.size ≤ gx by rw [hg]; exact HK.out.1); have GXb := Aside0.mk (show w0.heap.size ≤ gx by rw [hg]; exact below_size HB.out); have NRX := Aside0.mk (show gr ≠ gx by rw [hg]; exact Nat.ne_of_lt (blk_lt BKr.out)); have BKx := Aside0.mk hbox; clear HB HP HK BKr; have HB := n0_; have HP := n1_; have HK := n2_; have BKr := n4_; clear n0_ n1_ n2_ n4_ hb hbox hg; have zx0 : w4.cell? ⟨gx, 0, none⟩ = some (.int .i64 0) := (blk_cell BKx.out 0).trans rfl; have zx1 : w4.cell? ⟨gx, 1, none⟩ = some (.int .i64 0) := (blk_cell BKx.out 1).trans rfl; have yx0 := blk_frozen BKx.out 0; have yx1 := blk_frozen BKx.out 1)
      | ((with_reducible refine gate_store (t := 34) (p := 4) rfl ?_); refine store_event (t := 34) (p := 4) (v := ?vo1) (w1 := ?wo1) ?hg ?ho ?hn ?hr ?_; (case ho => rfl); (case hg => rfl); (case hn => rfl); (case hr => first | (go_simp; done) | (go_simp; rfl)); intro w5 hw; have n0_ := Aside0.mk (show Below w0.heap.size w0 w5 from (by rw [hw]; exact below_set (below_set HB.out GXb.out) GXb.out)); have n1_ := Aside0.mk (show PileC w5 w0.heap.size (fun k => (ok k ∧ k ≠ gr) ∧ k ≠ gx) g most v [] from (by rw [hw]; exact (HP.out.far NGx.out (fun hk => hk.2 rfl) _).far NGx.out (fun hk => hk.2 rfl) _)); have n2_ := Aside0.mk (show Kept w w5 (fun k => k = g ∨ ok k) from (by rw [hw]; exact Kept.setCell (p := ⟨gx, 1, none⟩) (Kept.setCell (p := ⟨gx, 0, none⟩) HK.out (Or.inr GX.out) _) (Or.inr GX.out) _)); have n3_ := Aside0.mk (show w5.heap[gx]? = some (.cells #[.int .i64 y0_, .int .i64 y1_] 34 (0, 0)) from (by rw [hw]; exact blk_put (cs' := #[.int .i64 y0_, .int .i64 y1_]) (blk_put (cs' := #[.int .i64 y0_, .int .i64 0]) BKx.out 0 _ rfl) 1 _ rfl)); have n4_ := Aside0.mk (show w5.heap[gr]? = some (.cells #[.int .i64 0, .int .i64 0] 34 (0, 0)) from (by rw [hw]; exact blk_far (p := ⟨gx, 1, none⟩) (blk_far (p := ⟨gx, 0, none⟩) BKr.out NRX.out _) NRX.out _)); clear HB HP HK BKx BKr hw zx0 zx1 yx0 yx1; have HB := n0_; have HP := n1_; have HK := n2_; have BKx := n3_; have BKr := n4_; clear n0_ n1_ n2_ n3_ n4_; have zx0 : w5.cell? ⟨gx, 0, none⟩ = some (.int .i64 y0_) := (blk_cell BKx.out 0).trans rfl; have zx1 : w5.cell? ⟨gx, 1, none⟩ = some (.int .i64 y1_) := (blk_cell BKx.out 1).trans rfl; have zr0 : w5.cell? ⟨gr, 0, none⟩ = some (.int .i64 0) := (blk_cell BKr.out 0).trans rfl; have zr1 : w5.cell? ⟨gr, 1, none⟩ = some (.int .i64 0) := (blk_cell BKr.out 1).trans rfl; have yr0 := blk_frozen BKr.out 0; have yr1 := blk_frozen BKr.out 1))
    refine bodyPost_ret (results_ct rfl _ _ gr 34 #[.int .i64 y0_, .int .i64 y1_] (0, 0) _ rfl (blk_put (cs' := #[.int .i64 y0_, .int .i64 y1_]) (blk_put (cs' := #[.int .i64 y0_, .int .i64 0]) BKr.out 0 (.int .i64 y0_) rfl) 1 (.int .i64 y1_) rfl) Try.underlying34 rfl (by kernel_rfl)) rfl ?_
    exact ⟨below_set (below_set HB.out GRb.out) GRb.out, Kept.setCell (p := ⟨gr, 1, none⟩) (Kept.setCell (p := ⟨gr, 0, none⟩) HK.out (Or.inr GR.out) _) (Or.inr GR.out) _, rfl, v, [], ((HP.out.mono (ok' := fun k => ok k ∧ k ≠ gr) (fun k hk => hk.1)).far NGr.out (fun hk => hk.2 rfl) _).far NGr.out (fun hk => hk.2 rfl) _ |>.mono (fun k hk => hk.1), HH.out, rfl⟩
  | cons x r =>
    have hye : y0_ = x.f0 ∧ y1_ = x.f1 ∧ y2_ = 0 := by have := HY.out; unfold leastL at this; injection this with h1 h2; injection h2 with h2 h3; exact ⟨h1.symm, h2.symm, h3.symm⟩
    obtain ⟨rfl, rfl, rfl⟩ := hye
    obtain ⟨l, hle⟩ : ∃ l, l = x :: r := ⟨_, rfl⟩
    have hpos : 0 < l.length := by rw [hle]; simp
    rw [← hle] at HP HL HH HY ⊢
    obtain ⟨g0, c0, ev, _⟩ := Kd.R_form HP.out.row hpos
    subst ev
    obtain ⟨n, hn⟩ : ∃ n, n = l.length := ⟨_, rfl⟩
    rw [← hn] at HP
    have HN := Aside0.mk hn
    have HPOS := Aside0.mk hpos
    have HLE := Aside0.mk hle
    obtain ⟨m, hm⟩ : ∃ m, n = m + 1 := ⟨n - 1, by omega⟩
    have HM := Aside0.mk hm
    have hn1 : wrap64 ((n : Int) - 1) = (m : Int) := by rw [wrapId (by omega) (by have := HL.out; omega)]; omega
    have HCC := Aside0.mk (Kd.R_reads' HP.out.row).2.1
    clear hn hpos hle hm
    go_enter Try.func11, Try.ntmps11
    go_wp2_with (first
      | ((with_reducible refine gate_dst (N := 2) rfl ?_); refine box_event ?hg (N := 2) ?hd (cs := #[.int .i64 0, .int .i64 0]) (t := 34) ?hr ?_; (case hd => rfl); (case hg => rfl); (case hr => first | (go_simp; done) | (go_simp; rfl)); intro gr hg w2 hbox hb; have n0_ := Aside0.mk (below_step HB.out hb); have n1_ := Aside0.mk ((HP.out.elder gr (Nat.le_of_eq hg.symm)).below hb); have n2_ := Aside0.mk (HK.out.below hb); have NGr := Aside0.mk (show g ≠ gr by rw [hg]; exact Nat.ne_of_lt (blk_lt HP.out.blk)); have GR := Aside0.mk (show w.heap.size ≤ gr by rw [hg]; exact HK.out.1); have GRb := Aside0.mk (show w0.heap.size ≤ gr by rw [hg]; exact below_size HB.out); have BKr := Aside0.mk hbox; clear HB HP HK; have HB := n0_; have HP := n1_; have HK := n2_; clear n0_ n1_ n2_ hb hbox hg)
      | (go_at_call 13; refine (Pile_Least.calls g most _ l _ HP.out).mono ?_; rintro e w3 ⟨rfl, hb⟩; rw [HY.out]; have n0_ := Aside0.mk (below_step HB.out hb); have n1_ := Aside0.mk (HP.out.below hb); have n2_ := Aside0.mk (HK.out.below hb); have n4_ := Aside0.mk (blk_below BKr.out hb); clear HB HP HK BKr hb; have HB := n0_; have HP := n1_; have HK := n2_; have BKr := n4_; clear n0_ n1_ n2_ n4_)
      | ((with_reducible refine gate_dst (N := 4) rfl ?_); refine box_event ?hg (N := 4) ?hd (cs := #[.int .i64 0, .int .i64 0]) (t := 34) ?hr ?_; (case hd => rfl); (case hg => rfl); (case hr => first | (go_simp; done) | (go_simp; rfl)); intro gx hg w4 hbox hb; have n0_ := Aside0.mk (below_step HB.out hb); have n1_ := Aside0.mk ((HP.out.elder gx (Nat.le_of_eq hg.symm)).below hb); have n2_ := Aside0.mk (HK.out.below hb); have n4_ := Aside0.mk (blk_below BKr.out hb); have NGx := Aside0.mk (show g ≠ gx by rw [hg]; exact Nat.ne_of_lt (blk_lt HP.out.blk)); have GX := Aside0.mk (show w.heap.size ≤ gx by rw [hg]; exact HK.out.1); have GXb := Aside0.mk (show w0.heap.size ≤ gx by rw [hg]; exact below_size HB.out); have NRX := Aside0.mk (show gr ≠ gx by rw [hg]; exact Nat.ne_of_lt (blk_lt BKr.out)); have BKx := Aside0.mk hbox; clear HB HP HK BKr; have HB := n0_; have HP := n1_; have HK := n2_; have BKr := n4_; clear n0_ n1_ n2_ n4_ hb hbox hg; have zx0 : w4.cell? ⟨gx, 0, none⟩ = some (.int .i64 0) := (blk_cell BKx.out 0).trans rfl; have zx1 : w4.cell? ⟨gx, 1, none⟩ = some (.int .i64 0) := (blk_cell BKx.out 1).trans rfl; have yx0 := blk_frozen BKx.out 0; have yx1 := blk_frozen BKx.out 1)
      | ((with_reducible refine gate_store (t := 34) (p := 4) rfl ?_); refine store_event (t := 34) (p := 4) (v := ?vo3) (w1 := ?wo3) ?hg ?ho ?hn ?hr ?_; (case ho => rfl); (case hg => rfl); (case hn => rfl); (case hr => first | (go_simp; done) | (go_simp; rfl)); intro w5 hw; have n0_ := Aside0.mk (show Below w0.heap.size w0 w5 from (by rw [hw]; exact below_set (below_set HB.out GXb.out) GXb.out)); have n1_ := Aside0.mk (show PileC w5 w0.heap.size (fun k => (ok k ∧ k ≠ gr) ∧ k ≠ gx) g most (.slice (some ⟨g0, 0, none⟩) n c0) l from (by rw [hw]; exact (HP.out.far NGx.out (fun hk => hk.2 rfl) _).far NGx.out (fun hk => hk.2 rfl) _)); have n2_ := Aside0.mk (show Kept w w5 (fun k => k = g ∨ ok k) from (by rw [hw]; exact Kept.setCell (p := ⟨gx, 1, none⟩) (Kept.setCell (p := ⟨gx, 0, none⟩) HK.out (Or.inr GX.out) _) (Or.inr GX.out) _)); have n3_ := Aside0.mk (show w5.heap[gx]? = some (.cells #[.int .i64 x.f0, .int .i64 x.f1] 34 (0, 0)) from (by rw [hw]; exact blk_put (cs' := #[.int .i64 x.f0, .int .i64 x.f1]) (blk_put (cs' := #[.int .i64 x.f0, .int .i64 0]) BKx.out 0 _ rfl) 1 _ rfl)); have n4_ := Aside0.mk (show w5.heap[gr]? = some (.cells #[.int .i64 0, .int .i64 0] 34 (0, 0)) from (by rw [hw]; exact blk_far (p := ⟨gx, 1, none⟩) (blk_far (p := ⟨gx, 0, none⟩) BKr.out NRX.out _) NRX.out _)); clear HB HP HK BKx BKr hw zx0 zx1 yx0 yx1; have HB := n0_; have HP := n1_; have HK := n2_; have BKx := n3_; have BKr := n4_; clear n0_ n1_ n2_ n3_ n4_; have zg : w5.cell? ⟨g, 1, none⟩ = some (.slice (some ⟨g0, 0, none⟩) n c0) := (blk_cell HP.out.blk 1).trans rfl))
    rw [hn1]
    clear zg hn1
    have n0_ := Aside0.mk (below_drew1 HB.out)
    have n1_ := Aside0.mk HP.out.drew
    have n2_ := Aside0.mk (Kept.drew HK.out)
    have n3_ := Aside0.mk (blk_drew BKx.out)
    have n4_ := Aside0.mk (blk_drew BKr.out)
    clear HB HP HK BKx BKr
    have HB := n0_
    have HP := n1_
    have HK := n2_
    have BKx := n3_
    have BKr := n4_
    clear n0_ n1_ n2_ n3_ n4_
    obtain ⟨b0, b1, hbi⟩ : ∃ a b, l[m]'(by have := HN.out; have := HM.out; omega) = (⟨a, b⟩ : S34) := ⟨_, _, rfl⟩
    have HBI := Aside0.mk hbi
    have hpm := pair_at HP.out.row m (by have := HN.out; have := HM.out; omega)
    rw [hbi] at hpm
    have hp0 := pair_at HP.out.row 0 HPOS.out
    clear hbi
    have pm0 := eq_true (show (0 : Int) ≤ (m : Int) by omega)
    have pm1 := eq_true (show (m : Int) < (n : Int) by have := HM.out; omega)
    have pm2 := eq_true (show (0 : Int) < (n : Int) by have := HM.out; omega)
    have pm3 := eq_true (show 0 < n by have := HM.out; omega)
    refine start_ (n := 13) (S := fun w' => w'.cell? ⟨g, 1, none⟩ = some (.slice (some ⟨g0, 0, none⟩) n c0) ∧ w'.cell? ⟨g0, m * 2, none⟩ = some (.int .i64 b0) ∧ w'.cell? ⟨g0, m * 2 + 1, none⟩ = some (.int .i64 b1)) (ds := [12]) #[Ff,Ff,Ff,Ff,Ff,Ff,Ff,Ff,Ff,Ff,Ff,Ff,Ff] (by kernel_rfl) rfl rfl ⟨(blk_cell HP.out.blk 1).trans rfl, hpm.1, hpm.2.1⟩ (fun hHeld => ?_)
    clear hpm
    generalize w5.drew = w6 at HB HP HK BKx BKr hp0 hHeld ⊢
    have hz0 : w6.cell? ⟨g0, 0, none⟩ = _ := hp0.1
    have hz1 : w6.cell? ⟨g0, 1, none⟩ = _ := hp0.2.1
    have hy0 : w6.frozen? ⟨g0, 0, none⟩ = false := hp0.2.2.1
    have hy1 : w6.frozen? ⟨g0, 1, none⟩ = false := hp0.2.2.2
    clear hp0
    refine with_tabW Pile_Pop.tab5 Pile_Pop.bits5 (fun HT_ HW_ => ?_)
    refine pv_ 0 24 #[Tt,Ff,Ff,Ff,Ff,Ff,Ff,Ff,Ff,Ff,Ff,Ff,Ff] ?_
    refine pv_ 1 25 #[Tt,Tt,Ff,Ff,Ff,Ff,Ff,Ff,Ff,Ff,Ff,Ff,Ff] ?_
    refine pv_ 2 26 #[Tt,Tt,Tt,Ff,Ff,Ff,Ff,Ff,Ff,Ff,Ff,Ff,Ff] ?_
    refine pv_ 4 28 #[Tt,Tt,Tt,Ff,Tt,Ff,Ff,Ff,Ff,Ff,Ff,Ff,Ff] ?_
    refine pv_ 5 29 #[Tt,Tt,Tt,Ff,Tt,Tt,Ff,Ff,Ff,Ff,Ff,Ff,Ff] ?_
    refine pv_ 6 30 #[Tt,Tt,Tt,Ff,Tt,Tt,Tt,Ff,Ff,Ff,Ff,Ff,Ff] ?_
    refine pv_ 8 32 #[Tt,Tt,Tt,Ff,Tt,Tt,Tt,Ff,Tt,Ff,Ff,Ff,Ff] ?_
    refine take_ (i := 3) (N := (some 27)) (v := ?_) (a' := ?_) #[Tt,Tt,Tt,Tt,Tt,Tt,Tt,Ff,Tt,Ff,Ff,Ff,Ff] rfl rfl (take_ofW HT_.out HW_.out (by kernel_rfl)) (fun _ _ _ h => h) (Or.inl ⟨by rfl, ?_⟩) hHeld ?_ ?_
    rotate_left
    · rintro w' ⟨s0, s1, s2⟩
      go_simp
      with_reducible rfl
    rotate_left
    exact ap_
    refine take_ (i := 7) (N := (some 31)) (v := ?_) (a' := ?_) #[Tt,Tt,Tt,Tt,Tt,Tt,Tt,Tt,Tt,Ff,Ff,Ff,Ff] rfl rfl (take_ofW HT_.out HW_.out (by kernel_rfl)) (fun _ _ _ h => h) (Or.inl ⟨by rfl, ?_⟩) hHeld ?_ ?_
    rotate_left
    · rintro w' ⟨s0, s1, s2⟩
      go_simp
      with_reducible rfl
    rotate_left
    exact ap_
    refine pv_ 9 33 #[Tt,Tt,Tt,Tt,Tt,Tt,Tt,Tt,Tt,Tt,Ff,Ff,Ff] ?_
    refine take_ (i := 10) (N := (some 34)) (v := ?_) (a' := ?_) #[Tt,Tt,Tt,Tt,Tt,Tt,Tt,Tt,Tt,Tt,Tt,Ff,Ff] rfl rfl (take_ofW HT_.out HW_.out (by kernel_rfl)) (fun _ _ _ h => h) (Or.inl ⟨by rfl, ?_⟩) hHeld ?_ ?_
    rotate_left
    · rintro w' ⟨s0, s1, s2⟩
      go_simp
      with_reducible rfl
    rotate_left
    exact ap_
    refine pv_ 11 35 #[Tt,Tt,Tt,Tt,Tt,Tt,Tt,Tt,Tt,Tt,Tt,Tt,Ff] ?_
    refine last_ (i := 12) (N := none) #[Tt,Tt,Tt,Tt,Tt,Tt,Tt,Tt,Tt,Tt,Tt,Tt,Tt] rfl rfl (one_of HT_.out (by kernel_rfl)) (by decide) (fun K hK => ?_)
    refine skip_ (w1 := ?_) (by rfl) rfl ?_ ?_
    rotate_left
    · go_simp
      rfl
    refine hK.out _ _ ?_
    clear hK K hz0 hz1 hy0 hy1 hHeld
    have hput := HP.out.put HB.out 0 HPOS.out (⟨b0, b1⟩ : S34)
    simp only [Nat.zero_mul, Nat.zero_add] at hput
    have n0_ := Aside0.mk hput.1
    have n1_ := Aside0.mk hput.2.1
    have n2_ := Aside0.mk (Kept.then_ HK.out hput.2.2 (fun k hk => Or.inl (hk.elim Or.inl (fun h_ => Or.inr h_.1.1))))
    have n3_ := Aside0.mk (Kept.blk (S := fun k => k = g ∨ ((ok k ∧ k ≠ gr) ∧ k ≠ gx)) hput.2.2 BKx.out (fun hc => by rcases hc with hc | hc; (exact NGx.out hc.symm); (exact hc.2 rfl)))
    have n4_ := Aside0.mk (Kept.blk (S := fun k => k = g ∨ ((ok k ∧ k ≠ gr) ∧ k ≠ gx)) hput.2.2 BKr.out (fun hc => by rcases hc with hc | hc; (exact NGr.out hc.symm); (exact hc.1.2 rfl)))
    clear HB HP HK BKx BKr hput
    have HP := n0_
    have HB := n1_
    have HK := n2_
    have BKx := n3_
    have BKr := n4_
    clear n0_ n1_ n2_ n3_ n4_
    refine done_ (done_of HT_.out (by kernel_rfl)) ?_
    generalize (w6.setCell ⟨g0, 0, none⟩ (.int .i64 b0)).setCell ⟨g0, 1, none⟩ (.int .i64 b1) = w7 at HB HP HK BKx BKr ⊢
    have zg : w7.cell? ⟨g, 1, none⟩ = some (.slice (some ⟨g0, 0, none⟩) n c0) := (blk_cell HP.out.blk 1).trans rfl
    have yg := blk_frozen HP.out.blk 1
    have pm4 := eq_true (show (m : Int) ≤ (c0 : Int) by have := HM.out; have := HCC.out; omega)
    have pm5 := eq_true (show m ≤ c0 by have := HM.out; have := HCC.out; omega)
    clear HT_ HW_
    go_wp2
    have hcut : (l.set 0 (⟨b0, b1⟩ : S34)).take m = cutL l := by
      unfold cutL
      have e1 : l.length - 1 = m := by have := HN.out; have := HM.out; omega
      rw [e1, List.getD_eq_getElem?_getD, List.getElem?_eq_getElem (show m < l.length by have := HN.out; have := HM.out; omega), HBI.out]
      rfl
    have hPc := HP.out.cut (m := m) (by rw [List.length_set]; have := HN.out; have := HM.out; omega)
    rw [hcut] at hPc
    have n0_ := Aside0.mk hPc
    have n1_ := Aside0.mk (below_set HB.out HP.out.ge (j := 1) (v := (.slice (some ⟨g0, 0, none⟩) m c0)))
    have n2_ := Aside0.mk (Kept.setCell (p := ⟨g, 1, none⟩) HK.out (Or.inl (Or.inl rfl)) (.slice (some ⟨g0, 0, none⟩) m c0))
    have n3_ := Aside0.mk (blk_far (p := ⟨g, 1, none⟩) BKx.out NGx.out.symm (.slice (some ⟨g0, 0, none⟩) m c0))
    have n4_ := Aside0.mk (blk_far (p := ⟨g, 1, none⟩) BKr.out NGr.out.symm (.slice (some ⟨g0, 0, none⟩) m c0))
    clear HB HP HK BKx BKr zg yg pm4 pm5 hPc hcut pm0 pm1 pm2 pm3
    have HP := n0_
    have HB := n1_
    have HK := n2_
    have BKx := n3_
    have BKr := n4_
    clear n0_ n1_ n2_ n3_ n4_
    generalize w7.setCell ⟨g, 1, none⟩ (.slice (some ⟨g0, 0, none⟩) m c0) = w8 at HB HP HK BKx BKr ⊢
    have HLM : Aside0 ((cutL l).length = m) := ⟨by rw [cutL_length]; have := HN.out; have := HM.out; omega⟩
    have HM2 : Aside0 (m ≤ 65536) := ⟨by have := HN.out; have := HM.out; have := HL.out; omega⟩
    go_loopg [7] m (fun kq v7 w' => ∃ (i : Nat) (xs : List S34), v7 = .int .i64 (i : Int) ∧ Aside0 (m ≤ i + kq) ∧ Aside0 (xs.length = m ∧ (i < m ∨ i = 0) ∧ HeapDown xs.length (fA xs) i ∧ xs.Perm (cutL l)) ∧ Aside0 (Below w0.heap.size w0 w') ∧ Aside0 (PileC w' w0.heap.size (fun k => (ok k ∧ k ≠ gr) ∧ k ≠ gx) g most (.slice (some ⟨g0, 0, none⟩) m c0) xs) ∧ Aside0 (Kept w w' (fun k => k = g ∨ ok k)) ∧ Aside0 (w'.heap[gx]? = some (.cells #[.int .i64 x.f0, .int .i64 x.f1] 34 (0, 0))) ∧ Aside0 (w'.heap[gr]? = some (.cells #[.int .i64 0, .int .i64 0] 34 (0, 0))))
    case atStart => exact ⟨0, cutL l, rfl, ⟨by omega⟩, ⟨HLM.out, .inr rfl, heap_cut HH.out HPOS.out, List.Perm.refl _⟩, HB, HP, HK, BKx, BKr⟩
    case round =>
      clear HB HP HK BKx BKr
      obtain ⟨i, xs, rfl, HI, HX, HB, HP, HK, BKx, BKr⟩ := hrel
      have hfinal : Aside0 (∀ (ys : List S34), Heaped ys.length (fA ys) → ys.Perm (cutL l) → popRel l ys) := ⟨fun ys _ hp => by
        rw [HLE.out]
        show (x :: ys).Perm (x :: r)
        have h2 := cut_perm HPOS.out
        rw [show l[0]'HPOS.out = x from by have := HLE.out; subst this; rfl] at h2
        have h3 := (List.Perm.cons x hp).trans h2
        rw [HLE.out] at h3
        exact h3⟩
      by_cases ci : i < m
      · cases gk with
        | zero => exact absurd HI.out (by omega)
        | succ gk =>
          have c1 : decide ((i : Int) < (m : Int)) = true := decide_eq_true (by omega)
          have c2 : decide (i < m) = true := decide_eq_true ci
          go_wp2
          clear c1 c2
          have HCI := Aside0.mk ci
          have n0_ := Aside0.mk (below_drew1 HB.out)
          have n1_ := Aside0.mk HP.out.drew
          have n2_ := Aside0.mk (Kept.drew HK.out)
          have n3_ := Aside0.mk (blk_drew BKx.out)
          have n4_ := Aside0.mk (blk_drew BKr.out)
          clear HB HP HK BKx BKr
          have HB := n0_
          have HP := n1_
          have HK := n2_
          have BKx := n3_
          have BKr := n4_
          clear n0_ n1_ n2_ n3_ n4_
          have hbi : (i : Int) ≤ 65536 := by have := HM2.out; omega
          have wa : wrap64 (wrap64 (2 * (i : Int)) + 1) = ((2 * i + 1 : Nat) : Int) := by rw [wrapId (n := 2 * (i : Int)) (by omega) (by omega), wrapId (by omega) (by omega)]; omega
          have wb : wrap64 (wrap64 (2 * (i : Int)) + 2) = ((2 * i + 2 : Nat) : Int) := by rw [wrapId (n := 2 * (i : Int)) (by omega) (by omega), wrapId (by omega) (by omega)]; omega
          have WA := Aside0.mk wa
          have WB := Aside0.mk wb
          clear ci hbi wa wb
          refine start_ (n := 26) (S := fun w' => w'.cell? ⟨g, 1, none⟩ = some (.slice (some ⟨g0, 0, none⟩) m c0) ∧ w'.cell? ⟨g, 2, none⟩ = some (.func (.func 29) #[] #[])) (ds := []) #[Ff,Ff,Ff,Ff,Ff,Ff,Ff,Ff,Ff,Ff,Ff,Ff,Ff,Ff,Ff,Ff,Ff,Ff,Ff,Ff,Ff,Ff,Ff,Ff,Ff,Ff] (by kernel_rfl) rfl rfl ⟨(blk_cell HP.out.blk 1).trans rfl, (blk_cell HP.out.blk 2).trans rfl⟩ (fun hHeld => ?_)
          generalize wr.drew = w9 at HB HP HK BKx BKr hHeld ⊢
          refine with_tabW Pile_Pop.tab9 Pile_Pop.bits9 (fun HT_ HW_ => ?_)
          refine pv_ 0 48 #[Tt,Ff,Ff,Ff,Ff,Ff,Ff,Ff,Ff,Ff,Ff,Ff,Ff,Ff,Ff,Ff,Ff,Ff,Ff,Ff,Ff,Ff,Ff,Ff,Ff,Ff] ?_
          refine pv_ 1 49 #[Tt,Tt,Ff,Ff,Ff,Ff,Ff,Ff,Ff,Ff,Ff,Ff,Ff,Ff,Ff,Ff,Ff,Ff,Ff,Ff,Ff,Ff,Ff,Ff,Ff,Ff] ?_
          refine pv_ 2 50 #[Tt,Tt,Tt,Ff,Ff,Ff,Ff,Ff,Ff,Ff,Ff,Ff,Ff,Ff,Ff,Ff,Ff,Ff,Ff,Ff,Ff,Ff,Ff,Ff,Ff,Ff] ?_
          refine pv_ 4 52 #[Tt,Tt,Tt,Ff,Tt,Ff,Ff,Ff,Ff,Ff,Ff,Ff,Ff,Ff,Ff,Ff,Ff,Ff,Ff,Ff,Ff,Ff,Ff,Ff,Ff,Ff] ?_
          refine pv_ 5 53 #[Tt,Tt,Tt,Ff,Tt,Tt,Ff,Ff,Ff,Ff,Ff,Ff,Ff,Ff,Ff,Ff,Ff,Ff,Ff,Ff,Ff,Ff,Ff,Ff,Ff,Ff] ?_
          refine pv_ 6 54 #[Tt,Tt,Tt,Ff,Tt,Tt,Tt,Ff,Ff,Ff,Ff,Ff,Ff,Ff,Ff,Ff,Ff,Ff,Ff,Ff,Ff,Ff,Ff,Ff,Ff,Ff] ?_
          refine pv_ 8 56 #[Tt,Tt,Tt,Ff,Tt,Tt,Tt,Ff,Tt,Ff,Ff,Ff,Ff,Ff,Ff,Ff,Ff,Ff,Ff,Ff,Ff,Ff,Ff,Ff,Ff,Ff] ?_
          refine pv_ 9 57 #[Tt,Tt,Tt,Ff,Tt,Tt,Tt,Ff,Tt,Tt,Ff,Ff,Ff,Ff,Ff,Ff,Ff,Ff,Ff,Ff,Ff,Ff,Ff,Ff,Ff,Ff] ?_
          refine pv_ 10 58 #[Tt,Tt,Tt,Ff,Tt,Tt,Tt,Ff,Tt,Tt,Tt,Ff,Ff,Ff,Ff,Ff,Ff,Ff,Ff,Ff,Ff,Ff,Ff,Ff,Ff,Ff] ?_
          refine pv_ 11 59 #[Tt,Tt,Tt,Ff,Tt,Tt,Tt,Ff,Tt,Tt,Tt,Tt,Ff,Ff,Ff,Ff,Ff,Ff,Ff,Ff,Ff,Ff,Ff,Ff,Ff,Ff] ?_
          refine pv_ 12 60 #[Tt,Tt,Tt,Ff,Tt,Tt,Tt,Ff,Tt,Tt,Tt,Tt,Tt,Ff,Ff,Ff,Ff,Ff,Ff,Ff,Ff,Ff,Ff,Ff,Ff,Ff] ?_
          refine pv_ 13 61 #[Tt,Tt,Tt,Ff,Tt,Tt,Tt,Ff,Tt,Tt,Tt,Tt,Tt,Tt,Ff,Ff,Ff,Ff,Ff,Ff,Ff,Ff,Ff,Ff,Ff,Ff] ?_
          refine pv_ 14 62 #[Tt,Tt,Tt,Ff,Tt,Tt,Tt,Ff,Tt,Tt,Tt,Tt,Tt,Tt,Tt,Ff,Ff,Ff,Ff,Ff,Ff,Ff,Ff,Ff,Ff,Ff] ?_
          refine pv_ 17 65 #[Tt,Tt,Tt,Ff,Tt,Tt,Tt,Ff,Tt,Tt,Tt,Tt,Tt,Tt,Tt,Ff,Ff,Tt,Ff,Ff,Ff,Ff,Ff,Ff,Ff,Ff] ?_
          refine pv_ 18 66 #[Tt,Tt,Tt,Ff,Tt,Tt,Tt,Ff,Tt,Tt,Tt,Tt,Tt,Tt,Tt,Ff,Ff,Tt,Tt,Ff,Ff,Ff,Ff,Ff,Ff,Ff] ?_
          refine pv_ 19 67 #[Tt,Tt,Tt,Ff,Tt,Tt,Tt,Ff,Tt,Tt,Tt,Tt,Tt,Tt,Tt,Ff,Ff,Tt,Tt,Tt,Ff,Ff,Ff,Ff,Ff,Ff] ?_
          refine pv_ 20 68 #[Tt,Tt,Tt,Ff,Tt,Tt,Tt,Ff,Tt,Tt,Tt,Tt,Tt,Tt,Tt,Ff,Ff,Tt,Tt,Tt,Tt,Ff,Ff,Ff,Ff,Ff] ?_
          refine pv_ 21 69 #[Tt,Tt,Tt,Ff,Tt,Tt,Tt,Ff,Tt,Tt,Tt,Tt,Tt,Tt,Tt,Ff,Ff,Tt,Tt,Tt,Tt,Tt,Ff,Ff,Ff,Ff] ?_
          refine pv_ 22 70 #[Tt,Tt,Tt,Ff,Tt,Tt,Tt,Ff,Tt,Tt,Tt,Tt,Tt,Tt,Tt,Ff,Ff,Tt,Tt,Tt,Tt,Tt,Tt,Ff,Ff,Ff] ?_
          refine take_ (i := 3) (N := (some 51)) (v := ?_) (a' := ?_) #[Tt,Tt,Tt,Tt,Tt,Tt,Tt,Ff,Tt,Tt,Tt,Tt,Tt,Tt,Tt,Ff,Ff,Tt,Tt,Tt,Tt,Tt,Tt,Ff,Ff,Ff] rfl rfl (take_ofW HT_.out HW_.out (by kernel_rfl)) (fun _ _ _ h => h) (Or.inl ⟨by rfl, ?_⟩) hHeld ?_ ?_
          rotate_left
          · rintro w' ⟨s0, s1⟩
            go_simp
            with_reducible rfl
          rotate_left
          exact ap_
          refine take_ (i := 7) (N := (some 55)) (v := ?_) (a' := ?_) #[Tt,Tt,Tt,Tt,Tt,Tt,Tt,Tt,Tt,Tt,Tt,Tt,Tt,Tt,Tt,Ff,Ff,Tt,Tt,Tt,Tt,Tt,Tt,Ff,Ff,Ff] rfl rfl (take_ofW HT_.out HW_.out (by kernel_rfl)) (fun _ _ _ h => h) (Or.inl ⟨by rfl, ?_⟩) hHeld ?_ ?_
          rotate_left
          · rintro w' ⟨s0, s1⟩
            go_simp
            with_reducible rfl
          rotate_left
          exact ap_
          refine take_ (i := 15) (N := (some 63)) (v := ?_) (a' := ?_) #[Tt,Tt,Tt,Tt,Tt,Tt,Tt,Tt,Tt,Tt,Tt,Tt,Tt,Tt,Tt,Tt,Ff,Tt,Tt,Tt,Tt,Tt,Tt,Ff,Ff,Ff] rfl rfl (take_ofW HT_.out HW_.out (by kernel_rfl)) (fun _ _ _ h => h) (Or.inl ⟨by rfl, ?_⟩) hHeld ?_ ?_
          rotate_left
          · rintro w' ⟨s0, s1⟩
            go_simp
            with_reducible rfl
          rotate_left
          exact ap_
          refine take_ (i := 23) (N := (some 71)) (v := ?_) (a' := ?_) #[Tt,Tt,Tt,Tt,Tt,Tt,Tt,Tt,Tt,Tt,Tt,Tt,Tt,Tt,Tt,Tt,Ff,Tt,Tt,Tt,Tt,Tt,Tt,Tt,Ff,Ff] rfl rfl (take_ofW HT_.out HW_.out (by kernel_rfl)) (fun _ _ _ h => h) (Or.inl ⟨by rfl, ?_⟩) hHeld ?_ ?_
          rotate_left
          · rintro w' ⟨s0, s1⟩
            go_simp
            with_reducible rfl
          rotate_left
          exact ap_
          refine one_ (i := 16) (N := (some 64)) #[Tt,Tt,Tt,Tt,Tt,Tt,Tt,Tt,Tt,Tt,Tt,Tt,Tt,Tt,Tt,Tt,Tt,Tt,Tt,Tt,Tt,Tt,Tt,Tt,Ff,Ff] rfl rfl (one_of HT_.out (by kernel_rfl)) (by decide) (fun K hK => ?_)
          refine goes_ Try.func30 (by kernel_rfl) rfl #[.slice (some ⟨g0, 0, none⟩) m c0, .int .i64 (i : Int), .int .i64 (wrap64 (wrap64 (2 * (i : Int)) + 1)), .func (.func 29) #[] #[]] (by rfl) rfl rfl (by (try simp only [List.map_toArray, List.map_cons, List.map_nil]); first | done | rfl) ?_
          rw [WA.out]
          refine (pile_first.calls g0 m c0 xs i (2 * i + 1) _ HP.out.row (by rw [HX.out.1]; exact HCI.out)).mono ?_
          rintro e w10 ⟨rfl, hb⟩
          refine ⟨_, rfl, ?_⟩
          have hf1 : firstN xs i (2 * i + 1) < xs.length := by unfold firstN; split; (rename_i hh; exact hh.1); (rw [HX.out.1]; exact HCI.out)
          obtain ⟨f1, hfe⟩ : ∃ f, firstN xs i (2 * i + 1) = f := ⟨_, rfl⟩
          rw [hfe] at hf1 ⊢
          have HF1 := Aside0.mk hf1
          have HFE := Aside0.mk hfe
          clear hf1 hfe
          have n0_ := Aside0.mk (below_step HB.out hb)
          have n1_ := Aside0.mk (HP.out.below hb)
          have n2_ := Aside0.mk (HK.out.below hb)
          have n3_ := Aside0.mk (blk_below BKx.out hb)
          have n4_ := Aside0.mk (blk_below BKr.out hb)
          clear HB HP HK BKx BKr hb hHeld
          have HB := n0_
          have HP := n1_
          have HK := n2_
          have BKx := n3_
          have BKr := n4_
          clear n0_ n1_ n2_ n3_ n4_
          refine hK.out _ _ ⟨(blk_cell HP.out.blk 1).trans rfl, (blk_cell HP.out.blk 2).trans rfl⟩ (fun hHeld => ?_)
          clear hK K
          refine norm_ (a' := ?_) ?_ ?_
          rotate_left
          · show Act.put _ (some 64) _ = _
            simp only [Act.put, List.setIfInBounds_toArray, List.set_cons_zero, List.set_cons_succ, i64_w, i32_w]
            rfl
          refine one_ (i := 24) (N := (some 72)) #[Tt,Tt,Tt,Tt,Tt,Tt,Tt,Tt,Tt,Tt,Tt,Tt,Tt,Tt,Tt,Tt,Tt,Tt,Tt,Tt,Tt,Tt,Tt,Tt,Tt,Ff] rfl rfl (one_of HT_.out (by kernel_rfl)) (by decide) (fun K hK => ?_)
          refine goes_ Try.func30 (by kernel_rfl) rfl #[.slice (some ⟨g0, 0, none⟩) m c0, .int .i64 (f1 : Int), .int .i64 (wrap64 (wrap64 (2 * (i : Int)) + 2)), .func (.func 29) #[] #[]] (by rfl) rfl rfl (by (try simp only [List.map_toArray, List.map_cons, List.map_nil]); first | done | rfl) ?_
          rw [WB.out]
          refine (pile_first.calls g0 m c0 xs f1 (2 * i + 2) _ HP.out.row HF1.out).mono ?_
          rintro e w11 ⟨rfl, hb⟩
          refine ⟨_, rfl, ?_⟩
          have hk1 : firstN xs f1 (2 * i + 2) < xs.length := by unfold firstN; split; (rename_i hh; exact hh.1); exact HF1.out
          have hlow : lowest xs.length (fA xs) i = firstN xs f1 (2 * i + 2) := by rw [lowest_first, HFE.out]
          obtain ⟨k, hke⟩ : ∃ f, firstN xs f1 (2 * i + 2) = f := ⟨_, rfl⟩
          rw [hke] at hk1 hlow ⊢
          have HK1 := Aside0.mk hk1
          have HLOW := Aside0.mk hlow
          clear hk1 hlow hke
          have n0_ := Aside0.mk (below_step HB.out hb)
          have n1_ := Aside0.mk (HP.out.below hb)
          have n2_ := Aside0.mk (HK.out.below hb)
          have n3_ := Aside0.mk (blk_below BKx.out hb)
          have n4_ := Aside0.mk (blk_below BKr.out hb)
          clear HB HP HK BKx BKr hb hHeld
          have HB := n0_
          have HP := n1_
          have HK := n2_
          have BKx := n3_
          have BKr := n4_
          clear n0_ n1_ n2_ n3_ n4_
          refine hK.out _ _ ⟨(blk_cell HP.out.blk 1).trans rfl, (blk_cell HP.out.blk 2).trans rfl⟩ (fun hHeld => ?_)
          clear hK K
          refine norm_ (a' := ?_) ?_ ?_
          rotate_left
          · show Act.put _ (some 72) _ = _
            simp only [Act.put, List.setIfInBounds_toArray, List.set_cons_zero, List.set_cons_succ, i64_w, i32_w]
            rfl
          refine pv_ 25 8 #[Tt,Tt,Tt,Tt,Tt,Tt,Tt,Tt,Tt,Tt,Tt,Tt,Tt,Tt,Tt,Tt,Tt,Tt,Tt,Tt,Tt,Tt,Tt,Tt,Tt,Tt] ?_
          refine done_ (done_of HT_.out (by kernel_rfl)) ?_
          clear HT_ HW_ hHeld
          by_cases ck : k = i
          · have c3 : decide ((k : Int) = (i : Int)) = true := decide_eq_true (by omega)
            have c4 : ((k : Int) == (i : Int)) = true := by rw [ck]; exact beq_self_eq_true _
            have c5 : decide (k = i) = true := decide_eq_true ck
            have c6 : (k == i) = true := by rw [ck]; exact beq_self_eq_true _
            have HCK := Aside0.mk ck
            have HEAP := heapDown_done HX.out.2.2.1 (by rw [HLOW.out]; exact ck)
            have HEAP1 := Aside0.mk HEAP
            clear ck HEAP
            have zx0 : w11.cell? ⟨gx, 0, none⟩ = some (.int .i64 x.f0) := (blk_cell BKx.out 0).trans rfl
            have zx1 : w11.cell? ⟨gx, 1, none⟩ = some (.int .i64 x.f1) := (blk_cell BKx.out 1).trans rfl
            have zr0 : w11.cell? ⟨gr, 0, none⟩ = some (.int .i64 0) := (blk_cell BKr.out 0).trans rfl
            have zr1 : w11.cell? ⟨gr, 1, none⟩ = some (.int .i64 0) := (blk_cell BKr.out 1).trans rfl
            have yr0 := blk_frozen BKr.out 0
            have yr1 := blk_frozen BKr.out 1
            go_wp2
            refine bodyPost_ret (results_ct rfl _ _ gr 34 #[.int .i64 x.f0, .int .i64 x.f1] (0, 0) _ rfl (blk_put (cs' := #[.int .i64 x.f0, .int .i64 x.f1]) (blk_put (cs' := #[.int .i64 x.f0, .int .i64 0]) BKr.out 0 (.int .i64 x.f0) rfl) 1 (.int .i64 x.f1) rfl) Try.underlying34 rfl (by kernel_rfl)) rfl ?_
            exact ⟨below_set (below_set HB.out GRb.out) GRb.out, Kept.setCell (p := ⟨gr, 1, none⟩) (Kept.setCell (p := ⟨gr, 0, none⟩) HK.out (Or.inr GR.out) _) (Or.inr GR.out) _, rfl, _, xs, (((HP.out.mono (ok' := fun k => ok k ∧ k ≠ gr) (fun k hk => hk.1)).far NGr.out (fun hk => hk.2 rfl) _).far NGr.out (fun hk => hk.2 rfl) _).mono (fun k hk => hk.1), HEAP1.out, hfinal.out xs HEAP1.out HX.out.2.2.2⟩
          · have c3 : decide ((k : Int) = (i : Int)) = false := decide_eq_false (by omega)
            have c4 : ((k : Int) == (i : Int)) = false := beq_eq_false_iff_ne.2 (by omega)
            have c5 : decide (k = i) = false := decide_eq_false ck
            have c6 : (k == i) = false := by simpa using ck
            have HCK := Aside0.mk ck
            clear ck
            go_wp2
            clear c3 c4 c5 c6
            have n0_ := Aside0.mk (below_drew1 HB.out)
            have n1_ := Aside0.mk HP.out.drew
            have n2_ := Aside0.mk (Kept.drew HK.out)
            have n3_ := Aside0.mk (blk_drew BKx.out)
            have n4_ := Aside0.mk (blk_drew BKr.out)
            clear HB HP HK BKx BKr
            have HB := n0_
            have HP := n1_
            have HK := n2_
            have BKx := n3_
            have BKr := n4_
            clear n0_ n1_ n2_ n3_ n4_
            obtain ⟨a0, a1, hai⟩ : ∃ a b, xs[i]'(by rw [HX.out.1]; exact HCI.out) = (⟨a, b⟩ : S34) := ⟨_, _, rfl⟩
            obtain ⟨d0, d1, hdi⟩ : ∃ a b, xs[k]'HK1.out = (⟨a, b⟩ : S34) := ⟨_, _, rfl⟩
            have hpi := pair_at HP.out.row i (by rw [HX.out.1]; exact HCI.out)
            have hpp := pair_at HP.out.row k HK1.out
            rw [hai] at hpi
            rw [hdi] at hpp
            have HAI := Aside0.mk hai
            have HDI := Aside0.mk hdi
            clear hai hdi
            have pi0 := eq_true (show (0 : Int) ≤ (i : Int) by omega)
            have pi1 := eq_true (show (i : Int) < (m : Int) by have := HCI.out; omega)
            have pk0 := eq_true (show (0 : Int) ≤ (k : Int) by omega)
            have pk1 := eq_true (show (k : Int) < (m : Int) by have := HK1.out; have := HX.out.1; omega)
            refine start_ (n := 28) (S := fun w' => w'.cell? ⟨g, 1, none⟩ = some (.slice (some ⟨g0, 0, none⟩) m c0) ∧ w'.cell? ⟨g0, i * 2, none⟩ = some (.int .i64 a0) ∧ w'.cell? ⟨g0, i * 2 + 1, none⟩ = some (.int .i64 a1) ∧ w'.cell? ⟨g0, k * 2, none⟩ = some (.int .i64 d0) ∧ w'.cell? ⟨g0, k * 2 + 1, none⟩ = some (.int .i64 d1)) (ds := [25, 27]) #[Ff,Ff,Ff,Ff,Ff,Ff,Ff,Ff,Ff,Ff,Ff,Ff,Ff,Ff,Ff,Ff,Ff,Ff,Ff,Ff,Ff,Ff,Ff,Ff,Ff,Ff,Ff,Ff] (by kernel_rfl) rfl rfl ⟨(blk_cell HP.out.blk 1).trans rfl, hpi.1, hpi.2.1, hpp.1, hpp.2.1⟩ (fun hHeld => ?_)
            generalize w11.drew = w12 at HB HP HK BKx BKr hpi hpp hHeld ⊢
            have hy0 := hpi.2.2.1
            have hy1 := hpi.2.2.2
            have hz0 := hpi.1
            have hz1 := hpi.2.1
            clear hpi hpp
            refine with_tabW Pile_Pop.tab11 Pile_Pop.bits11 (fun HT_ HW_ => ?_)
            refine pv_ 0 76 #[Tt,Ff,Ff,Ff,Ff,Ff,Ff,Ff,Ff,Ff,Ff,Ff,Ff,Ff,Ff,Ff,Ff,Ff,Ff,Ff,Ff,Ff,Ff,Ff,Ff,Ff,Ff,Ff] ?_
            refine pv_ 1 77 #[Tt,Tt,Ff,Ff,Ff,Ff,Ff,Ff,Ff,Ff,Ff,Ff,Ff,Ff,Ff,Ff,Ff,Ff,Ff,Ff,Ff,Ff,Ff,Ff,Ff,Ff,Ff,Ff] ?_
            refine pv_ 2 78 #[Tt,Tt,Tt,Ff,Ff,Ff,Ff,Ff,Ff,Ff,Ff,Ff,Ff,Ff,Ff,Ff,Ff,Ff,Ff,Ff,Ff,Ff,Ff,Ff,Ff,Ff,Ff,Ff] ?_
            refine pv_ 4 80 #[Tt,Tt,Tt,Ff,Tt,Ff,Ff,Ff,Ff,Ff,Ff,Ff,Ff,Ff,Ff,Ff,Ff,Ff,Ff,Ff,Ff,Ff,Ff,Ff,Ff,Ff,Ff,Ff] ?_
            refine pv_ 5 81 #[Tt,Tt,Tt,Ff,Tt,Tt,Ff,Ff,Ff,Ff,Ff,Ff,Ff,Ff,Ff,Ff,Ff,Ff,Ff,Ff,Ff,Ff,Ff,Ff,Ff,Ff,Ff,Ff] ?_
            refine pv_ 6 82 #[Tt,Tt,Tt,Ff,Tt,Tt,Tt,Ff,Ff,Ff,Ff,Ff,Ff,Ff,Ff,Ff,Ff,Ff,Ff,Ff,Ff,Ff,Ff,Ff,Ff,Ff,Ff,Ff] ?_
            refine pv_ 7 83 #[Tt,Tt,Tt,Ff,Tt,Tt,Tt,Tt,Ff,Ff,Ff,Ff,Ff,Ff,Ff,Ff,Ff,Ff,Ff,Ff,Ff,Ff,Ff,Ff,Ff,Ff,Ff,Ff] ?_
            refine pv_ 9 85 #[Tt,Tt,Tt,Ff,Tt,Tt,Tt,Tt,Ff,Tt,Ff,Ff,Ff,Ff,Ff,Ff,Ff,Ff,Ff,Ff,Ff,Ff,Ff,Ff,Ff,Ff,Ff,Ff] ?_
            refine pv_ 10 86 #[Tt,Tt,Tt,Ff,Tt,Tt,Tt,Tt,Ff,Tt,Tt,Ff,Ff,Ff,Ff,Ff,Ff,Ff,Ff,Ff,Ff,Ff,Ff,Ff,Ff,Ff,Ff,Ff] ?_
            refine pv_ 11 87 #[Tt,Tt,Tt,Ff,Tt,Tt,Tt,Tt,Ff,Tt,Tt,Tt,Ff,Ff,Ff,Ff,Ff,Ff,Ff,Ff,Ff,Ff,Ff,Ff,Ff,Ff,Ff,Ff] ?_
            refine pv_ 12 88 #[Tt,Tt,Tt,Ff,Tt,Tt,Tt,Tt,Ff,Tt,Tt,Tt,Tt,Ff,Ff,Ff,Ff,Ff,Ff,Ff,Ff,Ff,Ff,Ff,Ff,Ff,Ff,Ff] ?_
            refine pv_ 14 90 #[Tt,Tt,Tt,Ff,Tt,Tt,Tt,Tt,Ff,Tt,Tt,Tt,Tt,Ff,Tt,Ff,Ff,Ff,Ff,Ff,Ff,Ff,Ff,Ff,Ff,Ff,Ff,Ff] ?_
            refine pv_ 17 93 #[Tt,Tt,Tt,Ff,Tt,Tt,Tt,Tt,Ff,Tt,Tt,Tt,Tt,Ff,Tt,Ff,Ff,Tt,Ff,Ff,Ff,Ff,Ff,Ff,Ff,Ff,Ff,Ff] ?_
            refine pv_ 18 94 #[Tt,Tt,Tt,Ff,Tt,Tt,Tt,Tt,Ff,Tt,Tt,Tt,Tt,Ff,Tt,Ff,Ff,Tt,Tt,Ff,Ff,Ff,Ff,Ff,Ff,Ff,Ff,Ff] ?_
            refine pv_ 19 95 #[Tt,Tt,Tt,Ff,Tt,Tt,Tt,Tt,Ff,Tt,Tt,Tt,Tt,Ff,Tt,Ff,Ff,Tt,Tt,Tt,Ff,Ff,Ff,Ff,Ff,Ff,Ff,Ff] ?_
            refine pv_ 21 97 #[Tt,Tt,Tt,Ff,Tt,Tt,Tt,Tt,Ff,Tt,Tt,Tt,Tt,Ff,Tt,Ff,Ff,Tt,Tt,Tt,Ff,Tt,Ff,Ff,Ff,Ff,Ff,Ff] ?_
            refine take_ (i := 3) (N := (some 79)) (v := ?_) (a' := ?_) #[Tt,Tt,Tt,Tt,Tt,Tt,Tt,Tt,Ff,Tt,Tt,Tt,Tt,Ff,Tt,Ff,Ff,Tt,Tt,Tt,Ff,Tt,Ff,Ff,Ff,Ff,Ff,Ff] rfl rfl (take_ofW HT_.out HW_.out (by kernel_rfl)) (fun _ _ _ h => h) (Or.inl ⟨by rfl, ?_⟩) hHeld ?_ ?_
            rotate_left
            · rintro w' ⟨s0, s1, s2, s3, s4⟩
              go_simp
              with_reducible rfl
            rotate_left
            exact ap_
            refine take_ (i := 8) (N := (some 84)) (v := ?_) (a' := ?_) #[Tt,Tt,Tt,Tt,Tt,Tt,Tt,Tt,Tt,Tt,Tt,Tt,Tt,Ff,Tt,Ff,Ff,Tt,Tt,Tt,Ff,Tt,Ff,Ff,Ff,Ff,Ff,Ff] rfl rfl (take_ofW HT_.out HW_.out (by kernel_rfl)) (fun _ _ _ h => h) (Or.inl ⟨by rfl, ?_⟩) hHeld ?_ ?_
            rotate_left
            · rintro w' ⟨s0, s1, s2, s3, s4⟩
              go_simp
              with_reducible rfl
            rotate_left
            exact ap_
            refine take_ (i := 13) (N := (some 89)) (v := ?_) (a' := ?_) #[Tt,Tt,Tt,Tt,Tt,Tt,Tt,Tt,Tt,Tt,Tt,Tt,Tt,Tt,Tt,Ff,Ff,Tt,Tt,Tt,Ff,Tt,Ff,Ff,Ff,Ff,Ff,Ff] rfl rfl (take_ofW HT_.out HW_.out (by kernel_rfl)) (fun _ _ _ h => h) (Or.inl ⟨by rfl, ?_⟩) hHeld ?_ ?_
            rotate_left
            · rintro w' ⟨s0, s1, s2, s3, s4⟩
              go_simp
              with_reducible rfl
            rotate_left
            exact ap_
            refine pv_ 15 91 #[Tt,Tt,Tt,Tt,Tt,Tt,Tt,Tt,Tt,Tt,Tt,Tt,Tt,Tt,Tt,Tt,Ff,Tt,Tt,Tt,Ff,Tt,Ff,Ff,Ff,Ff,Ff,Ff] ?_
            refine take_ (i := 16) (N := (some 92)) (v := ?_) (a' := ?_) #[Tt,Tt,Tt,Tt,Tt,Tt,Tt,Tt,Tt,Tt,Tt,Tt,Tt,Tt,Tt,Tt,Tt,Tt,Tt,Tt,Ff,Tt,Ff,Ff,Ff,Ff,Ff,Ff] rfl rfl (take_ofW HT_.out HW_.out (by kernel_rfl)) (fun _ _ _ h => h) (Or.inl ⟨by rfl, ?_⟩) hHeld ?_ ?_
            rotate_left
            · rintro w' ⟨s0, s1, s2, s3, s4⟩
              go_simp
              with_reducible rfl
            rotate_left
            exact ap_
            refine take_ (i := 20) (N := (some 96)) (v := ?_) (a' := ?_) #[Tt,Tt,Tt,Tt,Tt,Tt,Tt,Tt,Tt,Tt,Tt,Tt,Tt,Tt,Tt,Tt,Tt,Tt,Tt,Tt,Tt,Tt,Ff,Ff,Ff,Ff,Ff,Ff] rfl rfl (take_ofW HT_.out HW_.out (by kernel_rfl)) (fun _ _ _ h => h) (Or.inl ⟨by rfl, ?_⟩) hHeld ?_ ?_
            rotate_left
            · rintro w' ⟨s0, s1, s2, s3, s4⟩
              go_simp
              with_reducible rfl
            rotate_left
            exact ap_
            refine pv_ 22 98 #[Tt,Tt,Tt,Tt,Tt,Tt,Tt,Tt,Tt,Tt,Tt,Tt,Tt,Tt,Tt,Tt,Tt,Tt,Tt,Tt,Tt,Tt,Tt,Ff,Ff,Ff,Ff,Ff] ?_
            refine take_ (i := 23) (N := (some 99)) (v := ?_) (a' := ?_) #[Tt,Tt,Tt,Tt,Tt,Tt,Tt,Tt,Tt,Tt,Tt,Tt,Tt,Tt,Tt,Tt,Tt,Tt,Tt,Tt,Tt,Tt,Tt,Tt,Ff,Ff,Ff,Ff] rfl rfl (take_ofW HT_.out HW_.out (by kernel_rfl)) (fun _ _ _ h => h) (Or.inl ⟨by rfl, ?_⟩) hHeld ?_ ?_
            rotate_left
            · rintro w' ⟨s0, s1, s2, s3, s4⟩
              go_simp
              with_reducible rfl
            rotate_left
            exact ap_
            refine pv_ 24 100 #[Tt,Tt,Tt,Tt,Tt,Tt,Tt,Tt,Tt,Tt,Tt,Tt,Tt,Tt,Tt,Tt,Tt,Tt,Tt,Tt,Tt,Tt,Tt,Tt,Tt,Ff,Ff,Ff] ?_
            refine last_ (i := 25) (N := none) #[Tt,Tt,Tt,Tt,Tt,Tt,Tt,Tt,Tt,Tt,Tt,Tt,Tt,Tt,Tt,Tt,Tt,Tt,Tt,Tt,Tt,Tt,Tt,Tt,Tt,Tt,Ff,Ff] rfl rfl (one_of HT_.out (by kernel_rfl)) (by decide) (fun K hK => ?_)
            refine skip_ (w1 := ?_) (by rfl) rfl ?_ ?_
            rotate_left
            · go_simp
              rfl
            refine hK.out _ _ ?_
            clear hK K hy0 hy1 hz0 hz1 hHeld
            have hput := HP.out.put HB.out i (by rw [HX.out.1]; exact HCI.out) (⟨d0, d1⟩ : S34)
            have n0_ := Aside0.mk hput.1
            have n1_ := Aside0.mk hput.2.1
            have n2_ := Aside0.mk (Kept.then_ HK.out hput.2.2 (fun k hk => Or.inl (hk.elim Or.inl (fun h_ => Or.inr h_.1.1))))
            have n3_ := Aside0.mk (Kept.blk (S := fun k => k = g ∨ ((ok k ∧ k ≠ gr) ∧ k ≠ gx)) hput.2.2 BKx.out (fun hc => by rcases hc with hc | hc; (exact NGx.out hc.symm); (exact hc.2 rfl)))
            have n4_ := Aside0.mk (Kept.blk (S := fun k => k = g ∨ ((ok k ∧ k ≠ gr) ∧ k ≠ gx)) hput.2.2 BKr.out (fun hc => by rcases hc with hc | hc; (exact NGr.out hc.symm); (exact hc.1.2 rfl)))
            clear HB HP HK BKx BKr hput
            have HP := n0_
            have HB := n1_
            have HK := n2_
            have BKx := n3_
            have BKr := n4_
            clear n0_ n1_ n2_ n3_ n4_
            generalize (w12.setCell ⟨g0, i * 2, none⟩ (.int .i64 d0)).setCell ⟨g0, i * 2 + 1, none⟩ (.int .i64 d1) = w13 at HB HP HK BKx BKr ⊢
            have hpp := pair_at HP.out.row k (by rw [List.length_set]; exact HK1.out)
            have hy0 := hpp.2.2.1
            have hy1 := hpp.2.2.2
            have hz0 := hpp.1
            have hz1 := hpp.2.1
            clear hpp
            refine pv_ 26 101 #[Tt,Tt,Tt,Tt,Tt,Tt,Tt,Tt,Tt,Tt,Tt,Tt,Tt,Tt,Tt,Tt,Tt,Tt,Tt,Tt,Tt,Tt,Tt,Tt,Tt,Tt,Tt,Ff] ?_
            refine last_ (i := 27) (N := none) #[Tt,Tt,Tt,Tt,Tt,Tt,Tt,Tt,Tt,Tt,Tt,Tt,Tt,Tt,Tt,Tt,Tt,Tt,Tt,Tt,Tt,Tt,Tt,Tt,Tt,Tt,Tt,Tt] rfl rfl (one_of HT_.out (by kernel_rfl)) (by decide) (fun K hK => ?_)
            refine skip_ (w1 := ?_) (by rfl) rfl ?_ ?_
            rotate_left
            · go_simp
              rfl
            refine hK.out _ _ ?_
            clear hK K hy0 hy1 hz0 hz1
            have hput := HP.out.put HB.out k (by rw [List.length_set]; exact HK1.out) (⟨a0, a1⟩ : S34)
            have n0_ := Aside0.mk hput.1
            have n1_ := Aside0.mk hput.2.1
            have n2_ := Aside0.mk (Kept.then_ HK.out hput.2.2 (fun k hk => Or.inl (hk.elim Or.inl (fun h_ => Or.inr h_.1.1))))
            have n3_ := Aside0.mk (Kept.blk (S := fun k => k = g ∨ ((ok k ∧ k ≠ gr) ∧ k ≠ gx)) hput.2.2 BKx.out (fun hc => by rcases hc with hc | hc; (exact NGx.out hc.symm); (exact hc.2 rfl)))
            have n4_ := Aside0.mk (Kept.blk (S := fun k => k = g ∨ ((ok k ∧ k ≠ gr) ∧ k ≠ gx)) hput.2.2 BKr.out (fun hc => by rcases hc with hc | hc; (exact NGr.out hc.symm); (exact hc.1.2 rfl)))
            clear HB HP HK BKx BKr hput
            have HP := n0_
            have HB := n1_
            have HK := n2_
            have BKx := n3_
            have BKr := n4_
            clear n0_ n1_ n2_ n3_ n4_
            refine done_ (done_of HT_.out (by kernel_rfl)) ?_
            generalize (w13.setCell ⟨g0, k * 2, none⟩ (.int .i64 a0)).setCell ⟨g0, k * 2 + 1, none⟩ (.int .i64 a1) = w14 at HB HP HK BKx BKr ⊢
            have hsw : (xs.set i ⟨d0, d1⟩).set k ⟨a0, a1⟩ = swL xs i k := by
              unfold swL
              rw [List.getD_eq_getElem?_getD, List.getElem?_eq_getElem HK1.out, List.getD_eq_getElem?_getD, List.getElem?_eq_getElem (show i < xs.length by rw [HX.out.1]; exact HCI.out), HAI.out, HDI.out]
              rfl
            have hup := heapDown_step HX.out.2.2.1 (by rw [HLOW.out]; exact HCK.out)
            rw [HLOW.out] at hup
            have hge := (lowest_spec xs.length (fA xs) i).1
            rw [HLOW.out] at hge
            have hki : i < k := by have := HCK.out; rcases hge with h | h; (exact absurd h this); (omega)
            rw [hsw] at HP
            have HUP := Aside0.mk hup
            have HKI := Aside0.mk hki
            clear hsw hup hge hki HT_ HW_
            try go_wp2
            go_roundg gk
            case measure => omega
            case rel =>
              refine ⟨k, swL xs i k, rfl, ⟨by have := HI.out; have := HKI.out; omega⟩, ⟨?_, .inl ?_, ?_, ?_⟩, HB, HP, HK, BKx, BKr⟩
              · rw [swL_length]; exact HX.out.1
              · have := HK1.out; have := HX.out.1; omega
              · rw [swL_length]; exact heapDown_congr (swL_fA xs (by rw [HX.out.1]; exact HCI.out) HK1.out) (.inl HK1.out) HUP.out
              · exact (swL_perm xs (by rw [HX.out.1]; exact HCI.out) HK1.out).trans HX.out.2.2.2
      · have c1 : decide ((i : Int) < (m : Int)) = false := decide_eq_false (by omega)
        have c2 : decide (i < m) = false := decide_eq_false ci
        have HEAP := heapDown_done HX.out.2.2.1 (lowest_end (by have := HX.out.1; omega))
        have HEAP1 := Aside0.mk HEAP
        clear ci HEAP
        have zx0 : wr.cell? ⟨gx, 0, none⟩ = some (.int .i64 x.f0) := (blk_cell BKx.out 0).trans rfl
        have zx1 : wr.cell? ⟨gx, 1, none⟩ = some (.int .i64 x.f1) := (blk_cell BKx.out 1).trans rfl
        have zr0 : wr.cell? ⟨gr, 0, none⟩ = some (.int .i64 0) := (blk_cell BKr.out 0).trans rfl
        have zr1 : wr.cell? ⟨gr, 1, none⟩ = some (.int .i64 0) := (blk_cell BKr.out 1).trans rfl
        have yr0 := blk_frozen BKr.out 0
        have yr1 := blk_frozen BKr.out 1
        go_wp2
        refine bodyPost_ret (results_ct rfl _ _ gr 34 #[.int .i64 x.f0, .int .i64 x.f1] (0, 0) _ rfl (blk_put (cs' := #[.int .i64 x.f0, .int .i64 x.f1]) (blk_put (cs' := #[.int .i64 x.f0, .int .i64 0]) BKr.out 0 (.int .i64 x.f0) rfl) 1 (.int .i64 x.f1) rfl) Try.underlying34 rfl (by kernel_rfl)) rfl ?_
        exact ⟨below_set (below_set HB.out GRb.out) GRb.out, Kept.setCell (p := ⟨gr, 1, none⟩) (Kept.setCell (p := ⟨gr, 0, none⟩) HK.out (Or.inr GR.out) _) (Or.inr GR.out) _, rfl, _, xs, (((HP.out.mono (ok' := fun k => ok k ∧ k ≠ gr) (fun k hk => hk.1)).far NGr.out (fun hk => hk.2 rfl) _).far NGr.out (fun hk => hk.2 rfl) _).mono (fun k hk => hk.1), HEAP1.out, hfinal.out xs HEAP1.out HX.out.2.2.2⟩
end Go.Proofs.Ytloebciamfbjfaa.Q
end
