/- A part of the proof: words, contracts, plain lemmas. Conditions: none. -/
import Derived.Test.YtlcbpaenjjeenaaZTableBusy3
import Derived.Test.YtlcbpaenjjeenaaZTableBusy9
section
namespace Go.Proofs.Ytlcbpaenjjeenaa.Q
open Go.RowKit Go.Maps Go.Proofs.YtlcbpaenjjeenaaW.PrintWords Go.Proofs.YtlcbpaenjjeenaaW.PrintLast Go.Proofs.YtlcbpaenjjeenaaW.PrintMore
set_option linter.unusedVariables false
set_option linter.unusedSimpArgs false
def endsOf (x : S42) : Int × Int := (x.f0, x.f1)
def cntLog (l : List S42) : List ((Int × Int) × Int) := l.foldl (fun es x => es ++ [(endsOf x, (lookM es (endsOf x)).getD 0 + 1)]) []
theorem cntLog_snoc (l : List S42) (x : S42) : cntLog (l ++ [x]) = cntLog l ++ [(endsOf x, (lookM (cntLog l) (endsOf x)).getD 0 + 1)] := by
  unfold cntLog; rw [List.foldl_append]; rfl
def cntE (l : List S42) (p : Int × Int) : Int := ((l.filter (fun x => decide (endsOf x = p))).length : Int)
theorem cntLog_eq (l : List S42) (p : Int × Int) : (lookM (cntLog l) p).getD 0 = cntE l p := by
  have h : ∀ (n : Nat) (l : List S42), l.length = n → (lookM (cntLog l) p).getD 0 = cntE l p := by
    intro n
    induction n with
    | zero => intro l hl; rw [List.length_eq_zero_iff.1 hl]; rfl
    | succ n ih =>
      intro l hl
      obtain ⟨r, x, rfl⟩ : ∃ r x, l = r ++ [x] := by
        rcases List.eq_nil_or_concat l with rfl | ⟨r, x, rfl⟩
        · cases hl
        · exact ⟨r, x, by rw [List.concat_eq_append]⟩
      have hr := ih r (by simpa using hl)
      have hs : cntE (r ++ [x]) p = cntE r p + (if endsOf x = p then 1 else 0) := by
        unfold cntE
        rw [List.filter_append, List.filter_cons]
        by_cases c : endsOf x = p
        · simp [c]
        · simp [c]
      rw [cntLog_snoc, lookM_snoc, hs]
      by_cases c : endsOf x = p
      · rw [if_pos c, if_pos c, c, hr]; rfl
      · rw [if_neg c, if_neg c, hr]; omega
  exact h l.length l rfl
theorem cntE_bd (l : List S42) (p : Int × Int) : 0 ≤ cntE l p ∧ cntE l p ≤ (l.length : Int) := by
  unfold cntE
  have := List.length_filter_le (fun x => decide (endsOf x = p)) l
  omega
def pairLt (a b : Int × Int) : Prop := a.1 < b.1 ∨ a.1 = b.1 ∧ a.2 < b.2
instance (a b : Int × Int) : Decidable (pairLt a b) := by unfold pairLt; exact inferInstance
def busyStep (l : List S42) (s : (Int × Int) × Int) (x : S42) : (Int × Int) × Int :=
  if cntE l (endsOf x) > s.2 ∨ cntE l (endsOf x) = s.2 ∧ pairLt (endsOf x) s.1 then (endsOf x, cntE l (endsOf x)) else s
def busyL (l : List S42) : (Int × Int) × Int := l.foldl (busyStep l) ((0, 0), 0)
theorem cmp2_lt (a0 a1 b0 b1 : Int) : ∃ r, slices_Compare_int_int.f 4 [a0, a1] [b0, b1] = some r ∧ (r < 0 ↔ pairLt (a0, a1) (b0, b1)) := by
  have hc : ∀ a b, cmp_Compare_int.f a b = some (if a < b then -1 else if b < a then 1 else 0) := by
    intro a b
    unfold cmp_Compare_int.f cmp_isNaN_int.f
    simp only [bne_self_eq_false, Option.bind_some, Bool.false_eq_true, if_false, gt_iff_lt]
    (repeat' split) <;> rfl
  have h0 : rd [a0, a1] 0 = a0 := rfl
  have h1 : rd [a0, a1] 1 = a1 := rfl
  have g0 : rd [b0, b1] 0 = b0 := rfl
  have g1 : rd [b0, b1] 1 = b1 := rfl
  have e01 : wrap64 (0 + 1) = 1 := by unfold wrap64; omega
  have e02 : wrap64 (1 + 1) = 2 := by unfold wrap64; omega
  have e03 : wrap64 1 = 1 := by unfold wrap64; omega
  have e04 : wrap64 2 = 2 := by unfold wrap64; omega
  unfold slices_Compare_int_int.f
  simp only [slices_Compare_int_int.l0, List.length_cons, List.length_nil, hc, Option.bind_some, e01, e02, e03, e04, h0, h1, g0, g1, show ((0 + 1 + 1 : Nat) : Int) = 2 from rfl]
  unfold pairLt
  simp only
  by_cases c1 : a0 < b0
  · exact ⟨-1, by simp [c1], by simp [c1]⟩
  · by_cases c2 : b0 < a0
    · exact ⟨1, by simp [c1, c2], by constructor <;> intro h <;> omega⟩
    · by_cases c3 : a1 < b1
      · exact ⟨-1, by simp [c1, c2, c3], by constructor <;> intro h <;> omega⟩
      · by_cases c4 : b1 < a1
        · exact ⟨1, by simp [c1, c2, c3, c4], by constructor <;> intro h <;> omega⟩
        · exact ⟨0, by simp [c1, c2, c3, c4], by constructor <;> intro h <;> omega⟩
theorem wf_i64' {n : Int} (h0 : -9223372036854775808 ≤ n) (h1 : n ≤ 9223372036854775807) : w64 n := by
  unfold w64
  simp [Lit.wf, IntKind.min, IntKind.max, IntKind.bits, IntKind.signed]
  omega
def table_Busy.T5 : Bool × List (List Nat × List Nat) := (true, [([], []), ([], []), ([1], [1]), ([], []), ([3], [3]), ([2, 4], [2, 4]), ([0, 5], [0, 5]), ([6], [6]), ([0, 5, 0, 1, 2, 3, 4, 5], [0, 5]), ([8], [8]), ([0, 9, 7, 8, 0, 1, 2, 3, 4, 5, 6, 7, 8, 9], [0, 7, 9])])
def table_Busy.B5 : List Nat := [0, 0, 2, 0, 8, 30, 63, 127, 63, 319, 1023]
theorem table_Busy.tab5 : rtab .any (opsOf Try.f22 5) = table_Busy.T5 := by kernel_rfl
theorem table_Busy.bits5 : waitsOk table_Busy.T5.2 table_Busy.B5 = true := by kernel_rfl
def table_Busy.T12 : Bool × List (List Nat × List Nat) := (true, [([], []), ([], []), ([0, 1], [0, 1]), ([2], [2]), ([3], [3]), ([3], [3]), ([4, 5, 3], [3, 4, 5]), ([6, 3, 3], [3, 6]), ([7], [7]), ([7], [7]), ([8, 9, 7, 7], [7, 8, 9]), ([10, 7], [7, 10]), ([7, 11, 3], [3, 7, 11]), ([3, 12], [3, 12])])
def table_Busy.B12 : List Nat := [0, 0, 3, 7, 15, 15, 63, 127, 255, 255, 1023, 2047, 4095, 8191]
theorem table_Busy.tab12 : rtab .any (opsOf Try.f22 12) = table_Busy.T12 := by kernel_rfl
theorem table_Busy.bits12 : waitsOk table_Busy.T12.2 table_Busy.B12 = true := by kernel_rfl
theorem klaw37 : WideMaps.KeyLaw Try.prog 37 := deep_law_laid laidOutT (m := 2) (by decide) (by decide +kernel) (by kernel_rfl) (by rw [Try.underlying37])
theorem pairC {w : World} {g : Nat} {a b : Int} (h : w.heap[g]? = some (.cells #[.int .i64 a, .int .i64 b] 37 (0, 0))) : Kd.C (Kd.int .i64) w (some ⟨g, 0, none⟩) 2 [a, b] := by
  refine ⟨rfl, by omega, fun _ => ⟨_, rfl, fun j p hp => ?_⟩⟩
  have hj : j = 0 ∧ p = a ∨ j = 1 ∧ p = b := by
    rcases j with _ | _ | j
    · exact .inl ⟨rfl, (Option.some.inj hp).symm⟩
    · exact .inr ⟨rfl, (Option.some.inj hp).symm⟩
    · cases hp
  refine ⟨[.int .i64 p], rfl, rfl, fun i u hu => ?_⟩
  have hi : i = 0 ∧ u = .int .i64 p := by
    rcases i with _ | i
    · exact ⟨rfl, (Option.some.inj hu).symm⟩
    · cases hu
  obtain ⟨rfl, rfl⟩ := hi
  rcases hj with ⟨rfl, rfl⟩ | ⟨rfl, rfl⟩
  · exact (blk_cell h 0).trans rfl
  · exact (blk_cell h 1).trans rfl
def table_Busy.f (l : List S42) : Option (Int × Int × Int) := if l.length ≤ 1048576 ∧ l.all (fun x => good2 (endsOf x)) = true then some ((busyL l).1.1, (busyL l).1.2, (busyL l).2) else none
set_option maxHeartbeats 8000000 in
set_option maxRecDepth 100000 in
theorem table_Busy.calls (A0 : Option Addr) (c0 : Nat) (l0 : List S42) (r1 r2 r3 : Int) (w : World) (hr0 : Kd.C k42 w A0 l0.length l0) (hc0 : l0.length ≤ c0) (h : table_Busy.f l0 = some (r1, r2, r3)) :
    Calls Try.prog 22 #[.slice A0 l0.length c0] w fun e w' => e = .returned (.tuple #[.agg #[.int .i64 r1, .int .i64 r2], .int .i64 r3]) ∧ Below w.heap.size w w' := by
  unfold table_Busy.f at h
  split at h
  · rename_i hh
    injection h with h
    simp only [Prod.mk.injEq] at h
    obtain ⟨e1, e2, e3⟩ := h
    have HE1 := Aside0.mk e1
    have HE2 := Aside0.mk e2
    have HE3 := Aside0.mk e3
    have HR0 := Aside0.mk hr0
    have HC0 := Aside0.mk hc0
    have HL0 := Aside0.mk hh.1
    have HG0 := Aside0.mk hh.2
    have hu42 := Try.underlying42
    have hu37 := Try.underlying37
    have HB := Aside0.mk (Below.refl w.heap.size w)
    clear hr0 hc0 hh e1 e2 e3
    go_enter Try.func22, Try.ntmps22
    go_wp2_with (first | ((with_reducible refine gate_dst (N := 2) rfl ?_); refine box_event ?hg (N := 2) ?hd (cs := #[.int .i64 0, .int .i64 0]) (t := 37) ?hr ?_; (case hd => rfl); (case hg => rfl); (case hr => first | (go_simp; done) | (go_simp; rfl)); intro gr hg w2 hbox hb; have n0_ := Aside0.mk (below_step HB.out hb); have n1_ := Aside0.mk hbox; have n2_ := Aside0.mk (by rw [hg]; exact below_size HB.out : w.heap.size ≤ gr); clear HB; have HB := n0_; have BKr := n1_; have GEr := n2_; clear n0_ n1_ n2_; clear hb hbox hg) | ((with_reducible refine gate_dst (N := 11) rfl ?_); refine mmake E37 _ rfl 66 rfl ?_; intro w9m mb hM_ hb hge; have n0_ := Aside0.mk (below_step HB.out hb); have n1_ := Aside0.mk (blk_below BKr.out hb); have n2_ := Aside0.mk (Nat.le_trans (below_size HB.out) hge); clear HB BKr; have HB := n0_; have BKr := n1_; have GEm := n2_; have HM := Aside0.mk hM_; clear n0_ n1_ n2_ hM_ hb hge))
    go_loopg [14] l0.length (fun kq v14 w' => ∃ j : Nat, v14 = .int .i64 (j : Int) ∧ Aside0 (j + kq = l0.length) ∧ Aside0 (Below w.heap.size w w') ∧ Aside0 (w'.heap[gr]? = some (.cells #[.int .i64 0, .int .i64 0] 37 (0, 0))) ∧ Aside0 (MapI E37 w' mb j (cntLog (l0.take j))))
    case atStart => exact ⟨0, rfl, ⟨by omega⟩, HB, BKr, HM⟩
    case round =>
      clear HB BKr HM
      obtain ⟨j, rfl, HJ, HB, BKr, HM⟩ := hrel
      cases gk with
      | zero =>
        have hj : j = l0.length := by have := HJ.out; omega
        have c1 : decide ((j : Int) < (l0.length : Int)) = false := decide_eq_false (by omega)
        have c2 : decide (j < l0.length) = false := decide_eq_false (by omega)
        have n0_ := HM.out
        rw [hj, List.take_length] at n0_
        clear HM
        have HM := Aside0.mk n0_
        clear n0_ hj
        go_wp2
        go_loopg [3, 31] l0.length (fun kq v3 v31 w' => ∃ (i : Nat) (p0 p1 n : Int), v3 = .int .i64 n ∧ v31 = .int .i64 (i : Int) ∧ Aside0 (i + kq = l0.length) ∧ Aside0 ((l0.take i).foldl (busyStep l0) ((0, 0), 0) = ((p0, p1), n)) ∧ Aside0 (Below w.heap.size w w') ∧ Aside0 (w'.heap[gr]? = some (.cells #[.int .i64 p0, .int .i64 p1] 37 (0, 0))) ∧ Aside0 (MapI E37 w' mb l0.length (cntLog l0)))
        case atStart => exact ⟨0, 0, 0, 0, rfl, rfl, ⟨by omega⟩, ⟨rfl⟩, HB, BKr, HM⟩
        case round =>
          clear HB BKr HM c1 c2 HJ
          obtain ⟨i, p0, p1, n, rfl, rfl, HJ, HF, HB, BKr, HM⟩ := hrel
          cases gk with
          | zero =>
            have hi : i = l0.length := by have := HJ.out; omega
            have c1 : decide ((i : Int) < (l0.length : Int)) = false := decide_eq_false (by omega)
            have c2 : decide (i < l0.length) = false := decide_eq_false (by omega)
            have hF := HF.out
            rw [hi, List.take_length] at hF
            have e1 := HE1.out
            have e2 := HE2.out
            have e3 := HE3.out
            unfold busyL at e1 e2 e3
            rw [hF] at e1 e2 e3
            simp only at e1 e2 e3
            subst e1 e2 e3
            have z2 : wr.cell? ⟨gr, 0, none⟩ = some (.int .i64 p0) := (blk_cell BKr.out 0).trans rfl
            have z3 : wr.cell? ⟨gr, 1, none⟩ = some (.int .i64 p1) := (blk_cell BKr.out 1).trans rfl
            have y2 := blk_frozen BKr.out 0
            have y3 := blk_frozen BKr.out 1
            clear hF hi
            go_wp2
            refine bodyPost_ret (results_ct rfl _ _ gr 37 #[.int .i64 p0, .int .i64 p1] (0, 0) _ rfl (blk_put (cs' := #[.int .i64 p0, .int .i64 p1]) (blk_put (cs' := #[.int .i64 p0, .int .i64 p1]) BKr.out 0 (.int .i64 p0) rfl) 1 (.int .i64 p1) rfl) Try.underlying37 rfl (by kernel_rfl)) rfl ?_
            exact ⟨rfl, below_set (below_set HB.out GEr.out) GEr.out⟩
          | succ gk =>
            have hlt : i < l0.length := by have := HJ.out; omega
            have c1 : decide ((i : Int) < (l0.length : Int)) = true := decide_eq_true (by omega)
            have c2 : decide (i < l0.length) = true := decide_eq_true hlt
            obtain ⟨ad1, e1, hx_0, hx_1, hx_2, hx_3⟩ := at_T42 HR0.out (i : Int) (by omega) (by omega)
            cases e1
            simp only [Int.toNat_natCast] at hx_0 hx_1 hx_2 hx_3
            replace hx_0 := (HB.out.cell (World.block_lt_of_cell? w _ hx_0)).trans hx_0
            replace hx_1 := (HB.out.cell (World.block_lt_of_cell? w _ hx_1)).trans hx_1
            replace hx_2 := (HB.out.cell (World.block_lt_of_cell? w _ hx_2)).trans hx_2
            replace hx_3 := (HB.out.cell (World.block_lt_of_cell? w _ hx_3)).trans hx_3
            have p1_ := eq_true (show (0 : Int) ≤ (i : Int) by omega)
            have p2_ := eq_true (show (i : Int) < (l0.length : Int) by omega)
            have hr : rd_T42 l0 (i : Int) = l0[i] := by unfold rd_T42; simp [List.getD_eq_getElem?_getD, List.getElem?_eq_getElem hlt]
            rw [hr] at hx_0 hx_1 hx_2 hx_3
            have hgood : E37.good (l0[i].f0, l0[i].f1) := good2_ok (by have := List.all_eq_true.1 HG0.out _ (List.getElem_mem hlt); exact this)
            have HGD := Aside0.mk hgood
            have hsn : (l0.take (i + 1)).foldl (busyStep l0) ((0, 0), 0) = (if cntE l0 (l0[i].f0, l0[i].f1) > n ∨ cntE l0 (l0[i].f0, l0[i].f1) = n ∧ pairLt (l0[i].f0, l0[i].f1) (p0, p1) then ((l0[i].f0, l0[i].f1), cntE l0 (l0[i].f0, l0[i].f1)) else ((p0, p1), n)) := by
              rw [List.take_succ_eq_append_getElem hlt, List.foldl_append, HF.out]
              rfl
            have HSN := Aside0.mk hsn
            have HCN := Aside0.mk (cntLog_eq l0 (l0[i].f0, l0[i].f1))
            clear hr hgood hsn
            generalize l0[i].f0 = f0 at *
            generalize l0[i].f1 = f1 at *
            generalize l0[i].f2 = f2 at *
            generalize l0[i].f3 = f3 at *
            go_wp2_with (first | ((with_reducible refine gate_dst (N := 8) rfl ?_); refine box_event ?hg (N := 8) ?hd (cs := #[.int .i64 0, .int .i64 0, .int .i64 0, .int .i64 0]) (t := 42) ?hr ?_; (case hd => rfl); (case hg => rfl); (case hr => first | (go_simp; done) | (go_simp; rfl)); intro gb hg w5 hbox hb; have n0_ := Aside0.mk (below_step HB.out hb); have n1_ := Aside0.mk (blk_below BKr.out hb); have n2_ := Aside0.mk (MapI.below HM.out hb); have n3_ := Aside0.mk hbox; have n4_ := Aside0.mk (by rw [hg]; exact below_size HB.out : w.heap.size ≤ gb); have n5_ := Aside0.mk (by rw [hg]; exact Nat.ne_of_lt (blk_lt BKr.out) : gr ≠ gb); have n6_ := Aside0.mk (by rw [hg]; exact (Nat.ne_of_lt (MapI.lt HM.out)).symm : gb ≠ mb); clear HB BKr HM; have HB := n0_; have BKr := n1_; have HM := n2_; have BKb := n3_; have GEb := n4_; have NBrb := n5_; have NBbm := n6_; clear n0_ n1_ n2_ n3_ n4_ n5_ n6_; clear hb hbox hg; have z0 : w5.cell? ⟨gb, 0, none⟩ = some (.int .i64 0) := (blk_cell BKb.out 0).trans rfl; have z1 : w5.cell? ⟨gb, 1, none⟩ = some (.int .i64 0) := (blk_cell BKb.out 1).trans rfl; have z2 : w5.cell? ⟨gb, 2, none⟩ = some (.int .i64 0) := (blk_cell BKb.out 2).trans rfl; have z3 : w5.cell? ⟨gb, 3, none⟩ = some (.int .i64 0) := (blk_cell BKb.out 3).trans rfl; have y0 := blk_frozen BKb.out 0; have y1 := blk_frozen BKb.out 1; have y2 := blk_frozen BKb.out 2; have y3 := blk_frozen BKb.out 3) | ((with_reducible refine gate_dst (N := 9) rfl ?_); refine box_event ?hg (N := 9) ?hd (cs := #[.int .i64 0, .int .i64 0]) (t := 37) ?hr ?_; (case hd => rfl); (case hg => rfl); (case hr => first | (go_simp; done) | (go_simp; rfl)); intro gp hg w6 hbox hb; have n0_ := Aside0.mk (below_step (below_set (below_set (below_set (below_set HB.out GEb.out) GEb.out) GEb.out) GEb.out) hb); have n1_ := Aside0.mk (blk_below (blk_far (blk_far (blk_far (blk_far BKr.out NBrb.out _) NBrb.out _) NBrb.out _) NBrb.out _) hb); have n2_ := Aside0.mk (MapI.below (MapI.farg (MapI.farg (MapI.farg (MapI.farg HM.out NBbm.out _) NBbm.out _) NBbm.out _) NBbm.out _) hb); have n3_ := Aside0.mk hbox; have n4_ := Aside0.mk (by rw [hg]; exact below_size (below_set (below_set (below_set (below_set HB.out GEb.out) GEb.out) GEb.out) GEb.out) : w.heap.size ≤ gp); have n5_ := Aside0.mk (by rw [hg]; exact Nat.ne_of_lt (blk_lt (blk_far (blk_far (blk_far (blk_far BKr.out NBrb.out _) NBrb.out _) NBrb.out _) NBrb.out _)) : gr ≠ gp); have n6_ := Aside0.mk (by rw [hg]; exact (Nat.ne_of_lt (MapI.lt (MapI.farg (MapI.farg (MapI.farg (MapI.farg HM.out NBbm.out _) NBbm.out _) NBbm.out _) NBbm.out _))).symm : gp ≠ mb); clear HB BKr HM BKb GEb NBrb NBbm; have HB := n0_; have BKr := n1_; have HM := n2_; have BKp := n3_; have GEp := n4_; have NBrp := n5_; have NBpm := n6_; clear n0_ n1_ n2_ n3_ n4_ n5_ n6_; clear hb hbox hg; clear z0 z1 z2 z3 y0 y1 y2 y3 hx_0 hx_1 hx_2 hx_3; have z0 : w6.cell? ⟨gp, 0, none⟩ = some (.int .i64 0) := (blk_cell BKp.out 0).trans rfl; have z1 : w6.cell? ⟨gp, 1, none⟩ = some (.int .i64 0) := (blk_cell BKp.out 1).trans rfl; have y0 := blk_frozen BKp.out 0; have y1 := blk_frozen BKp.out 1) | ((with_reducible refine gate_dst (N := 42) rfl ?_); refine mlook1 E37 _ rfl _ _ 66 rfl Try.underlying66 rfl (show MapI E37 _ mb l0.length (cntLog l0) from MapI.farg (MapI.farg HM.out NBpm.out _) NBpm.out _) (f0, f1) rfl HGD.out ?_; intro w8 hb; rw [HCN.out]; have n0_ := Aside0.mk (below_step (below_set (below_set HB.out GEp.out) GEp.out) hb); have n1_ := Aside0.mk (blk_below (blk_far (blk_far BKr.out NBrp.out _) NBrp.out _) hb); have n2_ := Aside0.mk (MapI.below (MapI.farg (MapI.farg HM.out NBpm.out _) NBpm.out _) hb); have n3_ := Aside0.mk (blk_below (blk_put (cs' := #[.int .i64 f0, .int .i64 f1]) (blk_put (cs' := #[.int .i64 f0, .int .i64 0]) BKp.out 0 (.int .i64 f0) rfl) 1 (.int .i64 f1) rfl) hb); clear HB BKr HM BKp; have HB := n0_; have BKr := n1_; have HM := n2_; have BKp := n3_; clear n0_ n1_ n2_ n3_ hb z0 z1 y0 y1))
            generalize cntE l0 (f0, f1) = m at *
            have n0_ := Aside0.mk (below_drew1 HB.out)
            have n1_ := Aside0.mk (blk_drew BKr.out)
            have n2_ := Aside0.mk (blk_drew BKp.out)
            have n3_ := Aside0.mk (MapI.drew HM.out)
            clear HB BKr BKp HM
            have HB := n0_
            have BKr := n1_
            have BKp := n2_
            have HM := n3_
            clear n0_ n1_ n2_ n3_
            refine start_ (n := 14) (S := fun w' => w'.heap[gp]? = some (.cells #[.int .i64 f0, .int .i64 f1] 37 (0, 0)) ∧ w'.heap[gr]? = some (.cells #[.int .i64 p0, .int .i64 p1] 37 (0, 0))) (ds := []) #[Ff,Ff,Ff,Ff,Ff,Ff,Ff,Ff,Ff,Ff,Ff,Ff,Ff,Ff] (by kernel_rfl) rfl rfl ⟨BKp.out, BKr.out⟩ (fun hHeld => ?_)
            refine with_tabW table_Busy.tab12 table_Busy.bits12 (fun HT_ HW_ => ?_)
            generalize w8.drew = w9 at HB BKr BKp HM hHeld ⊢
            refine pv_ 0 43 #[Tt,Ff,Ff,Ff,Ff,Ff,Ff,Ff,Ff,Ff,Ff,Ff,Ff,Ff] ?_
            refine pv_ 1 44 #[Tt,Tt,Ff,Ff,Ff,Ff,Ff,Ff,Ff,Ff,Ff,Ff,Ff,Ff] ?_
            by_cases k1 : m > n
            · have k1b : decide (m > n) = true := decide_eq_true k1
              have k1c : decide (n < m) = true := decide_eq_true k1
              have K1 := Aside0.mk k1
              clear k1
              refine pv_ 2 45 #[Tt,Tt,Tt,Ff,Ff,Ff,Ff,Ff,Ff,Ff,Ff,Ff,Ff,Ff] ?_
              refine pv_ 3 46 #[Tt,Tt,Tt,Tt,Ff,Ff,Ff,Ff,Ff,Ff,Ff,Ff,Ff,Ff] ?_
              refine pu_ 4 47 #[Tt,Tt,Tt,Tt,Tt,Ff,Ff,Ff,Ff,Ff,Ff,Ff,Ff,Ff] ?_
              refine pu_ 5 48 #[Tt,Tt,Tt,Tt,Tt,Tt,Ff,Ff,Ff,Ff,Ff,Ff,Ff,Ff] ?_
              refine pu_ 6 49 #[Tt,Tt,Tt,Tt,Tt,Tt,Tt,Ff,Ff,Ff,Ff,Ff,Ff,Ff] ?_
              refine pu_ 7 50 #[Tt,Tt,Tt,Tt,Tt,Tt,Tt,Tt,Ff,Ff,Ff,Ff,Ff,Ff] ?_
              refine pu_ 8 51 #[Tt,Tt,Tt,Tt,Tt,Tt,Tt,Tt,Tt,Ff,Ff,Ff,Ff,Ff] ?_
              refine pu_ 9 52 #[Tt,Tt,Tt,Tt,Tt,Tt,Tt,Tt,Tt,Tt,Ff,Ff,Ff,Ff] ?_
              refine pu_ 10 53 #[Tt,Tt,Tt,Tt,Tt,Tt,Tt,Tt,Tt,Tt,Tt,Ff,Ff,Ff] ?_
              refine pu_ 11 54 #[Tt,Tt,Tt,Tt,Tt,Tt,Tt,Tt,Tt,Tt,Tt,Tt,Ff,Ff] ?_
              refine pu_ 12 55 #[Tt,Tt,Tt,Tt,Tt,Tt,Tt,Tt,Tt,Tt,Tt,Tt,Tt,Ff] ?_
              refine pv_ 13 56 #[Tt,Tt,Tt,Tt,Tt,Tt,Tt,Tt,Tt,Tt,Tt,Tt,Tt,Tt] ?_
              refine done_ (done_of HT_.out (by kernel_rfl)) ?_
              have NBrm : gr ≠ mb := by
                intro e_
                obtain ⟨x_, c_, hb_⟩ := HM.out.block
                have h_ := BKr.out
                rw [e_, hb_] at h_
                cases h_
              have z0 : w9.cell? ⟨gp, 0, none⟩ = some (.int .i64 f0) := (blk_cell BKp.out 0).trans rfl
              have z1 : w9.cell? ⟨gp, 1, none⟩ = some (.int .i64 f1) := (blk_cell BKp.out 1).trans rfl
              have z2 : w9.cell? ⟨gr, 0, none⟩ = some (.int .i64 p0) := (blk_cell BKr.out 0).trans rfl
              have z3 : w9.cell? ⟨gr, 1, none⟩ = some (.int .i64 p1) := (blk_cell BKr.out 1).trans rfl
              have y0 := blk_frozen BKp.out 0
              have y1 := blk_frozen BKp.out 1
              have y2 := blk_frozen BKr.out 0
              have y3 := blk_frozen BKr.out 1
              go_wp2
              go_roundg gk
              case measure => omega
              case rel => exact ⟨i + 1, f0, f1, m, rfl, congrArg (Value.int .i64) (by have := HJ.out; have := HL0.out; unfold wrap64; omega), ⟨by have := HJ.out; omega⟩, ⟨by have h_ := HSN.out; rw [if_pos (Or.inl K1.out)] at h_; exact h_⟩, ⟨below_set (below_set HB.out GEr.out) GEr.out⟩, ⟨blk_put (cs' := #[.int .i64 f0, .int .i64 f1]) (blk_put (cs' := #[.int .i64 f0, .int .i64 p1]) BKr.out 0 (.int .i64 f0) rfl) 1 (.int .i64 f1) rfl⟩, ⟨MapI.farg (MapI.farg HM.out NBrm _) NBrm _⟩⟩
            · have k1b : decide (m > n) = false := decide_eq_false k1
              have k1c : decide (n < m) = false := decide_eq_false k1
              have K1 := Aside0.mk k1
              clear k1
              by_cases k2 : m = n
              · have k2b : decide (m = n) = true := decide_eq_true k2
                have k2c : (m == n) = true := by simpa using k2
                have K2 := Aside0.mk k2
                clear k2
                obtain ⟨rc, hrc, hrl⟩ := cmp2_lt f0 f1 p0 p1
                have HRL := Aside0.mk hrl
                clear hrl
                refine pv_ 2 45 #[Tt,Tt,Tt,Ff,Ff,Ff,Ff,Ff,Ff,Ff,Ff,Ff,Ff,Ff] ?_
                refine pv_ 3 46 #[Tt,Tt,Tt,Tt,Ff,Ff,Ff,Ff,Ff,Ff,Ff,Ff,Ff,Ff] ?_
                refine pv_ 4 47 #[Tt,Tt,Tt,Tt,Tt,Ff,Ff,Ff,Ff,Ff,Ff,Ff,Ff,Ff] ?_
                refine pv_ 5 48 #[Tt,Tt,Tt,Tt,Tt,Tt,Ff,Ff,Ff,Ff,Ff,Ff,Ff,Ff] ?_
                refine pv_ 6 49 #[Tt,Tt,Tt,Tt,Tt,Tt,Tt,Ff,Ff,Ff,Ff,Ff,Ff,Ff] ?_
                refine pv_ 7 50 #[Tt,Tt,Tt,Tt,Tt,Tt,Tt,Tt,Ff,Ff,Ff,Ff,Ff,Ff] ?_
                refine pv_ 8 51 #[Tt,Tt,Tt,Tt,Tt,Tt,Tt,Tt,Tt,Ff,Ff,Ff,Ff,Ff] ?_
                refine pv_ 9 52 #[Tt,Tt,Tt,Tt,Tt,Tt,Tt,Tt,Tt,Tt,Ff,Ff,Ff,Ff] ?_
                refine one_ (i := 10) (N := some 53) #[Tt,Tt,Tt,Tt,Tt,Tt,Tt,Tt,Tt,Tt,Tt,Ff,Ff,Ff] rfl rfl (one_of HT_.out (by kernel_rfl)) (by decide) (fun K hK => ?_)
                refine goes_ Try.func43 (by kernel_rfl) rfl #[.slice (some ⟨gp, 0, none⟩) 2 2, .slice (some ⟨gr, 0, none⟩) 2 2] (by rfl) rfl rfl (by (try simp only [List.map_toArray, List.map_cons, List.map_nil]); first | done | rfl) ?_
                refine (slices_Compare_int_int.calls 4 (some ⟨gp, 0, none⟩) 2 [f0, f1] (some ⟨gr, 0, none⟩) 2 [p0, p1] rc _ (pairC BKp.out) (Nat.le_refl _) (pairC BKr.out) (Nat.le_refl _) hrc).mono ?_
                rintro e w' ⟨rfl, ⟨nd, rfl⟩⟩
                refine ⟨_, rfl, ?_⟩
                refine hK.out _ _ ⟨BKp.out, BKr.out⟩ (fun hHeld => ?_)
                clear hK K
                refine norm_ (a' := ?_) ?_ ?_
                rotate_left
                · show Act.put _ (some 53) _ = _
                  simp only [Act.put, List.setIfInBounds_toArray, List.set_cons_zero, List.set_cons_succ, i64_w, i32_w]
                  rfl
                have n0_ := Aside0.mk (pw_below_drewN HB.out nd)
                have n1_ := Aside0.mk (blk_drewN BKr.out nd)
                have n2_ := Aside0.mk (blk_drewN BKp.out nd)
                have n3_ := Aside0.mk (MapI.drewN HM.out nd)
                clear HB BKr BKp HM
                have HB := n0_
                have BKr := n1_
                have BKp := n2_
                have HM := n3_
                clear n0_ n1_ n2_ n3_
                generalize w9.drewN nd = w10 at *
                by_cases k3 : rc < 0
                · have k3b : decide (rc < 0) = true := decide_eq_true k3
                  have K3 := Aside0.mk k3
                  clear k3
                  refine pv_ 11 54 #[Tt,Tt,Tt,Tt,Tt,Tt,Tt,Tt,Tt,Tt,Tt,Tt,Ff,Ff] ?_
                  refine pv_ 12 55 #[Tt,Tt,Tt,Tt,Tt,Tt,Tt,Tt,Tt,Tt,Tt,Tt,Tt,Ff] ?_
                  refine pv_ 13 56 #[Tt,Tt,Tt,Tt,Tt,Tt,Tt,Tt,Tt,Tt,Tt,Tt,Tt,Tt] ?_
                  refine done_ (done_of HT_.out (by kernel_rfl)) ?_
                  have NBrm : gr ≠ mb := by
                    intro e_
                    obtain ⟨x_, c_, hb_⟩ := HM.out.block
                    have h_ := BKr.out
                    rw [e_, hb_] at h_
                    cases h_
                  have z0 : w10.cell? ⟨gp, 0, none⟩ = some (.int .i64 f0) := (blk_cell BKp.out 0).trans rfl
                  have z1 : w10.cell? ⟨gp, 1, none⟩ = some (.int .i64 f1) := (blk_cell BKp.out 1).trans rfl
                  have z2 : w10.cell? ⟨gr, 0, none⟩ = some (.int .i64 p0) := (blk_cell BKr.out 0).trans rfl
                  have z3 : w10.cell? ⟨gr, 1, none⟩ = some (.int .i64 p1) := (blk_cell BKr.out 1).trans rfl
                  have y0 := blk_frozen BKp.out 0
                  have y1 := blk_frozen BKp.out 1
                  have y2 := blk_frozen BKr.out 0
                  have y3 := blk_frozen BKr.out 1
                  go_wp2
                  go_roundg gk
                  case measure => omega
                  case rel => exact ⟨i + 1, f0, f1, m, rfl, congrArg (Value.int .i64) (by have := HJ.out; have := HL0.out; unfold wrap64; omega), ⟨by have := HJ.out; omega⟩, ⟨by have h_ := HSN.out; rw [if_pos (Or.inr ⟨K2.out, HRL.out.1 K3.out⟩)] at h_; exact h_⟩, ⟨below_set (below_set HB.out GEr.out) GEr.out⟩, ⟨blk_put (cs' := #[.int .i64 f0, .int .i64 f1]) (blk_put (cs' := #[.int .i64 f0, .int .i64 p1]) BKr.out 0 (.int .i64 f0) rfl) 1 (.int .i64 f1) rfl⟩, ⟨MapI.farg (MapI.farg HM.out NBrm _) NBrm _⟩⟩
                · have k3b : decide (rc < 0) = false := decide_eq_false k3
                  have K3 := Aside0.mk k3
                  clear k3
                  refine pv_ 11 54 #[Tt,Tt,Tt,Tt,Tt,Tt,Tt,Tt,Tt,Tt,Tt,Tt,Ff,Ff] ?_
                  refine pv_ 12 55 #[Tt,Tt,Tt,Tt,Tt,Tt,Tt,Tt,Tt,Tt,Tt,Tt,Tt,Ff] ?_
                  refine pv_ 13 56 #[Tt,Tt,Tt,Tt,Tt,Tt,Tt,Tt,Tt,Tt,Tt,Tt,Tt,Tt] ?_
                  refine done_ (done_of HT_.out (by kernel_rfl)) ?_
                  go_wp2
                  go_roundg gk
                  case measure => omega
                  case rel => exact ⟨i + 1, p0, p1, n, rfl, congrArg (Value.int .i64) (by have := HJ.out; have := HL0.out; unfold wrap64; omega), ⟨by have := HJ.out; omega⟩, ⟨by have h_ := HSN.out; rw [if_neg (by have a1_ := K1.out; have a2_ := HRL.out; have a3_ := K3.out; intro h; rcases h with h | h; (omega); (have := a2_.2 h.2; omega))] at h_; exact h_⟩, HB, BKr, HM⟩
              · have k2b : decide (m = n) = false := decide_eq_false k2
                have k2c : (m == n) = false := by simpa using k2
                have K2 := Aside0.mk k2
                clear k2
                refine pv_ 2 45 #[Tt,Tt,Tt,Ff,Ff,Ff,Ff,Ff,Ff,Ff,Ff,Ff,Ff,Ff] ?_
                refine pv_ 3 46 #[Tt,Tt,Tt,Tt,Ff,Ff,Ff,Ff,Ff,Ff,Ff,Ff,Ff,Ff] ?_
                refine pv_ 4 47 #[Tt,Tt,Tt,Tt,Tt,Ff,Ff,Ff,Ff,Ff,Ff,Ff,Ff,Ff] ?_
                refine pv_ 5 48 #[Tt,Tt,Tt,Tt,Tt,Tt,Ff,Ff,Ff,Ff,Ff,Ff,Ff,Ff] ?_
                refine pv_ 6 49 #[Tt,Tt,Tt,Tt,Tt,Tt,Tt,Ff,Ff,Ff,Ff,Ff,Ff,Ff] ?_
                refine pv_ 7 50 #[Tt,Tt,Tt,Tt,Tt,Tt,Tt,Tt,Ff,Ff,Ff,Ff,Ff,Ff] ?_
                refine pu_ 8 51 #[Tt,Tt,Tt,Tt,Tt,Tt,Tt,Tt,Tt,Ff,Ff,Ff,Ff,Ff] ?_
                refine pu_ 9 52 #[Tt,Tt,Tt,Tt,Tt,Tt,Tt,Tt,Tt,Tt,Ff,Ff,Ff,Ff] ?_
                refine pu_ 10 53 #[Tt,Tt,Tt,Tt,Tt,Tt,Tt,Tt,Tt,Tt,Tt,Ff,Ff,Ff] ?_
                refine pu_ 11 54 #[Tt,Tt,Tt,Tt,Tt,Tt,Tt,Tt,Tt,Tt,Tt,Tt,Ff,Ff] ?_
                refine pv_ 12 55 #[Tt,Tt,Tt,Tt,Tt,Tt,Tt,Tt,Tt,Tt,Tt,Tt,Tt,Ff] ?_
                refine pv_ 13 56 #[Tt,Tt,Tt,Tt,Tt,Tt,Tt,Tt,Tt,Tt,Tt,Tt,Tt,Tt] ?_
                refine done_ (done_of HT_.out (by kernel_rfl)) ?_
                go_wp2
                go_roundg gk
                case measure => omega
                case rel => exact ⟨i + 1, p0, p1, n, rfl, congrArg (Value.int .i64) (by have := HJ.out; have := HL0.out; unfold wrap64; omega), ⟨by have := HJ.out; omega⟩, ⟨by have h_ := HSN.out; rw [if_neg (by have a1_ := K1.out; have a2_ := K2.out; intro h; rcases h with h | h; (omega); (have := h.1; omega))] at h_; exact h_⟩, HB, BKr, HM⟩
      | succ gk =>
        have hlt : j < l0.length := by have := HJ.out; omega
        have c1 : decide ((j : Int) < (l0.length : Int)) = true := decide_eq_true (by omega)
        have c2 : decide (j < l0.length) = true := decide_eq_true hlt
        obtain ⟨ad1, e1, hx_0, hx_1, hx_2, hx_3⟩ := at_T42 HR0.out (j : Int) (by omega) (by omega)
        cases e1
        simp only [Int.toNat_natCast] at hx_0 hx_1 hx_2 hx_3
        replace hx_0 := (HB.out.cell (World.block_lt_of_cell? w _ hx_0)).trans hx_0
        replace hx_1 := (HB.out.cell (World.block_lt_of_cell? w _ hx_1)).trans hx_1
        replace hx_2 := (HB.out.cell (World.block_lt_of_cell? w _ hx_2)).trans hx_2
        replace hx_3 := (HB.out.cell (World.block_lt_of_cell? w _ hx_3)).trans hx_3
        have p1 := eq_true (show (0 : Int) ≤ (j : Int) by omega)
        have p2 := eq_true (show (j : Int) < (l0.length : Int) by omega)
        have hr : rd_T42 l0 (j : Int) = l0[j] := by unfold rd_T42; simp [List.getD_eq_getElem?_getD, List.getElem?_eq_getElem hlt]
        rw [hr] at hx_0 hx_1 hx_2 hx_3
        have hgood : E37.good (endsOf l0[j]) := good2_ok (by have := List.all_eq_true.1 HG0.out _ (List.getElem_mem hlt); exact this)
        have HGD := Aside0.mk hgood
        have hsn : cntLog (l0.take (j + 1)) = cntLog (l0.take j) ++ [(endsOf l0[j], (lookM (cntLog (l0.take j)) (endsOf l0[j])).getD 0 + 1)] := by
          rw [List.take_succ_eq_append_getElem hlt, cntLog_snoc]
        have hcnt : 0 ≤ (lookM (cntLog (l0.take j)) (endsOf l0[j])).getD 0 ∧ (lookM (cntLog (l0.take j)) (endsOf l0[j])).getD 0 ≤ 1048576 := by
          rw [cntLog_eq]
          have h1 := cntE_bd (l0.take j) (endsOf l0[j])
          have h2 := HL0.out
          rw [List.length_take] at h1
          omega
        have HSN := Aside0.mk hsn
        have HCN := Aside0.mk hcnt
        clear hr hgood hsn hcnt
        have hee : endsOf l0[j] = (l0[j].f0, l0[j].f1) := rfl
        generalize l0[j].f0 = f0 at *
        generalize l0[j].f1 = f1 at *
        generalize l0[j].f2 = f2 at *
        generalize l0[j].f3 = f3 at *
        go_wp2_with (first | ((with_reducible refine gate_dst (N := 6) rfl ?_); refine box_event ?hg (N := 6) ?hd (cs := #[.int .i64 0, .int .i64 0, .int .i64 0, .int .i64 0]) (t := 42) ?hr ?_; (case hd => rfl); (case hg => rfl); (case hr => first | (go_simp; done) | (go_simp; rfl)); intro gb hg w5 hbox hb; have n0_ := Aside0.mk (below_step HB.out hb); have n1_ := Aside0.mk (blk_below BKr.out hb); have n2_ := Aside0.mk (MapI.below HM.out hb); have n3_ := Aside0.mk hbox; have n4_ := Aside0.mk (by rw [hg]; exact below_size HB.out : w.heap.size ≤ gb); have n5_ := Aside0.mk (by rw [hg]; exact Nat.ne_of_lt (blk_lt BKr.out) : gr ≠ gb); have n6_ := Aside0.mk (by rw [hg]; exact (Nat.ne_of_lt (MapI.lt HM.out)).symm : gb ≠ mb); clear HB BKr HM; have HB := n0_; have BKr := n1_; have HM := n2_; have BKb := n3_; have GEb := n4_; have NBrb := n5_; have NBbm := n6_; clear n0_ n1_ n2_ n3_ n4_ n5_ n6_; clear hb hbox hg; have z0 : w5.cell? ⟨gb, 0, none⟩ = some (.int .i64 0) := (blk_cell BKb.out 0).trans rfl; have z1 : w5.cell? ⟨gb, 1, none⟩ = some (.int .i64 0) := (blk_cell BKb.out 1).trans rfl; have z2 : w5.cell? ⟨gb, 2, none⟩ = some (.int .i64 0) := (blk_cell BKb.out 2).trans rfl; have z3 : w5.cell? ⟨gb, 3, none⟩ = some (.int .i64 0) := (blk_cell BKb.out 3).trans rfl; have y0 := blk_frozen BKb.out 0; have y1 := blk_frozen BKb.out 1; have y2 := blk_frozen BKb.out 2; have y3 := blk_frozen BKb.out 3))
        have n0_ := Aside0.mk (below_set (below_set (below_set (below_set HB.out GEb.out (j := 0) (v := .int .i64 f0)) GEb.out (j := 1) (v := .int .i64 f1)) GEb.out (j := 2) (v := .int .i64 f2)) GEb.out (j := 3) (v := .int .i64 f3))
        have n1_ := Aside0.mk (blk_far (p := ⟨gb, 3, none⟩) (blk_far (p := ⟨gb, 2, none⟩) (blk_far (p := ⟨gb, 1, none⟩) (blk_far (p := ⟨gb, 0, none⟩) BKr.out NBrb.out (.int .i64 f0)) NBrb.out (.int .i64 f1)) NBrb.out (.int .i64 f2)) NBrb.out (.int .i64 f3))
        have n2_ := Aside0.mk (MapI.farg (j := 3) (MapI.farg (j := 2) (MapI.farg (j := 1) (MapI.farg (j := 0) HM.out NBbm.out (.int .i64 f0)) NBbm.out (.int .i64 f1)) NBbm.out (.int .i64 f2)) NBbm.out (.int .i64 f3))
        have n3_ := Aside0.mk (blk_put (cs' := #[.int .i64 f0, .int .i64 f1, .int .i64 f2, .int .i64 f3]) (blk_put (cs' := #[.int .i64 f0, .int .i64 f1, .int .i64 f2, .int .i64 0]) (blk_put (cs' := #[.int .i64 f0, .int .i64 f1, .int .i64 0, .int .i64 0]) (blk_put (cs' := #[.int .i64 f0, .int .i64 0, .int .i64 0, .int .i64 0]) BKb.out 0 (.int .i64 f0) rfl) 1 (.int .i64 f1) rfl) 2 (.int .i64 f2) rfl) 3 (.int .i64 f3) rfl)
        clear HB BKr HM BKb z0 z1 z2 z3 y0 y1 y2 y3 hx_0 hx_1 hx_2 hx_3
        generalize (((w5.setCell ⟨gb, 0, none⟩ (.int .i64 f0)).setCell ⟨gb, 1, none⟩ (.int .i64 f1)).setCell ⟨gb, 2, none⟩ (.int .i64 f2)).setCell ⟨gb, 3, none⟩ (.int .i64 f3) = w6 at *
        have HB := Aside0.mk (below_drew1 n0_.out)
        have BKr := Aside0.mk (blk_drew n1_.out)
        have HM := Aside0.mk (MapI.drew n2_.out)
        have BKb := Aside0.mk (blk_drew n3_.out)
        clear n0_ n1_ n2_ n3_
        have hlk := mlook_run E37 Try.underlying66 HM.out HGD.out
        have HLK := Aside0.mk hlk
        clear hlk
        refine start_ (n := 11) (S := fun w' => w'.heap[gb]? = some (.cells #[.int .i64 f0, .int .i64 f1, .int .i64 f2, .int .i64 f3] 42 (0, 0)) ∧ (Instr.lookup 66 (.map (some mb)) (.agg #[.int .i64 f0, .int .i64 f1]) false).run Try.prog w' = .ok (.int .i64 ((lookM (cntLog (l0.take j)) (endsOf l0[j])).getD 0)) w') (ds := [10]) #[Ff,Ff,Ff,Ff,Ff,Ff,Ff,Ff,Ff,Ff,Ff] (by kernel_rfl) rfl rfl ⟨BKb.out, by have h_ := HLK.out; rw [hee] at h_ ⊢; exact h_⟩ (fun hHeld => ?_)
        refine with_tabW table_Busy.tab5 table_Busy.bits5 (fun HT_ HW_ => ?_)
        generalize w6.drew = w7 at HB BKr HM BKb HLK hHeld ⊢
        refine pv_ 0 18 #[Tt,Ff,Ff,Ff,Ff,Ff,Ff,Ff,Ff,Ff,Ff] ?_
        refine pv_ 1 19 #[Tt,Tt,Ff,Ff,Ff,Ff,Ff,Ff,Ff,Ff,Ff] ?_
        refine pv_ 3 21 #[Tt,Tt,Ff,Tt,Ff,Ff,Ff,Ff,Ff,Ff,Ff] ?_
        refine take_ (i := 2) (N := some 20) (v := ?_) (a' := ?_) #[Tt,Tt,Tt,Tt,Ff,Ff,Ff,Ff,Ff,Ff,Ff] rfl rfl (take_ofW HT_.out HW_.out (by kernel_rfl)) (fun _ _ _ h => h) (Or.inl ⟨by rfl, ?_⟩) hHeld ?_ ?_
        rotate_left
        · rintro w' ⟨s0, s1⟩
          have z0 : w'.cell? ⟨gb, 0, none⟩ = some (.int .i64 f0) := (blk_cell s0 0).trans rfl
          go_simp
          with_reducible rfl
        rotate_left
        exact ap_
        refine take_ (i := 4) (N := some 22) (v := ?_) (a' := ?_) #[Tt,Tt,Tt,Tt,Tt,Ff,Ff,Ff,Ff,Ff,Ff] rfl rfl (take_ofW HT_.out HW_.out (by kernel_rfl)) (fun _ _ _ h => h) (Or.inl ⟨by rfl, ?_⟩) hHeld ?_ ?_
        rotate_left
        · rintro w' ⟨s0, s1⟩
          have z1 : w'.cell? ⟨gb, 1, none⟩ = some (.int .i64 f1) := (blk_cell s0 1).trans rfl
          go_simp
          with_reducible rfl
        rotate_left
        exact ap_
        refine pv_ 5 23 #[Tt,Tt,Tt,Tt,Tt,Tt,Ff,Ff,Ff,Ff,Ff] ?_
        refine take_ (i := 6) (N := some 24) (v := ?_) (a' := ?_) #[Tt,Tt,Tt,Tt,Tt,Tt,Tt,Ff,Ff,Ff,Ff] rfl rfl (take_ofW HT_.out HW_.out (by kernel_rfl)) (fun _ _ _ h => h) (Or.inl ⟨by rfl, ?_⟩) hHeld ?_ ?_
        rotate_left
        · rintro w' ⟨s0, s1⟩
          go_simp
          with_reducible rfl
        rotate_left
        exact ap_
        refine pv_ 7 25 #[Tt,Tt,Tt,Tt,Tt,Tt,Tt,Tt,Ff,Ff,Ff] ?_
        have hn : j < maxLen := by have := HL0.out; unfold maxLen; omega
        obtain ⟨v0, st, w8, es1, hrun1, hM1, hsame, hg1, hst⟩ := mentry E37 klaw37 Try.underlying66 HM.out HGD.out hn
        have hrun1' : (Instr.mapEntry 66 (.map (some mb)) (.agg #[.int .i64 f0, .int .i64 f1])).run Try.prog w7 = .ok (.tuple #[v0, goInt st]) w8 := by rw [hee] at hrun1; exact hrun1
        clear hrun1
        refine one_ (i := 8) (N := some 26) #[Tt,Tt,Tt,Tt,Tt,Tt,Tt,Tt,Tt,Ff,Ff] rfl rfl (one_of HT_.out (by kernel_rfl)) (by decide) (fun K hK => ?_)
        refine value_ (v := .tuple #[v0, goInt st]) (w1 := w8) (by rfl) rfl (by go_simp; done) ?_
        have n0_ := Aside0.mk (blk_grown BKb.out hg1 (fun e_ => NBbm.out (Option.some.inj e_)))
        have n1_ := Aside0.mk (blk_grown BKr.out hg1 (fun e_ => by
          obtain ⟨x_, c_, hb_⟩ := HM.out.block
          have h_ := BKr.out
          rw [Option.some.inj e_, hb_] at h_
          cases h_))
        have n2_ := Aside0.mk (Below.grown HB.out hg1 (below_size HB.out) (fun k_ e_ => by injection e_ with e_; subst e_; exact GEm.out))
        have n3_ := Aside0.mk hM1
        clear BKb BKr HB HM
        have BKb := n0_
        have BKr := n1_
        have HB := n2_
        have HM := n3_
        clear n0_ n1_ n2_ n3_
        have hlk1 := mlook_run E37 Try.underlying66 hM1 HGD.out
        rw [hsame] at hlk1
        refine hK.out _ _ ⟨BKb.out, by rw [hee] at hlk1 ⊢; exact hlk1⟩ (fun hHeld => ?_)
        clear hK K hM1 hsame hg1 hrun1' hlk1
        refine norm_ (a' := ?_) ?_ ?_
        rotate_left
        · show Act.put _ (some 26) _ = _
          simp only [Act.put, List.setIfInBounds_toArray, List.set_cons_zero, List.set_cons_succ, i64_w, i32_w]
          rfl
        refine pv_ 9 27 #[Tt,Tt,Tt,Tt,Tt,Tt,Tt,Tt,Tt,Tt,Ff] ?_
        refine last_ (i := 10) (N := none) #[Tt,Tt,Tt,Tt,Tt,Tt,Tt,Tt,Tt,Tt,Tt] rfl rfl (one_of HT_.out (by kernel_rfl)) (by decide) (fun K hK => ?_)
        have hwv : wrap64 ((lookM (cntLog (l0.take j)) (endsOf l0[j])).getD 0 + 1) = (lookM (cntLog (l0.take j)) (endsOf l0[j])).getD 0 + 1 := by
          have h_ := HCN.out
          unfold wrap64
          omega
        obtain ⟨w9, hrun2, hM2, hg2⟩ := hst (wrap64 ((lookM (cntLog (l0.take j)) (endsOf l0[j])).getD 0 + 1)) (by rw [hwv]; have h_ := HCN.out; exact wf_i64' (by omega) (by omega))
        have hrun2' : (Instr.entryStore 66 (.map (some mb)) (.int .i64 (st : Int)) (.int .i64 (wrap64 ((lookM (cntLog (l0.take j)) (f0, f1)).getD 0 + 1)))).run Try.prog w8 = .ok () w9 := by rw [hee] at hrun2; exact hrun2
        refine skip_ (w1 := w9) (by rfl) rfl (by go_simp; done) ?_
        rw [hwv, ← HSN.out] at hM2
        have n1_ := Aside0.mk (blk_grown BKr.out hg2 (fun e_ => by
          obtain ⟨x_, c_, hb_⟩ := HM.out.block
          have h_ := BKr.out
          rw [Option.some.inj e_, hb_] at h_
          cases h_))
        have n2_ := Aside0.mk (Below.grown HB.out hg2 (below_size HB.out) (fun k_ e_ => by injection e_ with e_; subst e_; exact GEm.out))
        have n3_ := Aside0.mk hM2
        clear BKr HB HM BKb
        have BKr := n1_
        have HB := n2_
        have HM := n3_
        clear n1_ n2_ n3_ hM2 hg2 hrun2 hrun2'
        refine hK.out _ _ ?_
        clear hK K
        refine done_ (done_of HT_.out (by kernel_rfl)) ?_
        try go_wp2
        go_roundg gk
        case measure => omega
        case rel => exact ⟨j + 1, congrArg (Value.int .i64) (by have := HJ.out; have := HL0.out; unfold wrap64; omega), ⟨by have := HJ.out; omega⟩, HB, BKr, HM⟩
  · cases h
end Go.Proofs.Ytlcbpaenjjeenaa.Q
end
section
namespace Go.Proofs.Ytlcbpaenjjeenaa.Q
open Go.RowKit Go.Proofs.YtlcbpaenjjeenaaW.PrintWords Go.Proofs.YtlcbpaenjjeenaaW.PrintLast Go.Proofs.YtlcbpaenjjeenaaW.PrintMore
set_option linter.unusedVariables false
set_option linter.unusedSimpArgs false
theorem eqA24 (d : Nat) (w : World) (x0 y0 : Int) (x1 y1 : Int) (x2 y2 : Int) :
  (Op.equalIn (d + 2) 24 (.agg #[.int .i64 x0, .int .i64 x1, .int .i64 x2]) (.agg #[.int .i64 y0, .int .i64 y1, .int .i64 y2])).run Try.prog w = .ok (x0 == y0 && (x1 == y1 && (x2 == y2))) w := by
 refine eqA_of Try.underlying24 (by kernel_rfl) ?_; refine eqf_cons (by rfl) (by go_simp; rfl) (by go_simp; rfl) (by go_simp) ?_; refine eqf_cons (by rfl) (by go_simp; rfl) (by go_simp; rfl) (by go_simp) ?_; exact eqf_last (by rfl) (by go_simp; rfl) (by go_simp; rfl) (by go_simp)
end Go.Proofs.Ytlcbpaenjjeenaa.Q
end
