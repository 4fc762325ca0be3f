/- A part of the proof: words, contracts, plain lemmas. Conditions: none. -/
import Derived.Test.YtlcbpaenjjeenaaZTableBusy10
import Derived.Test.YtlcbpaenjjeenaaZTableBusy3
import Derived.Test.YtlcbpaenjjeenaaZTableBusy11
import Derived.Test.YtlcbpaenjjeenaaZTableBusy5
import Derived.Test.YtlcbpaenjjeenaaZTableBusy6
import Derived.Test.YtlcbpaenjjeenaaZTableBusy7
section
namespace Go.Proofs.Ytlcbpaenjjeenaa.Q
open Go.RowKit Go.Proofs.YtlcbpaenjjeenaaW.PrintWords Go.Proofs.YtlcbpaenjjeenaaW.PrintLast Go.Proofs.YtlcbpaenjjeenaaW.PrintMore
set_option linter.unusedVariables false
set_option linter.unusedSimpArgs false
theorem cntE_take (l : List S42) (p : Int × Int) (k : Nat) (hk : k < l.length) : cntE (l.take (k + 1)) p = cntE (l.take k) p + (if l[k].f0 = p.1 ∧ l[k].f1 = p.2 then 1 else 0) := by
  unfold cntE
  rw [List.take_succ_eq_append_getElem hk, List.filter_append, List.filter_cons]
  by_cases c : endsOf l[k] = p
  · have c' : l[k].f0 = p.1 ∧ l[k].f1 = p.2 := by rw [← c]; exact ⟨rfl, rfl⟩
    simp [c, c']
  · have c' : ¬ (l[k].f0 = p.1 ∧ l[k].f1 = p.2) := fun h => c (Prod.ext h.1 h.2)
    simp [c, c']
def ebbtideref03_Busy.T10 : Bool × List (List Nat × List Nat) := (true, [([], []), ([], []), ([0, 1], [0, 1]), ([2], [2]), ([3], [3]), ([], []), ([], []), ([5, 6], [5, 6]), ([7], [7]), ([8], [8]), ([4, 9], [4, 9]), ([10], [10]), ([11], [11]), ([11], [11]), ([12, 13, 11], [11, 12, 13]), ([14, 11], [11, 14]), ([15, 11], [11, 15]), ([11], [11]), ([11], [11]), ([17, 18, 11], [11, 17, 18]), ([19, 11], [11, 19]), ([20, 11], [11, 20]), ([16, 21, 11], [11, 16, 21]), ([11, 22], [11, 22])])
def ebbtideref03_Busy.B10 : List Nat := [0, 0, 3, 7, 15, 0, 0, 96, 224, 480, 1023, 2047, 4095, 4095, 16383, 32767, 65535, 4095, 4095, 397311, 921599, 1970175, 4194303, 8388607]
theorem ebbtideref03_Busy.tab10 : rtab .any (opsOf Try.f23 10) = ebbtideref03_Busy.T10 := by kernel_rfl
theorem ebbtideref03_Busy.bits10 : waitsOk ebbtideref03_Busy.T10.2 ebbtideref03_Busy.B10 = true := by kernel_rfl
def ebbtideref03_Busy.T12 : Bool × List (List Nat × List Nat) := (true, [([], []), ([], []), ([0, 1], [0, 1]), ([2], [2]), ([3], [3]), ([], []), ([], []), ([5, 6], [5, 6]), ([7], [7]), ([8], [8]), ([4, 9], [4, 9]), ([], []), ([11, 10, 0, 1, 2, 3, 4, 5, 6, 7, 8, 9, 10, 11], [10, 11])])
def ebbtideref03_Busy.B12 : List Nat := [0, 0, 3, 7, 15, 0, 0, 96, 224, 480, 1023, 0, 4095]
theorem ebbtideref03_Busy.tab12 : rtab .any (opsOf Try.f23 12) = ebbtideref03_Busy.T12 := by kernel_rfl
theorem ebbtideref03_Busy.bits12 : waitsOk ebbtideref03_Busy.T12.2 ebbtideref03_Busy.B12 = true := by kernel_rfl
set_option maxHeartbeats 8000000 in
set_option maxRecDepth 100000 in
theorem ebbtideref03_Busy.calls (A0 : Option Addr) (c0 : Nat) (l0 : List S42) (r1 r2 r3 : Int) (w : World) (hr0 : Kd.C k42 w A0 l0.length l0) (hc0 : l0.length ≤ c0) (h : table_Busy.f l0 = some (r1, r2, r3)) :
    Calls Try.prog 23 #[.slice A0 l0.length c0] w fun e w' => e = .returned (.tuple #[.agg #[.int .i64 r1, .int .i64 r2], .int .i64 r3]) ∧ Below w.heap.size w w' := by
  unfold table_Busy.f at h
  split at h
  case isFalse => cases h
  rename_i hh
  injection h with h
  simp only [Prod.mk.injEq] at h
  obtain ⟨e1, e2, e3⟩ := h
  have HE1 := Aside0.mk e1
  have HE2 := Aside0.mk e2
  have HE3 := Aside0.mk e3
  have HR0 := Aside0.mk hr0
  have HC0 := Aside0.mk hc0
  have HL0 := Aside0.mk hh.1
  have hu42 := Try.underlying42
  have hu37 := Try.underlying37
  have HB := Aside0.mk (Below.refl w.heap.size w)
  clear hr0 hc0 hh e1 e2 e3
  go_enter Try.func23, Try.ntmps23
  go_wp2_with (first
    | ((with_reducible refine gate_dst (N := 2) rfl ?_); refine box_event ?hg (N := 2) ?hd (cs := #[.int .i64 0, .int .i64 0]) (t := 37) ?hr ?_; (case hd => rfl); (case hg => rfl); (case hr => first | (go_simp; done) | (go_simp; rfl)); intro gr hg w2 hbox hb; have n0_ := Aside0.mk (below_step HB.out hb); have n1_ := Aside0.mk hbox; have n2_ := Aside0.mk (by rw [hg]; exact below_size HB.out : w.heap.size ≤ gr); clear HB; have HB := n0_; have BKr := n1_; have GEr := n2_; clear n0_ n1_ n2_; clear hb hbox hg)
    | ((with_reducible refine gate_dst (N := 4) rfl ?_); refine box_event ?hg (N := 4) ?hd (cs := #[.int .i64 0, .int .i64 0]) (t := 37) ?hr ?_; (case hd => rfl); (case hg => rfl); (case hr => first | (go_simp; done) | (go_simp; rfl)); intro gb hg w3 hbox hb; have n0_ := Aside0.mk (below_step HB.out hb); have n1_ := Aside0.mk (blk_below BKr.out hb); have n2_ := Aside0.mk hbox; have n3_ := Aside0.mk (by rw [hg]; exact below_size HB.out : w.heap.size ≤ gb); have n4_ := Aside0.mk (by rw [hg]; exact Nat.ne_of_lt (blk_lt BKr.out) : gr ≠ gb); clear HB BKr; have HB := n0_; have BKr := n1_; have BKb := n2_; have GEb := n3_; have NBrb := n4_; clear n0_ n1_ n2_ n3_ n4_; clear hb hbox hg; have z0 : w3.cell? ⟨gb, 0, none⟩ = some (.int .i64 0) := (blk_cell BKb.out 0).trans rfl; have z1 : w3.cell? ⟨gb, 1, none⟩ = some (.int .i64 0) := (blk_cell BKb.out 1).trans rfl; have y0 := blk_frozen BKb.out 0; have y1 := blk_frozen BKb.out 1))
  have n0_ := Aside0.mk (below_set (below_set HB.out GEb.out (j := 0) (v := .int .i64 0)) GEb.out (j := 1) (v := .int .i64 0))
  have n1_ := Aside0.mk (blk_far (p := ⟨gb, 1, none⟩) (blk_far (p := ⟨gb, 0, none⟩) BKr.out NBrb.out (.int .i64 0)) NBrb.out (.int .i64 0))
  have n2_ := Aside0.mk (blk_put (cs' := #[.int .i64 0, .int .i64 0]) (blk_put (cs' := #[.int .i64 0, .int .i64 0]) BKb.out 0 (.int .i64 0) rfl) 1 (.int .i64 0) rfl)
  clear HB BKr BKb z0 z1 y0 y1
  have HB := n0_
  have BKr := n1_
  have BKb := n2_
  clear n0_ n1_ n2_
  go_loopg [5, 6] l0.length (fun kq v5 v6 w' => ∃ (i : Nat) (p0 p1 n : Int), v5 = .int .i64 n ∧ v6 = .int .i64 (i : Int) ∧ Aside0 (i + kq = l0.length) ∧ Aside0 ((l0.take i).foldl (busyStep l0) ((0, 0), 0) = ((p0, p1), n)) ∧ Aside0 (Below w.heap.size w w') ∧ Aside0 (w'.heap[gr]? = some (.cells #[.int .i64 0, .int .i64 0] 37 (0, 0))) ∧ Aside0 (w'.heap[gb]? = some (.cells #[.int .i64 p0, .int .i64 p1] 37 (0, 0))))
  case atStart => exact ⟨0, 0, 0, 0, rfl, rfl, ⟨by omega⟩, ⟨rfl⟩, HB, BKr, BKb⟩
  case round =>
    clear HB BKr BKb
    obtain ⟨i, p0, p1, n, rfl, rfl, HJ, HF, HB, BKr, BKb⟩ := hrel
    cases gk with
    | zero =>
      have hi : i = l0.length := by have := HJ.out; omega
      have c1 : decide ((i : Int) < (l0.length : Int)) = false := decide_eq_false (by omega)
      have c2 : decide (i < l0.length) = false := decide_eq_false (by omega)
      have hF := HF.out
      rw [hi, List.take_length] at hF
      have e1 := HE1.out
      have e2 := HE2.out
      have e3 := HE3.out
      unfold busyL at e1 e2 e3
      rw [hF] at e1 e2 e3
      simp only at e1 e2 e3
      subst e1 e2 e3
      have z0 : wr.cell? ⟨gb, 0, none⟩ = some (.int .i64 p0) := (blk_cell BKb.out 0).trans rfl
      have z1 : wr.cell? ⟨gb, 1, none⟩ = some (.int .i64 p1) := (blk_cell BKb.out 1).trans rfl
      have z2 : wr.cell? ⟨gr, 0, none⟩ = some (.int .i64 0) := (blk_cell BKr.out 0).trans rfl
      have z3 : wr.cell? ⟨gr, 1, none⟩ = some (.int .i64 0) := (blk_cell BKr.out 1).trans rfl
      have y0 := blk_frozen BKb.out 0
      have y1 := blk_frozen BKb.out 1
      have y2 := blk_frozen BKr.out 0
      have y3 := blk_frozen BKr.out 1
      clear hF hi
      go_wp2
      refine bodyPost_ret (results_ct rfl _ _ gr 37 #[.int .i64 p0, .int .i64 p1] (0, 0) _ rfl (blk_put (cs' := #[.int .i64 p0, .int .i64 p1]) (blk_put (cs' := #[.int .i64 p0, .int .i64 0]) BKr.out 0 (.int .i64 p0) rfl) 1 (.int .i64 p1) rfl) Try.underlying37 rfl (by kernel_rfl)) rfl ?_
      exact ⟨rfl, below_set (below_set HB.out GEr.out) GEr.out⟩
    | succ gk1 =>
      have hlt : i < l0.length := by have := HJ.out; omega
      have c1 : decide ((i : Int) < (l0.length : Int)) = true := decide_eq_true (by omega)
      have c2 : decide (i < l0.length) = true := decide_eq_true hlt
      obtain ⟨ad1, e1, hx_0, hx_1, hx_2, hx_3⟩ := at_T42 HR0.out (i : Int) (by omega) (by omega)
      cases e1
      simp only [Int.toNat_natCast] at hx_0 hx_1
      clear hx_2 hx_3
      have p1_ := eq_true (show (0 : Int) ≤ (i : Int) by omega)
      have p2_ := eq_true (show (i : Int) < (l0.length : Int) by omega)
      have hr : rd_T42 l0 (i : Int) = l0[i] := by unfold rd_T42; simp [List.getD_eq_getElem?_getD, List.getElem?_eq_getElem hlt]
      rw [hr] at hx_0 hx_1
      have hsn : (l0.take (i + 1)).foldl (busyStep l0) ((0, 0), 0) = (if cntE l0 (l0[i].f0, l0[i].f1) > n ∨ cntE l0 (l0[i].f0, l0[i].f1) = n ∧ pairLt (l0[i].f0, l0[i].f1) (p0, p1) then ((l0[i].f0, l0[i].f1), cntE l0 (l0[i].f0, l0[i].f1)) else ((p0, p1), n)) := by
        rw [List.take_succ_eq_append_getElem hlt, List.foldl_append, HF.out]
        rfl
      have HSN := Aside0.mk hsn
      have W0 := Aside0.mk hx_0
      have W1 := Aside0.mk hx_1
      clear hr hsn hx_0 hx_1
      generalize l0[i].f0 = f0 at *
      generalize l0[i].f1 = f1 at *
      go_wp2
      go_loopg [7, 8] l0.length (fun kq v7 v8 w' => ∃ (k : Nat), v7 = .int .i64 (cntE (l0.take k) (f0, f1)) ∧ v8 = .int .i64 (k : Int) ∧ Aside0 (k + kq = l0.length) ∧ Aside0 (Below w.heap.size w w') ∧ Aside0 (w'.heap[gr]? = some (.cells #[.int .i64 0, .int .i64 0] 37 (0, 0))) ∧ Aside0 (w'.heap[gb]? = some (.cells #[.int .i64 p0, .int .i64 p1] 37 (0, 0))))
      case atStart => exact ⟨0, rfl, rfl, ⟨by omega⟩, HB, BKr, BKb⟩
      case round =>
        clear HB BKr BKb c1 c2
        obtain ⟨k, rfl, rfl, HK, HB, BKr, BKb⟩ := hrel
        cases gk with
        | zero =>
          have hk : k = l0.length := by have := HK.out; omega
          have c1 : decide ((k : Int) < (l0.length : Int)) = false := decide_eq_false (by omega)
          have c2 : decide (k < l0.length) = false := decide_eq_false (by omega)
          have hfull : l0.take k = l0 := by rw [hk, List.take_length]
          go_wp2
          clear c1 c2 hk
          rw [hfull]
          clear hfull
          generalize cntE l0 (f0, f1) = m at *
          have hx_0 : wr.cell? (ad1.add (i * 4)) = some (.int .i64 f0) := (HB.out.cell (World.block_lt_of_cell? w _ W0.out)).trans W0.out
          have hx_1 : wr.cell? ⟨(ad1.add (i * 4)).block, (ad1.add (i * 4)).off + 1, none⟩ = some (.int .i64 f1) := (HB.out.cell (World.block_lt_of_cell? w _ W1.out)).trans W1.out
          have n0_ := Aside0.mk (below_drew1 HB.out)
          have n1_ := Aside0.mk (blk_drew BKr.out)
          have n2_ := Aside0.mk (blk_drew BKb.out)
          clear HB BKr BKb
          have HB := n0_
          have BKr := n1_
          have BKb := n2_
          clear n0_ n1_ n2_
          refine start_ (n := 13) (S := fun w' => w'.cell? (ad1.add (i * 4)) = some (.int .i64 f0) ∧ w'.cell? ⟨(ad1.add (i * 4)).block, (ad1.add (i * 4)).off + 1, none⟩ = some (.int .i64 f1)) (ds := [12]) #[Ff,Ff,Ff,Ff,Ff,Ff,Ff,Ff,Ff,Ff,Ff,Ff,Ff] (by kernel_rfl) rfl rfl ⟨hx_0, hx_1⟩ (fun hHeld => ?_)
          clear hx_0 hx_1
          generalize wr.drew = w4 at HB BKr BKb hHeld ⊢
          refine with_tabW ebbtideref03_Busy.tab12 ebbtideref03_Busy.bits12 (fun HT_ HW_ => ?_)
          refine pv_ 0 50 #[Tt,Ff,Ff,Ff,Ff,Ff,Ff,Ff,Ff,Ff,Ff,Ff,Ff] ?_
          refine pv_ 1 51 #[Tt,Tt,Ff,Ff,Ff,Ff,Ff,Ff,Ff,Ff,Ff,Ff,Ff] ?_
          refine pv_ 2 52 #[Tt,Tt,Tt,Ff,Ff,Ff,Ff,Ff,Ff,Ff,Ff,Ff,Ff] ?_
          refine pv_ 3 53 #[Tt,Tt,Tt,Tt,Ff,Ff,Ff,Ff,Ff,Ff,Ff,Ff,Ff] ?_
          refine pv_ 5 55 #[Tt,Tt,Tt,Tt,Ff,Tt,Ff,Ff,Ff,Ff,Ff,Ff,Ff] ?_
          refine pv_ 6 56 #[Tt,Tt,Tt,Tt,Ff,Tt,Tt,Ff,Ff,Ff,Ff,Ff,Ff] ?_
          refine pv_ 7 57 #[Tt,Tt,Tt,Tt,Ff,Tt,Tt,Tt,Ff,Ff,Ff,Ff,Ff] ?_
          refine pv_ 8 58 #[Tt,Tt,Tt,Tt,Ff,Tt,Tt,Tt,Tt,Ff,Ff,Ff,Ff] ?_
          refine take_ (i := 4) (N := (some 54)) (v := ?_) (a' := ?_) #[Tt,Tt,Tt,Tt,Tt,Tt,Tt,Tt,Tt,Ff,Ff,Ff,Ff] rfl rfl (take_ofW HT_.out HW_.out (by kernel_rfl)) (fun _ _ _ h => h) (Or.inl ⟨by rfl, ?_⟩) hHeld ?_ ?_
          rotate_left
          · rintro w' ⟨s0, s1⟩
            go_simp
            with_reducible rfl
          rotate_left
          exact ap_
          refine take_ (i := 9) (N := (some 59)) (v := ?_) (a' := ?_) #[Tt,Tt,Tt,Tt,Tt,Tt,Tt,Tt,Tt,Tt,Ff,Ff,Ff] rfl rfl (take_ofW HT_.out HW_.out (by kernel_rfl)) (fun _ _ _ h => h) (Or.inl ⟨by rfl, ?_⟩) hHeld ?_ ?_
          rotate_left
          · rintro w' ⟨s0, s1⟩
            go_simp
            with_reducible rfl
          rotate_left
          exact ap_
          refine pv_ 10 60 #[Tt,Tt,Tt,Tt,Tt,Tt,Tt,Tt,Tt,Tt,Tt,Ff,Ff] ?_
          refine one_ (i := 11) (N := (some 9)) #[Tt,Tt,Tt,Tt,Tt,Tt,Tt,Tt,Tt,Tt,Tt,Tt,Ff] rfl rfl (one_of HT_.out (by kernel_rfl)) (by decide) (fun K hK => ?_)
          refine box_step (N := 9) (cs := #[.int .i64 0, .int .i64 0]) (t := 37) (by rfl) rfl (by first | (go_simp; done) | (go_simp; rfl)) ?_
          intro gp hg w5 hbox hb
          have n0_ := Aside0.mk (below_step HB.out hb)
          have n1_ := Aside0.mk (blk_below BKr.out hb)
          have n2_ := Aside0.mk (blk_below BKb.out hb)
          have BKp := Aside0.mk hbox
          have GEp := Aside0.mk (by rw [hg]; exact below_size HB.out : w.heap.size ≤ gp)
          have NBrp := Aside0.mk (by rw [hg]; exact Nat.ne_of_lt (blk_lt BKr.out) : gr ≠ gp)
          have NBbp := Aside0.mk (by rw [hg]; exact Nat.ne_of_lt (blk_lt BKb.out) : gb ≠ gp)
          clear HB BKr BKb hb hbox hg
          have HB := n0_
          have BKr := n1_
          have BKb := n2_
          clear n0_ n1_ n2_
          refine hK.out _ _ ⟨(HB.out.cell (World.block_lt_of_cell? w _ W0.out)).trans W0.out, (HB.out.cell (World.block_lt_of_cell? w _ W1.out)).trans W1.out⟩ (fun hHeld => ?_)
          clear hK K
          refine norm_ (a' := ?_) ?_ ?_
          rotate_left
          · show Act.put _ (some 9) _ = _
            simp only [Act.put, List.setIfInBounds_toArray, List.set_cons_zero, List.set_cons_succ, i64_w, i32_w]
            rfl
          have z0 : w5.cell? ⟨gp, 0, none⟩ = some (.int .i64 0) := (blk_cell BKp.out 0).trans rfl
          have z1 : w5.cell? ⟨gp, 1, none⟩ = some (.int .i64 0) := (blk_cell BKp.out 1).trans rfl
          have y0 := blk_frozen BKp.out 0
          have y1 := blk_frozen BKp.out 1
          refine last_ (i := 12) (N := none) #[Tt,Tt,Tt,Tt,Tt,Tt,Tt,Tt,Tt,Tt,Tt,Tt,Tt] rfl rfl (one_of HT_.out (by kernel_rfl)) (by decide) (fun K hK => ?_)
          refine skip_ (w1 := ?_) (by rfl) rfl ?_ ?_
          rotate_left
          · go_simp
            rfl
          refine hK.out _ _ ?_
          clear hK K
          have n0_ := Aside0.mk (below_set (below_set HB.out GEp.out (j := 0) (v := .int .i64 f0)) GEp.out (j := 1) (v := .int .i64 f1))
          have n1_ := Aside0.mk (blk_far (p := ⟨gp, 1, none⟩) (blk_far (p := ⟨gp, 0, none⟩) BKr.out NBrp.out (.int .i64 f0)) NBrp.out (.int .i64 f1))
          have n2_ := Aside0.mk (blk_far (p := ⟨gp, 1, none⟩) (blk_far (p := ⟨gp, 0, none⟩) BKb.out NBbp.out (.int .i64 f0)) NBbp.out (.int .i64 f1))
          have n3_ := Aside0.mk (blk_put (cs' := #[.int .i64 f0, .int .i64 f1]) (blk_put (cs' := #[.int .i64 f0, .int .i64 0]) BKp.out 0 (.int .i64 f0) rfl) 1 (.int .i64 f1) rfl)
          clear HB BKr BKb BKp z0 z1 y0 y1
          have HB := n0_
          have BKr := n1_
          have BKb := n2_
          have BKp := n3_
          clear n0_ n1_ n2_ n3_
          refine done_ (done_of HT_.out (by kernel_rfl)) ?_
          generalize (w5.setCell ⟨gp, 0, none⟩ (.int .i64 f0)).setCell ⟨gp, 1, none⟩ (.int .i64 f1) = w6 at *
          have z0 : w6.cell? ⟨gp, 0, none⟩ = some (.int .i64 f0) := (blk_cell BKp.out 0).trans rfl
          have z1 : w6.cell? ⟨gp, 1, none⟩ = some (.int .i64 f1) := (blk_cell BKp.out 1).trans rfl
          have z2 : w6.cell? ⟨gb, 0, none⟩ = some (.int .i64 p0) := (blk_cell BKb.out 0).trans rfl
          have z3 : w6.cell? ⟨gb, 1, none⟩ = some (.int .i64 p1) := (blk_cell BKb.out 1).trans rfl
          have y0 := blk_frozen BKp.out 0
          have y1 := blk_frozen BKp.out 1
          have y2 := blk_frozen BKb.out 0
          have y3 := blk_frozen BKb.out 1
          obtain ⟨b1, d1, e1⟩ : ∃ b, decide (f0 < p0) = b ∧ (b = true ↔ f0 < p0) := ⟨_, rfl, decide_eq_true_iff⟩
          obtain ⟨b2, d2, d2', e2⟩ : ∃ b, decide (f0 = p0) = b ∧ (f0 == p0) = b ∧ (b = true ↔ f0 = p0) := ⟨_, rfl, by rw [Bool.beq_eq_decide_eq], decide_eq_true_iff⟩
          obtain ⟨b3, d3, e3⟩ : ∃ b, decide (f1 < p1) = b ∧ (b = true ↔ f1 < p1) := ⟨_, rfl, decide_eq_true_iff⟩
          obtain ⟨b4, d4, d4', e4⟩ : ∃ b, decide (m > n) = b ∧ decide (n < m) = b ∧ (b = true ↔ n < m) := ⟨_, rfl, rfl, decide_eq_true_iff⟩
          obtain ⟨b5, d5, d5', e5⟩ : ∃ b, decide (m = n) = b ∧ (m == n) = b ∧ (b = true ↔ m = n) := ⟨_, rfl, by rw [Bool.beq_eq_decide_eq], decide_eq_true_iff⟩
          have hwr : wrap64 ((i : Int) + 1) = ((i + 1 : Nat) : Int) := by have := HL0.out; unfold wrap64; omega
          have hs1 : (b4 = true ∨ b5 = true ∧ (b1 = true ∨ b2 = true ∧ b3 = true)) → (l0.take (i + 1)).foldl (busyStep l0) ((0, 0), 0) = ((f0, f1), m) := fun hc => by
            rw [HSN.out, if_pos]
            rw [e1, e2, e3, e4, e5] at hc
            exact hc
          have hs2 : ¬ (b4 = true ∨ b5 = true ∧ (b1 = true ∨ b2 = true ∧ b3 = true)) → (l0.take (i + 1)).foldl (busyStep l0) ((0, 0), 0) = ((p0, p1), n) := fun hc => by
            rw [HSN.out, if_neg]
            rw [e1, e2, e3, e4, e5] at hc
            exact hc
          have HS1 := Aside0.mk hs1
          have HS2 := Aside0.mk hs2
          clear e1 e2 e3 e4 e5 hs1 hs2
          cases b1 <;> cases b2 <;> cases b3 <;> cases b4 <;> cases b5
          all_goals
            go_wp2
            go_roundg gk1
            case measure => omega
            case rel =>
              first
              | exact ⟨i + 1, f0, f1, m, rfl, by first | exact congrArg (Value.int .i64) (by omega) | rw [← hwr], ⟨by have := HJ.out; omega⟩, ⟨HS1.out (by decide)⟩, ⟨below_set (below_set HB.out GEb.out) GEb.out⟩, ⟨blk_far (blk_far BKr.out NBrb.out _) NBrb.out _⟩, ⟨blk_put (cs' := #[.int .i64 f0, .int .i64 f1]) (blk_put (cs' := #[.int .i64 f0, .int .i64 p1]) BKb.out 0 (.int .i64 f0) rfl) 1 (.int .i64 f1) rfl⟩⟩
              | exact ⟨i + 1, p0, p1, n, rfl, by first | exact congrArg (Value.int .i64) (by omega) | rw [← hwr], ⟨by have := HJ.out; omega⟩, ⟨HS2.out (by decide)⟩, HB, BKr, BKb⟩
        | succ gk2 =>
          have hlk : k < l0.length := by have := HK.out; omega
          have c1 : decide ((k : Int) < (l0.length : Int)) = true := decide_eq_true (by omega)
          have c2 : decide (k < l0.length) = true := decide_eq_true hlk
          obtain ⟨ad2, e2, hv_0, hv_1, hv_2, hv_3⟩ := at_T42 HR0.out (k : Int) (by omega) (by omega)
          cases e2
          simp only [Int.toNat_natCast] at hv_0 hv_1
          clear hv_2 hv_3
          have p3_ := eq_true (show (0 : Int) ≤ (k : Int) by omega)
          have p4_ := eq_true (show (k : Int) < (l0.length : Int) by omega)
          have hr : rd_T42 l0 (k : Int) = l0[k] := by unfold rd_T42; simp [List.getD_eq_getElem?_getD, List.getElem?_eq_getElem hlk]
          rw [hr] at hv_0 hv_1
          have hcn := cntE_take l0 (f0, f1) k hlk
          have hcb := cntE_bd (l0.take k) (f0, f1)
          rw [List.length_take] at hcb
          have hw1 : wrap64 (cntE (l0.take k) (f0, f1) + 1) = cntE (l0.take k) (f0, f1) + 1 := by have := HL0.out; unfold wrap64; omega
          have hwk : wrap64 ((k : Int) + 1) = ((k + 1 : Nat) : Int) := by have := HL0.out; unfold wrap64; omega
          have HCN := Aside0.mk hcn
          clear hr hcn hcb
          have V0 := Aside0.mk hv_0
          have V1 := Aside0.mk hv_1
          clear hv_0 hv_1
          generalize l0[k].f0 = g0 at *
          generalize l0[k].f1 = g1 at *
          clear hlk
          have hx_0 : wr.cell? (ad1.add (i * 4)) = some (.int .i64 f0) := (HB.out.cell (World.block_lt_of_cell? w _ W0.out)).trans W0.out
          have hx_1 : wr.cell? ⟨(ad1.add (i * 4)).block, (ad1.add (i * 4)).off + 1, none⟩ = some (.int .i64 f1) := (HB.out.cell (World.block_lt_of_cell? w _ W1.out)).trans W1.out
          have hv_0 : wr.cell? (ad1.add (k * 4)) = some (.int .i64 g0) := (HB.out.cell (World.block_lt_of_cell? w _ V0.out)).trans V0.out
          have hv_1 : wr.cell? ⟨(ad1.add (k * 4)).block, (ad1.add (k * 4)).off + 1, none⟩ = some (.int .i64 g1) := (HB.out.cell (World.block_lt_of_cell? w _ V1.out)).trans V1.out
          go_wp2
          have n0_ := Aside0.mk (below_drew1 HB.out)
          have n1_ := Aside0.mk (blk_drew BKr.out)
          have n2_ := Aside0.mk (blk_drew BKb.out)
          clear HB BKr BKb
          have HB := n0_
          have BKr := n1_
          have BKb := n2_
          clear n0_ n1_ n2_
          refine start_ (n := 24) (S := fun w' => w'.cell? (ad1.add (i * 4)) = some (.int .i64 f0) ∧ w'.cell? ⟨(ad1.add (i * 4)).block, (ad1.add (i * 4)).off + 1, none⟩ = some (.int .i64 f1) ∧ w'.cell? (ad1.add (k * 4)) = some (.int .i64 g0) ∧ w'.cell? ⟨(ad1.add (k * 4)).block, (ad1.add (k * 4)).off + 1, none⟩ = some (.int .i64 g1)) (ds := []) #[Ff,Ff,Ff,Ff,Ff,Ff,Ff,Ff,Ff,Ff,Ff,Ff,Ff,Ff,Ff,Ff,Ff,Ff,Ff,Ff,Ff,Ff,Ff,Ff] (by kernel_rfl) rfl rfl ⟨hx_0, hx_1, hv_0, hv_1⟩ (fun hHeld => ?_)
          clear hx_0 hx_1 hv_0 hv_1
          generalize wr.drew = w4 at HB BKr BKb hHeld ⊢
          obtain ⟨b1, d1, e1⟩ : ∃ b, (g0 == f0) = b ∧ (b = true ↔ g0 = f0) := ⟨_, rfl, beq_iff_eq⟩
          obtain ⟨b2, d2, e2⟩ : ∃ b, (g1 == f1) = b ∧ (b = true ↔ g1 = f1) := ⟨_, rfl, beq_iff_eq⟩
          cases b1
          · have hno : ¬ (g0 = f0 ∧ g1 = f1) := fun h_ => by cases e1.2 h_.1
            have hc2 := HCN.out
            rw [if_neg hno, Int.add_zero] at hc2
            have HC2 := Aside0.mk hc2
            clear hc2 hno e1 e2
            refine with_tabW ebbtideref03_Busy.tab10 ebbtideref03_Busy.bits10 (fun HT_ HW_ => ?_)
            refine pv_ 0 24 #[Tt,Ff,Ff,Ff,Ff,Ff,Ff,Ff,Ff,Ff,Ff,Ff,Ff,Ff,Ff,Ff,Ff,Ff,Ff,Ff,Ff,Ff,Ff,Ff] ?_
            refine pv_ 1 25 #[Tt,Tt,Ff,Ff,Ff,Ff,Ff,Ff,Ff,Ff,Ff,Ff,Ff,Ff,Ff,Ff,Ff,Ff,Ff,Ff,Ff,Ff,Ff,Ff] ?_
            refine pv_ 2 26 #[Tt,Tt,Tt,Ff,Ff,Ff,Ff,Ff,Ff,Ff,Ff,Ff,Ff,Ff,Ff,Ff,Ff,Ff,Ff,Ff,Ff,Ff,Ff,Ff] ?_
            refine pv_ 3 27 #[Tt,Tt,Tt,Tt,Ff,Ff,Ff,Ff,Ff,Ff,Ff,Ff,Ff,Ff,Ff,Ff,Ff,Ff,Ff,Ff,Ff,Ff,Ff,Ff] ?_
            refine pv_ 5 29 #[Tt,Tt,Tt,Tt,Ff,Tt,Ff,Ff,Ff,Ff,Ff,Ff,Ff,Ff,Ff,Ff,Ff,Ff,Ff,Ff,Ff,Ff,Ff,Ff] ?_
            refine pv_ 6 30 #[Tt,Tt,Tt,Tt,Ff,Tt,Tt,Ff,Ff,Ff,Ff,Ff,Ff,Ff,Ff,Ff,Ff,Ff,Ff,Ff,Ff,Ff,Ff,Ff] ?_
            refine pv_ 7 31 #[Tt,Tt,Tt,Tt,Ff,Tt,Tt,Tt,Ff,Ff,Ff,Ff,Ff,Ff,Ff,Ff,Ff,Ff,Ff,Ff,Ff,Ff,Ff,Ff] ?_
            refine pv_ 8 32 #[Tt,Tt,Tt,Tt,Ff,Tt,Tt,Tt,Tt,Ff,Ff,Ff,Ff,Ff,Ff,Ff,Ff,Ff,Ff,Ff,Ff,Ff,Ff,Ff] ?_
            refine take_ (i := 4) (N := (some 28)) (v := ?_) (a' := ?_) #[Tt,Tt,Tt,Tt,Tt,Tt,Tt,Tt,Tt,Ff,Ff,Ff,Ff,Ff,Ff,Ff,Ff,Ff,Ff,Ff,Ff,Ff,Ff,Ff] rfl rfl (take_ofW HT_.out HW_.out (by kernel_rfl)) (fun _ _ _ h => h) (Or.inl ⟨by rfl, ?_⟩) hHeld ?_ ?_
            rotate_left
            · rintro w' ⟨s0, s1, s2, s3⟩
              go_simp
              with_reducible rfl
            rotate_left
            exact ap_
            refine take_ (i := 9) (N := (some 33)) (v := ?_) (a' := ?_) #[Tt,Tt,Tt,Tt,Tt,Tt,Tt,Tt,Tt,Tt,Ff,Ff,Ff,Ff,Ff,Ff,Ff,Ff,Ff,Ff,Ff,Ff,Ff,Ff] rfl rfl (take_ofW HT_.out HW_.out (by kernel_rfl)) (fun _ _ _ h => h) (Or.inl ⟨by rfl, ?_⟩) hHeld ?_ ?_
            rotate_left
            · rintro w' ⟨s0, s1, s2, s3⟩
              go_simp
              with_reducible rfl
            rotate_left
            exact ap_
            refine pv_ 10 34 #[Tt,Tt,Tt,Tt,Tt,Tt,Tt,Tt,Tt,Tt,Tt,Ff,Ff,Ff,Ff,Ff,Ff,Ff,Ff,Ff,Ff,Ff,Ff,Ff] ?_
            refine pv_ 11 35 #[Tt,Tt,Tt,Tt,Tt,Tt,Tt,Tt,Tt,Tt,Tt,Tt,Ff,Ff,Ff,Ff,Ff,Ff,Ff,Ff,Ff,Ff,Ff,Ff] ?_
            refine pu_ 12 36 #[Tt,Tt,Tt,Tt,Tt,Tt,Tt,Tt,Tt,Tt,Tt,Tt,Tt,Ff,Ff,Ff,Ff,Ff,Ff,Ff,Ff,Ff,Ff,Ff] ?_
            refine pu_ 13 37 #[Tt,Tt,Tt,Tt,Tt,Tt,Tt,Tt,Tt,Tt,Tt,Tt,Tt,Tt,Ff,Ff,Ff,Ff,Ff,Ff,Ff,Ff,Ff,Ff] ?_
            refine pu_ 14 38 #[Tt,Tt,Tt,Tt,Tt,Tt,Tt,Tt,Tt,Tt,Tt,Tt,Tt,Tt,Tt,Ff,Ff,Ff,Ff,Ff,Ff,Ff,Ff,Ff] ?_
            refine pu_ 15 39 #[Tt,Tt,Tt,Tt,Tt,Tt,Tt,Tt,Tt,Tt,Tt,Tt,Tt,Tt,Tt,Tt,Ff,Ff,Ff,Ff,Ff,Ff,Ff,Ff] ?_
            refine pu_ 16 40 #[Tt,Tt,Tt,Tt,Tt,Tt,Tt,Tt,Tt,Tt,Tt,Tt,Tt,Tt,Tt,Tt,Tt,Ff,Ff,Ff,Ff,Ff,Ff,Ff] ?_
            refine pu_ 17 41 #[Tt,Tt,Tt,Tt,Tt,Tt,Tt,Tt,Tt,Tt,Tt,Tt,Tt,Tt,Tt,Tt,Tt,Tt,Ff,Ff,Ff,Ff,Ff,Ff] ?_
            refine pu_ 18 42 #[Tt,Tt,Tt,Tt,Tt,Tt,Tt,Tt,Tt,Tt,Tt,Tt,Tt,Tt,Tt,Tt,Tt,Tt,Tt,Ff,Ff,Ff,Ff,Ff] ?_
            refine pu_ 19 43 #[Tt,Tt,Tt,Tt,Tt,Tt,Tt,Tt,Tt,Tt,Tt,Tt,Tt,Tt,Tt,Tt,Tt,Tt,Tt,Tt,Ff,Ff,Ff,Ff] ?_
            refine pu_ 20 44 #[Tt,Tt,Tt,Tt,Tt,Tt,Tt,Tt,Tt,Tt,Tt,Tt,Tt,Tt,Tt,Tt,Tt,Tt,Tt,Tt,Tt,Ff,Ff,Ff] ?_
            refine pu_ 21 45 #[Tt,Tt,Tt,Tt,Tt,Tt,Tt,Tt,Tt,Tt,Tt,Tt,Tt,Tt,Tt,Tt,Tt,Tt,Tt,Tt,Tt,Tt,Ff,Ff] ?_
            refine pu_ 22 46 #[Tt,Tt,Tt,Tt,Tt,Tt,Tt,Tt,Tt,Tt,Tt,Tt,Tt,Tt,Tt,Tt,Tt,Tt,Tt,Tt,Tt,Tt,Tt,Ff] ?_
            refine pv_ 23 47 #[Tt,Tt,Tt,Tt,Tt,Tt,Tt,Tt,Tt,Tt,Tt,Tt,Tt,Tt,Tt,Tt,Tt,Tt,Tt,Tt,Tt,Tt,Tt,Tt] ?_
            refine done_ (done_of HT_.out (by kernel_rfl)) ?_
            go_wp2
            go_roundg gk2
            case measure => omega
            case rel => exact ⟨k + 1, by rw [HC2.out], by first | exact congrArg (Value.int .i64) (by omega) | rw [← hwk], ⟨by have := HK.out; omega⟩, HB, BKr, BKb⟩
          · cases b2
            · have hno : ¬ (g0 = f0 ∧ g1 = f1) := fun h_ => by cases e2.2 h_.2
              have hc2 := HCN.out
              rw [if_neg hno, Int.add_zero] at hc2
              have HC2 := Aside0.mk hc2
              clear hc2 hno e1 e2
              refine with_tabW ebbtideref03_Busy.tab10 ebbtideref03_Busy.bits10 (fun HT_ HW_ => ?_)
              refine pv_ 0 24 #[Tt,Ff,Ff,Ff,Ff,Ff,Ff,Ff,Ff,Ff,Ff,Ff,Ff,Ff,Ff,Ff,Ff,Ff,Ff,Ff,Ff,Ff,Ff,Ff] ?_
              refine pv_ 1 25 #[Tt,Tt,Ff,Ff,Ff,Ff,Ff,Ff,Ff,Ff,Ff,Ff,Ff,Ff,Ff,Ff,Ff,Ff,Ff,Ff,Ff,Ff,Ff,Ff] ?_
              refine pv_ 2 26 #[Tt,Tt,Tt,Ff,Ff,Ff,Ff,Ff,Ff,Ff,Ff,Ff,Ff,Ff,Ff,Ff,Ff,Ff,Ff,Ff,Ff,Ff,Ff,Ff] ?_
              refine pv_ 3 27 #[Tt,Tt,Tt,Tt,Ff,Ff,Ff,Ff,Ff,Ff,Ff,Ff,Ff,Ff,Ff,Ff,Ff,Ff,Ff,Ff,Ff,Ff,Ff,Ff] ?_
              refine pv_ 5 29 #[Tt,Tt,Tt,Tt,Ff,Tt,Ff,Ff,Ff,Ff,Ff,Ff,Ff,Ff,Ff,Ff,Ff,Ff,Ff,Ff,Ff,Ff,Ff,Ff] ?_
              refine pv_ 6 30 #[Tt,Tt,Tt,Tt,Ff,Tt,Tt,Ff,Ff,Ff,Ff,Ff,Ff,Ff,Ff,Ff,Ff,Ff,Ff,Ff,Ff,Ff,Ff,Ff] ?_
              refine pv_ 7 31 #[Tt,Tt,Tt,Tt,Ff,Tt,Tt,Tt,Ff,Ff,Ff,Ff,Ff,Ff,Ff,Ff,Ff,Ff,Ff,Ff,Ff,Ff,Ff,Ff] ?_
              refine pv_ 8 32 #[Tt,Tt,Tt,Tt,Ff,Tt,Tt,Tt,Tt,Ff,Ff,Ff,Ff,Ff,Ff,Ff,Ff,Ff,Ff,Ff,Ff,Ff,Ff,Ff] ?_
              refine take_ (i := 4) (N := (some 28)) (v := ?_) (a' := ?_) #[Tt,Tt,Tt,Tt,Tt,Tt,Tt,Tt,Tt,Ff,Ff,Ff,Ff,Ff,Ff,Ff,Ff,Ff,Ff,Ff,Ff,Ff,Ff,Ff] rfl rfl (take_ofW HT_.out HW_.out (by kernel_rfl)) (fun _ _ _ h => h) (Or.inl ⟨by rfl, ?_⟩) hHeld ?_ ?_
              rotate_left
              · rintro w' ⟨s0, s1, s2, s3⟩
                go_simp
                with_reducible rfl
              rotate_left
              exact ap_
              refine take_ (i := 9) (N := (some 33)) (v := ?_) (a' := ?_) #[Tt,Tt,Tt,Tt,Tt,Tt,Tt,Tt,Tt,Tt,Ff,Ff,Ff,Ff,Ff,Ff,Ff,Ff,Ff,Ff,Ff,Ff,Ff,Ff] rfl rfl (take_ofW HT_.out HW_.out (by kernel_rfl)) (fun _ _ _ h => h) (Or.inl ⟨by rfl, ?_⟩) hHeld ?_ ?_
              rotate_left
              · rintro w' ⟨s0, s1, s2, s3⟩
                go_simp
                with_reducible rfl
              rotate_left
              exact ap_
              refine pv_ 10 34 #[Tt,Tt,Tt,Tt,Tt,Tt,Tt,Tt,Tt,Tt,Tt,Ff,Ff,Ff,Ff,Ff,Ff,Ff,Ff,Ff,Ff,Ff,Ff,Ff] ?_
              refine pv_ 11 35 #[Tt,Tt,Tt,Tt,Tt,Tt,Tt,Tt,Tt,Tt,Tt,Tt,Ff,Ff,Ff,Ff,Ff,Ff,Ff,Ff,Ff,Ff,Ff,Ff] ?_
              refine pv_ 12 36 #[Tt,Tt,Tt,Tt,Tt,Tt,Tt,Tt,Tt,Tt,Tt,Tt,Tt,Ff,Ff,Ff,Ff,Ff,Ff,Ff,Ff,Ff,Ff,Ff] ?_
              refine pv_ 13 37 #[Tt,Tt,Tt,Tt,Tt,Tt,Tt,Tt,Tt,Tt,Tt,Tt,Tt,Tt,Ff,Ff,Ff,Ff,Ff,Ff,Ff,Ff,Ff,Ff] ?_
              refine pv_ 14 38 #[Tt,Tt,Tt,Tt,Tt,Tt,Tt,Tt,Tt,Tt,Tt,Tt,Tt,Tt,Tt,Ff,Ff,Ff,Ff,Ff,Ff,Ff,Ff,Ff] ?_
              refine pv_ 15 39 #[Tt,Tt,Tt,Tt,Tt,Tt,Tt,Tt,Tt,Tt,Tt,Tt,Tt,Tt,Tt,Tt,Ff,Ff,Ff,Ff,Ff,Ff,Ff,Ff] ?_
              refine pv_ 17 41 #[Tt,Tt,Tt,Tt,Tt,Tt,Tt,Tt,Tt,Tt,Tt,Tt,Tt,Tt,Tt,Tt,Ff,Tt,Ff,Ff,Ff,Ff,Ff,Ff] ?_
              refine pv_ 18 42 #[Tt,Tt,Tt,Tt,Tt,Tt,Tt,Tt,Tt,Tt,Tt,Tt,Tt,Tt,Tt,Tt,Ff,Tt,Tt,Ff,Ff,Ff,Ff,Ff] ?_
              refine pv_ 19 43 #[Tt,Tt,Tt,Tt,Tt,Tt,Tt,Tt,Tt,Tt,Tt,Tt,Tt,Tt,Tt,Tt,Ff,Tt,Tt,Tt,Ff,Ff,Ff,Ff] ?_
              refine pv_ 20 44 #[Tt,Tt,Tt,Tt,Tt,Tt,Tt,Tt,Tt,Tt,Tt,Tt,Tt,Tt,Tt,Tt,Ff,Tt,Tt,Tt,Tt,Ff,Ff,Ff] ?_
              refine take_ (i := 16) (N := (some 40)) (v := ?_) (a' := ?_) #[Tt,Tt,Tt,Tt,Tt,Tt,Tt,Tt,Tt,Tt,Tt,Tt,Tt,Tt,Tt,Tt,Tt,Tt,Tt,Tt,Tt,Ff,Ff,Ff] rfl rfl (take_ofW HT_.out HW_.out (by kernel_rfl)) (fun _ _ _ h => h) (Or.inl ⟨by rfl, ?_⟩) hHeld ?_ ?_
              rotate_left
              · rintro w' ⟨s0, s1, s2, s3⟩
                go_simp
                with_reducible rfl
              rotate_left
              exact ap_
              refine take_ (i := 21) (N := (some 45)) (v := ?_) (a' := ?_) #[Tt,Tt,Tt,Tt,Tt,Tt,Tt,Tt,Tt,Tt,Tt,Tt,Tt,Tt,Tt,Tt,Tt,Tt,Tt,Tt,Tt,Tt,Ff,Ff] rfl rfl (take_ofW HT_.out HW_.out (by kernel_rfl)) (fun _ _ _ h => h) (Or.inl ⟨by rfl, ?_⟩) hHeld ?_ ?_
              rotate_left
              · rintro w' ⟨s0, s1, s2, s3⟩
                go_simp
                with_reducible rfl
              rotate_left
              exact ap_
              refine pv_ 22 46 #[Tt,Tt,Tt,Tt,Tt,Tt,Tt,Tt,Tt,Tt,Tt,Tt,Tt,Tt,Tt,Tt,Tt,Tt,Tt,Tt,Tt,Tt,Tt,Ff] ?_
              refine pv_ 23 47 #[Tt,Tt,Tt,Tt,Tt,Tt,Tt,Tt,Tt,Tt,Tt,Tt,Tt,Tt,Tt,Tt,Tt,Tt,Tt,Tt,Tt,Tt,Tt,Tt] ?_
              refine done_ (done_of HT_.out (by kernel_rfl)) ?_
              go_wp2
              go_roundg gk2
              case measure => omega
              case rel => exact ⟨k + 1, by rw [HC2.out], by first | exact congrArg (Value.int .i64) (by omega) | rw [← hwk], ⟨by have := HK.out; omega⟩, HB, BKr, BKb⟩
            · have hc2 := HCN.out
              rw [if_pos ⟨e1.1 rfl, e2.1 rfl⟩] at hc2
              have HC2 := Aside0.mk hc2
              clear hc2 e1 e2
              refine with_tabW ebbtideref03_Busy.tab10 ebbtideref03_Busy.bits10 (fun HT_ HW_ => ?_)
              refine pv_ 0 24 #[Tt,Ff,Ff,Ff,Ff,Ff,Ff,Ff,Ff,Ff,Ff,Ff,Ff,Ff,Ff,Ff,Ff,Ff,Ff,Ff,Ff,Ff,Ff,Ff] ?_
              refine pv_ 1 25 #[Tt,Tt,Ff,Ff,Ff,Ff,Ff,Ff,Ff,Ff,Ff,Ff,Ff,Ff,Ff,Ff,Ff,Ff,Ff,Ff,Ff,Ff,Ff,Ff] ?_
              refine pv_ 2 26 #[Tt,Tt,Tt,Ff,Ff,Ff,Ff,Ff,Ff,Ff,Ff,Ff,Ff,Ff,Ff,Ff,Ff,Ff,Ff,Ff,Ff,Ff,Ff,Ff] ?_
              refine pv_ 3 27 #[Tt,Tt,Tt,Tt,Ff,Ff,Ff,Ff,Ff,Ff,Ff,Ff,Ff,Ff,Ff,Ff,Ff,Ff,Ff,Ff,Ff,Ff,Ff,Ff] ?_
              refine pv_ 5 29 #[Tt,Tt,Tt,Tt,Ff,Tt,Ff,Ff,Ff,Ff,Ff,Ff,Ff,Ff,Ff,Ff,Ff,Ff,Ff,Ff,Ff,Ff,Ff,Ff] ?_
              refine pv_ 6 30 #[Tt,Tt,Tt,Tt,Ff,Tt,Tt,Ff,Ff,Ff,Ff,Ff,Ff,Ff,Ff,Ff,Ff,Ff,Ff,Ff,Ff,Ff,Ff,Ff] ?_
              refine pv_ 7 31 #[Tt,Tt,Tt,Tt,Ff,Tt,Tt,Tt,Ff,Ff,Ff,Ff,Ff,Ff,Ff,Ff,Ff,Ff,Ff,Ff,Ff,Ff,Ff,Ff] ?_
              refine pv_ 8 32 #[Tt,Tt,Tt,Tt,Ff,Tt,Tt,Tt,Tt,Ff,Ff,Ff,Ff,Ff,Ff,Ff,Ff,Ff,Ff,Ff,Ff,Ff,Ff,Ff] ?_
              refine take_ (i := 4) (N := (some 28)) (v := ?_) (a' := ?_) #[Tt,Tt,Tt,Tt,Tt,Tt,Tt,Tt,Tt,Ff,Ff,Ff,Ff,Ff,Ff,Ff,Ff,Ff,Ff,Ff,Ff,Ff,Ff,Ff] rfl rfl (take_ofW HT_.out HW_.out (by kernel_rfl)) (fun _ _ _ h => h) (Or.inl ⟨by rfl, ?_⟩) hHeld ?_ ?_
              rotate_left
              · rintro w' ⟨s0, s1, s2, s3⟩
                go_simp
                with_reducible rfl
              rotate_left
              exact ap_
              refine take_ (i := 9) (N := (some 33)) (v := ?_) (a' := ?_) #[Tt,Tt,Tt,Tt,Tt,Tt,Tt,Tt,Tt,Tt,Ff,Ff,Ff,Ff,Ff,Ff,Ff,Ff,Ff,Ff,Ff,Ff,Ff,Ff] rfl rfl (take_ofW HT_.out HW_.out (by kernel_rfl)) (fun _ _ _ h => h) (Or.inl ⟨by rfl, ?_⟩) hHeld ?_ ?_
              rotate_left
              · rintro w' ⟨s0, s1, s2, s3⟩
                go_simp
                with_reducible rfl
              rotate_left
              exact ap_
              refine pv_ 10 34 #[Tt,Tt,Tt,Tt,Tt,Tt,Tt,Tt,Tt,Tt,Tt,Ff,Ff,Ff,Ff,Ff,Ff,Ff,Ff,Ff,Ff,Ff,Ff,Ff] ?_
              refine pv_ 11 35 #[Tt,Tt,Tt,Tt,Tt,Tt,Tt,Tt,Tt,Tt,Tt,Tt,Ff,Ff,Ff,Ff,Ff,Ff,Ff,Ff,Ff,Ff,Ff,Ff] ?_
              refine pv_ 12 36 #[Tt,Tt,Tt,Tt,Tt,Tt,Tt,Tt,Tt,Tt,Tt,Tt,Tt,Ff,Ff,Ff,Ff,Ff,Ff,Ff,Ff,Ff,Ff,Ff] ?_
              refine pv_ 13 37 #[Tt,Tt,Tt,Tt,Tt,Tt,Tt,Tt,Tt,Tt,Tt,Tt,Tt,Tt,Ff,Ff,Ff,Ff,Ff,Ff,Ff,Ff,Ff,Ff] ?_
              refine pv_ 14 38 #[Tt,Tt,Tt,Tt,Tt,Tt,Tt,Tt,Tt,Tt,Tt,Tt,Tt,Tt,Tt,Ff,Ff,Ff,Ff,Ff,Ff,Ff,Ff,Ff] ?_
              refine pv_ 15 39 #[Tt,Tt,Tt,Tt,Tt,Tt,Tt,Tt,Tt,Tt,Tt,Tt,Tt,Tt,Tt,Tt,Ff,Ff,Ff,Ff,Ff,Ff,Ff,Ff] ?_
              refine pv_ 17 41 #[Tt,Tt,Tt,Tt,Tt,Tt,Tt,Tt,Tt,Tt,Tt,Tt,Tt,Tt,Tt,Tt,Ff,Tt,Ff,Ff,Ff,Ff,Ff,Ff] ?_
              refine pv_ 18 42 #[Tt,Tt,Tt,Tt,Tt,Tt,Tt,Tt,Tt,Tt,Tt,Tt,Tt,Tt,Tt,Tt,Ff,Tt,Tt,Ff,Ff,Ff,Ff,Ff] ?_
              refine pv_ 19 43 #[Tt,Tt,Tt,Tt,Tt,Tt,Tt,Tt,Tt,Tt,Tt,Tt,Tt,Tt,Tt,Tt,Ff,Tt,Tt,Tt,Ff,Ff,Ff,Ff] ?_
              refine pv_ 20 44 #[Tt,Tt,Tt,Tt,Tt,Tt,Tt,Tt,Tt,Tt,Tt,Tt,Tt,Tt,Tt,Tt,Ff,Tt,Tt,Tt,Tt,Ff,Ff,Ff] ?_
              refine take_ (i := 16) (N := (some 40)) (v := ?_) (a' := ?_) #[Tt,Tt,Tt,Tt,Tt,Tt,Tt,Tt,Tt,Tt,Tt,Tt,Tt,Tt,Tt,Tt,Tt,Tt,Tt,Tt,Tt,Ff,Ff,Ff] rfl rfl (take_ofW HT_.out HW_.out (by kernel_rfl)) (fun _ _ _ h => h) (Or.inl ⟨by rfl, ?_⟩) hHeld ?_ ?_
              rotate_left
              · rintro w' ⟨s0, s1, s2, s3⟩
                go_simp
                with_reducible rfl
              rotate_left
              exact ap_
              refine take_ (i := 21) (N := (some 45)) (v := ?_) (a' := ?_) #[Tt,Tt,Tt,Tt,Tt,Tt,Tt,Tt,Tt,Tt,Tt,Tt,Tt,Tt,Tt,Tt,Tt,Tt,Tt,Tt,Tt,Tt,Ff,Ff] rfl rfl (take_ofW HT_.out HW_.out (by kernel_rfl)) (fun _ _ _ h => h) (Or.inl ⟨by rfl, ?_⟩) hHeld ?_ ?_
              rotate_left
              · rintro w' ⟨s0, s1, s2, s3⟩
                go_simp
                with_reducible rfl
              rotate_left
              exact ap_
              refine pv_ 22 46 #[Tt,Tt,Tt,Tt,Tt,Tt,Tt,Tt,Tt,Tt,Tt,Tt,Tt,Tt,Tt,Tt,Tt,Tt,Tt,Tt,Tt,Tt,Tt,Ff] ?_
              refine pv_ 23 47 #[Tt,Tt,Tt,Tt,Tt,Tt,Tt,Tt,Tt,Tt,Tt,Tt,Tt,Tt,Tt,Tt,Tt,Tt,Tt,Tt,Tt,Tt,Tt,Tt] ?_
              refine done_ (done_of HT_.out (by kernel_rfl)) ?_
              go_wp2
              go_roundg gk2
              case measure => omega
              case rel => exact ⟨k + 1, by rw [HC2.out, hw1], by first | exact congrArg (Value.int .i64) (by omega) | rw [← hwk], ⟨by have := HK.out; omega⟩, HB, BKr, BKb⟩
attribute [local go_sem high] eqA37
def ebbtidelaw03_TableBusy.f (k : Nat) (l0 : List S42) : Option Bool := if l0.length > 200 then some true else (table_Busy.f l0).bind fun _ => some true
set_option maxHeartbeats 8000000 in
set_option maxRecDepth 100000 in
theorem ebbtidelaw03_TableBusy.calls (k : Nat) (A0 : Option Addr) (c0 : Nat) (l0 : List S42) (r : Bool) (w : World) (hr0 : Kd.C k42 w A0 l0.length l0) (hc0 : l0.length ≤ c0) (h : ebbtidelaw03_TableBusy.f k l0 = some r) (hrt : r = true := by first | rfl | exact HRT.out | assumption) :
    Calls Try.prog 6 #[.slice A0 l0.length c0] w fun e w' => e = .returned (.bool r) ∧ Below w.heap.size w w' := by
  subst hrt
  unfold ebbtidelaw03_TableBusy.f at h
  have hu37 := Try.underlying37
  have HR0 := Aside0.mk hr0
  have HC0 := Aside0.mk hc0
  have HB := Aside0.mk (Below.refl w.heap.size w)
  clear hr0 hc0
  by_cases c : l0.length > 200
  · have c1 : decide (200 < (l0.length : Int)) = true := decide_eq_true (by omega)
    have c2 : decide (200 < l0.length) = true := decide_eq_true c
    clear h c
    go_enter Try.func6, Try.ntmps6
    go_wp2_with (go_at_call 13; refine (ebbtidelaw03_awake.calls 0 true _ rfl).mono ?_; rintro e w4 ⟨rfl, hb⟩; have n0_ := Aside0.mk (below_step HB.out hb); clear HB hb; have HB := n0_; clear n0_)
    go_ret
    exact ⟨rfl, HB.out⟩
  · rw [if_neg c] at h
    have c1 : decide (200 < (l0.length : Int)) = false := decide_eq_false (by omega)
    have c2 : decide (200 < l0.length) = false := decide_eq_false c
    obtain ⟨⟨r1, r2, r3⟩, hr, _⟩ := Option.bind_eq_some_iff.1 h
    have HR := Aside0.mk hr
    clear h c hr
    go_enter Try.func6, Try.ntmps6
    go_wp2_with (first
      | (go_at_call 22; refine (table_Busy.calls _ _ l0 r1 r2 r3 _ HR0.out HC0.out HR.out).mono ?_; rintro e w4 ⟨rfl, hb⟩; have n0_ := Aside0.mk (below_step HB.out hb); clear HB hb; have HB := n0_; clear n0_)
      | ((with_reducible refine gate_dst (N := 3) rfl ?_); refine box_event ?hg (N := 3) ?hd (cs := #[.int .i64 0, .int .i64 0]) (t := 37) ?hr ?_; (case hd => rfl); (case hg => rfl); (case hr => first | (go_simp; done) | (go_simp; rfl)); intro gp hg w5 hbox hb; have n0_ := Aside0.mk (below_step HB.out hb); have n1_ := Aside0.mk hbox; have n2_ := Aside0.mk (by rw [hg]; exact below_size HB.out : w.heap.size ≤ gp); clear HB; have HB := n0_; have BKp := n1_; have GEp := n2_; clear n0_ n1_ n2_; clear hb hbox hg; have z0 : w5.cell? ⟨gp, 0, none⟩ = some (.int .i64 0) := (blk_cell BKp.out 0).trans rfl; have z1 : w5.cell? ⟨gp, 1, none⟩ = some (.int .i64 0) := (blk_cell BKp.out 1).trans rfl; have y0 := blk_frozen BKp.out 0; have y1 := blk_frozen BKp.out 1)
      | (go_at_call 23; have n0_ := Aside0.mk (below_set (below_set HB.out GEp.out (j := 0) (v := .int .i64 r1)) GEp.out (j := 1) (v := .int .i64 r2)); have n1_ := Aside0.mk (blk_put (cs' := #[.int .i64 r1, .int .i64 r2]) (blk_put (cs' := #[.int .i64 r1, .int .i64 0]) BKp.out 0 (.int .i64 r1) rfl) 1 (.int .i64 r2) rfl); clear HB BKp z0 z1 y0 y1; have HB := n0_; have BKp := n1_; clear n0_ n1_; refine (ebbtideref03_Busy.calls _ _ l0 r1 r2 r3 _ (Kd.C_below HR0.out HB.out) HC0.out HR.out).mono ?_; rintro e w6 ⟨rfl, hb⟩; have n0_ := Aside0.mk (below_step HB.out hb); have n1_ := Aside0.mk (blk_below BKp.out hb); clear HB BKp hb; have HB := n0_; have BKp := n1_; clear n0_ n1_)
      | ((with_reducible refine gate_dst (N := 5) rfl ?_); refine box_event ?hg (N := 5) ?hd (cs := #[.int .i64 0, .int .i64 0]) (t := 37) ?hr ?_; (case hd => rfl); (case hg => rfl); (case hr => first | (go_simp; done) | (go_simp; rfl)); intro gq hg w7 hbox hb; have n0_ := Aside0.mk (below_step HB.out hb); have n1_ := Aside0.mk hbox; have n2_ := Aside0.mk (by rw [hg]; exact below_size HB.out : w.heap.size ≤ gq); have n3_ := Aside0.mk (blk_below BKp.out hb); have n4_ := Aside0.mk (by rw [hg]; exact Nat.ne_of_lt (blk_lt BKp.out) : gp ≠ gq); clear HB BKp; have HB := n0_; have BKq := n1_; have GEq := n2_; have BKp := n3_; have NBpq := n4_; clear n0_ n1_ n2_ n3_ n4_; clear hb hbox hg; have z0 : w7.cell? ⟨gq, 0, none⟩ = some (.int .i64 0) := (blk_cell BKq.out 0).trans rfl; have z1 : w7.cell? ⟨gq, 1, none⟩ = some (.int .i64 0) := (blk_cell BKq.out 1).trans rfl; have y0 := blk_frozen BKq.out 0; have y1 := blk_frozen BKq.out 1)
      | (go_at_call 13; have n0_ := Aside0.mk (below_set (below_set HB.out GEq.out (j := 0) (v := .int .i64 r1)) GEq.out (j := 1) (v := .int .i64 r2)); have n1_ := Aside0.mk (blk_put (cs' := #[.int .i64 r1, .int .i64 r2]) (blk_put (cs' := #[.int .i64 r1, .int .i64 0]) BKq.out 0 (.int .i64 r1) rfl) 1 (.int .i64 r2) rfl); have n2_ := Aside0.mk (blk_far (p := ⟨gq, 1, none⟩) (blk_far (p := ⟨gq, 0, none⟩) BKp.out NBpq.out (.int .i64 r1)) NBpq.out (.int .i64 r2)); clear HB BKp BKq z0 z1 y0 y1; have HB := n0_; have BKq := n1_; have BKp := n2_; clear n0_ n1_ n2_; refine (ebbtidelaw03_awake.calls 0 true _ rfl).mono ?_; rintro e w8 ⟨rfl, hb⟩; have n0_ := Aside0.mk (below_step HB.out hb); have n1_ := Aside0.mk (blk_below BKp.out hb); have n2_ := Aside0.mk (blk_below BKq.out hb); clear HB BKp BKq hb; have HB := n0_; have BKp := n1_; have BKq := n2_; clear n0_ n1_ n2_; have z0 : w8.cell? ⟨gp, 0, none⟩ = some (.int .i64 r1) := (blk_cell BKp.out 0).trans rfl; have z1 : w8.cell? ⟨gp, 1, none⟩ = some (.int .i64 r2) := (blk_cell BKp.out 1).trans rfl; have z2 : w8.cell? ⟨gq, 0, none⟩ = some (.int .i64 r1) := (blk_cell BKq.out 0).trans rfl; have z3 : w8.cell? ⟨gq, 1, none⟩ = some (.int .i64 r2) := (blk_cell BKq.out 1).trans rfl; have y0 := blk_frozen BKp.out 0; have y1 := blk_frozen BKp.out 1; have y2 := blk_frozen BKq.out 0; have y3 := blk_frozen BKq.out 1))
    go_ret
    exact ⟨rfl, HB.out⟩
end Go.Proofs.Ytlcbpaenjjeenaa.Q
end
section
namespace Go.Proofs.Ytlcbpaenjjeenaa.P
section
variable {α κ : Type} [DecidableEq κ]
def once : List κ → List κ → List κ
  | acc, [] => acc
  | acc, k :: r => once (if k ∈ acc then acc else acc ++ [k]) r
def keysOf (key : α → κ) (l : List α) : List κ := once [] (l.map key)
def sumK (key : α → κ) (val : α → Int) (l : List α) (k : κ) : Int := ((l.filter (fun x => decide (key x = k))).map val).sum
end
section
variable {α κ : Type} [DecidableEq κ]
end
def row {β : Type} (V : Nat) (g : Nat → β) : List β := (List.range V).map g
section
variable {β : Type}
end
end Go.Proofs.Ytlcbpaenjjeenaa.P
end
section
namespace Go.Proofs.Ytlcbpaenjjeenaa.P
open Go.RowKit Go.Proofs.Ytlcbpaenjjeenaa.Q Go.Proofs.YtlcbpaenjjeenaaW.PrintWords
theorem wf_i64 {n : Int} (h0 : -9223372036854775808 ≤ n) (h1 : n ≤ 9223372036854775807) : (Lit.int .i64 n).wf = true := by
  simp [Lit.wf, IntKind.min, IntKind.max, IntKind.bits, IntKind.signed]
  omega
def keyM (x : S56) : (Int × Int) := (x.f0, x.f1)
def mlt (a b : S56) : Prop := a.f1 < b.f1 ∨ a.f1 = b.f1 ∧ a.f0 < b.f0
instance (a b : S56) : Decidable (mlt a b) := by unfold mlt; exact inferInstance
def msum (l : List S56) (k : Int × Int) : Int := sumK keyM S56.f2 l k
def fits (n : Int) : Prop := -9223372036854775808 ≤ n ∧ n ≤ 9223372036854775807
instance (n : Int) : Decidable (fits n) := by unfold fits; exact inferInstance
def AllFit (l : List S56) : Prop := ∀ k ∈ keysOf keyM l, fits (msum l k)
instance (l : List S56) : Decidable (AllFit l) := by unfold AllFit; exact inferInstance
end Go.Proofs.Ytlcbpaenjjeenaa.P
end
section
namespace Go.Proofs.Ytlcbpaenjjeenaa.P
open Go.RowKit Go.Proofs.Ytlcbpaenjjeenaa.Q Go.Proofs.YtlcbpaenjjeenaaW.PrintWords Go.Proofs.YtlcbpaenjjeenaaW.PrintLast Go.Proofs.YtlcbpaenjjeenaaW.PrintMore
theorem w64_id {n : Int} (h0 : -9223372036854775808 ≤ n) (h1 : n ≤ 9223372036854775807) : wrap64 n = n := by unfold wrap64; omega
end Go.Proofs.Ytlcbpaenjjeenaa.P
end
section
namespace Go.Proofs.Ytlcbpaenjjeenaa.P
open Go.Sort hiding rd
open Go.RowKit Go.Proofs.Ytlcbpaenjjeenaa.Q Go.Proofs.YtlcbpaenjjeenaaW.PrintWords Go.Proofs.YtlcbpaenjjeenaaW.PrintLast Go.Proofs.YtlcbpaenjjeenaaW.PrintMore
theorem w1 {i : Nat} (h : i ≤ 4611686018427387904) : wrap64 ((i : Int) + 1) = ((i + 1 : Nat) : Int) := by unfold wrap64; omega
def FitAll (l : List S56) (K : List (Int × Int)) : Prop := ∀ k ∈ K, fits (msum l k)
noncomputable instance (l : List S56) (K : List (Int × Int)) : Decidable (FitAll l K) := Classical.propDecidable _
end Go.Proofs.Ytlcbpaenjjeenaa.P
end
