/- A part of the proof: words, contracts, plain lemmas. Conditions: none. -/
import Derived.Test.YtlcbpaenjjeenaaZTableSlots3
import Derived.Test.YtlcbpaenjjeenaaZTableSlots11
import Derived.Test.YtlcbpaenjjeenaaZTableSlots9
import Derived.Test.YtlcbpaenjjeenaaZTableSlots10
import Derived.ChangeKeysEq
import Derived.Test.YtlcbpaenjjeenaaZTableSlots8
import Derived.Test.YtlcbpaenjjeenaaZTableSlots5
import Derived.Test.YtlcbpaenjjeenaaZTableSlots6
section
namespace Go.Proofs.Ytlcbpaenjjeenaa.Q
open Go.RowKit Go.Proofs.YtlcbpaenjjeenaaW.PrintWords Go.Proofs.YtlcbpaenjjeenaaW.PrintLast Go.Proofs.YtlcbpaenjjeenaaW.PrintMore
attribute [local go_sem high] eqA24
set_option linter.unusedVariables false
set_option linter.unusedSimpArgs false
def table_Find_1.T1 : Bool × List (List Nat × List Nat) := (true, [([], []), ([0], [0]), ([], []), ([1, 2], [1, 2]), ([3, 1, 0, 1, 2, 3], [3])])
def table_Find_1.B1 : List Nat := [0, 1, 0, 7, 15]
theorem table_Find_1.tab1 : rtab .any (opsOf Try.f35 1) = table_Find_1.T1 := by kernel_rfl
theorem table_Find_1.bits1 : waitsOk table_Find_1.T1.2 table_Find_1.B1 = true := by kernel_rfl
def isKey (x : S42) (k0 k1 k2 : Int) : Bool := x.f0 == k0 && (x.f1 == k1 && (x.f3 == k2))
set_option maxHeartbeats 8000000 in
set_option maxRecDepth 100000 in
theorem table_Find_1.calls (a0 a1 a2 a3 k0 k1 k2 : Int) (gk : Nat) (w : World) (hk : w.heap[gk]? = some (.cells #[.int .i64 k0, .int .i64 k1, .int .i64 k2] 24 (0, 0))) :
    Calls Try.prog 35 #[.agg #[.int .i64 a0, .int .i64 a1, .int .i64 a2, .int .i64 a3], .pointer (some ⟨gk, 0, none⟩)] w fun e w' => e = .returned (.bool (a0 == k0 && (a1 == k1 && (a3 == k2)))) ∧ Below w.heap.size w w' := by
  have hu42 := Try.underlying42
  have hu24 := Try.underlying24
  have HB := Aside0.mk (Below.refl w.heap.size w)
  have BKk := Aside0.mk hk
  clear hk
  have A1 : table_key.f a0 a1 a2 a3 = some (a0, a1, a3) := rfl
  go_enter Try.func35, Try.ntmps35
  go_wp2_with (first | ((with_reducible refine gate_dst (N := 2) rfl ?_); refine box_event ?hg (N := 2) ?hd (cs := #[.int .i64 a0, .int .i64 a1, .int .i64 a2, .int .i64 a3]) (t := 42) ?hr ?_; (case hd => rfl); (case hg => rfl); (case hr => first | (go_simp; done) | (go_simp; rfl)); intro gb hg w2 hbox hb; have n0_ := Aside0.mk (below_step HB.out hb); have n1_ := Aside0.mk hbox; have n2_ := Aside0.mk (blk_below BKk.out hb); clear HB BKk; have HB := n0_; have BKb := n1_; have BKk := n2_; clear n0_ n1_ n2_; clear hb hbox hg))
  have n0_ := Aside0.mk (blk_drew BKb.out)
  have n1_ := Aside0.mk (blk_drew BKk.out)
  have n2_ := Aside0.mk (below_drew1 HB.out)
  clear BKb BKk HB
  have BKb := n0_
  have BKk := n1_
  have HB := n2_
  clear n0_ n1_ n2_
  refine start_ (n := 5) (S := fun w' => w'.heap[gb]? = some (.cells #[.int .i64 a0, .int .i64 a1, .int .i64 a2, .int .i64 a3] 42 (0, 0)) ∧ w'.heap[gk]? = some (.cells #[.int .i64 k0, .int .i64 k1, .int .i64 k2] 24 (0, 0))) (ds := []) #[Ff,Ff,Ff,Ff,Ff] (by kernel_rfl) rfl rfl ⟨BKb.out, BKk.out⟩ (fun hHeld => ?_)
  refine with_tabW table_Find_1.tab1 table_Find_1.bits1 (fun HT_ HW_ => ?_)
  generalize w2.drew = w3 at BKb BKk HB hHeld ⊢
  refine take_ (i := 0) (N := some 4) (v := ?_) (a' := ?_) #[Tt,Ff,Ff,Ff,Ff] rfl rfl (take_ofW HT_.out HW_.out (by kernel_rfl)) (fun _ _ _ h => h) (Or.inl ⟨by rfl, ?_⟩) hHeld ?_ ?_
  rotate_left
  · rintro w' ⟨s0, s1⟩
    have z0 : w'.cell? ⟨gb, 0, none⟩ = some (.int .i64 a0) := (blk_cell s0 0).trans rfl
    have z1 : w'.cell? ⟨gb, 1, none⟩ = some (.int .i64 a1) := (blk_cell s0 1).trans rfl
    have z2 : w'.cell? ⟨gb, 2, none⟩ = some (.int .i64 a2) := (blk_cell s0 2).trans rfl
    have z3 : w'.cell? ⟨gb, 3, none⟩ = some (.int .i64 a3) := (blk_cell s0 3).trans rfl
    have y0 := blk_frozen s0 0
    have y1 := blk_frozen s0 1
    have y2 := blk_frozen s0 2
    have y3 := blk_frozen s0 3
    go_simp
    with_reducible rfl
  rotate_left
  exact ap_
  refine take_ (i := 2) (N := some 6) (v := ?_) (a' := ?_) #[Tt,Ff,Tt,Ff,Ff] rfl rfl (take_ofW HT_.out HW_.out (by kernel_rfl)) (fun _ _ _ h => h) (Or.inl ⟨by rfl, ?_⟩) hHeld ?_ ?_
  rotate_left
  · rintro w' ⟨s0, s1⟩
    have z0 : w'.cell? ⟨gk, 0, none⟩ = some (.int .i64 k0) := (blk_cell s1 0).trans rfl
    have z1 : w'.cell? ⟨gk, 1, none⟩ = some (.int .i64 k1) := (blk_cell s1 1).trans rfl
    have z2 : w'.cell? ⟨gk, 2, none⟩ = some (.int .i64 k2) := (blk_cell s1 2).trans rfl
    have y0 := blk_frozen s1 0
    have y1 := blk_frozen s1 1
    have y2 := blk_frozen s1 2
    go_simp
    with_reducible rfl
  rotate_left
  exact ap_
  refine one_ (i := 1) (N := some 5) #[Tt,Tt,Tt,Ff,Ff] rfl rfl (one_of HT_.out (by kernel_rfl)) (by decide) (fun K hK => ?_)
  refine goes_ Try.func36 (by kernel_rfl) rfl #[.agg #[.int .i64 a0, .int .i64 a1, .int .i64 a2, .int .i64 a3]] (by rfl) rfl rfl (by (try simp only [List.map_toArray, List.map_cons, List.map_nil]); first | done | rfl) ?_
  with_reducible refine (table_key.calls a0 a1 a2 a3 a0 a1 a3 _ A1).mono ?_
  rintro e w' ⟨rfl, hb⟩
  refine ⟨_, rfl, ?_⟩
  have n0_ := Aside0.mk (below_step HB.out hb)
  have n1_ := Aside0.mk (blk_below BKb.out hb)
  have n2_ := Aside0.mk (blk_below BKk.out hb)
  clear HB BKb BKk
  have HB := n0_
  have BKb := n1_
  have BKk := n2_
  clear n0_ n1_ n2_ hb
  refine hK.out _ _ ⟨BKb.out, BKk.out⟩ (fun hHeld => ?_)
  clear hK K
  refine norm_ (a' := ?_) ?_ ?_
  rotate_left
  · show Act.put _ (some 5) _ = _
    simp only [Act.put, List.setIfInBounds_toArray, List.set_cons_zero, List.set_cons_succ, i64_w, i32_w]
    rfl
  refine pv_ 3 7 #[Tt,Tt,Tt,Tt,Ff] ?_
  refine pv_ 4 3 #[Tt,Tt,Tt,Tt,Tt] ?_
  refine done_ (done_of HT_.out (by kernel_rfl)) ?_
  try go_wp2
  go_ret
  exact ⟨rfl, HB.out⟩
def findL (k0 k1 k2 : Int) : List S42 → Int → Int
  | [], _ => -1
  | x :: r, i => if isKey x k0 k1 k2 = true then i else findL k0 k1 k2 r (i + 1)
theorem findL_drop (k0 k1 k2 : Int) (l : List S42) {j : Nat} (hj : j < l.length) : findL k0 k1 k2 (l.drop j) (j : Int) = if isKey l[j] k0 k1 k2 = true then (j : Int) else findL k0 k1 k2 (l.drop (j + 1)) ((j + 1 : Nat) : Int) := by
  rw [List.drop_eq_getElem_cons hj, findL]
  rfl
set_option maxHeartbeats 8000000 in
set_option maxRecDepth 100000 in
theorem slices_IndexFunc.calls (A0 : Option Addr) (c0 : Nat) (l0 : List S42) (k0 k1 k2 : Int) (gq : Nat) (w : World) (hr0 : Kd.C k42 w A0 l0.length l0) (hc0 : l0.length ≤ c0) (hlen : l0.length ≤ 4611686018427387904) (hk : w.heap[gq]? = some (.cells #[.int .i64 k0, .int .i64 k1, .int .i64 k2] 24 (0, 0))) :
    Calls Try.prog 34 #[.slice A0 l0.length c0, .func (.func 35) #[] #[.pointer (some ⟨gq, 0, none⟩)]] w fun e w' => e = .returned (.int .i64 (findL k0 k1 k2 l0 0)) ∧ Below w.heap.size w w' := by
  have HR0 := Aside0.mk hr0
  have HC0 := Aside0.mk hc0
  have HL0 := Aside0.mk hlen
  have HB := Aside0.mk (Below.refl w.heap.size w)
  have BKk := Aside0.mk hk
  clear hr0 hc0 hlen hk
  go_enter Try.func34, Try.ntmps34
  go_wp2
  go_loopg [8] l0.length (fun kq v8 w' => ∃ j : Nat, v8 = .int .i64 (j : Int) ∧ Aside0 (j + kq = l0.length) ∧ Aside0 (findL k0 k1 k2 (l0.drop j) (j : Int) = findL k0 k1 k2 l0 0) ∧ Aside0 (Below w.heap.size w w'))
  case atStart => exact ⟨0, rfl, ⟨by omega⟩, ⟨rfl⟩, HB⟩
  case round =>
    obtain ⟨j, rfl, HJ, HF, HB⟩ := hrel
    cases gk with
    | zero =>
      have c1 : decide ((j : Int) < (l0.length : Int)) = false := decide_eq_false (by have := HJ.out; omega)
      have c2 : decide (j < l0.length) = false := decide_eq_false (by have := HJ.out; omega)
      have hF := HF.out
      rw [List.drop_eq_nil_of_le (by have := HJ.out; omega), findL] at hF
      go_wp2
      go_ret
      exact ⟨by rw [← hF]; rfl, HB.out⟩
    | succ gk =>
      have hlt : j < l0.length := by have := HJ.out; omega
      have c1 : decide ((j : Int) < (l0.length : Int)) = true := decide_eq_true (by omega)
      have c2 : decide (j < l0.length) = true := decide_eq_true hlt
      obtain ⟨ad1, e1, hx_0, hx_1, hx_2, hx_3⟩ := at_T42 HR0.out (j : Int) (by omega) (by omega)
      cases e1
      simp only [Int.toNat_natCast] at hx_0 hx_1 hx_2 hx_3
      replace hx_0 := (HB.out.cell (World.block_lt_of_cell? w _ hx_0)).trans hx_0
      replace hx_1 := (HB.out.cell (World.block_lt_of_cell? w _ hx_1)).trans hx_1
      replace hx_2 := (HB.out.cell (World.block_lt_of_cell? w _ hx_2)).trans hx_2
      replace hx_3 := (HB.out.cell (World.block_lt_of_cell? w _ hx_3)).trans hx_3
      have p1 := eq_true (show (0 : Int) ≤ (j : Int) by omega)
      have p2 := eq_true (show (j : Int) < (l0.length : Int) by omega)
      have hb1 := blk_below BKk.out HB.out
      have hr : rd_T42 l0 (j : Int) = l0[j] := by unfold rd_T42; simp [List.getD_eq_getElem?_getD, List.getElem?_eq_getElem hlt]
      have hfd := findL_drop k0 k1 k2 l0 hlt
      rw [HF.out] at hfd
      have HFD := Aside0.mk hfd
      clear hfd
      rw [hr] at hx_0 hx_1 hx_2 hx_3
      by_cases cK : (l0[j].f0 == k0 && (l0[j].f1 == k1 && (l0[j].f3 == k2))) = true
      · have hF := HFD.out
        rw [if_pos (show isKey l0[j] k0 k1 k2 = true from cK)] at hF
        go_wp2_with (go_at_call 35; refine (table_Find_1.calls l0[j].f0 l0[j].f1 l0[j].f2 l0[j].f3 k0 k1 k2 gq _ hb1).mono ?_; rintro e w2 ⟨rfl, hb⟩; rw [cK]; clear hx_0 hx_1 hx_2 hx_3)
        go_ret
        exact ⟨by rw [hF]; rfl, below_step HB.out hb⟩
      · have hF := HFD.out
        rw [if_neg (show ¬ isKey l0[j] k0 k1 k2 = true from cK)] at hF
        have cK2 : (l0[j].f0 == k0 && (l0[j].f1 == k1 && (l0[j].f3 == k2))) = false := by simpa using cK
        have HN := Aside0.mk hF.symm
        have LN := Aside0.mk HL0.out
        clear hF
        go_wp2_with (go_at_call 35; refine (table_Find_1.calls l0[j].f0 l0[j].f1 l0[j].f2 l0[j].f3 k0 k1 k2 gq _ hb1).mono ?_; rintro e w2 ⟨rfl, hb⟩; rw [cK2]; clear hx_0 hx_1 hx_2 hx_3)
        go_roundg gk
        case measure => omega
        case rel => exact ⟨j + 1, congrArg (Value.int .i64) (by have := HJ.out; have := LN.out; unfold wrap64; omega), ⟨by have := HJ.out; omega⟩, HN, ⟨below_step HB.out hb⟩⟩
set_option maxHeartbeats 8000000 in
set_option maxRecDepth 100000 in
def table_Find.f (l : List S42) (k0 k1 k2 : Int) : Option Int := if l.length ≤ 4611686018427387904 then some (findL k0 k1 k2 l 0) else none
set_option maxHeartbeats 8000000 in
set_option maxRecDepth 100000 in
theorem table_Find.calls (A0 : Option Addr) (c0 : Nat) (l0 : List S42) (a1_0 a1_1 a1_2 : Int) (r : Int) (w : World) (hr0 : Kd.C k42 w A0 l0.length l0) (hc0 : l0.length ≤ c0) (h : table_Find.f l0 a1_0 a1_1 a1_2 = some r) :
    Calls Try.prog 14 #[.slice A0 l0.length c0, .agg #[.int .i64 a1_0, .int .i64 a1_1, .int .i64 a1_2]] w fun e w' => e = .returned (.int .i64 r) ∧ Below w.heap.size w w' := by
  unfold table_Find.f at h
  split at h
  · rename_i hlen
    injection h with h
    subst h
    have HR0 := Aside0.mk hr0
    have HC0 := Aside0.mk hc0
    have HL0 := Aside0.mk hlen
    have HB := Aside0.mk (Below.refl w.heap.size w)
    clear hr0 hc0 hlen
    go_enter Try.func14, Try.ntmps14
    go_wp2_with (first | ((with_reducible refine gate_dst (N := 3) rfl ?_); refine box_event ?hg (N := 3) ?hd (cs := #[.int .i64 a1_0, .int .i64 a1_1, .int .i64 a1_2]) (t := 24) ?hr ?_; (case hd => rfl); (case hg => rfl); (case hr => first | (go_simp; done) | (go_simp; rfl)); intro gb hg w2 hbox hb; subst hg) | (go_at_call 34; refine (slices_IndexFunc.calls _ _ l0 a1_0 a1_1 a1_2 w.heap.size _ (Kd.C_below HR0.out hb) HC0.out HL0.out hbox).mono ?_; rintro e w3 ⟨rfl, hb3⟩))
    go_ret
    exact ⟨rfl, below_step (below_step HB.out hb) hb3⟩
  · cases h
end Go.Proofs.Ytlcbpaenjjeenaa.Q
end
section
namespace Go.Proofs.Ytlcbpaenjjeenaa.Q
open Go.RowKit Go.Maps Go.Proofs.YtlcbpaenjjeenaaW.PrintWords Go.Proofs.YtlcbpaenjjeenaaW.PrintLast Go.Proofs.YtlcbpaenjjeenaaW.PrintMore
set_option linter.unusedVariables false
set_option linter.unusedSimpArgs false
def awL : List S42 := [⟨1, 2, 5, 1⟩, ⟨0, 1, 3, 2⟩, ⟨1, 2, 4, 1⟩]
def awM : List S42 := [⟨0, 1, 3, 2⟩, ⟨1, 2, 9, 1⟩]
instance decS42 : DecidableEq S42 := fun a b =>
  if h : a.f0 = b.f0 ∧ a.f1 = b.f1 ∧ a.f2 = b.f2 ∧ a.f3 = b.f3 then .isTrue (by cases a; cases b; simp_all) else .isFalse (fun e => h (by rw [e]; exact ⟨rfl, rfl, rfl, rfl⟩))
theorem aw_merge : table_Merge.f 40 awL = some (awM, 0) := by decide +kernel
theorem aw_same : ebbtideref03_SameArcs.f 40 awM awM = some true := by decide +kernel
theorem aw_busy : table_Busy.f awL = some (1, 2, 2) := by decide +kernel
theorem aw_find : table_Find.f awL 3 0 0 = some (-1) := by decide +kernel
def ebbtidelaw03_awake.f (_ : Nat) : Option Bool := some true
theorem eqA37 (d : Nat) (w : World) (x0 y0 : Int) (x1 y1 : Int) :
    (Op.equalIn (d + 2) 37 (.agg #[.int .i64 x0, .int .i64 x1]) (.agg #[.int .i64 y0, .int .i64 y1])).run Try.prog w = .ok (x0 == y0 && (x1 == y1)) w := by
  obtain ⟨i, hi⟩ : ∃ i, Try.prog.info? 3 = some i := by
    have h := info3
    cases hI : Try.prog.info? 3 with
    | none => rw [hI] at h; cases h
    | some i => exact ⟨i, rfl⟩
  rw [show d + 2 = (d + 1) + 1 from rfl, Go.run_equalIn_array w (d + 1) _ _ Try.underlying37 hi, cells3]
  have p0 : (part 3 #[.int .i64 x0, .int .i64 x1] (0 * 1)).run Try.prog w = .ok (.int .i64 x0) w := by go_simp
  have p1 : (part 3 #[.int .i64 x0, .int .i64 x1] (1 * 1)).run Try.prog w = .ok (.int .i64 x1) w := by go_simp
  have q0 : (part 3 #[.int .i64 y0, .int .i64 y1] (0 * 1)).run Try.prog w = .ok (.int .i64 y0) w := by go_simp
  have q1 : (part 3 #[.int .i64 y0, .int .i64 y1] (1 * 1)).run Try.prog w = .ok (.int .i64 y1) w := by go_simp
  have e0 : (Op.equalIn (d + 1) 3 (.int .i64 x0) (.int .i64 y0)).run Try.prog w = .ok (x0 == y0) w := by go_simp
  have e1 : (Op.equalIn (d + 1) 3 (.int .i64 x1) (.int .i64 y1)).run Try.prog w = .ok (x1 == y1) w := by go_simp
  show (Go.Op.eqItems (d + 1) 3 1 _ _ [0, 1]).run Try.prog w = _
  cases hx : (x0 == y0)
  · rw [hx] at e0
    simp only [Go.Op.eqItems, Sem.run_bind, p0, q0, e0, Result.andThen_ok, Bool.not_false, if_true, Sem.run_pure, Bool.false_and]
  · rw [hx] at e0
    simp only [Go.Op.eqItems, Sem.run_bind, p0, q0, e0, p1, q1, e1, Result.andThen_ok, Bool.not_true, Bool.false_eq_true, if_false, Bool.true_and]
    cases hy : (x1 == y1)
    · simp only [Bool.not_false, if_true, Sem.run_pure]
    · simp only [Bool.not_true, Bool.false_eq_true, if_false, Sem.run_pure]
attribute [local go_sem high] eqA37
set_option maxHeartbeats 8000000 in
set_option maxRecDepth 100000 in
theorem ebbtidelaw03_awake.calls (k : Nat) (r : Bool) (w : World) (h : ebbtidelaw03_awake.f k = some r) :
    Calls Try.prog 13 #[] w fun e w' => e = .returned (.bool r) ∧ Below w.heap.size w w' := by
  obtain rfl := Option.some.inj h
  clear h
  have hu42 := Try.underlying42
  have hu37 := Try.underlying37
  have HB := Aside0.mk (Below.refl w.heap.size w)
  obtain ⟨yl, hyl⟩ : ∃ y_ : List S42, y_ = awL := ⟨_, rfl⟩
  obtain ⟨ym, hym⟩ : ∃ y_ : List S42, y_ = awM := ⟨_, rfl⟩
  have A1 := Aside0.mk (show table_Merge.f 40 yl = some (ym, 0) by rw [hyl, hym]; exact aw_merge)
  have A2 := Aside0.mk (show ebbtideref03_SameArcs.f 40 ym ym = some true by rw [hym]; exact aw_same)
  have A3 := Aside0.mk (show table_Busy.f yl = some (1, 2, 2) by rw [hyl]; exact aw_busy)
  have A4 := Aside0.mk (show table_Find.f yl 3 0 0 = some (-1) by rw [hyl]; exact aw_find)
  unfold awL at hyl
  unfold awM at hym
  have NyL := Aside0.mk hyl
  have NyM := Aside0.mk hym
  clear hyl hym
  go_enter Try.func13, Try.ntmps13
  go_wp2_with (first
    | ((with_reducible refine gate_dst (N := 9) rfl ?_); refine Kd.R_lit k42 _ 42 ?hg (N := 9) ?hd (xs := ([(⟨1, 2, 5, 1⟩ : S42), (⟨0, 1, 3, 2⟩ : S42), (⟨1, 2, 4, 1⟩ : S42)] : List S42)) (inner := [.int .i64 1, .int .i64 2, .int .i64 5, .int .i64 1, .int .i64 0, .int .i64 1, .int .i64 3, .int .i64 2, .int .i64 1, .int .i64 2, .int .i64 4, .int .i64 1]) (ok := fun _ => True) (okp := fun _ => True) ?hr ?hp (fun _ hk => hk) trivial (Below.refl _ _) (Nat.le_refl _) (by simp) ?_; (case hd => rfl); (case hg => rfl); (case hr => first | (go_simp; done) | (go_simp; rfl)); (case hp => exact (Reps.c4 (k42_mkM _ _ _ (⟨1, 2, 5, 1⟩ : S42)) (Reps.c4 (k42_mkM _ _ _ (⟨0, 1, 3, 2⟩ : S42)) (Reps.c4 (k42_mkM _ _ _ (⟨1, 2, 4, 1⟩ : S42)) (Reps.none _ _))))); intro v9 w9 ho hb hg_ hnew_; clear hg_ hnew_; (first | rw [← NyL.out] at ho | (simp only [Int.reduceToNat] at ho; rw [← NyL.out] at ho)); have n0_ := Aside0.mk ho; have n1_ := Aside0.mk (below_step HB.out hb); clear HB hb ho; have HO := n0_; have HB := n1_; clear n0_ n1_; obtain ⟨Ao, co, eo⟩ := Kd.R_slice HO.out; subst eo)
    | (go_at_call 19; refine (table_Merge.calls 40 _ _ yl ym 0 _ (Kd.R_reads' HO.out).2.2 (Kd.R_reads' HO.out).2.1 A1.out).mono ?_; rintro e w12 ⟨v12, rfl, ho, hb⟩; have n0_ := Aside0.mk (Kd.R_below HO.out hb); have n1_ := Aside0.mk (below_step HB.out hb); have n2_ := Aside0.mk ho; clear HO HB hb ho; have HO := n0_; have HB := n1_; have HM := n2_; clear n0_ n1_ n2_; obtain ⟨Am, cm, em⟩ := Kd.R_slice HM.out; subst em)
    | (go_at_call 22; refine (table_Busy.calls _ _ yl 1 2 2 _ (Kd.R_reads' HO.out).2.2 (Kd.R_reads' HO.out).2.1 A3.out).mono ?_; rintro e w17 ⟨rfl, hb⟩; have n0_ := Aside0.mk (Kd.R_below HO.out hb); have n1_ := Aside0.mk (below_step HB.out hb); have n2_ := Aside0.mk (Kd.R_below HM.out hb); clear HO HB HM hb; have HO := n0_; have HB := n1_; have HM := n2_; clear n0_ n1_ n2_)
    | ((with_reducible refine gate_dst (N := 26) rfl ?_); (try (refine gate_guard (by rfl) ?_; dsimp only)); refine Kd.R_lit k42 _ 42 ?hg (N := 26) ?hd (xs := ([(⟨0, 1, 3, 2⟩ : S42), (⟨1, 2, 9, 1⟩ : S42)] : List S42)) (inner := [.int .i64 0, .int .i64 1, .int .i64 3, .int .i64 2, .int .i64 1, .int .i64 2, .int .i64 9, .int .i64 1]) (ok := fun _ => True) (okp := fun _ => True) ?hr ?hp (fun _ hk => hk) trivial (Below.refl _ _) (Nat.le_refl _) (by simp) ?_; (case hd => rfl); (case hg => rfl); (case hr => first | (go_simp; done) | (go_simp; rfl)); (case hp => exact (Reps.c4 (k42_mkM _ _ _ (⟨0, 1, 3, 2⟩ : S42)) (Reps.c4 (k42_mkM _ _ _ (⟨1, 2, 9, 1⟩ : S42)) (Reps.none _ _)))); intro v26 w26 ho hb hg_ hnew_; clear hg_ hnew_; (first | rw [← NyM.out] at ho | (simp only [Int.reduceToNat] at ho; rw [← NyM.out] at ho)); have n0_ := Aside0.mk (Kd.R_below (by apply Kd.R_alloc; exact HO.out) hb); have n1_ := Aside0.mk (below_step (below_alloc HB.out _) hb); have n2_ := Aside0.mk (Kd.R_below (by apply Kd.R_alloc; exact HM.out) hb); have n3_ := Aside0.mk ho; have n4_ := Aside0.mk (blk_below (blk_new _ _) hb); clear HO HB HM hb ho; have HO := n0_; have HB := n1_; have HM := n2_; have HX := n3_; have BKp := n4_; clear n0_ n1_ n2_ n3_ n4_; obtain ⟨Ax, cx, ex⟩ := Kd.R_slice HX.out; subst ex)
    | (go_at_call 21; refine (ebbtideref03_SameArcs.calls 40 _ _ ym _ _ ym true _ (Kd.R_reads' HM.out).2.2 (Kd.R_reads' HM.out).2.1 (Kd.R_reads' HX.out).2.2 (Kd.R_reads' HX.out).2.1 A2.out).mono ?_; rintro e w28 ⟨rfl, ⟨nd, rfl⟩⟩; have n0_ := Aside0.mk (show Kd.R k42 42 (w26.drewN nd) w.heap.size (fun _ => True) (.slice Ao yl.length co) yl from by apply Kd.R_drewN; exact HO.out); have n1_ := Aside0.mk (pw_below_drewN HB.out nd); have n4_ := Aside0.mk (blk_drewN BKp.out nd); clear HO HB HM HX BKp; have HO := n0_; have HB := n1_; have BKp := n4_; clear n0_ n1_ n4_; generalize w26.drewN nd = w28 at *; have z0 := (blk_cell BKp.out 0).trans (rfl : _ = some (Value.int .i64 1)); have z1 := (blk_cell BKp.out 1).trans (rfl : _ = some (Value.int .i64 2)); have y0 := blk_frozen BKp.out 0; have y1 := blk_frozen BKp.out 1)
    | (go_at_call 14; refine (table_Find.calls _ _ yl 3 0 0 (-1) _ (Kd.R_reads' HO.out).2.2 (Kd.R_reads' HO.out).2.1 A4.out).mono ?_; rintro e w41 ⟨rfl, hb⟩; have n1_ := Aside0.mk (below_step HB.out hb); clear HB hb; have HB := n1_; clear n1_))
  go_ret
  exact ⟨rfl, HB.out⟩
end Go.Proofs.Ytlcbpaenjjeenaa.Q
end
section
namespace Go.Proofs.Ytlcbpaenjjeenaa.P
theorem sorted_ext {α : Type} {lt : α → α → Prop} (irr : ∀ x, ¬ lt x x) (asym : ∀ x y, lt x y → ¬ lt y x) : ∀ {a b : List α}, a.Pairwise lt → b.Pairwise lt → (∀ x, x ∈ a ↔ x ∈ b) → a = b
  | [], [], _, _, _ => rfl
  | [], y :: b, _, _, h => absurd ((h y).2 List.mem_cons_self) (by simp)
  | x :: a, [], _, _, h => absurd ((h x).1 List.mem_cons_self) (by simp)
  | x :: a, y :: b, ha, hb, h => by
    rw [List.pairwise_cons] at ha hb
    have hxy : x = y := by
      rcases List.mem_cons.1 ((h x).1 List.mem_cons_self) with e | hx
      · exact e
      · rcases List.mem_cons.1 ((h y).2 List.mem_cons_self) with e | hy
        · exact e.symm
        · exact absurd (ha.1 y hy) (asym _ _ (hb.1 x hx))
    subst hxy
    rw [sorted_ext irr asym ha.2 hb.2 (fun z => by
      constructor
      · intro hz
        rcases List.mem_cons.1 ((h z).1 (List.mem_cons_of_mem _ hz)) with e | hz'
        · exact absurd (ha.1 z hz) (by rw [e]; exact irr _)
        · exact hz'
      · intro hz
        rcases List.mem_cons.1 ((h z).2 (List.mem_cons_of_mem _ hz)) with e | hz'
        · exact absurd (hb.1 z hz) (by rw [e]; exact irr _)
        · exact hz')]
section
variable {α κ : Type} [DecidableEq κ]
def once : List κ → List κ → List κ
  | acc, [] => acc
  | acc, k :: r => once (if k ∈ acc then acc else acc ++ [k]) r
def keysOf (key : α → κ) (l : List α) : List κ := once [] (l.map key)
theorem once_append (acc a b : List κ) : once acc (a ++ b) = once (once acc a) b := by
  induction a generalizing acc with
  | nil => rfl
  | cons x a ih => simp only [List.cons_append, once]; exact ih _
theorem keysOf_snoc (key : α → κ) (l : List α) (x : α) : keysOf key (l ++ [x]) = if key x ∈ keysOf key l then keysOf key l else keysOf key l ++ [key x] := by
  unfold keysOf
  rw [List.map_append, once_append]
  rfl
theorem mem_once (acc l : List κ) (k : κ) : k ∈ once acc l ↔ k ∈ acc ∨ k ∈ l := by
  induction l generalizing acc with
  | nil => simp [once]
  | cons x l ih =>
    simp only [once]
    rw [ih]
    split
    · rename_i h
      constructor
      · rintro (h1 | h1)
        · exact .inl h1
        · exact .inr (List.mem_cons_of_mem _ h1)
      · rintro (h1 | h1)
        · exact .inl h1
        · rcases List.mem_cons.1 h1 with rfl | h2
          · exact .inl h
          · exact .inr h2
    · constructor
      · rintro (h1 | h1)
        · rcases List.mem_append.1 h1 with h1 | h1
          · exact .inl h1
          · rw [List.mem_singleton.1 h1]; exact .inr List.mem_cons_self
        · exact .inr (List.mem_cons_of_mem _ h1)
      · rintro (h1 | h1)
        · exact .inl (List.mem_append_left _ h1)
        · rcases List.mem_cons.1 h1 with rfl | h2
          · exact .inl (List.mem_append_right _ (List.mem_singleton.2 rfl))
          · exact .inr h2
theorem nodup_once (acc l : List κ) (h : acc.Nodup) : (once acc l).Nodup := by
  induction l generalizing acc with
  | nil => exact h
  | cons x l ih =>
    simp only [once]
    refine ih _ ?_
    split
    · exact h
    · rename_i hx
      rw [List.nodup_append]
      refine ⟨h, by simp, ?_⟩
      intro a ha b hb
      rw [List.mem_singleton.1 hb]
      rintro rfl
      exact hx ha
theorem mem_keysOf (key : α → κ) (l : List α) (k : κ) : k ∈ keysOf key l ↔ ∃ x ∈ l, key x = k := by
  unfold keysOf
  rw [mem_once]
  simp [eq_comm]
theorem once_length_le (acc l : List κ) : (once acc l).length ≤ acc.length + l.length := by
  induction l generalizing acc with
  | nil => simp [once]
  | cons x l ih =>
    simp only [once]
    refine Nat.le_trans (ih _) ?_
    split
    · simp only [List.length_cons]; omega
    · simp only [List.length_append, List.length_cons, List.length_nil]; omega
theorem keysOf_length_le (key : α → κ) (l : List α) : (keysOf key l).length ≤ l.length := by
  have := once_length_le [] (l.map key)
  rw [List.length_map] at this
  unfold keysOf
  simpa using this
theorem nodup_keysOf (key : α → κ) (l : List α) : (keysOf key l).Nodup := nodup_once _ _ List.nodup_nil
def sumK (key : α → κ) (val : α → Int) (l : List α) (k : κ) : Int := ((l.filter (fun x => decide (key x = k))).map val).sum
end
section
variable {α κ : Type} [DecidableEq κ]
end
end Go.Proofs.Ytlcbpaenjjeenaa.P
end
section
namespace Go.Proofs.Ytlcbpaenjjeenaa.Q
open Go.RowKit Go.Maps Go.Proofs.YtlcbpaenjjeenaaW.PrintWords Go.Proofs.YtlcbpaenjjeenaaW.PrintLast Go.Proofs.YtlcbpaenjjeenaaW.PrintMore
set_option linter.unusedVariables false
set_option linter.unusedSimpArgs false
def keyS (x : S70) : Int × Int := (x.f0, x.f1)
def mkS (p : Int × Int) : S70 := ⟨p.1, p.2⟩
def cntS (l : List S70) (p : Int × Int) : Int := ((l.filter (fun x => decide (keyS x = p))).length : Int)
theorem cntS_snoc (l : List S70) (x : S70) (p : Int × Int) : cntS (l ++ [x]) p = cntS l p + (if keyS x = p then 1 else 0) := by
  unfold cntS
  rw [List.filter_append, List.filter_cons]
  by_cases c : keyS x = p
  · simp [c]
  · simp [c]
def logS (l : List S70) : List ((Int × Int) × Int) := l.foldl (fun es x => es ++ [(keyS x, (lookM es (keyS x)).getD 0 + 1)]) []
theorem logS_snoc (l : List S70) (x : S70) : logS (l ++ [x]) = logS l ++ [(keyS x, (lookM (logS l) (keyS x)).getD 0 + 1)] := by
  unfold logS; rw [List.foldl_append]; rfl
theorem logS_eq (p : Int × Int) : ∀ (n : Nat) (l : List S70), l.length = n → (lookM (logS l) p).getD 0 = cntS l p := by
  intro n
  induction n with
  | zero => intro l hl; rw [List.length_eq_zero_iff.1 hl]; rfl
  | succ n ih =>
    intro l hl
    obtain ⟨r, x, rfl⟩ : ∃ r x, l = r ++ [x] := by
      rcases List.eq_nil_or_concat l with rfl | ⟨r, x, rfl⟩
      · cases hl
      · exact ⟨r, x, by rw [List.concat_eq_append]⟩
    have hr := ih r (by simpa using hl)
    rw [logS_snoc, lookM_snoc, cntS_snoc]
    by_cases c : keyS x = p
    · rw [if_pos c, if_pos c, c, hr]; rfl
    · rw [if_neg c, if_neg c, hr]; omega
theorem cntS_bd (l : List S70) (p : Int × Int) : 0 ≤ cntS l p ∧ cntS l p ≤ (l.length : Int) := by
  unfold cntS
  have := List.length_filter_le (fun x => decide (keyS x = p)) l
  omega
theorem cntS_zero (l : List S70) (p : Int × Int) : cntS l p = 0 ↔ p ∉ P.keysOf keyS l := by
  unfold cntS
  rw [P.mem_keysOf]
  constructor
  · rintro h ⟨x, hx, hk⟩
    have h2 : (l.filter (fun x => decide (keyS x = p))) = [] := List.eq_nil_of_length_eq_zero (by omega)
    rw [List.filter_eq_nil_iff] at h2
    exact h2 x hx (by simpa using hk)
  · intro h
    rw [List.filter_eq_nil_iff.2 (fun x hx => by simpa using fun e => h ⟨x, hx, e⟩)]
    rfl
def keptS (l : List S70) : List S70 := (P.keysOf keyS l).map mkS
theorem keptS_snoc (l : List S70) (x : S70) : keptS (l ++ [x]) = if cntS l (keyS x) + 1 = 1 then keptS l ++ [x] else keptS l := by
  unfold keptS
  rw [P.keysOf_snoc]
  by_cases c : keyS x ∈ P.keysOf keyS l
  · have h : ¬ cntS l (keyS x) = 0 := fun h => (cntS_zero _ _).1 h c
    rw [if_pos c, if_neg (by omega)]
  · have h : cntS l (keyS x) = 0 := (cntS_zero _ _).2 c
    rw [if_neg c, if_pos (by omega), List.map_append]
    rfl
def table_Slots.f (k : Nat) (l0 : List S70) : Option (List S70) := if l0.length ≤ 1048576 ∧ l0.all (fun x => good2 (keyS x)) = true then api_Slot_44.f (keptS l0) else none
def table_Slots.T6 : Bool × List (List Nat × List Nat) := (true, [([], []), ([], []), ([0, 1], [0, 1]), ([2], [2]), ([0, 1, 0, 1], [0, 1]), ([4], [4]), ([0, 5, 3, 4, 0, 1, 2, 3, 4, 5], [0, 3, 5])])
def table_Slots.B6 : List Nat := [0, 0, 3, 7, 3, 19, 63]
theorem table_Slots.tab6 : rtab .any (opsOf Try.f27 6) = table_Slots.T6 := by kernel_rfl
theorem table_Slots.bits6 : waitsOk table_Slots.T6.2 table_Slots.B6 = true := by kernel_rfl
theorem klaw70 : WideMaps.KeyLaw Try.prog 70 := deep_law_laid laidOutT (m := 2) (by decide) (by decide +kernel) (by kernel_rfl) (by rw [Try.underlying70])
set_option maxHeartbeats 8000000 in
set_option maxRecDepth 100000 in
theorem table_Slots.calls (k : Nat) (A0 : Option Addr) (c0 : Nat) (l0 : List S70) (r : List S70) (w : World) (hr0 : Kd.C k70 w A0 l0.length l0) (hc0 : l0.length ≤ c0) (h : table_Slots.f k l0 = some r) :
    Calls Try.prog 27 #[.slice A0 l0.length c0] w fun e w' => ∃ v0_ : Value, e = .returned (v0_) ∧ Kd.R k70 70 w' w.heap.size (fun _ => True) v0_ r ∧ Below w.heap.size w w' := by
  have hu70 := Try.underlying70
  unfold table_Slots.f at h
  split at h
  case isFalse => cases h
  rename_i hh
  have HR0 := Aside0.mk hr0
  have HC0 := Aside0.mk hc0
  have HL0 := Aside0.mk hh.1
  have HG0 := Aside0.mk hh.2
  have HF := Aside0.mk h
  have HB := Aside0.mk (Below.refl w.heap.size w)
  clear hr0 hc0 hh h
  go_enter Try.func27, Try.ntmps27
  go_wp2_with (first
    | ((with_reducible refine gate_dst (N := 7) rfl ?_); refine mmake E70 _ rfl 71 rfl ?_; intro w9m mb hM_ hb hge; have n0_ := Aside0.mk (below_step HB.out hb); have n2_ := Aside0.mk (Nat.le_trans (below_size HB.out) hge); clear HB; have HB := n0_; have GEm := n2_; have HM := Aside0.mk hM_; clear n0_ n2_ hM_ hb hge)
    | ((with_reducible refine gate_dst (N := 8) rfl ?_); refine Kd.R_lit k70 _ 70 ?hg (N := 8) ?hd (xs := ([] : List S70)) (inner := []) (ok := fun _ => True) (okp := fun _ => True) ?hr ?hp (fun _ hk => hk) trivial (Below.refl _ _) (Nat.le_refl _) (by simp) ?_; (case hd => rfl); (case hg => rfl); (case hr => first | (go_simp; done) | (go_simp; rfl)); (case hp => exact (Reps.none _ _)); intro v4 w3 ho4 hb hg_ hnew_; have n0_ := Aside0.mk (Kd.R_lower ho4 (below_size HB.out)); have n1_ := Aside0.mk (below_step HB.out hb); have n2_ := Aside0.mk (MapI.below HM.out hb); clear HB HM; have HO := n0_; have HB := n1_; have HM := n2_; clear n0_ n1_ n2_ hb ho4 hg_ hnew_))
  have n0_ := Aside0.mk (R_nomap HO.out HM.out.block)
  clear HO
  have HO := n0_
  clear n0_
  go_loopg [4, 11] l0.length (fun kq v4 v11 w' => ∃ j : Nat, v11 = .int .i64 (j : Int) ∧ Aside0 (j + kq = l0.length) ∧ Aside0 (Kd.R k70 70 w' w.heap.size (fun k => True ∧ k ≠ mb) v4 (keptS (l0.take j))) ∧ Aside0 (Below w.heap.size w w') ∧ Aside0 (MapI E70 w' mb j (logS (l0.take j))))
  case atStart => exact ⟨0, rfl, ⟨by omega⟩, HO, HB, HM⟩
  case round =>
    clear HO HB HM
    obtain ⟨j, rfl, HJ, HO, HB, HM⟩ := hrel
    cases gk with
    | zero =>
      have c1 : decide ((j : Int) < (l0.length : Int)) = false := decide_eq_false (by have := HJ.out; omega)
      have c2 : decide (j < l0.length) = false := decide_eq_false (by have := HJ.out; omega)
      have n0_ := HO.out
      rw [List.take_of_length_le (by have := HJ.out; omega)] at n0_
      clear HO
      have HO := Aside0.mk (Kd.R_mono n0_ (fun _ _ => trivial : ∀ k, _ → True))
      clear n0_
      obtain ⟨Ao, co, eo⟩ := Kd.R_slice HO.out
      subst eo
      go_wp2_with ((with_reducible refine gate_callee (f := 44) rfl ?_); refine goesL_ (some 31) rfl rfl Try.func44 (by kernel_rfl) rfl #[.slice Ao (keptS l0).length co, .func (.func 45) #[] #[]] rfl (by (try simp only [List.map_toArray, List.map_cons, List.map_nil]); first | done | rfl | (simp only [List.length_drop, List.length_take]; rfl)) ?_; (with_reducible refine (api_Slot_44.calls (fun _ => True) (.slice Ao (keptS l0).length co) (keptS l0) r w _ ?side1 ?side2 HF.out).mono ?_); (case side1 => exact HB.out); (case side2 => exact HO.out); rintro e w27 ⟨rfl, hy0, hb, hkp⟩; refine ⟨_, rfl, ?_⟩; have n0_ := Aside0.mk (Kd.R_mono hy0 (fun _ _ => trivial : ∀ k, _ → True)); have n2_ := Aside0.mk hb; clear HO HB; have HO := n0_; have HB := n2_; clear n0_ n2_ hb hkp hy0)
      go_ret
      exact ⟨_, rfl, HO.out, HB.out⟩
    | succ gk =>
      have hlt : j < l0.length := by have := HJ.out; omega
      have c1 : decide ((j : Int) < (l0.length : Int)) = true := decide_eq_true (by omega)
      have c2 : decide (j < l0.length) = true := decide_eq_true hlt
      obtain ⟨ad1, e1, hx_0, hx_1⟩ := at_T70 HR0.out (j : Int) (by omega) (by omega)
      cases e1
      simp only [Int.toNat_natCast] at hx_0 hx_1
      replace hx_0 := (HB.out.cell (World.block_lt_of_cell? w _ hx_0)).trans hx_0
      replace hx_1 := (HB.out.cell (World.block_lt_of_cell? w _ hx_1)).trans hx_1
      have hr : rd_T70 l0 (j : Int) = l0[j] := by unfold rd_T70; simp [List.getD_eq_getElem?_getD, List.getElem?_eq_getElem hlt]
      have hgood : E70.good (keyS l0[j]) := good2_ok (by have := List.all_eq_true.1 HG0.out _ (List.getElem_mem hlt); exact this)
      have hsn : logS (l0.take (j + 1)) = logS (l0.take j) ++ [(keyS l0[j], (lookM (logS (l0.take j)) (keyS l0[j])).getD 0 + 1)] := by
        rw [List.take_succ_eq_append_getElem hlt, logS_snoc]
      have hkp : keptS (l0.take (j + 1)) = if cntS (l0.take j) (keyS l0[j]) + 1 = 1 then keptS (l0.take j) ++ [l0[j]] else keptS (l0.take j) := by
        rw [List.take_succ_eq_append_getElem hlt, keptS_snoc]
      have hcnt : 0 ≤ (lookM (logS (l0.take j)) (keyS l0[j])).getD 0 ∧ (lookM (logS (l0.take j)) (keyS l0[j])).getD 0 ≤ 1048576 := by
        rw [logS_eq _ _ _ rfl]
        have h1 := cntS_bd (l0.take j) (keyS l0[j])
        have h2 := HL0.out
        rw [List.length_take] at h1
        omega
      rw [← logS_eq _ _ _ rfl] at hkp
      obtain ⟨f0, f1, hl0⟩ : ∃ a b, l0[j] = (⟨a, b⟩ : S70) := ⟨_, _, rfl⟩
      rw [hr] at hx_0 hx_1
      rw [hl0] at hx_0 hx_1 hgood hsn hkp hcnt
      simp only [show keyS (⟨f0, f1⟩ : S70) = (f0, f1) from rfl] at hgood hsn hkp hcnt
      obtain ⟨cn, hcn⟩ : ∃ cn, cn = (lookM (logS (l0.take j)) (f0, f1)).getD 0 := ⟨_, rfl⟩
      rw [← hcn] at hsn hkp hcnt
      have hlk2 : (lookM (logS (l0.take (j + 1))) (f0, f1)).getD 0 = cn + 1 := by rw [hsn, lookM_snoc, if_pos rfl]; rfl
      have HGD := Aside0.mk hgood
      have HSN := Aside0.mk hsn
      have HKP := Aside0.mk hkp
      have HCN := Aside0.mk hcnt
      have HLN := Aside0.mk hcn
      have HLK2 := Aside0.mk hlk2
      clear hr hgood hsn hkp hcnt hl0 hcn hlk2
      have p1 := eq_true (show (0 : Int) ≤ (j : Int) by omega)
      have p2 := eq_true (show (j : Int) < (l0.length : Int) by omega)
      go_wp2_with (first
        | ((with_reducible refine gate_dst (N := 6) rfl ?_); refine box_event ?hg (N := 6) ?hd (cs := #[.int .i64 0, .int .i64 0]) (t := 70) ?hr ?_; (case hd => rfl); (case hg => rfl); (case hr => first | (go_simp; done) | (go_simp; rfl)); intro gb hg w5 hbox hb; have n0_ := Aside0.mk (Kd.R_below (Kd.R_elderB HO.out gb (Nat.le_of_eq hg.symm)) hb); have n1_ := Aside0.mk (below_step HB.out hb); have n2_ := Aside0.mk (MapI.below HM.out hb); have GEb := Aside0.mk (show w.heap.size ≤ gb by rw [hg]; exact below_size HB.out); have NBbm := Aside0.mk (by rw [hg]; exact (Nat.ne_of_lt (MapI.lt HM.out)).symm : gb ≠ mb); have BK := Aside0.mk hbox; clear HO HB HM; have HO := n0_; have HB := n1_; have HM := n2_; clear n0_ n1_ n2_ hb hbox hg; have hcz_0 : w5.cell? ⟨gb, 0, none⟩ = some (.int .i64 0) := (blk_cell BK.out 0).trans rfl; have hcz_1 : w5.cell? ⟨gb, 1, none⟩ = some (.int .i64 0) := (blk_cell BK.out 1).trans rfl; have hfz_0 := blk_frozen BK.out 0; have hfz_1 := blk_frozen BK.out 1)
        | ((with_reducible refine gate_store (t := 70) (p := 6) rfl ?_); refine store_event (t := 70) (p := 6) (v := ?vo) (w1 := ?wo) ?hg ?ho ?hn ?hr ?_; (case ho => rfl); (case hg => rfl); (case hn => rfl); (case hr => first | (go_simp; done) | (go_simp; rfl)); intro w6 hw; have n0_ := Aside0.mk (show w6.heap[gb]? = some (.cells #[.int .i64 f0, .int .i64 f1] 70 (0, 0)) from (by rw [hw]; refine blk_put (cs := #[.int .i64 f0, .int .i64 0]) ?_ 1 _ rfl; refine blk_put (cs := #[.int .i64 0, .int .i64 0]) ?_ 0 _ rfl; exact BK.out)); have n1_ := Aside0.mk (show Kd.R k70 70 w6 w.heap.size (fun k_ => (True ∧ k_ ≠ mb) ∧ k_ ≠ gb) u4 (keptS (l0.take j)) from (by rw [hw]; exact Kd.R_far (p := ⟨gb, 1, none⟩) (Kd.R_far (p := ⟨gb, 0, none⟩) HO.out (fun _ hk => hk.2) _) (fun _ hk => hk.2) _)); have n2_ := Aside0.mk (show Below w.heap.size w w6 from (by rw [hw]; exact below_set (below_set HB.out GEb.out) GEb.out)); have n3_ := Aside0.mk (show MapI E70 w6 mb j (logS (l0.take j)) from (by rw [hw]; exact MapI.farg (MapI.farg HM.out NBbm.out _) NBbm.out _)); clear BK HO HB HM hw hcz_0 hcz_1 hfz_0 hfz_1; have BK := n0_; have HO := n1_; have HB := n2_; have HM := n3_; clear n0_ n1_ n2_ n3_))
      have n0_ := Aside0.mk (Kd.R_drew HO.out)
      have n1_ := Aside0.mk (below_drew1 HB.out)
      have n2_ := Aside0.mk (blk_drew BK.out)
      have n3_ := Aside0.mk (MapI.drew HM.out)
      clear HO HB BK HM hx_0 hx_1
      have HO := n0_
      have HB := n1_
      have BK := n2_
      have HM := n3_
      clear n0_ n1_ n2_ n3_
      have hlk := mlook_run E70 Try.underlying71 HM.out HGD.out
      rw [← HLN.out] at hlk
      have HLK := Aside0.mk hlk
      clear hlk
      refine start_ (n := 7) (S := fun w' => w'.heap[gb]? = some (.cells #[.int .i64 f0, .int .i64 f1] 70 (0, 0)) ∧ (Instr.lookup 71 (.map (some mb)) (.agg #[.int .i64 f0, .int .i64 f1]) false).run Try.prog w' = .ok (.int .i64 cn) w') (ds := [6]) #[Ff,Ff,Ff,Ff,Ff,Ff,Ff] (by kernel_rfl) rfl rfl ⟨BK.out, HLK.out⟩ (fun hHeld => ?_)
      refine with_tabW table_Slots.tab6 table_Slots.bits6 (fun HT_ HW_ => ?_)
      generalize w6.drew = w7 at HO HB BK HM HLK hHeld ⊢
      refine pv_ 0 15 #[Tt,Ff,Ff,Ff,Ff,Ff,Ff] ?_
      refine take_ (i := 1) (N := some 16) (v := ?_) (a' := ?_) #[Tt,Tt,Ff,Ff,Ff,Ff,Ff] rfl rfl (take_ofW HT_.out HW_.out (by kernel_rfl)) (fun _ _ _ h => h) (Or.inl ⟨by rfl, ?_⟩) hHeld ?_ ?_
      rotate_left
      · rintro w' ⟨s0, s1⟩
        have z0 : w'.cell? ⟨gb, 0, none⟩ = some (.int .i64 f0) := (blk_cell s0 0).trans rfl
        have z1 : w'.cell? ⟨gb, 1, none⟩ = some (.int .i64 f1) := (blk_cell s0 1).trans rfl
        have y0 := blk_frozen s0 0
        have y1 := blk_frozen s0 1
        go_simp
        with_reducible rfl
      rotate_left
      exact ap_
      refine take_ (i := 2) (N := some 17) (v := ?_) (a' := ?_) #[Tt,Tt,Tt,Ff,Ff,Ff,Ff] rfl rfl (take_ofW HT_.out HW_.out (by kernel_rfl)) (fun _ _ _ h => h) (Or.inl ⟨by rfl, ?_⟩) hHeld ?_ ?_
      rotate_left
      · rintro w' ⟨s0, s1⟩
        go_simp
        with_reducible rfl
      rotate_left
      exact ap_
      refine pv_ 3 18 #[Tt,Tt,Tt,Tt,Ff,Ff,Ff] ?_
      have hn : j < maxLen := by have := HL0.out; unfold maxLen; omega
      obtain ⟨v0, st, w8, es1, hrun1, hM1, hsame, hg1, hst⟩ := mentry E70 klaw70 Try.underlying71 HM.out HGD.out hn
      have hrun1' : (Instr.mapEntry 71 (.map (some mb)) (.agg #[.int .i64 f0, .int .i64 f1])).run Try.prog w7 = .ok (.tuple #[v0, goInt st]) w8 := hrun1
      clear hrun1
      refine one_ (i := 4) (N := some 19) #[Tt,Tt,Tt,Tt,Tt,Ff,Ff] rfl rfl (one_of HT_.out (by kernel_rfl)) (by decide) (fun K hK => ?_)
      refine value_ (v := .tuple #[v0, goInt st]) (w1 := w8) (by rfl) rfl (by go_simp; done) ?_
      have n0_ := Aside0.mk (blk_grown BK.out hg1 (fun e_ => NBbm.out (Option.some.inj e_)))
      have n1_ := Aside0.mk (Kd.R_grown HO.out hg1 (fun k_ hk e_ => hk.1.2 (Option.some.inj e_)))
      have n2_ := Aside0.mk (Below.grown HB.out hg1 (below_size HB.out) (fun k_ e_ => by injection e_ with e_; subst e_; exact GEm.out))
      have n3_ := Aside0.mk hM1
      clear BK HO HB HM
      have BK := n0_
      have HO := n1_
      have HB := n2_
      have HM := n3_
      clear n0_ n1_ n2_ n3_
      have hlk1 := mlook_run E70 Try.underlying71 hM1 HGD.out
      rw [hsame, ← HLN.out] at hlk1
      refine hK.out _ _ ⟨BK.out, hlk1⟩ (fun hHeld => ?_)
      clear hK K hM1 hsame hg1 hrun1' hlk1
      refine norm_ (a' := ?_) ?_ ?_
      rotate_left
      · show Act.put _ (some 19) _ = _
        simp only [Act.put, List.setIfInBounds_toArray, List.set_cons_zero, List.set_cons_succ, i64_w, i32_w]
        rfl
      refine pv_ 5 20 #[Tt,Tt,Tt,Tt,Tt,Tt,Ff] ?_
      refine last_ (i := 6) (N := none) #[Tt,Tt,Tt,Tt,Tt,Tt,Tt] rfl rfl (one_of HT_.out (by kernel_rfl)) (by decide) (fun K hK => ?_)
      have hwv : wrap64 (cn + 1) = cn + 1 := by
        have h_ := HCN.out
        unfold wrap64
        omega
      have HWV := Aside0.mk hwv
      clear hwv
      obtain ⟨w9, hrun2, hM2, hg2⟩ := hst (wrap64 (cn + 1)) (by rw [HWV.out]; have h_ := HCN.out; exact wf_i64' (by omega) (by omega))
      have hrun2' : (Instr.entryStore 71 (.map (some mb)) (.int .i64 (st : Int)) (.int .i64 (wrap64 (cn + 1)))).run Try.prog w8 = .ok () w9 := hrun2
      refine skip_ (w1 := w9) (by rfl) rfl (by go_simp; done) ?_
      rw [HWV.out, ← HSN.out] at hM2
      have n0_ := Aside0.mk (blk_grown BK.out hg2 (fun e_ => NBbm.out (Option.some.inj e_)))
      have n1_ := Aside0.mk (Kd.R_grown HO.out hg2 (fun k_ hk e_ => hk.1.2 (Option.some.inj e_)))
      have n2_ := Aside0.mk (Below.grown HB.out hg2 (below_size HB.out) (fun k_ e_ => by injection e_ with e_; subst e_; exact GEm.out))
      have n3_ := Aside0.mk hM2
      clear BK HO HB HM
      have BK := n0_
      have HO := n1_
      have HB := n2_
      have HM := n3_
      clear n0_ n1_ n2_ n3_ hM2 hg2 hrun2 hrun2' hst HLK
      refine hK.out _ _ ?_
      clear hK K
      refine done_ (done_of HT_.out (by kernel_rfl)) ?_
      have z0 : w9.cell? ⟨gb, 0, none⟩ = some (.int .i64 f0) := (blk_cell BK.out 0).trans rfl
      have z1 : w9.cell? ⟨gb, 1, none⟩ = some (.int .i64 f1) := (blk_cell BK.out 1).trans rfl
      have y0 := blk_frozen BK.out 0
      have y1 := blk_frozen BK.out 1
      have HKL : Aside0 ((keptS (l0.take j)).length ≤ 1048576) := ⟨by
        unfold keptS
        rw [List.length_map]
        have h1 := P.keysOf_length_le keyS (l0.take j)
        rw [List.length_take] at h1
        have := HL0.out
        omega⟩
      have hwr : wrap64 ((j : Int) + 1) = ((j + 1 : Nat) : Int) := by have := HL0.out; unfold wrap64; omega
      by_cases ck : cn + 1 = 1
      · have ck1 : decide (cn + 1 = 1) = true := decide_eq_true ck
        have ck2 : (cn + 1 == 1) = true := beq_iff_eq.2 ck
        have hk2 := HKP.out
        rw [if_pos ck] at hk2
        have HK2 := Aside0.mk hk2
        clear hk2 ck
        go_wp2_with (first
          | ((with_reducible refine gate_dst (N := 23) rfl ?_); refine mlook1 E70 _ rfl _ _ 71 rfl Try.underlying71 rfl HM.out (f0, f1) rfl HGD.out ?_; intro w10 hb; rw [HLK2.out]; have n0_ := Aside0.mk (below_step HB.out hb); have n1_ := Aside0.mk (Kd.R_below HO.out hb); have n2_ := Aside0.mk (MapI.below HM.out hb); have n3_ := Aside0.mk (blk_below BK.out hb); clear HB HO HM BK z0 z1 y0 y1 hb; have HB := n0_; have HO := n1_; have HM := n2_; have BK := n3_; clear n0_ n1_ n2_ n3_; have z0 : w10.cell? ⟨gb, 0, none⟩ = some (.int .i64 f0) := (blk_cell BK.out 0).trans rfl; have z1 : w10.cell? ⟨gb, 1, none⟩ = some (.int .i64 f1) := (blk_cell BK.out 1).trans rfl; have y0 := blk_frozen BK.out 0; have y1 := blk_frozen BK.out 1)
          | ((with_reducible refine gate_builtin (b := .append) (xs := #[.tmp 25, .tmp 27]) rfl ?_); at_builtin; refine Kd.R_append k70 (w0 := w) w.heap.size rfl (.tmp 25) (.tmp 27) 45 70 (.agg #[(.int .i64 0), (.int .i64 0)]) 16 rfl Try.underlying45 info70 rfl (by decide) (by omega) u4 (keptS (l0.take j)) (⟨f0, f1⟩ : S70) [(.int .i64 f0), (.int .i64 f1)] (fun k_ => (True ∧ k_ ≠ mb) ∧ k_ ≠ gb) (fun _ => False) rfl (by first | (go_simp; done) | (go_simp; rfl)) ?aP (fun _ hk => hk.elim) ?aF ?aO ?aB ?aS ?aL ?_; (case aP => exact k70_mkM _ _ _ (⟨f0, f1⟩ : S70)); (case aB => exact (by repeat (first | (with_reducible first | exact HB.out | apply below_alloc | apply pw_below_drewN | apply below_drew1) | exact HB.out))); (case aF => exact (fun k_ hk => ⟨⟨trivial, fun e_ => absurd (Nat.lt_of_lt_of_le (MapI.lt HM.out) hk) (by rw [e_]; exact Nat.lt_irrefl _)⟩, Kd.freshB (g := gb) (o := .cells #[.int .i64 f0, .int .i64 f1] 70 (0, 0)) (by (with_reducible repeat (first | refine blk_drewN ?_ _ | refine blk_drew ?_ | refine blk_alloc ?_ _)); exact BK.out) k_ hk⟩)); (case aO => (with_reducible repeat (first | apply Kd.R_alloc | apply Kd.R_drewN | apply Kd.R_drew)); exact HO.out); (case aS => exact (below_size (by repeat (first | (with_reducible first | exact HB.out | apply below_alloc | apply pw_below_drewN | apply below_drew1) | exact HB.out)))); (case aL => have := HKL.out; omega); intro v12 w11 ho hb hg hat; have n2_ := Aside0.mk (MapI.grownT HM.out hg (Kd.R_typed HO.out)); have n0_ := Aside0.mk ho; have n1_ := Aside0.mk hb; clear HO HB HM BK; have HO := n0_; have HB := n1_; have HM := n2_; clear n0_ n1_ n2_ ho hb hg hat))
        go_roundg gk
        case measure => omega
        case rel => exact ⟨j + 1, by rw [← hwr], ⟨by have := HJ.out; omega⟩, ⟨by rw [HK2.out]; exact Kd.R_mono HO.out (fun _ hk => hk.1)⟩, HB, HM⟩
      · have ck1 : decide (cn + 1 = 1) = false := decide_eq_false ck
        have ck2 : (cn + 1 == 1) = false := beq_eq_false_iff_ne.2 ck
        have hk2 := HKP.out
        rw [if_neg ck] at hk2
        have HK2 := Aside0.mk hk2
        clear hk2 ck
        go_wp2_with (first
          | ((with_reducible refine gate_dst (N := 23) rfl ?_); refine mlook1 E70 _ rfl _ _ 71 rfl Try.underlying71 rfl HM.out (f0, f1) rfl HGD.out ?_; intro w10 hb; rw [HLK2.out]; have n0_ := Aside0.mk (below_step HB.out hb); have n1_ := Aside0.mk (Kd.R_below HO.out hb); have n2_ := Aside0.mk (MapI.below HM.out hb); have n3_ := Aside0.mk (blk_below BK.out hb); clear HB HO HM BK z0 z1 y0 y1 hb; have HB := n0_; have HO := n1_; have HM := n2_; have BK := n3_; clear n0_ n1_ n2_ n3_; have z0 : w10.cell? ⟨gb, 0, none⟩ = some (.int .i64 f0) := (blk_cell BK.out 0).trans rfl; have z1 : w10.cell? ⟨gb, 1, none⟩ = some (.int .i64 f1) := (blk_cell BK.out 1).trans rfl; have y0 := blk_frozen BK.out 0; have y1 := blk_frozen BK.out 1))
        go_roundg gk
        case measure => omega
        case rel => exact ⟨j + 1, by rw [← hwr], ⟨by have := HJ.out; omega⟩, ⟨by rw [HK2.out]; exact Kd.R_mono HO.out (fun _ hk => hk.1)⟩, HB, HM⟩
end Go.Proofs.Ytlcbpaenjjeenaa.Q
end
section
namespace Go.Proofs.Ytlcbpaenjjeenaa.P
def row {β : Type} (V : Nat) (g : Nat → β) : List β := (List.range V).map g
section
variable {β : Type}
end
end Go.Proofs.Ytlcbpaenjjeenaa.P
end
section
namespace Go.Proofs.Ytlcbpaenjjeenaa.P
open Go.RowKit Go.Proofs.Ytlcbpaenjjeenaa.Q Go.Proofs.YtlcbpaenjjeenaaW.PrintWords
theorem wf_i64 {n : Int} (h0 : -9223372036854775808 ≤ n) (h1 : n ≤ 9223372036854775807) : (Lit.int .i64 n).wf = true := by
  simp [Lit.wf, IntKind.min, IntKind.max, IntKind.bits, IntKind.signed]
  omega
def keyM (x : S56) : (Int × Int) := (x.f0, x.f1)
def keyA (x : S42) : (Int × Int × Int) := (x.f0, x.f1, x.f3)
def mlt (a b : S56) : Prop := a.f1 < b.f1 ∨ a.f1 = b.f1 ∧ a.f0 < b.f0
instance (a b : S56) : Decidable (mlt a b) := by unfold mlt; exact inferInstance
def msum (l : List S56) (k : Int × Int) : Int := sumK keyM S56.f2 l k
def fits (n : Int) : Prop := -9223372036854775808 ≤ n ∧ n ≤ 9223372036854775807
instance (n : Int) : Decidable (fits n) := by unfold fits; exact inferInstance
def AllFit (l : List S56) : Prop := ∀ k ∈ keysOf keyM l, fits (msum l k)
instance (l : List S56) : Decidable (AllFit l) := by unfold AllFit; exact inferInstance
end Go.Proofs.Ytlcbpaenjjeenaa.P
end
section
namespace Go.Proofs.Ytlcbpaenjjeenaa.P
open Go.RowKit Go.Proofs.Ytlcbpaenjjeenaa.Q Go.Proofs.YtlcbpaenjjeenaaW.PrintWords Go.Proofs.YtlcbpaenjjeenaaW.PrintLast Go.Proofs.YtlcbpaenjjeenaaW.PrintMore
theorem ev_cst {α : Type} {g : Nat → Option α} {r : α} (h : ∀ k, g (k + 1) = some r) : Ev g r := Ev.step h (Ev.now r)
theorem wrap1 {i : Nat} (h : i ≤ 4611686018427387904) : wrap64 ((i : Int) + 1) = ((i + 1 : Nat) : Int) := by unfold wrap64; omega
end Go.Proofs.Ytlcbpaenjjeenaa.P
end
