/- A part of the proof: words, contracts, plain lemmas. Conditions: none. -/
import Derived.Test.YtlcbpaenjjeenaaZTableBusy3
import Derived.Test.YtlcbpaenjjeenaaZTableBusy10
import Derived.Test.YtlcbpaenjjeenaaZTableBusy8
import Derived.Test.YtlcbpaenjjeenaaZTableBusy9
import Derived.ChangeKeysEq
section
namespace Go.Proofs.Ytlcbpaenjjeenaa.Q
open Go.RowKit Go.Proofs.YtlcbpaenjjeenaaW.PrintWords Go.Proofs.YtlcbpaenjjeenaaW.PrintLast Go.Proofs.YtlcbpaenjjeenaaW.PrintMore
attribute [local go_sem high] eqA24
set_option linter.unusedVariables false
set_option linter.unusedSimpArgs false
def table_Find_1.T1 : Bool × List (List Nat × List Nat) := (true, [([], []), ([0], [0]), ([], []), ([1, 2], [1, 2]), ([3, 1, 0, 1, 2, 3], [3])])
def table_Find_1.B1 : List Nat := [0, 1, 0, 7, 15]
theorem table_Find_1.tab1 : rtab .any (opsOf Try.f35 1) = table_Find_1.T1 := by kernel_rfl
theorem table_Find_1.bits1 : waitsOk table_Find_1.T1.2 table_Find_1.B1 = true := by kernel_rfl
def isKey (x : S42) (k0 k1 k2 : Int) : Bool := x.f0 == k0 && (x.f1 == k1 && (x.f3 == k2))
set_option maxHeartbeats 8000000 in
set_option maxRecDepth 100000 in
theorem table_Find_1.calls (a0 a1 a2 a3 k0 k1 k2 : Int) (gk : Nat) (w : World) (hk : w.heap[gk]? = some (.cells #[.int .i64 k0, .int .i64 k1, .int .i64 k2] 24 (0, 0))) :
    Calls Try.prog 35 #[.agg #[.int .i64 a0, .int .i64 a1, .int .i64 a2, .int .i64 a3], .pointer (some ⟨gk, 0, none⟩)] w fun e w' => e = .returned (.bool (a0 == k0 && (a1 == k1 && (a3 == k2)))) ∧ Below w.heap.size w w' := by
  have hu42 := Try.underlying42
  have hu24 := Try.underlying24
  have HB := Aside0.mk (Below.refl w.heap.size w)
  have BKk := Aside0.mk hk
  clear hk
  have A1 : table_key.f a0 a1 a2 a3 = some (a0, a1, a3) := rfl
  go_enter Try.func35, Try.ntmps35
  go_wp2_with (first | ((with_reducible refine gate_dst (N := 2) rfl ?_); refine box_event ?hg (N := 2) ?hd (cs := #[.int .i64 a0, .int .i64 a1, .int .i64 a2, .int .i64 a3]) (t := 42) ?hr ?_; (case hd => rfl); (case hg => rfl); (case hr => first | (go_simp; done) | (go_simp; rfl)); intro gb hg w2 hbox hb; have n0_ := Aside0.mk (below_step HB.out hb); have n1_ := Aside0.mk hbox; have n2_ := Aside0.mk (blk_below BKk.out hb); clear HB BKk; have HB := n0_; have BKb := n1_; have BKk := n2_; clear n0_ n1_ n2_; clear hb hbox hg))
  have n0_ := Aside0.mk (blk_drew BKb.out)
  have n1_ := Aside0.mk (blk_drew BKk.out)
  have n2_ := Aside0.mk (below_drew1 HB.out)
  clear BKb BKk HB
  have BKb := n0_
  have BKk := n1_
  have HB := n2_
  clear n0_ n1_ n2_
  refine start_ (n := 5) (S := fun w' => w'.heap[gb]? = some (.cells #[.int .i64 a0, .int .i64 a1, .int .i64 a2, .int .i64 a3] 42 (0, 0)) ∧ w'.heap[gk]? = some (.cells #[.int .i64 k0, .int .i64 k1, .int .i64 k2] 24 (0, 0))) (ds := []) #[Ff,Ff,Ff,Ff,Ff] (by kernel_rfl) rfl rfl ⟨BKb.out, BKk.out⟩ (fun hHeld => ?_)
  refine with_tabW table_Find_1.tab1 table_Find_1.bits1 (fun HT_ HW_ => ?_)
  generalize w2.drew = w3 at BKb BKk HB hHeld ⊢
  refine take_ (i := 0) (N := some 4) (v := ?_) (a' := ?_) #[Tt,Ff,Ff,Ff,Ff] rfl rfl (take_ofW HT_.out HW_.out (by kernel_rfl)) (fun _ _ _ h => h) (Or.inl ⟨by rfl, ?_⟩) hHeld ?_ ?_
  rotate_left
  · rintro w' ⟨s0, s1⟩
    have z0 : w'.cell? ⟨gb, 0, none⟩ = some (.int .i64 a0) := (blk_cell s0 0).trans rfl
    have z1 : w'.cell? ⟨gb, 1, none⟩ = some (.int .i64 a1) := (blk_cell s0 1).trans rfl
    have z2 : w'.cell? ⟨gb, 2, none⟩ = some (.int .i64 a2) := (blk_cell s0 2).trans rfl
    have z3 : w'.cell? ⟨gb, 3, none⟩ = some (.int .i64 a3) := (blk_cell s0 3).trans rfl
    have y0 := blk_frozen s0 0
    have y1 := blk_frozen s0 1
    have y2 := blk_frozen s0 2
    have y3 := blk_frozen s0 3
    go_simp
    with_reducible rfl
  rotate_left
  exact ap_
  refine take_ (i := 2) (N := some 6) (v := ?_) (a' := ?_) #[Tt,Ff,Tt,Ff,Ff] rfl rfl (take_ofW HT_.out HW_.out (by kernel_rfl)) (fun _ _ _ h => h) (Or.inl ⟨by rfl, ?_⟩) hHeld ?_ ?_
  rotate_left
  · rintro w' ⟨s0, s1⟩
    have z0 : w'.cell? ⟨gk, 0, none⟩ = some (.int .i64 k0) := (blk_cell s1 0).trans rfl
    have z1 : w'.cell? ⟨gk, 1, none⟩ = some (.int .i64 k1) := (blk_cell s1 1).trans rfl
    have z2 : w'.cell? ⟨gk, 2, none⟩ = some (.int .i64 k2) := (blk_cell s1 2).trans rfl
    have y0 := blk_frozen s1 0
    have y1 := blk_frozen s1 1
    have y2 := blk_frozen s1 2
    go_simp
    with_reducible rfl
  rotate_left
  exact ap_
  refine one_ (i := 1) (N := some 5) #[Tt,Tt,Tt,Ff,Ff] rfl rfl (one_of HT_.out (by kernel_rfl)) (by decide) (fun K hK => ?_)
  refine goes_ Try.func36 (by kernel_rfl) rfl #[.agg #[.int .i64 a0, .int .i64 a1, .int .i64 a2, .int .i64 a3]] (by rfl) rfl rfl (by (try simp only [List.map_toArray, List.map_cons, List.map_nil]); first | done | rfl) ?_
  with_reducible refine (table_key.calls a0 a1 a2 a3 a0 a1 a3 _ A1).mono ?_
  rintro e w' ⟨rfl, hb⟩
  refine ⟨_, rfl, ?_⟩
  have n0_ := Aside0.mk (below_step HB.out hb)
  have n1_ := Aside0.mk (blk_below BKb.out hb)
  have n2_ := Aside0.mk (blk_below BKk.out hb)
  clear HB BKb BKk
  have HB := n0_
  have BKb := n1_
  have BKk := n2_
  clear n0_ n1_ n2_ hb
  refine hK.out _ _ ⟨BKb.out, BKk.out⟩ (fun hHeld => ?_)
  clear hK K
  refine norm_ (a' := ?_) ?_ ?_
  rotate_left
  · show Act.put _ (some 5) _ = _
    simp only [Act.put, List.setIfInBounds_toArray, List.set_cons_zero, List.set_cons_succ, i64_w, i32_w]
    rfl
  refine pv_ 3 7 #[Tt,Tt,Tt,Tt,Ff] ?_
  refine pv_ 4 3 #[Tt,Tt,Tt,Tt,Tt] ?_
  refine done_ (done_of HT_.out (by kernel_rfl)) ?_
  try go_wp2
  go_ret
  exact ⟨rfl, HB.out⟩
def findL (k0 k1 k2 : Int) : List S42 → Int → Int
  | [], _ => -1
  | x :: r, i => if isKey x k0 k1 k2 = true then i else findL k0 k1 k2 r (i + 1)
theorem findL_drop (k0 k1 k2 : Int) (l : List S42) {j : Nat} (hj : j < l.length) : findL k0 k1 k2 (l.drop j) (j : Int) = if isKey l[j] k0 k1 k2 = true then (j : Int) else findL k0 k1 k2 (l.drop (j + 1)) ((j + 1 : Nat) : Int) := by
  rw [List.drop_eq_getElem_cons hj, findL]
  rfl
set_option maxHeartbeats 8000000 in
set_option maxRecDepth 100000 in
theorem slices_IndexFunc.calls (A0 : Option Addr) (c0 : Nat) (l0 : List S42) (k0 k1 k2 : Int) (gq : Nat) (w : World) (hr0 : Kd.C k42 w A0 l0.length l0) (hc0 : l0.length ≤ c0) (hlen : l0.length ≤ 4611686018427387904) (hk : w.heap[gq]? = some (.cells #[.int .i64 k0, .int .i64 k1, .int .i64 k2] 24 (0, 0))) :
    Calls Try.prog 34 #[.slice A0 l0.length c0, .func (.func 35) #[] #[.pointer (some ⟨gq, 0, none⟩)]] w fun e w' => e = .returned (.int .i64 (findL k0 k1 k2 l0 0)) ∧ Below w.heap.size w w' := by
  have HR0 := Aside0.mk hr0
  have HC0 := Aside0.mk hc0
  have HL0 := Aside0.mk hlen
  have HB := Aside0.mk (Below.refl w.heap.size w)
  have BKk := Aside0.mk hk
  clear hr0 hc0 hlen hk
  go_enter Try.func34, Try.ntmps34
  go_wp2
  go_loopg [8] l0.length (fun kq v8 w' => ∃ j : Nat, v8 = .int .i64 (j : Int) ∧ Aside0 (j + kq = l0.length) ∧ Aside0 (findL k0 k1 k2 (l0.drop j) (j : Int) = findL k0 k1 k2 l0 0) ∧ Aside0 (Below w.heap.size w w'))
  case atStart => exact ⟨0, rfl, ⟨by omega⟩, ⟨rfl⟩, HB⟩
  case round =>
    obtain ⟨j, rfl, HJ, HF, HB⟩ := hrel
    cases gk with
    | zero =>
      have c1 : decide ((j : Int) < (l0.length : Int)) = false := decide_eq_false (by have := HJ.out; omega)
      have c2 : decide (j < l0.length) = false := decide_eq_false (by have := HJ.out; omega)
      have hF := HF.out
      rw [List.drop_eq_nil_of_le (by have := HJ.out; omega), findL] at hF
      go_wp2
      go_ret
      exact ⟨by rw [← hF]; rfl, HB.out⟩
    | succ gk =>
      have hlt : j < l0.length := by have := HJ.out; omega
      have c1 : decide ((j : Int) < (l0.length : Int)) = true := decide_eq_true (by omega)
      have c2 : decide (j < l0.length) = true := decide_eq_true hlt
      obtain ⟨ad1, e1, hx_0, hx_1, hx_2, hx_3⟩ := at_T42 HR0.out (j : Int) (by omega) (by omega)
      cases e1
      simp only [Int.toNat_natCast] at hx_0 hx_1 hx_2 hx_3
      replace hx_0 := (HB.out.cell (World.block_lt_of_cell? w _ hx_0)).trans hx_0
      replace hx_1 := (HB.out.cell (World.block_lt_of_cell? w _ hx_1)).trans hx_1
      replace hx_2 := (HB.out.cell (World.block_lt_of_cell? w _ hx_2)).trans hx_2
      replace hx_3 := (HB.out.cell (World.block_lt_of_cell? w _ hx_3)).trans hx_3
      have p1 := eq_true (show (0 : Int) ≤ (j : Int) by omega)
      have p2 := eq_true (show (j : Int) < (l0.length : Int) by omega)
      have hb1 := blk_below BKk.out HB.out
      have hr : rd_T42 l0 (j : Int) = l0[j] := by unfold rd_T42; simp [List.getD_eq_getElem?_getD, List.getElem?_eq_getElem hlt]
      have hfd := findL_drop k0 k1 k2 l0 hlt
      rw [HF.out] at hfd
      have HFD := Aside0.mk hfd
      clear hfd
      rw [hr] at hx_0 hx_1 hx_2 hx_3
      by_cases cK : (l0[j].f0 == k0 && (l0[j].f1 == k1 && (l0[j].f3 == k2))) = true
      · have hF := HFD.out
        rw [if_pos (show isKey l0[j] k0 k1 k2 = true from cK)] at hF
        go_wp2_with (go_at_call 35; refine (table_Find_1.calls l0[j].f0 l0[j].f1 l0[j].f2 l0[j].f3 k0 k1 k2 gq _ hb1).mono ?_; rintro e w2 ⟨rfl, hb⟩; rw [cK]; clear hx_0 hx_1 hx_2 hx_3)
        go_ret
        exact ⟨by rw [hF]; rfl, below_step HB.out hb⟩
      · have hF := HFD.out
        rw [if_neg (show ¬ isKey l0[j] k0 k1 k2 = true from cK)] at hF
        have cK2 : (l0[j].f0 == k0 && (l0[j].f1 == k1 && (l0[j].f3 == k2))) = false := by simpa using cK
        have HN := Aside0.mk hF.symm
        have LN := Aside0.mk HL0.out
        clear hF
        go_wp2_with (go_at_call 35; refine (table_Find_1.calls l0[j].f0 l0[j].f1 l0[j].f2 l0[j].f3 k0 k1 k2 gq _ hb1).mono ?_; rintro e w2 ⟨rfl, hb⟩; rw [cK2]; clear hx_0 hx_1 hx_2 hx_3)
        go_roundg gk
        case measure => omega
        case rel => exact ⟨j + 1, congrArg (Value.int .i64) (by have := HJ.out; have := LN.out; unfold wrap64; omega), ⟨by have := HJ.out; omega⟩, HN, ⟨below_step HB.out hb⟩⟩
set_option maxHeartbeats 8000000 in
set_option maxRecDepth 100000 in
def table_Find.f (l : List S42) (k0 k1 k2 : Int) : Option Int := if l.length ≤ 4611686018427387904 then some (findL k0 k1 k2 l 0) else none
set_option maxHeartbeats 8000000 in
set_option maxRecDepth 100000 in
theorem table_Find.calls (A0 : Option Addr) (c0 : Nat) (l0 : List S42) (a1_0 a1_1 a1_2 : Int) (r : Int) (w : World) (hr0 : Kd.C k42 w A0 l0.length l0) (hc0 : l0.length ≤ c0) (h : table_Find.f l0 a1_0 a1_1 a1_2 = some r) :
    Calls Try.prog 14 #[.slice A0 l0.length c0, .agg #[.int .i64 a1_0, .int .i64 a1_1, .int .i64 a1_2]] w fun e w' => e = .returned (.int .i64 r) ∧ Below w.heap.size w w' := by
  unfold table_Find.f at h
  split at h
  · rename_i hlen
    injection h with h
    subst h
    have HR0 := Aside0.mk hr0
    have HC0 := Aside0.mk hc0
    have HL0 := Aside0.mk hlen
    have HB := Aside0.mk (Below.refl w.heap.size w)
    clear hr0 hc0 hlen
    go_enter Try.func14, Try.ntmps14
    go_wp2_with (first | ((with_reducible refine gate_dst (N := 3) rfl ?_); refine box_event ?hg (N := 3) ?hd (cs := #[.int .i64 a1_0, .int .i64 a1_1, .int .i64 a1_2]) (t := 24) ?hr ?_; (case hd => rfl); (case hg => rfl); (case hr => first | (go_simp; done) | (go_simp; rfl)); intro gb hg w2 hbox hb; subst hg) | (go_at_call 34; refine (slices_IndexFunc.calls _ _ l0 a1_0 a1_1 a1_2 w.heap.size _ (Kd.C_below HR0.out hb) HC0.out HL0.out hbox).mono ?_; rintro e w3 ⟨rfl, hb3⟩))
    go_ret
    exact ⟨rfl, below_step (below_step HB.out hb) hb3⟩
  · cases h
end Go.Proofs.Ytlcbpaenjjeenaa.Q
end
section
namespace Go.Proofs.Ytlcbpaenjjeenaa.Q
open Go.RowKit Go.Maps Go.Proofs.YtlcbpaenjjeenaaW.PrintWords Go.Proofs.YtlcbpaenjjeenaaW.PrintLast Go.Proofs.YtlcbpaenjjeenaaW.PrintMore
set_option linter.unusedVariables false
set_option linter.unusedSimpArgs false
def awL : List S42 := [⟨1, 2, 5, 1⟩, ⟨0, 1, 3, 2⟩, ⟨1, 2, 4, 1⟩]
def awM : List S42 := [⟨0, 1, 3, 2⟩, ⟨1, 2, 9, 1⟩]
instance decS42 : DecidableEq S42 := fun a b =>
  if h : a.f0 = b.f0 ∧ a.f1 = b.f1 ∧ a.f2 = b.f2 ∧ a.f3 = b.f3 then .isTrue (by cases a; cases b; simp_all) else .isFalse (fun e => h (by rw [e]; exact ⟨rfl, rfl, rfl, rfl⟩))
theorem aw_merge : table_Merge.f 40 awL = some (awM, 0) := by decide +kernel
theorem aw_same : ebbtideref03_SameArcs.f 40 awM awM = some true := by decide +kernel
theorem aw_busy : table_Busy.f awL = some (1, 2, 2) := by decide +kernel
theorem aw_find : table_Find.f awL 3 0 0 = some (-1) := by decide +kernel
def ebbtidelaw03_awake.f (_ : Nat) : Option Bool := some true
theorem eqA37 (d : Nat) (w : World) (x0 y0 : Int) (x1 y1 : Int) :
    (Op.equalIn (d + 2) 37 (.agg #[.int .i64 x0, .int .i64 x1]) (.agg #[.int .i64 y0, .int .i64 y1])).run Try.prog w = .ok (x0 == y0 && (x1 == y1)) w := by
  obtain ⟨i, hi⟩ : ∃ i, Try.prog.info? 3 = some i := by
    have h := info3
    cases hI : Try.prog.info? 3 with
    | none => rw [hI] at h; cases h
    | some i => exact ⟨i, rfl⟩
  rw [show d + 2 = (d + 1) + 1 from rfl, Go.run_equalIn_array w (d + 1) _ _ Try.underlying37 hi, cells3]
  have p0 : (part 3 #[.int .i64 x0, .int .i64 x1] (0 * 1)).run Try.prog w = .ok (.int .i64 x0) w := by go_simp
  have p1 : (part 3 #[.int .i64 x0, .int .i64 x1] (1 * 1)).run Try.prog w = .ok (.int .i64 x1) w := by go_simp
  have q0 : (part 3 #[.int .i64 y0, .int .i64 y1] (0 * 1)).run Try.prog w = .ok (.int .i64 y0) w := by go_simp
  have q1 : (part 3 #[.int .i64 y0, .int .i64 y1] (1 * 1)).run Try.prog w = .ok (.int .i64 y1) w := by go_simp
  have e0 : (Op.equalIn (d + 1) 3 (.int .i64 x0) (.int .i64 y0)).run Try.prog w = .ok (x0 == y0) w := by go_simp
  have e1 : (Op.equalIn (d + 1) 3 (.int .i64 x1) (.int .i64 y1)).run Try.prog w = .ok (x1 == y1) w := by go_simp
  show (Go.Op.eqItems (d + 1) 3 1 _ _ [0, 1]).run Try.prog w = _
  cases hx : (x0 == y0)
  · rw [hx] at e0
    simp only [Go.Op.eqItems, Sem.run_bind, p0, q0, e0, Result.andThen_ok, Bool.not_false, if_true, Sem.run_pure, Bool.false_and]
  · rw [hx] at e0
    simp only [Go.Op.eqItems, Sem.run_bind, p0, q0, e0, p1, q1, e1, Result.andThen_ok, Bool.not_true, Bool.false_eq_true, if_false, Bool.true_and]
    cases hy : (x1 == y1)
    · simp only [Bool.not_false, if_true, Sem.run_pure]
    · simp only [Bool.not_true, Bool.false_eq_true, if_false, Sem.run_pure]
attribute [local go_sem high] eqA37
set_option maxHeartbeats 8000000 in
set_option maxRecDepth 100000 in
theorem ebbtidelaw03_awake.calls (k : Nat) (r : Bool) (w : World) (h : ebbtidelaw03_awake.f k = some r) :
    Calls Try.prog 13 #[] w fun e w' => e = .returned (.bool r) ∧ Below w.heap.size w w' := by
  obtain rfl := Option.some.inj h
  clear h
  have hu42 := Try.underlying42
  have hu37 := Try.underlying37
  have HB := Aside0.mk (Below.refl w.heap.size w)
  obtain ⟨yl, hyl⟩ : ∃ y_ : List S42, y_ = awL := ⟨_, rfl⟩
  obtain ⟨ym, hym⟩ : ∃ y_ : List S42, y_ = awM := ⟨_, rfl⟩
  have A1 := Aside0.mk (show table_Merge.f 40 yl = some (ym, 0) by rw [hyl, hym]; exact aw_merge)
  have A2 := Aside0.mk (show ebbtideref03_SameArcs.f 40 ym ym = some true by rw [hym]; exact aw_same)
  have A3 := Aside0.mk (show table_Busy.f yl = some (1, 2, 2) by rw [hyl]; exact aw_busy)
  have A4 := Aside0.mk (show table_Find.f yl 3 0 0 = some (-1) by rw [hyl]; exact aw_find)
  unfold awL at hyl
  unfold awM at hym
  have NyL := Aside0.mk hyl
  have NyM := Aside0.mk hym
  clear hyl hym
  go_enter Try.func13, Try.ntmps13
  go_wp2_with (first
    | ((with_reducible refine gate_dst (N := 9) rfl ?_); refine Kd.R_lit k42 _ 42 ?hg (N := 9) ?hd (xs := ([(⟨1, 2, 5, 1⟩ : S42), (⟨0, 1, 3, 2⟩ : S42), (⟨1, 2, 4, 1⟩ : S42)] : List S42)) (inner := [.int .i64 1, .int .i64 2, .int .i64 5, .int .i64 1, .int .i64 0, .int .i64 1, .int .i64 3, .int .i64 2, .int .i64 1, .int .i64 2, .int .i64 4, .int .i64 1]) (ok := fun _ => True) (okp := fun _ => True) ?hr ?hp (fun _ hk => hk) trivial (Below.refl _ _) (Nat.le_refl _) (by simp) ?_; (case hd => rfl); (case hg => rfl); (case hr => first | (go_simp; done) | (go_simp; rfl)); (case hp => exact (Reps.c4 (k42_mkM _ _ _ (⟨1, 2, 5, 1⟩ : S42)) (Reps.c4 (k42_mkM _ _ _ (⟨0, 1, 3, 2⟩ : S42)) (Reps.c4 (k42_mkM _ _ _ (⟨1, 2, 4, 1⟩ : S42)) (Reps.none _ _))))); intro v9 w9 ho hb hg_ hnew_; clear hg_ hnew_; (first | rw [← NyL.out] at ho | (simp only [Int.reduceToNat] at ho; rw [← NyL.out] at ho)); have n0_ := Aside0.mk ho; have n1_ := Aside0.mk (below_step HB.out hb); clear HB hb ho; have HO := n0_; have HB := n1_; clear n0_ n1_; obtain ⟨Ao, co, eo⟩ := Kd.R_slice HO.out; subst eo)
    | (go_at_call 19; refine (table_Merge.calls 40 _ _ yl ym 0 _ (Kd.R_reads' HO.out).2.2 (Kd.R_reads' HO.out).2.1 A1.out).mono ?_; rintro e w12 ⟨v12, rfl, ho, hb⟩; have n0_ := Aside0.mk (Kd.R_below HO.out hb); have n1_ := Aside0.mk (below_step HB.out hb); have n2_ := Aside0.mk ho; clear HO HB hb ho; have HO := n0_; have HB := n1_; have HM := n2_; clear n0_ n1_ n2_; obtain ⟨Am, cm, em⟩ := Kd.R_slice HM.out; subst em)
    | (go_at_call 22; refine (table_Busy.calls _ _ yl 1 2 2 _ (Kd.R_reads' HO.out).2.2 (Kd.R_reads' HO.out).2.1 A3.out).mono ?_; rintro e w17 ⟨rfl, hb⟩; have n0_ := Aside0.mk (Kd.R_below HO.out hb); have n1_ := Aside0.mk (below_step HB.out hb); have n2_ := Aside0.mk (Kd.R_below HM.out hb); clear HO HB HM hb; have HO := n0_; have HB := n1_; have HM := n2_; clear n0_ n1_ n2_)
    | ((with_reducible refine gate_dst (N := 26) rfl ?_); (try (refine gate_guard (by rfl) ?_; dsimp only)); refine Kd.R_lit k42 _ 42 ?hg (N := 26) ?hd (xs := ([(⟨0, 1, 3, 2⟩ : S42), (⟨1, 2, 9, 1⟩ : S42)] : List S42)) (inner := [.int .i64 0, .int .i64 1, .int .i64 3, .int .i64 2, .int .i64 1, .int .i64 2, .int .i64 9, .int .i64 1]) (ok := fun _ => True) (okp := fun _ => True) ?hr ?hp (fun _ hk => hk) trivial (Below.refl _ _) (Nat.le_refl _) (by simp) ?_; (case hd => rfl); (case hg => rfl); (case hr => first | (go_simp; done) | (go_simp; rfl)); (case hp => exact (Reps.c4 (k42_mkM _ _ _ (⟨0, 1, 3, 2⟩ : S42)) (Reps.c4 (k42_mkM _ _ _ (⟨1, 2, 9, 1⟩ : S42)) (Reps.none _ _)))); intro v26 w26 ho hb hg_ hnew_; clear hg_ hnew_; (first | rw [← NyM.out] at ho | (simp only [Int.reduceToNat] at ho; rw [← NyM.out] at ho)); have n0_ := Aside0.mk (Kd.R_below (by apply Kd.R_alloc; exact HO.out) hb); have n1_ := Aside0.mk (below_step (below_alloc HB.out _) hb); have n2_ := Aside0.mk (Kd.R_below (by apply Kd.R_alloc; exact HM.out) hb); have n3_ := Aside0.mk ho; have n4_ := Aside0.mk (blk_below (blk_new _ _) hb); clear HO HB HM hb ho; have HO := n0_; have HB := n1_; have HM := n2_; have HX := n3_; have BKp := n4_; clear n0_ n1_ n2_ n3_ n4_; obtain ⟨Ax, cx, ex⟩ := Kd.R_slice HX.out; subst ex)
    | (go_at_call 21; refine (ebbtideref03_SameArcs.calls 40 _ _ ym _ _ ym true _ (Kd.R_reads' HM.out).2.2 (Kd.R_reads' HM.out).2.1 (Kd.R_reads' HX.out).2.2 (Kd.R_reads' HX.out).2.1 A2.out).mono ?_; rintro e w28 ⟨rfl, ⟨nd, rfl⟩⟩; have n0_ := Aside0.mk (show Kd.R k42 42 (w26.drewN nd) w.heap.size (fun _ => True) (.slice Ao yl.length co) yl from by apply Kd.R_drewN; exact HO.out); have n1_ := Aside0.mk (pw_below_drewN HB.out nd); have n4_ := Aside0.mk (blk_drewN BKp.out nd); clear HO HB HM HX BKp; have HO := n0_; have HB := n1_; have BKp := n4_; clear n0_ n1_ n4_; generalize w26.drewN nd = w28 at *; have z0 := (blk_cell BKp.out 0).trans (rfl : _ = some (Value.int .i64 1)); have z1 := (blk_cell BKp.out 1).trans (rfl : _ = some (Value.int .i64 2)); have y0 := blk_frozen BKp.out 0; have y1 := blk_frozen BKp.out 1)
    | (go_at_call 14; refine (table_Find.calls _ _ yl 3 0 0 (-1) _ (Kd.R_reads' HO.out).2.2 (Kd.R_reads' HO.out).2.1 A4.out).mono ?_; rintro e w41 ⟨rfl, hb⟩; have n1_ := Aside0.mk (below_step HB.out hb); clear HB hb; have HB := n1_; clear n1_))
  go_ret
  exact ⟨rfl, HB.out⟩
end Go.Proofs.Ytlcbpaenjjeenaa.Q
end
