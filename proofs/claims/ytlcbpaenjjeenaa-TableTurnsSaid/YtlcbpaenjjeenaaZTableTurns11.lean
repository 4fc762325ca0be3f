/- A part of the proof: words, contracts, plain lemmas. Conditions: none. -/
import Derived.Test.YtlcbpaenjjeenaaZTableTurns3
import Derived.Test.YtlcbpaenjjeenaaZTableTurns10
import Derived.Test.YtlcbpaenjjeenaaZTableTurns8
import Derived.Test.YtlcbpaenjjeenaaZTableTurns9
import Derived.ChangeKeysEq
import Derived.Test.YtlcbpaenjjeenaaZTableTurns7
import Derived.Shelf.SlicesE.Clone
import Derived.Test.YtlcbpaenjjeenaaZTableTurns5
import Derived.Test.YtlcbpaenjjeenaaZTableTurns6
section
namespace Go.Proofs.Ytlcbpaenjjeenaa.Q
open Go.RowKit Go.Proofs.YtlcbpaenjjeenaaW.PrintWords Go.Proofs.YtlcbpaenjjeenaaW.PrintLast Go.Proofs.YtlcbpaenjjeenaaW.PrintMore
attribute [local go_sem high] eqA24
set_option linter.unusedVariables false
set_option linter.unusedSimpArgs false
def table_Find_1.T1 : Bool × List (List Nat × List Nat) := (true, [([], []), ([0], [0]), ([], []), ([1, 2], [1, 2]), ([3, 1, 0, 1, 2, 3], [3])])
def table_Find_1.B1 : List Nat := [0, 1, 0, 7, 15]
theorem table_Find_1.tab1 : rtab .any (opsOf Try.f35 1) = table_Find_1.T1 := by kernel_rfl
theorem table_Find_1.bits1 : waitsOk table_Find_1.T1.2 table_Find_1.B1 = true := by kernel_rfl
def isKey (x : S42) (k0 k1 k2 : Int) : Bool := x.f0 == k0 && (x.f1 == k1 && (x.f3 == k2))
set_option maxHeartbeats 8000000 in
set_option maxRecDepth 100000 in
theorem table_Find_1.calls (a0 a1 a2 a3 k0 k1 k2 : Int) (gk : Nat) (w : World) (hk : w.heap[gk]? = some (.cells #[.int .i64 k0, .int .i64 k1, .int .i64 k2] 24 (0, 0))) :
    Calls Try.prog 35 #[.agg #[.int .i64 a0, .int .i64 a1, .int .i64 a2, .int .i64 a3], .pointer (some ⟨gk, 0, none⟩)] w fun e w' => e = .returned (.bool (a0 == k0 && (a1 == k1 && (a3 == k2)))) ∧ Below w.heap.size w w' := by
  have hu42 := Try.underlying42
  have hu24 := Try.underlying24
  have HB := Aside0.mk (Below.refl w.heap.size w)
  have BKk := Aside0.mk hk
  clear hk
  have A1 : table_key.f a0 a1 a2 a3 = some (a0, a1, a3) := rfl
  go_enter Try.func35, Try.ntmps35
  go_wp2_with (first | ((with_reducible refine gate_dst (N := 2) rfl ?_); refine box_event ?hg (N := 2) ?hd (cs := #[.int .i64 a0, .int .i64 a1, .int .i64 a2, .int .i64 a3]) (t := 42) ?hr ?_; (case hd => rfl); (case hg => rfl); (case hr => first | (go_simp; done) | (go_simp; rfl)); intro gb hg w2 hbox hb; have n0_ := Aside0.mk (below_step HB.out hb); have n1_ := Aside0.mk hbox; have n2_ := Aside0.mk (blk_below BKk.out hb); clear HB BKk; have HB := n0_; have BKb := n1_; have BKk := n2_; clear n0_ n1_ n2_; clear hb hbox hg))
  have n0_ := Aside0.mk (blk_drew BKb.out)
  have n1_ := Aside0.mk (blk_drew BKk.out)
  have n2_ := Aside0.mk (below_drew1 HB.out)
  clear BKb BKk HB
  have BKb := n0_
  have BKk := n1_
  have HB := n2_
  clear n0_ n1_ n2_
  refine start_ (n := 5) (S := fun w' => w'.heap[gb]? = some (.cells #[.int .i64 a0, .int .i64 a1, .int .i64 a2, .int .i64 a3] 42 (0, 0)) ∧ w'.heap[gk]? = some (.cells #[.int .i64 k0, .int .i64 k1, .int .i64 k2] 24 (0, 0))) (ds := []) #[Ff,Ff,Ff,Ff,Ff] (by kernel_rfl) rfl rfl ⟨BKb.out, BKk.out⟩ (fun hHeld => ?_)
  refine with_tabW table_Find_1.tab1 table_Find_1.bits1 (fun HT_ HW_ => ?_)
  generalize w2.drew = w3 at BKb BKk HB hHeld ⊢
  refine take_ (i := 0) (N := some 4) (v := ?_) (a' := ?_) #[Tt,Ff,Ff,Ff,Ff] rfl rfl (take_ofW HT_.out HW_.out (by kernel_rfl)) (fun _ _ _ h => h) (Or.inl ⟨by rfl, ?_⟩) hHeld ?_ ?_
  rotate_left
  · rintro w' ⟨s0, s1⟩
    have z0 : w'.cell? ⟨gb, 0, none⟩ = some (.int .i64 a0) := (blk_cell s0 0).trans rfl
    have z1 : w'.cell? ⟨gb, 1, none⟩ = some (.int .i64 a1) := (blk_cell s0 1).trans rfl
    have z2 : w'.cell? ⟨gb, 2, none⟩ = some (.int .i64 a2) := (blk_cell s0 2).trans rfl
    have z3 : w'.cell? ⟨gb, 3, none⟩ = some (.int .i64 a3) := (blk_cell s0 3).trans rfl
    have y0 := blk_frozen s0 0
    have y1 := blk_frozen s0 1
    have y2 := blk_frozen s0 2
    have y3 := blk_frozen s0 3
    go_simp
    with_reducible rfl
  rotate_left
  exact ap_
  refine take_ (i := 2) (N := some 6) (v := ?_) (a' := ?_) #[Tt,Ff,Tt,Ff,Ff] rfl rfl (take_ofW HT_.out HW_.out (by kernel_rfl)) (fun _ _ _ h => h) (Or.inl ⟨by rfl, ?_⟩) hHeld ?_ ?_
  rotate_left
  · rintro w' ⟨s0, s1⟩
    have z0 : w'.cell? ⟨gk, 0, none⟩ = some (.int .i64 k0) := (blk_cell s1 0).trans rfl
    have z1 : w'.cell? ⟨gk, 1, none⟩ = some (.int .i64 k1) := (blk_cell s1 1).trans rfl
    have z2 : w'.cell? ⟨gk, 2, none⟩ = some (.int .i64 k2) := (blk_cell s1 2).trans rfl
    have y0 := blk_frozen s1 0
    have y1 := blk_frozen s1 1
    have y2 := blk_frozen s1 2
    go_simp
    with_reducible rfl
  rotate_left
  exact ap_
  refine one_ (i := 1) (N := some 5) #[Tt,Tt,Tt,Ff,Ff] rfl rfl (one_of HT_.out (by kernel_rfl)) (by decide) (fun K hK => ?_)
  refine goes_ Try.func36 (by kernel_rfl) rfl #[.agg #[.int .i64 a0, .int .i64 a1, .int .i64 a2, .int .i64 a3]] (by rfl) rfl rfl (by (try simp only [List.map_toArray, List.map_cons, List.map_nil]); first | done | rfl) ?_
  with_reducible refine (table_key.calls a0 a1 a2 a3 a0 a1 a3 _ A1).mono ?_
  rintro e w' ⟨rfl, hb⟩
  refine ⟨_, rfl, ?_⟩
  have n0_ := Aside0.mk (below_step HB.out hb)
  have n1_ := Aside0.mk (blk_below BKb.out hb)
  have n2_ := Aside0.mk (blk_below BKk.out hb)
  clear HB BKb BKk
  have HB := n0_
  have BKb := n1_
  have BKk := n2_
  clear n0_ n1_ n2_ hb
  refine hK.out _ _ ⟨BKb.out, BKk.out⟩ (fun hHeld => ?_)
  clear hK K
  refine norm_ (a' := ?_) ?_ ?_
  rotate_left
  · show Act.put _ (some 5) _ = _
    simp only [Act.put, List.setIfInBounds_toArray, List.set_cons_zero, List.set_cons_succ, i64_w, i32_w]
    rfl
  refine pv_ 3 7 #[Tt,Tt,Tt,Tt,Ff] ?_
  refine pv_ 4 3 #[Tt,Tt,Tt,Tt,Tt] ?_
  refine done_ (done_of HT_.out (by kernel_rfl)) ?_
  try go_wp2
  go_ret
  exact ⟨rfl, HB.out⟩
def findL (k0 k1 k2 : Int) : List S42 → Int → Int
  | [], _ => -1
  | x :: r, i => if isKey x k0 k1 k2 = true then i else findL k0 k1 k2 r (i + 1)
theorem findL_drop (k0 k1 k2 : Int) (l : List S42) {j : Nat} (hj : j < l.length) : findL k0 k1 k2 (l.drop j) (j : Int) = if isKey l[j] k0 k1 k2 = true then (j : Int) else findL k0 k1 k2 (l.drop (j + 1)) ((j + 1 : Nat) : Int) := by
  rw [List.drop_eq_getElem_cons hj, findL]
  rfl
set_option maxHeartbeats 8000000 in
set_option maxRecDepth 100000 in
theorem slices_IndexFunc.calls (A0 : Option Addr) (c0 : Nat) (l0 : List S42) (k0 k1 k2 : Int) (gq : Nat) (w : World) (hr0 : Kd.C k42 w A0 l0.length l0) (hc0 : l0.length ≤ c0) (hlen : l0.length ≤ 4611686018427387904) (hk : w.heap[gq]? = some (.cells #[.int .i64 k0, .int .i64 k1, .int .i64 k2] 24 (0, 0))) :
    Calls Try.prog 34 #[.slice A0 l0.length c0, .func (.func 35) #[] #[.pointer (some ⟨gq, 0, none⟩)]] w fun e w' => e = .returned (.int .i64 (findL k0 k1 k2 l0 0)) ∧ Below w.heap.size w w' := by
  have HR0 := Aside0.mk hr0
  have HC0 := Aside0.mk hc0
  have HL0 := Aside0.mk hlen
  have HB := Aside0.mk (Below.refl w.heap.size w)
  have BKk := Aside0.mk hk
  clear hr0 hc0 hlen hk
  go_enter Try.func34, Try.ntmps34
  go_wp2
  go_loopg [8] l0.length (fun kq v8 w' => ∃ j : Nat, v8 = .int .i64 (j : Int) ∧ Aside0 (j + kq = l0.length) ∧ Aside0 (findL k0 k1 k2 (l0.drop j) (j : Int) = findL k0 k1 k2 l0 0) ∧ Aside0 (Below w.heap.size w w'))
  case atStart => exact ⟨0, rfl, ⟨by omega⟩, ⟨rfl⟩, HB⟩
  case round =>
    obtain ⟨j, rfl, HJ, HF, HB⟩ := hrel
    cases gk with
    | zero =>
      have c1 : decide ((j : Int) < (l0.length : Int)) = false := decide_eq_false (by have := HJ.out; omega)
      have c2 : decide (j < l0.length) = false := decide_eq_false (by have := HJ.out; omega)
      have hF := HF.out
      rw [List.drop_eq_nil_of_le (by have := HJ.out; omega), findL] at hF
      go_wp2
      go_ret
      exact ⟨by rw [← hF]; rfl, HB.out⟩
    | succ gk =>
      have hlt : j < l0.length := by have := HJ.out; omega
      have c1 : decide ((j : Int) < (l0.length : Int)) = true := decide_eq_true (by omega)
      have c2 : decide (j < l0.length) = true := decide_eq_true hlt
      obtain ⟨ad1, e1, hx_0, hx_1, hx_2, hx_3⟩ := at_T42 HR0.out (j : Int) (by omega) (by omega)
      cases e1
      simp only [Int.toNat_natCast] at hx_0 hx_1 hx_2 hx_3
      replace hx_0 := (HB.out.cell (World.block_lt_of_cell? w _ hx_0)).trans hx_0
      replace hx_1 := (HB.out.cell (World.block_lt_of_cell? w _ hx_1)).trans hx_1
      replace hx_2 := (HB.out.cell (World.block_lt_of_cell? w _ hx_2)).trans hx_2
      replace hx_3 := (HB.out.cell (World.block_lt_of_cell? w _ hx_3)).trans hx_3
      have p1 := eq_true (show (0 : Int) ≤ (j : Int) by omega)
      have p2 := eq_true (show (j : Int) < (l0.length : Int) by omega)
      have hb1 := blk_below BKk.out HB.out
      have hr : rd_T42 l0 (j : Int) = l0[j] := by unfold rd_T42; simp [List.getD_eq_getElem?_getD, List.getElem?_eq_getElem hlt]
      have hfd := findL_drop k0 k1 k2 l0 hlt
      rw [HF.out] at hfd
      have HFD := Aside0.mk hfd
      clear hfd
      rw [hr] at hx_0 hx_1 hx_2 hx_3
      by_cases cK : (l0[j].f0 == k0 && (l0[j].f1 == k1 && (l0[j].f3 == k2))) = true
      · have hF := HFD.out
        rw [if_pos (show isKey l0[j] k0 k1 k2 = true from cK)] at hF
        go_wp2_with (go_at_call 35; refine (table_Find_1.calls l0[j].f0 l0[j].f1 l0[j].f2 l0[j].f3 k0 k1 k2 gq _ hb1).mono ?_; rintro e w2 ⟨rfl, hb⟩; rw [cK]; clear hx_0 hx_1 hx_2 hx_3)
        go_ret
        exact ⟨by rw [hF]; rfl, below_step HB.out hb⟩
      · have hF := HFD.out
        rw [if_neg (show ¬ isKey l0[j] k0 k1 k2 = true from cK)] at hF
        have cK2 : (l0[j].f0 == k0 && (l0[j].f1 == k1 && (l0[j].f3 == k2))) = false := by simpa using cK
        have HN := Aside0.mk hF.symm
        have LN := Aside0.mk HL0.out
        clear hF
        go_wp2_with (go_at_call 35; refine (table_Find_1.calls l0[j].f0 l0[j].f1 l0[j].f2 l0[j].f3 k0 k1 k2 gq _ hb1).mono ?_; rintro e w2 ⟨rfl, hb⟩; rw [cK2]; clear hx_0 hx_1 hx_2 hx_3)
        go_roundg gk
        case measure => omega
        case rel => exact ⟨j + 1, congrArg (Value.int .i64) (by have := HJ.out; have := LN.out; unfold wrap64; omega), ⟨by have := HJ.out; omega⟩, HN, ⟨below_step HB.out hb⟩⟩
set_option maxHeartbeats 8000000 in
set_option maxRecDepth 100000 in
def table_Find.f (l : List S42) (k0 k1 k2 : Int) : Option Int := if l.length ≤ 4611686018427387904 then some (findL k0 k1 k2 l 0) else none
set_option maxHeartbeats 8000000 in
set_option maxRecDepth 100000 in
theorem table_Find.calls (A0 : Option Addr) (c0 : Nat) (l0 : List S42) (a1_0 a1_1 a1_2 : Int) (r : Int) (w : World) (hr0 : Kd.C k42 w A0 l0.length l0) (hc0 : l0.length ≤ c0) (h : table_Find.f l0 a1_0 a1_1 a1_2 = some r) :
    Calls Try.prog 14 #[.slice A0 l0.length c0, .agg #[.int .i64 a1_0, .int .i64 a1_1, .int .i64 a1_2]] w fun e w' => e = .returned (.int .i64 r) ∧ Below w.heap.size w w' := by
  unfold table_Find.f at h
  split at h
  · rename_i hlen
    injection h with h
    subst h
    have HR0 := Aside0.mk hr0
    have HC0 := Aside0.mk hc0
    have HL0 := Aside0.mk hlen
    have HB := Aside0.mk (Below.refl w.heap.size w)
    clear hr0 hc0 hlen
    go_enter Try.func14, Try.ntmps14
    go_wp2_with (first | ((with_reducible refine gate_dst (N := 3) rfl ?_); refine box_event ?hg (N := 3) ?hd (cs := #[.int .i64 a1_0, .int .i64 a1_1, .int .i64 a1_2]) (t := 24) ?hr ?_; (case hd => rfl); (case hg => rfl); (case hr => first | (go_simp; done) | (go_simp; rfl)); intro gb hg w2 hbox hb; subst hg) | (go_at_call 34; refine (slices_IndexFunc.calls _ _ l0 a1_0 a1_1 a1_2 w.heap.size _ (Kd.C_below HR0.out hb) HC0.out HL0.out hbox).mono ?_; rintro e w3 ⟨rfl, hb3⟩))
    go_ret
    exact ⟨rfl, below_step (below_step HB.out hb) hb3⟩
  · cases h
end Go.Proofs.Ytlcbpaenjjeenaa.Q
end
section
namespace Go.Proofs.Ytlcbpaenjjeenaa.Q
open Go.RowKit Go.Maps Go.Proofs.YtlcbpaenjjeenaaW.PrintWords Go.Proofs.YtlcbpaenjjeenaaW.PrintLast Go.Proofs.YtlcbpaenjjeenaaW.PrintMore
set_option linter.unusedVariables false
set_option linter.unusedSimpArgs false
def awL : List S42 := [⟨1, 2, 5, 1⟩, ⟨0, 1, 3, 2⟩, ⟨1, 2, 4, 1⟩]
def awM : List S42 := [⟨0, 1, 3, 2⟩, ⟨1, 2, 9, 1⟩]
instance decS42 : DecidableEq S42 := fun a b =>
  if h : a.f0 = b.f0 ∧ a.f1 = b.f1 ∧ a.f2 = b.f2 ∧ a.f3 = b.f3 then .isTrue (by cases a; cases b; simp_all) else .isFalse (fun e => h (by rw [e]; exact ⟨rfl, rfl, rfl, rfl⟩))
theorem aw_merge : table_Merge.f 40 awL = some (awM, 0) := by decide +kernel
theorem aw_same : ebbtideref03_SameArcs.f 40 awM awM = some true := by decide +kernel
theorem aw_busy : table_Busy.f awL = some (1, 2, 2) := by decide +kernel
theorem aw_find : table_Find.f awL 3 0 0 = some (-1) := by decide +kernel
def ebbtidelaw03_awake.f (_ : Nat) : Option Bool := some true
theorem eqA37 (d : Nat) (w : World) (x0 y0 : Int) (x1 y1 : Int) :
    (Op.equalIn (d + 2) 37 (.agg #[.int .i64 x0, .int .i64 x1]) (.agg #[.int .i64 y0, .int .i64 y1])).run Try.prog w = .ok (x0 == y0 && (x1 == y1)) w := by
  obtain ⟨i, hi⟩ : ∃ i, Try.prog.info? 3 = some i := by
    have h := info3
    cases hI : Try.prog.info? 3 with
    | none => rw [hI] at h; cases h
    | some i => exact ⟨i, rfl⟩
  rw [show d + 2 = (d + 1) + 1 from rfl, Go.run_equalIn_array w (d + 1) _ _ Try.underlying37 hi, cells3]
  have p0 : (part 3 #[.int .i64 x0, .int .i64 x1] (0 * 1)).run Try.prog w = .ok (.int .i64 x0) w := by go_simp
  have p1 : (part 3 #[.int .i64 x0, .int .i64 x1] (1 * 1)).run Try.prog w = .ok (.int .i64 x1) w := by go_simp
  have q0 : (part 3 #[.int .i64 y0, .int .i64 y1] (0 * 1)).run Try.prog w = .ok (.int .i64 y0) w := by go_simp
  have q1 : (part 3 #[.int .i64 y0, .int .i64 y1] (1 * 1)).run Try.prog w = .ok (.int .i64 y1) w := by go_simp
  have e0 : (Op.equalIn (d + 1) 3 (.int .i64 x0) (.int .i64 y0)).run Try.prog w = .ok (x0 == y0) w := by go_simp
  have e1 : (Op.equalIn (d + 1) 3 (.int .i64 x1) (.int .i64 y1)).run Try.prog w = .ok (x1 == y1) w := by go_simp
  show (Go.Op.eqItems (d + 1) 3 1 _ _ [0, 1]).run Try.prog w = _
  cases hx : (x0 == y0)
  · rw [hx] at e0
    simp only [Go.Op.eqItems, Sem.run_bind, p0, q0, e0, Result.andThen_ok, Bool.not_false, if_true, Sem.run_pure, Bool.false_and]
  · rw [hx] at e0
    simp only [Go.Op.eqItems, Sem.run_bind, p0, q0, e0, p1, q1, e1, Result.andThen_ok, Bool.not_true, Bool.false_eq_true, if_false, Bool.true_and]
    cases hy : (x1 == y1)
    · simp only [Bool.not_false, if_true, Sem.run_pure]
    · simp only [Bool.not_true, Bool.false_eq_true, if_false, Sem.run_pure]
attribute [local go_sem high] eqA37
set_option maxHeartbeats 8000000 in
set_option maxRecDepth 100000 in
theorem ebbtidelaw03_awake.calls (k : Nat) (r : Bool) (w : World) (h : ebbtidelaw03_awake.f k = some r) :
    Calls Try.prog 13 #[] w fun e w' => e = .returned (.bool r) ∧ Below w.heap.size w w' := by
  obtain rfl := Option.some.inj h
  clear h
  have hu42 := Try.underlying42
  have hu37 := Try.underlying37
  have HB := Aside0.mk (Below.refl w.heap.size w)
  obtain ⟨yl, hyl⟩ : ∃ y_ : List S42, y_ = awL := ⟨_, rfl⟩
  obtain ⟨ym, hym⟩ : ∃ y_ : List S42, y_ = awM := ⟨_, rfl⟩
  have A1 := Aside0.mk (show table_Merge.f 40 yl = some (ym, 0) by rw [hyl, hym]; exact aw_merge)
  have A2 := Aside0.mk (show ebbtideref03_SameArcs.f 40 ym ym = some true by rw [hym]; exact aw_same)
  have A3 := Aside0.mk (show table_Busy.f yl = some (1, 2, 2) by rw [hyl]; exact aw_busy)
  have A4 := Aside0.mk (show table_Find.f yl 3 0 0 = some (-1) by rw [hyl]; exact aw_find)
  unfold awL at hyl
  unfold awM at hym
  have NyL := Aside0.mk hyl
  have NyM := Aside0.mk hym
  clear hyl hym
  go_enter Try.func13, Try.ntmps13
  go_wp2_with (first
    | ((with_reducible refine gate_dst (N := 9) rfl ?_); refine Kd.R_lit k42 _ 42 ?hg (N := 9) ?hd (xs := ([(⟨1, 2, 5, 1⟩ : S42), (⟨0, 1, 3, 2⟩ : S42), (⟨1, 2, 4, 1⟩ : S42)] : List S42)) (inner := [.int .i64 1, .int .i64 2, .int .i64 5, .int .i64 1, .int .i64 0, .int .i64 1, .int .i64 3, .int .i64 2, .int .i64 1, .int .i64 2, .int .i64 4, .int .i64 1]) (ok := fun _ => True) (okp := fun _ => True) ?hr ?hp (fun _ hk => hk) trivial (Below.refl _ _) (Nat.le_refl _) (by simp) ?_; (case hd => rfl); (case hg => rfl); (case hr => first | (go_simp; done) | (go_simp; rfl)); (case hp => exact (Reps.c4 (k42_mkM _ _ _ (⟨1, 2, 5, 1⟩ : S42)) (Reps.c4 (k42_mkM _ _ _ (⟨0, 1, 3, 2⟩ : S42)) (Reps.c4 (k42_mkM _ _ _ (⟨1, 2, 4, 1⟩ : S42)) (Reps.none _ _))))); intro v9 w9 ho hb hg_ hnew_; clear hg_ hnew_; (first | rw [← NyL.out] at ho | (simp only [Int.reduceToNat] at ho; rw [← NyL.out] at ho)); have n0_ := Aside0.mk ho; have n1_ := Aside0.mk (below_step HB.out hb); clear HB hb ho; have HO := n0_; have HB := n1_; clear n0_ n1_; obtain ⟨Ao, co, eo⟩ := Kd.R_slice HO.out; subst eo)
    | (go_at_call 19; refine (table_Merge.calls 40 _ _ yl ym 0 _ (Kd.R_reads' HO.out).2.2 (Kd.R_reads' HO.out).2.1 A1.out).mono ?_; rintro e w12 ⟨v12, rfl, ho, hb⟩; have n0_ := Aside0.mk (Kd.R_below HO.out hb); have n1_ := Aside0.mk (below_step HB.out hb); have n2_ := Aside0.mk ho; clear HO HB hb ho; have HO := n0_; have HB := n1_; have HM := n2_; clear n0_ n1_ n2_; obtain ⟨Am, cm, em⟩ := Kd.R_slice HM.out; subst em)
    | (go_at_call 22; refine (table_Busy.calls _ _ yl 1 2 2 _ (Kd.R_reads' HO.out).2.2 (Kd.R_reads' HO.out).2.1 A3.out).mono ?_; rintro e w17 ⟨rfl, hb⟩; have n0_ := Aside0.mk (Kd.R_below HO.out hb); have n1_ := Aside0.mk (below_step HB.out hb); have n2_ := Aside0.mk (Kd.R_below HM.out hb); clear HO HB HM hb; have HO := n0_; have HB := n1_; have HM := n2_; clear n0_ n1_ n2_)
    | ((with_reducible refine gate_dst (N := 26) rfl ?_); (try (refine gate_guard (by rfl) ?_; dsimp only)); refine Kd.R_lit k42 _ 42 ?hg (N := 26) ?hd (xs := ([(⟨0, 1, 3, 2⟩ : S42), (⟨1, 2, 9, 1⟩ : S42)] : List S42)) (inner := [.int .i64 0, .int .i64 1, .int .i64 3, .int .i64 2, .int .i64 1, .int .i64 2, .int .i64 9, .int .i64 1]) (ok := fun _ => True) (okp := fun _ => True) ?hr ?hp (fun _ hk => hk) trivial (Below.refl _ _) (Nat.le_refl _) (by simp) ?_; (case hd => rfl); (case hg => rfl); (case hr => first | (go_simp; done) | (go_simp; rfl)); (case hp => exact (Reps.c4 (k42_mkM _ _ _ (⟨0, 1, 3, 2⟩ : S42)) (Reps.c4 (k42_mkM _ _ _ (⟨1, 2, 9, 1⟩ : S42)) (Reps.none _ _)))); intro v26 w26 ho hb hg_ hnew_; clear hg_ hnew_; (first | rw [← NyM.out] at ho | (simp only [Int.reduceToNat] at ho; rw [← NyM.out] at ho)); have n0_ := Aside0.mk (Kd.R_below (by apply Kd.R_alloc; exact HO.out) hb); have n1_ := Aside0.mk (below_step (below_alloc HB.out _) hb); have n2_ := Aside0.mk (Kd.R_below (by apply Kd.R_alloc; exact HM.out) hb); have n3_ := Aside0.mk ho; have n4_ := Aside0.mk (blk_below (blk_new _ _) hb); clear HO HB HM hb ho; have HO := n0_; have HB := n1_; have HM := n2_; have HX := n3_; have BKp := n4_; clear n0_ n1_ n2_ n3_ n4_; obtain ⟨Ax, cx, ex⟩ := Kd.R_slice HX.out; subst ex)
    | (go_at_call 21; refine (ebbtideref03_SameArcs.calls 40 _ _ ym _ _ ym true _ (Kd.R_reads' HM.out).2.2 (Kd.R_reads' HM.out).2.1 (Kd.R_reads' HX.out).2.2 (Kd.R_reads' HX.out).2.1 A2.out).mono ?_; rintro e w28 ⟨rfl, ⟨nd, rfl⟩⟩; have n0_ := Aside0.mk (show Kd.R k42 42 (w26.drewN nd) w.heap.size (fun _ => True) (.slice Ao yl.length co) yl from by apply Kd.R_drewN; exact HO.out); have n1_ := Aside0.mk (pw_below_drewN HB.out nd); have n4_ := Aside0.mk (blk_drewN BKp.out nd); clear HO HB HM HX BKp; have HO := n0_; have HB := n1_; have BKp := n4_; clear n0_ n1_ n4_; generalize w26.drewN nd = w28 at *; have z0 := (blk_cell BKp.out 0).trans (rfl : _ = some (Value.int .i64 1)); have z1 := (blk_cell BKp.out 1).trans (rfl : _ = some (Value.int .i64 2)); have y0 := blk_frozen BKp.out 0; have y1 := blk_frozen BKp.out 1)
    | (go_at_call 14; refine (table_Find.calls _ _ yl 3 0 0 (-1) _ (Kd.R_reads' HO.out).2.2 (Kd.R_reads' HO.out).2.1 A4.out).mono ?_; rintro e w41 ⟨rfl, hb⟩; have n1_ := Aside0.mk (below_step HB.out hb); clear HB hb; have HB := n1_; clear n1_))
  go_ret
  exact ⟨rfl, HB.out⟩
end Go.Proofs.Ytlcbpaenjjeenaa.Q
end
section
namespace Go.Proofs.Ytlcbpaenjjeenaa.Q
open Go.RowKit Go.Sort Go.Lib Go.Proofs.YtlcbpaenjjeenaaW.PrintWords Go.Proofs.YtlcbpaenjjeenaaW.PrintLast Go.Proofs.YtlcbpaenjjeenaaW.PrintMore
set_option linter.unusedVariables false
set_option linter.unusedSimpArgs false
theorem arcs_flat {w : World} {ad : Addr} {l0 : List S42} (h : Kd.C k42 w (some ad) l0.length l0) : ∀ (j : Nat) (u : Value), (flatK encArc 4 l0.toArray).toList[j]? = some u → w.cell? (ad.add j) = some u := by
  intro t u hu
  rw [Array.getElem?_toList] at hu
  have ht : t < l0.length * 4 := by
    have := (Array.getElem?_eq_some_iff.1 hu).1
    simpa using this
  have hj : t / 4 < l0.length := by omega
  rw [flat_get (sz := 4) flatArc rfl l0 t ht] at hu
  obtain ⟨ad', e, hc⟩ := h.2.2 (by omega)
  injection e with e
  subst e
  obtain ⟨c, _, hK, hcell⟩ := hc (t / 4) _ (List.getElem?_eq_getElem hj)
  have hc2 : c = encArc l0[t / 4] := k42_open hK
  rw [List.getD_eq_getElem?_getD, List.getElem?_eq_getElem hj] at hu
  have h2 := hcell (t % 4) u (by rw [hc2]; exact hu)
  rw [show t / 4 * k42.sz + t % 4 = t from (by show t / 4 * 4 + t % 4 = t; omega)] at h2
  exact h2
set_option maxHeartbeats 8000000 in
set_option maxRecDepth 100000 in
theorem clone_calls (A0 : Option Addr) (c0 : Nat) (l0 : List S42) (w : World) (hr0 : Kd.C k42 w A0 l0.length l0) (hlen : l0.length ≤ 4398046511104) :
    Calls Try.prog 48 #[.slice A0 l0.length c0] w fun e w' => ∃ v', e = .returned v' ∧ Kd.R k42 42 w' w.heap.size (fun _ => True) v' l0 ∧ Below w.heap.size w w' := by
  have t22 := Try.underlying22
  have q22 : ∀ (w : World) (a : Option Addr) (n c n' c' : Nat), (binOp .eql 22 (.slice a n c) (.slice none n' c')).run Try.prog w = .ok (.bool a.isNone) w := fun w a n c n' c' => Lib.run_eql_slice_nil w _ _ a n c n' c' t22
  have u22 : ∀ w, Sem.run Try.prog (underlying 22) w = .ok (TypeDesc.slice 42) w := run_underlying t22
  cases A0 with
  | none =>
    have h0 : l0.length = 0 := by
      apply Classical.byContradiction
      intro h
      obtain ⟨ad, e, _⟩ := hr0.2.2 (by omega)
      cases e
    obtain rfl : l0 = [] := List.eq_nil_of_length_eq_zero h0
    go_enter Try.func48, Try.ntmps48
    go_wp2
    go_ret
    exact ⟨_, rfl, Kd.R_nil _ _ _ _ _, Below.refl _ _⟩
  | some ad =>
    have A := Aside0.mk (arcs_flat hr0)
    have HL := Aside0.mk hlen
    clear hr0 hlen
    obtain ⟨i0, hi0, hz⟩ := Option.map_eq_some_iff.1 info42
    simp only [Prod.mk.injEq] at hz
    have HI := Aside0.mk hi0
    have HZ := Aside0.mk hz
    clear hi0 hz
    go_enter Try.func48, Try.ntmps48
    go_wp2_with (at_builtin; refine wpList_append_own _ rfl _ _ 22 rfl w.heap.size 42 i0 _ 4 32 t22 HI.out HZ.out.1 HZ.out.2.1 HZ.out.2.2 rfl (by decide) _ _ _ rfl (World.ownsRow_made w #[] 0 (Nat.le_refl _) (Nat.zero_le _) (by simp)) ad l0.length c0 (flatK encArc 4 l0.toArray).toList rfl ?qc1 ?qc2 ?qc3 ?qc4 ?qc5 ?qc6 ?_)
    case qc1 => simp
    case qc2 =>
      intro j u hj
      exact Lib.cell?_alloc_some _ (A.out j u hj)
    case qc3 =>
      intro u hu
      obtain ⟨t, ht, e⟩ := List.mem_iff_getElem.1 hu
      have h2 : (flatK encArc 4 l0.toArray)[t]? = some u := by
        rw [← Array.getElem?_toList, List.getElem?_eq_getElem ht, e]
      rw [flat_get (sz := 4) flatArc rfl l0 t (by simpa using ht)] at h2
      exact flatArc.one _ _ (List.mem_of_getElem? h2)
    case qc4 => have := HL.out; unfold maxLen; omega
    case qc5 => have := HL.out; omega
    case qc6 => simp
    intro v' w1 hown hgrow hnil
    go_wp2
    go_ret
    refine ⟨v', rfl, ⟨fun _ _ => trivial, (flatK encArc 4 l0.toArray).toList, ?_, flat_reps flatArc l0⟩, ?_⟩
    · exact hown
    · exact ((Below.refl _ w).alloc (Nat.le_refl _) _).grown hgrow (by simp) (by intro k hk; simp [Value.ownBlock] at hk; omega)
theorem R_field {α : Type} [Inhabited α] {d : Kd α} {enc : α → List Value} {w : World} {base : Nat} {ok : Nat → Prop} {xs : List α} (F : FlatKd d enc) {e g n cap : Nat} (h : d.R e w base ok (.slice (some ⟨g, 0, none⟩) n cap) xs) (j i : Nat) (hj : j < xs.length) (hi : i < d.sz) (u : Value) (x' : α) (hx : enc x' = (enc xs[j]).set i u) :
    d.R e (w.setCell ⟨g, j * d.sz + i, none⟩ u) base ok (.slice (some ⟨g, 0, none⟩) n cap) (xs.set j x') := by
  obtain ⟨hn, _⟩ := holdsK_of F h
  obtain ⟨h0, inner, ho, hr⟩ := h
  subst hn
  obtain rfl := reps_flat F hr
  refine ⟨h0, (flatK enc d.sz (xs.set j x').toArray).toList, ⟨by simp, .inr ?_⟩, flat_reps F _⟩
  rcases ho.2 with ⟨h', _⟩ | ⟨g', cap', cur, h', hb, hg, hnc, hcm, hcs, htake⟩
  · cases h'
  · injection h' with h1 _ h3
    injection h1 with h1
    injection h1 with h1
    subst h1 h3
    have hsz := F.pos
    have hle : xs.length * d.sz ≤ cur.size := by rw [hcs]; exact Nat.mul_le_mul_right _ hnc
    have hjs : (j + 1) * d.sz ≤ xs.length * d.sz := Nat.mul_le_mul_right _ hj
    rw [Nat.add_mul, Nat.one_mul] at hjs
    refine ⟨g, cap, cur.setIfInBounds (j * d.sz + i) u, by rw [List.length_set], hb, blk_set hg _ _, by rw [List.length_set]; exact hnc, hcm, by rw [Array.size_setIfInBounds]; exact hcs, ?_⟩
    rw [List.length_set]
    apply List.ext_getElem?
    intro t
    rcases Nat.lt_or_ge t (xs.length * d.sz) with ht | ht
    · have hcur : cur[t]? = (enc (xs.getD (t / d.sz) default))[t % d.sz]? := by
        rw [← flat_get F rfl xs t ht, ← Array.getElem?_toList (xs := flatK enc d.sz xs.toArray), ← htake, List.getElem?_take, if_pos ht, Array.getElem?_toList]
      have htj : t / d.sz < xs.length := Nat.div_lt_of_lt_mul (by rwa [Nat.mul_comm] at ht)
      rw [List.getElem?_take, if_pos ht, Array.getElem?_toList, Array.getElem?_toList, flat_get F rfl (xs.set j x') t (by rw [List.length_set]; exact ht), Array.getElem?_setIfInBounds, List.getD_eq_getElem?_getD, List.getElem?_set]
      by_cases c : j = t / d.sz
      · rw [if_pos c, if_pos hj]
        show _ = (enc x')[t % d.sz]?
        rw [hx, List.getElem?_set]
        by_cases c2 : i = t % d.sz
        · have e : j * d.sz + i = t := by rw [c, c2, Nat.mul_comm]; exact Nat.div_add_mod t d.sz
          rw [if_pos e, if_pos c2, if_pos (by omega), if_pos (by rw [F.len]; exact hi)]
        · have e : ¬ (j * d.sz + i = t) := by
            intro e
            apply c2
            rw [← e, Nat.mul_comm, Nat.mul_add_mod, Nat.mod_eq_of_lt hi]
          rw [if_neg e, if_neg c2, hcur, List.getD_eq_getElem?_getD, ← c, List.getElem?_eq_getElem hj]
          rfl
      · have e : ¬ (j * d.sz + i = t) := by
          intro e
          apply c
          rw [← e, Nat.mul_comm, Nat.mul_add_div hsz, Nat.div_eq_of_lt hi, Nat.add_zero]
        rw [if_neg e, if_neg c, hcur, List.getD_eq_getElem?_getD]
    · rw [List.getElem?_eq_none (by rw [List.length_take]; omega), List.getElem?_eq_none (by rw [Array.length_toList, size_flatK]; simpa using ht)]
end Go.Proofs.Ytlcbpaenjjeenaa.Q
end
section
namespace Go.Proofs.Ytlcbpaenjjeenaa.Q
open Go.RowKit Go.Proofs.YtlcbpaenjjeenaaW.PrintWords Go.Proofs.YtlcbpaenjjeenaaW.PrintLast Go.Proofs.YtlcbpaenjjeenaaW.PrintMore
set_option linter.unusedVariables false
set_option linter.unusedSimpArgs false
def swapA (x : S42) : S42 := ⟨x.f1, x.f0, x.f2, x.f3⟩
def turned (l : List S42) (j : Nat) : List S42 := (l.take j).map swapA ++ l.drop j
theorem turned_length (l : List S42) (j : Nat) (hj : j ≤ l.length) : (turned l j).length = l.length := by
  unfold turned
  rw [List.length_append, List.length_map, List.length_take, List.length_drop]
  omega
theorem turned_at (l : List S42) (j : Nat) (hj : j < l.length) (h : j < (turned l j).length) : (turned l j)[j] = l[j] := by
  have e : (turned l j)[j]? = some l[j] := by
    unfold turned
    rw [List.getElem?_append_right (by rw [List.length_map, List.length_take]; omega), List.getElem?_drop, List.length_map, List.length_take, Nat.min_eq_left (by omega), Nat.sub_self, Nat.add_zero, List.getElem?_eq_getElem hj]
  rw [List.getElem?_eq_getElem h] at e
  exact Option.some.inj e
theorem turned_step (l : List S42) (j : Nat) (hj : j < l.length) : (turned l j).set j (swapA l[j]) = turned l (j + 1) := by
  unfold turned
  rw [List.set_append_right _ _ (by rw [List.length_map, List.length_take]; omega), List.length_map, List.length_take, Nat.min_eq_left (by omega), Nat.sub_self, List.drop_eq_getElem_cons hj, List.set_cons_zero, List.take_succ_eq_append_getElem hj, List.map_append, List.append_assoc]
  rfl
theorem turned_all (l : List S42) : turned l l.length = l.map swapA := by
  unfold turned
  rw [List.take_length, List.drop_length, List.append_nil]
theorem inRow {l : List S42} {t : Nat} (h : t < l.length * 4) : t < (Go.Sort.flatK encArc 4 l.toArray).size := by simpa using h
def table_Turn.f (l0 : List S42) : Option (List S42) := if l0.length ≤ 4398046511104 then some (l0.map swapA) else none
def table_Turn.T5 : Bool × List (List Nat × List Nat) := (true, [([], []), ([], []), ([], []), ([], []), ([], []), ([4], [4]), ([], []), ([6], [6]), ([0, 1, 0, 1, 4, 5], [0, 1]), ([8, 0, 1, 4, 5], [8]), ([9, 5, 0, 1, 4, 5], [5, 9]), ([2, 3, 0, 1, 2, 3, 4, 5, 6, 7, 8, 9, 10], [2, 3]), ([11, 0, 1, 2, 3, 4, 5, 6, 7, 8, 9, 10], [11]), ([12, 7, 10, 0, 1, 2, 3, 4, 5, 6, 7, 8, 9, 10], [7, 12])])
def table_Turn.B5 : List Nat := [0, 0, 0, 0, 0, 16, 0, 64, 51, 307, 819, 2047, 4095, 8191]
theorem table_Turn.tab5 : rtab .any (opsOf Try.f29 5) = table_Turn.T5 := by kernel_rfl
theorem table_Turn.bits5 : waitsOk table_Turn.T5.2 table_Turn.B5 = true := by kernel_rfl
set_option maxHeartbeats 8000000 in
set_option maxRecDepth 100000 in
theorem table_Turn.calls (A0 : Option Addr) (c0 : Nat) (l0 : List S42) (r : List S42) (w : World) (hr0 : Kd.C k42 w A0 l0.length l0) (hc0 : l0.length ≤ c0) (h : table_Turn.f l0 = some r) :
    Calls Try.prog 29 #[.slice A0 l0.length c0] w fun e w' => ∃ v0_ : Value, e = .returned (v0_) ∧ Kd.R k42 42 w' w.heap.size (fun _ => True) v0_ r ∧ Below w.heap.size w w' := by
  have hu42 := Try.underlying42
  unfold table_Turn.f at h
  split at h
  case isFalse => cases h
  rename_i hlen
  injection h with h
  subst h
  have HR0 := Aside0.mk hr0
  have HC0 := Aside0.mk hc0
  have HL0 := Aside0.mk hlen
  have HB := Aside0.mk (Below.refl w.heap.size w)
  clear hr0 hc0 hlen
  go_enter Try.func29, Try.ntmps29
  go_wp2_with (go_at_call 48; (with_reducible refine (clone_calls A0 c0 l0 _ ?side1 HL0.out).mono ?_); (case side1 => repeat (first | exact HR0.out | (with_reducible refine Kd.C_alloc ?_ _) | (with_reducible refine Kd.C_drewN ?_ _) | (with_reducible refine Kd.C_drew ?_))); rintro e w2 ⟨v2, rfl, ho, hb⟩; have n0_ := Aside0.mk (Kd.R_lower ho (below_size (by repeat (first | (with_reducible first | exact HB.out | apply below_alloc | apply pw_below_drewN | apply below_drew1) | exact HB.out)))); have n1_ := Aside0.mk (below_step (by repeat (first | (with_reducible first | exact HB.out | apply below_alloc | apply pw_below_drewN | apply below_drew1) | exact HB.out)) hb); clear HB; have HO := n0_; have HB := n1_; clear n0_ n1_ ho hb)
  go_loopg [10] l0.length (fun kq v10 w' => ∃ j : Nat, v10 = .int .i64 (j : Int) ∧ Aside0 (j + kq = l0.length) ∧ Aside0 (Kd.R k42 42 w' w.heap.size (fun _ => True) v2 (turned l0 j)) ∧ Aside0 (Below w.heap.size w w'))
  case atStart => exact ⟨0, rfl, ⟨by omega⟩, ⟨by unfold turned; exact HO.out⟩, HB⟩
  case round =>
    clear HO HB
    obtain ⟨j, rfl, HJ, HO, HB⟩ := hrel
    cases gk with
    | zero =>
      have c1 : decide ((j : Int) < (l0.length : Int)) = false := decide_eq_false (by have := HJ.out; omega)
      have c2 : decide (j < l0.length) = false := decide_eq_false (by have := HJ.out; omega)
      go_wp2
      go_ret
      have e : j = l0.length := by have := HJ.out; omega
      subst e
      exact ⟨_, rfl, by rw [← turned_all]; exact HO.out, HB.out⟩
    | succ gk =>
      have hlt : j < l0.length := by have := HJ.out; omega
      have c1 : decide ((j : Int) < (l0.length : Int)) = true := decide_eq_true (by omega)
      have c2 : decide (j < l0.length) = true := decide_eq_true hlt
      obtain ⟨ad1, e1, hw_0, hw_1, hw_2, hw_3⟩ := at_T42 HR0.out (j : Int) (by omega) (by omega)
      cases e1
      simp only [Int.toNat_natCast] at hw_0 hw_1 hw_2 hw_3
      have hr : rd_T42 l0 (j : Int) = l0[j] := by unfold rd_T42; simp [List.getD_eq_getElem?_getD, List.getElem?_eq_getElem hlt]
      rw [hr] at hw_0 hw_1 hw_2 hw_3
      obtain ⟨f0, hf0⟩ : ∃ f, f = l0[j].f0 := ⟨_, rfl⟩
      obtain ⟨f1, hf1⟩ : ∃ f, f = l0[j].f1 := ⟨_, rfl⟩
      obtain ⟨f2, hf2⟩ : ∃ f, f = l0[j].f2 := ⟨_, rfl⟩
      obtain ⟨f3, hf3⟩ : ∃ f, f = l0[j].f3 := ⟨_, rfl⟩
      rw [← hf0] at hw_0
      rw [← hf1] at hw_1
      rw [← hf2] at hw_2
      rw [← hf3] at hw_3
      have hsw : swapA l0[j] = ⟨f1, f0, f2, f3⟩ := by unfold swapA; rw [hf0, hf1, hf2, hf3]
      have hl0 : l0[j] = ⟨f0, f1, f2, f3⟩ := by rw [hf0, hf1, hf2, hf3]
      have HSW := Aside0.mk hsw
      have HL0j := Aside0.mk hl0
      clear hr hf0 hf1 hf2 hf3 hsw hl0
      have W0 := Aside0.mk hw_0
      have W1 := Aside0.mk hw_1
      have W2 := Aside0.mk hw_2
      have W3 := Aside0.mk hw_3
      clear hw_0 hw_1 hw_2 hw_3
      have p1 := eq_true (show (0 : Int) ≤ (j : Int) by omega)
      have p2 := eq_true (show (j : Int) < (l0.length : Int) by omega)
      have hx_0 : wr.cell? (ad1.add (j * 4)) = some (.int .i64 f0) := (HB.out.cell (World.block_lt_of_cell? w _ W0.out)).trans W0.out
      have hx_1 : wr.cell? ⟨(ad1.add (j * 4)).block, (ad1.add (j * 4)).off + 1, none⟩ = some (.int .i64 f1) := (HB.out.cell (World.block_lt_of_cell? w _ W1.out)).trans W1.out
      have hx_2 : wr.cell? ⟨(ad1.add (j * 4)).block, (ad1.add (j * 4)).off + 2, none⟩ = some (.int .i64 f2) := (HB.out.cell (World.block_lt_of_cell? w _ W2.out)).trans W2.out
      have hx_3 : wr.cell? ⟨(ad1.add (j * 4)).block, (ad1.add (j * 4)).off + 3, none⟩ = some (.int .i64 f3) := (HB.out.cell (World.block_lt_of_cell? w _ W3.out)).trans W3.out
      go_wp2_with (first
        | ((with_reducible refine gate_dst (N := 5) rfl ?_); refine box_event ?hg (N := 5) ?hd (cs := #[.int .i64 0, .int .i64 0, .int .i64 0, .int .i64 0]) (t := 42) ?hr ?_; (case hd => rfl); (case hg => rfl); (case hr => first | (go_simp; done) | (go_simp; rfl)); intro gb hg w5 hbox hb; have n0_ := Aside0.mk (Kd.R_below (Kd.R_elderB (by (with_reducible repeat (first | apply Kd.R_alloc | apply Kd.R_drewN | apply Kd.R_drew)); exact HO.out) gb (Nat.le_of_eq hg.symm)) hb); have n1_ := Aside0.mk (below_step (by repeat (first | (with_reducible first | exact HB.out | apply below_alloc | apply pw_below_drewN | apply below_drew1) | exact HB.out)) hb); have GE := Aside0.mk (show w.heap.size ≤ gb by rw [hg]; exact (below_size (by repeat (first | (with_reducible first | exact HB.out | apply below_alloc | apply pw_below_drewN | apply below_drew1) | exact HB.out)))); have BK := Aside0.mk hbox; clear HO HB; have HO := n0_; have HB := n1_; clear n0_ n1_ hb hbox hg; have hcz_0 : w5.cell? ⟨gb, 0, none⟩ = some (.int .i64 0) := (blk_cell BK.out 0).trans rfl; have hcz_1 : w5.cell? ⟨gb, 1, none⟩ = some (.int .i64 0) := (blk_cell BK.out 1).trans rfl; have hcz_2 : w5.cell? ⟨gb, 2, none⟩ = some (.int .i64 0) := (blk_cell BK.out 2).trans rfl; have hcz_3 : w5.cell? ⟨gb, 3, none⟩ = some (.int .i64 0) := (blk_cell BK.out 3).trans rfl; have hfz_0 := blk_frozen BK.out 0; have hfz_1 := blk_frozen BK.out 1; have hfz_2 := blk_frozen BK.out 2; have hfz_3 := blk_frozen BK.out 3)
        | ((with_reducible refine gate_store (t := 42) (p := 5) rfl ?_); refine store_event (t := 42) (p := 5) (v := ?vo) (w1 := ?wo) ?hg ?ho ?hn ?hr ?_; (case ho => rfl); (case hg => rfl); (case hn => rfl); (case hr => first | (go_simp; done) | (go_simp; rfl)); intro w6 hw; have n0_ := Aside0.mk (show w6.heap[gb]? = some (.cells #[.int .i64 f0, .int .i64 f1, .int .i64 f2, .int .i64 f3] 42 (0, 0)) from (by rw [hw]; refine blk_put (cs := #[.int .i64 f0, .int .i64 f1, .int .i64 f2, .int .i64 0]) ?_ 3 _ rfl; refine blk_put (cs := #[.int .i64 f0, .int .i64 f1, .int .i64 0, .int .i64 0]) ?_ 2 _ rfl; refine blk_put (cs := #[.int .i64 f0, .int .i64 0, .int .i64 0, .int .i64 0]) ?_ 1 _ rfl; refine blk_put (cs := #[.int .i64 0, .int .i64 0, .int .i64 0, .int .i64 0]) ?_ 0 _ rfl; exact BK.out)); have n1_ := Aside0.mk (show Kd.R k42 42 w6 w.heap.size (fun k_ => True ∧ k_ ≠ gb) v2 (turned l0 j) from (by rw [hw]; exact (Kd.R_far (p := ⟨gb, 3, none⟩) (Kd.R_far (p := ⟨gb, 2, none⟩) (Kd.R_far (p := ⟨gb, 1, none⟩) (Kd.R_far (p := ⟨gb, 0, none⟩) HO.out (fun _ hk => hk.2) _) (fun _ hk => hk.2) _) (fun _ hk => hk.2) _) (fun _ hk => hk.2) _))); have n2_ := Aside0.mk (show Below w.heap.size w w6 from (by rw [hw]; exact (below_set (below_set (below_set (below_set HB.out GE.out) GE.out) GE.out) GE.out))); clear BK HO HB hw hcz_0 hcz_1 hcz_2 hcz_3 hfz_0 hfz_1 hfz_2 hfz_3; have BK := n0_; have HO := n1_; have HB := n2_; clear n0_ n1_ n2_))
      have hln := turned_length l0 j (Nat.le_of_lt hlt)
      obtain ⟨go, co, eo, hgo, hgl, _⟩ := Kd.R_form HO.out (by omega)
      rw [hln] at eo
      subst eo
      have HGO := Aside0.mk hgo
      have HLN := Aside0.mk hln
      have HNE := Aside0.mk (show go ≠ gb from (HO.out.1 go (by simp [Value.ownBlock])).2)
      clear hgo hgl hln
      have n0_ := Aside0.mk (Kd.R_drew HO.out)
      have n1_ := Aside0.mk (below_drew1 HB.out)
      have n2_ := Aside0.mk (blk_drew BK.out)
      clear HO HB BK
      have HO := n0_
      have HB := n1_
      have BK := n2_
      clear n0_ n1_ n2_ hx_0 hx_1 hx_2 hx_3
      refine start_ (n := 14) (S := fun w' => w'.heap[gb]? = some (.cells #[.int .i64 f0, .int .i64 f1, .int .i64 f2, .int .i64 f3] 42 (0, 0))) (ds := [13]) #[Ff,Ff,Ff,Ff,Ff,Ff,Ff,Ff,Ff,Ff,Ff,Ff,Ff,Ff] (by kernel_rfl) rfl rfl BK.out (fun hHeld => ?_)
      refine with_tabW table_Turn.tab5 table_Turn.bits5 (fun HT_ HW_ => ?_)
      generalize w6.drew = w7 at HO HB BK hHeld ⊢
      refine pv_ 0 15 #[Tt,Ff,Ff,Ff,Ff,Ff,Ff,Ff,Ff,Ff,Ff,Ff,Ff,Ff] ?_
      refine pv_ 1 16 #[Tt,Tt,Ff,Ff,Ff,Ff,Ff,Ff,Ff,Ff,Ff,Ff,Ff,Ff] ?_
      refine pv_ 2 17 #[Tt,Tt,Tt,Ff,Ff,Ff,Ff,Ff,Ff,Ff,Ff,Ff,Ff,Ff] ?_
      refine pv_ 3 18 #[Tt,Tt,Tt,Tt,Ff,Ff,Ff,Ff,Ff,Ff,Ff,Ff,Ff,Ff] ?_
      refine pv_ 4 19 #[Tt,Tt,Tt,Tt,Tt,Ff,Ff,Ff,Ff,Ff,Ff,Ff,Ff,Ff] ?_
      refine take_ (i := 5) (N := some 20) (v := ?_) (a' := ?_) #[Tt,Tt,Tt,Tt,Tt,Tt,Ff,Ff,Ff,Ff,Ff,Ff,Ff,Ff] rfl rfl (take_ofW HT_.out HW_.out (by kernel_rfl)) (fun _ _ _ h => h) (Or.inl ⟨by rfl, ?_⟩) hHeld ?_ ?_
      rotate_left
      · intro w' s0
        have z1 : w'.cell? ⟨gb, 1, none⟩ = some (.int .i64 f1) := (blk_cell s0 1).trans rfl
        have y1 := blk_frozen s0 1
        go_simp
        with_reducible rfl
      rotate_left
      exact ap_
      refine pv_ 6 21 #[Tt,Tt,Tt,Tt,Tt,Tt,Tt,Ff,Ff,Ff,Ff,Ff,Ff,Ff] ?_
      refine take_ (i := 7) (N := some 22) (v := ?_) (a' := ?_) #[Tt,Tt,Tt,Tt,Tt,Tt,Tt,Tt,Ff,Ff,Ff,Ff,Ff,Ff] rfl rfl (take_ofW HT_.out HW_.out (by kernel_rfl)) (fun _ _ _ h => h) (Or.inl ⟨by rfl, ?_⟩) hHeld ?_ ?_
      rotate_left
      · intro w' s0
        have z0 : w'.cell? ⟨gb, 0, none⟩ = some (.int .i64 f0) := (blk_cell s0 0).trans rfl
        have y0 := blk_frozen s0 0
        go_simp
        with_reducible rfl
      rotate_left
      exact ap_
      refine pv_ 8 23 #[Tt,Tt,Tt,Tt,Tt,Tt,Tt,Tt,Tt,Ff,Ff,Ff,Ff,Ff] ?_
      refine pv_ 9 24 #[Tt,Tt,Tt,Tt,Tt,Tt,Tt,Tt,Tt,Tt,Ff,Ff,Ff,Ff] ?_
      obtain ⟨hy_0, hq_0⟩ := (holdsK_of flatArc HO.out).2.1 (j * 4) (inRow (l := turned l0 j) (by have := HLN.out; omega))
      rw [Nat.zero_add] at hy_0 hq_0
      refine one_ (i := 10) (N := none) #[Tt,Tt,Tt,Tt,Tt,Tt,Tt,Tt,Tt,Tt,Tt,Ff,Ff,Ff] rfl rfl (one_of HT_.out (by kernel_rfl)) (by decide) (fun K hK => ?_)
      refine skip_ (w1 := ?_) (by rfl) rfl ?_ ?_
      rotate_left
      · go_simp
        rfl
      refine hK.out _ _ (blk_far BK.out HNE.out.symm _) (fun hHeld => ?_)
      clear hK K
      have n0_ := Aside0.mk (R_field flatArc HO.out j 0 (by have := HLN.out; omega) (by decide) (.int .i64 f1) (⟨f1, f1, f2, f3⟩ : S42) (by rw [turned_at l0 j hlt, HL0j.out]; rfl))
      have n1_ := Aside0.mk (below_set HB.out HGO.out (j := j * 4) (v := .int .i64 f1))
      have n2_ := Aside0.mk (show (w7.setCell ⟨go, j * 4, none⟩ (.int .i64 f1)).heap[gb]? = _ from blk_far BK.out HNE.out.symm _)
      clear HO HB BK hy_0 hq_0
      have HO := n0_
      have HB := n1_
      have BK := n2_
      clear n0_ n1_ n2_
      rw [show j * k42.sz + 0 = j * 4 from rfl] at HO
      generalize w7.setCell ⟨go, j * 4, none⟩ (.int .i64 f1) = w8 at HO HB BK hHeld ⊢
      refine pv_ 11 25 #[Tt,Tt,Tt,Tt,Tt,Tt,Tt,Tt,Tt,Tt,Tt,Tt,Ff,Ff] ?_
      refine pv_ 12 26 #[Tt,Tt,Tt,Tt,Tt,Tt,Tt,Tt,Tt,Tt,Tt,Tt,Tt,Ff] ?_
      obtain ⟨hy_1, hq_1⟩ := (holdsK_of flatArc HO.out).2.1 (j * 4 + 1) (inRow (l := (turned l0 j).set j ⟨f1, f1, f2, f3⟩) (by rw [List.length_set]; have := HLN.out; omega))
      rw [Nat.zero_add] at hy_1 hq_1
      refine last_ (i := 13) (N := none) #[Tt,Tt,Tt,Tt,Tt,Tt,Tt,Tt,Tt,Tt,Tt,Tt,Tt,Tt] rfl rfl (one_of HT_.out (by kernel_rfl)) (by decide) (fun K hK => ?_)
      refine skip_ (w1 := ?_) (by rfl) rfl ?_ ?_
      rotate_left
      · go_simp
        rfl
      refine hK.out _ _ ?_
      clear hK K
      refine done_ (done_of HT_.out (by kernel_rfl)) ?_
      have n0_ := Aside0.mk (R_field flatArc HO.out j 1 (by rw [List.length_set]; have := HLN.out; omega) (by decide) (.int .i64 f0) (⟨f1, f0, f2, f3⟩ : S42) (by rw [List.getElem_set_self]; rfl))
      have n1_ := Aside0.mk (below_set HB.out HGO.out (j := j * 4 + 1) (v := .int .i64 f0))
      clear HO HB BK hy_1 hq_1
      have HO := n0_
      have HB := n1_
      clear n0_ n1_
      rw [show j * k42.sz + 1 = j * 4 + 1 from rfl, List.set_set, ← HSW.out, turned_step l0 j hlt] at HO
      generalize w8.setCell ⟨go, j * 4 + 1, none⟩ (.int .i64 f0) = w9 at HO HB ⊢
      have hwr : wrap64 ((j : Int) + 1) = ((j + 1 : Nat) : Int) := by have := HL0.out; unfold wrap64; omega
      try go_wp2
      go_roundg gk
      case measure => omega
      case rel => exact ⟨j + 1, by rw [← hwr], ⟨by have := HJ.out; omega⟩, ⟨Kd.R_mono HO.out (fun _ _ => trivial)⟩, HB⟩
end Go.Proofs.Ytlcbpaenjjeenaa.Q
end
section
namespace Go.Proofs.Ytlcbpaenjjeenaa.P
section
variable {α κ : Type} [DecidableEq κ]
def once : List κ → List κ → List κ
  | acc, [] => acc
  | acc, k :: r => once (if k ∈ acc then acc else acc ++ [k]) r
def keysOf (key : α → κ) (l : List α) : List κ := once [] (l.map key)
def sumK (key : α → κ) (val : α → Int) (l : List α) (k : κ) : Int := ((l.filter (fun x => decide (key x = k))).map val).sum
end
section
variable {α κ : Type} [DecidableEq κ]
end
def row {β : Type} (V : Nat) (g : Nat → β) : List β := (List.range V).map g
section
variable {β : Type}
end
end Go.Proofs.Ytlcbpaenjjeenaa.P
end
section
namespace Go.Proofs.Ytlcbpaenjjeenaa.P
open Go.RowKit Go.Proofs.Ytlcbpaenjjeenaa.Q Go.Proofs.YtlcbpaenjjeenaaW.PrintWords
def keyM (x : S56) : (Int × Int) := (x.f0, x.f1)
def keyA (x : S42) : (Int × Int × Int) := (x.f0, x.f1, x.f3)
def mlt (a b : S56) : Prop := a.f1 < b.f1 ∨ a.f1 = b.f1 ∧ a.f0 < b.f0
instance (a b : S56) : Decidable (mlt a b) := by unfold mlt; exact inferInstance
def msum (l : List S56) (k : Int × Int) : Int := sumK keyM S56.f2 l k
def fits (n : Int) : Prop := -9223372036854775808 ≤ n ∧ n ≤ 9223372036854775807
instance (n : Int) : Decidable (fits n) := by unfold fits; exact inferInstance
def AllFit (l : List S56) : Prop := ∀ k ∈ keysOf keyM l, fits (msum l k)
instance (l : List S56) : Decidable (AllFit l) := by unfold AllFit; exact inferInstance
end Go.Proofs.Ytlcbpaenjjeenaa.P
end
section
namespace Go.Proofs.Ytlcbpaenjjeenaa.P
open Go.RowKit Go.Proofs.Ytlcbpaenjjeenaa.Q Go.Proofs.YtlcbpaenjjeenaaW.PrintWords Go.Proofs.YtlcbpaenjjeenaaW.PrintLast Go.Proofs.YtlcbpaenjjeenaaW.PrintMore
theorem ev_cst {α : Type} {g : Nat → Option α} {r : α} (h : ∀ k, g (k + 1) = some r) : Ev g r := Ev.step h (Ev.now r)
theorem wrap1 {i : Nat} (h : i ≤ 4611686018427387904) : wrap64 ((i : Int) + 1) = ((i + 1 : Nat) : Int) := by unfold wrap64; omega
theorem rdA_of {l : List S42} {i : Nat} (h : i < l.length) : rd_T42 l (i : Int) = l[i] := by unfold rd_T42; simp [List.getD_eq_getElem?_getD, List.getElem?_eq_getElem h]
theorem w64_id {n : Int} (h0 : -9223372036854775808 ≤ n) (h1 : n ≤ 9223372036854775807) : wrap64 n = n := by unfold wrap64; omega
end Go.Proofs.Ytlcbpaenjjeenaa.P
end
section
namespace Go.Proofs.Ytlcbpaenjjeenaa.P
open Go.Sort hiding rd
open Go.RowKit Go.Proofs.Ytlcbpaenjjeenaa.Q Go.Proofs.YtlcbpaenjjeenaaW.PrintWords Go.Proofs.YtlcbpaenjjeenaaW.PrintLast Go.Proofs.YtlcbpaenjjeenaaW.PrintMore
theorem w1 {i : Nat} (h : i ≤ 4611686018427387904) : wrap64 ((i : Int) + 1) = ((i + 1 : Nat) : Int) := by unfold wrap64; omega
def FitAll (l : List S56) (K : List (Int × Int)) : Prop := ∀ k ∈ K, fits (msum l k)
noncomputable instance (l : List S56) (K : List (Int × Int)) : Decidable (FitAll l K) := Classical.propDecidable _
end Go.Proofs.Ytlcbpaenjjeenaa.P
end
