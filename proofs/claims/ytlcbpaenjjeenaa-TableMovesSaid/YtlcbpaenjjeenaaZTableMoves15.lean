/- A part of the proof: words, contracts, plain lemmas. Conditions: none. -/
import Derived.Test.YtlcbpaenjjeenaaZTableMoves3
import Derived.Test.YtlcbpaenjjeenaaZTableMoves6
import Derived.Test.YtlcbpaenjjeenaaZTableMoves12
import Derived.Test.YtlcbpaenjjeenaaZTableMoves13
import Derived.Test.YtlcbpaenjjeenaaZTableMoves14
section
namespace Go.Proofs.Ytlcbpaenjjeenaa.Q
open Go.RowKit Go.Proofs.YtlcbpaenjjeenaaW.PrintWords Go.Proofs.YtlcbpaenjjeenaaW.PrintLast Go.Proofs.YtlcbpaenjjeenaaW.PrintMore
set_option linter.unusedVariables false
set_option linter.unusedSimpArgs false
def ebbtideref01_Sum.l0 : Nat → List Int → Int → Int → Int → Option (Int × Bool)
 | 0, _, _, _, _ => none
 | k + 1, x0, x4, x5, x6 => if x6 < (x0.length : Int) then (if 0 ≤ x6 then (ebbtideref01_Sum.l0 k x0 (wrap64 (x4 + ((rd x0 x6) / 4294967296))) (wrap64 (x5 + (Go.bits .and .i64 (rd x0 x6) 4294967295))) (wrap64 (x6 + 1))) else (none)) else (if (wrap64 (x4 + (x5 / 4294967296))) < (-2147483648) then (some (0, false)) else (if (wrap64 (x4 + (x5 / 4294967296))) ≥ 2147483648 then (some (0, false)) else (some (wrap64 ((wrap64 ((wrap64 (x4 + (x5 / 4294967296))) * 4294967296)) + (Go.bits .and .i64 x5 4294967295)), true))))
def ebbtideref01_Sum.f (k : Nat) (l0 : List Int) : Option (Int × Bool) := ebbtideref01_Sum.l0 k l0 0 0 0
set_option maxHeartbeats 8000000 in
set_option maxRecDepth 100000 in
theorem ebbtideref01_Sum.calls (k : Nat) (A0 : Option Addr) (c0 : Nat) (l0 : List Int) (r1 : Int) (r2 : Bool) (w : World) (hr0 : Kd.C (Kd.int .i64) w A0 l0.length l0) (hc0 : l0.length ≤ c0) (h : ebbtideref01_Sum.f k l0 = some (r1, r2)) :
  Calls Try.prog 25 #[.slice A0 l0.length c0] w fun e w' => e = .returned (.tuple #[.int .i64 r1, .bool r2]) ∧ Drawn0 w w' := by
 have HR0 := Aside0.mk hr0; have HC0 := Aside0.mk hc0; clear hr0 hc0; have H : (ebbtideref01_Sum.l0 k l0 0 0 0) = some (r1, r2) := h; clear h; have H' := Aside0.mk H; clear H
 go_enter Try.func25, Try.ntmps25
 go_wp2
 go_loopg [4, 5, 6] k (fun kq v4 v5 v6 w' => ∃ (x4_1 : Int) (x5_1 : Int) (x6_1 : Int), v4 = .int .i64 x4_1 ∧ v5 = .int .i64 x5_1 ∧ v6 = .int .i64 x6_1 ∧ Aside0 (ebbtideref01_Sum.l0 kq l0 x4_1 x5_1 x6_1 = some (r1, r2)) ∧ Aside0 (kq ≤ k) ∧ Drawn0 w w')
 case atStart => exact ⟨(0), (0), (0), (by first | rfl | (simp; done) | (simp [*]; done)), (by first | rfl | (simp; done) | (simp [*]; done)), (by first | rfl | (simp; done) | (simp [*]; done)), H', ⟨Nat.le_refl _⟩, by repeat (first | exact Drawn0.refl _ | apply Drawn0.step)⟩
 case round =>
  clear H'; obtain ⟨x4_1, x5_1, x6_1, rfl, rfl, rfl, HA, HK1, ⟨m1, rfl⟩⟩ := hrel
  cases gk with
  | zero => exact absurd HA.out (by simp [ebbtideref01_Sum.l0])
  | succ k1 =>
   have H := HA.out; clear HA; simp only [ebbtideref01_Sum.l0] at H
   by_cases c2 : x6_1 < (l0.length : Int)
   ·rw [if_pos c2] at H
    have c2b0 : decide (x6_1 < (l0.length : Int)) = true := decide_eq_true c2; clear c2
    by_cases c3 : 0 ≤ x6_1
    ·rw [if_pos c3] at H
     have c3b0 : decide (0 ≤ x6_1) = true := decide_eq_true c3; clear c3; have H' := Aside0.mk H; clear H; have p208 : 0 ≤ (x6_1 : Int) := of_decide_eq_true (by first | (with_reducible assumption) | assumption); have q208 : x6_1 < (l0.length : Int) := of_decide_eq_true (by first | (with_reducible assumption) | assumption); obtain ⟨ad208, e208, hx208_0⟩ := Kd.at_int HR0.out x6_1 p208 q208; cases e208; replace p208 := eq_true p208; replace q208 := eq_true q208; have p209 : 0 ≤ (x6_1 : Int) := of_decide_eq_true (by first | (with_reducible assumption) | assumption); have q209 : x6_1 < (l0.length : Int) := of_decide_eq_true (by first | (with_reducible assumption) | assumption); obtain ⟨ad209, e209, hx209_0⟩ := Kd.at_int HR0.out x6_1 p209 q209; obtain rfl : ad208 = ad209 := (by injection e209); replace p209 := eq_true p209; replace q209 := eq_true q209
     go_wp2
     go_roundg k1
     case measure => have := HK1.out; omega
     case rel => exact ⟨(wrap64 (x4_1 + ((rd l0 x6_1) / 4294967296))), (wrap64 (x5_1 + (Go.bits .and .i64 (rd l0 x6_1) 4294967295))), (wrap64 (x6_1 + 1)), (by first | rfl | (simp; done) | (simp [*]; done)), (by first | rfl | (simp; done) | (simp [*]; done)), (by first | rfl | (simp; done) | (simp [*]; done)), H', ⟨by have := HK1.out; omega⟩, by repeat (first | exact Drawn0.refl _ | apply Drawn0.step)⟩
    ·rw [if_neg c3] at H
     exact absurd H (by simp)
   ·rw [if_neg c2] at H
    have c2b0 : decide (x6_1 < (l0.length : Int)) = false := decide_eq_false c2; clear c2
    by_cases c4 : (wrap64 (x4_1 + (x5_1 / 4294967296))) < (-2147483648)
    ·rw [if_pos c4] at H
     have c4b0 : decide ((wrap64 (x4_1 + (x5_1 / 4294967296))) < (-2147483648)) = true := decide_eq_true c4; clear c4; simp only [Option.some.injEq, Prod.mk.injEq] at H; obtain ⟨rfl, rfl⟩ := H
     go_wp2
     go_ret2
     exact ⟨by first | rfl | (simp; done) | (simp [*]; done), by repeat (first | exact Drawn0.refl _ | apply Drawn0.step)⟩
    ·rw [if_neg c4] at H
     have c4b0 : decide ((wrap64 (x4_1 + (x5_1 / 4294967296))) < (-2147483648)) = false := decide_eq_false c4; clear c4
     by_cases c5 : (wrap64 (x4_1 + (x5_1 / 4294967296))) ≥ 2147483648
     ·rw [if_pos c5] at H
      have c5b0 : decide (2147483648 ≤ (wrap64 (x4_1 + (x5_1 / 4294967296)))) = true := decide_eq_true c5; clear c5; simp only [Option.some.injEq, Prod.mk.injEq] at H; obtain ⟨rfl, rfl⟩ := H
      go_wp2
      go_ret2
      exact ⟨by first | rfl | (simp; done) | (simp [*]; done), by repeat (first | exact Drawn0.refl _ | apply Drawn0.step)⟩
     ·rw [if_neg c5] at H
      have c5b0 : decide (2147483648 ≤ (wrap64 (x4_1 + (x5_1 / 4294967296)))) = false := decide_eq_false c5; clear c5; simp only [Option.some.injEq, Prod.mk.injEq] at H; obtain ⟨rfl, rfl⟩ := H
      go_wp2
      go_ret2
      exact ⟨by first | rfl | (simp; done) | (simp [*]; done), by repeat (first | exact Drawn0.refl _ | apply Drawn0.step)⟩
end Go.Proofs.Ytlcbpaenjjeenaa.Q
end
section
namespace Go.Proofs.Ytlcbpaenjjeenaa.P
open Go.RowKit Go.Proofs.Ytlcbpaenjjeenaa.Q Go.Proofs.YtlcbpaenjjeenaaW.PrintWords Go.Proofs.YtlcbpaenjjeenaaW.PrintLast Go.Proofs.YtlcbpaenjjeenaaW.PrintMore
theorem wi64 (n : Int) : IntKind.i64.wrap n = wrap64 n := by
  simp [IntKind.wrap, IntKind.bits, IntKind.signed, wrap64]; split <;> omega
theorem ofInt_nat (a : Int) : ((BitVec.ofInt 64 a).toNat : Int) = a % 18446744073709551616 := by
  rw [BitVec.toNat_ofInt]
  omega
theorem w64_id {n : Int} (h0 : -9223372036854775808 ≤ n) (h1 : n ≤ 9223372036854775807) : wrap64 n = n := by unfold wrap64; omega
theorem and_low {a : Int} (_h0 : -9223372036854775808 ≤ a) (_h1 : a ≤ 9223372036854775807) : Go.bits .and .i64 a 4294967295 = a % 4294967296 := by
  show IntKind.i64.wrap ((BitVec.ofInt 64 a &&& BitVec.ofInt 64 4294967295).toNat) = _
  have ha := ofInt_nat a
  have hm : (BitVec.ofInt 64 4294967295).toNat = 2 ^ 32 - 1 := by decide
  rw [wi64, BitVec.toNat_and, hm, Nat.and_two_pow_sub_one_eq_mod]
  unfold wrap64
  omega
def sh (l : List Int) : Int := (l.map fun x => x / 4294967296).sum
def sl (l : List Int) : Int := (l.map fun x => x % 4294967296).sum
theorem halves (l : List Int) : l.sum = sh l * 4294967296 + sl l := by
  unfold sh sl
  induction l with
  | nil => rfl
  | cons x r ih => simp only [List.map_cons, List.sum_cons, ih]; omega
theorem half_bd (l : List Int) (h : ∀ x ∈ l, -9223372036854775808 ≤ x ∧ x ≤ 9223372036854775807) : -2147483648 * (l.length : Int) ≤ sh l ∧ sh l ≤ 2147483647 * (l.length : Int) ∧ 0 ≤ sl l ∧ sl l ≤ 4294967295 * (l.length : Int) := by
  unfold sh sl
  induction l with
  | nil => simp
  | cons x r ih =>
    have := ih (fun y hy => h y (List.mem_cons_of_mem _ hy))
    have := h x List.mem_cons_self
    simp only [List.map_cons, List.sum_cons, List.length_cons]
    omega
theorem rsum_loop (l : List Int) (hl : l.length ≤ 1048576) (hw : ∀ x ∈ l, -9223372036854775808 ≤ x ∧ x ≤ 9223372036854775807) (d : Nat) : ∀ (j k : Nat), j + d = l.length → d < k →
    ebbtideref01_Sum.l0 k l (sh (l.take j)) (sl (l.take j)) (j : Int) = some (sumFit l.sum) := by
  induction d with
  | zero =>
    intro j k hj hk
    obtain ⟨k, rfl⟩ : ∃ m, k = m + 1 := ⟨k - 1, by omega⟩
    have hb := half_bd l hw
    have hs := halves l
    rw [ebbtideref01_Sum.l0, if_neg (by omega), List.take_of_length_le (by omega), and_low (by omega) (by omega), w64_id (n := sh l + sl l / 4294967296) (by omega) (by omega)]
    unfold sumFit
    by_cases c : -9223372036854775808 ≤ l.sum ∧ l.sum ≤ 9223372036854775807
    · rw [if_pos c, if_neg (by omega), if_neg (by omega), w64_id (n := (sh l + sl l / 4294967296) * 4294967296) (by omega) (by omega), w64_id (by omega) (by omega)]
      exact congrArg some (Prod.ext (by show _ = _; simp only; omega) rfl)
    · rw [if_neg c]
      by_cases c1 : sh l + sl l / 4294967296 < -2147483648
      · rw [if_pos c1]
      · rw [if_neg c1, if_pos (by omega)]
  | succ d ih =>
    intro j k hj hk
    obtain ⟨k, rfl⟩ : ∃ m, k = m + 1 := ⟨k - 1, by omega⟩
    have hlt : j < l.length := by omega
    have hx := hw l[j] (List.getElem_mem hlt)
    have hb := half_bd (l.take j) (fun x hx => hw x (List.mem_of_mem_take hx))
    have hlen : (l.take j).length = j := by rw [List.length_take]; omega
    rw [hlen] at hb
    have e1 : sh (l.take (j + 1)) = sh (l.take j) + l[j] / 4294967296 := by unfold sh; rw [List.take_succ_eq_append_getElem hlt, List.map_append, List.sum_append]; simp
    have e2 : sl (l.take (j + 1)) = sl (l.take j) + l[j] % 4294967296 := by unfold sl; rw [List.take_succ_eq_append_getElem hlt, List.map_append, List.sum_append]; simp
    rw [ebbtideref01_Sum.l0, if_pos (by omega), if_pos (by omega), rd_at hlt, and_low hx.1 hx.2, w64_id (n := sh (l.take j) + l[j] / 4294967296) (by omega) (by omega), w64_id (n := sl (l.take j) + l[j] % 4294967296) (by omega) (by omega), w64_id (n := (j : Int) + 1) (by omega) (by omega), ← e1, ← e2]
    exact ih (j + 1) k (by omega) (by omega)
theorem csum_eq {l : List Int} (hl : l.length ≤ 1152921504606846976) (hw : ∀ x ∈ l, -9223372036854775808 ≤ x ∧ x ≤ 9223372036854775807) : checked_Sum.f l = some (sumFit l.sum) := by
  unfold checked_Sum.f
  rw [if_pos]
  simp only [sumOk, Bool.and_eq_true, List.all_eq_true, decide_eq_true_eq]
  exact ⟨hw, hl⟩
theorem rsum_eq {l : List Int} (hl : l.length ≤ 1048576) (hw : ∀ x ∈ l, -9223372036854775808 ≤ x ∧ x ≤ 9223372036854775807) {k : Nat} (hk : l.length < k) : ebbtideref01_Sum.f k l = some (sumFit l.sum) :=
  rsum_loop l hl hw l.length 0 k (by omega) hk
end Go.Proofs.Ytlcbpaenjjeenaa.P
end
section
namespace Go.Proofs.Ytlcbpaenjjeenaa.P
open Go.Sort hiding rd
open Go.RowKit Go.Proofs.Ytlcbpaenjjeenaa.Q Go.Proofs.YtlcbpaenjjeenaaW.PrintWords Go.Proofs.YtlcbpaenjjeenaaW.PrintLast Go.Proofs.YtlcbpaenjjeenaaW.PrintMore
theorem ev_const {α : Type} {g : Nat → Option α} {r : α} (h : ∀ k, g (k + 1) = some r) : Ev g r := Ev.step h (Ev.now r)
def OkM (x : S56) : Prop := fits x.f0 ∧ fits x.f1 ∧ fits x.f2
theorem w1 {i : Nat} (h : i ≤ 4611686018427387904) : wrap64 ((i : Int) + 1) = ((i + 1 : Nat) : Int) := by unfold wrap64; omega
theorem rd_of {l : List Int} {i : Nat} (h : i < l.length) : rd l (i : Int) = l[i] := by unfold rd; simp [List.getD_eq_getElem?_getD, List.getElem?_eq_getElem h]
theorem rdM_of {l : List S56} {i : Nat} (h : i < l.length) : rd_T56 l (i : Int) = l[i] := by unfold rd_T56; simp [List.getD_eq_getElem?_getD, List.getElem?_eq_getElem h]
theorem rdL_of {l : List (List Int)} {i : Nat} (h : i < l.length) : rd_L2 l (i : Int) = l[i] := by unfold rd_L2; simp [List.getD_eq_getElem?_getD, List.getElem?_eq_getElem h]
theorem total_ev (l : List S56) (g : List Int) (hg : ∀ j ∈ g, 0 ≤ j ∧ j < (l.length : Int)) (hlen : g.length ≤ 1048576) (hl : ∀ x ∈ l, fits x.f2) :
    Ev (fun k => api_Move_51.f k l g) (sumFit ((g.map fun j => (l.getD j.toNat z56).f2).sum)) := by
  have hloop : ∀ (d i : Nat), i + d = g.length → Ev (fun k => api_Move_51.l0 k l (row g.length (fun j => if j < i then (rd_T56 l (g.getD j 0)).f2 else 0)) g (g.length : Int) (i : Int)) (sumFit ((g.map fun j => (l.getD j.toNat z56).f2).sum)) := by
    intro d
    induction d with
    | zero =>
      intro i hi
      have e : row g.length (fun j => if j < i then (rd_T56 l (g.getD j 0)).f2 else 0) = g.map fun j => (l.getD j.toNat z56).f2 := by
        apply List.ext_getElem?
        intro j
        rcases Nat.lt_or_ge j g.length with hj | hj
        · rw [row_get? _ _ _ hj, if_pos (by omega), List.getElem?_map, List.getElem?_eq_getElem hj, List.getD_eq_getElem?_getD, List.getElem?_eq_getElem hj]; rfl
        · rw [row_none _ _ _ hj, List.getElem?_eq_none (by rw [List.length_map]; exact hj)]
      have hs : checked_Sum.f (g.map fun j => (l.getD j.toNat z56).f2) = some (sumFit ((g.map fun j => (l.getD j.toNat z56).f2).sum)) := by
        refine csum_eq (by rw [List.length_map]; omega) (fun x hx => ?_)
        obtain ⟨j, hj, rfl⟩ := List.mem_map.1 hx
        have h1 := hg j hj
        have h2 : j.toNat < l.length := by omega
        rw [List.getD_eq_getElem?_getD, List.getElem?_eq_getElem h2]
        exact hl _ (List.getElem_mem h2)
      exact ev_const fun k => by rw [api_Move_51.l0, if_neg (by omega), e, hs]; rfl
    | succ d ih =>
      intro i hi
      have hlt : i < g.length := by omega
      have h1 := hg g[i] (List.getElem_mem hlt)
      have hlen2 := row_length g.length (fun j => if j < i then (rd_T56 l (g.getD j 0)).f2 else 0)
      refine Ev.step (fun k => ?_) (ih (i + 1) (by omega))
      rw [api_Move_51.l0, if_pos (by omega), if_pos (by omega), if_pos (by omega), rd_of hlt, if_pos h1.1, if_pos h1.2]
      simp only [table_Moves_2.f, Option.bind_some]
      rw [if_pos (by rw [hlen2]; omega), Int.toNat_natCast, row_set, w1 (by omega)]
      congr 1
      refine row_ext fun j hj => ?_
      by_cases c : j = i
      · subst c
        rw [if_pos rfl, if_pos (by omega), List.getD_eq_getElem?_getD, List.getElem?_eq_getElem hlt]; rfl
      · rw [if_neg c]
        by_cases c2 : j < i
        · rw [if_pos c2, if_pos (by omega)]
        · rw [if_neg c2, if_neg (by omega)]
  have h0 := hloop g.length 0 (by omega)
  refine Ev.congr (fun k => ?_) h0
  have e : row g.length (fun j => if j < 0 then (rd_T56 l (g.getD j 0)).f2 else 0) = row g.length (fun _ => (0 : Int)) := row_ext fun j _ => by rw [if_neg (by omega)]
  rw [e]
  unfold api_Move_51.f
  rw [if_pos (by omega), if_pos (by omega), Int.toNat_natCast, row_replicate]
  rfl
def rawOf (l : List S56) (K : List (Int × Int)) : List S56 := K.filterMap fun k => if msum l k = 0 then none else some ⟨k.1, k.2, msum l k⟩
noncomputable def mergeL (l : List S56) : List S56 := srtL cfMove (rawOf l (keysOf keyM l))
noncomputable def mergeR (l : List S56) : List S56 × Int := if AllFit l then (mergeL l, 0) else ([], 10)
theorem sumFit_pos {n : Int} (h : fits n) : sumFit n = (n, true) := by unfold sumFit; exact if_pos h
theorem sumFit_neg {n : Int} (h : ¬ fits n) : sumFit n = (0, false) := by unfold sumFit; exact if_neg h
theorem total_group (l : List S56) (hlen : l.length ≤ 1048576) (hl : ∀ x ∈ l, OkM x) (k : Int × Int) : Ev (fun n => api_Move_51.f n l (idxs keyM l k)) (sumFit (msum l k)) := by
  have h := total_ev l (idxs keyM l k) (idxs_bd keyM l k) (Nat.le_trans (idxs_length_le keyM l k) hlen) (fun x hx => (hl x hx).2.2)
  rw [idxs_vals keyM S56.f2 l k z56] at h
  exact h
theorem rawOf_length (l : List S56) (K : List (Int × Int)) : (rawOf l K).length ≤ K.length := List.length_filterMap_le _ _
def FitAll (l : List S56) (K : List (Int × Int)) : Prop := ∀ k ∈ K, fits (msum l k)
noncomputable instance (l : List S56) (K : List (Int × Int)) : Decidable (FitAll l K) := Classical.propDecidable _
theorem moves_loop (l : List S56) (hlen : l.length ≤ 1048576) (hl : ∀ x ∈ l, OkM x) (d : Nat) : ∀ (i : Nat), i + d = (keysOf keyM l).length →
    Ev (fun k => table_Moves.l0 k l (rawOf l ((keysOf keyM l).take i)) (groups keyM l) ((groups keyM l).length : Int) (i : Int))
      (if FitAll l ((keysOf keyM l).drop i) then (mergeL l, 0) else ([], 10)) := by
  have hkl := keysOf_length_le keyM l
  induction d with
  | zero =>
    intro i hi
    rw [List.drop_eq_nil_of_le (by omega), if_pos (by intro k hk; cases hk), List.take_of_length_le (by omega)]
    refine ev_const fun k => ?_
    rw [table_Moves.l0, if_neg (by rw [groups_length]; omega)]
    unfold api_Move_53.f
    have := rawOf_length l (keysOf keyM l)
    rw [if_pos (by omega)]
    rfl
  | succ d ih =>
    intro i hi
    have hlt : i < (keysOf keyM l).length := by omega
    have hlg : i < (groups keyM l).length := by rw [groups_length]; exact hlt
    obtain ⟨key, hkey⟩ : ∃ key, (keysOf keyM l)[i]? = some key := ⟨_, List.getElem?_eq_getElem hlt⟩
    have hmem := List.mem_of_getElem? hkey
    have hgi : rd_L2 (groups keyM l) (i : Int) = idxs keyM l key := by
      have h2 := groups_get keyM l i key hkey
      rw [rdL_of hlg]
      rw [List.getElem?_eq_getElem hlg] at h2
      exact Option.some.inj h2
    have hne := idxs_ne keyM l key ((mem_keysOf _ _ _).1 hmem)
    have hpos : 0 < (idxs keyM l key).length := List.length_pos_iff.2 hne
    have hmem0 : rd (idxs keyM l key) 0 ∈ idxs keyM l key := by
      have := rd_of hpos
      rw [show ((0 : Nat) : Int) = 0 from rfl] at this
      rw [this]
      exact List.getElem_mem hpos
    have hb := idxs_bd keyM l key _ hmem0
    have hk0 := idxs_key keyM l key z56 _ hmem0
    have ht := total_group l hlen hl key
    have hdrop : (keysOf keyM l).drop i = key :: (keysOf keyM l).drop (i + 1) := by
      rw [List.drop_eq_getElem_cons hlt]
      rw [List.getElem?_eq_getElem hlt] at hkey
      rw [Option.some.inj hkey]
    have htake : (keysOf keyM l).take (i + 1) = (keysOf keyM l).take i ++ [key] := by
      rw [List.take_succ_eq_append_getElem hlt]
      rw [List.getElem?_eq_getElem hlt] at hkey
      rw [Option.some.inj hkey]
    have hraw : (rawOf l ((keysOf keyM l).take i)).length ≤ l.length := by
      have h1 := rawOf_length l ((keysOf keyM l).take i)
      rw [List.length_take] at h1
      omega
    have hstep : ∀ k, table_Moves.l0 (k + 1) l (rawOf l ((keysOf keyM l).take i)) (groups keyM l) ((groups keyM l).length : Int) (i : Int) =
        (api_Move_51.f k l (idxs keyM l key)).bind fun bt => if bt.2 = true then (if bt.1 = 0 then table_Moves.l0 k l (rawOf l ((keysOf keyM l).take i)) (groups keyM l) ((groups keyM l).length : Int) ((i + 1 : Nat) : Int) else table_Moves.l0 k l (rawOf l ((keysOf keyM l).take i) ++ [⟨key.1, key.2, bt.1⟩]) (groups keyM l) ((groups keyM l).length : Int) ((i + 1 : Nat) : Int)) else some ([], 10) := by
      intro k
      rw [table_Moves.l0, if_pos (by omega), if_pos (by omega), if_pos (by omega), hgi, if_pos (by omega), if_pos hb.1, if_pos hb.2]
      have hl9 : (rawOf l ((keysOf keyM l).take i)).length < 5864062014805 := by omega
      have hw9 : wrap64 ((i : Int) + 1) = ((i + 1 : Nat) : Int) := w1 (by omega)
      have e0 : (rd_T56 l (rd (idxs keyM l key) 0)).f0 = key.1 := congrArg Prod.fst hk0
      have e1 : (rd_T56 l (rd (idxs keyM l key) 0)).f1 = key.2 := congrArg Prod.snd hk0
      simp only [e0, e1, hl9, hw9, if_true]
    refine Ev.step hstep ?_
    refine Ev.bind ht ?_
    rw [hdrop]
    by_cases hf : fits (msum l key)
    · rw [sumFit_pos hf]
      have hif : (if FitAll l (key :: (keysOf keyM l).drop (i + 1)) then (mergeL l, (0 : Int)) else ([], 10)) = (if FitAll l ((keysOf keyM l).drop (i + 1)) then (mergeL l, 0) else ([], 10)) := by
        by_cases c : FitAll l ((keysOf keyM l).drop (i + 1))
        · rw [if_pos c, if_pos (by intro k hk; rcases List.mem_cons.1 hk with rfl | hk; exact hf; exact c k hk)]
        · rw [if_neg c, if_neg (fun h => c (fun k hk => h k (List.mem_cons_of_mem _ hk)))]
      rw [hif]
      have hi2 := ih (i + 1) (by omega)
      rw [htake] at hi2
      unfold rawOf at hi2
      rw [List.filterMap_append] at hi2
      simp only [if_true]
      by_cases hz : msum l key = 0
      · simp only [hz, if_true]
        simp only [List.filterMap_cons, hz, if_true, List.filterMap_nil, List.append_nil] at hi2
        exact hi2
      · simp only [hz, if_false]
        simp only [List.filterMap_cons, hz, if_false, List.filterMap_nil] at hi2
        exact hi2
    · rw [sumFit_neg hf, if_neg (fun h => hf (h key List.mem_cons_self))]
      exact Ev.now _
theorem okM_good {x : S56} (h : OkM x) : good2 (keyM x) = true := by
  obtain ⟨h0, h1, _⟩ := h
  unfold fits at h0 h1
  unfold good2 keyM
  rw [wf_i64 h0.1 h0.2, wf_i64 h1.1 h1.2]
  rfl
theorem moves_ev (l : List S56) (hlen : l.length ≤ 1048576) (hl : ∀ x ∈ l, OkM x) : Ev (fun k => table_Moves.f k l) (mergeR l) := by
  unfold table_Moves.f
  refine Ev.bind (a := groups keyM l) ⟨l.length + 1, fun k hk => gatherM_eq l hlen (fun x hx => okM_good (hl x hx)) (by omega)⟩ ?_
  have h := moves_loop l hlen hl (keysOf keyM l).length 0 (by omega)
  have e : (if FitAll l ((keysOf keyM l).drop 0) then (mergeL l, (0 : Int)) else ([], 10)) = mergeR l := by
    unfold mergeR
    by_cases c : AllFit l
    · rw [if_pos c, if_pos (show FitAll l ((keysOf keyM l).drop 0) from c)]
    · rw [if_neg c, if_neg (show ¬ FitAll l ((keysOf keyM l).drop 0) from c)]
  rw [e] at h
  exact h
theorem lt_move (x y : S56) : (ltOf cfMove x y = true) ↔ mlt x y := ltMove_eq x y
theorem mergeL_is (l : List S56) : IsMerge l (mergeL l) := by
  obtain ⟨hp, hs⟩ := srtL_spec swoMove (rawOf l (keysOf keyM l))
  have hmem : ∀ m, m ∈ mergeL l ↔ keyM m ∈ keysOf keyM l ∧ m.f2 = msum l (keyM m) ∧ m.f2 ≠ 0 := by
    intro m
    unfold mergeL
    rw [hp.mem_iff]
    unfold rawOf
    rw [List.mem_filterMap]
    constructor
    · rintro ⟨k, hk, he⟩
      split at he
      · cases he
      · rename_i hz
        injection he with he
        subst he
        exact ⟨hk, rfl, hz⟩
    · rintro ⟨h1, h2, h3⟩
      refine ⟨keyM m, h1, ?_⟩
      rw [if_neg (by rw [← h2]; exact h3), ← h2]
      rfl
  refine ⟨?_, hmem⟩
  have hnd : ((mergeL l).map keyM).Nodup := by
    have h1 : ((rawOf l (keysOf keyM l)).map keyM).Nodup := by
      have h2 : (rawOf l (keysOf keyM l)).map keyM = (keysOf keyM l).filter (fun k => decide (msum l k ≠ 0)) := by
        unfold rawOf
        generalize keysOf keyM l = K
        induction K with
        | nil => rfl
        | cons k K ih =>
          rw [List.filterMap_cons, List.filter_cons]
          by_cases hz : msum l k = 0
          · simp [hz, ih]
          · simp [hz, ih]; rfl
      rw [h2]
      exact (nodup_keysOf keyM l).sublist List.filter_sublist
    exact ((hp.map keyM).nodup_iff).2 h1
  have hpair : (mergeL l).Pairwise (fun x y => ltOf cfMove y x = false ∧ keyM x ≠ keyM y) := by
    rw [List.pairwise_and_iff]
    exact ⟨hs, by rw [List.Nodup, List.pairwise_map] at hnd; exact hnd⟩
  refine hpair.imp ?_
  rintro x y ⟨h1, h2⟩
  rw [← Bool.not_eq_true, lt_move] at h1
  have h3 : ¬ (x.f0 = y.f0 ∧ x.f1 = y.f1) := fun h => h2 (by unfold keyM; rw [h.1, h.2])
  unfold mlt at *
  omega
theorem mergeL_length (l : List S56) : (mergeL l).length ≤ l.length := by
  unfold mergeL
  rw [srtL_length swoMove]
  exact Nat.le_trans (rawOf_length _ _) (keysOf_length_le _ _)
end Go.Proofs.Ytlcbpaenjjeenaa.P
end
