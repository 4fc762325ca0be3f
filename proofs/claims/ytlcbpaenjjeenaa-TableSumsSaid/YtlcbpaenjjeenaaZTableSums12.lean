/- A part of the proof: words, contracts, plain lemmas. Conditions: none. -/
import Derived.Test.YtlcbpaenjjeenaaZTableSums3
import Derived.Test.YtlcbpaenjjeenaaZTableSums6
import Derived.Test.YtlcbpaenjjeenaaZTableSums11
import Derived.Test.YtlcbpaenjjeenaaZTableSums10
import Derived.Test.YtlcbpaenjjeenaaZTableSums8
import Derived.Test.YtlcbpaenjjeenaaZTableSums9
import Derived.Test.YtlcbpaenjjeenaaRows
import Derived.Deep.Slices
import Derived.ProofKit
section
namespace Go.Proofs.Ytlcbpaenjjeenaa.Q
open Go.RowKit Go.Proofs.YtlcbpaenjjeenaaW.PrintWords Go.Proofs.YtlcbpaenjjeenaaW.PrintLast Go.Proofs.YtlcbpaenjjeenaaW.PrintMore
set_option linter.unusedVariables false
set_option linter.unusedSimpArgs false
def ebbtideref01_Sum.l0 : Nat → List Int → Int → Int → Int → Option (Int × Bool)
 | 0, _, _, _, _ => none
 | k + 1, x0, x4, x5, x6 => if x6 < (x0.length : Int) then (if 0 ≤ x6 then (ebbtideref01_Sum.l0 k x0 (wrap64 (x4 + ((rd x0 x6) / 4294967296))) (wrap64 (x5 + (Go.bits .and .i64 (rd x0 x6) 4294967295))) (wrap64 (x6 + 1))) else (none)) else (if (wrap64 (x4 + (x5 / 4294967296))) < (-2147483648) then (some (0, false)) else (if (wrap64 (x4 + (x5 / 4294967296))) ≥ 2147483648 then (some (0, false)) else (some (wrap64 ((wrap64 ((wrap64 (x4 + (x5 / 4294967296))) * 4294967296)) + (Go.bits .and .i64 x5 4294967295)), true))))
def ebbtideref01_Sum.f (k : Nat) (l0 : List Int) : Option (Int × Bool) := ebbtideref01_Sum.l0 k l0 0 0 0
set_option maxHeartbeats 8000000 in
set_option maxRecDepth 100000 in
theorem ebbtideref01_Sum.calls (k : Nat) (A0 : Option Addr) (c0 : Nat) (l0 : List Int) (r1 : Int) (r2 : Bool) (w : World) (hr0 : Kd.C (Kd.int .i64) w A0 l0.length l0) (hc0 : l0.length ≤ c0) (h : ebbtideref01_Sum.f k l0 = some (r1, r2)) :
  Calls Try.prog 25 #[.slice A0 l0.length c0] w fun e w' => e = .returned (.tuple #[.int .i64 r1, .bool r2]) ∧ Drawn0 w w' := by
 have HR0 := Aside0.mk hr0; have HC0 := Aside0.mk hc0; clear hr0 hc0; have H : (ebbtideref01_Sum.l0 k l0 0 0 0) = some (r1, r2) := h; clear h; have H' := Aside0.mk H; clear H
 go_enter Try.func25, Try.ntmps25
 go_wp2
 go_loopg [4, 5, 6] k (fun kq v4 v5 v6 w' => ∃ (x4_1 : Int) (x5_1 : Int) (x6_1 : Int), v4 = .int .i64 x4_1 ∧ v5 = .int .i64 x5_1 ∧ v6 = .int .i64 x6_1 ∧ Aside0 (ebbtideref01_Sum.l0 kq l0 x4_1 x5_1 x6_1 = some (r1, r2)) ∧ Aside0 (kq ≤ k) ∧ Drawn0 w w')
 case atStart => exact ⟨(0), (0), (0), (by first | rfl | (simp; done) | (simp [*]; done)), (by first | rfl | (simp; done) | (simp [*]; done)), (by first | rfl | (simp; done) | (simp [*]; done)), H', ⟨Nat.le_refl _⟩, by repeat (first | exact Drawn0.refl _ | apply Drawn0.step)⟩
 case round =>
  clear H'; obtain ⟨x4_1, x5_1, x6_1, rfl, rfl, rfl, HA, HK1, ⟨m1, rfl⟩⟩ := hrel
  cases gk with
  | zero => exact absurd HA.out (by simp [ebbtideref01_Sum.l0])
  | succ k1 =>
   have H := HA.out; clear HA; simp only [ebbtideref01_Sum.l0] at H
   by_cases c2 : x6_1 < (l0.length : Int)
   ·rw [if_pos c2] at H
    have c2b0 : decide (x6_1 < (l0.length : Int)) = true := decide_eq_true c2; clear c2
    by_cases c3 : 0 ≤ x6_1
    ·rw [if_pos c3] at H
     have c3b0 : decide (0 ≤ x6_1) = true := decide_eq_true c3; clear c3; have H' := Aside0.mk H; clear H; have p208 : 0 ≤ (x6_1 : Int) := of_decide_eq_true (by first | (with_reducible assumption) | assumption); have q208 : x6_1 < (l0.length : Int) := of_decide_eq_true (by first | (with_reducible assumption) | assumption); obtain ⟨ad208, e208, hx208_0⟩ := Kd.at_int HR0.out x6_1 p208 q208; cases e208; replace p208 := eq_true p208; replace q208 := eq_true q208; have p209 : 0 ≤ (x6_1 : Int) := of_decide_eq_true (by first | (with_reducible assumption) | assumption); have q209 : x6_1 < (l0.length : Int) := of_decide_eq_true (by first | (with_reducible assumption) | assumption); obtain ⟨ad209, e209, hx209_0⟩ := Kd.at_int HR0.out x6_1 p209 q209; obtain rfl : ad208 = ad209 := (by injection e209); replace p209 := eq_true p209; replace q209 := eq_true q209
     go_wp2
     go_roundg k1
     case measure => have := HK1.out; omega
     case rel => exact ⟨(wrap64 (x4_1 + ((rd l0 x6_1) / 4294967296))), (wrap64 (x5_1 + (Go.bits .and .i64 (rd l0 x6_1) 4294967295))), (wrap64 (x6_1 + 1)), (by first | rfl | (simp; done) | (simp [*]; done)), (by first | rfl | (simp; done) | (simp [*]; done)), (by first | rfl | (simp; done) | (simp [*]; done)), H', ⟨by have := HK1.out; omega⟩, by repeat (first | exact Drawn0.refl _ | apply Drawn0.step)⟩
    ·rw [if_neg c3] at H
     exact absurd H (by simp)
   ·rw [if_neg c2] at H
    have c2b0 : decide (x6_1 < (l0.length : Int)) = false := decide_eq_false c2; clear c2
    by_cases c4 : (wrap64 (x4_1 + (x5_1 / 4294967296))) < (-2147483648)
    ·rw [if_pos c4] at H
     have c4b0 : decide ((wrap64 (x4_1 + (x5_1 / 4294967296))) < (-2147483648)) = true := decide_eq_true c4; clear c4; simp only [Option.some.injEq, Prod.mk.injEq] at H; obtain ⟨rfl, rfl⟩ := H
     go_wp2
     go_ret2
     exact ⟨by first | rfl | (simp; done) | (simp [*]; done), by repeat (first | exact Drawn0.refl _ | apply Drawn0.step)⟩
    ·rw [if_neg c4] at H
     have c4b0 : decide ((wrap64 (x4_1 + (x5_1 / 4294967296))) < (-2147483648)) = false := decide_eq_false c4; clear c4
     by_cases c5 : (wrap64 (x4_1 + (x5_1 / 4294967296))) ≥ 2147483648
     ·rw [if_pos c5] at H
      have c5b0 : decide (2147483648 ≤ (wrap64 (x4_1 + (x5_1 / 4294967296)))) = true := decide_eq_true c5; clear c5; simp only [Option.some.injEq, Prod.mk.injEq] at H; obtain ⟨rfl, rfl⟩ := H
      go_wp2
      go_ret2
      exact ⟨by first | rfl | (simp; done) | (simp [*]; done), by repeat (first | exact Drawn0.refl _ | apply Drawn0.step)⟩
     ·rw [if_neg c5] at H
      have c5b0 : decide (2147483648 ≤ (wrap64 (x4_1 + (x5_1 / 4294967296)))) = false := decide_eq_false c5; clear c5; simp only [Option.some.injEq, Prod.mk.injEq] at H; obtain ⟨rfl, rfl⟩ := H
      go_wp2
      go_ret2
      exact ⟨by first | rfl | (simp; done) | (simp [*]; done), by repeat (first | exact Drawn0.refl _ | apply Drawn0.step)⟩
end Go.Proofs.Ytlcbpaenjjeenaa.Q
end
section
namespace Go.Proofs.Ytlcbpaenjjeenaa.P
open Go.RowKit Go.Proofs.Ytlcbpaenjjeenaa.Q Go.Proofs.YtlcbpaenjjeenaaW.PrintWords Go.Proofs.YtlcbpaenjjeenaaW.PrintLast Go.Proofs.YtlcbpaenjjeenaaW.PrintMore
theorem wi64 (n : Int) : IntKind.i64.wrap n = wrap64 n := by
  simp [IntKind.wrap, IntKind.bits, IntKind.signed, wrap64]; split <;> omega
theorem ofInt_nat (a : Int) : ((BitVec.ofInt 64 a).toNat : Int) = a % 18446744073709551616 := by
  rw [BitVec.toNat_ofInt]
  omega
theorem w64_id {n : Int} (h0 : -9223372036854775808 ≤ n) (h1 : n ≤ 9223372036854775807) : wrap64 n = n := by unfold wrap64; omega
theorem and_low {a : Int} (_h0 : -9223372036854775808 ≤ a) (_h1 : a ≤ 9223372036854775807) : Go.bits .and .i64 a 4294967295 = a % 4294967296 := by
  show IntKind.i64.wrap ((BitVec.ofInt 64 a &&& BitVec.ofInt 64 4294967295).toNat) = _
  have ha := ofInt_nat a
  have hm : (BitVec.ofInt 64 4294967295).toNat = 2 ^ 32 - 1 := by decide
  rw [wi64, BitVec.toNat_and, hm, Nat.and_two_pow_sub_one_eq_mod]
  unfold wrap64
  omega
def sh (l : List Int) : Int := (l.map fun x => x / 4294967296).sum
def sl (l : List Int) : Int := (l.map fun x => x % 4294967296).sum
theorem halves (l : List Int) : l.sum = sh l * 4294967296 + sl l := by
  unfold sh sl
  induction l with
  | nil => rfl
  | cons x r ih => simp only [List.map_cons, List.sum_cons, ih]; omega
theorem half_bd (l : List Int) (h : ∀ x ∈ l, -9223372036854775808 ≤ x ∧ x ≤ 9223372036854775807) : -2147483648 * (l.length : Int) ≤ sh l ∧ sh l ≤ 2147483647 * (l.length : Int) ∧ 0 ≤ sl l ∧ sl l ≤ 4294967295 * (l.length : Int) := by
  unfold sh sl
  induction l with
  | nil => simp
  | cons x r ih =>
    have := ih (fun y hy => h y (List.mem_cons_of_mem _ hy))
    have := h x List.mem_cons_self
    simp only [List.map_cons, List.sum_cons, List.length_cons]
    omega
theorem rsum_loop (l : List Int) (hl : l.length ≤ 1048576) (hw : ∀ x ∈ l, -9223372036854775808 ≤ x ∧ x ≤ 9223372036854775807) (d : Nat) : ∀ (j k : Nat), j + d = l.length → d < k →
    ebbtideref01_Sum.l0 k l (sh (l.take j)) (sl (l.take j)) (j : Int) = some (sumFit l.sum) := by
  induction d with
  | zero =>
    intro j k hj hk
    obtain ⟨k, rfl⟩ : ∃ m, k = m + 1 := ⟨k - 1, by omega⟩
    have hb := half_bd l hw
    have hs := halves l
    rw [ebbtideref01_Sum.l0, if_neg (by omega), List.take_of_length_le (by omega), and_low (by omega) (by omega), w64_id (n := sh l + sl l / 4294967296) (by omega) (by omega)]
    unfold sumFit
    by_cases c : -9223372036854775808 ≤ l.sum ∧ l.sum ≤ 9223372036854775807
    · rw [if_pos c, if_neg (by omega), if_neg (by omega), w64_id (n := (sh l + sl l / 4294967296) * 4294967296) (by omega) (by omega), w64_id (by omega) (by omega)]
      exact congrArg some (Prod.ext (by show _ = _; simp only; omega) rfl)
    · rw [if_neg c]
      by_cases c1 : sh l + sl l / 4294967296 < -2147483648
      · rw [if_pos c1]
      · rw [if_neg c1, if_pos (by omega)]
  | succ d ih =>
    intro j k hj hk
    obtain ⟨k, rfl⟩ : ∃ m, k = m + 1 := ⟨k - 1, by omega⟩
    have hlt : j < l.length := by omega
    have hx := hw l[j] (List.getElem_mem hlt)
    have hb := half_bd (l.take j) (fun x hx => hw x (List.mem_of_mem_take hx))
    have hlen : (l.take j).length = j := by rw [List.length_take]; omega
    rw [hlen] at hb
    have e1 : sh (l.take (j + 1)) = sh (l.take j) + l[j] / 4294967296 := by unfold sh; rw [List.take_succ_eq_append_getElem hlt, List.map_append, List.sum_append]; simp
    have e2 : sl (l.take (j + 1)) = sl (l.take j) + l[j] % 4294967296 := by unfold sl; rw [List.take_succ_eq_append_getElem hlt, List.map_append, List.sum_append]; simp
    rw [ebbtideref01_Sum.l0, if_pos (by omega), if_pos (by omega), rd_at hlt, and_low hx.1 hx.2, w64_id (n := sh (l.take j) + l[j] / 4294967296) (by omega) (by omega), w64_id (n := sl (l.take j) + l[j] % 4294967296) (by omega) (by omega), w64_id (n := (j : Int) + 1) (by omega) (by omega), ← e1, ← e2]
    exact ih (j + 1) k (by omega) (by omega)
theorem csum_eq {l : List Int} (hl : l.length ≤ 1152921504606846976) (hw : ∀ x ∈ l, -9223372036854775808 ≤ x ∧ x ≤ 9223372036854775807) : checked_Sum.f l = some (sumFit l.sum) := by
  unfold checked_Sum.f
  rw [if_pos]
  simp only [sumOk, Bool.and_eq_true, List.all_eq_true, decide_eq_true_eq]
  exact ⟨hw, hl⟩
theorem rsum_eq {l : List Int} (hl : l.length ≤ 1048576) (hw : ∀ x ∈ l, -9223372036854775808 ≤ x ∧ x ≤ 9223372036854775807) {k : Nat} (hk : l.length < k) : ebbtideref01_Sum.f k l = some (sumFit l.sum) :=
  rsum_loop l hl hw l.length 0 k (by omega) hk
end Go.Proofs.Ytlcbpaenjjeenaa.P
end
section
namespace Go.Proofs.Ytlcbpaenjjeenaa.P
open Go.Sort hiding rd
open Go.RowKit Go.Proofs.Ytlcbpaenjjeenaa.Q Go.Proofs.YtlcbpaenjjeenaaW.PrintWords Go.Proofs.YtlcbpaenjjeenaaW.PrintLast Go.Proofs.YtlcbpaenjjeenaaW.PrintMore
theorem ev_const {α : Type} {g : Nat → Option α} {r : α} (h : ∀ k, g (k + 1) = some r) : Ev g r := Ev.step h (Ev.now r)
theorem w1 {i : Nat} (h : i ≤ 4611686018427387904) : wrap64 ((i : Int) + 1) = ((i + 1 : Nat) : Int) := by unfold wrap64; omega
theorem rd_of {l : List Int} {i : Nat} (h : i < l.length) : rd l (i : Int) = l[i] := by unfold rd; simp [List.getD_eq_getElem?_getD, List.getElem?_eq_getElem h]
theorem rdL_of {l : List (List Int)} {i : Nat} (h : i < l.length) : rd_L2 l (i : Int) = l[i] := by unfold rd_L2; simp [List.getD_eq_getElem?_getD, List.getElem?_eq_getElem h]
theorem sumFit_pos {n : Int} (h : fits n) : sumFit n = (n, true) := by unfold sumFit; exact if_pos h
theorem sumFit_neg {n : Int} (h : ¬ fits n) : sumFit n = (0, false) := by unfold sumFit; exact if_neg h
def FitAll (l : List S56) (K : List (Int × Int)) : Prop := ∀ k ∈ K, fits (msum l k)
noncomputable instance (l : List S56) (K : List (Int × Int)) : Decidable (FitAll l K) := Classical.propDecidable _
theorem isKey_iff (x : S42) (k : Int × Int × Int) : isKey x k.1 k.2.1 k.2.2 = true ↔ keyA x = k := by
  unfold isKey keyA
  simp only [Bool.and_eq_true, beq_iff_eq]
  constructor
  · rintro ⟨h0, h1, h2⟩; exact Prod.ext h0 (Prod.ext h1 h2)
  · intro h; rw [← h]; exact ⟨rfl, rfl, rfl⟩
theorem findL_spec (l : List S42) (k : Int × Int × Int) (d : Nat) : ∀ j, j + d = l.length →
    ((∀ x ∈ l.drop j, keyA x ≠ k) ∧ findL k.1 k.2.1 k.2.2 (l.drop j) (j : Int) = -1) ∨
    (∃ (m : Nat) (hm : m < l.length), j ≤ m ∧ keyA l[m] = k ∧ findL k.1 k.2.1 k.2.2 (l.drop j) (j : Int) = (m : Int) ∧ ∀ m' (h : m' < l.length), j ≤ m' → m' < m → keyA l[m'] ≠ k) := by
  induction d with
  | zero =>
    intro j hj
    rw [List.drop_eq_nil_of_le (by omega)]
    exact .inl ⟨fun x hx => (by cases hx), rfl⟩
  | succ d ih =>
    intro j hj
    have hlt : j < l.length := by omega
    rw [findL_drop _ _ _ l hlt, List.drop_eq_getElem_cons hlt]
    by_cases c : keyA l[j] = k
    · rw [if_pos ((isKey_iff _ _).2 c)]
      exact .inr ⟨j, hlt, Nat.le_refl _, c, rfl, fun m' _ h1 h2 => by omega⟩
    · rw [if_neg (fun h => c ((isKey_iff _ _).1 h))]
      rcases ih (j + 1) (by omega) with ⟨h1, h2⟩ | ⟨m, hm, h1, h2, h3, h4⟩
      · refine .inl ⟨fun x hx => ?_, h2⟩
        rcases List.mem_cons.1 hx with rfl | hx
        · exact c
        · exact h1 x hx
      · refine .inr ⟨m, hm, by omega, h2, h3, fun m' hm' h5 h6 => ?_⟩
        by_cases e : m' = j
        · subst e; exact c
        · exact h4 m' hm' (by omega) h6
def OkA (x : S42) : Prop := fits x.f0 ∧ fits x.f1 ∧ fits x.f2 ∧ fits x.f3
theorem okA_good {x : S42} (h : OkA x) : good3 (keyA x) = true := by
  obtain ⟨h0, h1, _, h3⟩ := h
  unfold fits at h0 h1 h3
  unfold good3 keyA
  rw [wf_i64 h0.1 h0.2, wf_i64 h1.1 h1.2, wf_i64 h3.1 h3.2]
  rfl
theorem groups_ev (l : List S42) (hl : l.length ≤ 1048576) (hw : ∀ x ∈ l, OkA x) : Ev (fun k => table_Groups.f k l) (groups keyA l) := by
  unfold table_Groups.f
  exact Ev.bind (a := groups keyA l) ⟨l.length + 1, fun k hk => gatherA_eq l hl (fun x hx => okA_good (hw x hx)) (by omega)⟩ (Ev.now _)
def alt (a b : S42) : Prop := a.f0 < b.f0 ∨ a.f0 = b.f0 ∧ (a.f1 < b.f1 ∨ a.f1 = b.f1 ∧ a.f3 < b.f3)
instance (a b : S42) : Decidable (alt a b) := by unfold alt; exact inferInstance
def asum (l : List S42) (k : Int × Int × Int) : Int := sumK keyA S42.f2 l k
def AllFitA (l : List S42) : Prop := ∀ k ∈ keysOf keyA l, fits (asum l k)
noncomputable instance (l : List S42) : Decidable (AllFitA l) := Classical.propDecidable _
structure IsMergeA (l r : List S42) : Prop where
  sorted : r.Pairwise alt
  mem : ∀ m, m ∈ r ↔ keyA m ∈ keysOf keyA l ∧ m.f2 = asum l (keyA m)
theorem totalA_ev (l : List S42) (g : List Int) (hg : ∀ j ∈ g, 0 ≤ j ∧ j < (l.length : Int)) (hlen : g.length ≤ 1048576) (hl : ∀ x ∈ l, fits x.f2) :
    Ev (fun k => api_Arc_38.f k l g) (sumFit ((g.map fun j => (l.getD j.toNat z42).f2).sum)) := by
  have hloop : ∀ (d i : Nat), i + d = g.length → Ev (fun k => api_Arc_38.l0 k l (row g.length (fun j => if j < i then (rd_T42 l (g.getD j 0)).f2 else 0)) g (g.length : Int) (i : Int)) (sumFit ((g.map fun j => (l.getD j.toNat z42).f2).sum)) := by
    intro d
    induction d with
    | zero =>
      intro i hi
      have e : row g.length (fun j => if j < i then (rd_T42 l (g.getD j 0)).f2 else 0) = g.map fun j => (l.getD j.toNat z42).f2 := by
        apply List.ext_getElem?
        intro j
        rcases Nat.lt_or_ge j g.length with hj | hj
        · rw [row_get? _ _ _ hj, if_pos (by omega), List.getElem?_map, List.getElem?_eq_getElem hj, List.getD_eq_getElem?_getD, List.getElem?_eq_getElem hj]; rfl
        · rw [row_none _ _ _ hj, List.getElem?_eq_none (by rw [List.length_map]; exact hj)]
      have hs : checked_Sum.f (g.map fun j => (l.getD j.toNat z42).f2) = some (sumFit ((g.map fun j => (l.getD j.toNat z42).f2).sum)) := by
        refine csum_eq (by rw [List.length_map]; omega) (fun x hx => ?_)
        obtain ⟨j, hj, rfl⟩ := List.mem_map.1 hx
        have h1 := hg j hj
        have h2 : j.toNat < l.length := by omega
        rw [List.getD_eq_getElem?_getD, List.getElem?_eq_getElem h2]
        exact hl _ (List.getElem_mem h2)
      exact ev_const fun k => by rw [api_Arc_38.l0, if_neg (by omega), e, hs]; rfl
    | succ d ih =>
      intro i hi
      have hlt : i < g.length := by omega
      have h1 := hg g[i] (List.getElem_mem hlt)
      have hlen2 := row_length g.length (fun j => if j < i then (rd_T42 l (g.getD j 0)).f2 else 0)
      refine Ev.step (fun k => ?_) (ih (i + 1) (by omega))
      rw [api_Arc_38.l0, if_pos (by omega), if_pos (by omega), if_pos (by omega), rd_of hlt, if_pos h1.1, if_pos h1.2]
      simp only [table_Merge_1.f, Option.bind_some]
      rw [if_pos (by rw [hlen2]; omega), Int.toNat_natCast, row_set, w1 (by omega)]
      congr 1
      refine row_ext fun j hj => ?_
      by_cases c : j = i
      · subst c
        rw [if_pos rfl, if_pos (by omega), List.getD_eq_getElem?_getD, List.getElem?_eq_getElem hlt]; rfl
      · rw [if_neg c]
        by_cases c2 : j < i
        · rw [if_pos c2, if_pos (by omega)]
        · rw [if_neg c2, if_neg (by omega)]
  have h0 := hloop g.length 0 (by omega)
  refine Ev.congr (fun k => ?_) h0
  have e : row g.length (fun j => if j < 0 then (rd_T42 l (g.getD j 0)).f2 else 0) = row g.length (fun _ => (0 : Int)) := row_ext fun j _ => by rw [if_neg (by omega)]
  rw [e]
  unfold api_Arc_38.f
  rw [if_pos (by omega), if_pos (by omega), Int.toNat_natCast, row_replicate]
  rfl
def rawA (l : List S42) (K : List (Int × Int × Int)) : List S42 := K.map fun k => ⟨k.1, k.2.1, asum l k, k.2.2⟩
noncomputable def mergeA (l : List S42) : List S42 := srtL cfArc (rawA l (keysOf keyA l))
noncomputable def mergeAR (l : List S42) : List S42 × Int := if AllFitA l then (mergeA l, 0) else ([], 10)
theorem totalA_group (l : List S42) (hlen : l.length ≤ 1048576) (hl : ∀ x ∈ l, OkA x) (k : Int × Int × Int) : Ev (fun n => api_Arc_38.f n l (idxs keyA l k)) (sumFit (asum l k)) := by
  have h := totalA_ev l (idxs keyA l k) (idxs_bd keyA l k) (Nat.le_trans (idxs_length_le keyA l k) hlen) (fun x hx => (hl x hx).2.2.1)
  rw [idxs_vals keyA S42.f2 l k z42] at h
  exact h
def FitAllA (l : List S42) (K : List (Int × Int × Int)) : Prop := ∀ k ∈ K, fits (asum l k)
noncomputable instance (l : List S42) (K : List (Int × Int × Int)) : Decidable (FitAllA l K) := Classical.propDecidable _
theorem merge_loop (l : List S42) (hlen : l.length ≤ 1048576) (hl : ∀ x ∈ l, OkA x) (d : Nat) : ∀ (i : Nat), i + d = (keysOf keyA l).length →
    Ev (fun k => table_Merge.l0 k l (rawA l ((keysOf keyA l).take i)) (groups keyA l) ((groups keyA l).length : Int) (i : Int))
      (if FitAllA l ((keysOf keyA l).drop i) then (mergeA l, 0) else ([], 10)) := by
  have hkl := keysOf_length_le keyA l
  induction d with
  | zero =>
    intro i hi
    rw [List.drop_eq_nil_of_le (by omega), if_pos (by intro k hk; cases hk), List.take_of_length_le (by omega)]
    refine ev_const fun k => ?_
    rw [table_Merge.l0, if_neg (by rw [groups_length]; omega)]
    unfold api_Arc_40.f
    have : (rawA l (keysOf keyA l)).length = (keysOf keyA l).length := List.length_map _
    rw [if_pos (by omega)]
    rfl
  | succ d ih =>
    intro i hi
    have hlt : i < (keysOf keyA l).length := by omega
    have hlg : i < (groups keyA l).length := by rw [groups_length]; exact hlt
    obtain ⟨key, hkey⟩ : ∃ key, (keysOf keyA l)[i]? = some key := ⟨_, List.getElem?_eq_getElem hlt⟩
    have hmem := List.mem_of_getElem? hkey
    have hgi : rd_L2 (groups keyA l) (i : Int) = idxs keyA l key := by
      have h2 := groups_get keyA l i key hkey
      rw [rdL_of hlg]
      rw [List.getElem?_eq_getElem hlg] at h2
      exact Option.some.inj h2
    have hne := idxs_ne keyA l key ((mem_keysOf _ _ _).1 hmem)
    have hpos : 0 < (idxs keyA l key).length := List.length_pos_iff.2 hne
    have hmem0 : rd (idxs keyA l key) 0 ∈ idxs keyA l key := by
      have := rd_of hpos
      rw [show ((0 : Nat) : Int) = 0 from rfl] at this
      rw [this]
      exact List.getElem_mem hpos
    have hb := idxs_bd keyA l key _ hmem0
    have hk0 := idxs_key keyA l key z42 _ hmem0
    have ht := totalA_group l hlen hl key
    have hdrop : (keysOf keyA l).drop i = key :: (keysOf keyA l).drop (i + 1) := by
      rw [List.drop_eq_getElem_cons hlt]
      rw [List.getElem?_eq_getElem hlt] at hkey
      rw [Option.some.inj hkey]
    have htake : (keysOf keyA l).take (i + 1) = (keysOf keyA l).take i ++ [key] := by
      rw [List.take_succ_eq_append_getElem hlt]
      rw [List.getElem?_eq_getElem hlt] at hkey
      rw [Option.some.inj hkey]
    have hraw : (rawA l ((keysOf keyA l).take i)).length ≤ l.length := by
      unfold rawA
      rw [List.length_map, List.length_take]
      omega
    have hstep : ∀ k, table_Merge.l0 (k + 1) l (rawA l ((keysOf keyA l).take i)) (groups keyA l) ((groups keyA l).length : Int) (i : Int) =
        (api_Arc_38.f k l (idxs keyA l key)).bind fun bt => if bt.2 = true then table_Merge.l0 k l (rawA l ((keysOf keyA l).take i) ++ [⟨key.1, key.2.1, bt.1, key.2.2⟩]) (groups keyA l) ((groups keyA l).length : Int) ((i + 1 : Nat) : Int) else some ([], 10) := by
      intro k
      rw [table_Merge.l0, if_pos (by omega), if_pos (by omega), if_pos (by omega), hgi, if_pos (by omega), if_pos hb.1, if_pos hb.2]
      have hl9 : (rawA l ((keysOf keyA l).take i)).length < 4398046511104 := by omega
      have hw9 : wrap64 ((i : Int) + 1) = ((i + 1 : Nat) : Int) := w1 (by omega)
      have e0 : (rd_T42 l (rd (idxs keyA l key) 0)).f0 = key.1 := congrArg Prod.fst hk0
      have e1 : (rd_T42 l (rd (idxs keyA l key) 0)).f1 = key.2.1 := congrArg (fun z => z.2.1) hk0
      have e3 : (rd_T42 l (rd (idxs keyA l key) 0)).f3 = key.2.2 := congrArg (fun z => z.2.2) hk0
      simp only [e0, e1, e3, hl9, hw9, if_true]
    refine Ev.step hstep ?_
    refine Ev.bind ht ?_
    rw [hdrop]
    by_cases hf : fits (asum l key)
    · rw [sumFit_pos hf]
      have hif : (if FitAllA l (key :: (keysOf keyA l).drop (i + 1)) then (mergeA l, (0 : Int)) else ([], 10)) = (if FitAllA l ((keysOf keyA l).drop (i + 1)) then (mergeA l, 0) else ([], 10)) := by
        by_cases c : FitAllA l ((keysOf keyA l).drop (i + 1))
        · rw [if_pos c, if_pos (by intro k hk; rcases List.mem_cons.1 hk with rfl | hk; exact hf; exact c k hk)]
        · rw [if_neg c, if_neg (fun h => c (fun k hk => h k (List.mem_cons_of_mem _ hk)))]
      rw [hif]
      have hi2 := ih (i + 1) (by omega)
      rw [htake] at hi2
      unfold rawA at hi2
      rw [List.map_append] at hi2
      simp only [if_true]
      exact hi2
    · rw [sumFit_neg hf, if_neg (fun h => hf (h key List.mem_cons_self))]
      exact Ev.now _
theorem merge_ev (l : List S42) (hlen : l.length ≤ 1048576) (hl : ∀ x ∈ l, OkA x) : Ev (fun k => table_Merge.f k l) (mergeAR l) := by
  unfold table_Merge.f
  refine Ev.bind (groups_ev l hlen hl) ?_
  have h := merge_loop l hlen hl (keysOf keyA l).length 0 (by omega)
  have e : (if FitAllA l ((keysOf keyA l).drop 0) then (mergeA l, (0 : Int)) else ([], 10)) = mergeAR l := by
    unfold mergeAR
    by_cases c : AllFitA l
    · rw [if_pos c, if_pos (show FitAllA l ((keysOf keyA l).drop 0) from c)]
    · rw [if_neg c, if_neg (show ¬ FitAllA l ((keysOf keyA l).drop 0) from c)]
  rw [e] at h
  exact h
theorem lt_arc (x y : S42) : (ltOf cfArc x y = true) ↔ alt x y := ltArc_eq x y
theorem mergeA_is (l : List S42) : IsMergeA l (mergeA l) := by
  obtain ⟨hp, hs⟩ := srtL_spec swoArc (rawA l (keysOf keyA l))
  have hmem : ∀ m, m ∈ mergeA l ↔ keyA m ∈ keysOf keyA l ∧ m.f2 = asum l (keyA m) := by
    intro m
    unfold mergeA
    rw [hp.mem_iff]
    unfold rawA
    rw [List.mem_map]
    constructor
    · rintro ⟨k, hk, rfl⟩
      exact ⟨hk, rfl⟩
    · rintro ⟨h1, h2⟩
      refine ⟨keyA m, h1, ?_⟩
      rw [← h2]
      rfl
  refine ⟨?_, hmem⟩
  have hnd : ((mergeA l).map keyA).Nodup := by
    have h1 : ((rawA l (keysOf keyA l)).map keyA).Nodup := by
      have h2 : (rawA l (keysOf keyA l)).map keyA = keysOf keyA l := by
        unfold rawA
        rw [List.map_map]
        exact (List.map_congr_left fun k _ => rfl).trans (List.map_id _)
      rw [h2]
      exact nodup_keysOf keyA l
    exact ((hp.map keyA).nodup_iff).2 h1
  have hpair : (mergeA l).Pairwise (fun x y => ltOf cfArc y x = false ∧ keyA x ≠ keyA y) := by
    rw [List.pairwise_and_iff]
    exact ⟨hs, by rw [List.Nodup, List.pairwise_map] at hnd; exact hnd⟩
  refine hpair.imp ?_
  rintro x y ⟨h1, h2⟩
  rw [← Bool.not_eq_true, lt_arc] at h1
  have h3 : ¬ (x.f0 = y.f0 ∧ x.f1 = y.f1 ∧ x.f3 = y.f3) := fun h => h2 (by unfold keyA; rw [h.1, h.2.1, h.2.2])
  unfold alt at *
  omega
theorem mergeA_length (l : List S42) : (mergeA l).length = (keysOf keyA l).length := by
  unfold mergeA
  rw [srtL_length swoArc]
  exact List.length_map _
end Go.Proofs.Ytlcbpaenjjeenaa.P
end
section
namespace Go.Proofs.Ytlcbpaenjjeenaa.R
open Go.RowKit Go.Proofs.Ytlcbpaenjjeenaa.Q Go.Proofs.YtlcbpaenjjeenaaW.PrintWords Go.Proofs.YtlcbpaenjjeenaaW.PrintLast Go.Proofs.YtlcbpaenjjeenaaW.PrintMore
open Go.ChangeShapes Go.WideShapes Go.Deep
def Reads (t : TypeId) {α : Type} (d : Kd α) (G : Nat → α → Prop) : Prop :=
  ∀ {H : Type} (enc : TypeId × Value → H) (w : World) (base : Nat) (spare : Nat → Bool) (held : Bool) (fuel : Nat) (cs : List Value) (x : DataW H × List MemPlace),
    DataW.trod enc Try.prog w base spare held fuel t cs = some x → ∃ a, d.K w a cs ∧ ∀ N, Rows.uptoBulk x.1 ≤ N → G N a
def gInt (k : IntKind) (_ : Nat) (n : Int) : Prop := (Lit.int k n).wf = true
def gList {α : Type} (G : Nat → α → Prop) (N : Nat) (l : List α) : Prop := l.length ≤ maxLen ∧ l.length ≤ N ∧ ∀ x ∈ l, G N x
theorem readsInt {t : TypeId} {k : IntKind} (ht : Try.prog.underlying t = some (.int k)) : Reads t (Kd.int k) (gInt k) := by
  intro H enc w base spare held fuel cs x h
  obtain ⟨n, rfl, rfl, hw⟩ := DataW.trod_int ht h
  exact ⟨n, rfl, fun _ _ => hw⟩
theorem one_le {H : Type} (d : DataW H) : 1 ≤ Rows.uptoBulk d := by
  cases d with
  | lit l => cases l <;> simp [Rows.uptoBulk]
  | nil => simp [Rows.uptoBulk]
  | ptr d => simp [Rows.uptoBulk]
  | slice elems spare => simp [Rows.uptoBulk]
  | agg parts => simp [Rows.uptoBulk]
  | iface t d => simp [Rows.uptoBulk]
  | map entries => simp [Rows.uptoBulk]
  | held h => simp [Rows.uptoBulk]
theorem part_le {H : Type} {d : DataW H} {l : List (DataW H)} (h : d ∈ l) : Rows.uptoBulk d ≤ Rows.uptoBulkAll l := by
  induction l with
  | nil => cases h
  | cons x r ih =>
    simp only [Rows.uptoBulkAll]
    cases List.mem_cons.1 h with
    | inl e => subst e; omega
    | inr e => have := ih e; omega
theorem length_le {H : Type} (l : List (DataW H)) : l.length ≤ Rows.uptoBulkAll l := by
  induction l with
  | nil => simp [Rows.uptoBulkAll]
  | cons x r ih => have := one_le x; simp only [Rows.uptoBulkAll, List.length_cons]; omega
theorem readsSlice {t e : TypeId} {α : Type} [Inhabited α] {d : Kd α} {G : Nat → α → Prop} (ht : Try.prog.underlying t = some (.slice e)) (hc : Try.prog.cellsOf e = d.sz) (R : Reads e d G) : Reads t (Kd.slice e d) (gList G) := by
  intro H enc w base spare held fuel cs x h
  rcases open_slice ht h with ⟨rfl, rfl⟩ | ⟨a, len, cap, m, n, D, Pl, rfl, hb, hl, hm, hmm, rfl, hx⟩
  · exact ⟨[], ⟨none, 0, rfl, Nat.le_refl _, Kd.C_nil d w⟩, fun N _ => ⟨Nat.zero_le _, Nat.zero_le _, fun x hx => by cases hx⟩⟩
  · have hlm : len ≤ m := by rw [hmm]; split <;> omega
    obtain ⟨f, hf⟩ := choose_lt (α := α) (n := m) (p := fun i y => ∃ c, c.length = d.sz ∧ d.K w y c ∧ (∀ j u, c[j]? = some u → w.cell? (a.add (i * d.sz + j)) = some u) ∧ ∀ N, Rows.uptoBulk (D i) ≤ N → G N y) (fun i hi => by
      obtain ⟨c, h1, h2⟩ := hx i hi
      obtain ⟨y, hK, hG⟩ := R enc w base spare held n c _ h2
      obtain ⟨_, hlen, hcell⟩ := World.cells?_some h1
      rw [hc] at hlen hcell
      refine ⟨y, c, hlen, hK, fun j u hu => ?_, hG⟩
      have hj : j < d.sz := by rw [← hlen]; exact (List.getElem?_eq_some_iff.1 hu).1
      have := hcell j hj
      rw [Deep.add_add] at this
      rw [this, hu])
    have hL : ((List.range len).map f).length = len := by simp
    refine ⟨(List.range len).map f, ⟨some a, cap, by rw [hL], by rw [hL]; exact hl, ?_⟩, fun N hN => ?_⟩
    · refine ⟨rfl, by rw [hL]; exact Nat.le_trans hl (Nat.le_trans hm (by decide)), fun _ => ⟨a, rfl, fun j p hj => ?_⟩⟩
      have hjl : j < len := by
        have := (List.getElem?_eq_some_iff.1 hj).1
        rwa [hL] at this
      have hp : f j = p := by
        rw [List.getElem?_map, List.getElem?_range hjl] at hj
        exact Option.some.inj hj
      obtain ⟨c, h1, h2, h3, _⟩ := hf j (by omega)
      rw [hp] at h2
      exact ⟨c, h1, h2, h3⟩
    · have hbulk : Rows.uptoBulkAll ((List.range len).map D) ≤ N := by
        simp only [Rows.uptoBulk] at hN
        omega
      refine ⟨by rw [hL]; omega, by rw [hL]; have := length_le ((List.range len).map D); simp at this; omega, fun y hy => ?_⟩
      obtain ⟨i, hi, rfl⟩ := List.mem_map.1 hy
      have hi' := List.mem_range.1 hi
      obtain ⟨c, _, _, _, hG⟩ := hf i (by omega)
      exact hG N (Nat.le_trans (part_le (List.mem_map.2 ⟨i, hi, rfl⟩)) hbulk)
instance : Inhabited S42 := ⟨z42⟩
def g42 (N : Nat) (x : S42) : Prop := gInt .i64 N x.f0 ∧ gInt .i64 N x.f1 ∧ gInt .i64 N x.f2 ∧ gInt .i64 N x.f3
set_option maxRecDepth 100000 in
theorem reads42 : Reads 42 k42 g42 := by
  intro H enc w base spare held fuel cs x h
  obtain ⟨xs, n, _, hx, hl, hlen, hf⟩ := DataW.trod_struct Try.underlying42 h
  have hl2 : cs.length = 4 := hl.trans (by kernel_rfl)
  have hlen2 : xs.length = 4 := hlen
  match xs, hlen2, cs, hl2 with
  | [y0, y1, y2, y3], _, [v0, v1, v2, v3], _ =>
    have c0 : Try.prog.cellsOf 3 = 1 := by kernel_rfl
    have e0 : DataW.trod enc Try.prog w base spare held n 3 (List.take (Try.prog.cellsOf 3) (List.drop 0 [v0, v1, v2, v3])) = some y0 := hf 0 _ rfl
    rw [c0] at e0
    obtain ⟨a0, K0, G0⟩ := (readsInt Try.underlying3) enc w base spare held n [v0] y0 e0
    have c1 : Try.prog.cellsOf 3 = 1 := by kernel_rfl
    have e1 : DataW.trod enc Try.prog w base spare held n 3 (List.take (Try.prog.cellsOf 3) (List.drop 1 [v0, v1, v2, v3])) = some y1 := hf 1 _ rfl
    rw [c1] at e1
    obtain ⟨a1, K1, G1⟩ := (readsInt Try.underlying3) enc w base spare held n [v1] y1 e1
    have c2 : Try.prog.cellsOf 3 = 1 := by kernel_rfl
    have e2 : DataW.trod enc Try.prog w base spare held n 3 (List.take (Try.prog.cellsOf 3) (List.drop 2 [v0, v1, v2, v3])) = some y2 := hf 2 _ rfl
    rw [c2] at e2
    obtain ⟨a2, K2, G2⟩ := (readsInt Try.underlying3) enc w base spare held n [v2] y2 e2
    have c3 : Try.prog.cellsOf 3 = 1 := by kernel_rfl
    have e3 : DataW.trod enc Try.prog w base spare held n 3 (List.take (Try.prog.cellsOf 3) (List.drop 3 [v0, v1, v2, v3])) = some y3 := hf 3 _ rfl
    rw [c3] at e3
    obtain ⟨a3, K3, G3⟩ := (readsInt Try.underlying3) enc w base spare held n [v3] y3 e3
    refine ⟨⟨a0, a1, a2, a3⟩, ⟨_, _, rfl, K0, ⟨_, _, rfl, K1, ⟨_, _, rfl, K2, K3⟩⟩⟩, fun N hN => ?_⟩
    rw [hx] at hN
    simp only [List.map_cons, List.map_nil, Rows.uptoBulk, Rows.uptoBulkAll] at hN
    exact ⟨G0 N (by omega), G1 N (by omega), G2 N (by omega), G3 N (by omega)⟩
structure S24 where
  f0 : Int
  f1 : Int
  f2 : Int
def z24 : S24 := ⟨(0 : Int), (0 : Int), (0 : Int)⟩
def k24 : Kd S24 := Kd.iso (Kd.pair (Kd.int .i64) (Kd.pair (Kd.int .i64) (Kd.int .i64))) (fun x : S24 => (x.f0, x.f1, x.f2))
instance : Inhabited S24 := ⟨z24⟩
def g24 (N : Nat) (x : S24) : Prop := gInt .i64 N x.f0 ∧ gInt .i64 N x.f1 ∧ gInt .i64 N x.f2
set_option maxRecDepth 100000 in
theorem reads24 : Reads 24 k24 g24 := by
  intro H enc w base spare held fuel cs x h
  obtain ⟨xs, n, _, hx, hl, hlen, hf⟩ := DataW.trod_struct Try.underlying24 h
  have hl2 : cs.length = 3 := hl.trans (by kernel_rfl)
  have hlen2 : xs.length = 3 := hlen
  match xs, hlen2, cs, hl2 with
  | [y0, y1, y2], _, [v0, v1, v2], _ =>
    have c0 : Try.prog.cellsOf 3 = 1 := by kernel_rfl
    have e0 : DataW.trod enc Try.prog w base spare held n 3 (List.take (Try.prog.cellsOf 3) (List.drop 0 [v0, v1, v2])) = some y0 := hf 0 _ rfl
    rw [c0] at e0
    obtain ⟨a0, K0, G0⟩ := (readsInt Try.underlying3) enc w base spare held n [v0] y0 e0
    have c1 : Try.prog.cellsOf 3 = 1 := by kernel_rfl
    have e1 : DataW.trod enc Try.prog w base spare held n 3 (List.take (Try.prog.cellsOf 3) (List.drop 1 [v0, v1, v2])) = some y1 := hf 1 _ rfl
    rw [c1] at e1
    obtain ⟨a1, K1, G1⟩ := (readsInt Try.underlying3) enc w base spare held n [v1] y1 e1
    have c2 : Try.prog.cellsOf 3 = 1 := by kernel_rfl
    have e2 : DataW.trod enc Try.prog w base spare held n 3 (List.take (Try.prog.cellsOf 3) (List.drop 2 [v0, v1, v2])) = some y2 := hf 2 _ rfl
    rw [c2] at e2
    obtain ⟨a2, K2, G2⟩ := (readsInt Try.underlying3) enc w base spare held n [v2] y2 e2
    refine ⟨⟨a0, a1, a2⟩, ⟨_, _, rfl, K0, ⟨_, _, rfl, K1, K2⟩⟩, fun N hN => ?_⟩
    rw [hx] at hN
    simp only [List.map_cons, List.map_nil, Rows.uptoBulk, Rows.uptoBulkAll] at hN
    exact ⟨G0 N (by omega), G1 N (by omega), G2 N (by omega)⟩
instance : Inhabited S70 := ⟨z70⟩
instance : Inhabited S56 := ⟨z56⟩
end Go.Proofs.Ytlcbpaenjjeenaa.R
end
