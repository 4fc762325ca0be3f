/-
  The contract of checked.Sum (bits.Add64 is taken at the model's own entry): its answer is told by a plain Lean function. Conditions: the slice's elements are 64-bit numbers, at most 2^60 of them.
-/
import Derived.Test.YtbbddeacmjgpaaaQx0
import Derived.Laws.Externs
namespace Go.Proofs.Ytbbddeacmjgpaaa.Q
open Go.RowKit Go.Proofs.YtbbddeacmjgpaaaW.PrintWords Go.Proofs.YtbbddeacmjgpaaaW.PrintLast Go.Proofs.YtbbddeacmjgpaaaW.PrintMore
def sumFit (n : Int) : Int × Bool := if -9223372036854775808 ≤ n ∧ n ≤ 9223372036854775807 then (n, true) else (0, false)
def sumOk (l : List Int) : Bool := l.all (fun x => decide (-9223372036854775808 ≤ x) && decide (x ≤ 9223372036854775807)) && decide (l.length ≤ 1152921504606846976)
/-- The sum, if it fits, else (0, false); 'none' where an element is no 64-bit number. -/
def checked_Sum.f (l : List Int) : Option (Int × Bool) := if sumOk l = true then some (sumFit l.sum) else none
/-- the low half and the high half of the sum of the first j -/
def lowH (l : List Int) (j : Nat) : Int := (l.take j).sum % 18446744073709551616
def highH (l : List Int) (j : Nat) : Int := (l.take j).sum / 18446744073709551616
theorem sumOk_at {l : List Int} (h : sumOk l = true) (i : Nat) (hi : i < l.length) : -9223372036854775808 ≤ l[i] ∧ l[i] ≤ 9223372036854775807 := by
  simp only [sumOk, Bool.and_eq_true, List.all_eq_true, decide_eq_true_eq] at h
  exact h.1 _ (List.getElem_mem hi)
theorem take_sum (l : List Int) (j : Nat) (hj : j < l.length) : (l.take (j + 1)).sum = (l.take j).sum + l[j] := by
  rw [List.take_succ_eq_append_getElem hj, List.sum_append]; simp
theorem take_bd {l : List Int} (h : sumOk l = true) (j : Nat) : j ≤ l.length → -9223372036854775808 * (j : Int) ≤ (l.take j).sum ∧ (l.take j).sum ≤ 9223372036854775807 * (j : Int) := by
  induction j with
  | zero => simp
  | succ j ih =>
    intro hj
    have := ih (by omega)
    have := sumOk_at h j (by omega)
    rw [take_sum l j (by omega)]
    omega
theorem sumOk_len {l : List Int} (h : sumOk l = true) : l.length ≤ 1152921504606846976 := by
  simp only [sumOk, Bool.and_eq_true, decide_eq_true_eq] at h
  exact h.2
theorem high_bd {l : List Int} (h : sumOk l = true) (j : Nat) (hj : j ≤ l.length) : -1152921504606846976 ≤ highH l j ∧ highH l j ≤ 1152921504606846976 := by
  have := take_bd h j hj
  have := sumOk_len h
  unfold highH
  omega
theorem low_bd (l : List Int) (j : Nat) : 0 ≤ lowH l j ∧ lowH l j < 18446744073709551616 := by unfold lowH; omega
theorem rd_at {l : List Int} {j : Nat} (hj : j < l.length) : rd l (j : Int) = l[j] := by
  unfold rd; simp [List.getD_eq_getElem?_getD, List.getElem?_eq_getElem hj]
theorem wu64 (n : Int) : IntKind.u64.wrap n = n % 18446744073709551616 := by simp [IntKind.wrap, IntKind.bits, IntKind.signed]
theorem w64_id {n : Int} (h0 : -9223372036854775808 ≤ n) (h1 : n ≤ 9223372036854775807) : wrap64 n = n := by unfold wrap64; omega
theorem low_step {l : List Int} (j : Nat) (hj : j < l.length) : (lowH l j + IntKind.u64.wrap (rd l (j : Int))) % 18446744073709551616 = lowH l (j + 1) := by
  unfold lowH
  rw [rd_at hj, take_sum l j hj]
  rw [wu64]
  omega
theorem high_step {l : List Int} (h : sumOk l = true) (j : Nat) (hj : j < l.length) : wrap64 (highH l j + wrap64 (rd l (j : Int) / 9223372036854775808 + wrap64 ((lowH l j + IntKind.u64.wrap (rd l (j : Int))) / 18446744073709551616))) = highH l (j + 1) := by
  have h1 := high_bd h (j + 1) hj
  have h2 := high_bd h j (by omega)
  have h3 := sumOk_at h j hj
  have h0 := take_bd h j (by omega)
  unfold highH lowH at *
  rw [rd_at hj]
  rw [take_sum l j hj] at *
  rw [wu64]
  generalize (l.take j).sum = s at *
  generalize l[j] = a at *
  have k1 : 0 ≤ (s % 18446744073709551616 + a % 18446744073709551616) / 18446744073709551616 ∧ (s % 18446744073709551616 + a % 18446744073709551616) / 18446744073709551616 ≤ 1 := by omega
  have k2 : -1 ≤ a / 9223372036854775808 ∧ a / 9223372036854775808 ≤ 0 := by omega
  have k3 : s / 18446744073709551616 + (a / 9223372036854775808 + (s % 18446744073709551616 + a % 18446744073709551616) / 18446744073709551616) = (s + a) / 18446744073709551616 := by omega
  rw [← k3] at h1 ⊢
  generalize (s % 18446744073709551616 + a % 18446744073709551616) / 18446744073709551616 = c at *
  generalize a / 9223372036854775808 = b at *
  rw [w64_id (n := c) (by omega) (by omega), w64_id (n := b + c) (by omega) (by omega), w64_id (by omega) (by omega)]
theorem sum_end {l : List Int} (r : Int × Bool) (hr : sumFit l.sum = r) : (if (highH l l.length != wrap64 (lowH l l.length) / 9223372036854775808) = true then ((0 : Int), false) else (wrap64 (lowH l l.length), true)) = r := by
  rw [← hr]
  unfold highH lowH sumFit
  rw [List.take_length]
  by_cases c : -9223372036854775808 ≤ l.sum ∧ l.sum ≤ 9223372036854775807
  · rw [if_pos c, if_neg]
    · exact Prod.ext (by show wrap64 _ = _; unfold wrap64; omega) rfl
    · simp only [bne_iff_ne, ne_eq, Decidable.not_not]; unfold wrap64; omega
  · rw [if_neg c, if_pos]
    simp only [bne_iff_ne, ne_eq]; unfold wrap64; omega
theorem add64_run (x y : Int) (hx : 0 ≤ x) (hy : 0 ≤ y) (w : World) : (callFunc 46 #[.int .u64 x, .int .u64 y, .int .u64 0]).run Try.prog w =
    .ok (.value (.tuple #[.int .u64 ((x + y) % 18446744073709551616), .int .u64 ((x + y) / 18446744073709551616)])) w := by
  rw [run_callFunc_extern Try.func46 (by kernel_rfl) (by kernel_rfl) (by kernel_rfl) (e := add64Entry) (by kernel_rfl), run_add64 x y 0 hx hy (by decide) (by decide)]
  simp only [Result.andThen, Int.add_zero]
set_option maxHeartbeats 1000000 in
set_option maxRecDepth 100000 in
theorem checked_Sum.calls (A0 : Option Addr) (c0 : Nat) (l0 : List Int) (r1 : Int) (r2 : Bool) (w : World) (hr0 : Kd.C (Kd.int .i64) w A0 l0.length l0) (hc0 : l0.length ≤ c0) (h : checked_Sum.f l0 = some (r1, r2)) :
    Calls Try.prog 40 #[.slice A0 l0.length c0] w fun e w' => e = .returned (.tuple #[.int .i64 r1, .bool r2]) ∧ Drawn0 w w' := by
  have HR0 := Aside0.mk hr0
  have HC0 := Aside0.mk hc0
  clear hr0 hc0
  have hk : sumOk l0 = true := by
    unfold checked_Sum.f at h
    by_cases c : sumOk l0 = true
    · exact c
    · rw [if_neg c] at h; exact absurd h (by simp)
  have hv : sumFit l0.sum = (r1, r2) := by
    unfold checked_Sum.f at h
    rw [if_pos hk] at h
    exact Option.some.inj h
  have HK := Aside0.mk hk
  have HV := Aside0.mk (sum_end _ hv)
  have HLEN := Aside0.mk (sumOk_len hk)
  clear h hk hv
  go_enter Try.func40, Try.ntmps40
  go_wp2
  go_loopg [4, 5, 11] l0.length (fun kq v4 v5 v11 w' => ∃ j : Nat, v4 = .int .i64 (highH l0 j) ∧ v5 = .int .u64 (lowH l0 j) ∧ v11 = .int .i64 j ∧ Aside0 (j + kq = l0.length) ∧ Drawn0 w w')
  case atStart => exact ⟨0, rfl, rfl, rfl, ⟨by omega⟩, Drawn0.refl _⟩
  case round =>
    obtain ⟨j, rfl, rfl, rfl, HJ, ⟨m1, rfl⟩⟩ := hrel
    cases gk with
    | zero =>
      have c1 : decide ((j : Int) < (l0.length : Int)) = false := decide_eq_false (by have := HJ.out; omega)
      have c2 : decide (j < l0.length) = false := decide_eq_false (by have := HJ.out; omega)
      have hj : j = l0.length := by have := HJ.out; omega
      have HV1 := HV.out
      rw [← hj] at HV1
      have HV2 := Aside0.mk HV1
      clear HV HV1 hj
      by_cases c3 : (highH l0 j != wrap64 (lowH l0 j) / 9223372036854775808) = true
      · have H := HV2.out
        rw [if_pos c3] at H
        simp only [Prod.mk.injEq] at H
        obtain ⟨rfl, rfl⟩ := H
        clear HV2
        go_wp2
        go_ret2
        exact ⟨rfl, by repeat (first | exact Drawn0.refl _ | apply Drawn0.step)⟩
      · have H := HV2.out
        rw [if_neg c3] at H
        simp only [Prod.mk.injEq] at H
        obtain ⟨rfl, rfl⟩ := H
        have c4 : (highH l0 j != wrap64 (lowH l0 j) / 9223372036854775808) = false := by simpa using c3
        clear HV2 c3
        go_wp2
        go_ret2
        exact ⟨rfl, by repeat (first | exact Drawn0.refl _ | apply Drawn0.step)⟩
    | succ gk =>
      have c1 : decide ((j : Int) < (l0.length : Int)) = true := decide_eq_true (by have := HJ.out; omega)
      have c2 : decide (j < l0.length) = true := decide_eq_true (by have := HJ.out; omega)
      obtain ⟨ad, e220, hx220⟩ := Kd.at_int HR0.out (j : Int) (by omega) (by have := HJ.out; omega)
      cases e220
      have hx : w.cell? (ad.add j) = some (.int .i64 (rd l0 (j : Int))) := by simpa using hx220
      clear hx220
      have p1 := eq_true (show (0 : Int) ≤ (j : Int) by omega)
      have p2 := eq_true (show (j : Int) < (l0.length : Int) by have := HJ.out; omega)
      have HS := Aside0.mk (high_step HK.out j (by have := HJ.out; omega))
      have HT := Aside0.mk (low_step (l := l0) j (by have := HJ.out; omega))
      have hl1 := (low_bd l0 j).1
      have hl2 : 0 ≤ IntKind.u64.wrap (rd l0 (j : Int)) := by rw [wu64]; omega
      have LB := Aside0.mk hl1
      go_wp2_with (simp only [add64_run _ _ hl1 hl2])
      go_roundg gk
      case measure => omega
      case rel => exact ⟨j + 1, congrArg (Value.int .i64) HS.out, congrArg (Value.int .u64) HT.out, congrArg (Value.int .i64) (by have := HJ.out; have := HLEN.out; rw [w64_id (by omega) (by omega)]; rfl), ⟨by have := HJ.out; omega⟩, by repeat (first | exact Drawn0.refl _ | apply Drawn0.step)⟩
end Go.Proofs.Ytbbddeacmjgpaaa.Q
