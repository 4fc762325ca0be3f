/-
  Plain lemmas on what the printed functions of the checked layer answer (numbers, no Go): products, sums, shifts, widths, halves, bytes. Conditions: none beyond those written in each lemma.
-/
import Derived.Test.YtbbddeacmjgpaaaQx7
import Derived.OpenShut
namespace Go.Proofs.Ytbbddeacmjgpaaa.M
open Go.RowKit Go.Proofs.Ytbbddeacmjgpaaa.Q Go.Proofs.YtbbddeacmjgpaaaW.PrintWords Go.Proofs.YtbbddeacmjgpaaaW.PrintLast Go.Proofs.YtbbddeacmjgpaaaW.PrintMore

theorem wu64 (n : Int) : IntKind.u64.wrap n = n % 18446744073709551616 := by simp [IntKind.wrap, IntKind.bits, IntKind.signed]
theorem wi64 (n : Int) : IntKind.i64.wrap n = wrap64 n := by
  simp [IntKind.wrap, IntKind.bits, IntKind.signed, wrap64]; split <;> omega
theorem wi8 (n : Int) : IntKind.i8.wrap n = (n + 128) % 256 - 128 := by
  simp [IntKind.wrap, IntKind.bits, IntKind.signed]; split <;> omega
theorem wi16 (n : Int) : IntKind.i16.wrap n = (n + 32768) % 65536 - 32768 := by
  simp [IntKind.wrap, IntKind.bits, IntKind.signed]; split <;> omega
theorem w64_id {n : Int} (h0 : -9223372036854775808 ≤ n) (h1 : n ≤ 9223372036854775807) : wrap64 n = n := by unfold wrap64; omega
theorem ofInt_nat (a : Int) : ((BitVec.ofInt 64 a).toNat : Int) = a % 18446744073709551616 := by
  rw [BitVec.toNat_ofInt]
  omega
theorem msb_iff (v : BitVec 64) : (wrap64 v.toNat < 0) ↔ v.msb = true := by
  have h := v.isLt
  rw [BitVec.msb_eq_decide, decide_eq_true_iff]
  unfold wrap64
  omega
theorem msb_ofInt {a : Int} (h0 : -9223372036854775808 ≤ a) (h1 : a ≤ 9223372036854775807) : (BitVec.ofInt 64 a).msb = decide (a < 0) := by
  have h := ofInt_nat a
  rw [BitVec.msb_eq_decide]
  congr 1
  rw [eq_iff_iff]
  omega
theorem xor_neg {a b : Int} (h0 : -9223372036854775808 ≤ a) (h1 : a ≤ 9223372036854775807) (h2 : -9223372036854775808 ≤ b) (h3 : b ≤ 9223372036854775807) :
    (Go.bits .xor .i64 a b < 0) ↔ ¬ (a < 0 ↔ b < 0) := by
  show (IntKind.i64.wrap ((BitVec.ofInt 64 a ^^^ BitVec.ofInt 64 b).toNat) < 0) ↔ _
  rw [wi64, msb_iff, BitVec.msb_xor, msb_ofInt h0 h1, msb_ofInt h2 h3]
  by_cases x : a < 0 <;> by_cases y : b < 0 <;> simp [x, y]
theorem and_neg {a b : Int} (h0 : -9223372036854775808 ≤ a) (h1 : a ≤ 9223372036854775807) (h2 : -9223372036854775808 ≤ b) (h3 : b ≤ 9223372036854775807) :
    (Go.bits .and .i64 a b < 0) ↔ (a < 0 ∧ b < 0) := by
  show (IntKind.i64.wrap ((BitVec.ofInt 64 a &&& BitVec.ofInt 64 b).toNat) < 0) ↔ _
  rw [wi64, msb_iff, BitVec.msb_and, msb_ofInt h0 h1, msb_ofInt h2 h3]
  by_cases x : a < 0 <;> by_cases y : b < 0 <;> simp [x, y]
theorem xor_range (a b : Int) : -9223372036854775808 ≤ Go.bits .xor .i64 a b ∧ Go.bits .xor .i64 a b ≤ 9223372036854775807 := by
  show -9223372036854775808 ≤ IntKind.i64.wrap ((BitVec.ofInt 64 a ^^^ BitVec.ofInt 64 b).toNat) ∧ IntKind.i64.wrap ((BitVec.ofInt 64 a ^^^ BitVec.ofInt 64 b).toNat) ≤ 9223372036854775807
  rw [wi64]; unfold wrap64; omega
theorem w64_range (n : Int) : -9223372036854775808 ≤ wrap64 n ∧ wrap64 n ≤ 9223372036854775807 := by unfold wrap64; omega
theorem and_mask {a : Int} (h0 : 0 ≤ a) (h1 : a < 18446744073709551616) : Go.bits .and .u64 a 4294967295 = a % 4294967296 := by
  have := bits_mask .u64 64 (by decide) (fun n h h' => by rw [wu64]; omega) 32 (by decide) a h0 (by omega)
  simpa using this
theorem or_join {x y : Int} (h0 : -9223372036854775808 ≤ x) (h1 : x ≤ 9223372036854775807) (hm : x % 4294967296 = 0) (h2 : 0 ≤ y) (h3 : y < 4294967296) : Go.bits .or .i64 x y = x + y := by
  show IntKind.i64.wrap ((BitVec.ofInt 64 x ||| BitVec.ofInt 64 y).toNat) = _
  have hx := ofInt_nat x
  have hy := ofInt_nat y
  rw [wi64, BitVec.toNat_or]
  have e : (BitVec.ofInt 64 x).toNat = 2 ^ 32 * ((BitVec.ofInt 64 x).toNat / 4294967296) := by omega
  rw [e, ← Nat.two_pow_add_eq_or_of_lt (by omega)]
  unfold wrap64
  omega
theorem shl_pos {x : Int} {n : Int} (h0 : 0 ≤ n) (h1 : n ≤ 63) : shl .i64 x n = wrap64 (x * 2 ^ n.toNat) := by
  unfold shl
  rw [wi64, Nat.min_eq_left (by simp [IntKind.bits]; omega)]
theorem shr_pos {x : Int} {n : Int} (_h0 : 0 ≤ n) (h1 : n ≤ 63) : shr .i64 x n = x / 2 ^ n.toNat := by
  unfold shr
  rw [Nat.min_eq_left (by simp [IntKind.bits]; omega)]
/-- What is shifted up and down again: the lowest bits as a number. -/
theorem updown (x : Int) (n b : Nat) (hb : n + (b + 1) = 64) : wrap64 (x * 2 ^ n) / 2 ^ n = (x + 2 ^ b) % 2 ^ (b + 1) - 2 ^ b := by
  have e1 : (2 : Int) ^ n * 2 ^ b = 9223372036854775808 := by
    rw [← Int.pow_add, show n + b = 63 by omega]; rfl
  have e2 : (2 : Int) ^ n * 2 ^ (b + 1) = 18446744073709551616 := by
    rw [← Int.pow_add, hb]; rfl
  have hp : (0 : Int) < 2 ^ n := Int.pow_pos (by decide)
  unfold wrap64
  rw [← e2, ← e1, Int.mul_comm x, ← Int.mul_add, Int.mul_emod_mul_of_pos _ _ hp, ← Int.mul_sub, Int.mul_ediv_cancel_left _ (by omega)]
theorem pow_pos2 (b : Nat) : (0 : Int) < 2 ^ b := Int.pow_pos (by decide)
theorem pow_two_succ (b : Nat) : (2 : Int) ^ (b + 1) = 2 ^ b + 2 ^ b := by rw [Int.pow_succ]; omega
/-- The pair (n, true) if n fits into 64 bits, else (0, false). -/
def fitS (n : Int) : Int × Bool := if -9223372036854775808 ≤ n ∧ n ≤ 9223372036854775807 then (n, true) else (0, false)

theorem awake_true : ebbtidelaw01_awake.f 20 = some true := by decide +kernel
theorem awake_ev : Ev (fun k => ebbtidelaw01_awake.f k) true := Ev.of (fun k => ebbtidelaw01_awake.mono k) awake_true

theorem mul64_eq {x y : Int} (hx0 : 0 ≤ x) (hx1 : x < 18446744073709551616) (hy0 : 0 ≤ y) (hy1 : y < 18446744073709551616) :
    bits_Mul64.f x y = some (x * y / 18446744073709551616, x * y % 18446744073709551616) := by
  unfold bits_Mul64.f
  simp only [wu64, and_mask hx0 hx1, and_mask hy0 hy1]
  have hX : x = x / 4294967296 * 4294967296 + x % 4294967296 := by omega
  have hY : y = y / 4294967296 * 4294967296 + y % 4294967296 := by omega
  have a1 : 0 ≤ x / 4294967296 ∧ x / 4294967296 ≤ 4294967295 := by omega
  have a0 : 0 ≤ x % 4294967296 ∧ x % 4294967296 ≤ 4294967295 := by omega
  have b1 : 0 ≤ y / 4294967296 ∧ y / 4294967296 ≤ 4294967295 := by omega
  have b0 : 0 ≤ y % 4294967296 ∧ y % 4294967296 ≤ 4294967295 := by omega
  generalize x / 4294967296 = x1 at *
  generalize x % 4294967296 = x0 at *
  generalize y / 4294967296 = y1 at *
  generalize y % 4294967296 = y0 at *
  have e : x * y = x1 * y1 * 18446744073709551616 + (x1 * y0 + x0 * y1) * 4294967296 + x0 * y0 := by
    rw [hX, hY]
    simp only [Int.add_mul, Int.mul_add]
    have r1 : x1 * 4294967296 * (y1 * 4294967296) = x1 * y1 * 18446744073709551616 := by
      rw [Int.mul_assoc, Int.mul_left_comm 4294967296, ← Int.mul_assoc]; rfl
    have r2 : x1 * 4294967296 * y0 = x1 * y0 * 4294967296 := by rw [Int.mul_right_comm]
    have r3 : x0 * (y1 * 4294967296) = x0 * y1 * 4294967296 := by rw [Int.mul_assoc]
    rw [r1, r2, r3]; omega
  have bd : ∀ a b : Int, 0 ≤ a ∧ a ≤ 4294967295 → 0 ≤ b ∧ b ≤ 4294967295 → 0 ≤ a * b ∧ a * b ≤ 18446744065119617025 := by
    intro a b ha hb
    refine ⟨Int.mul_nonneg ha.1 hb.1, ?_⟩
    calc a * b ≤ 4294967295 * b := Int.mul_le_mul_of_nonneg_right ha.2 hb.1
      _ ≤ 4294967295 * 4294967295 := Int.mul_le_mul_of_nonneg_left hb.2 (by decide)
  have h11 := bd x1 y1 a1 b1
  have h10 := bd x1 y0 a1 b0
  have h01 := bd x0 y1 a0 b1
  have h00 := bd x0 y0 a0 b0
  rw [e]
  generalize x1 * y1 = p11 at *
  generalize x1 * y0 = p10 at *
  generalize x0 * y1 = p01 at *
  generalize x0 * y0 = p00 at *
  rw [and_mask (by omega) (by omega)]
  refine congrArg some (Prod.ext ?_ ?_)
  · show _ = _
    simp only
    omega
  · rfl
theorem csize_eq {a : Int} (h0 : -9223372036854775808 ≤ a) (h1 : a ≤ 9223372036854775807) : checked_size.f a = some (a.natAbs : Int) := by
  unfold checked_size.f
  simp only [wu64]
  split
  · exact congrArg some (by omega)
  · exact congrArg some (by omega)
theorem natAbs_prod (a b : Int) : ((a.natAbs : Int) * (b.natAbs : Int)) = if (a < 0 ↔ b < 0) then a * b else -(a * b) := by
  by_cases x : a < 0 <;> by_cases y : b < 0
  · rw [if_pos (by simp [x, y]), Int.ofNat_natAbs_of_nonpos (by omega), Int.ofNat_natAbs_of_nonpos (by omega), Int.neg_mul_neg]
  · rw [if_neg (by simp [x, y]), Int.ofNat_natAbs_of_nonpos (by omega), Int.natAbs_of_nonneg (by omega), Int.neg_mul]
  · rw [if_neg (by simp [x, y]), Int.natAbs_of_nonneg (by omega), Int.ofNat_natAbs_of_nonpos (by omega), Int.mul_neg]
  · rw [if_pos (by simp [x, y]), Int.natAbs_of_nonneg (by omega), Int.natAbs_of_nonneg (by omega)]
theorem natAbs_bd {a : Int} (h0 : -9223372036854775808 ≤ a) (h1 : a ≤ 9223372036854775807) : 0 ≤ (a.natAbs : Int) ∧ (a.natAbs : Int) ≤ 9223372036854775808 := by omega
theorem prod_bd {x y : Int} (hx : 0 ≤ x ∧ x ≤ 9223372036854775808) (hy : 0 ≤ y ∧ y ≤ 9223372036854775808) : 0 ≤ x * y ∧ x * y ≤ 85070591730234615865843651857942052864 := by
  refine ⟨Int.mul_nonneg hx.1 hy.1, ?_⟩
  calc x * y ≤ 9223372036854775808 * y := Int.mul_le_mul_of_nonneg_right hx.2 hy.1
    _ ≤ 9223372036854775808 * 9223372036854775808 := Int.mul_le_mul_of_nonneg_left hy.2 (by decide)
theorem cmul_eq {a b : Int} (h0 : -9223372036854775808 ≤ a) (h1 : a ≤ 9223372036854775807) (h2 : -9223372036854775808 ≤ b) (h3 : b ≤ 9223372036854775807) (k : Nat) :
    checked_Mul.f (k + 2) a b = some (fitS (a * b)) := by
  have ha := natAbs_bd h0 h1
  have hb := natAbs_bd h2 h3
  have hp := prod_bd ha hb
  have hn := natAbs_prod a b
  unfold checked_Mul.f
  rw [csize_eq h0 h1, csize_eq h2 h3]
  simp only [Option.bind_some]
  rw [mul64_eq (by omega) (by omega) (by omega) (by omega)]
  simp only [Option.bind_some, checked_Mul.j0, checked_Mul.j1]
  generalize (a.natAbs : Int) * (b.natAbs : Int) = p at *
  by_cases hs : (a < 0 ↔ b < 0)
  · have e0 : decide (a < 0) = decide (b < 0) := decide_eq_decide.mpr hs
    have e1 : (decide (a < 0) != decide (b < 0)) = false := by rw [e0]; simp
    have e2 : (decide (a < 0) == decide (b < 0)) = true := by rw [e0]; simp
    rw [if_pos hs] at hn
    rw [e1, e2, ← hn]
    simp only [Bool.false_eq_true, if_false, if_true, fitS]
    by_cases q : p / 18446744073709551616 = 0
    · rw [if_pos q]
      by_cases q1 : p % 18446744073709551616 > 9223372036854775808
      · rw [if_pos (by simpa using q1), if_neg (by omega)]
      · rw [if_neg (by simpa using q1)]
        by_cases q2 : p % 18446744073709551616 = 9223372036854775808
        · rw [if_pos q2, if_neg (by omega)]
        · rw [if_neg q2, if_pos (by omega)]
          refine congrArg some (Prod.ext ?_ rfl)
          show wrap64 _ = _
          unfold wrap64; omega
    · rw [if_neg q, if_pos (by simpa using q), if_neg (by omega)]
  · have e0 : decide (a < 0) ≠ decide (b < 0) := fun h => hs (decide_eq_decide.mp h)
    have e1 : (decide (a < 0) != decide (b < 0)) = true := bne_iff_ne.mpr e0
    have e2 : (decide (a < 0) == decide (b < 0)) = false := beq_eq_false_iff_ne.mpr e0
    rw [if_neg hs] at hn
    rw [e1, e2]
    simp only [Bool.false_eq_true, if_false, if_true, fitS]
    generalize a * b = m at *
    by_cases q : p / 18446744073709551616 = 0
    · rw [if_pos q]
      by_cases q1 : p % 18446744073709551616 > 9223372036854775808
      · rw [if_pos (by simpa using q1), if_neg (by omega)]
      · rw [if_neg (by simpa using q1), ite_self, if_pos (by omega)]
        refine congrArg some (Prod.ext ?_ rfl)
        show wrap64 _ = _
        unfold wrap64; omega
    · rw [if_neg q, if_pos (by simpa using q), if_neg (by omega)]

theorem rsize_eq {a : Int} (h0 : -9223372036854775808 ≤ a) (h1 : a ≤ 9223372036854775807) : ebbtideref01_size.f a = some (a.natAbs : Int) := by
  unfold ebbtideref01_size.f
  simp only [wu64]
  split
  · exact congrArg some (by unfold wrap64; omega)
  · exact congrArg some (by omega)
/-- What is told in the end, of the size p of the product. -/
theorem rend (p m : Int) (neg : Bool) (hp : 0 ≤ p ∧ p < 18446744073709551616) (hm : m = if neg = true then -p else p) (k : Nat) (x70 : Bool) (h70 : x70 = if neg = true then decide (p > 9223372036854775808) else decide (p > 9223372036854775807)) :
    ebbtideref01_Mul.j1 (k + 1) neg p x70 = some (fitS m) := by
  simp only [ebbtideref01_Mul.j1, wu64]
  cases neg
  · simp only [Bool.false_eq_true, if_false] at hm h70
    rw [h70]
    by_cases q : p > 9223372036854775807
    · rw [if_pos (by simpa using q), fitS, if_neg (by omega)]
    · rw [if_neg (by simpa using q), if_neg (by decide), fitS, if_pos (by omega)]
      exact congrArg some (Prod.ext (by show wrap64 _ = _; unfold wrap64; omega) rfl)
  · simp only [if_true] at hm h70
    rw [h70]
    by_cases q : p > 9223372036854775808
    · rw [if_pos (by simpa using q), fitS, if_neg (by omega)]
    · rw [if_neg (by simpa using q), if_pos rfl]
      by_cases q1 : p > 0
      · rw [if_pos q1, fitS, if_pos (by omega)]
        exact congrArg some (Prod.ext (by show wrap64 _ = _; unfold wrap64; omega) rfl)
      · rw [if_neg q1, fitS, if_pos (by omega)]
        exact congrArg some (Prod.ext (by show wrap64 _ = _; unfold wrap64; omega) rfl)
theorem rmul_j0 (neg : Bool) (x1 x0 y1 y0 m : Int) (a1 : 0 ≤ x1 ∧ x1 ≤ 2147483648) (a0 : 0 ≤ x0 ∧ x0 ≤ 4294967295) (b1 : 0 ≤ y1 ∧ y1 ≤ 2147483648) (b0 : 0 ≤ y0 ∧ y0 ≤ 4294967295)
    (hm : m = if neg = true then -((x1 * 4294967296 + x0) * (y1 * 4294967296 + y0)) else (x1 * 4294967296 + x0) * (y1 * 4294967296 + y0)) (k : Nat) :
    ebbtideref01_Mul.j0 (k + 2) neg x1 x0 y1 y0 (decide (x1 > 0) && decide (y1 > 0)) = some (fitS m) := by
  have bd : ∀ a b : Int, 0 ≤ a ∧ a ≤ 4294967295 → 0 ≤ b ∧ b ≤ 4294967295 → 0 ≤ a * b ∧ a * b ≤ 18446744065119617025 := by
    intro a b ha hb
    refine ⟨Int.mul_nonneg ha.1 hb.1, ?_⟩
    calc a * b ≤ 4294967295 * b := Int.mul_le_mul_of_nonneg_right ha.2 hb.1
      _ ≤ 4294967295 * 4294967295 := Int.mul_le_mul_of_nonneg_left hb.2 (by decide)
  have e : (x1 * 4294967296 + x0) * (y1 * 4294967296 + y0) = x1 * y1 * 18446744073709551616 + (x1 * y0 + x0 * y1) * 4294967296 + x0 * y0 := by
    simp only [Int.add_mul, Int.mul_add]
    have r1 : x1 * 4294967296 * (y1 * 4294967296) = x1 * y1 * 18446744073709551616 := by
      rw [Int.mul_assoc, Int.mul_left_comm 4294967296, ← Int.mul_assoc]; rfl
    have r2 : x1 * 4294967296 * y0 = x1 * y0 * 4294967296 := by rw [Int.mul_right_comm]
    have r3 : x0 * (y1 * 4294967296) = x0 * y1 * 4294967296 := by rw [Int.mul_assoc]
    rw [r1, r2, r3]; omega
  rw [e] at hm
  have h10 := bd x1 y0 (by omega) b0
  have h01 := bd x0 y1 a0 (by omega)
  have h00 := bd x0 y0 a0 b0
  rw [ebbtideref01_Mul.j0]
  simp only [wu64]
  by_cases hh : x1 > 0 ∧ y1 > 0
  · have : 1 ≤ x1 * y1 := Int.mul_pos hh.1 hh.2
    generalize x1 * y1 = p11 at *
    generalize x1 * y0 = p10 at *
    generalize x0 * y1 = p01 at *
    generalize x0 * y0 = p00 at *
    rw [if_pos (by simpa using hh), fitS, if_neg]
    cases neg
    · simp only [Bool.false_eq_true, if_false] at hm; omega
    · simp only [if_true] at hm; omega
  · rw [if_neg (by simpa using hh)]
    have hz : x1 * y1 = 0 ∧ (x1 * y0 = 0 ∨ x0 * y1 = 0) := by
      by_cases h : x1 = 0
      · subst h; simp
      · have : y1 = 0 := by omega
        subst this; simp
    rw [hz.1] at hm
    have hz2 := hz.2
    clear hz hh a1 a0 b1 b0 bd e
    generalize x1 * y0 = p10 at *
    generalize x0 * y1 = p01 at *
    generalize x0 * y0 = p00 at *
    have hmid : (p10 % 18446744073709551616 + p01 % 18446744073709551616) % 18446744073709551616 = p10 + p01 := by omega
    rw [hmid]
    generalize hq : p10 + p01 = mid at *
    have h0 : 0 ≤ mid := by omega
    by_cases q1 : mid ≥ 4294967296
    · rw [if_pos q1, fitS, if_neg]
      cases neg
      · simp only [Bool.false_eq_true, if_false] at hm; omega
      · simp only [if_true] at hm; omega
    · rw [if_neg q1]
      have h00' : p00 % 18446744073709551616 = p00 := by omega
      have hmm : mid * 4294967296 % 18446744073709551616 = mid * 4294967296 := by omega
      rw [h00', hmm]
      by_cases q2 : (mid * 4294967296 + p00) % 18446744073709551616 < p00
      · rw [if_pos q2, fitS, if_neg]
        cases neg
        · simp only [Bool.false_eq_true, if_false] at hm; omega
        · simp only [if_true] at hm; omega
      · rw [if_neg q2]
        have hs : (mid * 4294967296 + p00) % 18446744073709551616 = mid * 4294967296 + p00 := by omega
        rw [hs]
        have hm' : m = if neg = true then -(mid * 4294967296 + p00) else mid * 4294967296 + p00 := by
          rw [hm]; cases neg <;> simp
        have hr : 0 ≤ mid * 4294967296 + p00 ∧ mid * 4294967296 + p00 < 18446744073709551616 := by omega
        generalize mid * 4294967296 + p00 = p at *
        cases neg
        · rw [if_neg (by decide)]
          exact rend p m false hr hm' k _ (by simp)
        · rw [if_pos rfl]
          by_cases q : p > 9223372036854775808
          · rw [if_pos q]; exact rend p m true hr hm' k _ (by simpa using q)
          · rw [if_neg q]; exact rend p m true hr hm' k _ (by simpa using q)
theorem rmul_eq {a b : Int} (h0 : -9223372036854775808 ≤ a) (h1 : a ≤ 9223372036854775807) (h2 : -9223372036854775808 ≤ b) (h3 : b ≤ 9223372036854775807) (k : Nat) :
    ebbtideref01_Mul.f (k + 2) a b = some (fitS (a * b)) := by
  have ha := natAbs_bd h0 h1
  have hb := natAbs_bd h2 h3
  have hn := natAbs_prod a b
  unfold ebbtideref01_Mul.f
  rw [rsize_eq h0 h1, rsize_eq h2 h3]
  simp only [Option.bind_some]
  rw [and_mask (by omega) (by omega), and_mask (by omega) (by omega)]
  have e : ∀ x : Bool, (if (a.natAbs : Int) / 4294967296 > 0 then ebbtideref01_Mul.j0 (k + 2) x ((a.natAbs : Int) / 4294967296) ((a.natAbs : Int) % 4294967296) ((b.natAbs : Int) / 4294967296) ((b.natAbs : Int) % 4294967296) (decide ((b.natAbs : Int) / 4294967296 > 0))
      else ebbtideref01_Mul.j0 (k + 2) x ((a.natAbs : Int) / 4294967296) ((a.natAbs : Int) % 4294967296) ((b.natAbs : Int) / 4294967296) ((b.natAbs : Int) % 4294967296) false)
      = ebbtideref01_Mul.j0 (k + 2) x ((a.natAbs : Int) / 4294967296) ((a.natAbs : Int) % 4294967296) ((b.natAbs : Int) / 4294967296) ((b.natAbs : Int) % 4294967296) (decide ((a.natAbs : Int) / 4294967296 > 0) && decide ((b.natAbs : Int) / 4294967296 > 0)) := by
    intro x
    by_cases q : (a.natAbs : Int) / 4294967296 > 0
    · rw [if_pos q, decide_eq_true q, Bool.true_and]
    · rw [if_neg q, decide_eq_false q, Bool.false_and]
  rw [e]
  refine rmul_j0 _ _ _ _ _ (a * b) (by omega) (by omega) (by omega) (by omega) ?_ k
  have e1 : (a.natAbs : Int) / 4294967296 * 4294967296 + (a.natAbs : Int) % 4294967296 = a.natAbs := by omega
  have e2 : (b.natAbs : Int) / 4294967296 * 4294967296 + (b.natAbs : Int) % 4294967296 = b.natAbs := by omega
  rw [e1, e2, hn]
  by_cases x : a < 0 <;> by_cases y : b < 0 <;> simp [x, y]

/-- The lowest b + 1 bits, as a number. -/
def lowS (a : Int) (b : Nat) : Int := (a + 2 ^ b) % 2 ^ (b + 1) - 2 ^ b
theorem lowS_range (a : Int) (b : Nat) : -(2 ^ b) ≤ lowS a b ∧ lowS a b < 2 ^ b := by
  have h := pow_pos2 b
  have hs := pow_two_succ b
  have h1 := Int.emod_nonneg (a + 2 ^ b) (b := 2 ^ (b + 1)) (by omega)
  have h2 := Int.emod_lt_of_pos (a + 2 ^ b) (b := 2 ^ (b + 1)) (by omega)
  unfold lowS
  omega
theorem lowS_id {a : Int} {b : Nat} (h0 : -(2 ^ b) ≤ a) (h1 : a < 2 ^ b) : lowS a b = a := by
  have hs := pow_two_succ b
  unfold lowS
  rw [Int.emod_eq_of_lt (by omega) (by omega)]
  omega
def narrowS (a b : Int) : Int × Bool := if 1 ≤ b ∧ b ≤ 64 then (lowS a (b - 1).toNat, true) else (0, false)
theorem cnarrow_eq (a b : Int) (_hb0 : -9223372036854775808 ≤ b) (_hb1 : b ≤ 9223372036854775807) (k : Nat) : checked_Narrow.f (k + 1) a b = some (narrowS a b) := by
  have key : checked_Narrow.f (k + 1) a b = checked_Narrow.j0 (k + 1) a b (!decide (1 ≤ b ∧ b ≤ 64)) := by
    unfold checked_Narrow.f
    by_cases h : b < 1
    · rw [if_pos h, decide_eq_false (by omega)]; rfl
    · rw [if_neg h]
      by_cases h' : b > 64
      · rw [decide_eq_true h', decide_eq_false (by omega)]; rfl
      · rw [decide_eq_false h', decide_eq_true (by omega)]; rfl
  rw [key, checked_Narrow.j0]
  unfold narrowS
  by_cases h : 1 ≤ b ∧ b ≤ 64
  · rw [decide_eq_true h, if_neg (by decide), if_pos h]
    by_cases h8 : b = 8
    · subst h8
      rw [if_pos rfl, wi8]
      refine congrArg some (Prod.ext ?_ rfl)
      show wrap64 _ = (a + 128) % 256 - 128
      unfold wrap64; omega
    · rw [if_neg h8]
      by_cases h16 : b = 16
      · subst h16
        rw [if_pos rfl, wi16]
        refine congrArg some (Prod.ext ?_ rfl)
        show wrap64 _ = (a + 32768) % 65536 - 32768
        unfold wrap64; omega
      · rw [if_neg h16]
        by_cases h32 : b = 32
        · subst h32
          rw [if_pos rfl]
          refine congrArg some (Prod.ext ?_ rfl)
          show wrap64 (wrap32 a) = (a + 2147483648) % 4294967296 - 2147483648
          unfold wrap64 wrap32; omega
        · rw [if_neg h32, w64_id (by omega) (by omega), if_pos (by omega), shl_pos (by omega) (by omega), shr_pos (by omega) (by omega), updown a _ (b - 1).toNat (by omega)]
          rfl
  · rw [decide_eq_false h, if_pos (by decide), if_neg h]
def fitsS (a b : Int) : Bool := decide (1 ≤ b ∧ b ≤ 64) && decide (lowS a (b - 1).toNat = a)
theorem cfits_eq (a b : Int) (hb0 : -9223372036854775808 ≤ b) (hb1 : b ≤ 9223372036854775807) (k : Nat) : checked_Fits.f (k + 1) a b = some (fitsS a b) := by
  unfold checked_Fits.f
  rw [cnarrow_eq a b hb0 hb1]
  simp only [Option.bind_some, narrowS, fitsS]
  by_cases h : 1 ≤ b ∧ b ≤ 64
  · rw [if_pos h, decide_eq_true h, Bool.true_and]
    simp only [if_true]
    exact congrArg some (by rw [Bool.eq_iff_iff]; simp)
  · rw [if_neg h, decide_eq_false h]; rfl
theorem lowS_fits {a : Int} {b : Nat} : lowS a b = a ↔ -(2 ^ b) ≤ a ∧ a < 2 ^ b :=
  ⟨fun h => by have := lowS_range a b; rw [h] at this; exact this, fun h => lowS_id h.1 h.2⟩

theorem tmod2 (a : Int) : a.tmod 2 = if a < 0 ∧ a % 2 = 1 then -1 else a % 2 := by
  rw [Int.tmod_eq_emod]
  split
  · rw [if_neg (by omega)]; omega
  · rename_i h
    by_cases c : a % 2 = 1
    · rw [if_pos (by omega)]; omega
    · rw [if_neg (by omega)]; omega
theorem half_tmod {a : Int} (h0 : -9223372036854775808 ≤ a) (h1 : a ≤ 9223372036854775807) (k : Nat) (n : Int) (hn : 0 < n) (hn1 : n ≤ 63) :
    ebbtideref01_Shr.l0 (k + 1) a n = ebbtideref01_Shr.l0 k (a / 2) (n - 1) := by
  rw [ebbtideref01_Shr.l0, if_pos (by omega), tmod2]
  have e1 : wrap64 (n - 1) = n - 1 := w64_id (by omega) (by omega)
  rw [e1]
  by_cases hs : a < 0 ∧ a % 2 = 1
  · rw [if_pos hs, if_pos (by decide)]
    have hm : -9223372036854775808 ≤ a - 1 := by omega
    rw [w64_id (n := a - 1) hm (by omega)]
    have : (a - 1).tdiv 2 = a / 2 := by
      rw [Int.tdiv_eq_ediv_of_dvd (by omega)]; omega
    rw [this, w64_id (by omega) (by omega)]
  · rw [if_neg hs, if_neg (by omega), w64_id (n := a - a % 2) (by omega) (by omega)]
    have : (a - a % 2).tdiv 2 = a / 2 := by
      rw [Int.tdiv_eq_ediv_of_dvd (by omega)]; omega
    rw [this, w64_id (by omega) (by omega)]
theorem rshr_loop (n : Nat) : ∀ (a : Int) (k : Nat), -9223372036854775808 ≤ a → a ≤ 9223372036854775807 → n ≤ 63 → n < k → ebbtideref01_Shr.l0 k a n = some (a / 2 ^ n, true) := by
  induction n with
  | zero =>
    intro a k h0 h1 hn hk
    obtain ⟨k, rfl⟩ : ∃ m, k = m + 1 := ⟨k - 1, by omega⟩
    rw [ebbtideref01_Shr.l0, if_neg (by decide)]; simp
  | succ n ih =>
    intro a k h0 h1 hn hk
    obtain ⟨k, rfl⟩ : ∃ m, k = m + 1 := ⟨k - 1, by omega⟩
    rw [half_tmod h0 h1 k _ (by omega) (by omega), show ((n + 1 : Nat) : Int) - 1 = (n : Int) by omega, ih (a / 2) k (by omega) (by omega) (by omega) (by omega)]
    rw [Int.ediv_ediv_of_nonneg (by decide), Int.pow_succ, Int.mul_comm]
def shrS (a n : Int) : Int × Bool := if 0 ≤ n ∧ n ≤ 63 then (a / 2 ^ n.toNat, true) else (0, false)
theorem rshr_eq {a : Int} (h0 : -9223372036854775808 ≤ a) (h1 : a ≤ 9223372036854775807) (n : Int) {k : Nat} (hk : 65 ≤ k) : ebbtideref01_Shr.f k a n = some (shrS a n) := by
  obtain ⟨k, rfl⟩ : ∃ m, k = m + 1 := ⟨k - 1, by omega⟩
  have key : ebbtideref01_Shr.f (k + 1) a n = ebbtideref01_Shr.j0 (k + 1) a n (!decide (0 ≤ n ∧ n ≤ 63)) := by
    unfold ebbtideref01_Shr.f
    by_cases h : n < 0
    · rw [if_pos h, decide_eq_false (by omega)]; rfl
    · rw [if_neg h]
      by_cases h' : n > 63
      · rw [decide_eq_true h', decide_eq_false (by omega)]; rfl
      · rw [decide_eq_false h', decide_eq_true (by omega)]; rfl
  rw [key, ebbtideref01_Shr.j0]
  unfold shrS
  by_cases h : 0 ≤ n ∧ n ≤ 63
  · rw [decide_eq_true h, if_neg (by decide), if_pos h]
    have := rshr_loop n.toNat a k h0 h1 (by omega) (by omega)
    rw [Int.toNat_of_nonneg h.1] at this
    exact this
  · rw [decide_eq_false h, if_pos (by decide), if_neg h]

/-! #### powers, widths and sums of the reference -/
theorem power_loop (n : Nat) : ∀ (x : Int) (k : Nat), 0 ≤ x → x * 2 ^ n ≤ 4611686018427387904 → n ≤ 62 → n < k → ebbtideref01_power.l0 k (n : Int) x = some (x * 2 ^ n) := by
  induction n with
  | zero =>
    intro x k h0 h1 hn hk
    obtain ⟨k, rfl⟩ : ∃ m, k = m + 1 := ⟨k - 1, by omega⟩
    rw [ebbtideref01_power.l0, if_neg (by decide)]; simp
  | succ n ih =>
    intro x k h0 h1 hn hk
    obtain ⟨k, rfl⟩ : ∃ m, k = m + 1 := ⟨k - 1, by omega⟩
    have e : x * 2 ^ (n + 1) = x * 2 * 2 ^ n := by rw [Int.pow_succ, Int.mul_comm (2 ^ n), ← Int.mul_assoc]
    have hp : (1 : Int) ≤ 2 ^ n := pow_pos2 n
    have hx : x * 2 * 1 ≤ x * 2 * 2 ^ n := Int.mul_le_mul_of_nonneg_left hp (by omega)
    rw [ebbtideref01_power.l0, if_pos (by omega), w64_id (by omega) (by omega), show ((n + 1 : Nat) : Int) - 1 = (n : Int) by omega, w64_id (n := x * 2) (by omega) (by omega), ih (x * 2) k (by omega) (by omega) (by omega) (by omega), e]
theorem pow_le62 {n : Nat} (h : n ≤ 62) : (2 : Int) ^ n ≤ 4611686018427387904 := by
  have : (2 : Int) ^ n * 2 ^ (62 - n) = 4611686018427387904 := by rw [← Int.pow_add, show n + (62 - n) = 62 by omega]; rfl
  have h1 := pow_pos2 (62 - n)
  have h2 := pow_pos2 n
  calc (2 : Int) ^ n = 2 ^ n * 1 := by omega
    _ ≤ 2 ^ n * 2 ^ (62 - n) := Int.mul_le_mul_of_nonneg_left h1 (by omega)
    _ = _ := this
theorem power_eq {n : Int} (h0 : 0 ≤ n) (h1 : n ≤ 62) {k : Nat} (hk : 64 ≤ k) : ebbtideref01_power.f k n = some (2 ^ n.toNat) := by
  unfold ebbtideref01_power.f
  obtain ⟨m, rfl⟩ := Int.eq_ofNat_of_zero_le h0
  rw [power_loop m 1 k (by decide) (by have := pow_le62 (n := m) (by omega); omega) (by omega) (by omega)]
  simp
theorem tmod_pos (a : Int) {n : Int} (hn : 0 < n) : a.tmod n = if a < 0 ∧ a % n ≠ 0 then a % n - n else a % n := by
  rw [Int.tmod_eq_emod]
  by_cases h : 0 ≤ a ∨ n ∣ a
  · rw [if_pos h, if_neg]
    · omega
    · rcases h with h | h
      · omega
      · have := Int.emod_eq_zero_of_dvd h; omega
  · rw [if_neg h, if_pos]
    · omega
    · refine ⟨by omega, fun e => h (.inr (Int.dvd_of_emod_eq_zero e))⟩
/-- The rest by 2H, brought to the numbers from -H on. -/
theorem low_of (a : Int) {H : Int} (hH : 0 < H) : (a + H) % (H + H) - H = if a % (H + H) ≥ H then a % (H + H) - (H + H) else a % (H + H) := by
  have h1 := Int.emod_nonneg a (b := H + H) (by omega)
  have h2 := Int.emod_lt_of_pos a (b := H + H) (by omega)
  rw [← Int.emod_add_emod]
  split
  · rw [← Int.sub_emod_right, Int.emod_eq_of_lt (by omega) (by omega)]; omega
  · rw [Int.emod_eq_of_lt (by omega) (by omega)]; omega
theorem rnarrow_eq {a : Int} (h0 : -9223372036854775808 ≤ a) (h1 : a ≤ 9223372036854775807) (b : Int) {k : Nat} (hk : 66 ≤ k) : ebbtideref01_Narrow.f k a b = some (narrowS a b) := by
  obtain ⟨k, rfl⟩ : ∃ m, k = m + 1 := ⟨k - 1, by omega⟩
  have key : ebbtideref01_Narrow.f (k + 1) a b = ebbtideref01_Narrow.j0 (k + 1) a b (!decide (1 ≤ b ∧ b ≤ 64)) := by
    unfold ebbtideref01_Narrow.f
    by_cases h : b < 1
    · rw [if_pos h, decide_eq_false (by omega)]; rfl
    · rw [if_neg h]
      by_cases h' : b > 64
      · rw [decide_eq_true h', decide_eq_false (by omega)]; rfl
      · rw [decide_eq_false h', decide_eq_true (by omega)]; rfl
  rw [key, ebbtideref01_Narrow.j0]
  unfold narrowS
  by_cases h : 1 ≤ b ∧ b ≤ 64
  · rw [decide_eq_true h, if_neg (by decide), if_pos h]
    by_cases h64 : b = 64
    · subst h64
      rw [if_pos rfl]
      refine congrArg some (Prod.ext ?_ rfl)
      show a = (a + 9223372036854775808) % 18446744073709551616 - 9223372036854775808
      omega
    · rw [if_neg h64]
      by_cases h63 : b = 63
      · subst h63
        rw [if_pos rfl, rshr_eq h0 h1 62 (by omega)]
        have e : lowS a ((63 : Int) - 1).toNat = (a + 4611686018427387904) % 9223372036854775808 - 4611686018427387904 := rfl
        have e2 : shrS a 62 = (a / 4611686018427387904, true) := rfl
        rw [e, e2]
        simp only [Option.bind_some]
        have hD : (a / 4611686018427387904 < 0 ∧ a / 4611686018427387904 % 2 = 1 ∧ (a / 4611686018427387904).tmod 2 = -1) ∨ (¬ (a / 4611686018427387904 < 0 ∧ a / 4611686018427387904 % 2 = 1) ∧ (a / 4611686018427387904).tmod 2 = a / 4611686018427387904 % 2) := by
          rw [tmod2]; split
          · rename_i c; exact .inl ⟨c.1, c.2, rfl⟩
          · rename_i c; exact .inr ⟨c, rfl⟩
        have hT : (a < 0 ∧ a % 4611686018427387904 ≠ 0 ∧ a.tmod 4611686018427387904 = a % 4611686018427387904 - 4611686018427387904) ∨ (¬ (a < 0 ∧ a % 4611686018427387904 ≠ 0) ∧ a.tmod 4611686018427387904 = a % 4611686018427387904) := by
          rw [tmod_pos a (by decide)]; split
          · rename_i c; exact .inl ⟨c.1, c.2, rfl⟩
          · rename_i c; exact .inr ⟨c, rfl⟩
        generalize a.tmod 4611686018427387904 = T at *
        generalize (a / 4611686018427387904).tmod 2 = D at *
        by_cases q : T < 0
        · rw [if_pos q]
          by_cases q1 : D = 0
          · rw [if_pos q1]; exact congrArg some (Prod.ext (by show _ = _; simp only; unfold wrap64; omega) rfl)
          · rw [if_neg q1]; exact congrArg some (Prod.ext (by show _ = _; simp only; unfold wrap64; omega) rfl)
        · rw [if_neg q]
          by_cases q1 : D = 0
          · rw [if_pos q1]; exact congrArg some (Prod.ext (by show _ = _; simp only; omega) rfl)
          · rw [if_neg q1]; exact congrArg some (Prod.ext (by show _ = _; simp only; unfold wrap64; omega) rfl)
      · rw [if_neg h63, power_eq (by omega) (by omega) (by omega)]
        simp only [Option.bind_some]
        obtain ⟨m, hm⟩ : ∃ m : Nat, b.toNat = m + 1 := ⟨b.toNat - 1, by omega⟩
        have hm1 : (b - 1).toNat = m := by omega
        have hP : (2 : Int) ^ b.toNat = 2 ^ m + 2 ^ m := by rw [hm, pow_two_succ]
        have hp := pow_pos2 m
        have hle := pow_le62 (n := b.toNat) (by omega)
        unfold lowS
        rw [hm1, hP] at *
        rw [pow_two_succ, low_of a hp]
        generalize (2 : Int) ^ m = H at *
        have e1 := Int.emod_nonneg a (b := H + H) (by omega)
        have e2 := Int.emod_lt_of_pos a (b := H + H) (by omega)
        have e3 : (H + H).tdiv 2 = H := by rw [Int.tdiv_eq_ediv_of_nonneg (by omega)]; omega
        rw [if_neg (by omega), tmod_pos a (by omega), e3, w64_id (n := H) (by omega) (by omega)]
        by_cases q : a < 0 ∧ a % (H + H) ≠ 0
        · rw [if_pos q, if_pos (by omega), w64_id (n := _ + (H + H)) (by omega) (by omega), show a % (H + H) - (H + H) + (H + H) = a % (H + H) by omega]
          by_cases q1 : a % (H + H) ≥ H
          · rw [if_pos q1, if_pos q1, w64_id (by omega) (by omega)]
          · rw [if_neg q1, if_neg q1]
        · rw [if_neg q, if_neg (by omega)]
          by_cases q1 : a % (H + H) ≥ H
          · rw [if_pos q1, if_pos q1, w64_id (by omega) (by omega)]
          · rw [if_neg q1, if_neg q1]
  · rw [decide_eq_false h, if_pos (by decide), if_neg h]
theorem rfits_eq {a : Int} (h0 : -9223372036854775808 ≤ a) (h1 : a ≤ 9223372036854775807) (b : Int) {k : Nat} (hk : 66 ≤ k) : ebbtideref01_Fits.f k a b = some (fitsS a b) := by
  obtain ⟨k, rfl⟩ : ∃ m, k = m + 1 := ⟨k - 1, by omega⟩
  have key : ebbtideref01_Fits.f (k + 1) a b = ebbtideref01_Fits.j0 (k + 1) a b (!decide (1 ≤ b ∧ b ≤ 64)) := by
    unfold ebbtideref01_Fits.f
    by_cases h : b < 1
    · rw [if_pos h, decide_eq_false (by omega)]; rfl
    · rw [if_neg h]
      by_cases h' : b > 64
      · rw [decide_eq_true h', decide_eq_false (by omega)]; rfl
      · rw [decide_eq_false h', decide_eq_true (by omega)]; rfl
  rw [key, ebbtideref01_Fits.j0]
  unfold fitsS
  by_cases h : 1 ≤ b ∧ b ≤ 64
  · rw [decide_eq_true h, if_neg (by decide), Bool.true_and]
    by_cases h64 : b = 64
    · subst h64
      rw [if_pos rfl]
      refine congrArg some (decide_eq_true ?_).symm
      show (a + 9223372036854775808) % 18446744073709551616 - 9223372036854775808 = a
      omega
    · rw [if_neg h64, w64_id (n := b - 1) (by omega) (by omega), power_eq (by omega) (by omega) (by omega)]
      simp only [Option.bind_some]
      have hle := pow_le62 (n := (b - 1).toNat) (by omega)
      have hp := pow_pos2 (b - 1).toNat
      have hf := lowS_fits (a := a) (b := (b - 1).toNat)
      generalize (2 : Int) ^ (b - 1).toNat = H at *
      rw [w64_id (n := -H) (by omega) (by omega), w64_id (n := H - 1) (by omega) (by omega)]
      by_cases q : a ≥ -H
      · rw [if_pos q]
        refine congrArg some ?_
        rw [decide_eq_decide, hf]; omega
      · rw [if_neg q]
        refine congrArg some ?_
        rw [eq_comm, decide_eq_false_iff_not, hf]; omega
  · rw [decide_eq_false h, if_pos (by decide)]; rfl
/-! #### sums and differences -/
theorem cadd_eq {a b : Int} (h0 : -9223372036854775808 ≤ a) (h1 : a ≤ 9223372036854775807) (h2 : -9223372036854775808 ≤ b) (h3 : b ≤ 9223372036854775807) : checked_Add.f a b = some (fitS (a + b)) := by
  have hw := w64_range (a + b)
  have x1 := xor_range a (wrap64 (a + b))
  have x2 := xor_range b (wrap64 (a + b))
  have n1 := xor_neg h0 h1 hw.1 hw.2
  have n2 := xor_neg h2 h3 hw.1 hw.2
  have n3 := and_neg x1.1 x1.2 x2.1 x2.2
  unfold checked_Add.f fitS
  rw [n1, n2] at n3
  by_cases c : -9223372036854775808 ≤ a + b ∧ a + b ≤ 9223372036854775807
  · rw [if_pos c, if_neg (by rw [n3]; rw [w64_id c.1 c.2]; omega), w64_id c.1 c.2]
  · rw [if_neg c, if_pos]
    rw [n3]
    unfold wrap64
    omega
theorem csub_eq {a b : Int} (h0 : -9223372036854775808 ≤ a) (h1 : a ≤ 9223372036854775807) (h2 : -9223372036854775808 ≤ b) (h3 : b ≤ 9223372036854775807) : checked_Sub.f a b = some (fitS (a - b)) := by
  have hw := w64_range (a - b)
  have x1 := xor_range a b
  have x2 := xor_range a (wrap64 (a - b))
  have n1 := xor_neg h0 h1 h2 h3
  have n2 := xor_neg h0 h1 hw.1 hw.2
  have n3 := and_neg x1.1 x1.2 x2.1 x2.2
  unfold checked_Sub.f fitS
  rw [n1, n2] at n3
  by_cases c : -9223372036854775808 ≤ a - b ∧ a - b ≤ 9223372036854775807
  · rw [if_pos c, if_neg (by rw [n3]; rw [w64_id c.1 c.2]; omega), w64_id c.1 c.2]
  · rw [if_neg c, if_pos]
    rw [n3]
    unfold wrap64
    omega
theorem radd_eq {a b : Int} (h0 : -9223372036854775808 ≤ a) (h1 : a ≤ 9223372036854775807) (h2 : -9223372036854775808 ≤ b) (h3 : b ≤ 9223372036854775807) : ebbtideref01_Add.f a b = some (fitS (a + b)) := by
  unfold ebbtideref01_Add.f fitS
  by_cases p : b > 0
  · rw [if_pos p, w64_id (n := 9223372036854775807 - b) (by omega) (by omega)]
    by_cases c : a > 9223372036854775807 - b
    · rw [if_pos c, if_neg (by omega)]
    · rw [if_neg c, if_neg (by omega), if_pos (by omega), w64_id (by omega) (by omega)]
  · rw [if_neg p]
    by_cases q : b < 0
    · rw [if_pos q, w64_id (n := -9223372036854775808 - b) (by omega) (by omega)]
      by_cases c : a < -9223372036854775808 - b
      · rw [if_pos c, if_neg (by omega)]
      · rw [if_neg c, if_pos (by omega), w64_id (by omega) (by omega)]
    · rw [if_neg q, if_pos (by omega), w64_id (by omega) (by omega)]
theorem rsub_eq {a b : Int} (h0 : -9223372036854775808 ≤ a) (h1 : a ≤ 9223372036854775807) (h2 : -9223372036854775808 ≤ b) (h3 : b ≤ 9223372036854775807) : ebbtideref01_Sub.f a b = some (fitS (a - b)) := by
  unfold ebbtideref01_Sub.f fitS
  by_cases q : b < 0
  · rw [if_pos q, w64_id (n := 9223372036854775807 + b) (by omega) (by omega)]
    by_cases c : a > 9223372036854775807 + b
    · rw [if_pos c, if_neg (by omega)]
    · rw [if_neg c, if_neg (by omega), if_pos (by omega), w64_id (by omega) (by omega)]
  · rw [if_neg q]
    by_cases p : b > 0
    · rw [if_pos p, w64_id (n := -9223372036854775808 + b) (by omega) (by omega)]
      by_cases c : a < -9223372036854775808 + b
      · rw [if_pos c, if_neg (by omega)]
      · rw [if_neg c, if_pos (by omega), w64_id (by omega) (by omega)]
    · rw [if_neg p, if_pos (by omega), w64_id (by omega) (by omega)]
theorem fitS_range (n : Int) : -9223372036854775808 ≤ (fitS n).1 ∧ (fitS n).1 ≤ 9223372036854775807 := by
  unfold fitS; split <;> simp <;> omega

/-! #### shifts -/
theorem pow63 {n : Nat} (h : n ≤ 63) : (2 : Int) ^ n * 2 ^ (63 - n) = 9223372036854775808 := by
  rw [← Int.pow_add, show n + (63 - n) = 63 by omega]; rfl
theorem fits_shift (a : Int) {n : Nat} (h : n ≤ 63) : (-9223372036854775808 ≤ a * 2 ^ n ∧ a * 2 ^ n ≤ 9223372036854775807) ↔ (-(2 ^ (63 - n)) ≤ a ∧ a < 2 ^ (63 - n)) := by
  have e := pow63 h
  have hp := pow_pos2 n
  have e' : -(2 ^ (63 - n)) * (2 : Int) ^ n = -9223372036854775808 := by rw [Int.neg_mul, Int.mul_comm, e]
  have e'' : (2 ^ (63 - n)) * (2 : Int) ^ n = 9223372036854775808 := by rw [Int.mul_comm, e]
  constructor
  · rintro ⟨h0, h1⟩
    refine ⟨?_, ?_⟩
    · rw [← e'] at h0; exact Int.le_of_mul_le_mul_right h0 hp
    · have : a * 2 ^ n < 2 ^ (63 - n) * 2 ^ n := by omega
      exact Int.lt_of_mul_lt_mul_right this (by omega)
  · rintro ⟨h0, h1⟩
    have g0 := Int.mul_le_mul_of_nonneg_right h0 (show (0 : Int) ≤ 2 ^ n by omega)
    have g1 := Int.mul_lt_mul_of_pos_right h1 hp
    omega
def shlS (a n : Int) : Int × Bool := if 0 ≤ n ∧ n ≤ 63 then fitS (a * 2 ^ n.toNat) else (0, false)
theorem cshl_eq {a : Int} (_h0 : -9223372036854775808 ≤ a) (_h1 : a ≤ 9223372036854775807) (n : Int) (k : Nat) : checked_Shl.f (k + 1) a n = some (shlS a n) := by
  have key : checked_Shl.f (k + 1) a n = checked_Shl.j0 (k + 1) a n (!decide (0 ≤ n ∧ n ≤ 63)) := by
    unfold checked_Shl.f
    by_cases h : n < 0
    · rw [if_pos h, decide_eq_false (by omega)]; rfl
    · rw [if_neg h]
      by_cases h' : n > 63
      · rw [decide_eq_true h', decide_eq_false (by omega)]; rfl
      · rw [decide_eq_false h', decide_eq_true (by omega)]; rfl
  rw [key, checked_Shl.j0]
  unfold shlS
  by_cases h : 0 ≤ n ∧ n ≤ 63
  · rw [decide_eq_true h, if_neg (by decide), if_pos h, if_pos h.1, shl_pos h.1 h.2, shr_pos h.1 h.2, updown a n.toNat (63 - n.toNat) (by omega)]
    have hf := fits_shift a (n := n.toNat) (by omega)
    have hl := lowS_fits (a := a) (b := 63 - n.toNat)
    unfold lowS at hl
    rw [← hf] at hl
    unfold fitS
    by_cases c : -9223372036854775808 ≤ a * 2 ^ n.toNat ∧ a * 2 ^ n.toNat ≤ 9223372036854775807
    · rw [if_pos (hl.2 c), if_pos c, w64_id c.1 c.2]
    · rw [if_neg (fun h => c (hl.1 h)), if_neg c]
  · rw [decide_eq_false h, if_pos (by decide), if_neg h]
theorem cshr_eq (a n : Int) : checked_Shr.f a n = some (shrS a n) := by
  unfold checked_Shr.f shrS
  by_cases h : n < 0
  · rw [if_pos h, if_neg (by omega)]
  · rw [if_neg h]
    by_cases h' : n > 63
    · rw [if_pos h', if_neg (by omega)]
    · rw [if_neg h', if_pos (by omega), if_pos (by omega), shr_pos (by omega) (by omega)]
theorem rshl_loop (n : Nat) : ∀ (a : Int) (k : Nat), -9223372036854775808 ≤ a → a ≤ 9223372036854775807 → n ≤ 63 → n < k → ebbtideref01_Shl.l0 k a n = some (fitS (a * 2 ^ n)) := by
  induction n with
  | zero =>
    intro a k h0 h1 hn hk
    obtain ⟨k, rfl⟩ : ∃ m, k = m + 1 := ⟨k - 1, by omega⟩
    rw [ebbtideref01_Shl.l0, if_neg (by decide), fitS, if_pos (by simp; omega)]; simp
  | succ n ih =>
    intro a k h0 h1 hn hk
    obtain ⟨k, rfl⟩ : ∃ m, k = m + 1 := ⟨k - 1, by omega⟩
    have e : a * 2 ^ (n + 1) = (a + a) * 2 ^ n := by rw [Int.pow_succ, Int.mul_comm (2 ^ n), ← Int.mul_assoc]; congr 1; omega
    rw [ebbtideref01_Shl.l0, if_pos (by omega), radd_eq h0 h1 h0 h1, w64_id (by omega) (by omega), show ((n + 1 : Nat) : Int) - 1 = (n : Int) by omega, e]
    simp only [Option.bind_some]
    by_cases c : -9223372036854775808 ≤ a + a ∧ a + a ≤ 9223372036854775807
    · have : fitS (a + a) = (a + a, true) := by unfold fitS; rw [if_pos c]
      rw [this, if_pos rfl]
      exact ih (a + a) k c.1 c.2 (by omega) (by omega)
    · have : fitS (a + a) = (0, false) := by unfold fitS; rw [if_neg c]
      rw [this, if_neg (by decide)]
      unfold fitS
      rw [if_neg]
      intro c'
      have hp : (1 : Int) ≤ 2 ^ n := pow_pos2 n
      by_cases s : 0 ≤ a
      · have := Int.mul_le_mul_of_nonneg_left hp (show 0 ≤ a + a by omega); omega
      · have := Int.mul_le_mul_of_nonneg_left hp (show 0 ≤ -(a + a) by omega)
        rw [Int.mul_one, Int.neg_mul] at this
        have hs : -(a + a) > 9223372036854775808 - 1 := by omega
        by_cases s2 : a = -4611686018427387904
        · omega
        · omega
theorem rshl_eq {a : Int} (h0 : -9223372036854775808 ≤ a) (h1 : a ≤ 9223372036854775807) (n : Int) {k : Nat} (hk : 65 ≤ k) : ebbtideref01_Shl.f k a n = some (shlS a n) := by
  obtain ⟨k, rfl⟩ : ∃ m, k = m + 1 := ⟨k - 1, by omega⟩
  have key : ebbtideref01_Shl.f (k + 1) a n = ebbtideref01_Shl.j0 (k + 1) a n (!decide (0 ≤ n ∧ n ≤ 63)) := by
    unfold ebbtideref01_Shl.f
    by_cases h : n < 0
    · rw [if_pos h, decide_eq_false (by omega)]; rfl
    · rw [if_neg h]
      by_cases h' : n > 63
      · rw [decide_eq_true h', decide_eq_false (by omega)]; rfl
      · rw [decide_eq_false h', decide_eq_true (by omega)]; rfl
  rw [key, ebbtideref01_Shl.j0]
  unfold shlS
  by_cases h : 0 ≤ n ∧ n ≤ 63
  · rw [decide_eq_true h, if_neg (by decide), if_pos h]
    have := rshl_loop n.toNat a k h0 h1 (by omega) (by omega)
    rw [Int.toNat_of_nonneg h.1] at this
    exact this
  · rw [decide_eq_false h, if_pos (by decide), if_neg h]
/-! #### halves -/
theorem w32_i64 (n : Int) : -2147483648 ≤ wrap32 n ∧ wrap32 n ≤ 2147483647 := by unfold wrap32; omega
theorem cpack_eq {h l : Int} (h0 : -2147483648 ≤ h) (h1 : h ≤ 2147483647) (_h2 : -2147483648 ≤ l) (_h3 : l ≤ 2147483647) : checked_Pack.f h l = some (h * 4294967296 + l % 4294967296) := by
  unfold checked_Pack.f
  rw [w64_id (n := h) (by omega) (by omega), w64_id (n := h * 4294967296) (by omega) (by omega), or_join (by omega) (by omega) (by omega) (by omega) (by omega)]
theorem rpack_eq {h l : Int} (h0 : -2147483648 ≤ h) (h1 : h ≤ 2147483647) (h2 : -2147483648 ≤ l) (h3 : l ≤ 2147483647) : ebbtideref01_Pack.f h l = some (h * 4294967296 + l % 4294967296) := by
  unfold ebbtideref01_Pack.f
  rw [w64_id (n := h) (by omega) (by omega), w64_id (n := h * 4294967296) (by omega) (by omega), w64_id (n := l) (by omega) (by omega)]
  by_cases c : l < 0
  · rw [if_pos c, w64_id (n := l + 4294967296) (by omega) (by omega), w64_id (by omega) (by omega)]
    exact congrArg some (by omega)
  · rw [if_neg c, w64_id (by omega) (by omega)]
    exact congrArg some (by omega)
theorem runpack_eq {a : Int} (h0 : -9223372036854775808 ≤ a) (h1 : a ≤ 9223372036854775807) {k : Nat} (hk : 66 ≤ k) : ebbtideref01_Unpack.f k a = checked_Unpack.f a := by
  unfold ebbtideref01_Unpack.f checked_Unpack.f
  rw [rshr_eq h0 h1 32 (by omega), rnarrow_eq h0 h1 32 hk]
  have e2 : shrS a 32 = (a / 4294967296, true) := rfl
  have e3 : narrowS a 32 = ((a + 2147483648) % 4294967296 - 2147483648, true) := rfl
  rw [e2, e3]
  simp only [Option.bind_some]
  refine congrArg some (Prod.ext rfl ?_)
  show wrap32 _ = wrap32 _
  unfold wrap32; omega
/-! #### bytes -/
/-- The lowest bytes of a number, the highest of them first. -/
def lowB (a : Int) : Nat → List Int
  | 0 => []
  | i + 1 => (a / 2 ^ (8 * i)) % 256 :: lowB a i
theorem lowB_length (a : Int) (n : Nat) : (lowB a n).length = n := by
  induction n with
  | zero => rfl
  | succ n ih => simp [lowB, ih]
theorem strOf_append (xs ys : List Int) : strOfNums (xs ++ ys) = strOfNums xs ++ strOfNums ys := by
  apply ByteArray.ext
  rw [ByteArray.data_append]
  apply Array.toList_inj.1
  rw [Array.toList_append, strOfNums_data, strOfNums_data, strOfNums_data, List.map_append]
theorem set_next (m : Nat) (v : Int) (l : List Int) : (List.replicate (m + 1) (0 : Int) ++ l).set m v = List.replicate m 0 ++ (v :: l) := by
  rw [List.replicate_succ', List.append_assoc, List.set_append_right _ _ (by simp)]
  simp
theorem cbytes_loop (a n : Int) (hn : n ≤ 8) (d : Nat) : ∀ (i k : Nat), (i : Int) + d = n → d < k →
    checked_Bytes.l0 k a n (List.replicate d 0 ++ lowB a i) n i = some (strOfNums (lowB a n.toNat), true) := by
  induction d with
  | zero =>
    intro i k hi hk
    obtain ⟨k, rfl⟩ : ∃ m, k = m + 1 := ⟨k - 1, by omega⟩
    rw [checked_Bytes.l0, if_neg (by omega), show n.toNat = i by omega]
    simp
  | succ d ih =>
    intro i k hi hk
    obtain ⟨k, rfl⟩ : ∃ m, k = m + 1 := ⟨k - 1, by omega⟩
    have e1 : wrap64 (wrap64 (n - 1) - (i : Int)) = (d : Int) := by rw [w64_id (n := n - 1) (by omega) (by omega), w64_id (by omega) (by omega)]; omega
    have e2 : wrap64 (8 * (i : Int)) = ((8 * i : Nat) : Int) := by rw [w64_id (by omega) (by omega)]; omega
    have e3 : wrap64 ((i : Int) + 1) = ((i + 1 : Nat) : Int) := by rw [w64_id (by omega) (by omega)]; omega
    rw [checked_Bytes.l0, if_pos (by omega), e1, e2, e3, if_pos (by omega), if_pos (by omega), if_pos (by simp; omega), Int.toNat_natCast, shr_pos (by omega) (by omega), Int.toNat_natCast, set_next]
    exact ih (i + 1) k (by omega) (by omega)
def bytesS (a n : Int) : ByteArray × Bool := if 1 ≤ n ∧ n ≤ 8 ∧ fitsS a (8 * n) = true then (strOfNums (lowB a n.toNat), true) else (⟨#[]⟩, false)
theorem cbytes_eq (a n : Int) {k : Nat} (hk : 20 ≤ k) : checked_Bytes.f k a n = some (bytesS a n) := by
  obtain ⟨k, rfl⟩ : ∃ m, k = m + 1 := ⟨k - 1, by omega⟩
  unfold checked_Bytes.f bytesS
  by_cases h : n < 1
  · rw [if_pos h, if_neg (by omega), checked_Bytes.j0, if_pos rfl]
  · rw [if_neg h]
    by_cases h' : n > 8
    · rw [if_pos h', if_neg (by omega), checked_Bytes.j0, if_pos rfl]
    · rw [if_neg h', w64_id (n := 8 * n) (by omega) (by omega), cfits_eq _ _ (by omega) (by omega)]
      simp only [Option.bind_some]
      by_cases c : fitsS a (8 * n) = true
      · rw [c, checked_Bytes.j0, if_neg (by decide), if_pos (by omega), if_pos (by omega), if_pos ⟨by omega, by omega, rfl⟩]
        simp only [Option.bind_some, List.length_replicate]
        have := cbytes_loop a n (by omega) n.toNat 0 k (by omega) (by omega)
        simp only [lowB, List.append_nil] at this
        rw [show ((n.toNat : Nat) : Int) = n by omega]
        exact this
      · have c' : fitsS a (8 * n) = false := by simpa using c
        rw [c', checked_Bytes.j0, if_pos (by decide), if_neg (by simp)]
theorem rbytes_loop (a0 n : Int) (hn : n ≤ 8) (h0 : -9223372036854775808 ≤ a0) (h1 : a0 ≤ 9223372036854775807) (d : Nat) : ∀ (i k : Nat), (i : Int) + d = n → d + 66 < k →
    ebbtideref01_Bytes.l0 k (a0 / 2 ^ (8 * i)) n (strOfNums (lowB a0 i)) i = some (strOfNums (lowB a0 n.toNat), true) := by
  induction d with
  | zero =>
    intro i k hi hk
    obtain ⟨k, rfl⟩ : ∃ m, k = m + 1 := ⟨k - 1, by omega⟩
    rw [ebbtideref01_Bytes.l0, if_neg (by omega), show n.toNat = i by omega]
  | succ d ih =>
    intro i k hi hk
    obtain ⟨k, rfl⟩ : ∃ m, k = m + 1 := ⟨k - 1, by omega⟩
    have hp := pow_pos2 (8 * i)
    have g0 : -9223372036854775808 ≤ a0 / 2 ^ (8 * i) := by
      have : -9223372036854775808 * (2 : Int) ^ (8 * i) ≤ -9223372036854775808 := by omega
      exact Int.le_ediv_of_mul_le hp (by omega)
    have g1 : a0 / 2 ^ (8 * i) ≤ 9223372036854775807 := by
      apply Int.le_of_lt_add_one
      apply Int.ediv_lt_of_lt_mul hp
      omega
    have es : a0 / 2 ^ (8 * i) / 256 = a0 / 2 ^ (8 * (i + 1)) := by
      rw [Int.ediv_ediv_of_nonneg (by omega), show 8 * (i + 1) = 8 * i + 8 by omega, Int.pow_add]; rfl
    have e3 : wrap64 ((i : Int) + 1) = ((i + 1 : Nat) : Int) := by rw [w64_id (by omega) (by omega)]; omega
    have en : narrowS (a0 / 2 ^ (8 * i)) 8 = ((a0 / 2 ^ (8 * i) + 128) % 256 - 128, true) := rfl
    have eh : shrS (a0 / 2 ^ (8 * i)) 8 = (a0 / 2 ^ (8 * i) / 256, true) := rfl
    rw [ebbtideref01_Bytes.l0, if_pos (by omega), rnarrow_eq g0 g1 8 (by omega), rshr_eq g0 g1 8 (by omega), en, eh, e3]
    simp only [Option.bind_some]
    have sz : ∀ v : Int, (strOfNums ([] ++ [v])).size + (strOfNums (lowB a0 i)).size ≤ 9223372036854775807 := by
      intro v; rw [strOfNums_size, strOfNums_size, lowB_length]; simp; omega
    have hl : lowB a0 (i + 1) = [] ++ [(a0 / 2 ^ (8 * i)) % 256] ++ lowB a0 i := rfl
    by_cases c : (a0 / 2 ^ (8 * i) + 128) % 256 - 128 < 0
    · rw [if_pos c, if_pos (by decide), if_pos (sz _), w64_id (by omega) (by omega), es, ← strOf_append, show ((a0 / 2 ^ (8 * i) + 128) % 256 - 128 + 256) % 256 = a0 / 2 ^ (8 * i) % 256 by omega, ← hl]
      exact ih (i + 1) k (by omega) (by omega)
    · rw [if_neg c, if_pos (by decide), if_pos (sz _), es, ← strOf_append, show ((a0 / 2 ^ (8 * i) + 128) % 256 - 128) % 256 = a0 / 2 ^ (8 * i) % 256 by omega, ← hl]
      exact ih (i + 1) k (by omega) (by omega)
theorem rbytes_eq {a : Int} (h0 : -9223372036854775808 ≤ a) (h1 : a ≤ 9223372036854775807) (n : Int) {k : Nat} (hk : 80 ≤ k) : ebbtideref01_Bytes.f k a n = some (bytesS a n) := by
  obtain ⟨k, rfl⟩ : ∃ m, k = m + 1 := ⟨k - 1, by omega⟩
  unfold ebbtideref01_Bytes.f bytesS
  by_cases h : n < 1
  · rw [if_pos h, if_neg (by omega), ebbtideref01_Bytes.j0, if_pos rfl]
  · rw [if_neg h]
    by_cases h' : n > 8
    · rw [if_pos h', if_neg (by omega), ebbtideref01_Bytes.j0, if_pos rfl]
    · rw [if_neg h', w64_id (n := 8 * n) (by omega) (by omega), rfits_eq h0 h1 _ (by omega)]
      simp only [Option.bind_some]
      by_cases c : fitsS a (8 * n) = true
      · rw [c, ebbtideref01_Bytes.j0, if_neg (by decide), if_pos ⟨by omega, by omega, rfl⟩]
        have := rbytes_loop a n (by omega) h0 h1 n.toNat 0 k (by omega) (by omega)
        have z : a / 2 ^ (8 * 0) = a := by simp
        rw [z] at this
        exact this
      · have c' : fitsS a (8 * n) = false := by simpa using c
        rw [c', ebbtideref01_Bytes.j0, if_pos (by decide), if_neg (by simp)]
end Go.Proofs.Ytbbddeacmjgpaaa.M
