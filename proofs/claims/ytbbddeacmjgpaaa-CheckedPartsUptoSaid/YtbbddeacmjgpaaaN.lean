/-
  Plain lemmas on bytes as numbers and back (the checked layer), and the ten plain statements of the laws that hold at every size. Conditions: none beyond those written in each lemma.
-/
import Derived.Test.YtbbddeacmjgpaaaM
namespace Go.Proofs.Ytbbddeacmjgpaaa.M
open Go.RowKit Go.Proofs.Ytbbddeacmjgpaaa.Q Go.Proofs.YtbbddeacmjgpaaaW.PrintWords Go.Proofs.YtbbddeacmjgpaaaW.PrintLast Go.Proofs.YtbbddeacmjgpaaaW.PrintMore
theorem bt_at (s : ByteArray) (j : Nat) (hj : j < s.size) : bt s (j : Int) = ((s.data.toList.getD j 0).toNat : Int) := by
  unfold bt
  rw [dif_pos (by simpa using hj)]
  have : s[(j : Int).toNat]'(by simpa using hj) = s.data.toList.getD j 0 := by
    simp only [Int.toNat_natCast]
    rw [List.getD_eq_getElem?_getD, Array.getElem?_toList, Array.getElem?_eq_getElem (show j < s.data.size from hj)]
    rfl
  rw [this]
theorem rof_loop (s : ByteArray) (h8 : s.size ≤ 8) (d : Nat) : ∀ (j k : Nat) (n : Int), 1 ≤ j → j + d = s.size → -(128 * 256 ^ (j - 1)) ≤ n → n < 128 * 256 ^ (j - 1) → d < k →
    ebbtideref01_Of.l0 k s n (j : Int) = some (ofFrom n (s.data.toList.drop j), true) := by
  induction d with
  | zero =>
    intro j k n hj hd h0 h1 hk
    obtain ⟨k, rfl⟩ : ∃ m, k = m + 1 := ⟨k - 1, by omega⟩
    rw [ebbtideref01_Of.l0, if_neg (by omega), List.drop_eq_nil_of_le (by rw [Array.length_toList]; show s.size ≤ j; omega)]
    rfl
  | succ d ih =>
    intro j k n hj hd h0 h1 hk
    obtain ⟨k, rfl⟩ : ∃ m, k = m + 1 := ⟨k - 1, by omega⟩
    have hlt : j < s.data.toList.length := by rw [Array.length_toList]; show j < s.size; omega
    have hb := UInt8.toNat_lt s.data.toList[j]
    have hg : s.data.toList.getD j 0 = s.data.toList[j] := by rw [List.getD_eq_getElem?_getD, List.getElem?_eq_getElem hlt]; rfl
    have hp : (256 : Int) ^ (j - 1) ≤ 281474976710656 := by
      have : j = 1 ∨ j = 2 ∨ j = 3 ∨ j = 4 ∨ j = 5 ∨ j = 6 ∨ j = 7 := by omega
      rcases this with rfl | rfl | rfl | rfl | rfl | rfl | rfl <;> decide
    have hs : (256 : Int) ^ (j + 1 - 1) = 256 ^ (j - 1) * 256 := by
      rw [show j + 1 - 1 = (j - 1) + 1 by omega, Int.pow_succ]
    rw [ebbtideref01_Of.l0, if_pos (by omega), if_pos (by omega), bt_at s j (by omega), hg]
    rw [List.drop_eq_getElem_cons hlt]
    generalize s.data.toList[j] = b at *
    generalize (256 : Int) ^ (j - 1) = q at *
    rw [w64_id (n := n * 256) (by omega) (by omega), w64_id (n := (b.toNat : Int)) (by omega) (by omega), w64_id (n := n * 256 + (b.toNat : Int)) (by omega) (by omega), w64_id (n := (j : Int) + 1) (by omega) (by omega)]
    exact ih (j + 1) k (n * 256 + (b.toNat : Int)) (by omega) (by omega) (by rw [hs]; omega) (by rw [hs]; omega) (by omega)
theorem rof_eq (s : ByteArray) {k : Nat} (hk : 20 ≤ k) : ebbtideref01_Of.f k s = checked_Of.f s := by
  obtain ⟨k, rfl⟩ : ∃ m, k = m + 2 := ⟨k - 2, by omega⟩
  unfold ebbtideref01_Of.f checked_Of.f
  by_cases h : s.size < 1
  · rw [if_pos (by omega), if_neg (by omega), ebbtideref01_Of.j0, if_pos rfl]
  · rw [if_neg (by omega)]
    by_cases h' : s.size > 8
    · rw [decide_eq_true (by omega), if_neg (by omega), ebbtideref01_Of.j0, if_pos rfl]
    · rw [decide_eq_false (by omega), if_pos (by omega), ebbtideref01_Of.j0, if_neg (by decide), if_pos (by omega)]
      have hlt : 0 < s.data.toList.length := by rw [Array.length_toList]; show 0 < s.size; omega
      have hg : s.data.toList.getD 0 0 = s.data.toList[0] := by rw [List.getD_eq_getElem?_getD, List.getElem?_eq_getElem hlt]; rfl
      have hb := UInt8.toNat_lt s.data.toList[0]
      have hv : ofVal s = ofFrom (sgn8 s.data.toList[0]) (s.data.toList.drop 1) := by
        obtain ⟨b, r, hl⟩ : ∃ b r, s.data.toList = b :: r := by
          cases hl : s.data.toList with
          | nil => rw [hl] at hlt; exact absurd hlt (by simp)
          | cons b r => exact ⟨b, r, rfl⟩
        have h1 : s.data.toList[0] = b := by simp only [hl]; rfl
        rw [h1]
        unfold ofVal
        rw [hl]
        rfl
      have h0 := bt_at s 0 (by omega)
      rw [hg] at h0
      have h0' : bt s 0 = ((s.data.toList[0]).toNat : Int) := h0
      rw [h0', hv]
      have hs := sgn8_bd s.data.toList[0]
      have he : sgn8 s.data.toList[0] = if (s.data.toList[0]).toNat ≤ 127 then ((s.data.toList[0]).toNat : Int) else ((s.data.toList[0]).toNat : Int) - 256 := rfl
      rw [w64_id (n := ((s.data.toList[0]).toNat : Int)) (by omega) (by omega)]
      have key := rof_loop s (by omega) (s.size - 1) 1 k (sgn8 s.data.toList[0]) (by omega) (by omega) hs.1 hs.2 (by omega)
      by_cases c : ((s.data.toList[0]).toNat : Int) > 127
      · rw [if_neg (by omega)] at he
        rw [if_pos c, ebbtideref01_Of.j1, w64_id (by omega) (by omega), ← he]
        exact key
      · rw [if_pos (by omega)] at he
        rw [if_neg c, ebbtideref01_Of.j1, ← he]
        exact key
/-! #### there and back -/
theorem emod_mul' (a b c : Int) (hb : 0 < b) : a % (b * c) = a % b + b * (a / b % c) := by
  rw [Int.emod_def, Int.emod_def a b, Int.emod_def (a / b) c, ← Int.ediv_ediv_of_nonneg (by omega), Int.mul_sub, Int.mul_assoc]
  omega
theorem ofFrom_lowB (a : Int) : ∀ (n : Nat) (x : Int), ofFrom x ((lowB a n).map fun v => UInt8.ofNat v.toNat) = x * 2 ^ (8 * n) + a % 2 ^ (8 * n) := by
  intro n
  induction n with
  | zero => intro x; simp [lowB, ofFrom, Int.emod_one]
  | succ n ih =>
    intro x
    have hv : 0 ≤ a / 2 ^ (8 * n) % 256 ∧ a / 2 ^ (8 * n) % 256 < 256 := by omega
    have hu : ((UInt8.ofNat (a / 2 ^ (8 * n) % 256).toNat).toNat : Int) = a / 2 ^ (8 * n) % 256 := by
      rw [UInt8.toNat_ofNat']
      omega
    show ofFrom (x * 256 + ((UInt8.ofNat (a / 2 ^ (8 * n) % 256).toNat).toNat : Int)) ((lowB a n).map fun v => UInt8.ofNat v.toNat) = _
    rw [hu, ih, show 8 * (n + 1) = 8 * n + 8 by omega, Int.pow_add, show (2 : Int) ^ 8 = 256 by rfl]
    have hp := pow_pos2 (8 * n)
    have e := emod_mul' a (2 ^ (8 * n)) 256 hp
    rw [e, Int.add_mul, Int.mul_assoc, Int.mul_comm 256, Int.mul_comm (a / 2 ^ (8 * n) % 256)]
    omega
theorem ofVal_lowB {a : Int} (n : Nat) (h0 : -(2 ^ (8 * n + 7)) ≤ a) (h1 : a < 2 ^ (8 * n + 7)) : ofVal (strOfNums (lowB a (n + 1))) = a := by
  have hd : (strOfNums (lowB a (n + 1))).data.toList = UInt8.ofNat (a / 2 ^ (8 * n) % 256).toNat :: (lowB a n).map fun v => UInt8.ofNat v.toNat := rfl
  unfold ofVal
  rw [hd]
  simp only
  rw [ofFrom_lowB]
  have hp := pow_pos2 (8 * n)
  have e7 : (2 : Int) ^ (8 * n + 7) = 2 ^ (8 * n) * 128 := by rw [Int.pow_add]; rfl
  rw [e7] at h0 h1
  have hq0 : -128 ≤ a / 2 ^ (8 * n) := Int.le_ediv_of_mul_le hp (by rw [Int.neg_mul, Int.mul_comm]; exact h0)
  have hq1 : a / 2 ^ (8 * n) < 128 := Int.ediv_lt_of_lt_mul hp (by rw [Int.mul_comm]; exact h1)
  have hu : ((UInt8.ofNat (a / 2 ^ (8 * n) % 256).toNat).toNat : Int) = a / 2 ^ (8 * n) % 256 := by
    rw [UInt8.toNat_ofNat']
    omega
  have hs : sgn8 (UInt8.ofNat (a / 2 ^ (8 * n) % 256).toNat) = a / 2 ^ (8 * n) := by
    unfold sgn8
    split <;> omega
  rw [hs, Int.mul_comm]
  exact Int.mul_ediv_add_emod a _
/-- The bytes of the number that bytes say are they. -/
theorem lowB_ofFrom (bs : List UInt8) : ∀ (x : Int), (lowB (ofFrom x bs) bs.length).map (fun v => UInt8.ofNat v.toNat) = bs ∧ ofFrom x bs / 2 ^ (8 * bs.length) = x := by
  suffices H : ∀ (r : List UInt8) (x : Int), (lowB (ofFrom x r.reverse) r.length).map (fun v => UInt8.ofNat v.toNat) = r.reverse ∧ ofFrom x r.reverse / 2 ^ (8 * r.length) = x by
    intro x
    have := H bs.reverse x
    rwa [List.reverse_reverse, List.length_reverse] at this
  have low_div : ∀ (a : Int) (n : Nat) (c : Int), 0 ≤ c → c < 256 → lowB (a * 256 + c) (n + 1) = lowB a n ++ [c] := by
    intro a n c h0 h1
    induction n with
    | zero => simp only [lowB, Nat.mul_zero, Int.pow_zero, Int.ediv_one, List.nil_append]; congr 1; omega
    | succ n ih =>
      rw [lowB, ih, lowB, List.cons_append]
      congr 1
      rw [show 8 * (n + 1) = 8 + 8 * n by omega, Int.pow_add, show (2 : Int) ^ 8 = 256 by rfl, ← Int.ediv_ediv_of_nonneg (by decide)]
      congr 2
      omega
  intro r
  induction r with
  | nil => intro x; simp [lowB, ofFrom]
  | cons b r ih =>
    intro x
    have hb := UInt8.toNat_lt b
    have e : ofFrom x (b :: r).reverse = ofFrom x r.reverse * 256 + (b.toNat : Int) := by
      unfold ofFrom
      rw [List.reverse_cons, List.foldl_append]; rfl
    rw [e, List.length_cons, low_div _ _ _ (by omega) (by omega), List.map_append, (ih x).1, List.reverse_cons]
    refine ⟨by simp, ?_⟩
    rw [show 8 * (r.length + 1) = 8 + 8 * r.length by omega, Int.pow_add, show (2 : Int) ^ 8 = 256 by rfl, ← Int.ediv_ediv_of_nonneg (by decide), show (ofFrom x r.reverse * 256 + (b.toNat : Int)) / 256 = ofFrom x r.reverse by omega]
    exact (ih x).2
end Go.Proofs.Ytbbddeacmjgpaaa.M
