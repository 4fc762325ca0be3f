/-
  What is proved: shifts up are undone by shifts down; bytes and halves come back. Conditions: none.
-/
import Derived.Test.YtbbddeacmjgpaaaN
namespace Go.Proofs.Ytbbddeacmjgpaaa.Pure
open Go.RowKit Go.Proofs.Ytbbddeacmjgpaaa.Q Go.Proofs.Ytbbddeacmjgpaaa.M Go.Proofs.YtbbddeacmjgpaaaW.PrintWords Go.Proofs.YtbbddeacmjgpaaaW.PrintLast Go.Proofs.YtbbddeacmjgpaaaW.PrintMore
theorem awake_100 : ebbtidelaw01_awake.f 100 = some true := at_rounds (fun k => ebbtidelaw01_awake.mono k) (by decide) awake_true
theorem CheckedBack : ebbtidelaw01_CheckedBack.Pure := by
  intro a n s wa wn hs
  have ha := Go.bounds_i64 wa
  have hn := Go.bounds_i64 wn
  have halves : (checked_Unpack.f a).bind (fun t => if true = true then ((checked_Pack.f t.1 t.2).bind fun u => some (u == a)) else some false) = some true := by
    unfold checked_Unpack.f
    simp only [Option.bind_some, if_true]
    have h1 := w32_i64 (a / 4294967296)
    have h2 := w32_i64 a
    rw [cpack_eq h1.1 h1.2 h2.1 h2.2]
    simp only [Option.bind_some]
    refine congrArg some (beq_iff_eq.mpr ?_)
    unfold wrap32; omega
  have j2 : ∀ k, ebbtidelaw01_CheckedBack.j2 (k + 1) a true false = some true := by
    intro k
    rw [ebbtidelaw01_CheckedBack.j2, if_neg (by decide)]
    exact halves
  have j1 : ∀ k, 30 ≤ k → ebbtidelaw01_CheckedBack.j1 k a s true = some true := by
    intro k hk
    obtain ⟨k, rfl⟩ : ∃ m, k = m + 1 := ⟨k - 1, by omega⟩
    rw [ebbtidelaw01_CheckedBack.j1]
    unfold checked_Of.f
    simp only [Option.bind_some]
    by_cases c : 1 ≤ s.size ∧ s.size ≤ 8
    · rw [if_pos c]
      simp only [if_true]
      rw [cbytes_eq _ _ (by omega)]
      simp only [Option.bind_some]
      obtain ⟨b, r, hl⟩ : ∃ b r, s.data.toList = b :: r := by
        cases hl : s.data.toList with
        | nil =>
          have h0 : s.data.toList.length = 0 := by rw [hl]; rfl
          rw [Array.length_toList] at h0
          have h2 : s.size = 0 := h0
          omega
        | cons b r => exact ⟨b, r, rfl⟩
      have hlen : s.size = r.length + 1 := by
        have h0 : s.data.toList.length = r.length + 1 := by rw [hl]; rfl
        rw [Array.length_toList] at h0; exact h0
      have hv : ofVal s = ofFrom (sgn8 b) r := by unfold ofVal; rw [hl]
      have hb := ofFrom_bd r (sgn8 b) 0 (sgn8_bd b).1 (sgn8_bd b).2
      have hf := lowB_ofFrom r (sgn8 b)
      have hp : (128 : Int) * 256 ^ (0 + r.length) = 2 ^ (8 * (s.size : Int) - 1).toNat := by
        rw [show (8 * (s.size : Int) - 1).toNat = 8 * r.length + 7 by omega, Nat.zero_add, Int.pow_add (m := 8 * r.length), Int.pow_mul, Int.mul_comm]; rfl
      rw [hp] at hb
      have hfit : fitsS (ofVal s) (8 * (s.size : Int)) = true := by
        unfold fitsS
        rw [decide_eq_true (by omega), hv, Bool.true_and, decide_eq_true_eq]
        exact lowS_id hb.1 hb.2
      have hbs : bytesS (ofVal s) (s.size : Int) = (s, true) := by
        unfold bytesS
        rw [if_pos ⟨by omega, by omega, hfit⟩]
        refine Prod.ext ?_ rfl
        apply ByteArray.ext
        apply Array.toList_inj.1
        show (strOfNums _).data.toList = _
        rw [strOfNums_data, hl, hv, show (s.size : Int).toNat = r.length + 1 by omega, lowB, List.map_cons, hf.1, hf.2]
        congr 1
        have hb8 := UInt8.toNat_lt b
        apply UInt8.toNat_inj.1
        rw [UInt8.toNat_ofNat']
        unfold sgn8
        split <;> omega
      rw [hbs]
      simp only [if_true]
      rw [show (s.toList != s.toList) = false by simp]
      obtain ⟨k, rfl⟩ : ∃ m, k = m + 1 := ⟨k - 1, by omega⟩
      exact j2 k
    · rw [if_neg c]
      simp only [Bool.false_eq_true, if_false]
      exact halves
  have j0 : ebbtidelaw01_CheckedBack.j0 100 a n s true = some true := by
    rw [ebbtidelaw01_CheckedBack.j0, cbytes_eq a n (by omega)]
    simp only [Option.bind_some, bytesS]
    by_cases c : 1 ≤ n ∧ n ≤ 8 ∧ fitsS a (8 * n) = true
    · rw [if_pos c]
      simp only [if_true]
      have hsz : (strOfNums (lowB a n.toNat)).size = n.toNat := by rw [strOfNums_size, lowB_length]
      obtain ⟨m, hm⟩ : ∃ m, n.toNat = m + 1 := ⟨n.toNat - 1, by omega⟩
      have hf := c.2.2
      unfold fitsS at hf
      rw [decide_eq_true (by omega), Bool.true_and, decide_eq_true_eq, lowS_fits, show (8 * n - 1).toNat = 8 * m + 7 by omega] at hf
      have hof : checked_Of.f (strOfNums (lowB a n.toNat)) = some (a, true) := by
        unfold checked_Of.f
        rw [if_pos (by omega), hm, ofVal_lowB m hf.1 hf.2]
      rw [hof]
      simp only [Option.bind_some, if_true]
      rw [if_pos (by omega)]
      exact j1 99 (by omega)
    · rw [if_neg c]
      simp only [Bool.false_eq_true, if_false]
      exact j1 99 (by omega)
  refine ⟨100, ?_⟩
  unfold ebbtidelaw01_CheckedBack.f
  rw [awake_100]
  simp only [Option.bind_some, if_true]
  rw [cshl_eq ha.1 ha.2 n 99]
  simp only [Option.bind_some, shlS]
  by_cases c : 0 ≤ n ∧ n ≤ 63
  · rw [if_pos c]
    unfold fitS
    by_cases d : -9223372036854775808 ≤ a * 2 ^ n.toNat ∧ a * 2 ^ n.toNat ≤ 9223372036854775807
    · rw [if_pos d]
      simp only [if_true]
      rw [cshr_eq]
      simp only [Option.bind_some, shrS]
      rw [if_pos c]
      simp only [if_true]
      rw [Int.mul_ediv_cancel _ (by have := pow_pos2 n.toNat; omega), if_pos rfl]
      exact j0
    · rw [if_neg d]
      simp only [Bool.false_eq_true, if_false]
      exact j0
  · rw [if_neg c]
    simp only [Bool.false_eq_true, if_false]
    exact j0

end Go.Proofs.Ytbbddeacmjgpaaa.Pure
