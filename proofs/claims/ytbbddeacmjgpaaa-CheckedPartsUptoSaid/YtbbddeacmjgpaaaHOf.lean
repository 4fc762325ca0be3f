/-
  The contract of checked.Of: its answer is told by a plain Lean function on the string's bytes. Conditions: none.
-/
import Derived.Test.YtbbddeacmjgpaaaQx0
import Derived.WalkSpells
namespace Go.Proofs.Ytbbddeacmjgpaaa.Q
open Go.RowKit Go.Proofs.YtbbddeacmjgpaaaW.PrintWords Go.Proofs.YtbbddeacmjgpaaaW.PrintLast Go.Proofs.YtbbddeacmjgpaaaW.PrintMore
/-- a byte as a signed number -/
def sgn8 (b : UInt8) : Int := if b.toNat ≤ 127 then b.toNat else (b.toNat : Int) - 256
def ofFrom (n : Int) (bs : List UInt8) : Int := bs.foldl (fun n c => n * 256 + (c.toNat : Int)) n
def ofVal (s : ByteArray) : Int := match s.data.toList with
  | [] => 0
  | b :: rest => ofFrom (sgn8 b) rest
/-- What the bytes say as a number, the first one with its sign; (0, false) where there are none, or more than 8. -/
def checked_Of.f (s : ByteArray) : Option (Int × Bool) := some (if 1 ≤ s.size ∧ s.size ≤ 8 then (ofVal s, true) else (0, false))
theorem ofFrom_bd (bs : List UInt8) : ∀ (n : Int) (m : Nat), -(128 * 256 ^ m) ≤ n → n < 128 * 256 ^ m → -(128 * 256 ^ (m + bs.length)) ≤ ofFrom n bs ∧ ofFrom n bs < 128 * 256 ^ (m + bs.length) := by
  induction bs with
  | nil => intro n m h0 h1; exact ⟨h0, h1⟩
  | cons b bs ih =>
    intro n m h0 h1
    have hb := UInt8.toNat_lt b
    have e : (256 : Int) ^ (m + 1) = 256 ^ m * 256 := Int.pow_succ _ _
    have := ih (n * 256 + (b.toNat : Int)) (m + 1) (by omega) (by omega)
    rw [List.length_cons, show m + (bs.length + 1) = m + 1 + bs.length by omega]
    exact this
theorem sgn8_bd (b : UInt8) : -(128 * 256 ^ 0) ≤ sgn8 b ∧ sgn8 b < 128 * 256 ^ 0 := by
  have hb := UInt8.toNat_lt b
  unfold sgn8
  split <;> omega
theorem i8_sgn (b : UInt8) : IntKind.i8.wrap (b.toNat : Int) = sgn8 b := by
  have hb := UInt8.toNat_lt b
  simp [IntKind.wrap, IntKind.bits, IntKind.signed, sgn8]
  split <;> split <;> omega
theorem w64_of {n : Int} (h0 : -9223372036854775808 ≤ n) (h1 : n ≤ 9223372036854775807) : wrap64 n = n := by unfold wrap64; omega
theorem or256 {x y : Int} (h0 : -9223372036854775808 ≤ x) (h1 : x ≤ 9223372036854775807) (hm : x % 256 = 0) (h2 : 0 ≤ y) (h3 : y < 256) : Go.bits .or .i64 x y = x + y := by
  have hx : ((BitVec.ofInt 64 x).toNat : Int) = x % 18446744073709551616 := by rw [BitVec.toNat_ofInt]; omega
  have hy : ((BitVec.ofInt 64 y).toNat : Int) = y % 18446744073709551616 := by rw [BitVec.toNat_ofInt]; omega
  have hw : ∀ n : Int, IntKind.i64.wrap n = wrap64 n := by intro n; simp [IntKind.wrap, IntKind.bits, IntKind.signed, wrap64]; split <;> omega
  show IntKind.i64.wrap ((BitVec.ofInt 64 x ||| BitVec.ofInt 64 y).toNat) = _
  rw [hw, BitVec.toNat_or]
  have e : (BitVec.ofInt 64 x).toNat = 2 ^ 8 * ((BitVec.ofInt 64 x).toNat / 256) := by omega
  rw [e, ← Nat.two_pow_add_eq_or_of_lt (by omega)]
  unfold wrap64
  omega
theorem of_step (b : UInt8) (rest : List UInt8) (s1 : ByteArray) (hx : s1.data.toList = rest) (j : Nat) (hj : j < rest.length) (h7 : rest.length ≤ 7) :
    Go.bits .or .i64 (wrap64 (ofFrom (sgn8 b) (rest.take j) * 256)) (wrap64 ((s1.data[j]?.getD 0).toNat : Int)) = ofFrom (sgn8 b) (rest.take (j + 1)) := by
  have hc : s1.data[j]?.getD 0 = rest[j] := by
    rw [← Array.getElem?_toList, hx, List.getElem?_eq_getElem hj]; rfl
  have hb := UInt8.toNat_lt rest[j]
  have h0 := sgn8_bd b
  have h1 := ofFrom_bd (rest.take j) (sgn8 b) 0 h0.1 h0.2
  rw [List.length_take, Nat.min_eq_left (by omega)] at h1
  have e : ofFrom (sgn8 b) (rest.take (j + 1)) = ofFrom (sgn8 b) (rest.take j) * 256 + (rest[j].toNat : Int) := by
    unfold ofFrom
    rw [List.take_succ_eq_append_getElem hj, List.foldl_append]; rfl
  have hp : (256 : Int) ^ (0 + j) ≤ 281474976710656 := by
    have : j = 0 ∨ j = 1 ∨ j = 2 ∨ j = 3 ∨ j = 4 ∨ j = 5 ∨ j = 6 := by omega
    rcases this with rfl | rfl | rfl | rfl | rfl | rfl | rfl <;> decide
  rw [hc, e]
  generalize ofFrom (sgn8 b) (rest.take j) = n at *
  generalize (256 : Int) ^ (0 + j) = q at *
  rw [w64_of (n := n * 256) (by omega) (by omega), w64_of (by omega) (by omega), or256 (by omega) (by omega) (by omega) (by omega) (by omega)]
set_option maxHeartbeats 1000000 in
set_option maxRecDepth 100000 in
theorem checked_Of.calls (a0 : ByteArray) (r1 : Int) (r2 : Bool) (w : World) (h : checked_Of.f a0 = some (r1, r2)) :
    Calls Try.prog 28 #[.string a0] w fun e w' => e = .returned (.tuple #[.int .i64 r1, .bool r2]) ∧ Below w.heap.size w w' := by
  have hv := Option.some.inj h
  clear h
  by_cases c1 : a0.size < 1
  · rw [if_neg (by omega)] at hv
    simp only [Prod.mk.injEq] at hv
    obtain ⟨rfl, rfl⟩ := hv
    have c2 : decide ((a0.size : Int) < 1) = true := decide_eq_true (by omega)
    clear c1
    go_enter Try.func28, Try.ntmps28
    go_wp2
    go_ret2
    exact ⟨rfl, Below.refl _ _⟩
  · by_cases c3 : 8 < a0.size
    · rw [if_neg (by omega)] at hv
      simp only [Prod.mk.injEq] at hv
      obtain ⟨rfl, rfl⟩ := hv
      have c2 : decide ((a0.size : Int) < 1) = false := decide_eq_false (by omega)
      have c4 : decide ((8 : Int) < (a0.size : Int)) = true := decide_eq_true (by omega)
      clear c1 c3
      go_enter Try.func28, Try.ntmps28
      go_wp2
      go_ret2
      exact ⟨rfl, Below.refl _ _⟩
    · rw [if_pos (by omega)] at hv
      simp only [Prod.mk.injEq] at hv
      obtain ⟨rfl, rfl⟩ := hv
      have c2 : decide ((a0.size : Int) < 1) = false := decide_eq_false (by omega)
      have c4 : decide ((8 : Int) < (a0.size : Int)) = false := decide_eq_false (by omega)
      have H1 := Aside0.mk c1
      have H3 := Aside0.mk c3
      clear c1 c3
      have p0 := eq_true (show 0 < a0.size by have := H1.out; omega)
      have p1 := eq_true (show 1 ≤ a0.size by have := H1.out; omega)
      have p2 := eq_true (show (1 : Int) ≤ (a0.size : Int) by have := H1.out; omega)
      have cv : ∀ (W : World) (s : ByteArray), (convert 9 49 (.string s)).run Try.prog W = .ok (.slice (some ⟨W.heap.size, 0, none⟩) s.size (grownCap W s.size 0 5)) (Lib.bytesWorld W 5 s) := fun W s => Lib.run_convert_string_bytes W 9 49 5 s Try.underlying9 Try.underlying49 Try.underlying5
      obtain ⟨b, rest, hbr⟩ : ∃ b rest, a0.data.toList = b :: rest := by
        cases hd : a0.data.toList with
        | nil =>
          have h0 : a0.data.toList.length = 0 := by rw [hd]; rfl
          rw [Array.length_toList] at h0
          have h2 : a0.size = 0 := h0
          exact absurd (show a0.size < 1 by omega) H1.out
        | cons b rest => exact ⟨b, rest, rfl⟩
      have hlen : a0.size = rest.length + 1 := by
        have h0 : a0.data.toList.length = rest.length + 1 := by rw [hbr]; rfl
        rw [Array.length_toList] at h0; exact h0
      have hb0 : ∀ (h : 0 < a0.size), a0[0]'h = b := by
        intro h
        have : a0.data.toList[0]? = some b := by rw [hbr]; rfl
        rw [Array.getElem?_toList, Array.getElem?_eq_getElem h] at this
        exact Option.some.inj this
      have hx1 : (a0.extract 1 a0.size).data.toList = rest := by
        rw [ByteArray.data_extract, Array.toList_extract, hbr]
        simp [hlen]
      have hx2 : (a0.extract 1 a0.size).size = rest.length := by rw [← hx1, Array.length_toList]; rfl
      have HX1 := Aside0.mk hx1
      have HX2 := Aside0.mk hx2
      have HB0 := Aside0.mk (fun h => (congrArg (fun z : UInt8 => wrap64 (IntKind.i8.wrap (z.toNat : Int))) (hb0 h)).trans (by rw [i8_sgn]; have := sgn8_bd b; exact w64_of (by omega) (by omega) : wrap64 (IntKind.i8.wrap (b.toNat : Int)) = sgn8 b))
      have HN := Aside0.mk (show ofVal a0 = ofFrom (sgn8 b) rest by unfold ofVal; rw [hbr])
      have HL := Aside0.mk hlen
      clear hbr hlen hb0 hx1 hx2
      go_enter Try.func28, Try.ntmps28
      go_wp2
      rw [HB0.out (by have := H1.out; omega)]
      generalize hs1 : a0.extract 1 a0.size = s1 at HX1 HX2
      generalize hz : grownCap w (a0.size - 1) 0 5 = cp
      have e1 : a0.size - 1 = rest.length := by have := HL.out; omega
      rw [e1]
      clear hs1 hz e1 p1 p2 cv
      have p3 := Aside0.mk (Lib.bytesWorld_cell w 5 s1)
      have HW := Aside0.mk (show Below w.heap.size w (Lib.bytesWorld w 5 s1) from bytes_below (Below.refl _ _) (Nat.le_refl _) 5 s1)
      generalize Lib.bytesWorld w 5 s1 = w1 at p3 HW
      go_loopg [4, 23] rest.length (fun kq v4 v23 w' => ∃ j : Nat, v4 = .int .i64 (ofFrom (sgn8 b) (rest.take j)) ∧ v23 = .int .i64 j ∧ Aside0 (j + kq = rest.length) ∧ w1 = w')
      case atStart => exact ⟨0, rfl, rfl, ⟨by omega⟩, rfl⟩
      case round =>
        obtain ⟨j, rfl, rfl, HJ, rfl⟩ := hrel
        cases gk with
        | zero =>
          have c5 : decide ((j : Int) < (rest.length : Int)) = false := decide_eq_false (by have := HJ.out; omega)
          have c6 : decide (j < rest.length) = false := decide_eq_false (by have := HJ.out; omega)
          have hj : j = rest.length := by have := HJ.out; omega
          subst hj
          rw [List.take_length]
          go_wp2
          go_ret2
          exact ⟨by rw [HN.out]; rfl, HW.out⟩
        | succ gk =>
          have c5 : decide ((j : Int) < (rest.length : Int)) = true := decide_eq_true (by have := HJ.out; omega)
          have c6 : decide (j < rest.length) = true := decide_eq_true (by have := HJ.out; omega)
          have hx := p3.out j (by have := HJ.out; have := HX2.out; omega)
          have p4 := eq_true (show (0 : Int) ≤ (j : Int) by omega)
          have p5 := eq_true (show (j : Int) < (rest.length : Int) by have := HJ.out; omega)
          have HS := Aside0.mk (of_step b rest s1 HX1.out j (by have := HJ.out; omega) (by have := H3.out; have := HL.out; omega))
          go_wp2
          go_roundg gk
          case measure => omega
          case rel => exact ⟨j + 1, congrArg (Value.int .i64) HS.out, congrArg (Value.int .i64) (by have := HJ.out; have := H3.out; have := HL.out; rw [w64_of (by omega) (by omega)]; rfl), ⟨by have := HJ.out; omega⟩, rfl⟩
end Go.Proofs.Ytbbddeacmjgpaaa.Q
