/- What is proved: each named Go function, called, answers as its plain Lean function tells (x-texts), or the row of a law out of its plain statement (Law-texts). Conditions: those written in each statement. Written by a program of this session. -/
import Derived.Test.YtbbddeacmjgpaaaQx0
namespace Go.Proofs.Ytbbddeacmjgpaaa.Q
open Go.RowKit Go.Proofs.YtbbddeacmjgpaaaW.PrintWords Go.Proofs.YtbbddeacmjgpaaaW.PrintLast Go.Proofs.YtbbddeacmjgpaaaW.PrintMore
attribute [local go_sem] max2_int min2_int max_two min_two max_three min_three max_four min_four   -- for this text's walks alone
set_option linter.unusedVariables false
set_option linter.unusedSimpArgs false

/-! ### bits_Mul64: function 42 -/
def bits_Mul64.f (a0 : Int) (a1 : Int) : Option (Int × Int) := some (IntKind.u64.wrap ((IntKind.u64.wrap ((IntKind.u64.wrap ((a0 / 4294967296) * (a1 / 4294967296))) + ((IntKind.u64.wrap ((IntKind.u64.wrap ((a0 / 4294967296) * (Go.bits .and .u64 a1 4294967295))) + ((IntKind.u64.wrap ((Go.bits .and .u64 a0 4294967295) * (Go.bits .and .u64 a1 4294967295))) / 4294967296))) / 4294967296))) + ((IntKind.u64.wrap ((Go.bits .and .u64 (IntKind.u64.wrap ((IntKind.u64.wrap ((a0 / 4294967296) * (Go.bits .and .u64 a1 4294967295))) + ((IntKind.u64.wrap ((Go.bits .and .u64 a0 4294967295) * (Go.bits .and .u64 a1 4294967295))) / 4294967296))) 4294967295) + (IntKind.u64.wrap ((Go.bits .and .u64 a0 4294967295) * (a1 / 4294967296))))) / 4294967296)), IntKind.u64.wrap (a0 * a1))
set_option maxHeartbeats 8000000 in
set_option maxRecDepth 100000 in
theorem bits_Mul64.calls (a0 : Int) (a1 : Int) (r1 : Int) (r2 : Int) (w : World) (h : bits_Mul64.f a0 a1 = some (r1, r2)) :
    Calls Try.prog 42 #[.int .u64 a0, .int .u64 a1] w fun e w' => e = .returned (.tuple #[.int .u64 r1, .int .u64 r2]) ∧ Drawn0 w w' := by
  have H : (some (IntKind.u64.wrap ((IntKind.u64.wrap ((IntKind.u64.wrap ((a0 / 4294967296) * (a1 / 4294967296))) + ((IntKind.u64.wrap ((IntKind.u64.wrap ((a0 / 4294967296) * (Go.bits .and .u64 a1 4294967295))) + ((IntKind.u64.wrap ((Go.bits .and .u64 a0 4294967295) * (Go.bits .and .u64 a1 4294967295))) / 4294967296))) / 4294967296))) + ((IntKind.u64.wrap ((Go.bits .and .u64 (IntKind.u64.wrap ((IntKind.u64.wrap ((a0 / 4294967296) * (Go.bits .and .u64 a1 4294967295))) + ((IntKind.u64.wrap ((Go.bits .and .u64 a0 4294967295) * (Go.bits .and .u64 a1 4294967295))) / 4294967296))) 4294967295) + (IntKind.u64.wrap ((Go.bits .and .u64 a0 4294967295) * (a1 / 4294967296))))) / 4294967296)), IntKind.u64.wrap (a0 * a1))) = some (r1, r2) := h
  clear h
  simp only [Option.some.injEq, Prod.mk.injEq] at H
  obtain ⟨rfl, rfl⟩ := H
  go_enter Try.func42, Try.ntmps42
  go_wp2
  go_ret2
  exact ⟨by first | rfl | (simp; done) | (simp [*]; done), by repeat (first | exact Drawn0.refl _ | apply Drawn0.step)⟩

/-! ### checked_size: function 43 -/
def checked_size.f (a0 : Int) : Option (Int) := if a0 < 0 then (some (IntKind.u64.wrap (-(IntKind.u64.wrap (a0))))) else (some (IntKind.u64.wrap (a0)))
set_option maxHeartbeats 8000000 in
set_option maxRecDepth 100000 in
theorem checked_size.calls (a0 : Int) (r : Int) (w : World) (h : checked_size.f a0 = some r) :
    Calls Try.prog 43 #[.int .i64 a0] w fun e w' => e = .returned (.int .u64 r) ∧ Drawn0 w w' := by
  have H : (if a0 < 0 then (some (IntKind.u64.wrap (-(IntKind.u64.wrap (a0))))) else (some (IntKind.u64.wrap (a0)))) = some r := h
  clear h
  by_cases c2 : a0 < 0
  · rw [if_pos c2] at H
    have c2b0 : decide (a0 < 0) = true := decide_eq_true c2
    clear c2
    obtain rfl := Option.some.inj H
    go_enter Try.func43, Try.ntmps43
    go_wp2
    go_ret
    exact ⟨by first | rfl | (simp; done) | (simp [*]; done), by repeat (first | exact Drawn0.refl _ | apply Drawn0.step)⟩
  · rw [if_neg c2] at H
    have c2b0 : decide (a0 < 0) = false := decide_eq_false c2
    clear c2
    obtain rfl := Option.some.inj H
    go_enter Try.func43, Try.ntmps43
    go_wp2
    go_ret
    exact ⟨by first | rfl | (simp; done) | (simp [*]; done), by repeat (first | exact Drawn0.refl _ | apply Drawn0.step)⟩

/-! ### checked_Mul: function 15 -/
mutual
def checked_Mul.j0 : Nat → Int → Int → Int → Int → Int → Option (Int × Bool)
  | 0, _, _, _, _, _ => none
  | k + 1, x0, x1, x6, x7, x8 => if x6 = 0 then (checked_Mul.j1 k x0 x1 x7 x8 (decide (x7 > 9223372036854775808))) else (checked_Mul.j1 k x0 x1 x7 x8 (x6 != 0))
def checked_Mul.j1 : Nat → Int → Int → Int → Int → Bool → Option (Int × Bool)
  | 0, _, _, _, _, _ => none
  | k + 1, x0, x1, x7, x8, x26 => if x26 = true then (some (0, false)) else (if x7 = 9223372036854775808 then (if ((decide (x0 < 0)) == (decide (x1 < 0))) = true then (some (0, false)) else (some (x8, true))) else (some (x8, true)))
end
def checked_Mul.f (k : Nat) (a0 : Int) (a1 : Int) : Option (Int × Bool) := (checked_size.f a0).bind fun t101 => ((checked_size.f a1).bind fun t102 => ((bits_Mul64.f t101 t102).bind fun bt103 => (if ((decide (a0 < 0)) != (decide (a1 < 0))) = true then (checked_Mul.j0 k a0 a1 bt103.1 bt103.2 (wrap64 (-(wrap64 (bt103.2))))) else (checked_Mul.j0 k a0 a1 bt103.1 bt103.2 (wrap64 (bt103.2))))))
theorem checked_Mul.mono_l : ∀ k, (∀ y0 y1 y2 y3 y4, LeO (checked_Mul.j0 k y0 y1 y2 y3 y4) (checked_Mul.j0 (k + 1) y0 y1 y2 y3 y4)) ∧ (∀ y0 y1 y2 y3 y4, LeO (checked_Mul.j1 k y0 y1 y2 y3 y4) (checked_Mul.j1 (k + 1) y0 y1 y2 y3 y4))
  | 0 => ⟨fun _ _ _ _ _ r h => by simp [checked_Mul.j0] at h, fun _ _ _ _ _ r h => by simp [checked_Mul.j1] at h⟩
  | k + 1 => by
    obtain ⟨ih0, ih1⟩ := checked_Mul.mono_l k
    refine ⟨?_, ?_⟩
    · intro y0 y1 y2 y3 y4
      unfold checked_Mul.j0
      repeat' first
      | (with_reducible exact ih0 _ _ _ _ _)
      | (with_reducible exact ih1 _ _ _ _ _)
      | (with_reducible exact LeO.refl _)
      | (with_reducible exact LeO.none _)
      | (with_reducible refine LeO.ite ?_ ?_)
      | (with_reducible refine LeO.bind ?_ (fun _ => ?_))
      | exact ih0 _ _ _ _ _
      | exact ih1 _ _ _ _ _
      | exact LeO.none _
      | refine LeO.ite ?_ ?_
      | refine LeO.bind ?_ (fun _ => ?_)
    · intro y0 y1 y2 y3 y4
      unfold checked_Mul.j1
      repeat' first
      | (with_reducible exact ih0 _ _ _ _ _)
      | (with_reducible exact ih1 _ _ _ _ _)
      | (with_reducible exact LeO.refl _)
      | (with_reducible exact LeO.none _)
      | (with_reducible refine LeO.ite ?_ ?_)
      | (with_reducible refine LeO.bind ?_ (fun _ => ?_))
      | exact ih0 _ _ _ _ _
      | exact ih1 _ _ _ _ _
      | exact LeO.none _
      | refine LeO.ite ?_ ?_
      | refine LeO.bind ?_ (fun _ => ?_)
theorem checked_Mul.mono : ∀ a0 a1 k, LeO (checked_Mul.f k a0 a1) (checked_Mul.f (k + 1) a0 a1) := by
  intro a0 a1 k
  obtain ⟨ih0, ih1⟩ := checked_Mul.mono_l k
  unfold checked_Mul.f
  repeat' first
      | (with_reducible exact ih0 _ _ _ _ _)
      | (with_reducible exact ih1 _ _ _ _ _)
      | (with_reducible exact LeO.refl _)
      | (with_reducible exact LeO.none _)
      | (with_reducible refine LeO.ite ?_ ?_)
      | (with_reducible refine LeO.bind ?_ (fun _ => ?_))
      | exact ih0 _ _ _ _ _
      | exact ih1 _ _ _ _ _
      | exact LeO.none _
      | refine LeO.ite ?_ ?_
      | refine LeO.bind ?_ (fun _ => ?_)
set_option maxHeartbeats 8000000 in
set_option maxRecDepth 100000 in
theorem checked_Mul.calls (k : Nat) (a0 : Int) (a1 : Int) (r1 : Int) (r2 : Bool) (w : World) (h : checked_Mul.f k a0 a1 = some (r1, r2)) :
    Calls Try.prog 15 #[.int .i64 a0, .int .i64 a1] w fun e w' => e = .returned (.tuple #[.int .i64 r1, .bool r2]) ∧ Drawn0 w w' := by
  have H : ((checked_size.f a0).bind fun t101 => ((checked_size.f a1).bind fun t102 => ((bits_Mul64.f t101 t102).bind fun bt103 => (if ((decide (a0 < 0)) != (decide (a1 < 0))) = true then (checked_Mul.j0 k a0 a1 bt103.1 bt103.2 (wrap64 (-(wrap64 (bt103.2))))) else (checked_Mul.j0 k a0 a1 bt103.1 bt103.2 (wrap64 (bt103.2))))))) = some (r1, r2) := h
  clear h
  rcases Bool.eq_false_or_eq_true ((decide (a0 < 0)) == (decide (a1 < 0))) with hz_ | hz_
  · have hzn : (!((decide (a0 < 0)) == (decide (a1 < 0)))) = false := by rw [hz_]; rfl
    have hzd : decide ((decide (a0 < 0)) = (decide (a1 < 0))) = true := by simpa using hz_
    have hzc : ¬ (((decide (a0 < 0)) != (decide (a1 < 0))) = true) := by rw [bne, hz_]; decide
    have hzb : ((decide (a0 < 0)) != (decide (a1 < 0))) = false := by rw [bne, hz_]; rfl
    have hze : ((decide (a0 < 0)) == (decide (a1 < 0))) = true := by first | (rw [hz_]; done) | (rw [hz_]; decide)
    replace H := Option.bind_eq_some_iff.mp H
    obtain ⟨t101, A30, H⟩ := H
    replace H : ((checked_size.f a1).bind fun t102 => ((bits_Mul64.f t101 t102).bind fun bt103 => (if ((decide (a0 < 0)) != (decide (a1 < 0))) = true then (checked_Mul.j0 k a0 a1 bt103.1 bt103.2 (wrap64 (-(wrap64 (bt103.2))))) else (checked_Mul.j0 k a0 a1 bt103.1 bt103.2 (wrap64 (bt103.2)))))) = some (r1, r2) := H
    have A3 := Aside0.mk A30
    clear A30
    replace H := Option.bind_eq_some_iff.mp H
    obtain ⟨t102, A40, H⟩ := H
    replace H : ((bits_Mul64.f t101 t102).bind fun bt103 => (if ((decide (a0 < 0)) != (decide (a1 < 0))) = true then (checked_Mul.j0 k a0 a1 bt103.1 bt103.2 (wrap64 (-(wrap64 (bt103.2))))) else (checked_Mul.j0 k a0 a1 bt103.1 bt103.2 (wrap64 (bt103.2))))) = some (r1, r2) := H
    have A4 := Aside0.mk A40
    clear A40
    replace H := Option.bind_eq_some_iff.mp H
    obtain ⟨⟨t103, t104⟩, A50, H⟩ := H
    replace H : (if ((decide (a0 < 0)) != (decide (a1 < 0))) = true then (checked_Mul.j0 k a0 a1 t103 t104 (wrap64 (-(wrap64 (t104))))) else (checked_Mul.j0 k a0 a1 t103 t104 (wrap64 (t104)))) = some (r1, r2) := H
    have A5 := Aside0.mk A50
    clear A50
    have HC6 := Aside0.mk H
    clear H
    go_enter Try.func15, Try.ntmps15
    go_upto_if 23 with (first | ((with_reducible refine gate_callee (f := 43) rfl ?_); refine goesL_ (some 11) rfl rfl Try.func43 (by kernel_rfl) rfl #[.int .i64 a0] rfl (by (try simp only [List.map_toArray, List.map_cons, List.map_nil]); first | done | rfl | (simp only [List.length_drop, List.length_take]; rfl)) ?_; (with_reducible refine (checked_size.calls a0 t101 _ A3.out).mono ?_); rintro e w' ⟨rfl, ⟨nd, rfl⟩⟩; refine ⟨_, rfl, ?_⟩) | ((with_reducible refine gate_callee (f := 43) rfl ?_); refine goesL_ (some 13) rfl rfl Try.func43 (by kernel_rfl) rfl #[.int .i64 a1] rfl (by (try simp only [List.map_toArray, List.map_cons, List.map_nil]); first | done | rfl | (simp only [List.length_drop, List.length_take]; rfl)) ?_; (with_reducible refine (checked_size.calls a1 t102 _ A4.out).mono ?_); rintro e w' ⟨rfl, ⟨nd, rfl⟩⟩; refine ⟨_, rfl, ?_⟩) | ((with_reducible refine gate_callee (f := 42) rfl ?_); refine goesL_ (some 14) rfl rfl Try.func42 (by kernel_rfl) rfl #[.int .u64 t101, .int .u64 t102] rfl (by (try simp only [List.map_toArray, List.map_cons, List.map_nil]); first | done | rfl | (simp only [List.length_drop, List.length_take]; rfl)) ?_; (with_reducible refine (bits_Mul64.calls t101 t102 t103 t104 _ A5.out).mono ?_); rintro e w' ⟨rfl, ⟨nd, rfl⟩⟩; refine ⟨_, rfl, ?_⟩))
    (try simp only [Act.put, List.setIfInBounds_toArray, List.set_cons_zero, List.set_cons_succ])
    go_cut [8] (fun v8 wc => ∃ (kq : Nat) (x8_5 : Int), v8 = .int .i64 x8_5 ∧ Aside0 (checked_Mul.j0 kq a0 a1 t103 t104 x8_5 = some (r1, r2)) ∧ Aside0 (kq ≤ k) ∧ Drawn0 w wc)
    case first =>
      have H := HC6.out
      clear HC6
      rw [if_neg hzc] at H
      have H' := Aside0.mk H
      clear H
      go_wp2
      go_meet
      case rel => exact ⟨_, (wrap64 (t104)), (by first | rfl | (simp; done) | (simp [*]; done)), H', ⟨by first | omega | exact Nat.le_refl _⟩, by repeat (first | exact Drawn0.refl _ | apply Drawn0.step)⟩
    case rest =>
      clear HC6
      try clear c1
      try clear p2
      try clear c4
      try clear p6
      obtain ⟨kq, x8_5, rfl, HA, HJ5, ⟨mc5, rfl⟩⟩ := hcut
      cases kq with
      | zero => exact absurd HA.out (by simp [checked_Mul.j0])
      | succ kj5 =>
        have H := HA.out
        clear HA
        simp only [checked_Mul.j0] at H
        have HC7 := Aside0.mk H
        clear H
        go_upto_if 26 with (fail)
        go_cut [26] (fun v26 wc => ∃ (kq : Nat) (x26_6 : Bool), v26 = .bool x26_6 ∧ Aside0 (checked_Mul.j1 kq a0 a1 t104 x8_5 x26_6 = some (r1, r2)) ∧ Aside0 (kq ≤ kj5) ∧ Drawn0 w wc)
        case first =>
          have H := HC7.out
          clear HC7
          by_cases c8 : t103 = 0
          · rw [if_pos c8] at H
            have c8b0 : (t103 == 0) = true := beq_iff_eq.mpr c8
            have c8b1 : (t103 != 0) = false := bne_eq_false_iff_eq.mpr c8
            clear c8
            (first | rw [c8b0] | (simp only [i64_w, i32_w]; rw [c8b0]) | skip)
            have H' := Aside0.mk H
            clear H
            go_wp2
            go_meet
            case rel => exact ⟨_, (decide (t104 > 9223372036854775808)), (by first | rfl | (simp; done) | (simp [*]; done)), H', ⟨by have := HJ5.out; first | omega | exact Nat.le_refl _⟩, by repeat (first | exact Drawn0.refl _ | apply Drawn0.step)⟩
          · rw [if_neg c8] at H
            have c8b0 : (t103 == 0) = false := beq_eq_false_iff_ne.mpr c8
            have c8b1 : (t103 != 0) = true := bne_iff_ne.mpr c8
            (first | rw [c8b0] | (simp only [i64_w, i32_w]; rw [c8b0]) | skip)
            have H' := Aside0.mk H
            clear H
            go_wp2
            go_meet
            case rel => exact ⟨_, ((t103 != 0)), (by first | rfl | (simp; done) | (simp [*]; done)), H', ⟨by have := HJ5.out; first | omega | exact Nat.le_refl _⟩, by repeat (first | exact Drawn0.refl _ | apply Drawn0.step)⟩
        case rest =>
          clear HC7
          try clear c1
          try clear p2
          try clear c4
          try clear c5
          try clear p6
          try clear c8
          try clear c8b0
          try clear c8b1
          try clear p2
          try clear p6
          obtain ⟨kq, x26_6, rfl, HA, HJ6, ⟨mc6, rfl⟩⟩ := hcut
          cases kq with
          | zero => exact absurd HA.out (by simp [checked_Mul.j1])
          | succ kj6 =>
            have H := HA.out
            clear HA
            simp only [checked_Mul.j1] at H
            by_cases c9 : x26_6 = true
            · subst c9
              have H1 : (some (0, false)) = some (r1, r2) := by rw [if_pos rfl] at H; exact H
              clear H
              have H := H1
              clear H1
              simp only [Option.some.injEq, Prod.mk.injEq] at H
              obtain ⟨rfl, rfl⟩ := H
              go_wp2
              go_ret2
              exact ⟨by first | rfl | (simp; done) | (simp [*]; done), by repeat (first | exact Drawn0.refl _ | apply Drawn0.step)⟩
            · replace c9 := Bool.eq_false_iff.mpr c9
              subst c9
              have H1 : (if t104 = 9223372036854775808 then (if ((decide (a0 < 0)) == (decide (a1 < 0))) = true then (some (0, false)) else (some (x8_5, true))) else (some (x8_5, true))) = some (r1, r2) := by rw [if_neg (show ¬ (false = true) by decide)] at H; exact H
              clear H
              have H := H1
              clear H1
              by_cases c10 : t104 = 9223372036854775808
              · rw [if_pos c10] at H
                have c10b0 : (t104 == 9223372036854775808) = true := beq_iff_eq.mpr c10
                have c10b1 : (t104 != 9223372036854775808) = false := bne_eq_false_iff_eq.mpr c10
                clear c10
                rw [if_pos hze] at H
                simp only [Option.some.injEq, Prod.mk.injEq] at H
                obtain ⟨rfl, rfl⟩ := H
                go_wp2
                go_ret2
                exact ⟨by first | rfl | (simp; done) | (simp [*]; done), by repeat (first | exact Drawn0.refl _ | apply Drawn0.step)⟩
              · rw [if_neg c10] at H
                have c10b0 : (t104 == 9223372036854775808) = false := beq_eq_false_iff_ne.mpr c10
                have c10b1 : (t104 != 9223372036854775808) = true := bne_iff_ne.mpr c10
                simp only [Option.some.injEq, Prod.mk.injEq] at H
                obtain ⟨rfl, rfl⟩ := H
                go_wp2
                go_ret2
                exact ⟨by first | rfl | (simp; done) | (simp [*]; done), by repeat (first | exact Drawn0.refl _ | apply Drawn0.step)⟩
  · have hzn : (!((decide (a0 < 0)) == (decide (a1 < 0)))) = true := by rw [hz_]; rfl
    have hzd : decide ((decide (a0 < 0)) = (decide (a1 < 0))) = false := by simpa using hz_
    have hzc : ((decide (a0 < 0)) != (decide (a1 < 0))) = true := by rw [bne, hz_]; decide
    have hzb : ((decide (a0 < 0)) != (decide (a1 < 0))) = true := by rw [bne, hz_]; rfl
    have hze : ¬ (((decide (a0 < 0)) == (decide (a1 < 0))) = true) := by first | (rw [hz_]; done) | (rw [hz_]; decide)
    replace H := Option.bind_eq_some_iff.mp H
    obtain ⟨t101, A110, H⟩ := H
    replace H : ((checked_size.f a1).bind fun t102 => ((bits_Mul64.f t101 t102).bind fun bt103 => (if ((decide (a0 < 0)) != (decide (a1 < 0))) = true then (checked_Mul.j0 k a0 a1 bt103.1 bt103.2 (wrap64 (-(wrap64 (bt103.2))))) else (checked_Mul.j0 k a0 a1 bt103.1 bt103.2 (wrap64 (bt103.2)))))) = some (r1, r2) := H
    have A11 := Aside0.mk A110
    clear A110
    replace H := Option.bind_eq_some_iff.mp H
    obtain ⟨t102, A120, H⟩ := H
    replace H : ((bits_Mul64.f t101 t102).bind fun bt103 => (if ((decide (a0 < 0)) != (decide (a1 < 0))) = true then (checked_Mul.j0 k a0 a1 bt103.1 bt103.2 (wrap64 (-(wrap64 (bt103.2))))) else (checked_Mul.j0 k a0 a1 bt103.1 bt103.2 (wrap64 (bt103.2))))) = some (r1, r2) := H
    have A12 := Aside0.mk A120
    clear A120
    replace H := Option.bind_eq_some_iff.mp H
    obtain ⟨⟨t103, t104⟩, A130, H⟩ := H
    replace H : (if ((decide (a0 < 0)) != (decide (a1 < 0))) = true then (checked_Mul.j0 k a0 a1 t103 t104 (wrap64 (-(wrap64 (t104))))) else (checked_Mul.j0 k a0 a1 t103 t104 (wrap64 (t104)))) = some (r1, r2) := H
    have A13 := Aside0.mk A130
    clear A130
    have HC14 := Aside0.mk H
    clear H
    go_enter Try.func15, Try.ntmps15
    go_upto_if 23 with (first | ((with_reducible refine gate_callee (f := 43) rfl ?_); refine goesL_ (some 11) rfl rfl Try.func43 (by kernel_rfl) rfl #[.int .i64 a0] rfl (by (try simp only [List.map_toArray, List.map_cons, List.map_nil]); first | done | rfl | (simp only [List.length_drop, List.length_take]; rfl)) ?_; (with_reducible refine (checked_size.calls a0 t101 _ A11.out).mono ?_); rintro e w' ⟨rfl, ⟨nd, rfl⟩⟩; refine ⟨_, rfl, ?_⟩) | ((with_reducible refine gate_callee (f := 43) rfl ?_); refine goesL_ (some 13) rfl rfl Try.func43 (by kernel_rfl) rfl #[.int .i64 a1] rfl (by (try simp only [List.map_toArray, List.map_cons, List.map_nil]); first | done | rfl | (simp only [List.length_drop, List.length_take]; rfl)) ?_; (with_reducible refine (checked_size.calls a1 t102 _ A12.out).mono ?_); rintro e w' ⟨rfl, ⟨nd, rfl⟩⟩; refine ⟨_, rfl, ?_⟩) | ((with_reducible refine gate_callee (f := 42) rfl ?_); refine goesL_ (some 14) rfl rfl Try.func42 (by kernel_rfl) rfl #[.int .u64 t101, .int .u64 t102] rfl (by (try simp only [List.map_toArray, List.map_cons, List.map_nil]); first | done | rfl | (simp only [List.length_drop, List.length_take]; rfl)) ?_; (with_reducible refine (bits_Mul64.calls t101 t102 t103 t104 _ A13.out).mono ?_); rintro e w' ⟨rfl, ⟨nd, rfl⟩⟩; refine ⟨_, rfl, ?_⟩))
    (try simp only [Act.put, List.setIfInBounds_toArray, List.set_cons_zero, List.set_cons_succ])
    go_cut [8] (fun v8 wc => ∃ (kq : Nat) (x8_13 : Int), v8 = .int .i64 x8_13 ∧ Aside0 (checked_Mul.j0 kq a0 a1 t103 t104 x8_13 = some (r1, r2)) ∧ Aside0 (kq ≤ k) ∧ Drawn0 w wc)
    case first =>
      have H := HC14.out
      clear HC14
      rw [if_pos hzc] at H
      have H' := Aside0.mk H
      clear H
      go_wp2
      go_meet
      case rel => exact ⟨_, (wrap64 (-(wrap64 (t104)))), (by first | rfl | (simp; done) | (simp [*]; done)), H', ⟨by first | omega | exact Nat.le_refl _⟩, by repeat (first | exact Drawn0.refl _ | apply Drawn0.step)⟩
    case rest =>
      clear HC14
      try clear c1
      try clear p2
      try clear c4
      try clear c5
      try clear c6
      try clear p6
      try clear c8
      try clear c8b0
      try clear c8b1
      try clear c9
      try clear c10
      try clear c10b0
      try clear c10b1
      try clear p2
      try clear p6
      obtain ⟨kq, x8_13, rfl, HA, HJ13, ⟨mc13, rfl⟩⟩ := hcut
      cases kq with
      | zero => exact absurd HA.out (by simp [checked_Mul.j0])
      | succ kj13 =>
        have H := HA.out
        clear HA
        simp only [checked_Mul.j0] at H
        have HC15 := Aside0.mk H
        clear H
        go_upto_if 26 with (fail)
        go_cut [26] (fun v26 wc => ∃ (kq : Nat) (x26_14 : Bool), v26 = .bool x26_14 ∧ Aside0 (checked_Mul.j1 kq a0 a1 t104 x8_13 x26_14 = some (r1, r2)) ∧ Aside0 (kq ≤ kj13) ∧ Drawn0 w wc)
        case first =>
          have H := HC15.out
          clear HC15
          by_cases c16 : t103 = 0
          · rw [if_pos c16] at H
            have c16b0 : (t103 == 0) = true := beq_iff_eq.mpr c16
            have c16b1 : (t103 != 0) = false := bne_eq_false_iff_eq.mpr c16
            clear c16
            (first | rw [c16b0] | (simp only [i64_w, i32_w]; rw [c16b0]) | skip)
            have H' := Aside0.mk H
            clear H
            go_wp2
            go_meet
            case rel => exact ⟨_, (decide (t104 > 9223372036854775808)), (by first | rfl | (simp; done) | (simp [*]; done)), H', ⟨by have := HJ13.out; first | omega | exact Nat.le_refl _⟩, by repeat (first | exact Drawn0.refl _ | apply Drawn0.step)⟩
          · rw [if_neg c16] at H
            have c16b0 : (t103 == 0) = false := beq_eq_false_iff_ne.mpr c16
            have c16b1 : (t103 != 0) = true := bne_iff_ne.mpr c16
            (first | rw [c16b0] | (simp only [i64_w, i32_w]; rw [c16b0]) | skip)
            have H' := Aside0.mk H
            clear H
            go_wp2
            go_meet
            case rel => exact ⟨_, ((t103 != 0)), (by first | rfl | (simp; done) | (simp [*]; done)), H', ⟨by have := HJ13.out; first | omega | exact Nat.le_refl _⟩, by repeat (first | exact Drawn0.refl _ | apply Drawn0.step)⟩
        case rest =>
          clear HC15
          try clear c1
          try clear p2
          try clear c4
          try clear c5
          try clear c6
          try clear p6
          try clear c8
          try clear c8b0
          try clear c8b1
          try clear c9
          try clear c10
          try clear c10b0
          try clear c10b1
          try clear c13
          try clear c15
          try clear c16
          try clear c16b0
          try clear c16b1
          try clear p2
          try clear p6
          obtain ⟨kq, x26_14, rfl, HA, HJ14, ⟨mc14, rfl⟩⟩ := hcut
          cases kq with
          | zero => exact absurd HA.out (by simp [checked_Mul.j1])
          | succ kj14 =>
            have H := HA.out
            clear HA
            simp only [checked_Mul.j1] at H
            by_cases c17 : x26_14 = true
            · subst c17
              have H1 : (some (0, false)) = some (r1, r2) := by rw [if_pos rfl] at H; exact H
              clear H
              have H := H1
              clear H1
              simp only [Option.some.injEq, Prod.mk.injEq] at H
              obtain ⟨rfl, rfl⟩ := H
              go_wp2
              go_ret2
              exact ⟨by first | rfl | (simp; done) | (simp [*]; done), by repeat (first | exact Drawn0.refl _ | apply Drawn0.step)⟩
            · replace c17 := Bool.eq_false_iff.mpr c17
              subst c17
              have H1 : (if t104 = 9223372036854775808 then (if ((decide (a0 < 0)) == (decide (a1 < 0))) = true then (some (0, false)) else (some (x8_13, true))) else (some (x8_13, true))) = some (r1, r2) := by rw [if_neg (show ¬ (false = true) by decide)] at H; exact H
              clear H
              have H := H1
              clear H1
              by_cases c18 : t104 = 9223372036854775808
              · rw [if_pos c18] at H
                have c18b0 : (t104 == 9223372036854775808) = true := beq_iff_eq.mpr c18
                have c18b1 : (t104 != 9223372036854775808) = false := bne_eq_false_iff_eq.mpr c18
                clear c18
                rw [if_neg hze] at H
                simp only [Option.some.injEq, Prod.mk.injEq] at H
                obtain ⟨rfl, rfl⟩ := H
                go_wp2
                go_ret2
                exact ⟨by first | rfl | (simp; done) | (simp [*]; done), by repeat (first | exact Drawn0.refl _ | apply Drawn0.step)⟩
              · rw [if_neg c18] at H
                have c18b0 : (t104 == 9223372036854775808) = false := beq_eq_false_iff_ne.mpr c18
                have c18b1 : (t104 != 9223372036854775808) = true := bne_iff_ne.mpr c18
                simp only [Option.some.injEq, Prod.mk.injEq] at H
                obtain ⟨rfl, rfl⟩ := H
                go_wp2
                go_ret2
                exact ⟨by first | rfl | (simp; done) | (simp [*]; done), by repeat (first | exact Drawn0.refl _ | apply Drawn0.step)⟩

/-! ### ebbtideref01_size: function 44 -/
def ebbtideref01_size.f (a0 : Int) : Option (Int) := if a0 < 0 then (some (IntKind.u64.wrap ((IntKind.u64.wrap (wrap64 (-(wrap64 (a0 + 1))))) + 1))) else (some (IntKind.u64.wrap (a0)))
set_option maxHeartbeats 8000000 in
set_option maxRecDepth 100000 in
theorem ebbtideref01_size.calls (a0 : Int) (r : Int) (w : World) (h : ebbtideref01_size.f a0 = some r) :
    Calls Try.prog 44 #[.int .i64 a0] w fun e w' => e = .returned (.int .u64 r) ∧ Drawn0 w w' := by
  have H : (if a0 < 0 then (some (IntKind.u64.wrap ((IntKind.u64.wrap (wrap64 (-(wrap64 (a0 + 1))))) + 1))) else (some (IntKind.u64.wrap (a0)))) = some r := h
  clear h
  by_cases c2 : a0 < 0
  · rw [if_pos c2] at H
    have c2b0 : decide (a0 < 0) = true := decide_eq_true c2
    clear c2
    obtain rfl := Option.some.inj H
    go_enter Try.func44, Try.ntmps44
    go_wp2
    go_ret
    exact ⟨by first | rfl | (simp; done) | (simp [*]; done), by repeat (first | exact Drawn0.refl _ | apply Drawn0.step)⟩
  · rw [if_neg c2] at H
    have c2b0 : decide (a0 < 0) = false := decide_eq_false c2
    clear c2
    obtain rfl := Option.some.inj H
    go_enter Try.func44, Try.ntmps44
    go_wp2
    go_ret
    exact ⟨by first | rfl | (simp; done) | (simp [*]; done), by repeat (first | exact Drawn0.refl _ | apply Drawn0.step)⟩

/-! ### ebbtideref01_Mul: function 16 -/
mutual
def ebbtideref01_Mul.j0 : Nat → Bool → Int → Int → Int → Int → Bool → Option (Int × Bool)
  | 0, _, _, _, _, _, _ => none
  | k + 1, x8, x9, x10, x11, x12, x38 => if x38 = true then (some (0, false)) else (if (IntKind.u64.wrap ((IntKind.u64.wrap (x9 * x12)) + (IntKind.u64.wrap (x10 * x11)))) ≥ 4294967296 then (some (0, false)) else (if (IntKind.u64.wrap ((IntKind.u64.wrap ((IntKind.u64.wrap ((IntKind.u64.wrap (x9 * x12)) + (IntKind.u64.wrap (x10 * x11)))) * 4294967296)) + (IntKind.u64.wrap (x10 * x12)))) < (IntKind.u64.wrap (x10 * x12)) then (some (0, false)) else (if x8 = true then (if (IntKind.u64.wrap ((IntKind.u64.wrap ((IntKind.u64.wrap ((IntKind.u64.wrap (x9 * x12)) + (IntKind.u64.wrap (x10 * x11)))) * 4294967296)) + (IntKind.u64.wrap (x10 * x12)))) > 9223372036854775808 then (ebbtideref01_Mul.j1 k x8 (IntKind.u64.wrap ((IntKind.u64.wrap ((IntKind.u64.wrap ((IntKind.u64.wrap (x9 * x12)) + (IntKind.u64.wrap (x10 * x11)))) * 4294967296)) + (IntKind.u64.wrap (x10 * x12)))) true) else (ebbtideref01_Mul.j1 k x8 (IntKind.u64.wrap ((IntKind.u64.wrap ((IntKind.u64.wrap ((IntKind.u64.wrap (x9 * x12)) + (IntKind.u64.wrap (x10 * x11)))) * 4294967296)) + (IntKind.u64.wrap (x10 * x12)))) false)) else (ebbtideref01_Mul.j1 k x8 (IntKind.u64.wrap ((IntKind.u64.wrap ((IntKind.u64.wrap ((IntKind.u64.wrap (x9 * x12)) + (IntKind.u64.wrap (x10 * x11)))) * 4294967296)) + (IntKind.u64.wrap (x10 * x12)))) (decide ((IntKind.u64.wrap ((IntKind.u64.wrap ((IntKind.u64.wrap ((IntKind.u64.wrap (x9 * x12)) + (IntKind.u64.wrap (x10 * x11)))) * 4294967296)) + (IntKind.u64.wrap (x10 * x12)))) > 9223372036854775807))))))
def ebbtideref01_Mul.j1 : Nat → Bool → Int → Bool → Option (Int × Bool)
  | 0, _, _, _ => none
  | k + 1, x8, x15, x70 => if x70 = true then (some (0, false)) else (if x8 = true then (if x15 > 0 then (some (wrap64 ((wrap64 (-(wrap64 (IntKind.u64.wrap (x15 - 1))))) - 1), true)) else (some (wrap64 (x15), true))) else (some (wrap64 (x15), true)))
end
def ebbtideref01_Mul.f (k : Nat) (a0 : Int) (a1 : Int) : Option (Int × Bool) := (ebbtideref01_size.f a0).bind fun t105 => ((ebbtideref01_size.f a1).bind fun t106 => (if (t105 / 4294967296) > 0 then (ebbtideref01_Mul.j0 k ((decide (a0 < 0)) != (decide (a1 < 0))) (t105 / 4294967296) (Go.bits .and .u64 t105 4294967295) (t106 / 4294967296) (Go.bits .and .u64 t106 4294967295) (decide ((t106 / 4294967296) > 0))) else (ebbtideref01_Mul.j0 k ((decide (a0 < 0)) != (decide (a1 < 0))) (t105 / 4294967296) (Go.bits .and .u64 t105 4294967295) (t106 / 4294967296) (Go.bits .and .u64 t106 4294967295) false)))
theorem ebbtideref01_Mul.mono_l : ∀ k, (∀ y0 y1 y2 y3 y4 y5, LeO (ebbtideref01_Mul.j0 k y0 y1 y2 y3 y4 y5) (ebbtideref01_Mul.j0 (k + 1) y0 y1 y2 y3 y4 y5)) ∧ (∀ y0 y1 y2, LeO (ebbtideref01_Mul.j1 k y0 y1 y2) (ebbtideref01_Mul.j1 (k + 1) y0 y1 y2))
  | 0 => ⟨fun _ _ _ _ _ _ r h => by simp [ebbtideref01_Mul.j0] at h, fun _ _ _ r h => by simp [ebbtideref01_Mul.j1] at h⟩
  | k + 1 => by
    obtain ⟨ih0, ih1⟩ := ebbtideref01_Mul.mono_l k
    refine ⟨?_, ?_⟩
    · intro y0 y1 y2 y3 y4 y5
      unfold ebbtideref01_Mul.j0
      repeat' first
      | (with_reducible exact ih0 _ _ _ _ _ _)
      | (with_reducible exact ih1 _ _ _)
      | (with_reducible exact LeO.refl _)
      | (with_reducible exact LeO.none _)
      | (with_reducible refine LeO.ite ?_ ?_)
      | (with_reducible refine LeO.bind ?_ (fun _ => ?_))
      | exact ih0 _ _ _ _ _ _
      | exact ih1 _ _ _
      | exact LeO.none _
      | refine LeO.ite ?_ ?_
      | refine LeO.bind ?_ (fun _ => ?_)
    · intro y0 y1 y2
      unfold ebbtideref01_Mul.j1
      repeat' first
      | (with_reducible exact ih0 _ _ _ _ _ _)
      | (with_reducible exact ih1 _ _ _)
      | (with_reducible exact LeO.refl _)
      | (with_reducible exact LeO.none _)
      | (with_reducible refine LeO.ite ?_ ?_)
      | (with_reducible refine LeO.bind ?_ (fun _ => ?_))
      | exact ih0 _ _ _ _ _ _
      | exact ih1 _ _ _
      | exact LeO.none _
      | refine LeO.ite ?_ ?_
      | refine LeO.bind ?_ (fun _ => ?_)
theorem ebbtideref01_Mul.mono : ∀ a0 a1 k, LeO (ebbtideref01_Mul.f k a0 a1) (ebbtideref01_Mul.f (k + 1) a0 a1) := by
  intro a0 a1 k
  obtain ⟨ih0, ih1⟩ := ebbtideref01_Mul.mono_l k
  unfold ebbtideref01_Mul.f
  repeat' first
      | (with_reducible exact ih0 _ _ _ _ _ _)
      | (with_reducible exact ih1 _ _ _)
      | (with_reducible exact LeO.refl _)
      | (with_reducible exact LeO.none _)
      | (with_reducible refine LeO.ite ?_ ?_)
      | (with_reducible refine LeO.bind ?_ (fun _ => ?_))
      | exact ih0 _ _ _ _ _ _
      | exact ih1 _ _ _
      | exact LeO.none _
      | refine LeO.ite ?_ ?_
      | refine LeO.bind ?_ (fun _ => ?_)
set_option maxHeartbeats 8000000 in
set_option maxRecDepth 100000 in
theorem ebbtideref01_Mul.calls (k : Nat) (a0 : Int) (a1 : Int) (r1 : Int) (r2 : Bool) (w : World) (h : ebbtideref01_Mul.f k a0 a1 = some (r1, r2)) :
    Calls Try.prog 16 #[.int .i64 a0, .int .i64 a1] w fun e w' => e = .returned (.tuple #[.int .i64 r1, .bool r2]) ∧ Drawn0 w w' := by
  have H : ((ebbtideref01_size.f a0).bind fun t105 => ((ebbtideref01_size.f a1).bind fun t106 => (if (t105 / 4294967296) > 0 then (ebbtideref01_Mul.j0 k ((decide (a0 < 0)) != (decide (a1 < 0))) (t105 / 4294967296) (Go.bits .and .u64 t105 4294967295) (t106 / 4294967296) (Go.bits .and .u64 t106 4294967295) (decide ((t106 / 4294967296) > 0))) else (ebbtideref01_Mul.j0 k ((decide (a0 < 0)) != (decide (a1 < 0))) (t105 / 4294967296) (Go.bits .and .u64 t105 4294967295) (t106 / 4294967296) (Go.bits .and .u64 t106 4294967295) false)))) = some (r1, r2) := h
  clear h
  rcases Bool.eq_false_or_eq_true ((decide (a0 < 0)) == (decide (a1 < 0))) with hz_ | hz_
  · have hzn : (!((decide (a0 < 0)) == (decide (a1 < 0)))) = false := by rw [hz_]; rfl
    have hzd : decide ((decide (a0 < 0)) = (decide (a1 < 0))) = true := by simpa using hz_
    have hzc : ¬ (((decide (a0 < 0)) != (decide (a1 < 0))) = true) := by rw [bne, hz_]; decide
    have hzb : ((decide (a0 < 0)) != (decide (a1 < 0))) = false := by rw [bne, hz_]; rfl
    have hze : ((decide (a0 < 0)) == (decide (a1 < 0))) = true := by first | (rw [hz_]; done) | (rw [hz_]; decide)
    replace H := Option.bind_eq_some_iff.mp H
    obtain ⟨t105, A30, H⟩ := H
    replace H : ((ebbtideref01_size.f a1).bind fun t106 => (if (t105 / 4294967296) > 0 then (ebbtideref01_Mul.j0 k ((decide (a0 < 0)) != (decide (a1 < 0))) (t105 / 4294967296) (Go.bits .and .u64 t105 4294967295) (t106 / 4294967296) (Go.bits .and .u64 t106 4294967295) (decide ((t106 / 4294967296) > 0))) else (ebbtideref01_Mul.j0 k ((decide (a0 < 0)) != (decide (a1 < 0))) (t105 / 4294967296) (Go.bits .and .u64 t105 4294967295) (t106 / 4294967296) (Go.bits .and .u64 t106 4294967295) false))) = some (r1, r2) := H
    have A3 := Aside0.mk A30
    clear A30
    replace H := Option.bind_eq_some_iff.mp H
    obtain ⟨t106, A40, H⟩ := H
    replace H : (if (t105 / 4294967296) > 0 then (ebbtideref01_Mul.j0 k ((decide (a0 < 0)) != (decide (a1 < 0))) (t105 / 4294967296) (Go.bits .and .u64 t105 4294967295) (t106 / 4294967296) (Go.bits .and .u64 t106 4294967295) (decide ((t106 / 4294967296) > 0))) else (ebbtideref01_Mul.j0 k ((decide (a0 < 0)) != (decide (a1 < 0))) (t105 / 4294967296) (Go.bits .and .u64 t105 4294967295) (t106 / 4294967296) (Go.bits .and .u64 t106 4294967295) false)) = some (r1, r2) := H
    have A4 := Aside0.mk A40
    clear A40
    have HC5 := Aside0.mk H
    clear H
    go_enter Try.func16, Try.ntmps16
    go_upto_region 5 with (first | ((with_reducible refine gate_callee (f := 44) rfl ?_); refine goesL_ (some 17) rfl rfl Try.func44 (by kernel_rfl) rfl #[.int .i64 a0] rfl (by (try simp only [List.map_toArray, List.map_cons, List.map_nil]); first | done | rfl | (simp only [List.length_drop, List.length_take]; rfl)) ?_; (with_reducible refine (ebbtideref01_size.calls a0 t105 _ A3.out).mono ?_); rintro e w' ⟨rfl, ⟨nd, rfl⟩⟩; refine ⟨_, rfl, ?_⟩) | ((with_reducible refine gate_callee (f := 44) rfl ?_); refine goesL_ (some 19) rfl rfl Try.func44 (by kernel_rfl) rfl #[.int .i64 a1] rfl (by (try simp only [List.map_toArray, List.map_cons, List.map_nil]); first | done | rfl | (simp only [List.length_drop, List.length_take]; rfl)) ?_; (with_reducible refine (ebbtideref01_size.calls a1 t106 _ A4.out).mono ?_); rintro e w' ⟨rfl, ⟨nd, rfl⟩⟩; refine ⟨_, rfl, ?_⟩))
    (try simp only [Act.put, List.setIfInBounds_toArray, List.set_cons_zero, List.set_cons_succ])
    go_cut [38] (fun v38 wc => ∃ (kq : Nat) (x38_4 : Bool), v38 = .bool x38_4 ∧ Aside0 (ebbtideref01_Mul.j0 kq ((decide (a0 < 0)) != (decide (a1 < 0))) (t105 / 4294967296) (Go.bits .and .u64 t105 4294967295) (t106 / 4294967296) (Go.bits .and .u64 t106 4294967295) x38_4 = some (r1, r2)) ∧ Aside0 (kq ≤ k) ∧ Drawn0 w wc)
    case first =>
      have H := HC5.out
      clear HC5
      by_cases c6 : (t105 / 4294967296) > 0
      · rw [if_pos c6] at H
        have c6b0 : decide (0 < (t105 / 4294967296)) = true := decide_eq_true c6
        clear c6
        (first | rw [c6b0] | (simp only [i64_w, i32_w]; rw [c6b0]) | skip)
        have H' := Aside0.mk H
        clear H
        go_wp2
        go_meet
        case rel => exact ⟨_, (decide ((t106 / 4294967296) > 0)), (by first | rfl | (simp; done) | (simp [*]; done)), H', ⟨by first | omega | exact Nat.le_refl _⟩, by repeat (first | exact Drawn0.refl _ | apply Drawn0.step)⟩
      · rw [if_neg c6] at H
        have c6b0 : decide (0 < (t105 / 4294967296)) = false := decide_eq_false c6
        clear c6
        (first | rw [c6b0] | (simp only [i64_w, i32_w]; rw [c6b0]) | skip)
        have H' := Aside0.mk H
        clear H
        go_wp2
        go_meet
        case rel => exact ⟨_, (false), (by first | rfl | (simp; done) | (simp [*]; done)), H', ⟨by first | omega | exact Nat.le_refl _⟩, by repeat (first | exact Drawn0.refl _ | apply Drawn0.step)⟩
    case rest =>
      clear HC5
      try clear c1
      try clear p2
      try clear c4
      try clear c6
      try clear c6b0
      obtain ⟨kq, x38_4, rfl, HA, HJ4, ⟨mc4, rfl⟩⟩ := hcut
      cases kq with
      | zero => exact absurd HA.out (by simp [ebbtideref01_Mul.j0])
      | succ kj4 =>
        have H := HA.out
        clear HA
        simp only [ebbtideref01_Mul.j0] at H
        by_cases c7 : x38_4 = true
        · subst c7
          have H1 : (some (0, false)) = some (r1, r2) := by rw [if_pos rfl] at H; exact H
          clear H
          have H := H1
          clear H1
          simp only [Option.some.injEq, Prod.mk.injEq] at H
          obtain ⟨rfl, rfl⟩ := H
          go_wp2
          go_ret2
          exact ⟨by first | rfl | (simp; done) | (simp [*]; done), by repeat (first | exact Drawn0.refl _ | apply Drawn0.step)⟩
        · replace c7 := Bool.eq_false_iff.mpr c7
          subst c7
          have H1 : (if (IntKind.u64.wrap ((IntKind.u64.wrap ((t105 / 4294967296) * (Go.bits .and .u64 t106 4294967295))) + (IntKind.u64.wrap ((Go.bits .and .u64 t105 4294967295) * (t106 / 4294967296))))) ≥ 4294967296 then (some (0, false)) else (if (IntKind.u64.wrap ((IntKind.u64.wrap ((IntKind.u64.wrap ((IntKind.u64.wrap ((t105 / 4294967296) * (Go.bits .and .u64 t106 4294967295))) + (IntKind.u64.wrap ((Go.bits .and .u64 t105 4294967295) * (t106 / 4294967296))))) * 4294967296)) + (IntKind.u64.wrap ((Go.bits .and .u64 t105 4294967295) * (Go.bits .and .u64 t106 4294967295))))) < (IntKind.u64.wrap ((Go.bits .and .u64 t105 4294967295) * (Go.bits .and .u64 t106 4294967295))) then (some (0, false)) else (if ((decide (a0 < 0)) != (decide (a1 < 0))) = true then (if (IntKind.u64.wrap ((IntKind.u64.wrap ((IntKind.u64.wrap ((IntKind.u64.wrap ((t105 / 4294967296) * (Go.bits .and .u64 t106 4294967295))) + (IntKind.u64.wrap ((Go.bits .and .u64 t105 4294967295) * (t106 / 4294967296))))) * 4294967296)) + (IntKind.u64.wrap ((Go.bits .and .u64 t105 4294967295) * (Go.bits .and .u64 t106 4294967295))))) > 9223372036854775808 then (ebbtideref01_Mul.j1 kj4 ((decide (a0 < 0)) != (decide (a1 < 0))) (IntKind.u64.wrap ((IntKind.u64.wrap ((IntKind.u64.wrap ((IntKind.u64.wrap ((t105 / 4294967296) * (Go.bits .and .u64 t106 4294967295))) + (IntKind.u64.wrap ((Go.bits .and .u64 t105 4294967295) * (t106 / 4294967296))))) * 4294967296)) + (IntKind.u64.wrap ((Go.bits .and .u64 t105 4294967295) * (Go.bits .and .u64 t106 4294967295))))) true) else (ebbtideref01_Mul.j1 kj4 ((decide (a0 < 0)) != (decide (a1 < 0))) (IntKind.u64.wrap ((IntKind.u64.wrap ((IntKind.u64.wrap ((IntKind.u64.wrap ((t105 / 4294967296) * (Go.bits .and .u64 t106 4294967295))) + (IntKind.u64.wrap ((Go.bits .and .u64 t105 4294967295) * (t106 / 4294967296))))) * 4294967296)) + (IntKind.u64.wrap ((Go.bits .and .u64 t105 4294967295) * (Go.bits .and .u64 t106 4294967295))))) false)) else (ebbtideref01_Mul.j1 kj4 ((decide (a0 < 0)) != (decide (a1 < 0))) (IntKind.u64.wrap ((IntKind.u64.wrap ((IntKind.u64.wrap ((IntKind.u64.wrap ((t105 / 4294967296) * (Go.bits .and .u64 t106 4294967295))) + (IntKind.u64.wrap ((Go.bits .and .u64 t105 4294967295) * (t106 / 4294967296))))) * 4294967296)) + (IntKind.u64.wrap ((Go.bits .and .u64 t105 4294967295) * (Go.bits .and .u64 t106 4294967295))))) (decide ((IntKind.u64.wrap ((IntKind.u64.wrap ((IntKind.u64.wrap ((IntKind.u64.wrap ((t105 / 4294967296) * (Go.bits .and .u64 t106 4294967295))) + (IntKind.u64.wrap ((Go.bits .and .u64 t105 4294967295) * (t106 / 4294967296))))) * 4294967296)) + (IntKind.u64.wrap ((Go.bits .and .u64 t105 4294967295) * (Go.bits .and .u64 t106 4294967295))))) > 9223372036854775807)))))) = some (r1, r2) := by rw [if_neg (show ¬ (false = true) by decide)] at H; exact H
          clear H
          have H := H1
          clear H1
          by_cases c8 : (IntKind.u64.wrap ((IntKind.u64.wrap ((t105 / 4294967296) * (Go.bits .and .u64 t106 4294967295))) + (IntKind.u64.wrap ((Go.bits .and .u64 t105 4294967295) * (t106 / 4294967296))))) ≥ 4294967296
          · rw [if_pos c8] at H
            have c8b0 : decide (4294967296 ≤ (IntKind.u64.wrap ((IntKind.u64.wrap ((t105 / 4294967296) * (Go.bits .and .u64 t106 4294967295))) + (IntKind.u64.wrap ((Go.bits .and .u64 t105 4294967295) * (t106 / 4294967296)))))) = true := decide_eq_true c8
            clear c8
            simp only [Option.some.injEq, Prod.mk.injEq] at H
            obtain ⟨rfl, rfl⟩ := H
            go_wp2
            go_ret2
            exact ⟨by first | rfl | (simp; done) | (simp [*]; done), by repeat (first | exact Drawn0.refl _ | apply Drawn0.step)⟩
          · rw [if_neg c8] at H
            have c8b0 : decide (4294967296 ≤ (IntKind.u64.wrap ((IntKind.u64.wrap ((t105 / 4294967296) * (Go.bits .and .u64 t106 4294967295))) + (IntKind.u64.wrap ((Go.bits .and .u64 t105 4294967295) * (t106 / 4294967296)))))) = false := decide_eq_false c8
            clear c8
            by_cases c9 : (IntKind.u64.wrap ((IntKind.u64.wrap ((IntKind.u64.wrap ((IntKind.u64.wrap ((t105 / 4294967296) * (Go.bits .and .u64 t106 4294967295))) + (IntKind.u64.wrap ((Go.bits .and .u64 t105 4294967295) * (t106 / 4294967296))))) * 4294967296)) + (IntKind.u64.wrap ((Go.bits .and .u64 t105 4294967295) * (Go.bits .and .u64 t106 4294967295))))) < (IntKind.u64.wrap ((Go.bits .and .u64 t105 4294967295) * (Go.bits .and .u64 t106 4294967295)))
            · rw [if_pos c9] at H
              have c9b0 : decide ((IntKind.u64.wrap ((IntKind.u64.wrap ((IntKind.u64.wrap ((IntKind.u64.wrap ((t105 / 4294967296) * (Go.bits .and .u64 t106 4294967295))) + (IntKind.u64.wrap ((Go.bits .and .u64 t105 4294967295) * (t106 / 4294967296))))) * 4294967296)) + (IntKind.u64.wrap ((Go.bits .and .u64 t105 4294967295) * (Go.bits .and .u64 t106 4294967295))))) < (IntKind.u64.wrap ((Go.bits .and .u64 t105 4294967295) * (Go.bits .and .u64 t106 4294967295)))) = true := decide_eq_true c9
              clear c9
              simp only [Option.some.injEq, Prod.mk.injEq] at H
              obtain ⟨rfl, rfl⟩ := H
              go_wp2
              go_ret2
              exact ⟨by first | rfl | (simp; done) | (simp [*]; done), by repeat (first | exact Drawn0.refl _ | apply Drawn0.step)⟩
            · rw [if_neg c9] at H
              have c9b0 : decide ((IntKind.u64.wrap ((IntKind.u64.wrap ((IntKind.u64.wrap ((IntKind.u64.wrap ((t105 / 4294967296) * (Go.bits .and .u64 t106 4294967295))) + (IntKind.u64.wrap ((Go.bits .and .u64 t105 4294967295) * (t106 / 4294967296))))) * 4294967296)) + (IntKind.u64.wrap ((Go.bits .and .u64 t105 4294967295) * (Go.bits .and .u64 t106 4294967295))))) < (IntKind.u64.wrap ((Go.bits .and .u64 t105 4294967295) * (Go.bits .and .u64 t106 4294967295)))) = false := decide_eq_false c9
              clear c9
              have HC10 := Aside0.mk H
              clear H
              go_upto_region 14 with (fail)
              go_cut [70] (fun v70 wc => ∃ (kq : Nat) (x70_9 : Bool), v70 = .bool x70_9 ∧ Aside0 (ebbtideref01_Mul.j1 kq ((decide (a0 < 0)) != (decide (a1 < 0))) (IntKind.u64.wrap ((IntKind.u64.wrap ((IntKind.u64.wrap ((IntKind.u64.wrap ((t105 / 4294967296) * (Go.bits .and .u64 t106 4294967295))) + (IntKind.u64.wrap ((Go.bits .and .u64 t105 4294967295) * (t106 / 4294967296))))) * 4294967296)) + (IntKind.u64.wrap ((Go.bits .and .u64 t105 4294967295) * (Go.bits .and .u64 t106 4294967295))))) x70_9 = some (r1, r2)) ∧ Aside0 (kq ≤ kj4) ∧ Drawn0 w wc)
              case first =>
                have H := HC10.out
                clear HC10
                rw [if_neg hzc] at H
                have H' := Aside0.mk H
                clear H
                go_wp2
                go_meet
                case rel => exact ⟨_, (decide ((IntKind.u64.wrap ((IntKind.u64.wrap ((IntKind.u64.wrap ((IntKind.u64.wrap ((t105 / 4294967296) * (Go.bits .and .u64 t106 4294967295))) + (IntKind.u64.wrap ((Go.bits .and .u64 t105 4294967295) * (t106 / 4294967296))))) * 4294967296)) + (IntKind.u64.wrap ((Go.bits .and .u64 t105 4294967295) * (Go.bits .and .u64 t106 4294967295))))) > 9223372036854775807)), (by first | rfl | (simp; done) | (simp [*]; done)), H', ⟨by have := HJ4.out; first | omega | exact Nat.le_refl _⟩, by repeat (first | exact Drawn0.refl _ | apply Drawn0.step)⟩
              case rest =>
                clear HC10
                try clear c1
                try clear p2
                try clear c4
                try clear c6
                try clear c6b0
                try clear c7
                try clear c8
                try clear c8b0
                try clear c9
                try clear c9b0
                try clear p2
                obtain ⟨kq, x70_9, rfl, HA, HJ9, ⟨mc9, rfl⟩⟩ := hcut
                cases kq with
                | zero => exact absurd HA.out (by simp [ebbtideref01_Mul.j1])
                | succ kj9 =>
                  have H := HA.out
                  clear HA
                  simp only [ebbtideref01_Mul.j1] at H
                  by_cases c11 : x70_9 = true
                  · subst c11
                    have H1 : (some (0, false)) = some (r1, r2) := by rw [if_pos rfl] at H; exact H
                    clear H
                    have H := H1
                    clear H1
                    simp only [Option.some.injEq, Prod.mk.injEq] at H
                    obtain ⟨rfl, rfl⟩ := H
                    go_wp2
                    go_ret2
                    exact ⟨by first | rfl | (simp; done) | (simp [*]; done), by repeat (first | exact Drawn0.refl _ | apply Drawn0.step)⟩
                  · replace c11 := Bool.eq_false_iff.mpr c11
                    subst c11
                    have H1 : (if ((decide (a0 < 0)) != (decide (a1 < 0))) = true then (if (IntKind.u64.wrap ((IntKind.u64.wrap ((IntKind.u64.wrap ((IntKind.u64.wrap ((t105 / 4294967296) * (Go.bits .and .u64 t106 4294967295))) + (IntKind.u64.wrap ((Go.bits .and .u64 t105 4294967295) * (t106 / 4294967296))))) * 4294967296)) + (IntKind.u64.wrap ((Go.bits .and .u64 t105 4294967295) * (Go.bits .and .u64 t106 4294967295))))) > 0 then (some (wrap64 ((wrap64 (-(wrap64 (IntKind.u64.wrap ((IntKind.u64.wrap ((IntKind.u64.wrap ((IntKind.u64.wrap ((IntKind.u64.wrap ((t105 / 4294967296) * (Go.bits .and .u64 t106 4294967295))) + (IntKind.u64.wrap ((Go.bits .and .u64 t105 4294967295) * (t106 / 4294967296))))) * 4294967296)) + (IntKind.u64.wrap ((Go.bits .and .u64 t105 4294967295) * (Go.bits .and .u64 t106 4294967295))))) - 1))))) - 1), true)) else (some (wrap64 ((IntKind.u64.wrap ((IntKind.u64.wrap ((IntKind.u64.wrap ((IntKind.u64.wrap ((t105 / 4294967296) * (Go.bits .and .u64 t106 4294967295))) + (IntKind.u64.wrap ((Go.bits .and .u64 t105 4294967295) * (t106 / 4294967296))))) * 4294967296)) + (IntKind.u64.wrap ((Go.bits .and .u64 t105 4294967295) * (Go.bits .and .u64 t106 4294967295)))))), true))) else (some (wrap64 ((IntKind.u64.wrap ((IntKind.u64.wrap ((IntKind.u64.wrap ((IntKind.u64.wrap ((t105 / 4294967296) * (Go.bits .and .u64 t106 4294967295))) + (IntKind.u64.wrap ((Go.bits .and .u64 t105 4294967295) * (t106 / 4294967296))))) * 4294967296)) + (IntKind.u64.wrap ((Go.bits .and .u64 t105 4294967295) * (Go.bits .and .u64 t106 4294967295)))))), true))) = some (r1, r2) := by rw [if_neg (show ¬ (false = true) by decide)] at H; exact H
                    clear H
                    have H := H1
                    clear H1
                    rw [if_neg hzc] at H
                    simp only [Option.some.injEq, Prod.mk.injEq] at H
                    obtain ⟨rfl, rfl⟩ := H
                    go_wp2
                    go_ret2
                    exact ⟨by first | rfl | (simp; done) | (simp [*]; done), by repeat (first | exact Drawn0.refl _ | apply Drawn0.step)⟩
  · have hzn : (!((decide (a0 < 0)) == (decide (a1 < 0)))) = true := by rw [hz_]; rfl
    have hzd : decide ((decide (a0 < 0)) = (decide (a1 < 0))) = false := by simpa using hz_
    have hzc : ((decide (a0 < 0)) != (decide (a1 < 0))) = true := by rw [bne, hz_]; decide
    have hzb : ((decide (a0 < 0)) != (decide (a1 < 0))) = true := by rw [bne, hz_]; rfl
    have hze : ¬ (((decide (a0 < 0)) == (decide (a1 < 0))) = true) := by first | (rw [hz_]; done) | (rw [hz_]; decide)
    replace H := Option.bind_eq_some_iff.mp H
    obtain ⟨t105, A120, H⟩ := H
    replace H : ((ebbtideref01_size.f a1).bind fun t106 => (if (t105 / 4294967296) > 0 then (ebbtideref01_Mul.j0 k ((decide (a0 < 0)) != (decide (a1 < 0))) (t105 / 4294967296) (Go.bits .and .u64 t105 4294967295) (t106 / 4294967296) (Go.bits .and .u64 t106 4294967295) (decide ((t106 / 4294967296) > 0))) else (ebbtideref01_Mul.j0 k ((decide (a0 < 0)) != (decide (a1 < 0))) (t105 / 4294967296) (Go.bits .and .u64 t105 4294967295) (t106 / 4294967296) (Go.bits .and .u64 t106 4294967295) false))) = some (r1, r2) := H
    have A12 := Aside0.mk A120
    clear A120
    replace H := Option.bind_eq_some_iff.mp H
    obtain ⟨t106, A130, H⟩ := H
    replace H : (if (t105 / 4294967296) > 0 then (ebbtideref01_Mul.j0 k ((decide (a0 < 0)) != (decide (a1 < 0))) (t105 / 4294967296) (Go.bits .and .u64 t105 4294967295) (t106 / 4294967296) (Go.bits .and .u64 t106 4294967295) (decide ((t106 / 4294967296) > 0))) else (ebbtideref01_Mul.j0 k ((decide (a0 < 0)) != (decide (a1 < 0))) (t105 / 4294967296) (Go.bits .and .u64 t105 4294967295) (t106 / 4294967296) (Go.bits .and .u64 t106 4294967295) false)) = some (r1, r2) := H
    have A13 := Aside0.mk A130
    clear A130
    have HC14 := Aside0.mk H
    clear H
    go_enter Try.func16, Try.ntmps16
    go_upto_region 5 with (first | ((with_reducible refine gate_callee (f := 44) rfl ?_); refine goesL_ (some 17) rfl rfl Try.func44 (by kernel_rfl) rfl #[.int .i64 a0] rfl (by (try simp only [List.map_toArray, List.map_cons, List.map_nil]); first | done | rfl | (simp only [List.length_drop, List.length_take]; rfl)) ?_; (with_reducible refine (ebbtideref01_size.calls a0 t105 _ A12.out).mono ?_); rintro e w' ⟨rfl, ⟨nd, rfl⟩⟩; refine ⟨_, rfl, ?_⟩) | ((with_reducible refine gate_callee (f := 44) rfl ?_); refine goesL_ (some 19) rfl rfl Try.func44 (by kernel_rfl) rfl #[.int .i64 a1] rfl (by (try simp only [List.map_toArray, List.map_cons, List.map_nil]); first | done | rfl | (simp only [List.length_drop, List.length_take]; rfl)) ?_; (with_reducible refine (ebbtideref01_size.calls a1 t106 _ A13.out).mono ?_); rintro e w' ⟨rfl, ⟨nd, rfl⟩⟩; refine ⟨_, rfl, ?_⟩))
    (try simp only [Act.put, List.setIfInBounds_toArray, List.set_cons_zero, List.set_cons_succ])
    go_cut [38] (fun v38 wc => ∃ (kq : Nat) (x38_13 : Bool), v38 = .bool x38_13 ∧ Aside0 (ebbtideref01_Mul.j0 kq ((decide (a0 < 0)) != (decide (a1 < 0))) (t105 / 4294967296) (Go.bits .and .u64 t105 4294967295) (t106 / 4294967296) (Go.bits .and .u64 t106 4294967295) x38_13 = some (r1, r2)) ∧ Aside0 (kq ≤ k) ∧ Drawn0 w wc)
    case first =>
      have H := HC14.out
      clear HC14
      by_cases c15 : (t105 / 4294967296) > 0
      · rw [if_pos c15] at H
        have c15b0 : decide (0 < (t105 / 4294967296)) = true := decide_eq_true c15
        clear c15
        (first | rw [c15b0] | (simp only [i64_w, i32_w]; rw [c15b0]) | skip)
        have H' := Aside0.mk H
        clear H
        go_wp2
        go_meet
        case rel => exact ⟨_, (decide ((t106 / 4294967296) > 0)), (by first | rfl | (simp; done) | (simp [*]; done)), H', ⟨by first | omega | exact Nat.le_refl _⟩, by repeat (first | exact Drawn0.refl _ | apply Drawn0.step)⟩
      · rw [if_neg c15] at H
        have c15b0 : decide (0 < (t105 / 4294967296)) = false := decide_eq_false c15
        clear c15
        (first | rw [c15b0] | (simp only [i64_w, i32_w]; rw [c15b0]) | skip)
        have H' := Aside0.mk H
        clear H
        go_wp2
        go_meet
        case rel => exact ⟨_, (false), (by first | rfl | (simp; done) | (simp [*]; done)), H', ⟨by first | omega | exact Nat.le_refl _⟩, by repeat (first | exact Drawn0.refl _ | apply Drawn0.step)⟩
    case rest =>
      clear HC14
      try clear c1
      try clear p2
      try clear c4
      try clear c6
      try clear c6b0
      try clear p6
      try clear c7
      try clear c8
      try clear c8b0
      try clear c9
      try clear c9b0
      try clear c11
      try clear c15
      try clear c15b0
      try clear p2
      obtain ⟨kq, x38_13, rfl, HA, HJ13, ⟨mc13, rfl⟩⟩ := hcut
      cases kq with
      | zero => exact absurd HA.out (by simp [ebbtideref01_Mul.j0])
      | succ kj13 =>
        have H := HA.out
        clear HA
        simp only [ebbtideref01_Mul.j0] at H
        by_cases c16 : x38_13 = true
        · subst c16
          have H1 : (some (0, false)) = some (r1, r2) := by rw [if_pos rfl] at H; exact H
          clear H
          have H := H1
          clear H1
          simp only [Option.some.injEq, Prod.mk.injEq] at H
          obtain ⟨rfl, rfl⟩ := H
          go_wp2
          go_ret2
          exact ⟨by first | rfl | (simp; done) | (simp [*]; done), by repeat (first | exact Drawn0.refl _ | apply Drawn0.step)⟩
        · replace c16 := Bool.eq_false_iff.mpr c16
          subst c16
          have H1 : (if (IntKind.u64.wrap ((IntKind.u64.wrap ((t105 / 4294967296) * (Go.bits .and .u64 t106 4294967295))) + (IntKind.u64.wrap ((Go.bits .and .u64 t105 4294967295) * (t106 / 4294967296))))) ≥ 4294967296 then (some (0, false)) else (if (IntKind.u64.wrap ((IntKind.u64.wrap ((IntKind.u64.wrap ((IntKind.u64.wrap ((t105 / 4294967296) * (Go.bits .and .u64 t106 4294967295))) + (IntKind.u64.wrap ((Go.bits .and .u64 t105 4294967295) * (t106 / 4294967296))))) * 4294967296)) + (IntKind.u64.wrap ((Go.bits .and .u64 t105 4294967295) * (Go.bits .and .u64 t106 4294967295))))) < (IntKind.u64.wrap ((Go.bits .and .u64 t105 4294967295) * (Go.bits .and .u64 t106 4294967295))) then (some (0, false)) else (if ((decide (a0 < 0)) != (decide (a1 < 0))) = true then (if (IntKind.u64.wrap ((IntKind.u64.wrap ((IntKind.u64.wrap ((IntKind.u64.wrap ((t105 / 4294967296) * (Go.bits .and .u64 t106 4294967295))) + (IntKind.u64.wrap ((Go.bits .and .u64 t105 4294967295) * (t106 / 4294967296))))) * 4294967296)) + (IntKind.u64.wrap ((Go.bits .and .u64 t105 4294967295) * (Go.bits .and .u64 t106 4294967295))))) > 9223372036854775808 then (ebbtideref01_Mul.j1 kj13 ((decide (a0 < 0)) != (decide (a1 < 0))) (IntKind.u64.wrap ((IntKind.u64.wrap ((IntKind.u64.wrap ((IntKind.u64.wrap ((t105 / 4294967296) * (Go.bits .and .u64 t106 4294967295))) + (IntKind.u64.wrap ((Go.bits .and .u64 t105 4294967295) * (t106 / 4294967296))))) * 4294967296)) + (IntKind.u64.wrap ((Go.bits .and .u64 t105 4294967295) * (Go.bits .and .u64 t106 4294967295))))) true) else (ebbtideref01_Mul.j1 kj13 ((decide (a0 < 0)) != (decide (a1 < 0))) (IntKind.u64.wrap ((IntKind.u64.wrap ((IntKind.u64.wrap ((IntKind.u64.wrap ((t105 / 4294967296) * (Go.bits .and .u64 t106 4294967295))) + (IntKind.u64.wrap ((Go.bits .and .u64 t105 4294967295) * (t106 / 4294967296))))) * 4294967296)) + (IntKind.u64.wrap ((Go.bits .and .u64 t105 4294967295) * (Go.bits .and .u64 t106 4294967295))))) false)) else (ebbtideref01_Mul.j1 kj13 ((decide (a0 < 0)) != (decide (a1 < 0))) (IntKind.u64.wrap ((IntKind.u64.wrap ((IntKind.u64.wrap ((IntKind.u64.wrap ((t105 / 4294967296) * (Go.bits .and .u64 t106 4294967295))) + (IntKind.u64.wrap ((Go.bits .and .u64 t105 4294967295) * (t106 / 4294967296))))) * 4294967296)) + (IntKind.u64.wrap ((Go.bits .and .u64 t105 4294967295) * (Go.bits .and .u64 t106 4294967295))))) (decide ((IntKind.u64.wrap ((IntKind.u64.wrap ((IntKind.u64.wrap ((IntKind.u64.wrap ((t105 / 4294967296) * (Go.bits .and .u64 t106 4294967295))) + (IntKind.u64.wrap ((Go.bits .and .u64 t105 4294967295) * (t106 / 4294967296))))) * 4294967296)) + (IntKind.u64.wrap ((Go.bits .and .u64 t105 4294967295) * (Go.bits .and .u64 t106 4294967295))))) > 9223372036854775807)))))) = some (r1, r2) := by rw [if_neg (show ¬ (false = true) by decide)] at H; exact H
          clear H
          have H := H1
          clear H1
          by_cases c17 : (IntKind.u64.wrap ((IntKind.u64.wrap ((t105 / 4294967296) * (Go.bits .and .u64 t106 4294967295))) + (IntKind.u64.wrap ((Go.bits .and .u64 t105 4294967295) * (t106 / 4294967296))))) ≥ 4294967296
          · rw [if_pos c17] at H
            have c17b0 : decide (4294967296 ≤ (IntKind.u64.wrap ((IntKind.u64.wrap ((t105 / 4294967296) * (Go.bits .and .u64 t106 4294967295))) + (IntKind.u64.wrap ((Go.bits .and .u64 t105 4294967295) * (t106 / 4294967296)))))) = true := decide_eq_true c17
            clear c17
            simp only [Option.some.injEq, Prod.mk.injEq] at H
            obtain ⟨rfl, rfl⟩ := H
            go_wp2
            go_ret2
            exact ⟨by first | rfl | (simp; done) | (simp [*]; done), by repeat (first | exact Drawn0.refl _ | apply Drawn0.step)⟩
          · rw [if_neg c17] at H
            have c17b0 : decide (4294967296 ≤ (IntKind.u64.wrap ((IntKind.u64.wrap ((t105 / 4294967296) * (Go.bits .and .u64 t106 4294967295))) + (IntKind.u64.wrap ((Go.bits .and .u64 t105 4294967295) * (t106 / 4294967296)))))) = false := decide_eq_false c17
            clear c17
            by_cases c18 : (IntKind.u64.wrap ((IntKind.u64.wrap ((IntKind.u64.wrap ((IntKind.u64.wrap ((t105 / 4294967296) * (Go.bits .and .u64 t106 4294967295))) + (IntKind.u64.wrap ((Go.bits .and .u64 t105 4294967295) * (t106 / 4294967296))))) * 4294967296)) + (IntKind.u64.wrap ((Go.bits .and .u64 t105 4294967295) * (Go.bits .and .u64 t106 4294967295))))) < (IntKind.u64.wrap ((Go.bits .and .u64 t105 4294967295) * (Go.bits .and .u64 t106 4294967295)))
            · rw [if_pos c18] at H
              have c18b0 : decide ((IntKind.u64.wrap ((IntKind.u64.wrap ((IntKind.u64.wrap ((IntKind.u64.wrap ((t105 / 4294967296) * (Go.bits .and .u64 t106 4294967295))) + (IntKind.u64.wrap ((Go.bits .and .u64 t105 4294967295) * (t106 / 4294967296))))) * 4294967296)) + (IntKind.u64.wrap ((Go.bits .and .u64 t105 4294967295) * (Go.bits .and .u64 t106 4294967295))))) < (IntKind.u64.wrap ((Go.bits .and .u64 t105 4294967295) * (Go.bits .and .u64 t106 4294967295)))) = true := decide_eq_true c18
              clear c18
              simp only [Option.some.injEq, Prod.mk.injEq] at H
              obtain ⟨rfl, rfl⟩ := H
              go_wp2
              go_ret2
              exact ⟨by first | rfl | (simp; done) | (simp [*]; done), by repeat (first | exact Drawn0.refl _ | apply Drawn0.step)⟩
            · rw [if_neg c18] at H
              have c18b0 : decide ((IntKind.u64.wrap ((IntKind.u64.wrap ((IntKind.u64.wrap ((IntKind.u64.wrap ((t105 / 4294967296) * (Go.bits .and .u64 t106 4294967295))) + (IntKind.u64.wrap ((Go.bits .and .u64 t105 4294967295) * (t106 / 4294967296))))) * 4294967296)) + (IntKind.u64.wrap ((Go.bits .and .u64 t105 4294967295) * (Go.bits .and .u64 t106 4294967295))))) < (IntKind.u64.wrap ((Go.bits .and .u64 t105 4294967295) * (Go.bits .and .u64 t106 4294967295)))) = false := decide_eq_false c18
              clear c18
              have HC19 := Aside0.mk H
              clear H
              go_upto_region 14 with (fail)
              go_cut [70] (fun v70 wc => ∃ (kq : Nat) (x70_18 : Bool), v70 = .bool x70_18 ∧ Aside0 (ebbtideref01_Mul.j1 kq ((decide (a0 < 0)) != (decide (a1 < 0))) (IntKind.u64.wrap ((IntKind.u64.wrap ((IntKind.u64.wrap ((IntKind.u64.wrap ((t105 / 4294967296) * (Go.bits .and .u64 t106 4294967295))) + (IntKind.u64.wrap ((Go.bits .and .u64 t105 4294967295) * (t106 / 4294967296))))) * 4294967296)) + (IntKind.u64.wrap ((Go.bits .and .u64 t105 4294967295) * (Go.bits .and .u64 t106 4294967295))))) x70_18 = some (r1, r2)) ∧ Aside0 (kq ≤ kj13) ∧ Drawn0 w wc)
              case first =>
                have H := HC19.out
                clear HC19
                rw [if_pos hzc] at H
                by_cases c20 : (IntKind.u64.wrap ((IntKind.u64.wrap ((IntKind.u64.wrap ((IntKind.u64.wrap ((t105 / 4294967296) * (Go.bits .and .u64 t106 4294967295))) + (IntKind.u64.wrap ((Go.bits .and .u64 t105 4294967295) * (t106 / 4294967296))))) * 4294967296)) + (IntKind.u64.wrap ((Go.bits .and .u64 t105 4294967295) * (Go.bits .and .u64 t106 4294967295))))) > 9223372036854775808
                · rw [if_pos c20] at H
                  have c20b0 : decide (9223372036854775808 < (IntKind.u64.wrap ((IntKind.u64.wrap ((IntKind.u64.wrap ((IntKind.u64.wrap ((t105 / 4294967296) * (Go.bits .and .u64 t106 4294967295))) + (IntKind.u64.wrap ((Go.bits .and .u64 t105 4294967295) * (t106 / 4294967296))))) * 4294967296)) + (IntKind.u64.wrap ((Go.bits .and .u64 t105 4294967295) * (Go.bits .and .u64 t106 4294967295)))))) = true := decide_eq_true c20
                  clear c20
                  (first | rw [c20b0] | (simp only [i64_w, i32_w]; rw [c20b0]) | skip)
                  have H' := Aside0.mk H
                  clear H
                  go_wp2
                  go_meet
                  case rel => exact ⟨_, (true), (by first | rfl | (simp; done) | (simp [*]; done)), H', ⟨by have := HJ13.out; first | omega | exact Nat.le_refl _⟩, by repeat (first | exact Drawn0.refl _ | apply Drawn0.step)⟩
                · rw [if_neg c20] at H
                  have c20b0 : decide (9223372036854775808 < (IntKind.u64.wrap ((IntKind.u64.wrap ((IntKind.u64.wrap ((IntKind.u64.wrap ((t105 / 4294967296) * (Go.bits .and .u64 t106 4294967295))) + (IntKind.u64.wrap ((Go.bits .and .u64 t105 4294967295) * (t106 / 4294967296))))) * 4294967296)) + (IntKind.u64.wrap ((Go.bits .and .u64 t105 4294967295) * (Go.bits .and .u64 t106 4294967295)))))) = false := decide_eq_false c20
                  clear c20
                  (first | rw [c20b0] | (simp only [i64_w, i32_w]; rw [c20b0]) | skip)
                  have H' := Aside0.mk H
                  clear H
                  go_wp2
                  go_meet
                  case rel => exact ⟨_, (false), (by first | rfl | (simp; done) | (simp [*]; done)), H', ⟨by have := HJ13.out; first | omega | exact Nat.le_refl _⟩, by repeat (first | exact Drawn0.refl _ | apply Drawn0.step)⟩
              case rest =>
                clear HC19
                try clear c1
                try clear c2
                try clear p2
                try clear c4
                try clear c6
                try clear c6b0
                try clear p6
                try clear c7
                try clear c8
                try clear c8b0
                try clear c9
                try clear c9b0
                try clear c11
                try clear c13
                try clear c15
                try clear c15b0
                try clear c16
                try clear c17
                try clear c17b0
                try clear c18
                try clear c18b0
                try clear c20
                try clear c20b0
                try clear p2
                try clear p6
                obtain ⟨kq, x70_18, rfl, HA, HJ18, ⟨mc18, rfl⟩⟩ := hcut
                cases kq with
                | zero => exact absurd HA.out (by simp [ebbtideref01_Mul.j1])
                | succ kj18 =>
                  have H := HA.out
                  clear HA
                  simp only [ebbtideref01_Mul.j1] at H
                  by_cases c21 : x70_18 = true
                  · subst c21
                    have H1 : (some (0, false)) = some (r1, r2) := by rw [if_pos rfl] at H; exact H
                    clear H
                    have H := H1
                    clear H1
                    simp only [Option.some.injEq, Prod.mk.injEq] at H
                    obtain ⟨rfl, rfl⟩ := H
                    go_wp2
                    go_ret2
                    exact ⟨by first | rfl | (simp; done) | (simp [*]; done), by repeat (first | exact Drawn0.refl _ | apply Drawn0.step)⟩
                  · replace c21 := Bool.eq_false_iff.mpr c21
                    subst c21
                    have H1 : (if ((decide (a0 < 0)) != (decide (a1 < 0))) = true then (if (IntKind.u64.wrap ((IntKind.u64.wrap ((IntKind.u64.wrap ((IntKind.u64.wrap ((t105 / 4294967296) * (Go.bits .and .u64 t106 4294967295))) + (IntKind.u64.wrap ((Go.bits .and .u64 t105 4294967295) * (t106 / 4294967296))))) * 4294967296)) + (IntKind.u64.wrap ((Go.bits .and .u64 t105 4294967295) * (Go.bits .and .u64 t106 4294967295))))) > 0 then (some (wrap64 ((wrap64 (-(wrap64 (IntKind.u64.wrap ((IntKind.u64.wrap ((IntKind.u64.wrap ((IntKind.u64.wrap ((IntKind.u64.wrap ((t105 / 4294967296) * (Go.bits .and .u64 t106 4294967295))) + (IntKind.u64.wrap ((Go.bits .and .u64 t105 4294967295) * (t106 / 4294967296))))) * 4294967296)) + (IntKind.u64.wrap ((Go.bits .and .u64 t105 4294967295) * (Go.bits .and .u64 t106 4294967295))))) - 1))))) - 1), true)) else (some (wrap64 ((IntKind.u64.wrap ((IntKind.u64.wrap ((IntKind.u64.wrap ((IntKind.u64.wrap ((t105 / 4294967296) * (Go.bits .and .u64 t106 4294967295))) + (IntKind.u64.wrap ((Go.bits .and .u64 t105 4294967295) * (t106 / 4294967296))))) * 4294967296)) + (IntKind.u64.wrap ((Go.bits .and .u64 t105 4294967295) * (Go.bits .and .u64 t106 4294967295)))))), true))) else (some (wrap64 ((IntKind.u64.wrap ((IntKind.u64.wrap ((IntKind.u64.wrap ((IntKind.u64.wrap ((t105 / 4294967296) * (Go.bits .and .u64 t106 4294967295))) + (IntKind.u64.wrap ((Go.bits .and .u64 t105 4294967295) * (t106 / 4294967296))))) * 4294967296)) + (IntKind.u64.wrap ((Go.bits .and .u64 t105 4294967295) * (Go.bits .and .u64 t106 4294967295)))))), true))) = some (r1, r2) := by rw [if_neg (show ¬ (false = true) by decide)] at H; exact H
                    clear H
                    have H := H1
                    clear H1
                    rw [if_pos hzc] at H
                    by_cases c22 : (IntKind.u64.wrap ((IntKind.u64.wrap ((IntKind.u64.wrap ((IntKind.u64.wrap ((t105 / 4294967296) * (Go.bits .and .u64 t106 4294967295))) + (IntKind.u64.wrap ((Go.bits .and .u64 t105 4294967295) * (t106 / 4294967296))))) * 4294967296)) + (IntKind.u64.wrap ((Go.bits .and .u64 t105 4294967295) * (Go.bits .and .u64 t106 4294967295))))) > 0
                    · rw [if_pos c22] at H
                      have c22b0 : decide (0 < (IntKind.u64.wrap ((IntKind.u64.wrap ((IntKind.u64.wrap ((IntKind.u64.wrap ((t105 / 4294967296) * (Go.bits .and .u64 t106 4294967295))) + (IntKind.u64.wrap ((Go.bits .and .u64 t105 4294967295) * (t106 / 4294967296))))) * 4294967296)) + (IntKind.u64.wrap ((Go.bits .and .u64 t105 4294967295) * (Go.bits .and .u64 t106 4294967295)))))) = true := decide_eq_true c22
                      clear c22
                      simp only [Option.some.injEq, Prod.mk.injEq] at H
                      obtain ⟨rfl, rfl⟩ := H
                      go_wp2
                      go_ret2
                      exact ⟨by first | rfl | (simp; done) | (simp [*]; done), by repeat (first | exact Drawn0.refl _ | apply Drawn0.step)⟩
                    · rw [if_neg c22] at H
                      have c22b0 : decide (0 < (IntKind.u64.wrap ((IntKind.u64.wrap ((IntKind.u64.wrap ((IntKind.u64.wrap ((t105 / 4294967296) * (Go.bits .and .u64 t106 4294967295))) + (IntKind.u64.wrap ((Go.bits .and .u64 t105 4294967295) * (t106 / 4294967296))))) * 4294967296)) + (IntKind.u64.wrap ((Go.bits .and .u64 t105 4294967295) * (Go.bits .and .u64 t106 4294967295)))))) = false := decide_eq_false c22
                      clear c22
                      simp only [Option.some.injEq, Prod.mk.injEq] at H
                      obtain ⟨rfl, rfl⟩ := H
                      go_wp2
                      go_ret2
                      exact ⟨by first | rfl | (simp; done) | (simp [*]; done), by repeat (first | exact Drawn0.refl _ | apply Drawn0.step)⟩

end Go.Proofs.Ytbbddeacmjgpaaa.Q
