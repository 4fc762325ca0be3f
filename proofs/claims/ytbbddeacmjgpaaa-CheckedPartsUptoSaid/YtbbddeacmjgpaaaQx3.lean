/- What is proved: each named Go function, called, answers as its plain Lean function tells (x-texts), or the row of a law out of its plain statement (Law-texts). Conditions: those written in each statement. Written by a program of this session. -/
import Derived.Test.YtbbddeacmjgpaaaQx0
import Derived.Test.YtbbddeacmjgpaaaQx1
import Derived.Test.YtbbddeacmjgpaaaQx2
namespace Go.Proofs.Ytbbddeacmjgpaaa.Q
open Go.RowKit Go.Proofs.YtbbddeacmjgpaaaW.PrintWords Go.Proofs.YtbbddeacmjgpaaaW.PrintLast Go.Proofs.YtbbddeacmjgpaaaW.PrintMore
attribute [local go_sem] max2_int min2_int max_two min_two max_three min_three max_four min_four   -- for this text's walks alone
set_option linter.unusedVariables false
set_option linter.unusedSimpArgs false

/-! ### ebbtideref01_power: function 45 -/
def ebbtideref01_power.l0 : Nat → Int → Int → Option (Int)
  | 0, _, _ => none
  | k + 1, x0, x3 => if x0 > 0 then (ebbtideref01_power.l0 k (wrap64 (x0 - 1)) (wrap64 (x3 * 2))) else (some x3)
def ebbtideref01_power.f (k : Nat) (a0 : Int) : Option (Int) := ebbtideref01_power.l0 k a0 1
theorem ebbtideref01_power.mono_l : ∀ k, (∀ y0 y1, LeO (ebbtideref01_power.l0 k y0 y1) (ebbtideref01_power.l0 (k + 1) y0 y1))
  | 0 => fun _ _ r h => by simp [ebbtideref01_power.l0] at h
  | k + 1 => by
    have ih0 := ebbtideref01_power.mono_l k
    · intro y0 y1
      unfold ebbtideref01_power.l0
      repeat' first
      | (with_reducible exact ih0 _ _)
      | (with_reducible exact LeO.refl _)
      | (with_reducible exact LeO.none _)
      | (with_reducible refine LeO.ite ?_ ?_)
      | (with_reducible refine LeO.bind ?_ (fun _ => ?_))
      | exact ih0 _ _
      | exact LeO.none _
      | refine LeO.ite ?_ ?_
      | refine LeO.bind ?_ (fun _ => ?_)
theorem ebbtideref01_power.mono : ∀ a0 k, LeO (ebbtideref01_power.f k a0) (ebbtideref01_power.f (k + 1) a0) := by
  intro a0 k
  have ih0 := ebbtideref01_power.mono_l k
  unfold ebbtideref01_power.f
  repeat' first
      | (with_reducible exact ih0 _ _)
      | (with_reducible exact LeO.refl _)
      | (with_reducible exact LeO.none _)
      | (with_reducible refine LeO.ite ?_ ?_)
      | (with_reducible refine LeO.bind ?_ (fun _ => ?_))
      | exact ih0 _ _
      | exact LeO.none _
      | refine LeO.ite ?_ ?_
      | refine LeO.bind ?_ (fun _ => ?_)
set_option maxHeartbeats 8000000 in
set_option maxRecDepth 100000 in
theorem ebbtideref01_power.calls (k : Nat) (a0 : Int) (r : Int) (w : World) (h : ebbtideref01_power.f k a0 = some r) :
    Calls Try.prog 45 #[.int .i64 a0] w fun e w' => e = .returned (.int .i64 r) ∧ Drawn0 w w' := by
  have H : (ebbtideref01_power.l0 k a0 1) = some r := h
  clear h
  have H' := Aside0.mk H
  clear H
  go_enter Try.func45, Try.ntmps45
  go_wp2
  go_loopg [0, 3] k (fun kq v0 v3 w' => ∃ (x0_1 : Int) (x3_1 : Int), v0 = .int .i64 x0_1 ∧ v3 = .int .i64 x3_1 ∧ Aside0 (ebbtideref01_power.l0 kq x0_1 x3_1 = some r) ∧ Aside0 (kq ≤ k) ∧ Drawn0 w w')
  case atStart => exact ⟨(a0), (1), (by first | rfl | (simp; done) | (simp [*]; done)), (by first | rfl | (simp; done) | (simp [*]; done)), H', ⟨Nat.le_refl _⟩, by repeat (first | exact Drawn0.refl _ | apply Drawn0.step)⟩
  case round =>
    clear H'
    obtain ⟨x0_1, x3_1, rfl, rfl, HA, HK1, ⟨m1, rfl⟩⟩ := hrel
    cases gk with
    | zero => exact absurd HA.out (by simp [ebbtideref01_power.l0])
    | succ k1 =>
      have H := HA.out
      clear HA
      simp only [ebbtideref01_power.l0] at H
      by_cases c2 : x0_1 > 0
      · rw [if_pos c2] at H
        have c2b0 : decide (0 < x0_1) = true := decide_eq_true c2
        clear c2
        have H' := Aside0.mk H
        clear H
        go_wp2
        go_roundg k1
        case measure => have := HK1.out; omega
        case rel => exact ⟨(wrap64 (x0_1 - 1)), (wrap64 (x3_1 * 2)), (by first | rfl | (simp; done) | (simp [*]; done)), (by first | rfl | (simp; done) | (simp [*]; done)), H', ⟨by have := HK1.out; omega⟩, by repeat (first | exact Drawn0.refl _ | apply Drawn0.step)⟩
      · rw [if_neg c2] at H
        have c2b0 : decide (0 < x0_1) = false := decide_eq_false c2
        clear c2
        obtain rfl := Option.some.inj H
        go_wp2
        go_ret
        exact ⟨by first | rfl | (simp; done) | (simp [*]; done), by repeat (first | exact Drawn0.refl _ | apply Drawn0.step)⟩

/-! ### ebbtideref01_Narrow: function 19 -/
def ebbtideref01_Narrow.j0 : Nat → Int → Int → Bool → Option (Int × Bool)
  | 0, _, _, _ => none
  | k + 1, x0, x1, x16 => if x16 = true then (some (0, false)) else (if x1 = 64 then (some (x0, true)) else (if x1 = 63 then (if (Int.tmod x0 4611686018427387904) < 0 then ((ebbtideref01_Shr.f k x0 62).bind fun bt125 => (if (Int.tmod bt125.1 2) = 0 then (some (wrap64 ((Int.tmod x0 4611686018427387904) + 4611686018427387904), true)) else (some (wrap64 ((wrap64 ((Int.tmod x0 4611686018427387904) + 4611686018427387904)) - 4611686018427387904), true)))) else ((ebbtideref01_Shr.f k x0 62).bind fun bt127 => (if (Int.tmod bt127.1 2) = 0 then (some (Int.tmod x0 4611686018427387904, true)) else (some (wrap64 ((Int.tmod x0 4611686018427387904) - 4611686018427387904), true))))) else ((ebbtideref01_power.f k x1).bind fun t129 => (if t129 = 0 then (none) else (if (Int.tmod x0 t129) < 0 then (if (wrap64 ((Int.tmod x0 t129) + t129)) ≥ (wrap64 (Int.tdiv t129 2)) then (some (wrap64 ((wrap64 ((Int.tmod x0 t129) + t129)) - t129), true)) else (some (wrap64 ((Int.tmod x0 t129) + t129), true))) else (if (Int.tmod x0 t129) ≥ (wrap64 (Int.tdiv t129 2)) then (some (wrap64 ((Int.tmod x0 t129) - t129), true)) else (some (Int.tmod x0 t129, true))))))))
def ebbtideref01_Narrow.f (k : Nat) (a0 : Int) (a1 : Int) : Option (Int × Bool) := if a1 < 1 then (ebbtideref01_Narrow.j0 k a0 a1 true) else (ebbtideref01_Narrow.j0 k a0 a1 (decide (a1 > 64)))
theorem ebbtideref01_Narrow.mono_l : ∀ k, (∀ y0 y1 y2, LeO (ebbtideref01_Narrow.j0 k y0 y1 y2) (ebbtideref01_Narrow.j0 (k + 1) y0 y1 y2))
  | 0 => fun _ _ _ r h => by simp [ebbtideref01_Narrow.j0] at h
  | k + 1 => by
    have ih0 := ebbtideref01_Narrow.mono_l k
    · intro y0 y1 y2
      unfold ebbtideref01_Narrow.j0
      repeat' first
      | (with_reducible exact ih0 _ _ _)
      | (with_reducible exact ebbtideref01_Shr.mono _ _ _)
      | (with_reducible exact ebbtideref01_power.mono _ _)
      | (with_reducible exact LeO.refl _)
      | (with_reducible exact LeO.none _)
      | (with_reducible refine LeO.ite ?_ ?_)
      | (with_reducible refine LeO.bind ?_ (fun _ => ?_))
      | exact ih0 _ _ _
      | exact ebbtideref01_Shr.mono _ _ _
      | exact ebbtideref01_power.mono _ _
      | exact LeO.none _
      | refine LeO.ite ?_ ?_
      | refine LeO.bind ?_ (fun _ => ?_)
theorem ebbtideref01_Narrow.mono : ∀ a0 a1 k, LeO (ebbtideref01_Narrow.f k a0 a1) (ebbtideref01_Narrow.f (k + 1) a0 a1) := by
  intro a0 a1 k
  have ih0 := ebbtideref01_Narrow.mono_l k
  unfold ebbtideref01_Narrow.f
  repeat' first
      | (with_reducible exact ih0 _ _ _)
      | (with_reducible exact ebbtideref01_Shr.mono _ _ _)
      | (with_reducible exact ebbtideref01_power.mono _ _)
      | (with_reducible exact LeO.refl _)
      | (with_reducible exact LeO.none _)
      | (with_reducible refine LeO.ite ?_ ?_)
      | (with_reducible refine LeO.bind ?_ (fun _ => ?_))
      | exact ih0 _ _ _
      | exact ebbtideref01_Shr.mono _ _ _
      | exact ebbtideref01_power.mono _ _
      | exact LeO.none _
      | refine LeO.ite ?_ ?_
      | refine LeO.bind ?_ (fun _ => ?_)
set_option maxHeartbeats 8000000 in
set_option maxRecDepth 100000 in
theorem ebbtideref01_Narrow.calls (k : Nat) (a0 : Int) (a1 : Int) (r1 : Int) (r2 : Bool) (w : World) (h : ebbtideref01_Narrow.f k a0 a1 = some (r1, r2)) :
    Calls Try.prog 19 #[.int .i64 a0, .int .i64 a1] w fun e w' => e = .returned (.tuple #[.int .i64 r1, .bool r2]) ∧ Drawn0 w w' := by
  have H : (if a1 < 1 then (ebbtideref01_Narrow.j0 k a0 a1 true) else (ebbtideref01_Narrow.j0 k a0 a1 (decide (a1 > 64)))) = some (r1, r2) := h
  clear h
  have HC3 := Aside0.mk H
  clear H
  go_enter Try.func19, Try.ntmps19
  go_upto_region 1 with (fail)
  go_cut [16] (fun v16 wc => ∃ (kq : Nat) (x16_2 : Bool), v16 = .bool x16_2 ∧ Aside0 (ebbtideref01_Narrow.j0 kq a0 a1 x16_2 = some (r1, r2)) ∧ Aside0 (kq ≤ k) ∧ Drawn0 w wc)
  case first =>
    have H := HC3.out
    clear HC3
    by_cases c4 : a1 < 1
    · rw [if_pos c4] at H
      have c4b0 : decide (a1 < 1) = true := decide_eq_true c4
      clear c4
      (first | rw [c4b0] | (simp only [i64_w, i32_w]; rw [c4b0]) | skip)
      have H' := Aside0.mk H
      clear H
      go_wp2
      go_meet
      case rel => exact ⟨_, (true), (by first | rfl | (simp; done) | (simp [*]; done)), H', ⟨by first | omega | exact Nat.le_refl _⟩, by repeat (first | exact Drawn0.refl _ | apply Drawn0.step)⟩
    · rw [if_neg c4] at H
      have c4b0 : decide (a1 < 1) = false := decide_eq_false c4
      clear c4
      (first | rw [c4b0] | (simp only [i64_w, i32_w]; rw [c4b0]) | skip)
      have H' := Aside0.mk H
      clear H
      go_wp2
      go_meet
      case rel => exact ⟨_, (decide (a1 > 64)), (by first | rfl | (simp; done) | (simp [*]; done)), H', ⟨by first | omega | exact Nat.le_refl _⟩, by repeat (first | exact Drawn0.refl _ | apply Drawn0.step)⟩
  case rest =>
    clear HC3
    try clear c1
    try clear p2
    try clear c4
    try clear c4b0
    obtain ⟨kq, x16_2, rfl, HA, HJ2, ⟨mc2, rfl⟩⟩ := hcut
    cases kq with
    | zero => exact absurd HA.out (by simp [ebbtideref01_Narrow.j0])
    | succ kj2 =>
      have H := HA.out
      clear HA
      simp only [ebbtideref01_Narrow.j0] at H
      by_cases c5 : x16_2 = true
      · subst c5
        have H1 : (some (0, false)) = some (r1, r2) := by rw [if_pos rfl] at H; exact H
        clear H
        have H := H1
        clear H1
        simp only [Option.some.injEq, Prod.mk.injEq] at H
        obtain ⟨rfl, rfl⟩ := H
        go_wp2
        go_ret2
        exact ⟨by first | rfl | (simp; done) | (simp [*]; done), by repeat (first | exact Drawn0.refl _ | apply Drawn0.step)⟩
      · replace c5 := Bool.eq_false_iff.mpr c5
        subst c5
        have H1 : (if a1 = 64 then (some (a0, true)) else (if a1 = 63 then (if (Int.tmod a0 4611686018427387904) < 0 then ((ebbtideref01_Shr.f kj2 a0 62).bind fun bt125 => (if (Int.tmod bt125.1 2) = 0 then (some (wrap64 ((Int.tmod a0 4611686018427387904) + 4611686018427387904), true)) else (some (wrap64 ((wrap64 ((Int.tmod a0 4611686018427387904) + 4611686018427387904)) - 4611686018427387904), true)))) else ((ebbtideref01_Shr.f kj2 a0 62).bind fun bt127 => (if (Int.tmod bt127.1 2) = 0 then (some (Int.tmod a0 4611686018427387904, true)) else (some (wrap64 ((Int.tmod a0 4611686018427387904) - 4611686018427387904), true))))) else ((ebbtideref01_power.f kj2 a1).bind fun t129 => (if t129 = 0 then (none) else (if (Int.tmod a0 t129) < 0 then (if (wrap64 ((Int.tmod a0 t129) + t129)) ≥ (wrap64 (Int.tdiv t129 2)) then (some (wrap64 ((wrap64 ((Int.tmod a0 t129) + t129)) - t129), true)) else (some (wrap64 ((Int.tmod a0 t129) + t129), true))) else (if (Int.tmod a0 t129) ≥ (wrap64 (Int.tdiv t129 2)) then (some (wrap64 ((Int.tmod a0 t129) - t129), true)) else (some (Int.tmod a0 t129, true)))))))) = some (r1, r2) := by rw [if_neg (show ¬ (false = true) by decide)] at H; exact H
        clear H
        have H := H1
        clear H1
        by_cases c6 : a1 = 64
        · rw [if_pos c6] at H
          have c6b0 : (a1 == 64) = true := beq_iff_eq.mpr c6
          have c6b1 : (a1 != 64) = false := bne_eq_false_iff_eq.mpr c6
          clear c6
          simp only [Option.some.injEq, Prod.mk.injEq] at H
          obtain ⟨rfl, rfl⟩ := H
          go_wp2
          go_ret2
          exact ⟨by first | rfl | (simp; done) | (simp [*]; done), by repeat (first | exact Drawn0.refl _ | apply Drawn0.step)⟩
        · rw [if_neg c6] at H
          have c6b0 : (a1 == 64) = false := beq_eq_false_iff_ne.mpr c6
          have c6b1 : (a1 != 64) = true := bne_iff_ne.mpr c6
          by_cases c7 : a1 = 63
          · rw [if_pos c7] at H
            have c7b0 : (a1 == 63) = true := beq_iff_eq.mpr c7
            have c7b1 : (a1 != 63) = false := bne_eq_false_iff_eq.mpr c7
            clear c7
            by_cases c8 : (Int.tmod a0 4611686018427387904) < 0
            · rw [if_pos c8] at H
              have c8b0 : decide ((Int.tmod a0 4611686018427387904) < 0) = true := decide_eq_true c8
              clear c8
              replace H := Option.bind_eq_some_iff.mp H
              obtain ⟨⟨t125, t126⟩, A90, H⟩ := H
              replace H : (if (Int.tmod t125 2) = 0 then (some (wrap64 ((Int.tmod a0 4611686018427387904) + 4611686018427387904), true)) else (some (wrap64 ((wrap64 ((Int.tmod a0 4611686018427387904) + 4611686018427387904)) - 4611686018427387904), true))) = some (r1, r2) := H
              have A9 := Aside0.mk A90
              clear A90
              by_cases c10 : (Int.tmod t125 2) = 0
              · rw [if_pos c10] at H
                have c10b0 : ((Int.tmod t125 2) == 0) = true := beq_iff_eq.mpr c10
                have c10b1 : ((Int.tmod t125 2) != 0) = false := bne_eq_false_iff_eq.mpr c10
                clear c10
                simp only [Option.some.injEq, Prod.mk.injEq] at H
                obtain ⟨rfl, rfl⟩ := H
                go_wp2_with (first | ((with_reducible refine gate_callee (f := 39) rfl ?_); refine goesL_ (some 30) rfl rfl Try.func39 (by kernel_rfl) rfl #[.int .i64 a0, .int .i64 62] rfl (by (try simp only [List.map_toArray, List.map_cons, List.map_nil]); first | done | rfl | (simp only [List.length_drop, List.length_take]; rfl)) ?_; (with_reducible refine (ebbtideref01_Shr.calls kj2 a0 62 t125 t126 _ A9.out).mono ?_); rintro e w' ⟨rfl, ⟨nd, rfl⟩⟩; refine ⟨_, rfl, ?_⟩))
                go_ret2
                exact ⟨by first | rfl | (simp; done) | (simp [*]; done), by repeat (first | exact Drawn0.refl _ | apply Drawn0.step)⟩
              · rw [if_neg c10] at H
                have c10b0 : ((Int.tmod t125 2) == 0) = false := beq_eq_false_iff_ne.mpr c10
                have c10b1 : ((Int.tmod t125 2) != 0) = true := bne_iff_ne.mpr c10
                simp only [Option.some.injEq, Prod.mk.injEq] at H
                obtain ⟨rfl, rfl⟩ := H
                go_wp2_with (first | ((with_reducible refine gate_callee (f := 39) rfl ?_); refine goesL_ (some 30) rfl rfl Try.func39 (by kernel_rfl) rfl #[.int .i64 a0, .int .i64 62] rfl (by (try simp only [List.map_toArray, List.map_cons, List.map_nil]); first | done | rfl | (simp only [List.length_drop, List.length_take]; rfl)) ?_; (with_reducible refine (ebbtideref01_Shr.calls kj2 a0 62 t125 t126 _ A9.out).mono ?_); rintro e w' ⟨rfl, ⟨nd, rfl⟩⟩; refine ⟨_, rfl, ?_⟩))
                go_ret2
                exact ⟨by first | rfl | (simp; done) | (simp [*]; done), by repeat (first | exact Drawn0.refl _ | apply Drawn0.step)⟩
            · rw [if_neg c8] at H
              have c8b0 : decide ((Int.tmod a0 4611686018427387904) < 0) = false := decide_eq_false c8
              clear c8
              replace H := Option.bind_eq_some_iff.mp H
              obtain ⟨⟨t127, t128⟩, A110, H⟩ := H
              replace H : (if (Int.tmod t127 2) = 0 then (some (Int.tmod a0 4611686018427387904, true)) else (some (wrap64 ((Int.tmod a0 4611686018427387904) - 4611686018427387904), true))) = some (r1, r2) := H
              have A11 := Aside0.mk A110
              clear A110
              by_cases c12 : (Int.tmod t127 2) = 0
              · rw [if_pos c12] at H
                have c12b0 : ((Int.tmod t127 2) == 0) = true := beq_iff_eq.mpr c12
                have c12b1 : ((Int.tmod t127 2) != 0) = false := bne_eq_false_iff_eq.mpr c12
                clear c12
                simp only [Option.some.injEq, Prod.mk.injEq] at H
                obtain ⟨rfl, rfl⟩ := H
                go_wp2_with (first | ((with_reducible refine gate_callee (f := 39) rfl ?_); refine goesL_ (some 30) rfl rfl Try.func39 (by kernel_rfl) rfl #[.int .i64 a0, .int .i64 62] rfl (by (try simp only [List.map_toArray, List.map_cons, List.map_nil]); first | done | rfl | (simp only [List.length_drop, List.length_take]; rfl)) ?_; (with_reducible refine (ebbtideref01_Shr.calls kj2 a0 62 t127 t128 _ A11.out).mono ?_); rintro e w' ⟨rfl, ⟨nd, rfl⟩⟩; refine ⟨_, rfl, ?_⟩))
                go_ret2
                exact ⟨by first | rfl | (simp; done) | (simp [*]; done), by repeat (first | exact Drawn0.refl _ | apply Drawn0.step)⟩
              · rw [if_neg c12] at H
                have c12b0 : ((Int.tmod t127 2) == 0) = false := beq_eq_false_iff_ne.mpr c12
                have c12b1 : ((Int.tmod t127 2) != 0) = true := bne_iff_ne.mpr c12
                simp only [Option.some.injEq, Prod.mk.injEq] at H
                obtain ⟨rfl, rfl⟩ := H
                go_wp2_with (first | ((with_reducible refine gate_callee (f := 39) rfl ?_); refine goesL_ (some 30) rfl rfl Try.func39 (by kernel_rfl) rfl #[.int .i64 a0, .int .i64 62] rfl (by (try simp only [List.map_toArray, List.map_cons, List.map_nil]); first | done | rfl | (simp only [List.length_drop, List.length_take]; rfl)) ?_; (with_reducible refine (ebbtideref01_Shr.calls kj2 a0 62 t127 t128 _ A11.out).mono ?_); rintro e w' ⟨rfl, ⟨nd, rfl⟩⟩; refine ⟨_, rfl, ?_⟩))
                go_ret2
                exact ⟨by first | rfl | (simp; done) | (simp [*]; done), by repeat (first | exact Drawn0.refl _ | apply Drawn0.step)⟩
          · rw [if_neg c7] at H
            have c7b0 : (a1 == 63) = false := beq_eq_false_iff_ne.mpr c7
            have c7b1 : (a1 != 63) = true := bne_iff_ne.mpr c7
            replace H := Option.bind_eq_some_iff.mp H
            obtain ⟨t129, A130, H⟩ := H
            replace H : (if t129 = 0 then (none) else (if (Int.tmod a0 t129) < 0 then (if (wrap64 ((Int.tmod a0 t129) + t129)) ≥ (wrap64 (Int.tdiv t129 2)) then (some (wrap64 ((wrap64 ((Int.tmod a0 t129) + t129)) - t129), true)) else (some (wrap64 ((Int.tmod a0 t129) + t129), true))) else (if (Int.tmod a0 t129) ≥ (wrap64 (Int.tdiv t129 2)) then (some (wrap64 ((Int.tmod a0 t129) - t129), true)) else (some (Int.tmod a0 t129, true))))) = some (r1, r2) := H
            have A13 := Aside0.mk A130
            clear A130
            by_cases c14 : t129 = 0
            · rw [if_pos c14] at H
              exact absurd H (by simp)
            · rw [if_neg c14] at H
              have c14b0 : (t129 == 0) = false := beq_eq_false_iff_ne.mpr c14
              have c14b1 : (t129 != 0) = true := bne_iff_ne.mpr c14
              by_cases c15 : (Int.tmod a0 t129) < 0
              · rw [if_pos c15] at H
                have c15b0 : decide ((Int.tmod a0 t129) < 0) = true := decide_eq_true c15
                clear c15
                by_cases c16 : (wrap64 ((Int.tmod a0 t129) + t129)) ≥ (wrap64 (Int.tdiv t129 2))
                · rw [if_pos c16] at H
                  have c16b0 : decide ((wrap64 (Int.tdiv t129 2)) ≤ (wrap64 ((Int.tmod a0 t129) + t129))) = true := decide_eq_true c16
                  clear c16
                  simp only [Option.some.injEq, Prod.mk.injEq] at H
                  obtain ⟨rfl, rfl⟩ := H
                  go_wp2_with (first | ((with_reducible refine gate_callee (f := 45) rfl ?_); refine goesL_ (some 40) rfl rfl Try.func45 (by kernel_rfl) rfl #[.int .i64 a1] rfl (by (try simp only [List.map_toArray, List.map_cons, List.map_nil]); first | done | rfl | (simp only [List.length_drop, List.length_take]; rfl)) ?_; (with_reducible refine (ebbtideref01_power.calls kj2 a1 t129 _ A13.out).mono ?_); rintro e w' ⟨rfl, ⟨nd, rfl⟩⟩; refine ⟨_, rfl, ?_⟩))
                  go_ret2
                  exact ⟨by first | rfl | (simp; done) | (simp [*]; done), by repeat (first | exact Drawn0.refl _ | apply Drawn0.step)⟩
                · rw [if_neg c16] at H
                  have c16b0 : decide ((wrap64 (Int.tdiv t129 2)) ≤ (wrap64 ((Int.tmod a0 t129) + t129))) = false := decide_eq_false c16
                  clear c16
                  simp only [Option.some.injEq, Prod.mk.injEq] at H
                  obtain ⟨rfl, rfl⟩ := H
                  go_wp2_with (first | ((with_reducible refine gate_callee (f := 45) rfl ?_); refine goesL_ (some 40) rfl rfl Try.func45 (by kernel_rfl) rfl #[.int .i64 a1] rfl (by (try simp only [List.map_toArray, List.map_cons, List.map_nil]); first | done | rfl | (simp only [List.length_drop, List.length_take]; rfl)) ?_; (with_reducible refine (ebbtideref01_power.calls kj2 a1 t129 _ A13.out).mono ?_); rintro e w' ⟨rfl, ⟨nd, rfl⟩⟩; refine ⟨_, rfl, ?_⟩))
                  go_ret2
                  exact ⟨by first | rfl | (simp; done) | (simp [*]; done), by repeat (first | exact Drawn0.refl _ | apply Drawn0.step)⟩
              · rw [if_neg c15] at H
                have c15b0 : decide ((Int.tmod a0 t129) < 0) = false := decide_eq_false c15
                clear c15
                by_cases c17 : (Int.tmod a0 t129) ≥ (wrap64 (Int.tdiv t129 2))
                · rw [if_pos c17] at H
                  have c17b0 : decide ((wrap64 (Int.tdiv t129 2)) ≤ (Int.tmod a0 t129)) = true := decide_eq_true c17
                  clear c17
                  simp only [Option.some.injEq, Prod.mk.injEq] at H
                  obtain ⟨rfl, rfl⟩ := H
                  go_wp2_with (first | ((with_reducible refine gate_callee (f := 45) rfl ?_); refine goesL_ (some 40) rfl rfl Try.func45 (by kernel_rfl) rfl #[.int .i64 a1] rfl (by (try simp only [List.map_toArray, List.map_cons, List.map_nil]); first | done | rfl | (simp only [List.length_drop, List.length_take]; rfl)) ?_; (with_reducible refine (ebbtideref01_power.calls kj2 a1 t129 _ A13.out).mono ?_); rintro e w' ⟨rfl, ⟨nd, rfl⟩⟩; refine ⟨_, rfl, ?_⟩))
                  go_ret2
                  exact ⟨by first | rfl | (simp; done) | (simp [*]; done), by repeat (first | exact Drawn0.refl _ | apply Drawn0.step)⟩
                · rw [if_neg c17] at H
                  have c17b0 : decide ((wrap64 (Int.tdiv t129 2)) ≤ (Int.tmod a0 t129)) = false := decide_eq_false c17
                  clear c17
                  simp only [Option.some.injEq, Prod.mk.injEq] at H
                  obtain ⟨rfl, rfl⟩ := H
                  go_wp2_with (first | ((with_reducible refine gate_callee (f := 45) rfl ?_); refine goesL_ (some 40) rfl rfl Try.func45 (by kernel_rfl) rfl #[.int .i64 a1] rfl (by (try simp only [List.map_toArray, List.map_cons, List.map_nil]); first | done | rfl | (simp only [List.length_drop, List.length_take]; rfl)) ?_; (with_reducible refine (ebbtideref01_power.calls kj2 a1 t129 _ A13.out).mono ?_); rintro e w' ⟨rfl, ⟨nd, rfl⟩⟩; refine ⟨_, rfl, ?_⟩))
                  go_ret2
                  exact ⟨by first | rfl | (simp; done) | (simp [*]; done), by repeat (first | exact Drawn0.refl _ | apply Drawn0.step)⟩

/-! ### ebbtideref01_Fits: function 21 -/
def ebbtideref01_Fits.j0 : Nat → Int → Int → Bool → Option (Bool)
  | 0, _, _, _ => none
  | k + 1, x0, x1, x10 => if x10 = true then (some false) else (if x1 = 64 then (some true) else ((ebbtideref01_power.f k (wrap64 (x1 - 1))).bind fun t130 => (if x0 ≥ (wrap64 (-t130)) then ((ebbtideref01_power.f k (wrap64 (x1 - 1))).bind fun t131 => (some (decide (x0 ≤ (wrap64 (t131 - 1)))))) else (some false))))
def ebbtideref01_Fits.f (k : Nat) (a0 : Int) (a1 : Int) : Option (Bool) := if a1 < 1 then (ebbtideref01_Fits.j0 k a0 a1 true) else (ebbtideref01_Fits.j0 k a0 a1 (decide (a1 > 64)))
theorem ebbtideref01_Fits.mono_l : ∀ k, (∀ y0 y1 y2, LeO (ebbtideref01_Fits.j0 k y0 y1 y2) (ebbtideref01_Fits.j0 (k + 1) y0 y1 y2))
  | 0 => fun _ _ _ r h => by simp [ebbtideref01_Fits.j0] at h
  | k + 1 => by
    have ih0 := ebbtideref01_Fits.mono_l k
    · intro y0 y1 y2
      unfold ebbtideref01_Fits.j0
      repeat' first
      | (with_reducible exact ih0 _ _ _)
      | (with_reducible exact ebbtideref01_power.mono _ _)
      | (with_reducible exact LeO.refl _)
      | (with_reducible exact LeO.none _)
      | (with_reducible refine LeO.ite ?_ ?_)
      | (with_reducible refine LeO.bind ?_ (fun _ => ?_))
      | exact ih0 _ _ _
      | exact ebbtideref01_power.mono _ _
      | exact LeO.none _
      | refine LeO.ite ?_ ?_
      | refine LeO.bind ?_ (fun _ => ?_)
theorem ebbtideref01_Fits.mono : ∀ a0 a1 k, LeO (ebbtideref01_Fits.f k a0 a1) (ebbtideref01_Fits.f (k + 1) a0 a1) := by
  intro a0 a1 k
  have ih0 := ebbtideref01_Fits.mono_l k
  unfold ebbtideref01_Fits.f
  repeat' first
      | (with_reducible exact ih0 _ _ _)
      | (with_reducible exact ebbtideref01_power.mono _ _)
      | (with_reducible exact LeO.refl _)
      | (with_reducible exact LeO.none _)
      | (with_reducible refine LeO.ite ?_ ?_)
      | (with_reducible refine LeO.bind ?_ (fun _ => ?_))
      | exact ih0 _ _ _
      | exact ebbtideref01_power.mono _ _
      | exact LeO.none _
      | refine LeO.ite ?_ ?_
      | refine LeO.bind ?_ (fun _ => ?_)
set_option maxHeartbeats 8000000 in
set_option maxRecDepth 100000 in
theorem ebbtideref01_Fits.calls (k : Nat) (a0 : Int) (a1 : Int) (r : Bool) (w : World) (h : ebbtideref01_Fits.f k a0 a1 = some r) :
    Calls Try.prog 21 #[.int .i64 a0, .int .i64 a1] w fun e w' => e = .returned (.bool r) ∧ Drawn0 w w' := by
  have H : (if a1 < 1 then (ebbtideref01_Fits.j0 k a0 a1 true) else (ebbtideref01_Fits.j0 k a0 a1 (decide (a1 > 64)))) = some r := h
  clear h
  have HC3 := Aside0.mk H
  clear H
  go_enter Try.func21, Try.ntmps21
  go_upto_region 1 with (fail)
  go_cut [10] (fun v10 wc => ∃ (kq : Nat) (x10_2 : Bool), v10 = .bool x10_2 ∧ Aside0 (ebbtideref01_Fits.j0 kq a0 a1 x10_2 = some r) ∧ Aside0 (kq ≤ k) ∧ Drawn0 w wc)
  case first =>
    have H := HC3.out
    clear HC3
    by_cases c4 : a1 < 1
    · rw [if_pos c4] at H
      have c4b0 : decide (a1 < 1) = true := decide_eq_true c4
      clear c4
      (first | rw [c4b0] | (simp only [i64_w, i32_w]; rw [c4b0]) | skip)
      have H' := Aside0.mk H
      clear H
      go_wp2
      go_meet
      case rel => exact ⟨_, (true), (by first | rfl | (simp; done) | (simp [*]; done)), H', ⟨by first | omega | exact Nat.le_refl _⟩, by repeat (first | exact Drawn0.refl _ | apply Drawn0.step)⟩
    · rw [if_neg c4] at H
      have c4b0 : decide (a1 < 1) = false := decide_eq_false c4
      clear c4
      (first | rw [c4b0] | (simp only [i64_w, i32_w]; rw [c4b0]) | skip)
      have H' := Aside0.mk H
      clear H
      go_wp2
      go_meet
      case rel => exact ⟨_, (decide (a1 > 64)), (by first | rfl | (simp; done) | (simp [*]; done)), H', ⟨by first | omega | exact Nat.le_refl _⟩, by repeat (first | exact Drawn0.refl _ | apply Drawn0.step)⟩
  case rest =>
    clear HC3
    try clear c2
    try clear p2
    try clear c4
    try clear c4b0
    obtain ⟨kq, x10_2, rfl, HA, HJ2, ⟨mc2, rfl⟩⟩ := hcut
    cases kq with
    | zero => exact absurd HA.out (by simp [ebbtideref01_Fits.j0])
    | succ kj2 =>
      have H := HA.out
      clear HA
      simp only [ebbtideref01_Fits.j0] at H
      by_cases c5 : x10_2 = true
      · subst c5
        have H1 : (some false) = some r := by rw [if_pos rfl] at H; exact H
        clear H
        have H := H1
        clear H1
        obtain rfl := Option.some.inj H
        go_wp2
        go_ret
        exact ⟨by first | rfl | (simp; done) | (simp [*]; done), by repeat (first | exact Drawn0.refl _ | apply Drawn0.step)⟩
      · replace c5 := Bool.eq_false_iff.mpr c5
        subst c5
        have H1 : (if a1 = 64 then (some true) else ((ebbtideref01_power.f kj2 (wrap64 (a1 - 1))).bind fun t130 => (if a0 ≥ (wrap64 (-t130)) then ((ebbtideref01_power.f kj2 (wrap64 (a1 - 1))).bind fun t131 => (some (decide (a0 ≤ (wrap64 (t131 - 1)))))) else (some false)))) = some r := by rw [if_neg (show ¬ (false = true) by decide)] at H; exact H
        clear H
        have H := H1
        clear H1
        by_cases c6 : a1 = 64
        · rw [if_pos c6] at H
          have c6b0 : (a1 == 64) = true := beq_iff_eq.mpr c6
          have c6b1 : (a1 != 64) = false := bne_eq_false_iff_eq.mpr c6
          clear c6
          obtain rfl := Option.some.inj H
          go_wp2
          go_ret
          exact ⟨by first | rfl | (simp; done) | (simp [*]; done), by repeat (first | exact Drawn0.refl _ | apply Drawn0.step)⟩
        · rw [if_neg c6] at H
          have c6b0 : (a1 == 64) = false := beq_eq_false_iff_ne.mpr c6
          have c6b1 : (a1 != 64) = true := bne_iff_ne.mpr c6
          replace H := Option.bind_eq_some_iff.mp H
          obtain ⟨t130, A70, H⟩ := H
          replace H : (if a0 ≥ (wrap64 (-t130)) then ((ebbtideref01_power.f kj2 (wrap64 (a1 - 1))).bind fun t131 => (some (decide (a0 ≤ (wrap64 (t131 - 1)))))) else (some false)) = some r := H
          have A7 := Aside0.mk A70
          clear A70
          by_cases c8 : a0 ≥ (wrap64 (-t130))
          · rw [if_pos c8] at H
            have c8b0 : decide ((wrap64 (-t130)) ≤ a0) = true := decide_eq_true c8
            clear c8
            replace H := Option.bind_eq_some_iff.mp H
            obtain ⟨t131, A90, H⟩ := H
            replace H : (some (decide (a0 ≤ (wrap64 (t131 - 1))))) = some r := H
            have A9 := Aside0.mk A90
            clear A90
            obtain rfl := Option.some.inj H
            go_wp2_with (first | ((with_reducible refine gate_callee (f := 45) rfl ?_); refine goesL_ (some 16) rfl rfl Try.func45 (by kernel_rfl) rfl #[.int .i64 (wrap64 (a1 - 1))] rfl (by (try simp only [List.map_toArray, List.map_cons, List.map_nil]); first | done | rfl | (simp only [List.length_drop, List.length_take]; rfl)) ?_; (with_reducible refine (ebbtideref01_power.calls kj2 (wrap64 (a1 - 1)) t130 _ A7.out).mono ?_); rintro e w' ⟨rfl, ⟨nd, rfl⟩⟩; refine ⟨_, rfl, ?_⟩) | (go_at_call 45; (with_reducible refine (ebbtideref01_power.calls kj2 (wrap64 (a1 - 1)) t131 _ A9.out).mono ?_); rintro e w' ⟨rfl, ⟨nd, rfl⟩⟩))
            go_ret
            exact ⟨by first | rfl | (simp; done) | (simp [*]; done), by repeat (first | exact Drawn0.refl _ | apply Drawn0.step)⟩
          · rw [if_neg c8] at H
            have c8b0 : decide ((wrap64 (-t130)) ≤ a0) = false := decide_eq_false c8
            clear c8
            obtain rfl := Option.some.inj H
            go_wp2_with (first | ((with_reducible refine gate_callee (f := 45) rfl ?_); refine goesL_ (some 16) rfl rfl Try.func45 (by kernel_rfl) rfl #[.int .i64 (wrap64 (a1 - 1))] rfl (by (try simp only [List.map_toArray, List.map_cons, List.map_nil]); first | done | rfl | (simp only [List.length_drop, List.length_take]; rfl)) ?_; (with_reducible refine (ebbtideref01_power.calls kj2 (wrap64 (a1 - 1)) t130 _ A7.out).mono ?_); rintro e w' ⟨rfl, ⟨nd, rfl⟩⟩; refine ⟨_, rfl, ?_⟩))
            go_ret
            exact ⟨by first | rfl | (simp; done) | (simp [*]; done), by repeat (first | exact Drawn0.refl _ | apply Drawn0.step)⟩

/-! ### ebbtidelaw01_CheckedNarrows: function 4 -/
def ebbtidelaw01_CheckedNarrows.f (k : Nat) (a0 : Int) (a1 : Int) : Option (Bool) := (checked_Narrow.f k a0 a1).bind fun bt132 => ((ebbtideref01_Narrow.f k a0 a1).bind fun bt134 => ((ebbtidelaw01_awake.f k).bind fun t136 => (if t136 = true then (if bt132.1 = bt134.1 then (if (bt132.2 == bt134.2) = true then ((checked_Fits.f k a0 a1).bind fun t137 => ((ebbtideref01_Fits.f k a0 a1).bind fun t138 => (some (t137 == t138)))) else (some false)) else (some false)) else (some false))))
theorem ebbtidelaw01_CheckedNarrows.mono : ∀ a0 a1 k, LeO (ebbtidelaw01_CheckedNarrows.f k a0 a1) (ebbtidelaw01_CheckedNarrows.f (k + 1) a0 a1) := by
  intro a0 a1 k
  unfold ebbtidelaw01_CheckedNarrows.f
  repeat' first
      | (with_reducible exact checked_Fits.mono _ _ _)
      | (with_reducible exact checked_Narrow.mono _ _ _)
      | (with_reducible exact ebbtidelaw01_awake.mono _)
      | (with_reducible exact ebbtideref01_Fits.mono _ _ _)
      | (with_reducible exact ebbtideref01_Narrow.mono _ _ _)
      | (with_reducible exact LeO.refl _)
      | (with_reducible exact LeO.none _)
      | (with_reducible refine LeO.ite ?_ ?_)
      | (with_reducible refine LeO.bind ?_ (fun _ => ?_))
      | exact checked_Fits.mono _ _ _
      | exact checked_Narrow.mono _ _ _
      | exact ebbtidelaw01_awake.mono _
      | exact ebbtideref01_Fits.mono _ _ _
      | exact ebbtideref01_Narrow.mono _ _ _
      | exact LeO.none _
      | refine LeO.ite ?_ ?_
      | refine LeO.bind ?_ (fun _ => ?_)
set_option maxHeartbeats 8000000 in
set_option maxRecDepth 100000 in
theorem ebbtidelaw01_CheckedNarrows.calls (k : Nat) (a0 : Int) (a1 : Int) (r : Bool) (w : World) (h : ebbtidelaw01_CheckedNarrows.f k a0 a1 = some r) :
    Calls Try.prog 4 #[.int .i64 a0, .int .i64 a1] w fun e w' => e = .returned (.bool r) ∧ Below w.heap.size w w' := by
  have HB := Aside0.mk (Below.refl w.heap.size w)
  have H : ((checked_Narrow.f k a0 a1).bind fun bt132 => ((ebbtideref01_Narrow.f k a0 a1).bind fun bt134 => ((ebbtidelaw01_awake.f k).bind fun t136 => (if t136 = true then (if bt132.1 = bt134.1 then (if (bt132.2 == bt134.2) = true then ((checked_Fits.f k a0 a1).bind fun t137 => ((ebbtideref01_Fits.f k a0 a1).bind fun t138 => (some (t137 == t138)))) else (some false)) else (some false)) else (some false))))) = some r := h
  clear h
  replace H := Option.bind_eq_some_iff.mp H
  obtain ⟨⟨t132, t133⟩, A30, H⟩ := H
  replace H : ((ebbtideref01_Narrow.f k a0 a1).bind fun bt134 => ((ebbtidelaw01_awake.f k).bind fun t136 => (if t136 = true then (if t132 = bt134.1 then (if (t133 == bt134.2) = true then ((checked_Fits.f k a0 a1).bind fun t137 => ((ebbtideref01_Fits.f k a0 a1).bind fun t138 => (some (t137 == t138)))) else (some false)) else (some false)) else (some false)))) = some r := H
  have A3 := Aside0.mk A30
  clear A30
  replace H := Option.bind_eq_some_iff.mp H
  obtain ⟨⟨t134, t135⟩, A40, H⟩ := H
  replace H : ((ebbtidelaw01_awake.f k).bind fun t136 => (if t136 = true then (if t132 = t134 then (if (t133 == t135) = true then ((checked_Fits.f k a0 a1).bind fun t137 => ((ebbtideref01_Fits.f k a0 a1).bind fun t138 => (some (t137 == t138)))) else (some false)) else (some false)) else (some false))) = some r := H
  have A4 := Aside0.mk A40
  clear A40
  replace H := Option.bind_eq_some_iff.mp H
  obtain ⟨t136, A50, H⟩ := H
  replace H : (if t136 = true then (if t132 = t134 then (if (t133 == t135) = true then ((checked_Fits.f k a0 a1).bind fun t137 => ((ebbtideref01_Fits.f k a0 a1).bind fun t138 => (some (t137 == t138)))) else (some false)) else (some false)) else (some false)) = some r := H
  have A5 := Aside0.mk A50
  clear A50
  by_cases c6 : t136 = true
  · subst c6
    have H1 : (if t132 = t134 then (if (t133 == t135) = true then ((checked_Fits.f k a0 a1).bind fun t137 => ((ebbtideref01_Fits.f k a0 a1).bind fun t138 => (some (t137 == t138)))) else (some false)) else (some false)) = some r := by rw [if_pos rfl] at H; exact H
    clear H
    have H := H1
    clear H1
    by_cases c7 : t132 = t134
    · rw [if_pos c7] at H
      have c7b0 : (t132 == t134) = true := beq_iff_eq.mpr c7
      have c7b1 : (t132 != t134) = false := bne_eq_false_iff_eq.mpr c7
      clear c7
      by_cases c8 : (t133 == t135) = true
      · rw [if_pos c8] at H
        have c8b0 : (t133 == t135) = true := c8
        (try (have c8b1 : decide (t133 = t135) = true := by simpa using c8))
        (try (have c8b2 : (t133 == t135) = true := by simpa using c8))
        (try (have c8b3 : (!(t133 == t135)) = false := by simpa using c8))
        clear c8
        replace H := Option.bind_eq_some_iff.mp H
        obtain ⟨t137, A90, H⟩ := H
        replace H : ((ebbtideref01_Fits.f k a0 a1).bind fun t138 => (some (t137 == t138))) = some r := H
        have A9 := Aside0.mk A90
        clear A90
        replace H := Option.bind_eq_some_iff.mp H
        obtain ⟨t138, A100, H⟩ := H
        replace H : (some (t137 == t138)) = some r := H
        have A10 := Aside0.mk A100
        clear A100
        obtain rfl := Option.some.inj H
        go_enter Try.func4, Try.ntmps4
        go_wp2_with (first | ((with_reducible refine gate_callee (f := 18) rfl ?_); refine goesL_ (some 12) rfl rfl Try.func18 (by kernel_rfl) rfl #[.int .i64 a0, .int .i64 a1] rfl (by (try simp only [List.map_toArray, List.map_cons, List.map_nil]); first | done | rfl | (simp only [List.length_drop, List.length_take]; rfl)) ?_; (with_reducible refine (checked_Narrow.calls k a0 a1 t132 t133 _ A3.out).mono ?_); rintro e w' ⟨rfl, ⟨nd, rfl⟩⟩; refine ⟨_, rfl, ?_⟩) | ((with_reducible refine gate_callee (f := 19) rfl ?_); refine goesL_ (some 18) rfl rfl Try.func19 (by kernel_rfl) rfl #[.int .i64 a0, .int .i64 a1] rfl (by (try simp only [List.map_toArray, List.map_cons, List.map_nil]); first | done | rfl | (simp only [List.length_drop, List.length_take]; rfl)) ?_; (with_reducible refine (ebbtideref01_Narrow.calls k a0 a1 t134 t135 _ A4.out).mono ?_); rintro e w' ⟨rfl, ⟨nd, rfl⟩⟩; refine ⟨_, rfl, ?_⟩) | ((with_reducible refine gate_callee (f := 17) rfl ?_); refine goesL_ (some 21) rfl rfl Try.func17 (by kernel_rfl) rfl #[] rfl (by (try simp only [List.map_toArray, List.map_cons, List.map_nil]); first | done | rfl | (simp only [List.length_drop, List.length_take]; rfl)) ?_; (with_reducible refine (ebbtidelaw01_awake.calls k  true _ A5.out).mono ?_); rintro e w11 ⟨rfl, hb⟩; refine ⟨_, rfl, ?_⟩; have n0_ := Aside0.mk (below_step (by repeat (first | (with_reducible first | exact HB.out | apply below_alloc | apply pw_below_drewN | apply below_drew1) | exact HB.out)) hb); clear HB; have HB := n0_; clear n0_; (try clear hb); (try clear hb2); (try clear hk); (try clear hi)) | (go_at_call 20; (with_reducible refine (checked_Fits.calls k a0 a1 t137 _ A9.out).mono ?_); rintro e w' ⟨rfl, ⟨nd, rfl⟩⟩) | (go_at_call 21; (with_reducible refine (ebbtideref01_Fits.calls k a0 a1 t138 _ A10.out).mono ?_); rintro e w' ⟨rfl, ⟨nd, rfl⟩⟩))
        go_ret
        exact ⟨by first | rfl | (simp [errW_none, errW_some] <;> rfl) | (simp [*, errW_none, errW_some] <;> rfl), by repeat (first | (with_reducible first | exact HB.out | apply below_alloc | apply pw_below_drewN | apply below_drew1) | exact HB.out)⟩
      · rw [if_neg c8] at H
        have c8b0 : (t133 == t135) = false := by simpa using c8
        (try (have c8b1 : decide (t133 = t135) = false := by simpa using c8))
        (try (have c8b2 : (t133 == t135) = false := by simpa using c8))
        (try (have c8b3 : ¬ (t133 = t135) := by simpa using c8))
        (try (have c8b4 : (!(t133 == t135)) = true := by simpa using c8))
        clear c8
        obtain rfl := Option.some.inj H
        go_enter Try.func4, Try.ntmps4
        go_wp2_with (first | ((with_reducible refine gate_callee (f := 18) rfl ?_); refine goesL_ (some 12) rfl rfl Try.func18 (by kernel_rfl) rfl #[.int .i64 a0, .int .i64 a1] rfl (by (try simp only [List.map_toArray, List.map_cons, List.map_nil]); first | done | rfl | (simp only [List.length_drop, List.length_take]; rfl)) ?_; (with_reducible refine (checked_Narrow.calls k a0 a1 t132 t133 _ A3.out).mono ?_); rintro e w' ⟨rfl, ⟨nd, rfl⟩⟩; refine ⟨_, rfl, ?_⟩) | ((with_reducible refine gate_callee (f := 19) rfl ?_); refine goesL_ (some 18) rfl rfl Try.func19 (by kernel_rfl) rfl #[.int .i64 a0, .int .i64 a1] rfl (by (try simp only [List.map_toArray, List.map_cons, List.map_nil]); first | done | rfl | (simp only [List.length_drop, List.length_take]; rfl)) ?_; (with_reducible refine (ebbtideref01_Narrow.calls k a0 a1 t134 t135 _ A4.out).mono ?_); rintro e w' ⟨rfl, ⟨nd, rfl⟩⟩; refine ⟨_, rfl, ?_⟩) | ((with_reducible refine gate_callee (f := 17) rfl ?_); refine goesL_ (some 21) rfl rfl Try.func17 (by kernel_rfl) rfl #[] rfl (by (try simp only [List.map_toArray, List.map_cons, List.map_nil]); first | done | rfl | (simp only [List.length_drop, List.length_take]; rfl)) ?_; (with_reducible refine (ebbtidelaw01_awake.calls k  true _ A5.out).mono ?_); rintro e w12 ⟨rfl, hb⟩; refine ⟨_, rfl, ?_⟩; have n0_ := Aside0.mk (below_step (by repeat (first | (with_reducible first | exact HB.out | apply below_alloc | apply pw_below_drewN | apply below_drew1) | exact HB.out)) hb); clear HB; have HB := n0_; clear n0_; (try clear hb); (try clear hb2); (try clear hk); (try clear hi)))
        go_ret
        exact ⟨by first | rfl | (simp [errW_none, errW_some] <;> rfl) | (simp [*, errW_none, errW_some] <;> rfl), by repeat (first | (with_reducible first | exact HB.out | apply below_alloc | apply pw_below_drewN | apply below_drew1) | exact HB.out)⟩
    · rw [if_neg c7] at H
      have c7b0 : (t132 == t134) = false := beq_eq_false_iff_ne.mpr c7
      have c7b1 : (t132 != t134) = true := bne_iff_ne.mpr c7
      obtain rfl := Option.some.inj H
      go_enter Try.func4, Try.ntmps4
      go_wp2_with (first | ((with_reducible refine gate_callee (f := 18) rfl ?_); refine goesL_ (some 12) rfl rfl Try.func18 (by kernel_rfl) rfl #[.int .i64 a0, .int .i64 a1] rfl (by (try simp only [List.map_toArray, List.map_cons, List.map_nil]); first | done | rfl | (simp only [List.length_drop, List.length_take]; rfl)) ?_; (with_reducible refine (checked_Narrow.calls k a0 a1 t132 t133 _ A3.out).mono ?_); rintro e w' ⟨rfl, ⟨nd, rfl⟩⟩; refine ⟨_, rfl, ?_⟩) | ((with_reducible refine gate_callee (f := 19) rfl ?_); refine goesL_ (some 18) rfl rfl Try.func19 (by kernel_rfl) rfl #[.int .i64 a0, .int .i64 a1] rfl (by (try simp only [List.map_toArray, List.map_cons, List.map_nil]); first | done | rfl | (simp only [List.length_drop, List.length_take]; rfl)) ?_; (with_reducible refine (ebbtideref01_Narrow.calls k a0 a1 t134 t135 _ A4.out).mono ?_); rintro e w' ⟨rfl, ⟨nd, rfl⟩⟩; refine ⟨_, rfl, ?_⟩) | ((with_reducible refine gate_callee (f := 17) rfl ?_); refine goesL_ (some 21) rfl rfl Try.func17 (by kernel_rfl) rfl #[] rfl (by (try simp only [List.map_toArray, List.map_cons, List.map_nil]); first | done | rfl | (simp only [List.length_drop, List.length_take]; rfl)) ?_; (with_reducible refine (ebbtidelaw01_awake.calls k  true _ A5.out).mono ?_); rintro e w13 ⟨rfl, hb⟩; refine ⟨_, rfl, ?_⟩; have n0_ := Aside0.mk (below_step (by repeat (first | (with_reducible first | exact HB.out | apply below_alloc | apply pw_below_drewN | apply below_drew1) | exact HB.out)) hb); clear HB; have HB := n0_; clear n0_; (try clear hb); (try clear hb2); (try clear hk); (try clear hi)))
      go_ret
      exact ⟨by first | rfl | (simp [errW_none, errW_some] <;> rfl) | (simp [*, errW_none, errW_some] <;> rfl), by repeat (first | (with_reducible first | exact HB.out | apply below_alloc | apply pw_below_drewN | apply below_drew1) | exact HB.out)⟩
  · replace c6 := Bool.eq_false_iff.mpr c6
    subst c6
    have H1 : (some false) = some r := by rw [if_neg (show ¬ (false = true) by decide)] at H; exact H
    clear H
    have H := H1
    clear H1
    obtain rfl := Option.some.inj H
    go_enter Try.func4, Try.ntmps4
    go_wp2_with (first | ((with_reducible refine gate_callee (f := 18) rfl ?_); refine goesL_ (some 12) rfl rfl Try.func18 (by kernel_rfl) rfl #[.int .i64 a0, .int .i64 a1] rfl (by (try simp only [List.map_toArray, List.map_cons, List.map_nil]); first | done | rfl | (simp only [List.length_drop, List.length_take]; rfl)) ?_; (with_reducible refine (checked_Narrow.calls k a0 a1 t132 t133 _ A3.out).mono ?_); rintro e w' ⟨rfl, ⟨nd, rfl⟩⟩; refine ⟨_, rfl, ?_⟩) | ((with_reducible refine gate_callee (f := 19) rfl ?_); refine goesL_ (some 18) rfl rfl Try.func19 (by kernel_rfl) rfl #[.int .i64 a0, .int .i64 a1] rfl (by (try simp only [List.map_toArray, List.map_cons, List.map_nil]); first | done | rfl | (simp only [List.length_drop, List.length_take]; rfl)) ?_; (with_reducible refine (ebbtideref01_Narrow.calls k a0 a1 t134 t135 _ A4.out).mono ?_); rintro e w' ⟨rfl, ⟨nd, rfl⟩⟩; refine ⟨_, rfl, ?_⟩) | ((with_reducible refine gate_callee (f := 17) rfl ?_); refine goesL_ (some 21) rfl rfl Try.func17 (by kernel_rfl) rfl #[] rfl (by (try simp only [List.map_toArray, List.map_cons, List.map_nil]); first | done | rfl | (simp only [List.length_drop, List.length_take]; rfl)) ?_; (with_reducible refine (ebbtidelaw01_awake.calls k  false _ A5.out).mono ?_); rintro e w14 ⟨rfl, hb⟩; refine ⟨_, rfl, ?_⟩; have n0_ := Aside0.mk (below_step (by repeat (first | (with_reducible first | exact HB.out | apply below_alloc | apply pw_below_drewN | apply below_drew1) | exact HB.out)) hb); clear HB; have HB := n0_; clear n0_; (try clear hb); (try clear hb2); (try clear hk); (try clear hi)))
    go_ret
    exact ⟨by first | rfl | (simp [errW_none, errW_some] <;> rfl) | (simp [*, errW_none, errW_some] <;> rfl), by repeat (first | (with_reducible first | exact HB.out | apply below_alloc | apply pw_below_drewN | apply below_drew1) | exact HB.out)⟩

/-- THE ONE PURE STATEMENT of ebbtidelaw01_CheckedNarrows: yours. -/
def ebbtidelaw01_CheckedNarrows.Pure : Prop := ∀ (a0 : Int) (a1 : Int), (Lit.int .i64 a0).wf = true → (Lit.int .i64 a1).wf = true → ∃ k, ebbtidelaw01_CheckedNarrows.f k a0 a1 = some true
theorem ebbtidelaw01_CheckedNarrows.walk (P : ebbtidelaw01_CheckedNarrows.Pure) (a0 : Int) (a1 : Int) (w : World) (w0 : (Lit.int .i64 a0).wf = true) (w1 : (Lit.int .i64 a1).wf = true) :
    Calls Try.prog 4 #[.int .i64 a0, .int .i64 a1] w fun e w' => e = .returned (.bool true) ∧ Below w.heap.size w w' := by
  obtain ⟨k, h⟩ := P a0 a1 w0 w1
  refine (ebbtidelaw01_CheckedNarrows.calls k a0 a1 true w h).mono ?_
  rintro e w' ⟨rfl, hd⟩
  exact ⟨rfl, hd⟩

/-! ### ebbtidelaw01_CheckedTimes: function 5 -/
def ebbtidelaw01_CheckedTimes.j0 : Nat → Int → Int → Bool → Int → Bool → Bool → Option (Bool)
  | 0, _, _, _, _, _, _ => none
  | k + 1, x0, x1, x5, x6, x7, x32 => if x32 = true then (some false) else (if x7 = true then (if x0 = 0 then (if x5 = true then (some (x6 == 0)) else (some false)) else (if x1 = 0 then (if x5 = true then (some (x6 == 0)) else (some false)) else (if x5 = true then (if (wrap64 (Int.tdiv x6 x1)) = x0 then (some ((Int.tmod x6 x1) == 0)) else (some false)) else (some false)))) else (if x5 = true then (if x6 = 0 then (if x0 = 0 then (some false) else (some (x1 != 0))) else (some false)) else (some false)))
def ebbtidelaw01_CheckedTimes.f (k : Nat) (a0 : Int) (a1 : Int) : Option (Bool) := (ebbtidelaw01_awake.f k).bind fun t139 => (if t139 = true then ((checked_Mul.f k a0 a1).bind fun bt140 => ((checked_Mul.f k a1 a0).bind fun bt142 => (if (bt140.2 != bt142.2) = true then (ebbtidelaw01_CheckedTimes.j0 k a0 a1 t139 bt140.1 bt140.2 true) else (ebbtidelaw01_CheckedTimes.j0 k a0 a1 t139 bt140.1 bt140.2 (bt140.1 != bt142.1))))) else (some false))
theorem ebbtidelaw01_CheckedTimes.mono_l : ∀ k, (∀ y0 y1 y2 y3 y4 y5, LeO (ebbtidelaw01_CheckedTimes.j0 k y0 y1 y2 y3 y4 y5) (ebbtidelaw01_CheckedTimes.j0 (k + 1) y0 y1 y2 y3 y4 y5))
  | 0 => fun _ _ _ _ _ _ r h => by simp [ebbtidelaw01_CheckedTimes.j0] at h
  | k + 1 => by
    have ih0 := ebbtidelaw01_CheckedTimes.mono_l k
    · intro y0 y1 y2 y3 y4 y5
      unfold ebbtidelaw01_CheckedTimes.j0
      repeat' first
      | (with_reducible exact ih0 _ _ _ _ _ _)
      | (with_reducible exact checked_Mul.mono _ _ _)
      | (with_reducible exact ebbtidelaw01_awake.mono _)
      | (with_reducible exact LeO.refl _)
      | (with_reducible exact LeO.none _)
      | (with_reducible refine LeO.ite ?_ ?_)
      | (with_reducible refine LeO.bind ?_ (fun _ => ?_))
      | exact ih0 _ _ _ _ _ _
      | exact checked_Mul.mono _ _ _
      | exact ebbtidelaw01_awake.mono _
      | exact LeO.none _
      | refine LeO.ite ?_ ?_
      | refine LeO.bind ?_ (fun _ => ?_)
theorem ebbtidelaw01_CheckedTimes.mono : ∀ a0 a1 k, LeO (ebbtidelaw01_CheckedTimes.f k a0 a1) (ebbtidelaw01_CheckedTimes.f (k + 1) a0 a1) := by
  intro a0 a1 k
  have ih0 := ebbtidelaw01_CheckedTimes.mono_l k
  unfold ebbtidelaw01_CheckedTimes.f
  repeat' first
      | (with_reducible exact ih0 _ _ _ _ _ _)
      | (with_reducible exact checked_Mul.mono _ _ _)
      | (with_reducible exact ebbtidelaw01_awake.mono _)
      | (with_reducible exact LeO.refl _)
      | (with_reducible exact LeO.none _)
      | (with_reducible refine LeO.ite ?_ ?_)
      | (with_reducible refine LeO.bind ?_ (fun _ => ?_))
      | exact ih0 _ _ _ _ _ _
      | exact checked_Mul.mono _ _ _
      | exact ebbtidelaw01_awake.mono _
      | exact LeO.none _
      | refine LeO.ite ?_ ?_
      | refine LeO.bind ?_ (fun _ => ?_)
set_option maxHeartbeats 8000000 in
set_option maxRecDepth 100000 in
theorem ebbtidelaw01_CheckedTimes.calls (k : Nat) (a0 : Int) (a1 : Int) (r : Bool) (w : World) (h : ebbtidelaw01_CheckedTimes.f k a0 a1 = some r) :
    Calls Try.prog 5 #[.int .i64 a0, .int .i64 a1] w fun e w' => e = .returned (.bool r) ∧ Below w.heap.size w w' := by
  have HB := Aside0.mk (Below.refl w.heap.size w)
  have H : ((ebbtidelaw01_awake.f k).bind fun t139 => (if t139 = true then ((checked_Mul.f k a0 a1).bind fun bt140 => ((checked_Mul.f k a1 a0).bind fun bt142 => (if (bt140.2 != bt142.2) = true then (ebbtidelaw01_CheckedTimes.j0 k a0 a1 t139 bt140.1 bt140.2 true) else (ebbtidelaw01_CheckedTimes.j0 k a0 a1 t139 bt140.1 bt140.2 (bt140.1 != bt142.1))))) else (some false))) = some r := h
  clear h
  replace H := Option.bind_eq_some_iff.mp H
  obtain ⟨t139, A30, H⟩ := H
  replace H : (if t139 = true then ((checked_Mul.f k a0 a1).bind fun bt140 => ((checked_Mul.f k a1 a0).bind fun bt142 => (if (bt140.2 != bt142.2) = true then (ebbtidelaw01_CheckedTimes.j0 k a0 a1 t139 bt140.1 bt140.2 true) else (ebbtidelaw01_CheckedTimes.j0 k a0 a1 t139 bt140.1 bt140.2 (bt140.1 != bt142.1))))) else (some false)) = some r := H
  have A3 := Aside0.mk A30
  clear A30
  by_cases c4 : t139 = true
  · subst c4
    have H1 : ((checked_Mul.f k a0 a1).bind fun bt140 => ((checked_Mul.f k a1 a0).bind fun bt142 => (if (bt140.2 != bt142.2) = true then (ebbtidelaw01_CheckedTimes.j0 k a0 a1 true bt140.1 bt140.2 true) else (ebbtidelaw01_CheckedTimes.j0 k a0 a1 true bt140.1 bt140.2 (bt140.1 != bt142.1))))) = some r := by rw [if_pos rfl] at H; exact H
    clear H
    have H := H1
    clear H1
    replace H := Option.bind_eq_some_iff.mp H
    obtain ⟨⟨t140, t141⟩, A50, H⟩ := H
    replace H : ((checked_Mul.f k a1 a0).bind fun bt142 => (if (t141 != bt142.2) = true then (ebbtidelaw01_CheckedTimes.j0 k a0 a1 true t140 t141 true) else (ebbtidelaw01_CheckedTimes.j0 k a0 a1 true t140 t141 (t140 != bt142.1)))) = some r := H
    have A5 := Aside0.mk A50
    clear A50
    replace H := Option.bind_eq_some_iff.mp H
    obtain ⟨⟨t142, t143⟩, A60, H⟩ := H
    replace H : (if (t141 != t143) = true then (ebbtidelaw01_CheckedTimes.j0 k a0 a1 true t140 t141 true) else (ebbtidelaw01_CheckedTimes.j0 k a0 a1 true t140 t141 (t140 != t142))) = some r := H
    have A6 := Aside0.mk A60
    clear A60
    have HC7 := Aside0.mk H
    clear H
    go_enter Try.func5, Try.ntmps5
    go_upto_region 6 with (first | ((with_reducible refine gate_callee (f := 17) rfl ?_); refine goesL_ (some 10) rfl rfl Try.func17 (by kernel_rfl) rfl #[] rfl (by (try simp only [List.map_toArray, List.map_cons, List.map_nil]); first | done | rfl | (simp only [List.length_drop, List.length_take]; rfl)) ?_; (with_reducible refine (ebbtidelaw01_awake.calls k  true _ A3.out).mono ?_); rintro e w8 ⟨rfl, hb⟩; refine ⟨_, rfl, ?_⟩; have n0_ := Aside0.mk (below_step (by repeat (first | (with_reducible first | exact HB.out | apply below_alloc | apply pw_below_drewN | apply below_drew1) | exact HB.out)) hb); clear HB; have HB := n0_; clear n0_; (try clear hb); (try clear hb2); (try clear hk); (try clear hi)) | ((with_reducible refine gate_callee (f := 15) rfl ?_); refine goesL_ (some 16) rfl rfl Try.func15 (by kernel_rfl) rfl #[.int .i64 a0, .int .i64 a1] rfl (by (try simp only [List.map_toArray, List.map_cons, List.map_nil]); first | done | rfl | (simp only [List.length_drop, List.length_take]; rfl)) ?_; (with_reducible refine (checked_Mul.calls k a0 a1 t140 t141 _ A5.out).mono ?_); rintro e w' ⟨rfl, ⟨nd, rfl⟩⟩; refine ⟨_, rfl, ?_⟩) | ((with_reducible refine gate_callee (f := 15) rfl ?_); refine goesL_ (some 22) rfl rfl Try.func15 (by kernel_rfl) rfl #[.int .i64 a1, .int .i64 a0] rfl (by (try simp only [List.map_toArray, List.map_cons, List.map_nil]); first | done | rfl | (simp only [List.length_drop, List.length_take]; rfl)) ?_; (with_reducible refine (checked_Mul.calls k a1 a0 t142 t143 _ A6.out).mono ?_); rintro e w' ⟨rfl, ⟨nd, rfl⟩⟩; refine ⟨_, rfl, ?_⟩))
    (try simp only [Act.put, List.setIfInBounds_toArray, List.set_cons_zero, List.set_cons_succ])
    go_cut [32] (fun v32 wc => ∃ (kq : Nat) (x32_6 : Bool), v32 = .bool x32_6 ∧ Aside0 (ebbtidelaw01_CheckedTimes.j0 kq a0 a1 true t140 t141 x32_6 = some r) ∧ Aside0 (kq ≤ k) ∧ Aside0 (Below w.heap.size w wc))
    case first =>
      have H := HC7.out
      clear HC7
      by_cases c9 : (t141 != t143) = true
      · rw [if_pos c9] at H
        have c9b0 : (t141 != t143) = true := c9
        (try (have c9b1 : decide (t141 = t143) = false := by simpa using c9))
        (try (have c9b2 : (t141 == t143) = false := by simpa using c9))
        (try (have c9b3 : ¬ (t141 = t143) := by simpa using c9))
        (try (have c9b4 : (!(t141 == t143)) = true := by simpa using c9))
        clear c9
        (first | rw [c9b0] | (simp only [i64_w, i32_w]; rw [c9b0]) | skip)
        have H' := Aside0.mk H
        clear H
        go_wp2
        go_meet
        case rel => exact ⟨_, (true), (by first | rfl | (simp; done) | (simp [*]; done)), H', ⟨by first | omega | exact Nat.le_refl _⟩, ⟨by repeat (first | (with_reducible first | exact HB.out | apply below_alloc | apply pw_below_drewN | apply below_drew1) | exact HB.out)⟩⟩
      · rw [if_neg c9] at H
        have c9b0 : (t141 != t143) = false := by simpa using c9
        (try (have c9b1 : decide (t141 = t143) = true := by simpa using c9))
        (try (have c9b2 : (t141 == t143) = true := by simpa using c9))
        (try (have c9b3 : (!(t141 == t143)) = false := by simpa using c9))
        clear c9
        (first | rw [c9b0] | (simp only [i64_w, i32_w]; rw [c9b0]) | skip)
        have H' := Aside0.mk H
        clear H
        go_wp2
        go_meet
        case rel => exact ⟨_, ((t140 != t142)), (by first | rfl | (simp; done) | (simp [*]; done)), H', ⟨by first | omega | exact Nat.le_refl _⟩, ⟨by repeat (first | (with_reducible first | exact HB.out | apply below_alloc | apply pw_below_drewN | apply below_drew1) | exact HB.out)⟩⟩
    case rest =>
      clear HC7
      try clear c1
      try clear p2
      try clear c4
      try clear c5
      try clear c9
      try clear c9b0
      try clear c9b1
      try clear c9b2
      obtain ⟨kq, x32_6, rfl, HA, HJ6, HB⟩ := hcut
      cases kq with
      | zero => exact absurd HA.out (by simp [ebbtidelaw01_CheckedTimes.j0])
      | succ kj6 =>
        have H := HA.out
        clear HA
        simp only [ebbtidelaw01_CheckedTimes.j0] at H
        by_cases c10 : x32_6 = true
        · subst c10
          have H1 : (some false) = some r := by rw [if_pos rfl] at H; exact H
          clear H
          have H := H1
          clear H1
          obtain rfl := Option.some.inj H
          go_wp2
          go_ret
          exact ⟨by first | rfl | (simp [errW_none, errW_some] <;> rfl) | (simp [*, errW_none, errW_some] <;> rfl), by repeat (first | (with_reducible first | exact HB.out | apply below_alloc | apply pw_below_drewN | apply below_drew1) | exact HB.out)⟩
        · replace c10 := Bool.eq_false_iff.mpr c10
          subst c10
          have H1 : (if t141 = true then (if a0 = 0 then (if true = true then (some (t140 == 0)) else (some false)) else (if a1 = 0 then (if true = true then (some (t140 == 0)) else (some false)) else (if true = true then (if (wrap64 (Int.tdiv t140 a1)) = a0 then (some ((Int.tmod t140 a1) == 0)) else (some false)) else (some false)))) else (if true = true then (if t140 = 0 then (if a0 = 0 then (some false) else (some (a1 != 0))) else (some false)) else (some false))) = some r := by rw [if_neg (show ¬ (false = true) by decide)] at H; exact H
          clear H
          have H := H1
          clear H1
          by_cases c11 : t141 = true
          · subst c11
            have H1 : (if a0 = 0 then (if true = true then (some (t140 == 0)) else (some false)) else (if a1 = 0 then (if true = true then (some (t140 == 0)) else (some false)) else (if true = true then (if (wrap64 (Int.tdiv t140 a1)) = a0 then (some ((Int.tmod t140 a1) == 0)) else (some false)) else (some false)))) = some r := by rw [if_pos rfl] at H; exact H
            clear H
            have H := H1
            clear H1
            by_cases c12 : a0 = 0
            · rw [if_pos c12] at H
              have c12b0 : (a0 == 0) = true := beq_iff_eq.mpr c12
              have c12b1 : (a0 != 0) = false := bne_eq_false_iff_eq.mpr c12
              clear c12
              rw [if_pos rfl] at H
              obtain rfl := Option.some.inj H
              go_wp2
              go_ret
              exact ⟨by first | rfl | (simp [errW_none, errW_some] <;> rfl) | (simp [*, errW_none, errW_some] <;> rfl), by repeat (first | (with_reducible first | exact HB.out | apply below_alloc | apply pw_below_drewN | apply below_drew1) | exact HB.out)⟩
            · rw [if_neg c12] at H
              have c12b0 : (a0 == 0) = false := beq_eq_false_iff_ne.mpr c12
              have c12b1 : (a0 != 0) = true := bne_iff_ne.mpr c12
              by_cases c13 : a1 = 0
              · rw [if_pos c13] at H
                have c13b0 : (a1 == 0) = true := beq_iff_eq.mpr c13
                have c13b1 : (a1 != 0) = false := bne_eq_false_iff_eq.mpr c13
                clear c13
                rw [if_pos rfl] at H
                obtain rfl := Option.some.inj H
                go_wp2
                go_ret
                exact ⟨by first | rfl | (simp [errW_none, errW_some] <;> rfl) | (simp [*, errW_none, errW_some] <;> rfl), by repeat (first | (with_reducible first | exact HB.out | apply below_alloc | apply pw_below_drewN | apply below_drew1) | exact HB.out)⟩
              · rw [if_neg c13] at H
                have c13b0 : (a1 == 0) = false := beq_eq_false_iff_ne.mpr c13
                have c13b1 : (a1 != 0) = true := bne_iff_ne.mpr c13
                rw [if_pos rfl] at H
                by_cases c14 : (wrap64 (Int.tdiv t140 a1)) = a0
                · rw [if_pos c14] at H
                  have c14b0 : ((wrap64 (Int.tdiv t140 a1)) == a0) = true := beq_iff_eq.mpr c14
                  have c14b1 : ((wrap64 (Int.tdiv t140 a1)) != a0) = false := bne_eq_false_iff_eq.mpr c14
                  clear c14
                  obtain rfl := Option.some.inj H
                  go_wp2
                  go_ret
                  exact ⟨by first | rfl | (simp [errW_none, errW_some] <;> rfl) | (simp [*, errW_none, errW_some] <;> rfl), by repeat (first | (with_reducible first | exact HB.out | apply below_alloc | apply pw_below_drewN | apply below_drew1) | exact HB.out)⟩
                · rw [if_neg c14] at H
                  have c14b0 : ((wrap64 (Int.tdiv t140 a1)) == a0) = false := beq_eq_false_iff_ne.mpr c14
                  have c14b1 : ((wrap64 (Int.tdiv t140 a1)) != a0) = true := bne_iff_ne.mpr c14
                  obtain rfl := Option.some.inj H
                  go_wp2
                  go_ret
                  exact ⟨by first | rfl | (simp [errW_none, errW_some] <;> rfl) | (simp [*, errW_none, errW_some] <;> rfl), by repeat (first | (with_reducible first | exact HB.out | apply below_alloc | apply pw_below_drewN | apply below_drew1) | exact HB.out)⟩
          · replace c11 := Bool.eq_false_iff.mpr c11
            subst c11
            have H1 : (if true = true then (if t140 = 0 then (if a0 = 0 then (some false) else (some (a1 != 0))) else (some false)) else (some false)) = some r := by rw [if_neg (show ¬ (false = true) by decide)] at H; exact H
            clear H
            have H := H1
            clear H1
            rw [if_pos rfl] at H
            by_cases c15 : t140 = 0
            · rw [if_pos c15] at H
              have c15b0 : (t140 == 0) = true := beq_iff_eq.mpr c15
              have c15b1 : (t140 != 0) = false := bne_eq_false_iff_eq.mpr c15
              clear c15
              by_cases c16 : a0 = 0
              · rw [if_pos c16] at H
                have c16b0 : (a0 == 0) = true := beq_iff_eq.mpr c16
                have c16b1 : (a0 != 0) = false := bne_eq_false_iff_eq.mpr c16
                clear c16
                obtain rfl := Option.some.inj H
                go_wp2
                go_ret
                exact ⟨by first | rfl | (simp [errW_none, errW_some] <;> rfl) | (simp [*, errW_none, errW_some] <;> rfl), by repeat (first | (with_reducible first | exact HB.out | apply below_alloc | apply pw_below_drewN | apply below_drew1) | exact HB.out)⟩
              · rw [if_neg c16] at H
                have c16b0 : (a0 == 0) = false := beq_eq_false_iff_ne.mpr c16
                have c16b1 : (a0 != 0) = true := bne_iff_ne.mpr c16
                obtain rfl := Option.some.inj H
                go_wp2
                go_ret
                exact ⟨by first | rfl | (simp [errW_none, errW_some] <;> rfl) | (simp [*, errW_none, errW_some] <;> rfl), by repeat (first | (with_reducible first | exact HB.out | apply below_alloc | apply pw_below_drewN | apply below_drew1) | exact HB.out)⟩
            · rw [if_neg c15] at H
              have c15b0 : (t140 == 0) = false := beq_eq_false_iff_ne.mpr c15
              have c15b1 : (t140 != 0) = true := bne_iff_ne.mpr c15
              obtain rfl := Option.some.inj H
              go_wp2
              go_ret
              exact ⟨by first | rfl | (simp [errW_none, errW_some] <;> rfl) | (simp [*, errW_none, errW_some] <;> rfl), by repeat (first | (with_reducible first | exact HB.out | apply below_alloc | apply pw_below_drewN | apply below_drew1) | exact HB.out)⟩
  · replace c4 := Bool.eq_false_iff.mpr c4
    subst c4
    have H1 : (some false) = some r := by rw [if_neg (show ¬ (false = true) by decide)] at H; exact H
    clear H
    have H := H1
    clear H1
    obtain rfl := Option.some.inj H
    go_enter Try.func5, Try.ntmps5
    go_wp2_with (first | ((with_reducible refine gate_callee (f := 17) rfl ?_); refine goesL_ (some 10) rfl rfl Try.func17 (by kernel_rfl) rfl #[] rfl (by (try simp only [List.map_toArray, List.map_cons, List.map_nil]); first | done | rfl | (simp only [List.length_drop, List.length_take]; rfl)) ?_; (with_reducible refine (ebbtidelaw01_awake.calls k  false _ A3.out).mono ?_); rintro e w17 ⟨rfl, hb⟩; refine ⟨_, rfl, ?_⟩; have n0_ := Aside0.mk (below_step (by repeat (first | (with_reducible first | exact HB.out | apply below_alloc | apply pw_below_drewN | apply below_drew1) | exact HB.out)) hb); clear HB; have HB := n0_; clear n0_; (try clear hb); (try clear hb2); (try clear hk); (try clear hi)))
    go_ret
    exact ⟨by first | rfl | (simp [errW_none, errW_some] <;> rfl) | (simp [*, errW_none, errW_some] <;> rfl), by repeat (first | (with_reducible first | exact HB.out | apply below_alloc | apply pw_below_drewN | apply below_drew1) | exact HB.out)⟩

/-- THE ONE PURE STATEMENT of ebbtidelaw01_CheckedTimes: yours. -/
def ebbtidelaw01_CheckedTimes.Pure : Prop := ∀ (a0 : Int) (a1 : Int), (Lit.int .i64 a0).wf = true → (Lit.int .i64 a1).wf = true → ∃ k, ebbtidelaw01_CheckedTimes.f k a0 a1 = some true
theorem ebbtidelaw01_CheckedTimes.walk (P : ebbtidelaw01_CheckedTimes.Pure) (a0 : Int) (a1 : Int) (w : World) (w0 : (Lit.int .i64 a0).wf = true) (w1 : (Lit.int .i64 a1).wf = true) :
    Calls Try.prog 5 #[.int .i64 a0, .int .i64 a1] w fun e w' => e = .returned (.bool true) ∧ Below w.heap.size w w' := by
  obtain ⟨k, h⟩ := P a0 a1 w0 w1
  refine (ebbtidelaw01_CheckedTimes.calls k a0 a1 true w h).mono ?_
  rintro e w' ⟨rfl, hd⟩
  exact ⟨rfl, hd⟩

end Go.Proofs.Ytbbddeacmjgpaaa.Q
