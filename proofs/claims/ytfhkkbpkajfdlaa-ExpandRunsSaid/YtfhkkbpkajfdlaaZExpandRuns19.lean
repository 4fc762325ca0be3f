/- A part of the proof: words, contracts, plain lemmas. Conditions: none. -/
import Derived.Test.YtfhkkbpkajfdlaaZExpandRuns15
set_option linter.unusedSimpArgs false
set_option linter.unusedVariables false
section
namespace Go.Proofs.Ytfhkkbpkajfdlaa.Q
open Go.RowKit Go.Proofs.YtfhkkbpkajfdlaaW.PrintWords Go.Proofs.YtfhkkbpkajfdlaaW.PrintLast Go.Proofs.YtfhkkbpkajfdlaaW.PrintMore
mutual
def ebbtideref03_Moves.l0 : Nat → List (S85) → List (S85) → Int → Option ((List (S85)) × Int)
 | 0, _, _, _ => none
 | k + 1, x0, x4, x5 => if x5 < (x0.length : Int) then (ebbtideref03_Moves.l1 k x0 x4 x5 true 0) else (some (x4, 0))
def ebbtideref03_Moves.l1 : Nat → List (S85) → List (S85) → Int → Bool → Int → Option ((List (S85)) × Int)
 | 0, _, _, _, _, _ => none
 | k + 1, x0, x4, x5, x6, x7 => if x7 < x5 then (if x6 = true then (if 0 ≤ x7 then (if x7 < (x0.length : Int) then (if 0 ≤ x5 then (if x5 < (x0.length : Int) then (if ((rd_T85 x0 x7).f0) = ((rd_T85 x0 x5).f0) then (ebbtideref03_Moves.l1 k x0 x4 x5 (((rd_T85 x0 x7).f1) != ((rd_T85 x0 x5).f1)) (wrap64 (x7 + 1))) else (ebbtideref03_Moves.l1 k x0 x4 x5 true (wrap64 (x7 + 1)))) else (none)) else (none)) else (none)) else (none)) else (ebbtideref03_Moves.l1 k x0 x4 x5 false (wrap64 (x7 + 1)))) else (if x6 = true then (ebbtideref03_Moves.l2 k x0 x4 x5 ([] : List Int) x5) else (ebbtideref03_Moves.l0 k x0 x4 (wrap64 (x5 + 1))))
def ebbtideref03_Moves.l2 : Nat → List (S85) → List (S85) → Int → List Int → Int → Option ((List (S85)) × Int)
 | 0, _, _, _, _, _ => none
 | k + 1, x0, x4, x5, x8, x9 => if x9 < (x0.length : Int) then (if 0 ≤ x9 then (if 0 ≤ x5 then (if x5 < (x0.length : Int) then (if ((rd_T85 x0 x9).f0) = ((rd_T85 x0 x5).f0) then (if ((rd_T85 x0 x9).f1) = ((rd_T85 x0 x5).f1) then (if x8.length < 17592186044416 then (ebbtideref03_Moves.l2 k x0 x4 x5 (x8 ++ [(rd_T85 x0 x9).f2]) (wrap64 (x9 + 1))) else (none)) else (ebbtideref03_Moves.l2 k x0 x4 x5 x8 (wrap64 (x9 + 1)))) else (ebbtideref03_Moves.l2 k x0 x4 x5 x8 (wrap64 (x9 + 1)))) else (none)) else (none)) else (none)) else ((ebbtideref01_Sum.f k x8).bind fun bt575 => (if bt575.2 = true then (if bt575.1 = 0 then (ebbtideref03_Moves.l0 k x0 x4 (wrap64 (x5 + 1))) else (if 0 ≤ x5 then (if x5 < (x0.length : Int) then (if x4.length < 5864062014805 then ((some (x4 ++ [(⟨(rd_T85 x0 x5).f0, (rd_T85 x0 x5).f1, bt575.1⟩ : S85)] : List (S85))).bind fun y579 => (ebbtideref03_Moves.l3 k x0 y579 x5 (wrap64 ((y579.length : Int) - 1)))) else (none)) else (none)) else (none))) else (some (([] : List (S85)), 10))))
def ebbtideref03_Moves.l3 : Nat → List (S85) → List (S85) → Int → Int → Option ((List (S85)) × Int)
 | 0, _, _, _, _ => none
 | k + 1, x0, x4, x5, x12 => if x12 > 0 then (if 0 ≤ x12 then (if x12 < (x4.length : Int) then (if 0 ≤ (wrap64 (x12 - 1)) then (if (wrap64 (x12 - 1)) < (x4.length : Int) then (if ((rd_T85 x4 x12).f1) < ((rd_T85 x4 (wrap64 (x12 - 1))).f1) then (ebbtideref03_Moves.l3 k x0 ((x4.set (x12 : Int).toNat (⟨(rd_T85 x4 (wrap64 (x12 - 1))).f0, (rd_T85 x4 (wrap64 (x12 - 1))).f1, (rd_T85 x4 (wrap64 (x12 - 1))).f2⟩ : S85)).set ((wrap64 (x12 - 1)) : Int).toNat (⟨(rd_T85 x4 x12).f0, (rd_T85 x4 x12).f1, (rd_T85 x4 x12).f2⟩ : S85)) x5 (wrap64 (x12 - 1))) else (if ((rd_T85 x4 x12).f1) = ((rd_T85 x4 (wrap64 (x12 - 1))).f1) then (if ((rd_T85 x4 x12).f0) < ((rd_T85 x4 (wrap64 (x12 - 1))).f0) then (ebbtideref03_Moves.l3 k x0 ((x4.set (x12 : Int).toNat (⟨(rd_T85 x4 (wrap64 (x12 - 1))).f0, (rd_T85 x4 (wrap64 (x12 - 1))).f1, (rd_T85 x4 (wrap64 (x12 - 1))).f2⟩ : S85)).set ((wrap64 (x12 - 1)) : Int).toNat (⟨(rd_T85 x4 x12).f0, (rd_T85 x4 x12).f1, (rd_T85 x4 x12).f2⟩ : S85)) x5 (wrap64 (x12 - 1))) else (ebbtideref03_Moves.l0 k x0 x4 (wrap64 (x5 + 1)))) else (ebbtideref03_Moves.l0 k x0 x4 (wrap64 (x5 + 1))))) else (none)) else (none)) else (none)) else (none)) else (ebbtideref03_Moves.l0 k x0 x4 (wrap64 (x5 + 1)))
end
def ebbtideref03_Moves.f (k : Nat) (l0 : List (S85)) : Option ((List (S85)) × Int) := ebbtideref03_Moves.l0 k l0 ([] : List (S85)) 0
def ebbtideref03_Moves.T21 : Bool × List (List Nat × List Nat) := (true, [([], []), ([], []), ([], []), ([1, 2], [1, 2]), ([3], [3]), ([4], [4]), ([], []), ([], []), ([6, 7], [6, 7]), ([8], [8]), ([9], [9]), ([], []), ([5, 10, 11], [5, 10, 11]), ([12], [12]), ([0, 13], [0, 13]), ([14, 14, 0, 1, 2, 3, 4, 5, 6, 7, 8, 9, 10, 11, 12, 13, 14], [0, 14])])
def ebbtideref03_Moves.B21 : List Nat := [0, 0, 0, 6, 14, 30, 0, 0, 192, 448, 960, 0, 4094, 8190, 16383, 32767]
theorem ebbtideref03_Moves.tab21 : rtab .any (opsOf Try.f31 21) = ebbtideref03_Moves.T21 := by kernel_rfl
theorem ebbtideref03_Moves.bits21 : waitsOk ebbtideref03_Moves.T21.2 ebbtideref03_Moves.B21 = true := by kernel_rfl
def ebbtideref03_Moves.T25 : Bool × List (List Nat × List Nat) := (true, [([], []), ([], []), ([], []), ([], []), ([3], [3]), ([], []), ([], []), ([6], [6]), ([5, 7], [5, 7]), ([8], [8]), ([], []), ([], []), ([10, 11], [10, 11]), ([12], [12]), ([0, 1, 0, 1, 5, 6, 7, 8, 9, 13], [0, 1]), ([14, 9, 0, 1, 5, 6, 7, 8, 9, 13], [9, 14]), ([2, 4, 0, 1, 2, 3, 4, 5, 6, 7, 8, 9, 10, 11, 12, 13, 14, 15], [2, 4]), ([16, 13, 15, 0, 1, 2, 3, 4, 5, 6, 7, 8, 9, 10, 11, 12, 13, 14, 15], [13, 16])])
def ebbtideref03_Moves.B25 : List Nat := [0, 0, 0, 0, 8, 0, 0, 64, 224, 480, 0, 0, 3072, 7168, 16355, 32739, 65535, 131071]
theorem ebbtideref03_Moves.tab25 : rtab .any (opsOf Try.f31 25) = ebbtideref03_Moves.T25 := by kernel_rfl
theorem ebbtideref03_Moves.bits25 : waitsOk ebbtideref03_Moves.T25.2 ebbtideref03_Moves.B25 = true := by kernel_rfl
set_option maxHeartbeats 8000000 in
set_option maxRecDepth 100000 in
theorem ebbtideref03_Moves.calls (k : Nat) (A0 : Option Addr) (c0 : Nat) (l0 : List (S85)) (r1 : List (S85)) (r2 : Int) (w : World) (hr0 : Kd.C k85 w A0 l0.length l0) (hc0 : l0.length ≤ c0) (h : ebbtideref03_Moves.f k l0 = some (r1, r2)) :
  Calls Try.prog 31 #[.slice A0 l0.length c0] w fun e w' => ∃ v0_ : Value, e = .returned (.tuple #[v0_, .int .i64 r2]) ∧ Kd.R k85 85 w' w.heap.size (fun _ => True) v0_ r1 ∧ Below w.heap.size w w' := by
 have hu85 := Try.underlying85; have HR0 := am_ hr0; have HC0 := am_ hc0; clear hr0 hc0; have HB := am_ (Below.refl w.heap.size w); have H : (ebbtideref03_Moves.l0 k l0 ([] : List (S85)) 0) = some (r1, r2) := h; clear h; have H' := am_ H; clear H
 go_enter Try.func31, Try.ntmps31
 go_wp2
 go_loopg [4, 5] k (fun kq v4 v5 w' => ∃ (x4_1 : List (S85)) (x5_1 : Int), v5 = .int .i64 x5_1 ∧ Aside0 (ebbtideref03_Moves.l0 kq l0 x4_1 x5_1 = some (r1, r2)) ∧ Aside0 (kq ≤ k) ∧ Aside0 (Kd.R k85 85 w' w.heap.size (fun _ => True) v4 x4_1) ∧ Aside0 (Below w.heap.size w w'))
 case atStart => exact ⟨(([] : List (S85))), (0), rs_, H', ⟨Nat.le_refl _⟩, ⟨ni_⟩, ⟨hb_⟩⟩
 case round =>
  clear H'; obtain ⟨x4_1, x5_1, rfl, HA, HK1, HO_4, HB⟩ := hrel
  cases gk with
  | zero => exact absurd HA.out (by simp [ebbtideref03_Moves.l0])
  | succ k1 =>
   have H := HA.out; clear HA; simp only [ebbtideref03_Moves.l0] at H
   by_cases c2 : x5_1 < (l0.length : Int)
   ·rw [if_pos c2] at H
    have c2b0 := decide_eq_true c2; clear c2; have H' := am_ H; clear H
    go_wp2
    go_loopg [6, 7] k1 (fun kq v6 v7 w' => ∃ (x6_2 : Bool) (x7_2 : Int), v6 = .bool x6_2 ∧ v7 = .int .i64 x7_2 ∧ Aside0 (ebbtideref03_Moves.l1 kq l0 x4_1 x5_1 x6_2 x7_2 = some (r1, r2)) ∧ Aside0 (kq ≤ k1) ∧ Aside0 (Kd.R k85 85 w' w.heap.size (fun _ => True) u4 x4_1) ∧ Aside0 (Below w.heap.size w w'))
    case atStart => exact ⟨(true), (0), rs_, rs_, H', ⟨Nat.le_refl _⟩, ⟨rq_ HO_4.out⟩, ⟨hb_⟩⟩
    case round =>
     clear H'
     try clear c2
     try clear c2b0
     try clear p2
     obtain ⟨x6_2, x7_2, rfl, rfl, HA, HK2, HO_4, HB⟩ := hrel
     cases gk with
     | zero => exact absurd HA.out (by simp [ebbtideref03_Moves.l1])
     | succ k2 =>
      have H := HA.out; clear HA; simp only [ebbtideref03_Moves.l1] at H
      by_cases c3 : x7_2 < x5_1
      ·rw [if_pos c3] at H
       have c3b0 := decide_eq_true c3; clear c3
       by_cases c4 : x6_2 = true
       ·subst c4
        have H1 : (if 0 ≤ x7_2 then (if x7_2 < (l0.length : Int) then (if 0 ≤ x5_1 then (if x5_1 < (l0.length : Int) then (if ((rd_T85 l0 x7_2).f0) = ((rd_T85 l0 x5_1).f0) then (ebbtideref03_Moves.l1 k2 l0 x4_1 x5_1 (((rd_T85 l0 x7_2).f1) != ((rd_T85 l0 x5_1).f1)) (wrap64 (x7_2 + 1))) else (ebbtideref03_Moves.l1 k2 l0 x4_1 x5_1 true (wrap64 (x7_2 + 1)))) else (none)) else (none)) else (none)) else (none)) = some (r1, r2) := by rw [if_pos rfl] at H; exact H
        clear H; have H := H1; clear H1
        replace H := ifn_ H; obtain ⟨c5, H⟩ := H
        have c5b0 := decide_eq_true c5; clear c5
        replace H := ifn_ H; obtain ⟨c6, H⟩ := H
        have c6b0 := decide_eq_true c6; clear c6
        replace H := ifn_ H; obtain ⟨c7, H⟩ := H
        have c7b0 := decide_eq_true c7; clear c7
        replace H := ifn_ H; obtain ⟨c8, H⟩ := H
        have c8b0 := decide_eq_true c8; clear c8
        by_cases c9 : ((rd_T85 l0 x7_2).f0) = ((rd_T85 l0 x5_1).f0)
        ·rw [if_pos c9] at H
         obtain ⟨c9b0, c9b1⟩ := eqb_ c9; clear c9
         as_aux_lemma =>
          have H' := am_ H; clear H
          try go_wp2
          have p563 := od_ (p := 0 ≤ (x7_2 : Int)); have q563 := od_ (p := x7_2 < (l0.length : Int)); obtain ⟨ad563, e563, hx563_0, hx563_1, hx563_2⟩ := tr3_ HB.out (at_T85 HR0.out x7_2 p563 q563); cases e563; replace p563 := eq_true p563; replace q563 := eq_true q563; have p564 := od_ (p := 0 ≤ (x5_1 : Int)); have q564 := od_ (p := x5_1 < (l0.length : Int)); obtain ⟨ad564, e564, hx564_0, hx564_1, hx564_2⟩ := tr3_ HB.out (at_T85 HR0.out x5_1 p564 q564); obtain rfl : ad563 = ad564 := (by injection e564); replace p564 := eq_true p564; replace q564 := eq_true q564; have p565 := od_ (p := 0 ≤ (x7_2 : Int)); have q565 := od_ (p := x7_2 < (l0.length : Int)); obtain ⟨ad565, e565, hx565_0, hx565_1, hx565_2⟩ := tr3_ HB.out (at_T85 HR0.out x7_2 p565 q565); obtain rfl : ad563 = ad565 := (by injection e565); replace p565 := eq_true p565; replace q565 := eq_true q565; go_quiet (fail); replace HO_4 := am_ (Kd.R_drewN HO_4.out nq); replace HB := am_ (pw_below_drewN HB.out nq); generalize wr.drewN nq = w10 at HO_4 HB ⊢
          try go_wp2
          go_roundg k2
          case measure => have := HK1.out; have := HK2.out; omega
          case rel => exact ⟨((((rd_T85 l0 x7_2).f1) != ((rd_T85 l0 x5_1).f1))), (wrap64 (x7_2 + 1)), rs_, rs_, H', ⟨by have := HK1.out; have := HK2.out; omega⟩, ⟨rq_ HO_4.out⟩, ⟨hb_⟩⟩
        ·rw [if_neg c9] at H
         obtain ⟨c9b0, c9b1⟩ := neb_ c9
         as_aux_lemma =>
          have H' := am_ H; clear H
          try go_wp2
          have p563 := od_ (p := 0 ≤ (x7_2 : Int)); have q563 := od_ (p := x7_2 < (l0.length : Int)); obtain ⟨ad563, e563, hx563_0, hx563_1, hx563_2⟩ := tr3_ HB.out (at_T85 HR0.out x7_2 p563 q563); cases e563; replace p563 := eq_true p563; replace q563 := eq_true q563; have p564 := od_ (p := 0 ≤ (x5_1 : Int)); have q564 := od_ (p := x5_1 < (l0.length : Int)); obtain ⟨ad564, e564, hx564_0, hx564_1, hx564_2⟩ := tr3_ HB.out (at_T85 HR0.out x5_1 p564 q564); obtain rfl : ad563 = ad564 := (by injection e564); replace p564 := eq_true p564; replace q564 := eq_true q564; go_quiet (fail); replace HO_4 := am_ (Kd.R_drewN HO_4.out nq); replace HB := am_ (pw_below_drewN HB.out nq); generalize wr.drewN nq = w11 at HO_4 HB ⊢
          try go_wp2
          go_roundg k2
          case measure => have := HK1.out; have := HK2.out; omega
          case rel => exact ⟨(true), (wrap64 (x7_2 + 1)), rs_, rs_, H', ⟨by have := HK1.out; have := HK2.out; omega⟩, ⟨rq_ HO_4.out⟩, ⟨hb_⟩⟩
       ·replace c4 := Bool.eq_false_iff.mpr c4
        subst c4
        have H1 : (ebbtideref03_Moves.l1 k2 l0 x4_1 x5_1 false (wrap64 (x7_2 + 1))) = some (r1, r2) := by rw [if_neg (show ¬ (false = true) by decide)] at H; exact H
        clear H; have H := H1; clear H1
        as_aux_lemma =>
         have H' := am_ H; clear H
         try go_wp2
         go_quiet (fail); replace HO_4 := am_ (Kd.R_drewN HO_4.out nq); replace HB := am_ (pw_below_drewN HB.out nq); generalize wr.drewN nq = w12 at HO_4 HB ⊢
         try go_wp2
         go_roundg k2
         case measure => have := HK1.out; have := HK2.out; omega
         case rel => exact ⟨(false), (wrap64 (x7_2 + 1)), rs_, rs_, H', ⟨by have := HK1.out; have := HK2.out; omega⟩, ⟨rq_ HO_4.out⟩, ⟨hb_⟩⟩
      ·rw [if_neg c3] at H
       have c3b0 := decide_eq_false c3; clear c3
       by_cases c13 : x6_2 = true
       ·subst c13
        have H1 : (ebbtideref03_Moves.l2 k2 l0 x4_1 x5_1 ([] : List Int) x5_1) = some (r1, r2) := by rw [if_pos rfl] at H; exact H
        clear H; have H := H1; clear H1; have H' := am_ H; clear H
        go_wp2
        go_loopg [8, 9] k2 (fun kq v8 v9 w' => ∃ (x8_3 : List Int) (x9_3 : Int), v9 = .int .i64 x9_3 ∧ Aside0 (ebbtideref03_Moves.l2 kq l0 x4_1 x5_1 x8_3 x9_3 = some (r1, r2)) ∧ Aside0 (kq ≤ k2) ∧ Aside0 (Kd.R k85 85 w' w.heap.size (fun _ => True) u4 x4_1) ∧ Aside0 (Kd.R (Kd.int .i64) 3 w' w.heap.size (fun _ => True) v8 x8_3) ∧ Aside0 (Below w.heap.size w w'))
        case atStart => exact ⟨(([] : List Int)), (x5_1), rs_, H', ⟨Nat.le_refl _⟩, ⟨rq_ HO_4.out⟩, ⟨ni_⟩, ⟨hb_⟩⟩
        case round =>
         clear H'
         try clear c1
         try clear p2
         try clear c3
         try clear c3b0
         try clear c4
         try clear c5
         try clear p5
         try clear q5
         try clear hx5
         try clear c6
         try clear p6
         try clear c7
         try clear c8
         try clear c9
         try clear c9b0
         try clear c9b1
         try clear c13
         try clear hx563_0
         try clear hx563_1
         try clear hx563_2
         try clear hx564_0
         try clear hx564_1
         try clear hx564_2
         try clear p563
         try clear p564
         try clear q563
         try clear q564
         obtain ⟨x8_3, x9_3, rfl, HA, HK3, HO_4, HO_8, HB⟩ := hrel
         cases gk with
         | zero => exact absurd HA.out (by simp [ebbtideref03_Moves.l2])
         | succ k3 =>
          have H := HA.out; clear HA; simp only [ebbtideref03_Moves.l2] at H
          by_cases c14 : x9_3 < (l0.length : Int)
          ·rw [if_pos c14] at H
           have c14b0 := decide_eq_true c14; clear c14
           replace H := ifn_ H; obtain ⟨c15, H⟩ := H
           have c15b0 := decide_eq_true c15; clear c15
           replace H := ifn_ H; obtain ⟨c16, H⟩ := H
           have c16b0 := decide_eq_true c16; clear c16
           replace H := ifn_ H; obtain ⟨c17, H⟩ := H
           have c17b0 := decide_eq_true c17; clear c17
           by_cases c18 : ((rd_T85 l0 x9_3).f0) = ((rd_T85 l0 x5_1).f0)
           ·rw [if_pos c18] at H
            obtain ⟨c18b0, c18b1⟩ := eqb_ c18; clear c18
            by_cases c19 : ((rd_T85 l0 x9_3).f1) = ((rd_T85 l0 x5_1).f1)
            ·rw [if_pos c19] at H
             obtain ⟨c19b0, c19b1⟩ := eqb_ c19; clear c19
             replace H := ifn_ H; obtain ⟨c20, H⟩ := H
             have LMc20 := am_ c20; clear c20; obtain ⟨y572, hy_⟩ : ∃ y_ : List Int, y_ = (x8_3 ++ [(rd_T85 l0 x9_3).f2]) := ⟨_, rfl⟩
             replace H : (ebbtideref03_Moves.l2 k3 l0 x4_1 x5_1 y572 (wrap64 (x9_3 + 1))) = some (r1, r2) := hyH_
             have Ny572 := am_ hy_; clear hy_
             as_aux_lemma =>
              have H' := am_ H; clear H
              try go_wp2
              have p567 := od_ (p := 0 ≤ (x9_3 : Int)); have q567 := od_ (p := x9_3 < (l0.length : Int)); obtain ⟨ad567, e567, hx567_0, hx567_1, hx567_2⟩ := tr3_ HB.out (at_T85 HR0.out x9_3 p567 q567); cases e567; replace p567 := eq_true p567; replace q567 := eq_true q567; have p568 := od_ (p := 0 ≤ (x5_1 : Int)); have q568 := od_ (p := x5_1 < (l0.length : Int)); obtain ⟨ad568, e568, hx568_0, hx568_1, hx568_2⟩ := tr3_ HB.out (at_T85 HR0.out x5_1 p568 q568); obtain rfl : ad567 = ad568 := (by injection e568); replace p568 := eq_true p568; replace q568 := eq_true q568; have p569 := od_ (p := 0 ≤ (x9_3 : Int)); have q569 := od_ (p := x9_3 < (l0.length : Int)); obtain ⟨ad569, e569, hx569_0, hx569_1, hx569_2⟩ := tr3_ HB.out (at_T85 HR0.out x9_3 p569 q569); obtain rfl : ad567 = ad569 := (by injection e569); replace p569 := eq_true p569; replace q569 := eq_true q569; go_quiet (fail); replace HO_4 := am_ (Kd.R_drewN HO_4.out nq); replace HO_8 := am_ (Kd.R_drewN HO_8.out nq); replace HB := am_ (pw_below_drewN HB.out nq); generalize wr.drewN nq = w21 at HO_4 HO_8 HB ⊢; have p571 := od_ (p := 0 ≤ (x9_3 : Int)); have q571 := od_ (p := x9_3 < (l0.length : Int)); obtain ⟨ad571, e571, hx571_0, hx571_1, hx571_2⟩ := tr3_ HB.out (at_T85 HR0.out x9_3 p571 q571); obtain rfl : ad567 = ad571 := (by injection e571); replace p571 := eq_true p571; replace q571 := eq_true q571
              try go_wp2_with (first | ((with_reducible refine gate_builtin (b := .append) (xs := #[.tmp 84, .tmp 90]) rfl ?_); at_builtin; refine Kd.R_append (Kd.int .i64) (w0 := w) w.heap.size rfl (.tmp 84) (.tmp 90) 42 3 (.int .i64 0) 8 rfl Try.underlying42 info3 rfl (by decide) (by omega) u8 x8_3 ((rd_T85 l0 x9_3).f2) [.int .i64 ((rd_T85 l0 x9_3).f2)] (fun _ => True) (fun _ => False) rfl rfl ?aP (fun _ hk => hk.elim) ?aF ?aO ?aB ?aS ?aL ?_; (case aP => exact rfl); (case aB => exact hb_); (case aF => exact (fun _ _ => trivial)); (case aO => exact (rq_ HO_8.out)); (case aS => exact (below_size hb_)); (case aL => have := LMc20.out; omega); intro v573 w22 ho hb hg hat; rw [← Ny572.out] at ho; replace HO_4 := am_ (Kd.R_over' (rq_ HO_4.out) (Kd.R_typed (rq_ HO_8.out)) (by decide) hg); replace HB := am_ (hb); have HO574 := am_ (ho); clear HO_8; clear ho hb hg hat))
              go_roundg k3
              case measure => have := HK1.out; have := HK2.out; have := HK3.out; omega
              case rel => exact ⟨(y572), (wrap64 (x9_3 + 1)), rs_, H', ⟨by have := HK1.out; have := HK2.out; have := HK3.out; omega⟩, ⟨rq_ HO_4.out⟩, ⟨rq_ HO574.out⟩, ⟨hb_⟩⟩
            ·rw [if_neg c19] at H
             obtain ⟨c19b0, c19b1⟩ := neb_ c19
             as_aux_lemma =>
              have H' := am_ H; clear H
              try go_wp2
              have p567 := od_ (p := 0 ≤ (x9_3 : Int)); have q567 := od_ (p := x9_3 < (l0.length : Int)); obtain ⟨ad567, e567, hx567_0, hx567_1, hx567_2⟩ := tr3_ HB.out (at_T85 HR0.out x9_3 p567 q567); cases e567; replace p567 := eq_true p567; replace q567 := eq_true q567; have p568 := od_ (p := 0 ≤ (x5_1 : Int)); have q568 := od_ (p := x5_1 < (l0.length : Int)); obtain ⟨ad568, e568, hx568_0, hx568_1, hx568_2⟩ := tr3_ HB.out (at_T85 HR0.out x5_1 p568 q568); obtain rfl : ad567 = ad568 := (by injection e568); replace p568 := eq_true p568; replace q568 := eq_true q568; have p569 := od_ (p := 0 ≤ (x9_3 : Int)); have q569 := od_ (p := x9_3 < (l0.length : Int)); obtain ⟨ad569, e569, hx569_0, hx569_1, hx569_2⟩ := tr3_ HB.out (at_T85 HR0.out x9_3 p569 q569); obtain rfl : ad567 = ad569 := (by injection e569); replace p569 := eq_true p569; replace q569 := eq_true q569; go_quiet (fail); replace HO_4 := am_ (Kd.R_drewN HO_4.out nq); replace HO_8 := am_ (Kd.R_drewN HO_8.out nq); replace HB := am_ (pw_below_drewN HB.out nq); generalize wr.drewN nq = w23 at HO_4 HO_8 HB ⊢
              try go_wp2
              go_roundg k3
              case measure => have := HK1.out; have := HK2.out; have := HK3.out; omega
              case rel => exact ⟨(x8_3), (wrap64 (x9_3 + 1)), rs_, H', ⟨by have := HK1.out; have := HK2.out; have := HK3.out; omega⟩, ⟨rq_ HO_4.out⟩, ⟨rq_ HO_8.out⟩, ⟨hb_⟩⟩
           ·rw [if_neg c18] at H
            obtain ⟨c18b0, c18b1⟩ := neb_ c18
            as_aux_lemma =>
             have H' := am_ H; clear H
             try go_wp2
             have p567 := od_ (p := 0 ≤ (x9_3 : Int)); have q567 := od_ (p := x9_3 < (l0.length : Int)); obtain ⟨ad567, e567, hx567_0, hx567_1, hx567_2⟩ := tr3_ HB.out (at_T85 HR0.out x9_3 p567 q567); cases e567; replace p567 := eq_true p567; replace q567 := eq_true q567; have p568 := od_ (p := 0 ≤ (x5_1 : Int)); have q568 := od_ (p := x5_1 < (l0.length : Int)); obtain ⟨ad568, e568, hx568_0, hx568_1, hx568_2⟩ := tr3_ HB.out (at_T85 HR0.out x5_1 p568 q568); obtain rfl : ad567 = ad568 := (by injection e568); replace p568 := eq_true p568; replace q568 := eq_true q568; go_quiet (fail); replace HO_4 := am_ (Kd.R_drewN HO_4.out nq); replace HO_8 := am_ (Kd.R_drewN HO_8.out nq); replace HB := am_ (pw_below_drewN HB.out nq); generalize wr.drewN nq = w24 at HO_4 HO_8 HB ⊢
             try go_wp2
             go_roundg k3
             case measure => have := HK1.out; have := HK2.out; have := HK3.out; omega
             case rel => exact ⟨(x8_3), (wrap64 (x9_3 + 1)), rs_, H', ⟨by have := HK1.out; have := HK2.out; have := HK3.out; omega⟩, ⟨rq_ HO_4.out⟩, ⟨rq_ HO_8.out⟩, ⟨hb_⟩⟩
          ·rw [if_neg c14] at H
           have c14b0 := decide_eq_false c14; clear c14; replace H := Option.bind_eq_some_iff.mp H; obtain ⟨⟨t575, t576⟩, A250, H⟩ := H; replace H : (if t576 = true then (if t575 = 0 then (ebbtideref03_Moves.l0 k3 l0 x4_1 (wrap64 (x5_1 + 1))) else (if 0 ≤ x5_1 then (if x5_1 < (l0.length : Int) then (if x4_1.length < 5864062014805 then ((some (x4_1 ++ [(⟨(rd_T85 l0 x5_1).f0, (rd_T85 l0 x5_1).f1, t575⟩ : S85)] : List (S85))).bind fun y579 => (ebbtideref03_Moves.l3 k3 l0 y579 x5_1 (wrap64 ((y579.length : Int) - 1)))) else (none)) else (none)) else (none))) else (some (([] : List (S85)), 10))) = some (r1, r2) := H; have A25 := am_ A250; clear A250
           by_cases c26 : t576 = true
           ·subst c26
            have H1 : (if t575 = 0 then (ebbtideref03_Moves.l0 k3 l0 x4_1 (wrap64 (x5_1 + 1))) else (if 0 ≤ x5_1 then (if x5_1 < (l0.length : Int) then (if x4_1.length < 5864062014805 then ((some (x4_1 ++ [(⟨(rd_T85 l0 x5_1).f0, (rd_T85 l0 x5_1).f1, t575⟩ : S85)] : List (S85))).bind fun y579 => (ebbtideref03_Moves.l3 k3 l0 y579 x5_1 (wrap64 ((y579.length : Int) - 1)))) else (none)) else (none)) else (none))) = some (r1, r2) := by rw [if_pos rfl] at H; exact H
            clear H; have H := H1; clear H1
            by_cases c27 : t575 = 0
            ·rw [if_pos c27] at H
             obtain ⟨c27b0, c27b1⟩ := eqb_ c27; clear c27
             as_aux_lemma =>
              have H' := am_ H; clear H; obtain ⟨Ao28, co28, eo28⟩ := Kd.R_slice HO_8.out; subst eo28
              go_wp2_with (first | ((with_reducible refine gate_callee (f := 53) rfl ?_); refine goesL_ (some 94) rfl rfl Try.func53 (by kernel_rfl) rfl #[.slice Ao28 x8_3.length co28] rfl mt_ ?_; (with_reducible refine (ebbtideref01_Sum.calls k3 _ _ x8_3 t575 true _ ?side1 ?side2 A25.out).mono ?_); (case side1 => repeat (first | exact (Kd.R_reads' HO_8.out).2.2 | (with_reducible refine Kd.C_alloc ?_ _) | (with_reducible refine Kd.C_drewN ?_ _) | (with_reducible refine Kd.C_drew ?_))); (case side2 => exact (Kd.R_reads' HO_8.out).2.1); rintro e w' ⟨rfl, ⟨nd, rfl⟩⟩; refine ⟨_, rfl, ?_⟩))
              go_roundg k3
              case measure => have := HK1.out; have := HK2.out; have := HK3.out; omega
              case rel => exact ⟨(x4_1), (wrap64 (x5_1 + 1)), rs_, H', ⟨by have := HK1.out; have := HK2.out; have := HK3.out; omega⟩, ⟨rq_ HO_4.out⟩, ⟨hb_⟩⟩
            ·rw [if_neg c27] at H
             obtain ⟨c27b0, c27b1⟩ := neb_ c27
             replace H := ifn_ H; obtain ⟨c29, H⟩ := H
             have c29b0 := decide_eq_true c29; clear c29
             replace H := ifn_ H; obtain ⟨c30, H⟩ := H
             have c30b0 := decide_eq_true c30; clear c30
             replace H := ifn_ H; obtain ⟨c31, H⟩ := H
             have LMc31 := am_ c31; clear c31; obtain ⟨y579, hy_⟩ : ∃ y_ : List (S85), y_ = (x4_1 ++ [(⟨(rd_T85 l0 x5_1).f0, (rd_T85 l0 x5_1).f1, t575⟩ : S85)]) := ⟨_, rfl⟩
             replace H : (ebbtideref03_Moves.l3 k3 l0 y579 x5_1 (wrap64 ((y579.length : Int) - 1))) = some (r1, r2) := hyH_
             have Ny579 := am_ hy_; clear hy_; have H' := am_ H; clear H; obtain ⟨Ao32, co32, eo32⟩ := Kd.R_slice HO_8.out; subst eo32
             try go_wp2_with (first | ((with_reducible refine gate_callee (f := 53) rfl ?_); refine goesL_ (some 94) rfl rfl Try.func53 (by kernel_rfl) rfl #[.slice Ao32 x8_3.length co32] rfl mt_ ?_; (with_reducible refine (ebbtideref01_Sum.calls k3 _ _ x8_3 t575 true _ ?side1 ?side2 A25.out).mono ?_); (case side1 => repeat (first | exact (Kd.R_reads' HO_8.out).2.2 | (with_reducible refine Kd.C_alloc ?_ _) | (with_reducible refine Kd.C_drewN ?_ _) | (with_reducible refine Kd.C_drew ?_))); (case side2 => exact (Kd.R_reads' HO_8.out).2.1); rintro e w' ⟨rfl, ⟨nd, rfl⟩⟩; refine ⟨_, rfl, ?_⟩))
             (try (rw [drewN_self wr]; generalize hq_ : World.drewN wr _ = wr; have n0_ : Aside0 (Kd.R k85 85 wr w.heap.size (fun _ => True) u4 x4_1) := ⟨by rw [← hq_]; exact (rq_ HO_4.out)⟩; have n1_ : Aside0 (Kd.R (Kd.int .i64) 3 wr w.heap.size (fun _ => True) (.slice Ao32 x8_3.length co32) x8_3) := ⟨by rw [← hq_]; exact (rq_ HO_8.out)⟩; have n2_ : Aside0 (Below w.heap.size w wr) := ⟨by rw [← hq_]; exact hb_⟩; clear HO_4 HO_8 HB hq_; have HO_4 := n0_; have HO_8 := n1_; have HB := n2_; clear n0_ n1_ n2_))
             replace HO_4 := am_ (Kd.R_drew HO_4.out); replace HO_8 := am_ (Kd.R_drew HO_8.out); replace HB := am_ (below_drew1 HB.out); have p577 : 0 ≤ (x5_1 : Int) := of_decide_eq_true sm_; have q577 : x5_1 < (l0.length : Int) := of_decide_eq_true sm_; obtain ⟨ad577, e577, hx577_0, hx577_1, hx577_2⟩ := at_T85 HR0.out x5_1 p577 q577; have hw577_2 := hx577_2; have hw577_1 := hx577_1; have hw577_0 := hx577_0; cases e577; replace hx577_0 := (HB.out.cell (World.block_lt_of_cell? w _ hx577_0)).trans hx577_0; replace hx577_1 := (HB.out.cell (World.block_lt_of_cell? w _ hx577_1)).trans hx577_1; replace hx577_2 := (HB.out.cell (World.block_lt_of_cell? w _ hx577_2)).trans hx577_2; replace p577 := eq_true p577; replace q577 := eq_true q577; have p578 : 0 ≤ (x5_1 : Int) := of_decide_eq_true sm_; have q578 : x5_1 < (l0.length : Int) := of_decide_eq_true sm_; obtain ⟨ad578, e578, hx578_0, hx578_1, hx578_2⟩ := at_T85 HR0.out x5_1 p578 q578; have hw578_2 := hx578_2; have hw578_1 := hx578_1; have hw578_0 := hx578_0; obtain rfl : ad577 = ad578 := (by injection e578); replace hx578_0 := (HB.out.cell (World.block_lt_of_cell? w _ hx578_0)).trans hx578_0; replace hx578_1 := (HB.out.cell (World.block_lt_of_cell? w _ hx578_1)).trans hx578_1; replace hx578_2 := (HB.out.cell (World.block_lt_of_cell? w _ hx578_2)).trans hx578_2; replace p578 := eq_true p578; replace q578 := eq_true q578; refine start_ (n := 16) (S := fun w' => w'.cell? (ad577.add ((x5_1).toNat * 3)) = some (.int .i64 ((rd_T85 l0 x5_1).f0)) ∧ w'.cell? ⟨(ad577.add ((x5_1).toNat * 3)).block, (ad577.add ((x5_1).toNat * 3)).off + 1, none⟩ = some (.int .i64 ((rd_T85 l0 x5_1).f1)) ∧ w'.cell? ⟨(ad577.add ((x5_1).toNat * 3)).block, (ad577.add ((x5_1).toNat * 3)).off + 2, none⟩ = some (.int .i64 ((rd_T85 l0 x5_1).f2)) ∧ w'.cell? (ad577.add ((x5_1).toNat * 3)) = some (.int .i64 ((rd_T85 l0 x5_1).f0)) ∧ w'.cell? ⟨(ad577.add ((x5_1).toNat * 3)).block, (ad577.add ((x5_1).toNat * 3)).off + 1, none⟩ = some (.int .i64 ((rd_T85 l0 x5_1).f1)) ∧ w'.cell? ⟨(ad577.add ((x5_1).toNat * 3)).block, (ad577.add ((x5_1).toNat * 3)).off + 2, none⟩ = some (.int .i64 ((rd_T85 l0 x5_1).f2))) (ds := []) #[Ff,Ff,Ff,Ff,Ff,Ff,Ff,Ff,Ff,Ff,Ff,Ff,Ff,Ff,Ff,Ff] (by kernel_rfl) rfl rfl ⟨((HB.out.cell (World.block_lt_of_cell? w _ hw577_0)).trans hw577_0), ((HB.out.cell (World.block_lt_of_cell? w _ hw577_1)).trans hw577_1), ((HB.out.cell (World.block_lt_of_cell? w _ hw577_2)).trans hw577_2), ((HB.out.cell (World.block_lt_of_cell? w _ hw578_0)).trans hw578_0), ((HB.out.cell (World.block_lt_of_cell? w _ hw578_1)).trans hw578_1), ((HB.out.cell (World.block_lt_of_cell? w _ hw578_2)).trans hw578_2)⟩ (fun hHeld => ?_); refine with_tabW ebbtideref03_Moves.tab21 ebbtideref03_Moves.bits21 (fun HT_ HW_ => ?_); generalize wr.drew = w33 at HO_4 HO_8 HB hx577_0 hx577_1 hx577_2 hx578_0 hx578_1 hx578_2 hHeld ⊢; refine pw_ 0 101 ?_; refine pw_ 1 102 ?_; refine pw_ 2 103 ?_; refine pw_ 3 104 ?_; refine pw_ 4 105 ?_; refine pw_ 6 107 ?_; refine pw_ 7 108 ?_; refine pw_ 8 109 ?_; refine pw_ 9 110 ?_; refine pw_ 11 112 ?_; refine tk_ 5 106 ?_; refine tk_ 10 111 ?_; refine pw_ 12 113 ?_; refine one_ (i := 13) (N := some 114) #[Tt,Tt,Tt,Tt,Tt,Tt,Tt,Tt,Tt,Tt,Tt,Tt,Tt,Tt,Ff,Ff] rfl rfl (one_of HT_.out (by kernel_rfl)) (by decide) (fun K hK => ?_); refine value_ (w1 := ?_) (v := ?_) (by rfl) rfl ?_ ?_; rotate_left 2
             ·go_simp
              constructor
              ·rfl
              ·rfl
             refine hK.out _ _ ⟨(World.cell?_alloc_lt _ _ _ (World.block_lt_of_cell? _ _ (((HB.out.cell (World.block_lt_of_cell? w _ hw577_0)).trans hw577_0)))).trans (((HB.out.cell (World.block_lt_of_cell? w _ hw577_0)).trans hw577_0)), (World.cell?_alloc_lt _ _ _ (World.block_lt_of_cell? _ _ (((HB.out.cell (World.block_lt_of_cell? w _ hw577_1)).trans hw577_1)))).trans (((HB.out.cell (World.block_lt_of_cell? w _ hw577_1)).trans hw577_1)), (World.cell?_alloc_lt _ _ _ (World.block_lt_of_cell? _ _ (((HB.out.cell (World.block_lt_of_cell? w _ hw577_2)).trans hw577_2)))).trans (((HB.out.cell (World.block_lt_of_cell? w _ hw577_2)).trans hw577_2)), (World.cell?_alloc_lt _ _ _ (World.block_lt_of_cell? _ _ (((HB.out.cell (World.block_lt_of_cell? w _ hw578_0)).trans hw578_0)))).trans (((HB.out.cell (World.block_lt_of_cell? w _ hw578_0)).trans hw578_0)), (World.cell?_alloc_lt _ _ _ (World.block_lt_of_cell? _ _ (((HB.out.cell (World.block_lt_of_cell? w _ hw578_1)).trans hw578_1)))).trans (((HB.out.cell (World.block_lt_of_cell? w _ hw578_1)).trans hw578_1)), (World.cell?_alloc_lt _ _ _ (World.block_lt_of_cell? _ _ (((HB.out.cell (World.block_lt_of_cell? w _ hw578_2)).trans hw578_2)))).trans (((HB.out.cell (World.block_lt_of_cell? w _ hw578_2)).trans hw578_2))⟩ (fun hHeld => ?_); clear hK K; refine norm_ (a' := ?_) ?_ ?_; rotate_left
             ·show Act.put _ (some 114) _ = _
              simp only [Act.put, List.setIfInBounds_toArray, List.set_cons_zero, List.set_cons_succ, i64_w, i32_w]; rfl
             refine one_ (i := 14) (N := some 115) #[Tt,Tt,Tt,Tt,Tt,Tt,Tt,Tt,Tt,Tt,Tt,Tt,Tt,Tt,Tt,Ff] rfl rfl (one_of HT_.out (by kernel_rfl)) (by decide) (fun K hK => ?_); refine Kd.R_append_step k85 (w0 := w) w.heap.size (by rfl) (.tmp 101) (.tmp 114) 45 85 (.agg #[(.int .i64 0), (.int .i64 0), (.int .i64 0)]) 24 rfl Try.underlying45 info85 rfl (by decide) (by omega) u4 x4_1 (⟨(rd_T85 l0 x5_1).f0, (rd_T85 l0 x5_1).f1, t575⟩ : S85) [.int .i64 ((rd_T85 l0 x5_1).f0), .int .i64 ((rd_T85 l0 x5_1).f1), .int .i64 t575] (fun _ => True) (fun _ => False) rfl rfl ?aP (fun _ hk => hk.elim) ?aF ?aO ?aB ?aS ?aL ?_
             (case aP => exact k85_mkM _ _ _ (⟨(rd_T85 l0 x5_1).f0, (rd_T85 l0 x5_1).f1, t575⟩ : S85))
             (case aB => exact hb_)
             (case aF => exact (fun _ _ => trivial))
             (case aO => exact (rq_ HO_4.out))
             (case aS => exact (below_size hb_))
             (case aL => have := LMc31.out; omega)
             intro v580 w34 ho hb hg hat; rw [← Ny579.out] at ho; replace HO_8 := am_ (Kd.R_over' (rq_ HO_8.out) (Kd.R_typed (rq_ HO_4.out)) (by decide) hg); replace HB := am_ (hb); have HO581 := am_ (ho); clear HO_4; clear ho hb hg hat; refine hK.out _ _ ⟨((HB.out.cell (World.block_lt_of_cell? w _ hw577_0)).trans hw577_0), ((HB.out.cell (World.block_lt_of_cell? w _ hw577_1)).trans hw577_1), ((HB.out.cell (World.block_lt_of_cell? w _ hw577_2)).trans hw577_2), ((HB.out.cell (World.block_lt_of_cell? w _ hw578_0)).trans hw578_0), ((HB.out.cell (World.block_lt_of_cell? w _ hw578_1)).trans hw578_1), ((HB.out.cell (World.block_lt_of_cell? w _ hw578_2)).trans hw578_2)⟩ (fun hHeld => ?_); clear hK K; refine norm_ (a' := ?_) ?_ ?_; rotate_left
             ·show Act.put _ (some 115) _ = _
              simp only [Act.put, List.setIfInBounds_toArray, List.set_cons_zero, List.set_cons_succ, i64_w, i32_w]; rfl
             refine pw_ 15 4 ?_; refine done_ (done_of HT_.out (by kernel_rfl)) ?_; obtain ⟨Ao35, co35, eo35⟩ := Kd.R_slice HO581.out; subst eo35
             try go_wp2
             go_loopg [12] k3 (fun kq v12 w' => ∃ (x4_4 : List (S85)) (x12_4 : Int), v12 = .int .i64 x12_4 ∧ Aside0 (ebbtideref03_Moves.l3 kq l0 x4_4 x5_1 x12_4 = some (r1, r2)) ∧ Aside0 (kq ≤ k3) ∧ Aside0 (Kd.R k85 85 w' w.heap.size (fun _ => True) (.slice Ao35 y579.length co35) x4_4) ∧ Aside0 (Below w.heap.size w w'))
             case atStart => exact ⟨(y579), (wrap64 ((y579.length : Int) - 1)), rs_, H', ⟨Nat.le_refl _⟩, ⟨rq_ HO581.out⟩, ⟨hb_⟩⟩
             case round =>
              clear H'
              try clear c1
              try clear c2
              try clear p2
              try clear c3
              try clear c5
              try clear p5
              try clear q5
              try clear hx5
              try clear p6
              try clear c14
              try clear c14b0
              try clear c15
              try clear c16
              try clear c17
              try clear c18
              try clear c18b0
              try clear c18b1
              try clear c26
              try clear c27
              try clear c27b0
              try clear c27b1
              try clear c29
              try clear c29b0
              try clear c30
              try clear c30b0
              try clear c31
              try clear hx567_0
              try clear hx567_1
              try clear hx567_2
              try clear hx568_0
              try clear hx568_1
              try clear hx568_2
              try clear hx577_0
              try clear hx577_1
              try clear hx577_2
              try clear hx578_0
              try clear hx578_1
              try clear hx578_2
              try clear p567
              try clear p568
              try clear p577
              try clear p578
              try clear q567
              try clear q568
              try clear q577
              try clear q578
              obtain ⟨x4_4, x12_4, rfl, HA, HK4, HO_4, HB⟩ := hrel; have hl4_4 := (Kd.R_reads' HO_4.out).1; rw [hl4_4] at HO_4
              (try simp only [hl4_4])
              cases gk with
              | zero => exact absurd HA.out (by simp [ebbtideref03_Moves.l3])
              | succ k4 =>
               have H := HA.out; clear HA; simp only [ebbtideref03_Moves.l3] at H
               by_cases c36 : x12_4 > 0
               ·rw [if_pos c36] at H
                have c36b0 := decide_eq_true c36; clear c36
                replace H := ifn_ H; obtain ⟨c37, H⟩ := H
                have c37b0 := decide_eq_true c37; clear c37
                replace H := ifn_ H; obtain ⟨c38, H⟩ := H
                have c38b0 := decide_eq_true c38
                (try (have c38b0r0 := c38b0; simp only [hl4_4] at c38b0r0))
                clear c38; obtain ⟨ji39, hji39⟩ : ∃ j_ : Int, (wrap64 (x12_4 - 1)) = j_ := ⟨_, rfl⟩
                replace H : (if 0 ≤ (ji39) then (if (ji39) < (x4_4.length : Int) then (if ((rd_T85 x4_4 x12_4).f1) < ((rd_T85 x4_4 (ji39)).f1) then (ebbtideref03_Moves.l3 k4 l0 ((x4_4.set (x12_4 : Int).toNat (⟨(rd_T85 x4_4 (ji39)).f0, (rd_T85 x4_4 (ji39)).f1, (rd_T85 x4_4 (ji39)).f2⟩ : S85)).set ((ji39) : Int).toNat (⟨(rd_T85 x4_4 x12_4).f0, (rd_T85 x4_4 x12_4).f1, (rd_T85 x4_4 x12_4).f2⟩ : S85)) x5_1 ji39) else (if ((rd_T85 x4_4 x12_4).f1) = ((rd_T85 x4_4 (ji39)).f1) then (if ((rd_T85 x4_4 x12_4).f0) < ((rd_T85 x4_4 (ji39)).f0) then (ebbtideref03_Moves.l3 k4 l0 ((x4_4.set (x12_4 : Int).toNat (⟨(rd_T85 x4_4 (ji39)).f0, (rd_T85 x4_4 (ji39)).f1, (rd_T85 x4_4 (ji39)).f2⟩ : S85)).set ((ji39) : Int).toNat (⟨(rd_T85 x4_4 x12_4).f0, (rd_T85 x4_4 x12_4).f1, (rd_T85 x4_4 x12_4).f2⟩ : S85)) x5_1 ji39) else (ebbtideref03_Moves.l0 k4 l0 x4_4 (wrap64 (x5_1 + 1)))) else (ebbtideref03_Moves.l0 k4 l0 x4_4 (wrap64 (x5_1 + 1))))) else (none)) else (none)) = some (r1, r2) := by first | (rw [hji39] at H; exact H) | (simp only [hji39] at H ⊢; exact H)
                have hji39w : (IntKind.i64.wrap (x12_4 - 1)) = ji39 := (i64_w _).trans hji39
                replace H := ifn_ H; obtain ⟨c40, H⟩ := H
                have c40b0 := decide_eq_true c40; clear c40
                replace H := ifn_ H; obtain ⟨c41, H⟩ := H
                have c41b0 := decide_eq_true c41
                (try (have c41b0r0 := c41b0; simp only [hl4_4] at c41b0r0))
                clear c41
                by_cases c42 : ((rd_T85 x4_4 x12_4).f1) < ((rd_T85 x4_4 (ji39)).f1)
                ·rw [if_pos c42] at H
                 have c42b0 := decide_eq_true c42; clear c42; obtain ⟨y586, hy_⟩ : ∃ y_ : List (S85), y_ = (x4_4.set (x12_4 : Int).toNat (⟨(rd_T85 x4_4 (ji39)).f0, (rd_T85 x4_4 (ji39)).f1, (rd_T85 x4_4 (ji39)).f2⟩ : S85)) := ⟨_, rfl⟩
                 replace H : (ebbtideref03_Moves.l3 k4 l0 (y586.set ((ji39) : Int).toNat (⟨(rd_T85 x4_4 x12_4).f0, (rd_T85 x4_4 x12_4).f1, (rd_T85 x4_4 x12_4).f2⟩ : S85)) x5_1 ji39) = some (r1, r2) := hyH_
                 have Ny586 := am_ hy_; clear hy_; obtain ⟨y587, hy_⟩ : ∃ y_ : List (S85), y_ = (y586.set ((ji39) : Int).toNat (⟨(rd_T85 x4_4 x12_4).f0, (rd_T85 x4_4 x12_4).f1, (rd_T85 x4_4 x12_4).f2⟩ : S85)) := ⟨_, rfl⟩
                 replace H : (ebbtideref03_Moves.l3 k4 l0 y587 x5_1 ji39) = some (r1, r2) := hyH_
                 have Ny587 := am_ hy_; clear hy_
                 as_aux_lemma =>
                  have H' := am_ H; clear H
                  try go_wp2
                  have p582 : 0 ≤ (x12_4 : Int) := of_decide_eq_true sm_; have q582 : x12_4 < (x4_4.length : Int) := of_decide_eq_true sm_; obtain ⟨ad582, e582, hx582_0, hx582_1, hx582_2⟩ := at_T85 (Kd.R_reads' HO_4.out).2.2 x12_4 p582 q582; cases e582; replace p582 := eq_true p582; replace q582 := eq_true q582; have p583 : 0 ≤ ((ji39) : Int) := of_decide_eq_true sm_; have q583 : (ji39) < (x4_4.length : Int) := of_decide_eq_true sm_; obtain ⟨ad583, e583, hx583_0, hx583_1, hx583_2⟩ := at_T85 (Kd.R_reads' HO_4.out).2.2 (ji39) p583 q583; obtain rfl : ad582 = ad583 := (by injection e583); replace p583 := eq_true p583; replace q583 := eq_true q583; go_quiet (fail); replace HO_4 := am_ (Kd.R_drewN HO_4.out nq); replace HB := am_ (pw_below_drewN HB.out nq); generalize wr.drewN nq = w45 at HO_4 HB ⊢
                  try go_wp2
                  replace HO_4 := am_ (Kd.R_drew HO_4.out); replace HB := am_ (below_drew1 HB.out); have p584 : 0 ≤ ((ji39) : Int) := of_decide_eq_true sm_; have q584 : (ji39) < (x4_4.length : Int) := of_decide_eq_true sm_; obtain ⟨ad584, e584, hx584_0, hx584_1, hx584_2⟩ := at_T85 (Kd.R_reads' HO_4.out).2.2 (ji39) p584 q584; obtain rfl : ad582 = ad584 := (by injection e584); replace p584 := eq_true p584; replace q584 := eq_true q584; have p585 : 0 ≤ (x12_4 : Int) := of_decide_eq_true sm_; have q585 : x12_4 < (x4_4.length : Int) := of_decide_eq_true sm_; obtain ⟨ad585, e585, hx585_0, hx585_1, hx585_2⟩ := at_T85 (Kd.R_reads' HO_4.out).2.2 x12_4 p585 q585; obtain rfl : ad582 = ad585 := (by injection e585); replace p585 := eq_true p585; replace q585 := eq_true q585; have p43 : 0 ≤ (x12_4 : Int) := of_decide_eq_true sm_; have q43 : (x12_4 : Int) < ((x4_4.length : Int) : Int) := of_decide_eq_true sm_; obtain ⟨go43, co43, eo43, gb43, gl43, cl43, HG43⟩ := Kd.R_form HO_4.out (by omega)
                  (first | cases eo43 | (injection eo43 with ea_ en_ ec_; (first | subst ea_ | (injection ea_ with ea_; subst ea_)); subst ec_; clear en_))
                  have GB43 := am_ gb43; have GG43 := am_ HG43; clear gb43 gl43 HG43
                  (first | simp only [add_plain] at hx582_0 | skip)
                  (first | simp only [add_plain] at hx582_1 | skip)
                  (first | simp only [add_plain] at hx582_2 | skip)
                  (first | simp only [add_plain] at hx583_0 | skip)
                  (first | simp only [add_plain] at hx583_1 | skip)
                  (first | simp only [add_plain] at hx583_2 | skip)
                  (first | simp only [add_plain] at hx584_0 | skip)
                  (first | simp only [add_plain] at hx584_1 | skip)
                  (first | simp only [add_plain] at hx584_2 | skip)
                  (first | simp only [add_plain] at hx585_0 | skip)
                  (first | simp only [add_plain] at hx585_1 | skip)
                  (first | simp only [add_plain] at hx585_2 | skip)
                  obtain ⟨ce43, hcl43, hM43, hcc43, hfr43⟩ := Kd.R_elem HO_4.out z85 (x12_4 : Int) p43 q43; obtain rfl := k85_openM hM43; have hx43_0 : World.cell? _ ⟨go43, (x12_4 : Int).toNat * 3, none⟩ = some (.int .i64 ((rd_T85 x4_4 x12_4).f0)) := hcc43 0 _ rfl; have hx43_1 : World.cell? _ ⟨go43, (x12_4 : Int).toNat * 3 + 1, none⟩ = some (.int .i64 ((rd_T85 x4_4 x12_4).f1)) := hcc43 1 _ rfl; have hx43_2 : World.cell? _ ⟨go43, (x12_4 : Int).toNat * 3 + 2, none⟩ = some (.int .i64 ((rd_T85 x4_4 x12_4).f2)) := hcc43 2 _ rfl; have hf43_0 : World.frozen? _ ⟨go43, (x12_4 : Int).toNat * 3, none⟩ = false := hfr43 0; have hf43_1 : World.frozen? _ ⟨go43, (x12_4 : Int).toNat * 3 + 1, none⟩ = false := hfr43 1; have hf43_2 : World.frozen? _ ⟨go43, (x12_4 : Int).toNat * 3 + 2, none⟩ = false := hfr43 2; clear hcl43 hcc43 hfr43 hM43; replace p43 := eq_true p43; replace q43 := eq_true q43; obtain ⟨ce47, hcl47, hM47, hcc47, hfr47⟩ := Kd.R_elem HO_4.out z85 (x12_4 : Int) (of_decide_eq_true sm_) (by have h_ : (x12_4 : Int) < ((x4_4.length : Int) : Int) := of_decide_eq_true sm_; first | exact h_ | (have e_ := (Kd.R_reads' HO_4.out).1; omega) | simpa using h_); obtain rfl := k85_openM hM47; have HP47 := (Kd.R_seg HO_4.out (x12_4 : Int) (of_decide_eq_true sm_) (by have h_ : (x12_4 : Int) < ((x4_4.length : Int) : Int) := of_decide_eq_true sm_; first | exact h_ | (have e_ := (Kd.R_reads' HO_4.out).1; omega) | simpa using h_) (seg := [.int .i64 ((rd_T85 x4_4 (ji39)).f0), .int .i64 ((rd_T85 x4_4 (ji39)).f1), .int .i64 ((rd_T85 x4_4 (ji39)).f2)]) (j := 0) hcl47 hcc47 (show 3 ≤ 3 from by decide) (x' := (⟨(rd_T85 x4_4 (ji39)).f0, (rd_T85 x4_4 (ji39)).f1, (rd_T85 x4_4 (ji39)).f2⟩ : S85)) (k85_mkM _ _ _ (⟨(rd_T85 x4_4 (ji39)).f0, (rd_T85 x4_4 (ji39)).f1, (rd_T85 x4_4 (ji39)).f2⟩ : S85) ) (fun _ hk => hk)).1; rw [← Ny586.out] at HP47; have HQ47 := am_ HP47; clear hcl47 hcc47 hfr47 hM47 HP47; have p44 : 0 ≤ ((ji39) : Int) := of_decide_eq_true sm_; have q44 : ((ji39) : Int) < ((x4_4.length : Int) : Int) := of_decide_eq_true sm_; obtain ⟨ce44, hcl44, hM44, hcc44, hfr44⟩ := Kd.R_elem HQ47.out z85 ((ji39) : Int) p44 q44; obtain rfl := k85_openM hM44; have hx44_0 : World.cell? _ ⟨go43, ((ji39) : Int).toNat * 3, none⟩ = some (.int .i64 ((rd_T85 y586 (ji39)).f0)) := hcc44 0 _ rfl; have hx44_1 : World.cell? _ ⟨go43, ((ji39) : Int).toNat * 3 + 1, none⟩ = some (.int .i64 ((rd_T85 y586 (ji39)).f1)) := hcc44 1 _ rfl; have hx44_2 : World.cell? _ ⟨go43, ((ji39) : Int).toNat * 3 + 2, none⟩ = some (.int .i64 ((rd_T85 y586 (ji39)).f2)) := hcc44 2 _ rfl; have hf44_0 : World.frozen? _ ⟨go43, ((ji39) : Int).toNat * 3, none⟩ = false := hfr44 0; have hf44_1 : World.frozen? _ ⟨go43, ((ji39) : Int).toNat * 3 + 1, none⟩ = false := hfr44 1; have hf44_2 : World.frozen? _ ⟨go43, ((ji39) : Int).toNat * 3 + 2, none⟩ = false := hfr44 2; clear hcl44 hcc44 hfr44 hM44; replace p44 := eq_true p44; replace q44 := eq_true q44; obtain ⟨ce48, hcl48, hM48, hcc48, hfr48⟩ := Kd.R_elem HQ47.out z85 ((ji39) : Int) (of_decide_eq_true sm_) (by have h_ : ((ji39) : Int) < ((x4_4.length : Int) : Int) := of_decide_eq_true sm_; first | exact h_ | (have e_ := (Kd.R_reads' HO_4.out).1; omega) | simpa using h_); obtain rfl := k85_openM hM48; have HP48 := (Kd.R_seg HQ47.out ((ji39) : Int) (of_decide_eq_true sm_) (by have h_ : ((ji39) : Int) < ((x4_4.length : Int) : Int) := of_decide_eq_true sm_; first | exact h_ | (have e_ := (Kd.R_reads' HO_4.out).1; omega) | simpa using h_) (seg := [.int .i64 ((rd_T85 x4_4 x12_4).f0), .int .i64 ((rd_T85 x4_4 x12_4).f1), .int .i64 ((rd_T85 x4_4 x12_4).f2)]) (j := 0) hcl48 hcc48 (show 3 ≤ 3 from by decide) (x' := (⟨(rd_T85 x4_4 x12_4).f0, (rd_T85 x4_4 x12_4).f1, (rd_T85 x4_4 x12_4).f2⟩ : S85)) (k85_mkM _ _ _ (⟨(rd_T85 x4_4 x12_4).f0, (rd_T85 x4_4 x12_4).f1, (rd_T85 x4_4 x12_4).f2⟩ : S85) ) (fun _ hk => hk)).1; rw [← Ny587.out] at HP48; have HQ48 := am_ HP48; clear hcl48 hcc48 hfr48 hM48 HP48; refine start_ (n := 18) (S := fun w' => w'.cell? ⟨go43, (((ji39)).toNat * 3), none⟩ = some (.int .i64 ((rd_T85 x4_4 (ji39)).f0)) ∧ w'.cell? ⟨go43, (((ji39)).toNat * 3) + 1, none⟩ = some (.int .i64 ((rd_T85 x4_4 (ji39)).f1)) ∧ w'.cell? ⟨go43, (((ji39)).toNat * 3) + 2, none⟩ = some (.int .i64 ((rd_T85 x4_4 (ji39)).f2)) ∧ w'.cell? ⟨go43, ((x12_4).toNat * 3), none⟩ = some (.int .i64 ((rd_T85 x4_4 x12_4).f0)) ∧ w'.cell? ⟨go43, ((x12_4).toNat * 3) + 1, none⟩ = some (.int .i64 ((rd_T85 x4_4 x12_4).f1)) ∧ w'.cell? ⟨go43, ((x12_4).toNat * 3) + 2, none⟩ = some (.int .i64 ((rd_T85 x4_4 x12_4).f2))) (ds := [15, 17]) #[Ff,Ff,Ff,Ff,Ff,Ff,Ff,Ff,Ff,Ff,Ff,Ff,Ff,Ff,Ff,Ff,Ff,Ff] (by kernel_rfl) rfl rfl ⟨hx584_0, hx584_1, hx584_2, hx585_0, hx585_1, hx585_2⟩ (fun hHeld => ?_); refine with_tabW ebbtideref03_Moves.tab25 ebbtideref03_Moves.bits25 (fun HT_ HW_ => ?_); generalize w45.drew = w46 at HO_4 HB GG43 HQ47 HQ48 hf43_0 hf43_1 hf43_2 hf44_0 hf44_1 hf44_2 hx43_0 hx43_1 hx43_2 hx44_0 hx44_1 hx44_2 hx582_0 hx582_1 hx582_2 hx583_0 hx583_1 hx583_2 hx584_0 hx584_1 hx584_2 hx585_0 hx585_1 hx585_2 hHeld ⊢; simp only [World.setCells, Nat.add_zero, show k85.sz = 3 from rfl, Nat.add_assoc, Nat.reduceAdd] at hf44_0 hf44_1 hf44_2 hx44_0 hx44_1 hx44_2; refine pw_ 0 165 ?_; refine pw_ 1 166 ?_; refine pw_ 2 167 ?_; refine pw_ 3 168 ?_; refine pw_ 4 169 ?_; refine pw_ 5 170 ?_; refine pw_ 6 171 ?_; refine pw_ 7 172 ?_; refine pw_ 8 173 ?_; refine pw_ 10 175 ?_; refine pw_ 11 176 ?_; refine pw_ 12 177 ?_; refine tk_ 9 174 ?_; refine tk_ 13 178 ?_; refine pw_ 14 179 ?_; refine last_ (i := 15) (N := none) #[Tt,Tt,Tt,Tt,Tt,Tt,Tt,Tt,Tt,Tt,Tt,Tt,Tt,Tt,Tt,Tt,Ff,Ff] rfl rfl (one_of HT_.out (by kernel_rfl)) (by decide) (fun K hK => ?_); refine skip_ (w1 := ?_) (by rfl) rfl ?_ ?_; rotate_left; (· go_simp; rfl); refine hK.out _ _ ?_; clear hK K; refine pw_ 16 180 ?_; refine last_ (i := 17) (N := none) #[Tt,Tt,Tt,Tt,Tt,Tt,Tt,Tt,Tt,Tt,Tt,Tt,Tt,Tt,Tt,Tt,Tt,Tt] rfl rfl (one_of HT_.out (by kernel_rfl)) (by decide) (fun K hK => ?_); refine skip_ (w1 := ?_) (by rfl) rfl ?_ ?_; rotate_left; (· go_simp; rfl); refine hK.out _ _ ?_; clear hK K; refine done_ (done_of HT_.out (by kernel_rfl)) ?_
                  try go_wp2
                  (try simp only [← hl4_4])
                  go_roundg k4
                  case measure => have := HK1.out; have := HK2.out; have := HK3.out; have := HK4.out; omega
                  case rel => exact ⟨(y587), (ji39), (by first | rfl | (simp; done) | (simp only [← hji39] <;> (first | rfl | simp)) | (simp [*]; done)), H', ⟨by have := HK1.out; have := HK2.out; have := HK3.out; have := HK4.out; omega⟩, ⟨by (try simp only [hl4_4]); refine rq_ ?_; exact HQ48.out⟩, ⟨hb_⟩⟩
                ·rw [if_neg c42] at H
                 have c42b0 := decide_eq_false c42; clear c42
                 by_cases c49 : ((rd_T85 x4_4 x12_4).f1) = ((rd_T85 x4_4 (ji39)).f1)
                 ·rw [if_pos c49] at H
                  obtain ⟨c49b0, c49b1⟩ := eqb_ c49; clear c49
                  by_cases c50 : ((rd_T85 x4_4 x12_4).f0) < ((rd_T85 x4_4 (ji39)).f0)
                  ·rw [if_pos c50] at H
                   have c50b0 := decide_eq_true c50; clear c50; obtain ⟨y594, hy_⟩ : ∃ y_ : List (S85), y_ = (x4_4.set (x12_4 : Int).toNat (⟨(rd_T85 x4_4 (ji39)).f0, (rd_T85 x4_4 (ji39)).f1, (rd_T85 x4_4 (ji39)).f2⟩ : S85)) := ⟨_, rfl⟩
                   replace H : (ebbtideref03_Moves.l3 k4 l0 (y594.set ((ji39) : Int).toNat (⟨(rd_T85 x4_4 x12_4).f0, (rd_T85 x4_4 x12_4).f1, (rd_T85 x4_4 x12_4).f2⟩ : S85)) x5_1 ji39) = some (r1, r2) := hyH_
                   have Ny594 := am_ hy_; clear hy_; obtain ⟨y595, hy_⟩ : ∃ y_ : List (S85), y_ = (y594.set ((ji39) : Int).toNat (⟨(rd_T85 x4_4 x12_4).f0, (rd_T85 x4_4 x12_4).f1, (rd_T85 x4_4 x12_4).f2⟩ : S85)) := ⟨_, rfl⟩
                   replace H : (ebbtideref03_Moves.l3 k4 l0 y595 x5_1 ji39) = some (r1, r2) := hyH_
                   have Ny595 := am_ hy_; clear hy_
                   as_aux_lemma =>
                    have H' := am_ H; clear H
                    try go_wp2
                    have p582 : 0 ≤ (x12_4 : Int) := of_decide_eq_true sm_; have q582 : x12_4 < (x4_4.length : Int) := of_decide_eq_true sm_; obtain ⟨ad582, e582, hx582_0, hx582_1, hx582_2⟩ := at_T85 (Kd.R_reads' HO_4.out).2.2 x12_4 p582 q582; cases e582; replace p582 := eq_true p582; replace q582 := eq_true q582; have p583 : 0 ≤ ((ji39) : Int) := of_decide_eq_true sm_; have q583 : (ji39) < (x4_4.length : Int) := of_decide_eq_true sm_; obtain ⟨ad583, e583, hx583_0, hx583_1, hx583_2⟩ := at_T85 (Kd.R_reads' HO_4.out).2.2 (ji39) p583 q583; obtain rfl : ad582 = ad583 := (by injection e583); replace p583 := eq_true p583; replace q583 := eq_true q583; have p588 : 0 ≤ (x12_4 : Int) := of_decide_eq_true sm_; have q588 : x12_4 < (x4_4.length : Int) := of_decide_eq_true sm_; obtain ⟨ad588, e588, hx588_0, hx588_1, hx588_2⟩ := at_T85 (Kd.R_reads' HO_4.out).2.2 x12_4 p588 q588; obtain rfl : ad582 = ad588 := (by injection e588); replace p588 := eq_true p588; replace q588 := eq_true q588; go_quiet (fail); replace HO_4 := am_ (Kd.R_drewN HO_4.out nq); replace HB := am_ (pw_below_drewN HB.out nq); generalize wr.drewN nq = w53 at HO_4 HB ⊢
                    try go_wp2
                    replace HO_4 := am_ (Kd.R_drew HO_4.out); replace HB := am_ (below_drew1 HB.out); have p592 : 0 ≤ ((ji39) : Int) := of_decide_eq_true sm_; have q592 : (ji39) < (x4_4.length : Int) := of_decide_eq_true sm_; obtain ⟨ad592, e592, hx592_0, hx592_1, hx592_2⟩ := at_T85 (Kd.R_reads' HO_4.out).2.2 (ji39) p592 q592; obtain rfl : ad582 = ad592 := (by injection e592); replace p592 := eq_true p592; replace q592 := eq_true q592; have p593 : 0 ≤ (x12_4 : Int) := of_decide_eq_true sm_; have q593 : x12_4 < (x4_4.length : Int) := of_decide_eq_true sm_; obtain ⟨ad593, e593, hx593_0, hx593_1, hx593_2⟩ := at_T85 (Kd.R_reads' HO_4.out).2.2 x12_4 p593 q593; obtain rfl : ad582 = ad593 := (by injection e593); replace p593 := eq_true p593; replace q593 := eq_true q593; have p51 : 0 ≤ (x12_4 : Int) := of_decide_eq_true sm_; have q51 : (x12_4 : Int) < ((x4_4.length : Int) : Int) := of_decide_eq_true sm_; obtain ⟨go51, co51, eo51, gb51, gl51, cl51, HG51⟩ := Kd.R_form HO_4.out (by omega)
                    (first | cases eo51 | (injection eo51 with ea_ en_ ec_; (first | subst ea_ | (injection ea_ with ea_; subst ea_)); subst ec_; clear en_))
                    have GB51 := am_ gb51; have GG51 := am_ HG51; clear gb51 gl51 HG51
                    (first | simp only [add_plain] at hx582_0 | skip)
                    (first | simp only [add_plain] at hx582_1 | skip)
                    (first | simp only [add_plain] at hx582_2 | skip)
                    (first | simp only [add_plain] at hx583_0 | skip)
                    (first | simp only [add_plain] at hx583_1 | skip)
                    (first | simp only [add_plain] at hx583_2 | skip)
                    (first | simp only [add_plain] at hx588_0 | skip)
                    (first | simp only [add_plain] at hx588_1 | skip)
                    (first | simp only [add_plain] at hx588_2 | skip)
                    (first | simp only [add_plain] at hx583_0 | skip)
                    (first | simp only [add_plain] at hx583_1 | skip)
                    (first | simp only [add_plain] at hx583_2 | skip)
                    (first | simp only [add_plain] at hx588_0 | skip)
                    (first | simp only [add_plain] at hx588_1 | skip)
                    (first | simp only [add_plain] at hx588_2 | skip)
                    (first | simp only [add_plain] at hx583_0 | skip)
                    (first | simp only [add_plain] at hx583_1 | skip)
                    (first | simp only [add_plain] at hx583_2 | skip)
                    (first | simp only [add_plain] at hx592_0 | skip)
                    (first | simp only [add_plain] at hx592_1 | skip)
                    (first | simp only [add_plain] at hx592_2 | skip)
                    (first | simp only [add_plain] at hx593_0 | skip)
                    (first | simp only [add_plain] at hx593_1 | skip)
                    (first | simp only [add_plain] at hx593_2 | skip)
                    obtain ⟨ce51, hcl51, hM51, hcc51, hfr51⟩ := Kd.R_elem HO_4.out z85 (x12_4 : Int) p51 q51; obtain rfl := k85_openM hM51; have hx51_0 : World.cell? _ ⟨go51, (x12_4 : Int).toNat * 3, none⟩ = some (.int .i64 ((rd_T85 x4_4 x12_4).f0)) := hcc51 0 _ rfl; have hx51_1 : World.cell? _ ⟨go51, (x12_4 : Int).toNat * 3 + 1, none⟩ = some (.int .i64 ((rd_T85 x4_4 x12_4).f1)) := hcc51 1 _ rfl; have hx51_2 : World.cell? _ ⟨go51, (x12_4 : Int).toNat * 3 + 2, none⟩ = some (.int .i64 ((rd_T85 x4_4 x12_4).f2)) := hcc51 2 _ rfl; have hf51_0 : World.frozen? _ ⟨go51, (x12_4 : Int).toNat * 3, none⟩ = false := hfr51 0; have hf51_1 : World.frozen? _ ⟨go51, (x12_4 : Int).toNat * 3 + 1, none⟩ = false := hfr51 1; have hf51_2 : World.frozen? _ ⟨go51, (x12_4 : Int).toNat * 3 + 2, none⟩ = false := hfr51 2; clear hcl51 hcc51 hfr51 hM51; replace p51 := eq_true p51; replace q51 := eq_true q51; obtain ⟨ce55, hcl55, hM55, hcc55, hfr55⟩ := Kd.R_elem HO_4.out z85 (x12_4 : Int) (of_decide_eq_true sm_) (by have h_ : (x12_4 : Int) < ((x4_4.length : Int) : Int) := of_decide_eq_true sm_; first | exact h_ | (have e_ := (Kd.R_reads' HO_4.out).1; omega) | simpa using h_); obtain rfl := k85_openM hM55; have HP55 := (Kd.R_seg HO_4.out (x12_4 : Int) (of_decide_eq_true sm_) (by have h_ : (x12_4 : Int) < ((x4_4.length : Int) : Int) := of_decide_eq_true sm_; first | exact h_ | (have e_ := (Kd.R_reads' HO_4.out).1; omega) | simpa using h_) (seg := [.int .i64 ((rd_T85 x4_4 (ji39)).f0), .int .i64 ((rd_T85 x4_4 (ji39)).f1), .int .i64 ((rd_T85 x4_4 (ji39)).f2)]) (j := 0) hcl55 hcc55 (show 3 ≤ 3 from by decide) (x' := (⟨(rd_T85 x4_4 (ji39)).f0, (rd_T85 x4_4 (ji39)).f1, (rd_T85 x4_4 (ji39)).f2⟩ : S85)) (k85_mkM _ _ _ (⟨(rd_T85 x4_4 (ji39)).f0, (rd_T85 x4_4 (ji39)).f1, (rd_T85 x4_4 (ji39)).f2⟩ : S85) ) (fun _ hk => hk)).1; rw [← Ny594.out] at HP55; have HQ55 := am_ HP55; clear hcl55 hcc55 hfr55 hM55 HP55; have p52 : 0 ≤ ((ji39) : Int) := of_decide_eq_true sm_; have q52 : ((ji39) : Int) < ((x4_4.length : Int) : Int) := of_decide_eq_true sm_; obtain ⟨ce52, hcl52, hM52, hcc52, hfr52⟩ := Kd.R_elem HQ55.out z85 ((ji39) : Int) p52 q52; obtain rfl := k85_openM hM52; have hx52_0 : World.cell? _ ⟨go51, ((ji39) : Int).toNat * 3, none⟩ = some (.int .i64 ((rd_T85 y594 (ji39)).f0)) := hcc52 0 _ rfl; have hx52_1 : World.cell? _ ⟨go51, ((ji39) : Int).toNat * 3 + 1, none⟩ = some (.int .i64 ((rd_T85 y594 (ji39)).f1)) := hcc52 1 _ rfl; have hx52_2 : World.cell? _ ⟨go51, ((ji39) : Int).toNat * 3 + 2, none⟩ = some (.int .i64 ((rd_T85 y594 (ji39)).f2)) := hcc52 2 _ rfl; have hf52_0 : World.frozen? _ ⟨go51, ((ji39) : Int).toNat * 3, none⟩ = false := hfr52 0; have hf52_1 : World.frozen? _ ⟨go51, ((ji39) : Int).toNat * 3 + 1, none⟩ = false := hfr52 1; have hf52_2 : World.frozen? _ ⟨go51, ((ji39) : Int).toNat * 3 + 2, none⟩ = false := hfr52 2; clear hcl52 hcc52 hfr52 hM52; replace p52 := eq_true p52; replace q52 := eq_true q52; obtain ⟨ce56, hcl56, hM56, hcc56, hfr56⟩ := Kd.R_elem HQ55.out z85 ((ji39) : Int) (of_decide_eq_true sm_) (by have h_ : ((ji39) : Int) < ((x4_4.length : Int) : Int) := of_decide_eq_true sm_; first | exact h_ | (have e_ := (Kd.R_reads' HO_4.out).1; omega) | simpa using h_); obtain rfl := k85_openM hM56; have HP56 := (Kd.R_seg HQ55.out ((ji39) : Int) (of_decide_eq_true sm_) (by have h_ : ((ji39) : Int) < ((x4_4.length : Int) : Int) := of_decide_eq_true sm_; first | exact h_ | (have e_ := (Kd.R_reads' HO_4.out).1; omega) | simpa using h_) (seg := [.int .i64 ((rd_T85 x4_4 x12_4).f0), .int .i64 ((rd_T85 x4_4 x12_4).f1), .int .i64 ((rd_T85 x4_4 x12_4).f2)]) (j := 0) hcl56 hcc56 (show 3 ≤ 3 from by decide) (x' := (⟨(rd_T85 x4_4 x12_4).f0, (rd_T85 x4_4 x12_4).f1, (rd_T85 x4_4 x12_4).f2⟩ : S85)) (k85_mkM _ _ _ (⟨(rd_T85 x4_4 x12_4).f0, (rd_T85 x4_4 x12_4).f1, (rd_T85 x4_4 x12_4).f2⟩ : S85) ) (fun _ hk => hk)).1; rw [← Ny595.out] at HP56; have HQ56 := am_ HP56; clear hcl56 hcc56 hfr56 hM56 HP56; refine start_ (n := 18) (S := fun w' => w'.cell? ⟨go51, (((ji39)).toNat * 3), none⟩ = some (.int .i64 ((rd_T85 x4_4 (ji39)).f0)) ∧ w'.cell? ⟨go51, (((ji39)).toNat * 3) + 1, none⟩ = some (.int .i64 ((rd_T85 x4_4 (ji39)).f1)) ∧ w'.cell? ⟨go51, (((ji39)).toNat * 3) + 2, none⟩ = some (.int .i64 ((rd_T85 x4_4 (ji39)).f2)) ∧ w'.cell? ⟨go51, ((x12_4).toNat * 3), none⟩ = some (.int .i64 ((rd_T85 x4_4 x12_4).f0)) ∧ w'.cell? ⟨go51, ((x12_4).toNat * 3) + 1, none⟩ = some (.int .i64 ((rd_T85 x4_4 x12_4).f1)) ∧ w'.cell? ⟨go51, ((x12_4).toNat * 3) + 2, none⟩ = some (.int .i64 ((rd_T85 x4_4 x12_4).f2))) (ds := [15, 17]) #[Ff,Ff,Ff,Ff,Ff,Ff,Ff,Ff,Ff,Ff,Ff,Ff,Ff,Ff,Ff,Ff,Ff,Ff] (by kernel_rfl) rfl rfl ⟨hx592_0, hx592_1, hx592_2, hx593_0, hx593_1, hx593_2⟩ (fun hHeld => ?_); refine with_tabW ebbtideref03_Moves.tab25 ebbtideref03_Moves.bits25 (fun HT_ HW_ => ?_); generalize w53.drew = w54 at HO_4 HB GG51 HQ55 HQ56 hf51_0 hf51_1 hf51_2 hf52_0 hf52_1 hf52_2 hx51_0 hx51_1 hx51_2 hx52_0 hx52_1 hx52_2 hx582_0 hx582_1 hx582_2 hx583_0 hx583_1 hx583_2 hx588_0 hx588_1 hx588_2 hx583_0 hx583_1 hx583_2 hx588_0 hx588_1 hx588_2 hx583_0 hx583_1 hx583_2 hx592_0 hx592_1 hx592_2 hx593_0 hx593_1 hx593_2 hHeld ⊢; simp only [World.setCells, Nat.add_zero, show k85.sz = 3 from rfl, Nat.add_assoc, Nat.reduceAdd] at hf52_0 hf52_1 hf52_2 hx52_0 hx52_1 hx52_2; refine pw_ 0 165 ?_; refine pw_ 1 166 ?_; refine pw_ 2 167 ?_; refine pw_ 3 168 ?_; refine pw_ 4 169 ?_; refine pw_ 5 170 ?_; refine pw_ 6 171 ?_; refine pw_ 7 172 ?_; refine pw_ 8 173 ?_; refine pw_ 10 175 ?_; refine pw_ 11 176 ?_; refine pw_ 12 177 ?_; refine tk_ 9 174 ?_; refine tk_ 13 178 ?_; refine pw_ 14 179 ?_; refine last_ (i := 15) (N := none) #[Tt,Tt,Tt,Tt,Tt,Tt,Tt,Tt,Tt,Tt,Tt,Tt,Tt,Tt,Tt,Tt,Ff,Ff] rfl rfl (one_of HT_.out (by kernel_rfl)) (by decide) (fun K hK => ?_); refine skip_ (w1 := ?_) (by rfl) rfl ?_ ?_; rotate_left; (· go_simp; rfl); refine hK.out _ _ ?_; clear hK K; refine pw_ 16 180 ?_; refine last_ (i := 17) (N := none) #[Tt,Tt,Tt,Tt,Tt,Tt,Tt,Tt,Tt,Tt,Tt,Tt,Tt,Tt,Tt,Tt,Tt,Tt] rfl rfl (one_of HT_.out (by kernel_rfl)) (by decide) (fun K hK => ?_); refine skip_ (w1 := ?_) (by rfl) rfl ?_ ?_; rotate_left; (· go_simp; rfl); refine hK.out _ _ ?_; clear hK K; refine done_ (done_of HT_.out (by kernel_rfl)) ?_
                    try go_wp2
                    (try simp only [← hl4_4])
                    go_roundg k4
                    case measure => have := HK1.out; have := HK2.out; have := HK3.out; have := HK4.out; omega
                    case rel => exact ⟨(y595), (ji39), (by first | rfl | (simp; done) | (simp only [← hji39] <;> (first | rfl | simp)) | (simp [*]; done)), H', ⟨by have := HK1.out; have := HK2.out; have := HK3.out; have := HK4.out; omega⟩, ⟨by (try simp only [hl4_4]); refine rq_ ?_; exact HQ56.out⟩, ⟨hb_⟩⟩
                  ·rw [if_neg c50] at H
                   have c50b0 := decide_eq_false c50; clear c50
                   as_aux_lemma =>
                    have H' := am_ H; clear H
                    try go_wp2
                    have p582 : 0 ≤ (x12_4 : Int) := of_decide_eq_true sm_; have q582 : x12_4 < (x4_4.length : Int) := of_decide_eq_true sm_; obtain ⟨ad582, e582, hx582_0, hx582_1, hx582_2⟩ := at_T85 (Kd.R_reads' HO_4.out).2.2 x12_4 p582 q582; cases e582; replace p582 := eq_true p582; replace q582 := eq_true q582; have p583 : 0 ≤ ((ji39) : Int) := of_decide_eq_true sm_; have q583 : (ji39) < (x4_4.length : Int) := of_decide_eq_true sm_; obtain ⟨ad583, e583, hx583_0, hx583_1, hx583_2⟩ := at_T85 (Kd.R_reads' HO_4.out).2.2 (ji39) p583 q583; obtain rfl : ad582 = ad583 := (by injection e583); replace p583 := eq_true p583; replace q583 := eq_true q583; have p588 : 0 ≤ (x12_4 : Int) := of_decide_eq_true sm_; have q588 : x12_4 < (x4_4.length : Int) := of_decide_eq_true sm_; obtain ⟨ad588, e588, hx588_0, hx588_1, hx588_2⟩ := at_T85 (Kd.R_reads' HO_4.out).2.2 x12_4 p588 q588; obtain rfl : ad582 = ad588 := (by injection e588); replace p588 := eq_true p588; replace q588 := eq_true q588; go_quiet (fail); replace HO_4 := am_ (Kd.R_drewN HO_4.out nq); replace HB := am_ (pw_below_drewN HB.out nq); generalize wr.drewN nq = w57 at HO_4 HB ⊢
                    try go_wp2
                    (try simp only [← hl4_4])
                    go_roundg k4
                    case measure => have := HK1.out; have := HK2.out; have := HK3.out; have := HK4.out; omega
                    case rel => exact ⟨(x4_4), (wrap64 (x5_1 + 1)), rs_, H', ⟨by have := HK1.out; have := HK2.out; have := HK3.out; have := HK4.out; omega⟩, ⟨by (try simp only [hl4_4]); refine rq_ ?_; exact HO_4.out⟩, ⟨hb_⟩⟩
                 ·rw [if_neg c49] at H
                  obtain ⟨c49b0, c49b1⟩ := neb_ c49
                  as_aux_lemma =>
                   have H' := am_ H; clear H
                   try go_wp2
                   have p582 : 0 ≤ (x12_4 : Int) := of_decide_eq_true sm_; have q582 : x12_4 < (x4_4.length : Int) := of_decide_eq_true sm_; obtain ⟨ad582, e582, hx582_0, hx582_1, hx582_2⟩ := at_T85 (Kd.R_reads' HO_4.out).2.2 x12_4 p582 q582; cases e582; replace p582 := eq_true p582; replace q582 := eq_true q582; have p583 : 0 ≤ ((ji39) : Int) := of_decide_eq_true sm_; have q583 : (ji39) < (x4_4.length : Int) := of_decide_eq_true sm_; obtain ⟨ad583, e583, hx583_0, hx583_1, hx583_2⟩ := at_T85 (Kd.R_reads' HO_4.out).2.2 (ji39) p583 q583; obtain rfl : ad582 = ad583 := (by injection e583); replace p583 := eq_true p583; replace q583 := eq_true q583; have p588 : 0 ≤ (x12_4 : Int) := of_decide_eq_true sm_; have q588 : x12_4 < (x4_4.length : Int) := of_decide_eq_true sm_; obtain ⟨ad588, e588, hx588_0, hx588_1, hx588_2⟩ := at_T85 (Kd.R_reads' HO_4.out).2.2 x12_4 p588 q588; obtain rfl : ad582 = ad588 := (by injection e588); replace p588 := eq_true p588; replace q588 := eq_true q588; go_quiet (fail); replace HO_4 := am_ (Kd.R_drewN HO_4.out nq); replace HB := am_ (pw_below_drewN HB.out nq); generalize wr.drewN nq = w58 at HO_4 HB ⊢
                   try go_wp2
                   (try simp only [← hl4_4])
                   go_roundg k4
                   case measure => have := HK1.out; have := HK2.out; have := HK3.out; have := HK4.out; omega
                   case rel => exact ⟨(x4_4), (wrap64 (x5_1 + 1)), rs_, H', ⟨by have := HK1.out; have := HK2.out; have := HK3.out; have := HK4.out; omega⟩, ⟨by (try simp only [hl4_4]); refine rq_ ?_; exact HO_4.out⟩, ⟨hb_⟩⟩
               ·rw [if_neg c36] at H
                have c36b0 := decide_eq_false c36; clear c36
                as_aux_lemma =>
                 have H' := am_ H; clear H
                 try go_wp2
                 go_quiet (fail); replace HO_4 := am_ (Kd.R_drewN HO_4.out nq); replace HB := am_ (pw_below_drewN HB.out nq); generalize wr.drewN nq = w59 at HO_4 HB ⊢
                 try go_wp2
                 (try simp only [← hl4_4])
                 go_roundg k4
                 case measure => have := HK1.out; have := HK2.out; have := HK3.out; have := HK4.out; omega
                 case rel => exact ⟨(x4_4), (wrap64 (x5_1 + 1)), rs_, H', ⟨by have := HK1.out; have := HK2.out; have := HK3.out; have := HK4.out; omega⟩, ⟨by (try simp only [hl4_4]); refine rq_ ?_; exact HO_4.out⟩, ⟨hb_⟩⟩
           ·replace c26 := Bool.eq_false_iff.mpr c26
            subst c26
            have H1 : (some (([] : List (S85)), 10)) = some (r1, r2) := by rw [if_neg (show ¬ (false = true) by decide)] at H; exact H
            clear H; have H := H1; clear H1
            as_aux_lemma =>
             simp only [Option.some.injEq, Prod.mk.injEq] at H; obtain ⟨rfl, rfl⟩ := H; obtain ⟨Ao60, co60, eo60⟩ := Kd.R_slice HO_8.out; subst eo60
             go_wp2_with (first | ((with_reducible refine gate_callee (f := 53) rfl ?_); refine goesL_ (some 94) rfl rfl Try.func53 (by kernel_rfl) rfl #[.slice Ao60 x8_3.length co60] rfl mt_ ?_; (with_reducible refine (ebbtideref01_Sum.calls k3 _ _ x8_3 t575 false _ ?side1 ?side2 A25.out).mono ?_); (case side1 => repeat (first | exact (Kd.R_reads' HO_8.out).2.2 | (with_reducible refine Kd.C_alloc ?_ _) | (with_reducible refine Kd.C_drewN ?_ _) | (with_reducible refine Kd.C_drew ?_))); (case side2 => exact (Kd.R_reads' HO_8.out).2.1); rintro e w' ⟨rfl, ⟨nd, rfl⟩⟩; refine ⟨_, rfl, ?_⟩))
             go_ret2
             exact ⟨_, er_, ni_, hb_⟩
       ·replace c13 := Bool.eq_false_iff.mpr c13
        subst c13
        have H1 : (ebbtideref03_Moves.l0 k2 l0 x4_1 (wrap64 (x5_1 + 1))) = some (r1, r2) := by rw [if_neg (show ¬ (false = true) by decide)] at H; exact H
        clear H; have H := H1; clear H1
        as_aux_lemma =>
         have H' := am_ H; clear H
         go_wp2
         go_roundg k2
         case measure => have := HK1.out; have := HK2.out; omega
         case rel => exact ⟨(x4_1), (wrap64 (x5_1 + 1)), rs_, H', ⟨by have := HK1.out; have := HK2.out; omega⟩, ⟨rq_ HO_4.out⟩, ⟨hb_⟩⟩
   ·rw [if_neg c2] at H
    have c2b0 := decide_eq_false c2; clear c2
    as_aux_lemma =>
     simp only [Option.some.injEq, Prod.mk.injEq] at H; obtain ⟨rfl, rfl⟩ := H
     go_wp2
     go_ret2
     exact ⟨_, er_, by refine rq_ ?_; exact HO_4.out, hb_⟩
end Go.Proofs.Ytfhkkbpkajfdlaa.Q
end
