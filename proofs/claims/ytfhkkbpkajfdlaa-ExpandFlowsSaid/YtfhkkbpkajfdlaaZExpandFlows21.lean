/- A part of the proof: words, contracts, plain lemmas. Conditions: none. -/
import Derived.Test.YtfhkkbpkajfdlaaZExpandFlows4
import Derived.Test.YtfhkkbpkajfdlaaZExpandFlows5
import Derived.Test.YtfhkkbpkajfdlaaZExpandFlows19
import Derived.Test.YtfhkkbpkajfdlaaZExpandFlows20
section
namespace Go.Proofs.Ytfhkkbpkajfdlaa.Q
open Go.RowKit Go.Proofs.YtfhkkbpkajfdlaaW.PrintWords Go.Proofs.YtfhkkbpkajfdlaaW.PrintLast Go.Proofs.YtfhkkbpkajfdlaaW.PrintMore
set_option linter.unusedVariables false
set_option linter.unusedSimpArgs false
def plan_Stocks.f (k : Nat) (a0_0 : Int) (a0_1 : Bool) (l0_2 : List (S54)) (a1 : Int) (a2 : Int) (a3 : Int) (l4 : List (S85)) : Option ((List (List Int)) × Int) := (plan_merged.f k a0_0 a0_1 l0_2 a1 a2 a3 l4).bind fun bt199 => (if bt199.2 = 0 then ((plan_stocks.f k a0_0 a0_1 l0_2 a3 bt199.1).bind fun t203 => (some (t203, 0))) else (some (([] : List (List Int)), bt199.2)))
set_option maxHeartbeats 8000000 in
set_option maxRecDepth 100000 in
theorem plan_Stocks.calls (k : Nat) (a0_0 : Int) (a0_1 : Bool) (A0_2 : Option Addr) (c0_2 : Nat) (l0_2 : List (S54)) (a1 : Int) (a2 : Int) (a3 : Int) (A4 : Option Addr) (c4 : Nat) (l4 : List (S85)) (r1 : List (List Int)) (r2 : Int) (w : World) (hr0_2 : Kd.C k54 w A0_2 l0_2.length l0_2) (hc0_2 : l0_2.length ≤ c0_2) (hr4 : Kd.C k85 w A4 l4.length l4) (hc4 : l4.length ≤ c4) (h : plan_Stocks.f k a0_0 a0_1 l0_2 a1 a2 a3 l4 = some (r1, r2)) :
  Calls Try.prog 49 #[.agg #[.int .i64 a0_0, .bool a0_1, .slice A0_2 l0_2.length c0_2], .int .i64 a1, .int .i64 a2, .int .i64 a3, .slice A4 l4.length c4] w fun e w' => ∃ v0_ : Value, e = .returned (.tuple #[v0_, .int .i64 r2]) ∧ Kd.S (Kd.slice 3 (Kd.int .i64)) 42 w' w.heap.size (fun _ => True) v0_ r1 ∧ Below w.heap.size w w' := by
 have hu24 := Try.underlying24; have HR0_2 := am_ hr0_2; have HC0_2 := am_ hc0_2; clear hr0_2 hc0_2; have HR4 := am_ hr4; have HC4 := am_ hc4; clear hr4 hc4; have HB := am_ (Below.refl w.heap.size w); have H : ((plan_merged.f k a0_0 a0_1 l0_2 a1 a2 a3 l4).bind fun bt199 => (if bt199.2 = 0 then ((plan_stocks.f k a0_0 a0_1 l0_2 a3 bt199.1).bind fun t203 => (some (t203, 0))) else (some (([] : List (List Int)), bt199.2)))) = some (r1, r2) := h; clear h; replace H := Option.bind_eq_some_iff.mp H; obtain ⟨⟨t199, t202⟩, A60, H⟩ := H; replace H : (if t202 = 0 then ((plan_stocks.f k a0_0 a0_1 l0_2 a3 t199).bind fun t203 => (some (t203, 0))) else (some (([] : List (List Int)), t202))) = some (r1, r2) := H; have A6 := am_ A60; clear A60
 by_cases c7 : t202 = 0
 ·rw [if_pos c7] at H
  obtain ⟨c7b0, c7b1⟩ := eqb_ c7; clear c7; replace H := Option.bind_eq_some_iff.mp H; obtain ⟨t203, A80, H⟩ := H; replace H : (some (t203, 0)) = some (r1, r2) := H; have A8 := am_ A80; clear A80; simp only [Option.some.injEq, Prod.mk.injEq] at H; obtain ⟨rfl, rfl⟩ := H
  go_enter Try.func49, Try.ntmps49
  go_wp2_with (first | ((with_reducible refine gate_dst (N := 5) rfl ?_); refine bx_ 5 #[.int .i64 a0_0, .bool a0_1, .slice A0_2 l0_2.length c0_2] 24 ?_; intro gb198 hg w9 BK198 hb; have GE198 := ge_ (w := w) hg; replace HB := hst_ hb; clear hb hg; obtain ⟨hcz10_0, hcz10_1, hcz10_2, hfz10_0, hfz10_1, hfz10_2⟩ := cf3_ BK198.out) | ((with_reducible refine gate_callee (f := 72) rfl ?_); refine cl_ 20 Try.func72 (plan_merged.calls k a0_0 a0_1 _ _ l0_2 a1 a2 a3 _ _ l4 t199 t202 _ (cb_ HR0_2.out) HC0_2.out (cb_ HR4.out) HC4.out A6.out) ?_; rintro e w11 ⟨v200, rfl, ho0, hb⟩; refine ⟨_, rfl, ?_⟩; have HO201 := am_ (Kd.R_lower ho0 (below_size hb_)); replace BK198 := am_ (bb_ BK198.out hb); replace HB := hst_ hb; (try clear hb); (try clear hb2); (try clear hk); (try clear hi); (try clear ho0); obtain ⟨hcz12_0, hcz12_1, hcz12_2, hfz12_0, hfz12_1, hfz12_2⟩ := cf3_ BK198.out; obtain ⟨Ao13, co13, eo13⟩ := Kd.R_slice HO201.out; subst eo13) | ((with_reducible refine gate_callee (f := 73) rfl ?_); refine goesL_ (some 29) rfl rfl Try.func73 (by kernel_rfl) rfl #[.agg #[.int .i64 a0_0, .bool a0_1, .slice A0_2 l0_2.length c0_2], .int .i64 a3, .slice Ao13 t199.length co13] rfl mt_ ?_; (with_reducible refine (plan_stocks.calls k a0_0 a0_1 _ _ l0_2 a3 _ _ t199 t203 _ ?side1 ?side2 ?side3 ?side4 A8.out).mono ?_); (case side1 => exact cb_ HR0_2.out); (case side2 => exact HC0_2.out); (case side3 => repeat (first | exact (Kd.R_reads' HO201.out).2.2 | (with_reducible refine Kd.C_alloc ?_ _) | (with_reducible refine Kd.C_drewN ?_ _) | (with_reducible refine Kd.C_drew ?_))); (case side4 => exact (Kd.R_reads' HO201.out).2.1); rintro e w14 ⟨v204, rfl, ho0, hb⟩; refine ⟨_, rfl, ?_⟩; replace HO201 := am_ (Kd.R_below (rq_ HO201.out) hb); have HO205 := am_ (Kd.S_lower ho0 (below_size hb_)); replace BK198 := am_ (bb_ BK198.out hb); replace HB := hst_ hb; (try clear hb); (try clear hb2); (try clear hk); (try clear hi); (try clear ho0)))
  go_ret2
  exact ⟨_, er_, by refine sq_ ?_; exact HO205.out, hb_⟩
 ·rw [if_neg c7] at H
  obtain ⟨c7b0, c7b1⟩ := neb_ c7; simp only [Option.some.injEq, Prod.mk.injEq] at H; obtain ⟨rfl, rfl⟩ := H
  go_enter Try.func49, Try.ntmps49
  go_wp2_with (first | ((with_reducible refine gate_dst (N := 5) rfl ?_); refine bx_ 5 #[.int .i64 a0_0, .bool a0_1, .slice A0_2 l0_2.length c0_2] 24 ?_; intro gb198 hg w15 BK198 hb; have GE198 := ge_ (w := w) hg; replace HB := hst_ hb; clear hb hg; obtain ⟨hcz16_0, hcz16_1, hcz16_2, hfz16_0, hfz16_1, hfz16_2⟩ := cf3_ BK198.out) | ((with_reducible refine gate_callee (f := 72) rfl ?_); refine cl_ 20 Try.func72 (plan_merged.calls k a0_0 a0_1 _ _ l0_2 a1 a2 a3 _ _ l4 t199 t202 _ (cb_ HR0_2.out) HC0_2.out (cb_ HR4.out) HC4.out A6.out) ?_; rintro e w17 ⟨v200, rfl, ho0, hb⟩; refine ⟨_, rfl, ?_⟩; have HO201 := am_ (Kd.R_lower ho0 (below_size hb_)); replace BK198 := am_ (bb_ BK198.out hb); replace HB := hst_ hb; (try clear hb); (try clear hb2); (try clear hk); (try clear hi); (try clear ho0)))
  go_ret2
  exact ⟨_, er_, by first | exact Kd.S_nil _ _ _ _ _ | exact Kd.N_nil _ _ _ _ _ | exact Kd.V_nil _ _ _ _ _ | exact Kd.Q_nil _ _ _ _ _ | exact Kd.R_nil _ _ _ _ _, hb_⟩
mutual
def plan_ordinary.l0 : Nat → List (List Int) → Int → Int → Bool → List (List Int) → Int → Int → Option (Bool)
 | 0, _, _, _, _, _, _, _ => none
 | k + 1, x0, x1, x2, x3, x13, x14, x15 => if x15 < x14 then (if 0 ≤ x15 then (if x15 < (x13.length : Int) then (plan_ordinary.l1 k x0 x1 x2 x3 x15 x13 x14 x15 (rd_L3 x13 x15) ((rd_L3 x13 x15).length : Int) 0) else (none)) else (none)) else (some true)
def plan_ordinary.l1 : Nat → List (List Int) → Int → Int → Bool → Int → List (List Int) → Int → Int → List Int → Int → Int → Option (Bool)
 | 0, _, _, _, _, _, _, _, _, _, _, _ => none
 | k + 1, x0, x1, x2, x3, x9, x13, x14, x15, x20, x21, x22 => if x22 < x21 then (if 0 ≤ x22 then (if x22 < (x20.length : Int) then (if x22 = x1 then (plan_ordinary.l1 k x0 x1 x2 x3 x9 x13 x14 x15 x20 x21 (wrap64 (x22 + 1))) else (if x22 = x2 then (plan_ordinary.l1 k x0 x1 x2 x3 x9 x13 x14 x15 x20 x21 (wrap64 (x22 + 1))) else (if (rd x20 x22) < 0 then (some false) else (if (rd x20 x22) > 0 then (if x3 = true then (if x9 = (wrap64 ((x0.length : Int) - 1)) then (some false) else (plan_ordinary.l1 k x0 x1 x2 x3 x9 x13 x14 x15 x20 x21 (wrap64 (x22 + 1)))) else (some false)) else (plan_ordinary.l1 k x0 x1 x2 x3 x9 x13 x14 x15 x20 x21 (wrap64 (x22 + 1))))))) else (none)) else (none)) else (plan_ordinary.l0 k x0 x1 x2 x3 x13 x14 (wrap64 (x15 + 1)))
end
def plan_ordinary.f (k : Nat) (l0 : List (List Int)) (a1 : Int) (a2 : Int) (a3 : Bool) : Option (Bool) := plan_ordinary.l0 k l0 a1 a2 a3 l0 (l0.length : Int) 0
set_option maxHeartbeats 8000000 in
set_option maxRecDepth 100000 in
theorem plan_ordinary.calls (k : Nat) (A0 : Option Addr) (c0 : Nat) (l0 : List (List Int)) (a1 : Int) (a2 : Int) (a3 : Bool) (r : Bool) (w : World) (hr0 : Kd.C (Kd.slice 3 (Kd.int .i64)) w A0 l0.length l0) (hc0 : l0.length ≤ c0) (h : plan_ordinary.f k l0 a1 a2 a3 = some r) :
  Calls Try.prog 86 #[.slice A0 l0.length c0, .int .i64 a1, .int .i64 a2, .bool a3] w fun e w' => e = .returned (.bool r) ∧ Drawn0 w w' := by
 have HR0 := am_ hr0; have HC0 := am_ hc0; clear hr0 hc0; have H : (plan_ordinary.l0 k l0 a1 a2 a3 l0 (l0.length : Int) 0) = some r := h; clear h; have H' := am_ H; clear H
 go_enter Try.func86, Try.ntmps86
 go_wp2
 go_loopg [15] k (fun kq v15 w' => ∃ (x15_1 : Int), v15 = .int .i64 x15_1 ∧ Aside0 (plan_ordinary.l0 kq l0 a1 a2 a3 l0 (l0.length : Int) x15_1 = some r) ∧ Aside0 (kq ≤ k) ∧ Drawn0 w w')
 case atStart => exact ⟨(0), rs_, H', ⟨Nat.le_refl _⟩, by repeat (first | exact Drawn0.refl _ | apply Drawn0.step)⟩
 case round =>
  clear H'
  try clear p2
  obtain ⟨x15_1, rfl, HA, HK1, ⟨m1, rfl⟩⟩ := hrel
  cases gk with
  | zero => exact absurd HA.out (by simp [plan_ordinary.l0])
  | succ k1 =>
   have H := HA.out; clear HA; simp only [plan_ordinary.l0] at H
   by_cases c5 : x15_1 < (l0.length : Int)
   ·rw [if_pos c5] at H
    have c5b0 := decide_eq_true c5; clear c5
    replace H := ifn_ H; obtain ⟨c6, H⟩ := H
    have c6b0 := decide_eq_true c6; clear c6
    replace H := ifn_ H; obtain ⟨c7, H⟩ := H
    have c7b0 := decide_eq_true c7; clear c7; have H' := am_ H; clear H; have p206 : 0 ≤ (x15_1 : Int) := of_decide_eq_true sm_; have q206 : x15_1 < (l0.length : Int) := of_decide_eq_true sm_; obtain ⟨ad206, A206_0, c206_0, e206, hx206_0, hl206_0, hi206_0⟩ := at_L3 HR0.out x15_1 p206 q206; cases e206; have HR206_0 := am_ hi206_0; have HC206_0 := am_ hl206_0; clear hi206_0 hl206_0; replace p206 := eq_true p206; replace q206 := eq_true q206
    go_wp2
    go_loopg [22] k1 (fun kq v22 w' => ∃ (x22_2 : Int), v22 = .int .i64 x22_2 ∧ Aside0 (plan_ordinary.l1 kq l0 a1 a2 a3 x15_1 l0 (l0.length : Int) x15_1 (rd_L3 l0 x15_1) ((rd_L3 l0 x15_1).length : Int) x22_2 = some r) ∧ Aside0 (kq ≤ k1) ∧ Drawn0 w w')
    case atStart => exact ⟨(0), rs_, H', ⟨Nat.le_refl _⟩, by repeat (first | exact Drawn0.refl _ | apply Drawn0.step)⟩
    case round =>
     clear H'
     try clear c2
     try clear p2
     try clear q2
     try clear hx2
     try clear c5
     try clear c5b0
     try clear c6
     try clear c6b0
     try clear c7
     try clear c7b0
     try clear hx206_0
     try clear p2
     try clear p206
     try clear q206
     obtain ⟨x22_2, rfl, HA, HK2, ⟨m2, rfl⟩⟩ := hrel
     cases gk with
     | zero => exact absurd HA.out (by simp [plan_ordinary.l1])
     | succ k2 =>
      have H := HA.out; clear HA; simp only [plan_ordinary.l1] at H
      by_cases c8 : x22_2 < ((rd_L3 l0 x15_1).length : Int)
      ·rw [if_pos c8] at H
       have c8b0 := decide_eq_true c8; clear c8
       replace H := ifn_ H; obtain ⟨c9, H⟩ := H
       have c9b0 := decide_eq_true c9; clear c9
       replace H := ifn_ H; obtain ⟨c10, H⟩ := H
       have c10b0 := decide_eq_true c10; clear c10
       by_cases c11 : x22_2 = a1
       ·rw [if_pos c11] at H
        obtain ⟨c11b0, c11b1⟩ := eqb_ c11; clear c11; have H' := am_ H; clear H; have p207 : 0 ≤ (x22_2 : Int) := of_decide_eq_true sm_; have q207 : x22_2 < ((rd_L3 l0 x15_1).length : Int) := of_decide_eq_true sm_; obtain ⟨ad207, e207, hx207_0⟩ := Kd.at_int HR206_0.out x22_2 p207 q207; cases e207; replace p207 := eq_true p207; replace q207 := eq_true q207
        go_wp2
        go_roundg k2
        case measure => have := HK1.out; have := HK2.out; omega
        case rel => exact ⟨(wrap64 (x22_2 + 1)), rs_, H', ⟨by have := HK1.out; have := HK2.out; omega⟩, by repeat (first | exact Drawn0.refl _ | apply Drawn0.step)⟩
       ·rw [if_neg c11] at H
        obtain ⟨c11b0, c11b1⟩ := neb_ c11
        by_cases c12 : x22_2 = a2
        ·rw [if_pos c12] at H
         obtain ⟨c12b0, c12b1⟩ := eqb_ c12; clear c12; have H' := am_ H; clear H; have p207 : 0 ≤ (x22_2 : Int) := of_decide_eq_true sm_; have q207 : x22_2 < ((rd_L3 l0 x15_1).length : Int) := of_decide_eq_true sm_; obtain ⟨ad207, e207, hx207_0⟩ := Kd.at_int HR206_0.out x22_2 p207 q207; cases e207; replace p207 := eq_true p207; replace q207 := eq_true q207
         go_wp2
         go_roundg k2
         case measure => have := HK1.out; have := HK2.out; omega
         case rel => exact ⟨(wrap64 (x22_2 + 1)), rs_, H', ⟨by have := HK1.out; have := HK2.out; omega⟩, by repeat (first | exact Drawn0.refl _ | apply Drawn0.step)⟩
        ·rw [if_neg c12] at H
         obtain ⟨c12b0, c12b1⟩ := neb_ c12
         by_cases c13 : (rd (rd_L3 l0 x15_1) x22_2) < 0
         ·rw [if_pos c13] at H
          have c13b0 := decide_eq_true c13; clear c13; obtain rfl := Option.some.inj H; have p207 : 0 ≤ (x22_2 : Int) := of_decide_eq_true sm_; have q207 : x22_2 < ((rd_L3 l0 x15_1).length : Int) := of_decide_eq_true sm_; obtain ⟨ad207, e207, hx207_0⟩ := Kd.at_int HR206_0.out x22_2 p207 q207; cases e207; replace p207 := eq_true p207; replace q207 := eq_true q207
          go_wp2
          go_ret
          exact ⟨by first | rfl | (simp; done) | (simp [*]; done), by repeat (first | exact Drawn0.refl _ | apply Drawn0.step)⟩
         ·rw [if_neg c13] at H
          have c13b0 := decide_eq_false c13; clear c13
          by_cases c14 : (rd (rd_L3 l0 x15_1) x22_2) > 0
          ·rw [if_pos c14] at H
           have c14b0 := decide_eq_true c14; clear c14
           by_cases c15 : a3 = true
           ·subst c15
            have H1 : (if x15_1 = (wrap64 ((l0.length : Int) - 1)) then (some false) else (plan_ordinary.l1 k2 l0 a1 a2 true x15_1 l0 (l0.length : Int) x15_1 (rd_L3 l0 x15_1) ((rd_L3 l0 x15_1).length : Int) (wrap64 (x22_2 + 1)))) = some r := by rw [if_pos rfl] at H; exact H
            clear H; have H := H1; clear H1
            by_cases c16 : x15_1 = (wrap64 ((l0.length : Int) - 1))
            ·rw [if_pos c16] at H
             obtain ⟨c16b0, c16b1⟩ := eqb_ c16; clear c16; obtain rfl := Option.some.inj H; have p207 : 0 ≤ (x22_2 : Int) := of_decide_eq_true sm_; have q207 : x22_2 < ((rd_L3 l0 x15_1).length : Int) := of_decide_eq_true sm_; obtain ⟨ad207, e207, hx207_0⟩ := Kd.at_int HR206_0.out x22_2 p207 q207; cases e207; replace p207 := eq_true p207; replace q207 := eq_true q207
             go_wp2
             go_ret
             exact ⟨by first | rfl | (simp; done) | (simp [*]; done), by repeat (first | exact Drawn0.refl _ | apply Drawn0.step)⟩
            ·rw [if_neg c16] at H
             obtain ⟨c16b0, c16b1⟩ := neb_ c16; have H' := am_ H; clear H; have p207 : 0 ≤ (x22_2 : Int) := of_decide_eq_true sm_; have q207 : x22_2 < ((rd_L3 l0 x15_1).length : Int) := of_decide_eq_true sm_; obtain ⟨ad207, e207, hx207_0⟩ := Kd.at_int HR206_0.out x22_2 p207 q207; cases e207; replace p207 := eq_true p207; replace q207 := eq_true q207
             go_wp2
             go_roundg k2
             case measure => have := HK1.out; have := HK2.out; omega
             case rel => exact ⟨(wrap64 (x22_2 + 1)), rs_, H', ⟨by have := HK1.out; have := HK2.out; omega⟩, by repeat (first | exact Drawn0.refl _ | apply Drawn0.step)⟩
           ·replace c15 := Bool.eq_false_iff.mpr c15
            subst c15
            have H1 : (some false) = some r := by rw [if_neg (show ¬ (false = true) by decide)] at H; exact H
            clear H; have H := H1; clear H1; obtain rfl := Option.some.inj H; have p207 : 0 ≤ (x22_2 : Int) := of_decide_eq_true sm_; have q207 : x22_2 < ((rd_L3 l0 x15_1).length : Int) := of_decide_eq_true sm_; obtain ⟨ad207, e207, hx207_0⟩ := Kd.at_int HR206_0.out x22_2 p207 q207; cases e207; replace p207 := eq_true p207; replace q207 := eq_true q207
            go_wp2
            go_ret
            exact ⟨by first | rfl | (simp; done) | (simp [*]; done), by repeat (first | exact Drawn0.refl _ | apply Drawn0.step)⟩
          ·rw [if_neg c14] at H
           have c14b0 := decide_eq_false c14; clear c14; have H' := am_ H; clear H; have p207 : 0 ≤ (x22_2 : Int) := of_decide_eq_true sm_; have q207 : x22_2 < ((rd_L3 l0 x15_1).length : Int) := of_decide_eq_true sm_; obtain ⟨ad207, e207, hx207_0⟩ := Kd.at_int HR206_0.out x22_2 p207 q207; cases e207; replace p207 := eq_true p207; replace q207 := eq_true q207
           go_wp2
           go_roundg k2
           case measure => have := HK1.out; have := HK2.out; omega
           case rel => exact ⟨(wrap64 (x22_2 + 1)), rs_, H', ⟨by have := HK1.out; have := HK2.out; omega⟩, by repeat (first | exact Drawn0.refl _ | apply Drawn0.step)⟩
      ·rw [if_neg c8] at H
       have c8b0 := decide_eq_false c8; clear c8; have H' := am_ H; clear H
       go_wp2
       go_roundg k2
       case measure => have := HK1.out; have := HK2.out; omega
       case rel => exact ⟨(wrap64 (x15_1 + 1)), rs_, H', ⟨by have := HK1.out; have := HK2.out; omega⟩, by repeat (first | exact Drawn0.refl _ | apply Drawn0.step)⟩
   ·rw [if_neg c5] at H
    have c5b0 := decide_eq_false c5; clear c5; obtain rfl := Option.some.inj H
    go_wp2
    go_ret
    exact ⟨by first | rfl | (simp; done) | (simp [*]; done), by repeat (first | exact Drawn0.refl _ | apply Drawn0.step)⟩
def plan_checked.f (k : Nat) (a0_0 : Int) (a0_1 : Bool) (l0_2 : List (S54)) (a1 : Int) (a2 : Int) (a3 : Int) (l4 : List (S85)) : Option ((List (List Int)) × Int) := (plan_Stocks.f k a0_0 a0_1 l0_2 a1 a2 a3 l4).bind fun bt209 => (if bt209.2 = 0 then ((plan_ordinary.f k bt209.1 a1 a2 a0_1).bind fun t213 => (if t213 = true then (some (bt209.1, 0)) else (some (([] : List (List Int)), 141)))) else (some (([] : List (List Int)), bt209.2)))
set_option maxHeartbeats 8000000 in
set_option maxRecDepth 100000 in
theorem plan_checked.calls (k : Nat) (a0_0 : Int) (a0_1 : Bool) (A0_2 : Option Addr) (c0_2 : Nat) (l0_2 : List (S54)) (a1 : Int) (a2 : Int) (a3 : Int) (A4 : Option Addr) (c4 : Nat) (l4 : List (S85)) (r1 : List (List Int)) (r2 : Int) (w : World) (hr0_2 : Kd.C k54 w A0_2 l0_2.length l0_2) (hc0_2 : l0_2.length ≤ c0_2) (hr4 : Kd.C k85 w A4 l4.length l4) (hc4 : l4.length ≤ c4) (h : plan_checked.f k a0_0 a0_1 l0_2 a1 a2 a3 l4 = some (r1, r2)) :
  Calls Try.prog 71 #[.agg #[.int .i64 a0_0, .bool a0_1, .slice A0_2 l0_2.length c0_2], .int .i64 a1, .int .i64 a2, .int .i64 a3, .slice A4 l4.length c4] w fun e w' => ∃ v0_ : Value, e = .returned (.tuple #[v0_, .int .i64 r2]) ∧ Kd.S (Kd.slice 3 (Kd.int .i64)) 42 w' w.heap.size (fun _ => True) v0_ r1 ∧ Below w.heap.size w w' := by
 have hu24 := Try.underlying24; have HR0_2 := am_ hr0_2; have HC0_2 := am_ hc0_2; clear hr0_2 hc0_2; have HR4 := am_ hr4; have HC4 := am_ hc4; clear hr4 hc4; have HB := am_ (Below.refl w.heap.size w); have H : ((plan_Stocks.f k a0_0 a0_1 l0_2 a1 a2 a3 l4).bind fun bt209 => (if bt209.2 = 0 then ((plan_ordinary.f k bt209.1 a1 a2 a0_1).bind fun t213 => (if t213 = true then (some (bt209.1, 0)) else (some (([] : List (List Int)), 141)))) else (some (([] : List (List Int)), bt209.2)))) = some (r1, r2) := h; clear h; replace H := Option.bind_eq_some_iff.mp H; obtain ⟨⟨t209, t212⟩, A60, H⟩ := H; replace H : (if t212 = 0 then ((plan_ordinary.f k t209 a1 a2 a0_1).bind fun t213 => (if t213 = true then (some (t209, 0)) else (some (([] : List (List Int)), 141)))) else (some (([] : List (List Int)), t212))) = some (r1, r2) := H; have A6 := am_ A60; clear A60
 by_cases c7 : t212 = 0
 ·rw [if_pos c7] at H
  obtain ⟨c7b0, c7b1⟩ := eqb_ c7; clear c7; replace H := Option.bind_eq_some_iff.mp H; obtain ⟨t213, A80, H⟩ := H; replace H : (if t213 = true then (some (t209, 0)) else (some (([] : List (List Int)), 141))) = some (r1, r2) := H; have A8 := am_ A80; clear A80
  by_cases c9 : t213 = true
  ·subst c9
   have H1 : (some (t209, 0)) = some (r1, r2) := by rw [if_pos rfl] at H; exact H
   clear H; have H := H1; clear H1; simp only [Option.some.injEq, Prod.mk.injEq] at H; obtain ⟨rfl, rfl⟩ := H
   go_enter Try.func71, Try.ntmps71
   go_wp2_with (first | ((with_reducible refine gate_dst (N := 5) rfl ?_); refine bx_ 5 #[.int .i64 a0_0, .bool a0_1, .slice A0_2 l0_2.length c0_2] 24 ?_; intro gb208 hg w10 BK208 hb; have GE208 := ge_ (w := w) hg; replace HB := hst_ hb; clear hb hg; obtain ⟨hcz11_0, hcz11_1, hcz11_2, hfz11_0, hfz11_1, hfz11_2⟩ := cf3_ BK208.out) | ((with_reducible refine gate_callee (f := 49) rfl ?_); refine cl_ 20 Try.func49 (plan_Stocks.calls k a0_0 a0_1 _ _ l0_2 a1 a2 a3 _ _ l4 t209 t212 _ (cb_ HR0_2.out) HC0_2.out (cb_ HR4.out) HC4.out A6.out) ?_; rintro e w12 ⟨v210, rfl, ho0, hb⟩; refine ⟨_, rfl, ?_⟩; have HO211 := am_ (Kd.S_lower ho0 (below_size hb_)); replace BK208 := am_ (bb_ BK208.out hb); replace HB := hst_ hb; (try clear hb); (try clear hb2); (try clear hk); (try clear hi); (try clear ho0); obtain ⟨hcz13_0, hcz13_1, hcz13_2, hfz13_0, hfz13_1, hfz13_2⟩ := cf3_ BK208.out; obtain ⟨Ao14, co14, eo14⟩ := Kd.S_slice HO211.out; subst eo14) | ((with_reducible refine gate_callee (f := 86) rfl ?_); refine goesL_ (some 31) rfl rfl Try.func86 (by kernel_rfl) rfl #[.slice Ao14 t209.length co14, .int .i64 a1, .int .i64 a2, .bool a0_1] rfl mt_ ?_; (with_reducible refine (plan_ordinary.calls k _ _ t209 a1 a2 a0_1 true _ ?side1 ?side2 A8.out).mono ?_); (case side1 => repeat (first | exact (Kd.S_reads' HO211.out).2.2 | (with_reducible refine Kd.C_alloc ?_ _) | (with_reducible refine Kd.C_drewN ?_ _) | (with_reducible refine Kd.C_drew ?_))); (case side2 => exact (Kd.S_reads' HO211.out).2.1); rintro e w' ⟨rfl, ⟨nd, rfl⟩⟩; refine ⟨_, rfl, ?_⟩))
   go_ret2
   exact ⟨_, er_, by refine sq_ ?_; exact HO211.out, hb_⟩
  ·replace c9 := Bool.eq_false_iff.mpr c9
   subst c9
   have H1 : (some (([] : List (List Int)), 141)) = some (r1, r2) := by rw [if_neg (show ¬ (false = true) by decide)] at H; exact H
   clear H; have H := H1; clear H1; simp only [Option.some.injEq, Prod.mk.injEq] at H; obtain ⟨rfl, rfl⟩ := H
   go_enter Try.func71, Try.ntmps71
   go_wp2_with (first | ((with_reducible refine gate_dst (N := 5) rfl ?_); refine bx_ 5 #[.int .i64 a0_0, .bool a0_1, .slice A0_2 l0_2.length c0_2] 24 ?_; intro gb208 hg w15 BK208 hb; have GE208 := ge_ (w := w) hg; replace HB := hst_ hb; clear hb hg; obtain ⟨hcz16_0, hcz16_1, hcz16_2, hfz16_0, hfz16_1, hfz16_2⟩ := cf3_ BK208.out) | ((with_reducible refine gate_callee (f := 49) rfl ?_); refine cl_ 20 Try.func49 (plan_Stocks.calls k a0_0 a0_1 _ _ l0_2 a1 a2 a3 _ _ l4 t209 t212 _ (cb_ HR0_2.out) HC0_2.out (cb_ HR4.out) HC4.out A6.out) ?_; rintro e w17 ⟨v210, rfl, ho0, hb⟩; refine ⟨_, rfl, ?_⟩; have HO211 := am_ (Kd.S_lower ho0 (below_size hb_)); replace BK208 := am_ (bb_ BK208.out hb); replace HB := hst_ hb; (try clear hb); (try clear hb2); (try clear hk); (try clear hi); (try clear ho0); obtain ⟨hcz18_0, hcz18_1, hcz18_2, hfz18_0, hfz18_1, hfz18_2⟩ := cf3_ BK208.out; obtain ⟨Ao19, co19, eo19⟩ := Kd.S_slice HO211.out; subst eo19) | ((with_reducible refine gate_callee (f := 86) rfl ?_); refine goesL_ (some 31) rfl rfl Try.func86 (by kernel_rfl) rfl #[.slice Ao19 t209.length co19, .int .i64 a1, .int .i64 a2, .bool a0_1] rfl mt_ ?_; (with_reducible refine (plan_ordinary.calls k _ _ t209 a1 a2 a0_1 false _ ?side1 ?side2 A8.out).mono ?_); (case side1 => repeat (first | exact (Kd.S_reads' HO211.out).2.2 | (with_reducible refine Kd.C_alloc ?_ _) | (with_reducible refine Kd.C_drewN ?_ _) | (with_reducible refine Kd.C_drew ?_))); (case side2 => exact (Kd.S_reads' HO211.out).2.1); rintro e w' ⟨rfl, ⟨nd, rfl⟩⟩; refine ⟨_, rfl, ?_⟩))
   go_ret2
   exact ⟨_, er_, by first | exact Kd.S_nil _ _ _ _ _ | exact Kd.N_nil _ _ _ _ _ | exact Kd.V_nil _ _ _ _ _ | exact Kd.Q_nil _ _ _ _ _ | exact Kd.R_nil _ _ _ _ _, hb_⟩
 ·rw [if_neg c7] at H
  obtain ⟨c7b0, c7b1⟩ := neb_ c7; simp only [Option.some.injEq, Prod.mk.injEq] at H; obtain ⟨rfl, rfl⟩ := H
  go_enter Try.func71, Try.ntmps71
  go_wp2_with (first | ((with_reducible refine gate_dst (N := 5) rfl ?_); refine bx_ 5 #[.int .i64 a0_0, .bool a0_1, .slice A0_2 l0_2.length c0_2] 24 ?_; intro gb208 hg w20 BK208 hb; have GE208 := ge_ (w := w) hg; replace HB := hst_ hb; clear hb hg; obtain ⟨hcz21_0, hcz21_1, hcz21_2, hfz21_0, hfz21_1, hfz21_2⟩ := cf3_ BK208.out) | ((with_reducible refine gate_callee (f := 49) rfl ?_); refine cl_ 20 Try.func49 (plan_Stocks.calls k a0_0 a0_1 _ _ l0_2 a1 a2 a3 _ _ l4 t209 t212 _ (cb_ HR0_2.out) HC0_2.out (cb_ HR4.out) HC4.out A6.out) ?_; rintro e w22 ⟨v210, rfl, ho0, hb⟩; refine ⟨_, rfl, ?_⟩; have HO211 := am_ (Kd.S_lower ho0 (below_size hb_)); replace BK208 := am_ (bb_ BK208.out hb); replace HB := hst_ hb; (try clear hb); (try clear hb2); (try clear hk); (try clear hi); (try clear ho0)))
  go_ret2
  exact ⟨_, er_, by first | exact Kd.S_nil _ _ _ _ _ | exact Kd.N_nil _ _ _ _ _ | exact Kd.V_nil _ _ _ _ _ | exact Kd.Q_nil _ _ _ _ _ | exact Kd.R_nil _ _ _ _ _, hb_⟩
def plan_Check.f (k : Nat) (a0_0 : Int) (a0_1 : Bool) (l0_2 : List (S54)) (a1 : Int) (a2 : Int) (a3 : Int) (l4 : List (S85)) : Option (Int × Int) := (plan_checked.f k a0_0 a0_1 l0_2 a1 a2 a3 l4).bind fun bt215 => (if bt215.2 = 0 then (if 0 ≤ a3 then (if a3 < (bt215.1.length : Int) then (if 0 ≤ a2 then (if a2 < ((rd_L3 bt215.1 a3).length : Int) then (some (rd (rd_L3 bt215.1 a3) a2, 0)) else (none)) else (none)) else (none)) else (none)) else (some (0, bt215.2)))
set_option maxHeartbeats 8000000 in
set_option maxRecDepth 100000 in
theorem plan_Check.calls (k : Nat) (a0_0 : Int) (a0_1 : Bool) (A0_2 : Option Addr) (c0_2 : Nat) (l0_2 : List (S54)) (a1 : Int) (a2 : Int) (a3 : Int) (A4 : Option Addr) (c4 : Nat) (l4 : List (S85)) (r1 : Int) (r2 : Int) (w : World) (hr0_2 : Kd.C k54 w A0_2 l0_2.length l0_2) (hc0_2 : l0_2.length ≤ c0_2) (hr4 : Kd.C k85 w A4 l4.length l4) (hc4 : l4.length ≤ c4) (h : plan_Check.f k a0_0 a0_1 l0_2 a1 a2 a3 l4 = some (r1, r2)) :
  Calls Try.prog 48 #[.agg #[.int .i64 a0_0, .bool a0_1, .slice A0_2 l0_2.length c0_2], .int .i64 a1, .int .i64 a2, .int .i64 a3, .slice A4 l4.length c4] w fun e w' => e = .returned (.tuple #[.int .i64 r1, .int .i64 r2]) ∧ Below w.heap.size w w' := by
 have hu24 := Try.underlying24; have HR0_2 := am_ hr0_2; have HC0_2 := am_ hc0_2; clear hr0_2 hc0_2; have HR4 := am_ hr4; have HC4 := am_ hc4; clear hr4 hc4; have HB := am_ (Below.refl w.heap.size w); have H : ((plan_checked.f k a0_0 a0_1 l0_2 a1 a2 a3 l4).bind fun bt215 => (if bt215.2 = 0 then (if 0 ≤ a3 then (if a3 < (bt215.1.length : Int) then (if 0 ≤ a2 then (if a2 < ((rd_L3 bt215.1 a3).length : Int) then (some (rd (rd_L3 bt215.1 a3) a2, 0)) else (none)) else (none)) else (none)) else (none)) else (some (0, bt215.2)))) = some (r1, r2) := h; clear h; replace H := Option.bind_eq_some_iff.mp H; obtain ⟨⟨t215, t218⟩, A60, H⟩ := H; replace H : (if t218 = 0 then (if 0 ≤ a3 then (if a3 < (t215.length : Int) then (if 0 ≤ a2 then (if a2 < ((rd_L3 t215 a3).length : Int) then (some (rd (rd_L3 t215 a3) a2, 0)) else (none)) else (none)) else (none)) else (none)) else (some (0, t218))) = some (r1, r2) := H; have A6 := am_ A60; clear A60
 by_cases c7 : t218 = 0
 ·rw [if_pos c7] at H
  obtain ⟨c7b0, c7b1⟩ := eqb_ c7; clear c7
  replace H := ifn_ H; obtain ⟨c8, H⟩ := H
  have c8b0 := decide_eq_true c8; clear c8
  replace H := ifn_ H; obtain ⟨c9, H⟩ := H
  have c9b0 := decide_eq_true c9; clear c9
  replace H := ifn_ H; obtain ⟨c10, H⟩ := H
  have c10b0 := decide_eq_true c10; clear c10
  replace H := ifn_ H; obtain ⟨c11, H⟩ := H
  have c11b0 := decide_eq_true c11; clear c11; simp only [Option.some.injEq, Prod.mk.injEq] at H; obtain ⟨rfl, rfl⟩ := H
  go_enter Try.func48, Try.ntmps48
  go_wp2_with (first | ((with_reducible refine gate_dst (N := 5) rfl ?_); refine bx_ 5 #[.int .i64 a0_0, .bool a0_1, .slice A0_2 l0_2.length c0_2] 24 ?_; intro gb214 hg w12 BK214 hb; have GE214 := ge_ (w := w) hg; replace HB := hst_ hb; clear hb hg; obtain ⟨hcz13_0, hcz13_1, hcz13_2, hfz13_0, hfz13_1, hfz13_2⟩ := cf3_ BK214.out) | ((with_reducible refine gate_callee (f := 71) rfl ?_); refine cl_ 19 Try.func71 (plan_checked.calls k a0_0 a0_1 _ _ l0_2 a1 a2 a3 _ _ l4 t215 t218 _ (cb_ HR0_2.out) HC0_2.out (cb_ HR4.out) HC4.out A6.out) ?_; rintro e w14 ⟨v216, rfl, ho0, hb⟩; refine ⟨_, rfl, ?_⟩; have HO217 := am_ (Kd.S_lower ho0 (below_size hb_)); replace BK214 := am_ (bb_ BK214.out hb); replace HB := hst_ hb; (try clear hb); (try clear hb2); (try clear hk); (try clear hi); (try clear ho0); obtain ⟨Ao15, co15, eo15⟩ := Kd.S_slice HO217.out; subst eo15; have p219 : 0 ≤ (a3 : Int) := of_decide_eq_true sm_; have q219 : a3 < (t215.length : Int) := of_decide_eq_true sm_; obtain ⟨ad219, A219_0, c219_0, e219, hx219_0, hl219_0, hi219_0⟩ := at_L3 (Kd.S_reads' HO217.out).2.2 a3 p219 q219; cases e219; obtain ⟨ce219, hce219, hMe219, hcc219⟩ := Kd.S_get HO217.out [] a3 p219 (by first | exact q219 | exact of_decide_eq_true sm_ | (have e_ := (Kd.S_reads' HO217.out).1; omega)); obtain ⟨ve219_0, rfl, ge219_0⟩ := hMe219; have hv219_0 := hcc219 0 _ rfl; rw [Nat.add_zero, show ((Kd.slice 3 (Kd.int .i64))).sz = 1 from rfl, Nat.mul_one] at hv219_0; replace hv219_0 := Option.some.inj (hv219_0.symm.trans hx219_0); rw [hv219_0] at ge219_0; have HL219_0 := am_ (show Kd.R (Kd.int .i64) 3 _ _ _ _ (rd_L3 t215 a3) from ge219_0); clear hv219_0 ge219_0; clear hcc219 hce219; have HR219_0 := am_ hi219_0; have HC219_0 := am_ hl219_0; clear hi219_0 hl219_0; replace p219 := eq_true p219; replace q219 := eq_true q219; have p220 : 0 ≤ (a2 : Int) := of_decide_eq_true sm_; have q220 : a2 < ((rd_L3 t215 a3).length : Int) := of_decide_eq_true sm_; obtain ⟨ad220, e220, hx220_0⟩ := Kd.at_int (by repeat (first | (with_reducible exact HR219_0.out) | (with_reducible refine Kd.C_alloc ?_ _) | (with_reducible refine Kd.C_drewN ?_ _) | (with_reducible refine Kd.C_drew ?_) | exact HR219_0.out)) a2 p220 q220; cases e220; replace p220 := eq_true p220; replace q220 := eq_true q220))
  go_ret2
  exact ⟨er_, hb_⟩
 ·rw [if_neg c7] at H
  obtain ⟨c7b0, c7b1⟩ := neb_ c7; simp only [Option.some.injEq, Prod.mk.injEq] at H; obtain ⟨rfl, rfl⟩ := H
  go_enter Try.func48, Try.ntmps48
  go_wp2_with (first | ((with_reducible refine gate_dst (N := 5) rfl ?_); refine bx_ 5 #[.int .i64 a0_0, .bool a0_1, .slice A0_2 l0_2.length c0_2] 24 ?_; intro gb214 hg w16 BK214 hb; have GE214 := ge_ (w := w) hg; replace HB := hst_ hb; clear hb hg; obtain ⟨hcz17_0, hcz17_1, hcz17_2, hfz17_0, hfz17_1, hfz17_2⟩ := cf3_ BK214.out) | ((with_reducible refine gate_callee (f := 71) rfl ?_); refine cl_ 19 Try.func71 (plan_checked.calls k a0_0 a0_1 _ _ l0_2 a1 a2 a3 _ _ l4 t215 t218 _ (cb_ HR0_2.out) HC0_2.out (cb_ HR4.out) HC4.out A6.out) ?_; rintro e w18 ⟨v216, rfl, ho0, hb⟩; refine ⟨_, rfl, ?_⟩; have HO217 := am_ (Kd.S_lower ho0 (below_size hb_)); replace BK214 := am_ (bb_ BK214.out hb); replace HB := hst_ hb; (try clear hb); (try clear hb2); (try clear hk); (try clear hi); (try clear ho0)))
  go_ret2
  exact ⟨er_, hb_⟩
end Go.Proofs.Ytfhkkbpkajfdlaa.Q
end
