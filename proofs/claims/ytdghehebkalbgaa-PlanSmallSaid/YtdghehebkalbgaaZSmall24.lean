/- A part of the proof: words, contracts, plain lemmas. Conditions: none. -/
import Derived.Test.YtdghehebkalbgaaZSmall4
import Derived.Test.YtdghehebkalbgaaZSmall23
import Derived.Test.YtdghehebkalbgaaZSmall14
import Derived.Test.YtdghehebkalbgaaZSmall16
import Derived.Test.YtdghehebkalbgaaZSmall7
section
namespace Go.Proofs.Ytdghehebkalbgaa.Q
open Go.RowKit Go.Proofs.YtdghehebkalbgaaW.PrintWords Go.Proofs.YtdghehebkalbgaaW.PrintLast Go.Proofs.YtdghehebkalbgaaW.PrintMore
attribute [local go_sem] max2_int min2_int max_two min_two min_four
set_option linter.unusedVariables false
set_option linter.unusedSimpArgs false
mutual
def ebbtideref14_Check.l0 : Nat → Int → Int → Int → List (List Int) → Int → Int → Bool → List (S47) → Option (Int × Int)
 | 0, _, _, _, _, _, _, _, _ => none
 | k + 1, x1, x2, x3, x12, x14, x399000, x399001, x399002 => if x14 < x399000 then (ebbtideref14_Check.l1 k x1 x2 x3 x12 x14 0 x399000 x399001 x399002) else (if 0 ≤ x3 then (if x3 < (x12.length : Int) then (if 0 ≤ x2 then (if x2 < ((rd_L3 x12 x3).length : Int) then (some (rd (rd_L3 x12 x3) x2, 0)) else (none)) else (none)) else (none)) else (none))
def ebbtideref14_Check.l1 : Nat → Int → Int → Int → List (List Int) → Int → Int → Int → Bool → List (S47) → Option (Int × Int)
 | 0, _, _, _, _, _, _, _, _, _ => none
 | k + 1, x1, x2, x3, x12, x14, x15, x399000, x399001, x399002 => if x15 ≤ x3 then (if x14 = x1 then (ebbtideref14_Check.j2 k x1 x2 x3 x12 x14 x15 false x399000 x399001 x399002) else (ebbtideref14_Check.j2 k x1 x2 x3 x12 x14 x15 (x14 != x2) x399000 x399001 x399002)) else (ebbtideref14_Check.j2 k x1 x2 x3 x12 x14 x15 false x399000 x399001 x399002)
def ebbtideref14_Check.j2 : Nat → Int → Int → Int → List (List Int) → Int → Int → Bool → Int → Bool → List (S47) → Option (Int × Int)
 | 0, _, _, _, _, _, _, _, _, _, _ => none
 | k + 1, x1, x2, x3, x12, x14, x15, x46, x399000, x399001, x399002 => if x46 = true then (if 0 ≤ x15 then (if x15 < (x12.length : Int) then (if 0 ≤ x14 then (if x14 < ((rd_L3 x12 x15).length : Int) then (if (rd (rd_L3 x12 x15) x14) < 0 then (some (0, 141)) else (if (rd (rd_L3 x12 x15) x14) > 0 then (if x399001 = true then (if x15 = x3 then (some (0, 141)) else (ebbtideref14_Check.l1 k x1 x2 x3 x12 x14 (wrap64 (x15 + 1)) x399000 x399001 x399002)) else (some (0, 141))) else (ebbtideref14_Check.l1 k x1 x2 x3 x12 x14 (wrap64 (x15 + 1)) x399000 x399001 x399002))) else (none)) else (none)) else (none)) else (none)) else (ebbtideref14_Check.l0 k x1 x2 x3 x12 (wrap64 (x14 + 1)) x399000 x399001 x399002)
end
def ebbtideref14_Check.f (k : Nat) (a0_0 : Int) (a0_1 : Bool) (l0_2 : List (S47)) (a1 : Int) (a2 : Int) (a3 : Int) (l4 : List (S45)) : Option (Int × Int) := (ebbtideref14_Stocks.f k a0_0 a0_1 l0_2 a1 a2 a3 l4).bind fun bt399 => (if bt399.2 = 0 then (ebbtideref14_Check.l0 k a1 a2 a3 bt399.1 0 a0_0 a0_1 l0_2) else (some (0, bt399.2)))
set_option maxHeartbeats 8000000 in
set_option maxRecDepth 100000 in
theorem ebbtideref14_Check.calls (k : Nat) (a0_0 : Int) (a0_1 : Bool) (A0_2 : Option Addr) (c0_2 : Nat) (l0_2 : List (S47)) (a1 : Int) (a2 : Int) (a3 : Int) (A4 : Option Addr) (c4 : Nat) (l4 : List (S45)) (r1 : Int) (r2 : Int) (w : World) (hr0_2 : Kd.C k47 w A0_2 l0_2.length l0_2) (hc0_2 : l0_2.length ≤ c0_2) (hr4 : Kd.C k45 w A4 l4.length l4) (hc4 : l4.length ≤ c4) (h : ebbtideref14_Check.f k a0_0 a0_1 l0_2 a1 a2 a3 l4 = some (r1, r2)) :
  Calls Try.prog 16 #[.agg #[.int .i64 a0_0, .bool a0_1, .slice A0_2 l0_2.length c0_2], .int .i64 a1, .int .i64 a2, .int .i64 a3, .slice A4 l4.length c4] w fun e w' => e = .returned (.tuple #[.int .i64 r1, .int .i64 r2]) ∧ Below w.heap.size w w' := by
 have hu24 := Try.underlying24; have HR0_2 := am_ hr0_2; have HC0_2 := am_ hc0_2; clear hr0_2 hc0_2; have HR4 := am_ hr4; have HC4 := am_ hc4; clear hr4 hc4; have HB := am_ (Below.refl w.heap.size w); have H : ((ebbtideref14_Stocks.f k a0_0 a0_1 l0_2 a1 a2 a3 l4).bind fun bt399 => (if bt399.2 = 0 then (ebbtideref14_Check.l0 k a1 a2 a3 bt399.1 0 a0_0 a0_1 l0_2) else (some (0, bt399.2)))) = some (r1, r2) := h; clear h; replace H := Option.bind_eq_some_iff.mp H; obtain ⟨⟨t399, t402⟩, A60, H⟩ := H; replace H : (if t402 = 0 then (ebbtideref14_Check.l0 k a1 a2 a3 t399 0 a0_0 a0_1 l0_2) else (some (0, t402))) = some (r1, r2) := H; have A6 := am_ A60; clear A60
 by_cases c7 : t402 = 0
 ·rw [if_pos c7] at H
  have c7b0 : (t402 == 0) = true := beq_iff_eq.mpr c7; have c7b1 : (t402 != 0) = false := bne_eq_false_iff_eq.mpr c7; clear c7; have H' := am_ H; clear H
  go_enter Try.func16, Try.ntmps16
  go_wp2_with (first | ((with_reducible refine gate_dst (N := 5) rfl ?_); refine box_event ?hg (N := 5) ?hd (cs := #[.int .i64 a0_0, .bool a0_1, .slice A0_2 l0_2.length c0_2]) (t := 24) ?hr ?_; (case hd => rfl); (case hg => rfl); (case hr => first | (go_simp; done) | (go_simp; rfl)); intro gb398 hg w8 hbox hb; have BK398 := am_ (hbox); have GE398 := am_ ((by rw [hg]; exact (below_size hb_) : w.heap.size ≤ gb398)); replace HB := am_ (below_step hb_ hb); clear hb hbox hg; have hcz9_0 : w8.cell? ⟨gb398, 0, none⟩ = some (.int .i64 a0_0) := (blk_cell BK398.out 0).trans rfl; have hcz9_1 : w8.cell? ⟨gb398, 1, none⟩ = some (.bool a0_1) := (blk_cell BK398.out 1).trans rfl; have hcz9_2 : w8.cell? ⟨gb398, 2, none⟩ = some (.slice A0_2 l0_2.length c0_2) := (blk_cell BK398.out 2).trans rfl; have hfz9_0 := blk_frozen BK398.out 0; have hfz9_1 := blk_frozen BK398.out 1; have hfz9_2 := blk_frozen BK398.out 2) | ((with_reducible refine gate_callee (f := 12) rfl ?_); refine goesL_ (some 22) rfl rfl Try.func12 (by kernel_rfl) rfl #[.agg #[.int .i64 a0_0, .bool a0_1, .slice A0_2 l0_2.length c0_2], .int .i64 a1, .int .i64 a2, .int .i64 a3, .slice A4 l4.length c4] rfl mt_ ?_; (with_reducible refine (ebbtideref14_Stocks.calls k a0_0 a0_1 _ _ l0_2 a1 a2 a3 _ _ l4 t399 t402 _ ?side1 ?side2 ?side3 ?side4 A6.out).mono ?_); (case side1 => repeat (first | exact (Kd.C_below HR0_2.out HB.out) | (with_reducible refine Kd.C_alloc ?_ _) | (with_reducible refine Kd.C_drewN ?_ _) | (with_reducible refine Kd.C_drew ?_))); (case side2 => exact HC0_2.out); (case side3 => repeat (first | exact (Kd.C_below HR4.out HB.out) | (with_reducible refine Kd.C_alloc ?_ _) | (with_reducible refine Kd.C_drewN ?_ _) | (with_reducible refine Kd.C_drew ?_))); (case side4 => exact HC4.out); rintro e w10 ⟨v400, rfl, ho0, hb⟩; refine ⟨_, rfl, ?_⟩; have HO401 := am_ (Kd.S_lower ho0 (below_size hb_)); replace BK398 := am_ (blk_below (g := gb398) (o := .cells #[.int .i64 a0_0, .bool a0_1, .slice A0_2 l0_2.length c0_2] 24 (0, 0)) (bq_ BK398.out) hb); replace HB := am_ (below_step hb_ hb); (try clear hb); (try clear hb2); (try clear hk); (try clear hi); (try clear ho0)))
  go_loopg [14] k (fun kq v14 w' => ∃ (x14_1 : Int), v14 = .int .i64 x14_1 ∧ Aside0 (ebbtideref14_Check.l0 kq a1 a2 a3 t399 x14_1 a0_0 a0_1 l0_2 = some (r1, r2)) ∧ Aside0 (kq ≤ k) ∧ Aside0 (Kd.S (Kd.slice 3 (Kd.int .i64)) 48 w' w.heap.size (fun _ => True) v400 t399) ∧ Aside0 (w'.heap[gb398]? = some (.cells #[.int .i64 a0_0, .bool a0_1, (.slice A0_2 l0_2.length c0_2)] 24 (0, 0))) ∧ Aside0 (Below w.heap.size w w'))
  case atStart => exact ⟨(0), rs_, H', ⟨Nat.le_refl _⟩, ⟨by refine sq_ ?_; exact HO401.out⟩, ⟨by refine bq_ ?_; exact BK398.out⟩, ⟨by repeat (first | (with_reducible first | exact HB.out | apply below_alloc | apply pw_below_drewN | apply below_drew1 | refine below_set ?_ GE398.out) | exact HB.out)⟩⟩
  case round =>
   clear H'
   try clear c1
   try clear p2
   try clear c4
   try clear c7
   try clear c7b0
   try clear c7b1
   try clear hcz9_0
   try clear hcz9_1
   try clear hcz9_2
   try clear hfz9_0
   try clear hfz9_1
   try clear hfz9_2
   obtain ⟨x14_1, rfl, HA, HK1, HO_12, BK398, HB⟩ := hrel
   cases gk with
   | zero => exact absurd HA.out (by simp [ebbtideref14_Check.l0])
   | succ k1 =>
    have H := HA.out; clear HA; simp only [ebbtideref14_Check.l0] at H
    by_cases c11 : x14_1 < a0_0
    ·rw [if_pos c11] at H
     have c11b0 : decide (x14_1 < a0_0) = true := decide_eq_true c11; clear c11; have H' := am_ H; clear H; have hcz12_0 : wr.cell? ⟨gb398, 0, none⟩ = some (.int .i64 a0_0) := (blk_cell BK398.out 0).trans rfl; have hcz12_1 : wr.cell? ⟨gb398, 1, none⟩ = some (.bool a0_1) := (blk_cell BK398.out 1).trans rfl; have hcz12_2 : wr.cell? ⟨gb398, 2, none⟩ = some (.slice A0_2 l0_2.length c0_2) := (blk_cell BK398.out 2).trans rfl; have hfz12_0 := blk_frozen BK398.out 0; have hfz12_1 := blk_frozen BK398.out 1; have hfz12_2 := blk_frozen BK398.out 2
     go_wp2
     go_loopg [15] k1 (fun kq v15 w' => ∃ (x15_2 : Int), v15 = .int .i64 x15_2 ∧ Aside0 (ebbtideref14_Check.l1 kq a1 a2 a3 t399 x14_1 x15_2 a0_0 a0_1 l0_2 = some (r1, r2)) ∧ Aside0 (kq ≤ k1) ∧ Aside0 (Kd.S (Kd.slice 3 (Kd.int .i64)) 48 w' w.heap.size (fun _ => True) v400 t399) ∧ Aside0 (w'.heap[gb398]? = some (.cells #[.int .i64 a0_0, .bool a0_1, (.slice A0_2 l0_2.length c0_2)] 24 (0, 0))) ∧ Aside0 (Below w.heap.size w w'))
     case atStart => exact ⟨(0), rs_, H', ⟨Nat.le_refl _⟩, ⟨by refine sq_ ?_; exact HO_12.out⟩, ⟨by refine bq_ ?_; exact BK398.out⟩, ⟨by repeat (first | (with_reducible first | exact HB.out | apply below_alloc | apply pw_below_drewN | apply below_drew1 | refine below_set ?_ GE398.out) | exact HB.out)⟩⟩
     case round =>
      clear H'
      try clear c1
      try clear p2
      try clear c4
      try clear c7
      try clear c7b0
      try clear c7b1
      try clear c11
      try clear c11b0
      try clear c12
      try clear hcz12_0
      try clear hcz12_1
      try clear hcz12_2
      try clear hcz9_0
      try clear hcz9_1
      try clear hcz9_2
      try clear hfz12_0
      try clear hfz12_1
      try clear hfz12_2
      try clear hfz9_0
      try clear hfz9_1
      try clear hfz9_2
      try clear p2
      obtain ⟨x15_2, rfl, HA, HK2, HO_12, BK398, HB⟩ := hrel
      cases gk with
      | zero => exact absurd HA.out (by simp [ebbtideref14_Check.l1])
      | succ k2 =>
       have H := HA.out; clear HA; simp only [ebbtideref14_Check.l1] at H; have HC13 := am_ H; clear H
       go_upto_region 8 with (fail)
       go_cut [46] (fun v46 wc => ∃ (kq : Nat) (x46_12 : Bool), v46 = .bool x46_12 ∧ Aside0 (ebbtideref14_Check.j2 kq a1 a2 a3 t399 x14_1 x15_2 x46_12 a0_0 a0_1 l0_2 = some (r1, r2)) ∧ Aside0 (kq ≤ k2) ∧ Aside0 (Kd.S (Kd.slice 3 (Kd.int .i64)) 48 wc w.heap.size (fun _ => True) v400 t399) ∧ Aside0 (wc.heap[gb398]? = some (.cells #[.int .i64 a0_0, .bool a0_1, (.slice A0_2 l0_2.length c0_2)] 24 (0, 0))) ∧ Aside0 (Below w.heap.size w wc))
       case first =>
        have H := HC13.out; clear HC13
        by_cases c14 : x15_2 ≤ a3
        ·rw [if_pos c14] at H
         have c14b0 : decide (x15_2 ≤ a3) = true := decide_eq_true c14; clear c14
         (first | rw [c14b0] | (simp only [i64_w, i32_w]; rw [c14b0]) | skip)
         by_cases c15 : x14_1 = a1
         ·rw [if_pos c15] at H
          have c15b0 : (x14_1 == a1) = true := beq_iff_eq.mpr c15; have c15b1 : (x14_1 != a1) = false := bne_eq_false_iff_eq.mpr c15; clear c15; have H' := am_ H; clear H
          go_wp2
          go_meet
          case rel => exact ⟨_, (false), rs_, H', ⟨by have := HK1.out; have := HK2.out; first | omega | exact Nat.le_refl _⟩, ⟨by refine sq_ ?_; exact HO_12.out⟩, ⟨by refine bq_ ?_; exact BK398.out⟩, ⟨by repeat (first | (with_reducible first | exact HB.out | apply below_alloc | apply pw_below_drewN | apply below_drew1 | refine below_set ?_ GE398.out) | exact HB.out)⟩⟩
         ·rw [if_neg c15] at H
          have c15b0 : (x14_1 == a1) = false := beq_eq_false_iff_ne.mpr c15; have c15b1 : (x14_1 != a1) = true := bne_iff_ne.mpr c15; have H' := am_ H; clear H
          go_wp2
          go_meet
          case rel => exact ⟨_, ((x14_1 != a2)), rs_, H', ⟨by have := HK1.out; have := HK2.out; first | omega | exact Nat.le_refl _⟩, ⟨by refine sq_ ?_; exact HO_12.out⟩, ⟨by refine bq_ ?_; exact BK398.out⟩, ⟨by repeat (first | (with_reducible first | exact HB.out | apply below_alloc | apply pw_below_drewN | apply below_drew1 | refine below_set ?_ GE398.out) | exact HB.out)⟩⟩
        ·rw [if_neg c14] at H
         have c14b0 : decide (x15_2 ≤ a3) = false := decide_eq_false c14; clear c14
         (first | rw [c14b0] | (simp only [i64_w, i32_w]; rw [c14b0]) | skip)
         have H' := am_ H; clear H
         go_wp2
         go_meet
         case rel => exact ⟨_, (false), rs_, H', ⟨by have := HK1.out; have := HK2.out; first | omega | exact Nat.le_refl _⟩, ⟨by refine sq_ ?_; exact HO_12.out⟩, ⟨by refine bq_ ?_; exact BK398.out⟩, ⟨by repeat (first | (with_reducible first | exact HB.out | apply below_alloc | apply pw_below_drewN | apply below_drew1 | refine below_set ?_ GE398.out) | exact HB.out)⟩⟩
       case rest =>
        clear HC13
        try clear c1
        try clear p2
        try clear c4
        try clear c7
        try clear c7b0
        try clear c7b1
        try clear c11
        try clear c11b0
        try clear c12
        try clear c14
        try clear c14b0
        try clear c15
        try clear c15b0
        try clear c15b1
        try clear hcz12_0
        try clear hcz12_1
        try clear hcz12_2
        try clear hcz9_0
        try clear hcz9_1
        try clear hcz9_2
        try clear hfz12_0
        try clear hfz12_1
        try clear hfz12_2
        try clear hfz9_0
        try clear hfz9_1
        try clear hfz9_2
        try clear p2
        obtain ⟨kq, x46_12, rfl, HA, HJ12, HO_12, BK398, HB⟩ := hcut
        cases kq with
        | zero => exact absurd HA.out (by simp [ebbtideref14_Check.j2])
        | succ kj12 =>
         have H := HA.out; clear HA; simp only [ebbtideref14_Check.j2] at H
         by_cases c16 : x46_12 = true
         ·subst c16
          have H1 : (if 0 ≤ x15_2 then (if x15_2 < (t399.length : Int) then (if 0 ≤ x14_1 then (if x14_1 < ((rd_L3 t399 x15_2).length : Int) then (if (rd (rd_L3 t399 x15_2) x14_1) < 0 then (some (0, 141)) else (if (rd (rd_L3 t399 x15_2) x14_1) > 0 then (if a0_1 = true then (if x15_2 = a3 then (some (0, 141)) else (ebbtideref14_Check.l1 kj12 a1 a2 a3 t399 x14_1 (wrap64 (x15_2 + 1)) a0_0 a0_1 l0_2)) else (some (0, 141))) else (ebbtideref14_Check.l1 kj12 a1 a2 a3 t399 x14_1 (wrap64 (x15_2 + 1)) a0_0 a0_1 l0_2))) else (none)) else (none)) else (none)) else (none)) = some (r1, r2) := by rw [if_pos rfl] at H; exact H
          clear H; have H := H1; clear H1
          by_cases c17 : 0 ≤ x15_2
          ·rw [if_pos c17] at H
           have c17b0 : decide (0 ≤ x15_2) = true := decide_eq_true c17; clear c17
           by_cases c18 : x15_2 < (t399.length : Int)
           ·rw [if_pos c18] at H
            have c18b0 : decide (x15_2 < (t399.length : Int)) = true := decide_eq_true c18; clear c18
            by_cases c19 : 0 ≤ x14_1
            ·rw [if_pos c19] at H
             have c19b0 : decide (0 ≤ x14_1) = true := decide_eq_true c19; clear c19
             by_cases c20 : x14_1 < ((rd_L3 t399 x15_2).length : Int)
             ·rw [if_pos c20] at H
              have c20b0 : decide (x14_1 < ((rd_L3 t399 x15_2).length : Int)) = true := decide_eq_true c20; clear c20
              by_cases c21 : (rd (rd_L3 t399 x15_2) x14_1) < 0
              ·rw [if_pos c21] at H
               have c21b0 : decide ((rd (rd_L3 t399 x15_2) x14_1) < 0) = true := decide_eq_true c21; clear c21; simp only [Option.some.injEq, Prod.mk.injEq] at H; obtain ⟨rfl, rfl⟩ := H; obtain ⟨Ao22, co22, eo22⟩ := Kd.S_slice HO_12.out; subst eo22; have p405 : 0 ≤ (x15_2 : Int) := of_decide_eq_true sm_; have q405 : x15_2 < (t399.length : Int) := of_decide_eq_true sm_; obtain ⟨ad405, A405_0, c405_0, e405, hx405_0, hl405_0, hi405_0⟩ := at_L3 (Kd.S_reads' HO_12.out).2.2 x15_2 p405 q405; cases e405; obtain ⟨ce405, hce405, hMe405, hcc405⟩ := Kd.S_get HO_12.out [] x15_2 p405 q15_; obtain ⟨ve405_0, rfl, ge405_0⟩ := hMe405; have hv405_0 := hcc405 0 _ rfl; rw [Nat.add_zero, show ((Kd.slice 3 (Kd.int .i64))).sz = 1 from rfl, Nat.mul_one] at hv405_0; replace hv405_0 := Option.some.inj (hv405_0.symm.trans hx405_0); rw [hv405_0] at ge405_0; have HL405_0 := am_ (show Kd.R (Kd.int .i64) 3 _ _ _ _ (rd_L3 t399 x15_2) from ge405_0); clear hv405_0 ge405_0; clear hcc405 hce405; have HR405_0 := am_ hi405_0; have HC405_0 := am_ hl405_0; clear hi405_0 hl405_0; replace p405 := eq_true p405; replace q405 := eq_true q405; have p406 : 0 ≤ (x14_1 : Int) := of_decide_eq_true sm_; have q406 : x14_1 < ((rd_L3 t399 x15_2).length : Int) := of_decide_eq_true sm_; obtain ⟨ad406, e406, hx406_0⟩ := Kd.at_int q6_ x14_1 p406 q406; cases e406; replace p406 := eq_true p406; replace q406 := eq_true q406
               go_wp2
               go_ret2
               exact ⟨by first | rfl | (simp [errW_none, errW_some] <;> rfl) | (simp [*, errW_none, errW_some] <;> rfl), by repeat (first | (with_reducible first | exact HB.out | apply below_alloc | apply pw_below_drewN | apply below_drew1 | refine below_set ?_ GE398.out) | exact HB.out)⟩
              ·rw [if_neg c21] at H
               have c21b0 : decide ((rd (rd_L3 t399 x15_2) x14_1) < 0) = false := decide_eq_false c21; clear c21
               by_cases c23 : (rd (rd_L3 t399 x15_2) x14_1) > 0
               ·rw [if_pos c23] at H
                have c23b0 : decide (0 < (rd (rd_L3 t399 x15_2) x14_1)) = true := decide_eq_true c23; clear c23
                by_cases c24 : a0_1 = true
                ·subst c24
                 have H1 : (if x15_2 = a3 then (some (0, 141)) else (ebbtideref14_Check.l1 kj12 a1 a2 a3 t399 x14_1 (wrap64 (x15_2 + 1)) a0_0 true l0_2)) = some (r1, r2) := by rw [if_pos rfl] at H; exact H
                 clear H; have H := H1; clear H1
                 by_cases c25 : x15_2 = a3
                 ·rw [if_pos c25] at H
                  have c25b0 : (x15_2 == a3) = true := beq_iff_eq.mpr c25; have c25b1 : (x15_2 != a3) = false := bne_eq_false_iff_eq.mpr c25; clear c25; simp only [Option.some.injEq, Prod.mk.injEq] at H; obtain ⟨rfl, rfl⟩ := H; obtain ⟨Ao26, co26, eo26⟩ := Kd.S_slice HO_12.out; subst eo26; have p405 : 0 ≤ (x15_2 : Int) := of_decide_eq_true sm_; have q405 : x15_2 < (t399.length : Int) := of_decide_eq_true sm_; obtain ⟨ad405, A405_0, c405_0, e405, hx405_0, hl405_0, hi405_0⟩ := at_L3 (Kd.S_reads' HO_12.out).2.2 x15_2 p405 q405; cases e405; obtain ⟨ce405, hce405, hMe405, hcc405⟩ := Kd.S_get HO_12.out [] x15_2 p405 q15_; obtain ⟨ve405_0, rfl, ge405_0⟩ := hMe405; have hv405_0 := hcc405 0 _ rfl; rw [Nat.add_zero, show ((Kd.slice 3 (Kd.int .i64))).sz = 1 from rfl, Nat.mul_one] at hv405_0; replace hv405_0 := Option.some.inj (hv405_0.symm.trans hx405_0); rw [hv405_0] at ge405_0; have HL405_0 := am_ (show Kd.R (Kd.int .i64) 3 _ _ _ _ (rd_L3 t399 x15_2) from ge405_0); clear hv405_0 ge405_0; clear hcc405 hce405; have HR405_0 := am_ hi405_0; have HC405_0 := am_ hl405_0; clear hi405_0 hl405_0; replace p405 := eq_true p405; replace q405 := eq_true q405; have p406 : 0 ≤ (x14_1 : Int) := of_decide_eq_true sm_; have q406 : x14_1 < ((rd_L3 t399 x15_2).length : Int) := of_decide_eq_true sm_; obtain ⟨ad406, e406, hx406_0⟩ := Kd.at_int q6_ x14_1 p406 q406; cases e406; replace p406 := eq_true p406; replace q406 := eq_true q406; have p407 : 0 ≤ (x15_2 : Int) := of_decide_eq_true sm_; have q407 : x15_2 < (t399.length : Int) := of_decide_eq_true sm_; obtain ⟨ad407, A407_0, c407_0, e407, hx407_0, hl407_0, hi407_0⟩ := at_L3 (Kd.S_reads' HO_12.out).2.2 x15_2 p407 q407; obtain rfl : ad405 = ad407 := (by injection e407); obtain ⟨ce407, hce407, hMe407, hcc407⟩ := Kd.S_get HO_12.out [] x15_2 p407 (by first | exact q407 | exact of_decide_eq_true sm_ | (have e_ := (Kd.S_reads' HO_12.out).1; omega)); obtain ⟨ve407_0, rfl, ge407_0⟩ := hMe407; have hv407_0 := hcc407 0 _ rfl; rw [Nat.add_zero, show ((Kd.slice 3 (Kd.int .i64))).sz = 1 from rfl, Nat.mul_one] at hv407_0; replace hv407_0 := Option.some.inj (hv407_0.symm.trans hx407_0); rw [hv407_0] at ge407_0; have HL407_0 := am_ (show Kd.R (Kd.int .i64) 3 _ _ _ _ (rd_L3 t399 x15_2) from ge407_0); clear hv407_0 ge407_0; clear hcc407 hce407; have HR407_0 := am_ hi407_0; have HC407_0 := am_ hl407_0; clear hi407_0 hl407_0; replace p407 := eq_true p407; replace q407 := eq_true q407; have ea_ := Option.some.inj (hx405_0.symm.trans hx407_0)
                  injection ea_ with ea_ en_ ec_
                  subst ea_; subst ec_; clear en_; have p408 : 0 ≤ (x14_1 : Int) := of_decide_eq_true sm_; have q408 : x14_1 < ((rd_L3 t399 x15_2).length : Int) := of_decide_eq_true sm_; obtain ⟨ad408, e408, hx408_0⟩ := Kd.at_int q10_ x14_1 p408 q408; cases e408; replace p408 := eq_true p408; replace q408 := eq_true q408; have hcz27_0 : wc.cell? ⟨gb398, 0, none⟩ = some (.int .i64 a0_0) := (blk_cell BK398.out 0).trans rfl; have hcz27_1 : wc.cell? ⟨gb398, 1, none⟩ = some (.bool true) := (blk_cell BK398.out 1).trans rfl; have hcz27_2 : wc.cell? ⟨gb398, 2, none⟩ = some (.slice A0_2 l0_2.length c0_2) := (blk_cell BK398.out 2).trans rfl; have hfz27_0 := blk_frozen BK398.out 0; have hfz27_1 := blk_frozen BK398.out 1; have hfz27_2 := blk_frozen BK398.out 2
                  go_wp2
                  go_ret2
                  exact ⟨by first | rfl | (simp [errW_none, errW_some] <;> rfl) | (simp [*, errW_none, errW_some] <;> rfl), by repeat (first | (with_reducible first | exact HB.out | apply below_alloc | apply pw_below_drewN | apply below_drew1 | refine below_set ?_ GE398.out) | exact HB.out)⟩
                 ·rw [if_neg c25] at H
                  have c25b0 : (x15_2 == a3) = false := beq_eq_false_iff_ne.mpr c25; have c25b1 : (x15_2 != a3) = true := bne_iff_ne.mpr c25; have H' := am_ H; clear H; obtain ⟨Ao28, co28, eo28⟩ := Kd.S_slice HO_12.out; subst eo28; have p405 : 0 ≤ (x15_2 : Int) := of_decide_eq_true sm_; have q405 : x15_2 < (t399.length : Int) := of_decide_eq_true sm_; obtain ⟨ad405, A405_0, c405_0, e405, hx405_0, hl405_0, hi405_0⟩ := at_L3 (Kd.S_reads' HO_12.out).2.2 x15_2 p405 q405; cases e405; obtain ⟨ce405, hce405, hMe405, hcc405⟩ := Kd.S_get HO_12.out [] x15_2 p405 q15_; obtain ⟨ve405_0, rfl, ge405_0⟩ := hMe405; have hv405_0 := hcc405 0 _ rfl; rw [Nat.add_zero, show ((Kd.slice 3 (Kd.int .i64))).sz = 1 from rfl, Nat.mul_one] at hv405_0; replace hv405_0 := Option.some.inj (hv405_0.symm.trans hx405_0); rw [hv405_0] at ge405_0; have HL405_0 := am_ (show Kd.R (Kd.int .i64) 3 _ _ _ _ (rd_L3 t399 x15_2) from ge405_0); clear hv405_0 ge405_0; clear hcc405 hce405; have HR405_0 := am_ hi405_0; have HC405_0 := am_ hl405_0; clear hi405_0 hl405_0; replace p405 := eq_true p405; replace q405 := eq_true q405; have p406 : 0 ≤ (x14_1 : Int) := of_decide_eq_true sm_; have q406 : x14_1 < ((rd_L3 t399 x15_2).length : Int) := of_decide_eq_true sm_; obtain ⟨ad406, e406, hx406_0⟩ := Kd.at_int q6_ x14_1 p406 q406; cases e406; replace p406 := eq_true p406; replace q406 := eq_true q406; have p407 : 0 ≤ (x15_2 : Int) := of_decide_eq_true sm_; have q407 : x15_2 < (t399.length : Int) := of_decide_eq_true sm_; obtain ⟨ad407, A407_0, c407_0, e407, hx407_0, hl407_0, hi407_0⟩ := at_L3 (Kd.S_reads' HO_12.out).2.2 x15_2 p407 q407; obtain rfl : ad405 = ad407 := (by injection e407); obtain ⟨ce407, hce407, hMe407, hcc407⟩ := Kd.S_get HO_12.out [] x15_2 p407 (by first | exact q407 | exact of_decide_eq_true sm_ | (have e_ := (Kd.S_reads' HO_12.out).1; omega)); obtain ⟨ve407_0, rfl, ge407_0⟩ := hMe407; have hv407_0 := hcc407 0 _ rfl; rw [Nat.add_zero, show ((Kd.slice 3 (Kd.int .i64))).sz = 1 from rfl, Nat.mul_one] at hv407_0; replace hv407_0 := Option.some.inj (hv407_0.symm.trans hx407_0); rw [hv407_0] at ge407_0; have HL407_0 := am_ (show Kd.R (Kd.int .i64) 3 _ _ _ _ (rd_L3 t399 x15_2) from ge407_0); clear hv407_0 ge407_0; clear hcc407 hce407; have HR407_0 := am_ hi407_0; have HC407_0 := am_ hl407_0; clear hi407_0 hl407_0; replace p407 := eq_true p407; replace q407 := eq_true q407; have ea_ := Option.some.inj (hx405_0.symm.trans hx407_0)
                  injection ea_ with ea_ en_ ec_
                  subst ea_; subst ec_; clear en_; have p408 : 0 ≤ (x14_1 : Int) := of_decide_eq_true sm_; have q408 : x14_1 < ((rd_L3 t399 x15_2).length : Int) := of_decide_eq_true sm_; obtain ⟨ad408, e408, hx408_0⟩ := Kd.at_int q10_ x14_1 p408 q408; cases e408; replace p408 := eq_true p408; replace q408 := eq_true q408; have hcz29_0 : wc.cell? ⟨gb398, 0, none⟩ = some (.int .i64 a0_0) := (blk_cell BK398.out 0).trans rfl; have hcz29_1 : wc.cell? ⟨gb398, 1, none⟩ = some (.bool true) := (blk_cell BK398.out 1).trans rfl; have hcz29_2 : wc.cell? ⟨gb398, 2, none⟩ = some (.slice A0_2 l0_2.length c0_2) := (blk_cell BK398.out 2).trans rfl; have hfz29_0 := blk_frozen BK398.out 0; have hfz29_1 := blk_frozen BK398.out 1; have hfz29_2 := blk_frozen BK398.out 2
                  go_wp2
                  go_roundg kj12
                  case measure => have := HK1.out; have := HK2.out; have := HJ12.out; omega
                  case rel => exact ⟨(wrap64 (x15_2 + 1)), rs_, H', ⟨by have := HK1.out; have := HK2.out; have := HJ12.out; omega⟩, ⟨by refine sq_ ?_; exact HO_12.out⟩, ⟨by refine bq_ ?_; exact BK398.out⟩, ⟨by repeat (first | (with_reducible first | exact HB.out | apply below_alloc | apply pw_below_drewN | apply below_drew1 | refine below_set ?_ GE398.out) | exact HB.out)⟩⟩
                ·replace c24 := Bool.eq_false_iff.mpr c24
                 subst c24
                 have H1 : (some (0, 141)) = some (r1, r2) := by rw [if_neg (show ¬ (false = true) by decide)] at H; exact H
                 clear H; have H := H1; clear H1; simp only [Option.some.injEq, Prod.mk.injEq] at H; obtain ⟨rfl, rfl⟩ := H; obtain ⟨Ao30, co30, eo30⟩ := Kd.S_slice HO_12.out; subst eo30; have p405 : 0 ≤ (x15_2 : Int) := of_decide_eq_true sm_; have q405 : x15_2 < (t399.length : Int) := of_decide_eq_true sm_; obtain ⟨ad405, A405_0, c405_0, e405, hx405_0, hl405_0, hi405_0⟩ := at_L3 (Kd.S_reads' HO_12.out).2.2 x15_2 p405 q405; cases e405; obtain ⟨ce405, hce405, hMe405, hcc405⟩ := Kd.S_get HO_12.out [] x15_2 p405 q15_; obtain ⟨ve405_0, rfl, ge405_0⟩ := hMe405; have hv405_0 := hcc405 0 _ rfl; rw [Nat.add_zero, show ((Kd.slice 3 (Kd.int .i64))).sz = 1 from rfl, Nat.mul_one] at hv405_0; replace hv405_0 := Option.some.inj (hv405_0.symm.trans hx405_0); rw [hv405_0] at ge405_0; have HL405_0 := am_ (show Kd.R (Kd.int .i64) 3 _ _ _ _ (rd_L3 t399 x15_2) from ge405_0); clear hv405_0 ge405_0; clear hcc405 hce405; have HR405_0 := am_ hi405_0; have HC405_0 := am_ hl405_0; clear hi405_0 hl405_0; replace p405 := eq_true p405; replace q405 := eq_true q405; have p406 : 0 ≤ (x14_1 : Int) := of_decide_eq_true sm_; have q406 : x14_1 < ((rd_L3 t399 x15_2).length : Int) := of_decide_eq_true sm_; obtain ⟨ad406, e406, hx406_0⟩ := Kd.at_int q6_ x14_1 p406 q406; cases e406; replace p406 := eq_true p406; replace q406 := eq_true q406; have p407 : 0 ≤ (x15_2 : Int) := of_decide_eq_true sm_; have q407 : x15_2 < (t399.length : Int) := of_decide_eq_true sm_; obtain ⟨ad407, A407_0, c407_0, e407, hx407_0, hl407_0, hi407_0⟩ := at_L3 (Kd.S_reads' HO_12.out).2.2 x15_2 p407 q407; obtain rfl : ad405 = ad407 := (by injection e407); obtain ⟨ce407, hce407, hMe407, hcc407⟩ := Kd.S_get HO_12.out [] x15_2 p407 (by first | exact q407 | exact of_decide_eq_true sm_ | (have e_ := (Kd.S_reads' HO_12.out).1; omega)); obtain ⟨ve407_0, rfl, ge407_0⟩ := hMe407; have hv407_0 := hcc407 0 _ rfl; rw [Nat.add_zero, show ((Kd.slice 3 (Kd.int .i64))).sz = 1 from rfl, Nat.mul_one] at hv407_0; replace hv407_0 := Option.some.inj (hv407_0.symm.trans hx407_0); rw [hv407_0] at ge407_0; have HL407_0 := am_ (show Kd.R (Kd.int .i64) 3 _ _ _ _ (rd_L3 t399 x15_2) from ge407_0); clear hv407_0 ge407_0; clear hcc407 hce407; have HR407_0 := am_ hi407_0; have HC407_0 := am_ hl407_0; clear hi407_0 hl407_0; replace p407 := eq_true p407; replace q407 := eq_true q407; have ea_ := Option.some.inj (hx405_0.symm.trans hx407_0)
                 injection ea_ with ea_ en_ ec_
                 subst ea_; subst ec_; clear en_; have p408 : 0 ≤ (x14_1 : Int) := of_decide_eq_true sm_; have q408 : x14_1 < ((rd_L3 t399 x15_2).length : Int) := of_decide_eq_true sm_; obtain ⟨ad408, e408, hx408_0⟩ := Kd.at_int q10_ x14_1 p408 q408; cases e408; replace p408 := eq_true p408; replace q408 := eq_true q408; have hcz31_0 : wc.cell? ⟨gb398, 0, none⟩ = some (.int .i64 a0_0) := (blk_cell BK398.out 0).trans rfl; have hcz31_1 : wc.cell? ⟨gb398, 1, none⟩ = some (.bool false) := (blk_cell BK398.out 1).trans rfl; have hcz31_2 : wc.cell? ⟨gb398, 2, none⟩ = some (.slice A0_2 l0_2.length c0_2) := (blk_cell BK398.out 2).trans rfl; have hfz31_0 := blk_frozen BK398.out 0; have hfz31_1 := blk_frozen BK398.out 1; have hfz31_2 := blk_frozen BK398.out 2
                 go_wp2
                 go_ret2
                 exact ⟨by first | rfl | (simp [errW_none, errW_some] <;> rfl) | (simp [*, errW_none, errW_some] <;> rfl), by repeat (first | (with_reducible first | exact HB.out | apply below_alloc | apply pw_below_drewN | apply below_drew1 | refine below_set ?_ GE398.out) | exact HB.out)⟩
               ·rw [if_neg c23] at H
                have c23b0 : decide (0 < (rd (rd_L3 t399 x15_2) x14_1)) = false := decide_eq_false c23; clear c23; have H' := am_ H; clear H; obtain ⟨Ao32, co32, eo32⟩ := Kd.S_slice HO_12.out; subst eo32; have p405 : 0 ≤ (x15_2 : Int) := of_decide_eq_true sm_; have q405 : x15_2 < (t399.length : Int) := of_decide_eq_true sm_; obtain ⟨ad405, A405_0, c405_0, e405, hx405_0, hl405_0, hi405_0⟩ := at_L3 (Kd.S_reads' HO_12.out).2.2 x15_2 p405 q405; cases e405; obtain ⟨ce405, hce405, hMe405, hcc405⟩ := Kd.S_get HO_12.out [] x15_2 p405 q15_; obtain ⟨ve405_0, rfl, ge405_0⟩ := hMe405; have hv405_0 := hcc405 0 _ rfl; rw [Nat.add_zero, show ((Kd.slice 3 (Kd.int .i64))).sz = 1 from rfl, Nat.mul_one] at hv405_0; replace hv405_0 := Option.some.inj (hv405_0.symm.trans hx405_0); rw [hv405_0] at ge405_0; have HL405_0 := am_ (show Kd.R (Kd.int .i64) 3 _ _ _ _ (rd_L3 t399 x15_2) from ge405_0); clear hv405_0 ge405_0; clear hcc405 hce405; have HR405_0 := am_ hi405_0; have HC405_0 := am_ hl405_0; clear hi405_0 hl405_0; replace p405 := eq_true p405; replace q405 := eq_true q405; have p406 : 0 ≤ (x14_1 : Int) := of_decide_eq_true sm_; have q406 : x14_1 < ((rd_L3 t399 x15_2).length : Int) := of_decide_eq_true sm_; obtain ⟨ad406, e406, hx406_0⟩ := Kd.at_int q6_ x14_1 p406 q406; cases e406; replace p406 := eq_true p406; replace q406 := eq_true q406; have p407 : 0 ≤ (x15_2 : Int) := of_decide_eq_true sm_; have q407 : x15_2 < (t399.length : Int) := of_decide_eq_true sm_; obtain ⟨ad407, A407_0, c407_0, e407, hx407_0, hl407_0, hi407_0⟩ := at_L3 (Kd.S_reads' HO_12.out).2.2 x15_2 p407 q407; obtain rfl : ad405 = ad407 := (by injection e407); obtain ⟨ce407, hce407, hMe407, hcc407⟩ := Kd.S_get HO_12.out [] x15_2 p407 (by first | exact q407 | exact of_decide_eq_true sm_ | (have e_ := (Kd.S_reads' HO_12.out).1; omega)); obtain ⟨ve407_0, rfl, ge407_0⟩ := hMe407; have hv407_0 := hcc407 0 _ rfl; rw [Nat.add_zero, show ((Kd.slice 3 (Kd.int .i64))).sz = 1 from rfl, Nat.mul_one] at hv407_0; replace hv407_0 := Option.some.inj (hv407_0.symm.trans hx407_0); rw [hv407_0] at ge407_0; have HL407_0 := am_ (show Kd.R (Kd.int .i64) 3 _ _ _ _ (rd_L3 t399 x15_2) from ge407_0); clear hv407_0 ge407_0; clear hcc407 hce407; have HR407_0 := am_ hi407_0; have HC407_0 := am_ hl407_0; clear hi407_0 hl407_0; replace p407 := eq_true p407; replace q407 := eq_true q407; have ea_ := Option.some.inj (hx405_0.symm.trans hx407_0)
                injection ea_ with ea_ en_ ec_
                subst ea_; subst ec_; clear en_; have p408 : 0 ≤ (x14_1 : Int) := of_decide_eq_true sm_; have q408 : x14_1 < ((rd_L3 t399 x15_2).length : Int) := of_decide_eq_true sm_; obtain ⟨ad408, e408, hx408_0⟩ := Kd.at_int q10_ x14_1 p408 q408; cases e408; replace p408 := eq_true p408; replace q408 := eq_true q408
                go_wp2
                go_roundg kj12
                case measure => have := HK1.out; have := HK2.out; have := HJ12.out; omega
                case rel => exact ⟨(wrap64 (x15_2 + 1)), rs_, H', ⟨by have := HK1.out; have := HK2.out; have := HJ12.out; omega⟩, ⟨by refine sq_ ?_; exact HO_12.out⟩, ⟨by refine bq_ ?_; exact BK398.out⟩, ⟨by repeat (first | (with_reducible first | exact HB.out | apply below_alloc | apply pw_below_drewN | apply below_drew1 | refine below_set ?_ GE398.out) | exact HB.out)⟩⟩
             ·rw [if_neg c20] at H
              exact absurd H (by simp)
            ·rw [if_neg c19] at H
             exact absurd H (by simp)
           ·rw [if_neg c18] at H
            exact absurd H (by simp)
          ·rw [if_neg c17] at H
           exact absurd H (by simp)
         ·replace c16 := Bool.eq_false_iff.mpr c16
          subst c16
          have H1 : (ebbtideref14_Check.l0 kj12 a1 a2 a3 t399 (wrap64 (x14_1 + 1)) a0_0 a0_1 l0_2) = some (r1, r2) := by rw [if_neg (show ¬ (false = true) by decide)] at H; exact H
          clear H; have H := H1; clear H1; have H' := am_ H; clear H
          go_wp2
          go_roundg kj12
          case measure => have := HK1.out; have := HK2.out; have := HJ12.out; omega
          case rel => exact ⟨(wrap64 (x14_1 + 1)), rs_, H', ⟨by have := HK1.out; have := HK2.out; have := HJ12.out; omega⟩, ⟨by refine sq_ ?_; exact HO_12.out⟩, ⟨by refine bq_ ?_; exact BK398.out⟩, ⟨by repeat (first | (with_reducible first | exact HB.out | apply below_alloc | apply pw_below_drewN | apply below_drew1 | refine below_set ?_ GE398.out) | exact HB.out)⟩⟩
    ·rw [if_neg c11] at H
     have c11b0 : decide (x14_1 < a0_0) = false := decide_eq_false c11; clear c11
     by_cases c33 : 0 ≤ a3
     ·rw [if_pos c33] at H
      have c33b0 : decide (0 ≤ a3) = true := decide_eq_true c33; clear c33
      by_cases c34 : a3 < (t399.length : Int)
      ·rw [if_pos c34] at H
       have c34b0 : decide (a3 < (t399.length : Int)) = true := decide_eq_true c34; clear c34
       by_cases c35 : 0 ≤ a2
       ·rw [if_pos c35] at H
        have c35b0 : decide (0 ≤ a2) = true := decide_eq_true c35; clear c35
        by_cases c36 : a2 < ((rd_L3 t399 a3).length : Int)
        ·rw [if_pos c36] at H
         have c36b0 : decide (a2 < ((rd_L3 t399 a3).length : Int)) = true := decide_eq_true c36; clear c36; simp only [Option.some.injEq, Prod.mk.injEq] at H; obtain ⟨rfl, rfl⟩ := H; have hcz37_0 : wr.cell? ⟨gb398, 0, none⟩ = some (.int .i64 a0_0) := (blk_cell BK398.out 0).trans rfl; have hcz37_1 : wr.cell? ⟨gb398, 1, none⟩ = some (.bool a0_1) := (blk_cell BK398.out 1).trans rfl; have hcz37_2 : wr.cell? ⟨gb398, 2, none⟩ = some (.slice A0_2 l0_2.length c0_2) := (blk_cell BK398.out 2).trans rfl; have hfz37_0 := blk_frozen BK398.out 0; have hfz37_1 := blk_frozen BK398.out 1; have hfz37_2 := blk_frozen BK398.out 2; obtain ⟨Ao38, co38, eo38⟩ := Kd.S_slice HO_12.out; subst eo38; have p403 : 0 ≤ (a3 : Int) := of_decide_eq_true sm_; have q403 : a3 < (t399.length : Int) := of_decide_eq_true sm_; obtain ⟨ad403, A403_0, c403_0, e403, hx403_0, hl403_0, hi403_0⟩ := at_L3 (Kd.S_reads' HO_12.out).2.2 a3 p403 q403; cases e403; obtain ⟨ce403, hce403, hMe403, hcc403⟩ := Kd.S_get HO_12.out [] a3 p403 (by first | exact q403 | exact of_decide_eq_true sm_ | (have e_ := (Kd.S_reads' HO_12.out).1; omega)); obtain ⟨ve403_0, rfl, ge403_0⟩ := hMe403; have hv403_0 := hcc403 0 _ rfl; rw [Nat.add_zero, show ((Kd.slice 3 (Kd.int .i64))).sz = 1 from rfl, Nat.mul_one] at hv403_0; replace hv403_0 := Option.some.inj (hv403_0.symm.trans hx403_0); rw [hv403_0] at ge403_0; have HL403_0 := am_ (show Kd.R (Kd.int .i64) 3 _ _ _ _ (rd_L3 t399 a3) from ge403_0); clear hv403_0 ge403_0; clear hcc403 hce403; have HR403_0 := am_ hi403_0; have HC403_0 := am_ hl403_0; clear hi403_0 hl403_0; replace p403 := eq_true p403; replace q403 := eq_true q403; have p404 : 0 ≤ (a2 : Int) := of_decide_eq_true sm_; have q404 : a2 < ((rd_L3 t399 a3).length : Int) := of_decide_eq_true sm_; obtain ⟨ad404, e404, hx404_0⟩ := Kd.at_int (by repeat (first | (with_reducible exact HR403_0.out) | (with_reducible refine Kd.C_alloc ?_ _) | (with_reducible refine Kd.C_drewN ?_ _) | (with_reducible refine Kd.C_drew ?_) | exact HR403_0.out)) a2 p404 q404; cases e404; replace p404 := eq_true p404; replace q404 := eq_true q404
         go_wp2
         go_ret2
         exact ⟨by first | rfl | (simp [errW_none, errW_some] <;> rfl) | (simp [*, errW_none, errW_some] <;> rfl), by repeat (first | (with_reducible first | exact HB.out | apply below_alloc | apply pw_below_drewN | apply below_drew1 | refine below_set ?_ GE398.out) | exact HB.out)⟩
        ·rw [if_neg c36] at H
         exact absurd H (by simp)
       ·rw [if_neg c35] at H
        exact absurd H (by simp)
      ·rw [if_neg c34] at H
       exact absurd H (by simp)
     ·rw [if_neg c33] at H
      exact absurd H (by simp)
 ·rw [if_neg c7] at H
  have c7b0 : (t402 == 0) = false := beq_eq_false_iff_ne.mpr c7; have c7b1 : (t402 != 0) = true := bne_iff_ne.mpr c7; simp only [Option.some.injEq, Prod.mk.injEq] at H; obtain ⟨rfl, rfl⟩ := H
  go_enter Try.func16, Try.ntmps16
  go_wp2_with (first | ((with_reducible refine gate_dst (N := 5) rfl ?_); refine box_event ?hg (N := 5) ?hd (cs := #[.int .i64 a0_0, .bool a0_1, .slice A0_2 l0_2.length c0_2]) (t := 24) ?hr ?_; (case hd => rfl); (case hg => rfl); (case hr => first | (go_simp; done) | (go_simp; rfl)); intro gb398 hg w39 hbox hb; have BK398 := am_ (hbox); have GE398 := am_ ((by rw [hg]; exact (below_size hb_) : w.heap.size ≤ gb398)); replace HB := am_ (below_step hb_ hb); clear hb hbox hg; have hcz40_0 : w39.cell? ⟨gb398, 0, none⟩ = some (.int .i64 a0_0) := (blk_cell BK398.out 0).trans rfl; have hcz40_1 : w39.cell? ⟨gb398, 1, none⟩ = some (.bool a0_1) := (blk_cell BK398.out 1).trans rfl; have hcz40_2 : w39.cell? ⟨gb398, 2, none⟩ = some (.slice A0_2 l0_2.length c0_2) := (blk_cell BK398.out 2).trans rfl; have hfz40_0 := blk_frozen BK398.out 0; have hfz40_1 := blk_frozen BK398.out 1; have hfz40_2 := blk_frozen BK398.out 2) | ((with_reducible refine gate_callee (f := 12) rfl ?_); refine goesL_ (some 22) rfl rfl Try.func12 (by kernel_rfl) rfl #[.agg #[.int .i64 a0_0, .bool a0_1, .slice A0_2 l0_2.length c0_2], .int .i64 a1, .int .i64 a2, .int .i64 a3, .slice A4 l4.length c4] rfl mt_ ?_; (with_reducible refine (ebbtideref14_Stocks.calls k a0_0 a0_1 _ _ l0_2 a1 a2 a3 _ _ l4 t399 t402 _ ?side1 ?side2 ?side3 ?side4 A6.out).mono ?_); (case side1 => repeat (first | exact (Kd.C_below HR0_2.out HB.out) | (with_reducible refine Kd.C_alloc ?_ _) | (with_reducible refine Kd.C_drewN ?_ _) | (with_reducible refine Kd.C_drew ?_))); (case side2 => exact HC0_2.out); (case side3 => repeat (first | exact (Kd.C_below HR4.out HB.out) | (with_reducible refine Kd.C_alloc ?_ _) | (with_reducible refine Kd.C_drewN ?_ _) | (with_reducible refine Kd.C_drew ?_))); (case side4 => exact HC4.out); rintro e w41 ⟨v400, rfl, ho0, hb⟩; refine ⟨_, rfl, ?_⟩; have HO401 := am_ (Kd.S_lower ho0 (below_size hb_)); replace BK398 := am_ (blk_below (g := gb398) (o := .cells #[.int .i64 a0_0, .bool a0_1, .slice A0_2 l0_2.length c0_2] 24 (0, 0)) (bq_ BK398.out) hb); replace HB := am_ (below_step hb_ hb); (try clear hb); (try clear hb2); (try clear hk); (try clear hi); (try clear ho0)))
  go_ret2
  exact ⟨by first | rfl | (simp [errW_none, errW_some] <;> rfl) | (simp [*, errW_none, errW_some] <;> rfl), by repeat (first | (with_reducible first | exact HB.out | apply below_alloc | apply pw_below_drewN | apply below_drew1 | refine below_set ?_ GE398.out) | exact HB.out)⟩
end Go.Proofs.Ytdghehebkalbgaa.Q
end
section
namespace Go.Proofs.Ytdghehebkalbgaa.P
open Go.RowKit Go.Proofs.Ytdghehebkalbgaa.Q Go.Proofs.YtdghehebkalbgaaW.PrintWords Go.Proofs.YtdghehebkalbgaaW.PrintLast Go.Proofs.YtdghehebkalbgaaW.PrintMore
theorem wi64 (n : Int) : IntKind.i64.wrap n = wrap64 n := by
  simp [IntKind.wrap, IntKind.bits, IntKind.signed, wrap64]; split <;> omega
theorem ofInt_nat (a : Int) : ((BitVec.ofInt 64 a).toNat : Int) = a % 18446744073709551616 := by
  rw [BitVec.toNat_ofInt]
  omega
theorem w64_id {n : Int} (h0 : -9223372036854775808 ≤ n) (h1 : n ≤ 9223372036854775807) : wrap64 n = n := by unfold wrap64; omega
theorem and_low {a : Int} (_h0 : -9223372036854775808 ≤ a) (_h1 : a ≤ 9223372036854775807) : Go.bits .and .i64 a 4294967295 = a % 4294967296 := by
  show IntKind.i64.wrap ((BitVec.ofInt 64 a &&& BitVec.ofInt 64 4294967295).toNat) = _
  have ha := ofInt_nat a
  have hm : (BitVec.ofInt 64 4294967295).toNat = 2 ^ 32 - 1 := by decide
  rw [wi64, BitVec.toNat_and, hm, Nat.and_two_pow_sub_one_eq_mod]
  unfold wrap64
  omega
def sh (l : List Int) : Int := (l.map fun x => x / 4294967296).sum
def sl (l : List Int) : Int := (l.map fun x => x % 4294967296).sum
theorem halves (l : List Int) : l.sum = sh l * 4294967296 + sl l := by
  unfold sh sl
  induction l with
  | nil => rfl
  | cons x r ih => simp only [List.map_cons, List.sum_cons, ih]; omega
theorem half_bd (l : List Int) (h : ∀ x ∈ l, -9223372036854775808 ≤ x ∧ x ≤ 9223372036854775807) : -2147483648 * (l.length : Int) ≤ sh l ∧ sh l ≤ 2147483647 * (l.length : Int) ∧ 0 ≤ sl l ∧ sl l ≤ 4294967295 * (l.length : Int) := by
  unfold sh sl
  induction l with
  | nil => simp
  | cons x r ih =>
    have := ih (fun y hy => h y (List.mem_cons_of_mem _ hy))
    have := h x List.mem_cons_self
    simp only [List.map_cons, List.sum_cons, List.length_cons]
    omega
theorem rsum_loop (l : List Int) (hl : l.length ≤ 1048576) (hw : ∀ x ∈ l, -9223372036854775808 ≤ x ∧ x ≤ 9223372036854775807) (d : Nat) : ∀ (j k : Nat), j + d = l.length → d < k →
    ebbtideref01_Sum.l0 k l (sh (l.take j)) (sl (l.take j)) (j : Int) = some (sumFit l.sum) := by
  induction d with
  | zero =>
    intro j k hj hk
    obtain ⟨k, rfl⟩ : ∃ m, k = m + 1 := ⟨k - 1, by omega⟩
    have hb := half_bd l hw
    have hs := halves l
    rw [ebbtideref01_Sum.l0, if_neg (by omega), List.take_of_length_le (by omega), and_low (by omega) (by omega), w64_id (n := sh l + sl l / 4294967296) (by omega) (by omega)]
    unfold sumFit
    by_cases c : -9223372036854775808 ≤ l.sum ∧ l.sum ≤ 9223372036854775807
    · rw [if_pos c, if_neg (by omega), if_neg (by omega), w64_id (n := (sh l + sl l / 4294967296) * 4294967296) (by omega) (by omega), w64_id (by omega) (by omega)]
      exact congrArg some (Prod.ext (by show _ = _; simp only; omega) rfl)
    · rw [if_neg c]
      by_cases c1 : sh l + sl l / 4294967296 < -2147483648
      · rw [if_pos c1]
      · rw [if_neg c1, if_pos (by omega)]
  | succ d ih =>
    intro j k hj hk
    obtain ⟨k, rfl⟩ : ∃ m, k = m + 1 := ⟨k - 1, by omega⟩
    have hlt : j < l.length := by omega
    have hx := hw l[j] (List.getElem_mem hlt)
    have hb := half_bd (l.take j) (fun x hx => hw x (List.mem_of_mem_take hx))
    have hlen : (l.take j).length = j := by rw [List.length_take]; omega
    rw [hlen] at hb
    have e1 : sh (l.take (j + 1)) = sh (l.take j) + l[j] / 4294967296 := by unfold sh; rw [List.take_succ_eq_append_getElem hlt, List.map_append, List.sum_append]; simp
    have e2 : sl (l.take (j + 1)) = sl (l.take j) + l[j] % 4294967296 := by unfold sl; rw [List.take_succ_eq_append_getElem hlt, List.map_append, List.sum_append]; simp
    rw [ebbtideref01_Sum.l0, if_pos (by omega), if_pos (by omega), rd_at hlt, and_low hx.1 hx.2, w64_id (n := sh (l.take j) + l[j] / 4294967296) (by omega) (by omega), w64_id (n := sl (l.take j) + l[j] % 4294967296) (by omega) (by omega), w64_id (n := (j : Int) + 1) (by omega) (by omega), ← e1, ← e2]
    exact ih (j + 1) k (by omega) (by omega)
theorem csum_eq {l : List Int} (hl : l.length ≤ 1152921504606846976) (hw : ∀ x ∈ l, -9223372036854775808 ≤ x ∧ x ≤ 9223372036854775807) : checked_Sum.f l = some (sumFit l.sum) := by
  unfold checked_Sum.f
  rw [if_pos]
  simp only [sumOk, Bool.and_eq_true, List.all_eq_true, decide_eq_true_eq]
  exact ⟨hw, hl⟩
theorem rsum_eq {l : List Int} (hl : l.length ≤ 1048576) (hw : ∀ x ∈ l, -9223372036854775808 ≤ x ∧ x ≤ 9223372036854775807) {k : Nat} (hk : l.length < k) : ebbtideref01_Sum.f k l = some (sumFit l.sum) :=
  rsum_loop l hl hw l.length 0 k (by omega) hk
end Go.Proofs.Ytdghehebkalbgaa.P
end
