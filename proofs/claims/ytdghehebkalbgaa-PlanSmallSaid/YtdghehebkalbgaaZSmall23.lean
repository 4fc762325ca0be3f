/- A part of the proof: words, contracts, plain lemmas. Conditions: none. -/
import Derived.Test.YtdghehebkalbgaaZSmall4
import Derived.Test.YtdghehebkalbgaaZSmall21
import Derived.Test.YtdghehebkalbgaaZSmall22
section
namespace Go.Proofs.Ytdghehebkalbgaa.Q
open Go.RowKit Go.Proofs.YtdghehebkalbgaaW.PrintWords Go.Proofs.YtdghehebkalbgaaW.PrintLast Go.Proofs.YtdghehebkalbgaaW.PrintMore
attribute [local go_sem] max2_int min2_int max_two min_two min_four
set_option linter.unusedVariables false
set_option linter.unusedSimpArgs false
mutual
def ebbtideref14_Stocks.l0 : Nat → Int → List (S45) → List (List Int) → Int → Int → Bool → List (S47) → Option ((List (List Int)) × Int)
 | 0, _, _, _, _, _, _, _ => none
 | k + 1, x3, x12, x14, x15, x343000, x343001, x343002 => if x15 ≤ x3 then (ebbtideref14_Stocks.l1 k x3 x12 x14 x15 ([] : List Int) 0 x343000 x343001 x343002) else (some (x14, 0))
def ebbtideref14_Stocks.l1 : Nat → Int → List (S45) → List (List Int) → Int → List Int → Int → Int → Bool → List (S47) → Option ((List (List Int)) × Int)
 | 0, _, _, _, _, _, _, _, _, _ => none
 | k + 1, x3, x12, x14, x15, x16, x17, x343000, x343001, x343002 => if x17 < x343000 then ((ebbtideref14_Stock.f k x343000 x343001 x343002 x12 x17 x15).bind fun t347 => (if x16.length < 17592186044416 then (ebbtideref14_Stocks.l1 k x3 x12 x14 x15 (x16 ++ [t347]) (wrap64 (x17 + 1)) x343000 x343001 x343002) else (none))) else (if x14.length < 5864062014805 then (ebbtideref14_Stocks.l0 k x3 x12 (x14 ++ [x16]) (wrap64 (x15 + 1)) x343000 x343001 x343002) else (none))
end
def ebbtideref14_Stocks.f (k : Nat) (a0_0 : Int) (a0_1 : Bool) (l0_2 : List (S47)) (a1 : Int) (a2 : Int) (a3 : Int) (l4 : List (S45)) : Option ((List (List Int)) × Int) := (ebbtideref14_Merged.f k a0_0 a0_1 l0_2 a1 a2 a3 l4).bind fun bt343 => (if bt343.2 = 0 then (ebbtideref14_Stocks.l0 k a3 bt343.1 ([] : List (List Int)) 0 a0_0 a0_1 l0_2) else (some (([] : List (List Int)), bt343.2)))
set_option maxHeartbeats 8000000 in
set_option maxRecDepth 100000 in
theorem ebbtideref14_Stocks.calls (k : Nat) (a0_0 : Int) (a0_1 : Bool) (A0_2 : Option Addr) (c0_2 : Nat) (l0_2 : List (S47)) (a1 : Int) (a2 : Int) (a3 : Int) (A4 : Option Addr) (c4 : Nat) (l4 : List (S45)) (r1 : List (List Int)) (r2 : Int) (w : World) (hr0_2 : Kd.C k47 w A0_2 l0_2.length l0_2) (hc0_2 : l0_2.length ≤ c0_2) (hr4 : Kd.C k45 w A4 l4.length l4) (hc4 : l4.length ≤ c4) (h : ebbtideref14_Stocks.f k a0_0 a0_1 l0_2 a1 a2 a3 l4 = some (r1, r2)) :
  Calls Try.prog 12 #[.agg #[.int .i64 a0_0, .bool a0_1, .slice A0_2 l0_2.length c0_2], .int .i64 a1, .int .i64 a2, .int .i64 a3, .slice A4 l4.length c4] w fun e w' => ∃ v0_ : Value, e = .returned (.tuple #[v0_, .int .i64 r2]) ∧ Kd.S (Kd.slice 3 (Kd.int .i64)) 48 w' w.heap.size (fun _ => True) v0_ r1 ∧ Below w.heap.size w w' := by
 have hu24 := Try.underlying24; have HR0_2 := am_ hr0_2; have HC0_2 := am_ hc0_2; clear hr0_2 hc0_2; have HR4 := am_ hr4; have HC4 := am_ hc4; clear hr4 hc4; have HB := am_ (Below.refl w.heap.size w); have H : ((ebbtideref14_Merged.f k a0_0 a0_1 l0_2 a1 a2 a3 l4).bind fun bt343 => (if bt343.2 = 0 then (ebbtideref14_Stocks.l0 k a3 bt343.1 ([] : List (List Int)) 0 a0_0 a0_1 l0_2) else (some (([] : List (List Int)), bt343.2)))) = some (r1, r2) := h; clear h; replace H := Option.bind_eq_some_iff.mp H; obtain ⟨⟨t343, t346⟩, A60, H⟩ := H; replace H : (if t346 = 0 then (ebbtideref14_Stocks.l0 k a3 t343 ([] : List (List Int)) 0 a0_0 a0_1 l0_2) else (some (([] : List (List Int)), t346))) = some (r1, r2) := H; have A6 := am_ A60; clear A60
 by_cases c7 : t346 = 0
 ·rw [if_pos c7] at H
  have c7b0 : (t346 == 0) = true := beq_iff_eq.mpr c7; have c7b1 : (t346 != 0) = false := bne_eq_false_iff_eq.mpr c7; clear c7; have H' := am_ H; clear H
  go_enter Try.func12, Try.ntmps12
  go_wp2_with (first | ((with_reducible refine gate_dst (N := 5) rfl ?_); refine box_event ?hg (N := 5) ?hd (cs := #[.int .i64 a0_0, .bool a0_1, .slice A0_2 l0_2.length c0_2]) (t := 24) ?hr ?_; (case hd => rfl); (case hg => rfl); (case hr => first | (go_simp; done) | (go_simp; rfl)); intro gb342 hg w8 hbox hb; have BK342 := am_ (hbox); have GE342 := am_ ((by rw [hg]; exact (below_size hb_) : w.heap.size ≤ gb342)); replace HB := am_ (below_step hb_ hb); clear hb hbox hg; have hcz9_0 : w8.cell? ⟨gb342, 0, none⟩ = some (.int .i64 a0_0) := (blk_cell BK342.out 0).trans rfl; have hcz9_1 : w8.cell? ⟨gb342, 1, none⟩ = some (.bool a0_1) := (blk_cell BK342.out 1).trans rfl; have hcz9_2 : w8.cell? ⟨gb342, 2, none⟩ = some (.slice A0_2 l0_2.length c0_2) := (blk_cell BK342.out 2).trans rfl; have hfz9_0 := blk_frozen BK342.out 0; have hfz9_1 := blk_frozen BK342.out 1; have hfz9_2 := blk_frozen BK342.out 2) | ((with_reducible refine gate_callee (f := 26) rfl ?_); refine goesL_ (some 24) rfl rfl Try.func26 (by kernel_rfl) rfl #[.agg #[.int .i64 a0_0, .bool a0_1, .slice A0_2 l0_2.length c0_2], .int .i64 a1, .int .i64 a2, .int .i64 a3, .slice A4 l4.length c4] rfl mt_ ?_; (with_reducible refine (ebbtideref14_Merged.calls k a0_0 a0_1 _ _ l0_2 a1 a2 a3 _ _ l4 t343 t346 _ ?side1 ?side2 ?side3 ?side4 A6.out).mono ?_); (case side1 => repeat (first | exact (Kd.C_below HR0_2.out HB.out) | (with_reducible refine Kd.C_alloc ?_ _) | (with_reducible refine Kd.C_drewN ?_ _) | (with_reducible refine Kd.C_drew ?_))); (case side2 => exact HC0_2.out); (case side3 => repeat (first | exact (Kd.C_below HR4.out HB.out) | (with_reducible refine Kd.C_alloc ?_ _) | (with_reducible refine Kd.C_drewN ?_ _) | (with_reducible refine Kd.C_drew ?_))); (case side4 => exact HC4.out); rintro e w10 ⟨v344, rfl, ho0, hb⟩; refine ⟨_, rfl, ?_⟩; have HO345 := am_ (Kd.R_lower ho0 (below_size hb_)); replace BK342 := am_ (blk_below (g := gb342) (o := .cells #[.int .i64 a0_0, .bool a0_1, .slice A0_2 l0_2.length c0_2] 24 (0, 0)) (bq_ BK342.out) hb); replace HB := am_ (below_step hb_ hb); (try clear hb); (try clear hb2); (try clear hk); (try clear hi); (try clear ho0)))
  go_loopg [14, 15] k (fun kq v14 v15 w' => ∃ (x14_1 : List (List Int)) (x15_1 : Int), v15 = .int .i64 x15_1 ∧ Aside0 (ebbtideref14_Stocks.l0 kq a3 t343 x14_1 x15_1 a0_0 a0_1 l0_2 = some (r1, r2)) ∧ Aside0 (kq ≤ k) ∧ Aside0 (Kd.R k45 45 w' w.heap.size (fun _ => True) v344 t343) ∧ Aside0 (Kd.S (Kd.slice 3 (Kd.int .i64)) 48 w' w.heap.size (fun _ => True) v14 x14_1) ∧ Aside0 (w'.heap[gb342]? = some (.cells #[.int .i64 a0_0, .bool a0_1, (.slice A0_2 l0_2.length c0_2)] 24 (0, 0))) ∧ Aside0 (Below w.heap.size w w'))
  case atStart => exact ⟨(([] : List (List Int))), (0), rs_, H', ⟨Nat.le_refl _⟩, ⟨by refine rq_ ?_; exact HO345.out⟩, ⟨by first | exact Kd.S_nil _ _ _ _ _ | exact Kd.N_nil _ _ _ _ _ | exact Kd.V_nil _ _ _ _ _ | exact Kd.Q_nil _ _ _ _ _ | exact Kd.R_nil _ _ _ _ _⟩, ⟨by refine bq_ ?_; exact BK342.out⟩, ⟨by repeat (first | (with_reducible first | exact HB.out | apply below_alloc | apply pw_below_drewN | apply below_drew1 | refine below_set ?_ GE342.out) | exact HB.out)⟩⟩
  case round =>
   clear H'
   try clear c1
   try clear c2
   try clear p2
   try clear c4
   try clear c7
   try clear c7b0
   try clear c7b1
   try clear hcz9_0
   try clear hcz9_1
   try clear hcz9_2
   try clear hfz9_0
   try clear hfz9_1
   try clear hfz9_2
   obtain ⟨x14_1, x15_1, rfl, HA, HK1, HO_12, HO_14, BK342, HB⟩ := hrel
   cases gk with
   | zero => exact absurd HA.out (by simp [ebbtideref14_Stocks.l0])
   | succ k1 =>
    have H := HA.out; clear HA; simp only [ebbtideref14_Stocks.l0] at H
    by_cases c11 : x15_1 ≤ a3
    ·rw [if_pos c11] at H
     have c11b0 : decide (x15_1 ≤ a3) = true := decide_eq_true c11; clear c11; have H' := am_ H; clear H
     go_wp2
     go_loopg [16, 17] k1 (fun kq v16 v17 w' => ∃ (x16_2 : List Int) (x17_2 : Int), v17 = .int .i64 x17_2 ∧ Aside0 (ebbtideref14_Stocks.l1 kq a3 t343 x14_1 x15_1 x16_2 x17_2 a0_0 a0_1 l0_2 = some (r1, r2)) ∧ Aside0 (kq ≤ k1) ∧ Aside0 (Kd.R k45 45 w' w.heap.size (fun _ => True) v344 t343) ∧ Aside0 (Kd.S (Kd.slice 3 (Kd.int .i64)) 48 w' w.heap.size (fun k_ => some k_ ≠ (v16 : Value).ownBlock) u14 x14_1) ∧ Aside0 (Kd.R (Kd.int .i64) 3 w' w.heap.size (fun _ => True) v16 x16_2) ∧ Aside0 (w'.heap[gb342]? = some (.cells #[.int .i64 a0_0, .bool a0_1, (.slice A0_2 l0_2.length c0_2)] 24 (0, 0))) ∧ Aside0 (Below w.heap.size w w'))
     case atStart => exact ⟨(([] : List Int)), (0), rs_, H', ⟨Nat.le_refl _⟩, ⟨by refine rq_ ?_; exact HO_12.out⟩, ⟨by refine sq_ ?_; exact Kd.S_mono HO_14.out (fun _ hk => (by simp [Value.ownBlock]))⟩, ⟨by first | exact Kd.R_nil _ _ _ _ _ | exact Kd.N_nil _ _ _ _ _ | exact Kd.V_nil _ _ _ _ _ | exact Kd.Q_nil _ _ _ _ _ | exact Kd.S_nil _ _ _ _ _⟩, ⟨by refine bq_ ?_; exact BK342.out⟩, ⟨by repeat (first | (with_reducible first | exact HB.out | apply below_alloc | apply pw_below_drewN | apply below_drew1 | refine below_set ?_ GE342.out) | exact HB.out)⟩⟩
     case round =>
      clear H'
      try clear c1
      try clear c2
      try clear p2
      try clear c4
      try clear c7
      try clear c7b0
      try clear c7b1
      try clear c11
      try clear c11b0
      try clear hcz9_0
      try clear hcz9_1
      try clear hcz9_2
      try clear hfz9_0
      try clear hfz9_1
      try clear hfz9_2
      try clear p2
      obtain ⟨x16_2, x17_2, rfl, HA, HK2, HO_12, HO_14, HO_16, BK342, HB⟩ := hrel
      cases gk with
      | zero => exact absurd HA.out (by simp [ebbtideref14_Stocks.l1])
      | succ k2 =>
       have H := HA.out; clear HA; simp only [ebbtideref14_Stocks.l1] at H
       by_cases c12 : x17_2 < a0_0
       ·rw [if_pos c12] at H
        have c12b0 : decide (x17_2 < a0_0) = true := decide_eq_true c12; clear c12; replace H := Option.bind_eq_some_iff.mp H; obtain ⟨t347, A130, H⟩ := H; replace H : (if x16_2.length < 17592186044416 then (ebbtideref14_Stocks.l1 k2 a3 t343 x14_1 x15_1 (x16_2 ++ [t347]) (wrap64 (x17_2 + 1)) a0_0 a0_1 l0_2) else (none)) = some (r1, r2) := H; have A13 := am_ A130; clear A130
        by_cases c14 : x16_2.length < 17592186044416
        ·rw [if_pos c14] at H
         have LMc14 := am_ c14; clear c14; obtain ⟨y348, hy348⟩ : ∃ y_ : List Int, y_ = (x16_2 ++ [t347]) := ⟨_, rfl⟩
         replace H : (ebbtideref14_Stocks.l1 k2 a3 t343 x14_1 x15_1 y348 (wrap64 (x17_2 + 1)) a0_0 a0_1 l0_2) = some (r1, r2) := by first | (rw [hy348]; with_reducible exact H) | (have H2_ := (Option.bind_some _ _).symm.trans H; rw [hy348]; with_reducible exact H2_) | (have H2_ := (Option.bind_some _ _).symm.trans H; with_reducible exact H2_) | with_reducible exact H | (rw [hy348]; exact H) | exact H
         have Ny348 := am_ hy348; clear hy348; have H' := am_ H; clear H; have hcz15_0 : wr.cell? ⟨gb342, 0, none⟩ = some (.int .i64 a0_0) := (blk_cell BK342.out 0).trans rfl; have hcz15_1 : wr.cell? ⟨gb342, 1, none⟩ = some (.bool a0_1) := (blk_cell BK342.out 1).trans rfl; have hcz15_2 : wr.cell? ⟨gb342, 2, none⟩ = some (.slice A0_2 l0_2.length c0_2) := (blk_cell BK342.out 2).trans rfl; have hfz15_0 := blk_frozen BK342.out 0; have hfz15_1 := blk_frozen BK342.out 1; have hfz15_2 := blk_frozen BK342.out 2; obtain ⟨Ao16, co16, eo16⟩ := Kd.R_slice HO_12.out; subst eo16
         go_wp2_with (first | ((with_reducible refine gate_callee (f := 27) rfl ?_); refine goesL_ (some 46) rfl rfl Try.func27 (by kernel_rfl) rfl #[.agg #[.int .i64 a0_0, .bool a0_1, .slice A0_2 l0_2.length c0_2], .slice Ao16 t343.length co16, .int .i64 x17_2, .int .i64 x15_1] rfl mt_ ?_; (with_reducible refine (ebbtideref14_Stock.calls k2 a0_0 a0_1 _ _ l0_2 _ _ t343 x17_2 x15_1 t347 _ ?side1 ?side2 ?side3 ?side4 A13.out).mono ?_); (case side1 => repeat (first | exact (Kd.C_below HR0_2.out HB.out) | (with_reducible refine Kd.C_alloc ?_ _) | (with_reducible refine Kd.C_drewN ?_ _) | (with_reducible refine Kd.C_drew ?_))); (case side2 => exact HC0_2.out); (case side3 => repeat (first | exact (Kd.R_reads' HO_12.out).2.2 | (with_reducible refine Kd.C_alloc ?_ _) | (with_reducible refine Kd.C_drewN ?_ _) | (with_reducible refine Kd.C_drew ?_))); (case side4 => exact (Kd.R_reads' HO_12.out).2.1); rintro e w17 ⟨rfl, hb⟩; refine ⟨_, rfl, ?_⟩; replace HO_12 := am_ (Kd.R_below (rq_ HO_12.out) hb); replace HO_14 := am_ (Kd.S_below (sq_ HO_14.out) hb); replace HO_16 := am_ (Kd.R_below (rq_ HO_16.out) hb); replace BK342 := am_ (blk_below (g := gb342) (o := .cells #[.int .i64 a0_0, .bool a0_1, .slice A0_2 l0_2.length c0_2] 24 (0, 0)) (bq_ BK342.out) hb); replace HB := am_ (below_step hb_ hb); (try clear hb); (try clear hb2); (try clear hk); (try clear hi)) | ((with_reducible refine gate_builtin (b := .append) (xs := #[.tmp 41, .tmp 47]) rfl ?_); at_builtin; refine Kd.R_append (Kd.int .i64) (w0 := w) w.heap.size rfl (.tmp 41) (.tmp 47) 48 3 (.int .i64 0) 8 rfl Try.underlying48 info3 rfl (by decide) (by omega) u16 x16_2 t347 [.int .i64 t347] (fun _ => True) (fun _ => False) rfl rfl ?aP (fun _ hk => hk.elim) ?aF ?aO ?aB ?aS ?aL ?_; (case aP => exact rfl); (case aB => exact hb_); (case aF => exact (fun _ _ => trivial)); (case aO => exact (rq_ HO_16.out)); (case aS => exact (below_size hb_)); (case aL => have := LMc14.out; omega); intro v349 w18 ho hb hg hat; rw [← Ny348.out] at ho; replace HO_12 := am_ (Kd.R_over' (rq_ HO_12.out) (Kd.R_typed (rq_ HO_16.out)) (by decide) hg); replace HO_14 := am_ (Kd.S_after (ok := (fun _ => True)) (by refine sq_ ?_; exact Kd.S_mono HO_14.out (fun _ hk => ⟨trivial, hk⟩)) hg hat); replace BK342 := am_ (blk_grown (g := gb342) (o := .cells #[.int .i64 a0_0, .bool a0_1, .slice A0_2 l0_2.length c0_2] 24 (0, 0)) (bq_ BK342.out) hg (Kd.R_ne HO_16.out BK342.out (by decide))); replace HB := am_ (hb); have HO350 := am_ (ho); clear HO_16; clear ho hb hg hat))
         go_roundg k2
         case measure => have := HK1.out; have := HK2.out; omega
         case rel => exact ⟨(y348), (wrap64 (x17_2 + 1)), rs_, H', ⟨by have := HK1.out; have := HK2.out; omega⟩, ⟨by refine rq_ ?_; exact HO_12.out⟩, ⟨by refine sq_ ?_; exact Kd.S_mono HO_14.out (fun _ hk => hk.2)⟩, ⟨by refine rq_ ?_; exact HO350.out⟩, ⟨by refine bq_ ?_; exact BK342.out⟩, ⟨by repeat (first | (with_reducible first | exact HB.out | apply below_alloc | apply pw_below_drewN | apply below_drew1 | refine below_set ?_ GE342.out) | exact HB.out)⟩⟩
        ·rw [if_neg c14] at H
         exact absurd H (by simp)
       ·rw [if_neg c12] at H
        have c12b0 : decide (x17_2 < a0_0) = false := decide_eq_false c12; clear c12
        by_cases c19 : x14_1.length < 5864062014805
        ·rw [if_pos c19] at H
         have LMc19 := am_ c19; clear c19; obtain ⟨y351, hy351⟩ : ∃ y_ : List (List Int), y_ = (x14_1 ++ [x16_2]) := ⟨_, rfl⟩
         replace H : (ebbtideref14_Stocks.l0 k2 a3 t343 y351 (wrap64 (x15_1 + 1)) a0_0 a0_1 l0_2) = some (r1, r2) := by first | (rw [hy351]; with_reducible exact H) | (have H2_ := (Option.bind_some _ _).symm.trans H; rw [hy351]; with_reducible exact H2_) | (have H2_ := (Option.bind_some _ _).symm.trans H; with_reducible exact H2_) | with_reducible exact H | (rw [hy351]; exact H) | exact H
         have Ny351 := am_ hy351; clear hy351; have H' := am_ H; clear H; have hcz20_0 : wr.cell? ⟨gb342, 0, none⟩ = some (.int .i64 a0_0) := (blk_cell BK342.out 0).trans rfl; have hcz20_1 : wr.cell? ⟨gb342, 1, none⟩ = some (.bool a0_1) := (blk_cell BK342.out 1).trans rfl; have hcz20_2 : wr.cell? ⟨gb342, 2, none⟩ = some (.slice A0_2 l0_2.length c0_2) := (blk_cell BK342.out 2).trans rfl; have hfz20_0 := blk_frozen BK342.out 0; have hfz20_1 := blk_frozen BK342.out 1; have hfz20_2 := blk_frozen BK342.out 2; obtain ⟨Ao22, co22, eo22⟩ := Kd.R_slice HO_16.out; subst eo22
         go_wp2_with (first | ((with_reducible refine gate_builtin (b := .append) (xs := #[.tmp 49, .tmp 51]) rfl ?_); at_builtin; refine Kd.S_append (Kd.slice 3 (Kd.int .i64)) (w0 := w) w.heap.size rfl (.tmp 49) (.tmp 51) 27 48 (.slice none 0 0) 24 rfl Try.underlying27 info48 rfl (by decide) (by omega) u14 x14_1 x16_2 [.slice Ao22 x16_2.length co22] (fun _ => True) (fun k_ => some k_ = (.slice Ao22 x16_2.length co22 : Value).ownBlock) rfl rfl ?aP (fun k_ hk_ => ((Kd.R_mono (ok' := fun k_ => ((fun _ => True)) k_ ∧ some k_ ≠ (u14 : Value).ownBlock) (Kd.R_apart' (HO_16.out) (Kd.S_typed HO_14.out) (by decide)) (fun k_ hk => ⟨trivial, hk.2⟩))).1 k_ hk_.symm) ?aF ?aO ?aB ?aS ?aL ?_; (case aP => exact Kd.M_row (Kd.R_mono (Kd.R_tight rfl (Kd.R_mono (ok' := fun k_ => ((fun _ => True)) k_ ∧ some k_ ≠ (u14 : Value).ownBlock) (Kd.R_apart' (HO_16.out) (Kd.S_typed HO_14.out) (by decide)) (fun k_ hk => ⟨trivial, hk.2⟩))) (fun _ h_ => h_))); (case aB => exact hb_); (case aF => exact (fun _ _ => trivial)); (case aO => exact (by refine sq_ ?_; exact Kd.S_mono HO_14.out (fun k_ hk => ⟨trivial, fun e_ => hk e_⟩))); (case aS => exact (below_size hb_)); (case aL => have := LMc19.out; omega); intro v352 w21 ho hb hg hat; rw [← Ny351.out] at ho; replace HO_12 := am_ (Kd.R_over' (rq_ HO_12.out) (Kd.S_typed (sq_ HO_14.out)) (by decide) hg); replace BK342 := am_ (blk_grown (g := gb342) (o := .cells #[.int .i64 a0_0, .bool a0_1, .slice A0_2 l0_2.length c0_2] 24 (0, 0)) (bq_ BK342.out) hg (Kd.S_ne HO_14.out BK342.out (by decide))); replace HB := am_ (hb); have HO353 := am_ (ho); clear HO_14 HO_16; clear ho hb hg hat))
         go_roundg k2
         case measure => have := HK1.out; have := HK2.out; omega
         case rel => exact ⟨(y351), (wrap64 (x15_1 + 1)), rs_, H', ⟨by have := HK1.out; have := HK2.out; omega⟩, ⟨by refine rq_ ?_; exact HO_12.out⟩, ⟨by refine sq_ ?_; exact HO353.out⟩, ⟨by refine bq_ ?_; exact BK342.out⟩, ⟨by repeat (first | (with_reducible first | exact HB.out | apply below_alloc | apply pw_below_drewN | apply below_drew1 | refine below_set ?_ GE342.out) | exact HB.out)⟩⟩
        ·rw [if_neg c19] at H
         exact absurd H (by simp)
    ·rw [if_neg c11] at H
     have c11b0 : decide (x15_1 ≤ a3) = false := decide_eq_false c11; clear c11; simp only [Option.some.injEq, Prod.mk.injEq] at H; obtain ⟨rfl, rfl⟩ := H
     go_wp2
     go_ret2
     exact ⟨_, by first | rfl | (simp [errW_none, errW_some] <;> rfl) | (simp [*, errW_none, errW_some] <;> rfl), by refine sq_ ?_; exact HO_14.out, by repeat (first | (with_reducible first | exact HB.out | apply below_alloc | apply pw_below_drewN | apply below_drew1 | refine below_set ?_ GE342.out) | exact HB.out)⟩
 ·rw [if_neg c7] at H
  have c7b0 : (t346 == 0) = false := beq_eq_false_iff_ne.mpr c7; have c7b1 : (t346 != 0) = true := bne_iff_ne.mpr c7; simp only [Option.some.injEq, Prod.mk.injEq] at H; obtain ⟨rfl, rfl⟩ := H
  go_enter Try.func12, Try.ntmps12
  go_wp2_with (first | ((with_reducible refine gate_dst (N := 5) rfl ?_); refine box_event ?hg (N := 5) ?hd (cs := #[.int .i64 a0_0, .bool a0_1, .slice A0_2 l0_2.length c0_2]) (t := 24) ?hr ?_; (case hd => rfl); (case hg => rfl); (case hr => first | (go_simp; done) | (go_simp; rfl)); intro gb342 hg w23 hbox hb; have BK342 := am_ (hbox); have GE342 := am_ ((by rw [hg]; exact (below_size hb_) : w.heap.size ≤ gb342)); replace HB := am_ (below_step hb_ hb); clear hb hbox hg; have hcz24_0 : w23.cell? ⟨gb342, 0, none⟩ = some (.int .i64 a0_0) := (blk_cell BK342.out 0).trans rfl; have hcz24_1 : w23.cell? ⟨gb342, 1, none⟩ = some (.bool a0_1) := (blk_cell BK342.out 1).trans rfl; have hcz24_2 : w23.cell? ⟨gb342, 2, none⟩ = some (.slice A0_2 l0_2.length c0_2) := (blk_cell BK342.out 2).trans rfl; have hfz24_0 := blk_frozen BK342.out 0; have hfz24_1 := blk_frozen BK342.out 1; have hfz24_2 := blk_frozen BK342.out 2) | ((with_reducible refine gate_callee (f := 26) rfl ?_); refine goesL_ (some 24) rfl rfl Try.func26 (by kernel_rfl) rfl #[.agg #[.int .i64 a0_0, .bool a0_1, .slice A0_2 l0_2.length c0_2], .int .i64 a1, .int .i64 a2, .int .i64 a3, .slice A4 l4.length c4] rfl mt_ ?_; (with_reducible refine (ebbtideref14_Merged.calls k a0_0 a0_1 _ _ l0_2 a1 a2 a3 _ _ l4 t343 t346 _ ?side1 ?side2 ?side3 ?side4 A6.out).mono ?_); (case side1 => repeat (first | exact (Kd.C_below HR0_2.out HB.out) | (with_reducible refine Kd.C_alloc ?_ _) | (with_reducible refine Kd.C_drewN ?_ _) | (with_reducible refine Kd.C_drew ?_))); (case side2 => exact HC0_2.out); (case side3 => repeat (first | exact (Kd.C_below HR4.out HB.out) | (with_reducible refine Kd.C_alloc ?_ _) | (with_reducible refine Kd.C_drewN ?_ _) | (with_reducible refine Kd.C_drew ?_))); (case side4 => exact HC4.out); rintro e w25 ⟨v344, rfl, ho0, hb⟩; refine ⟨_, rfl, ?_⟩; have HO345 := am_ (Kd.R_lower ho0 (below_size hb_)); replace BK342 := am_ (blk_below (g := gb342) (o := .cells #[.int .i64 a0_0, .bool a0_1, .slice A0_2 l0_2.length c0_2] 24 (0, 0)) (bq_ BK342.out) hb); replace HB := am_ (below_step hb_ hb); (try clear hb); (try clear hb2); (try clear hk); (try clear hi); (try clear ho0)))
  go_ret2
  exact ⟨_, by first | rfl | (simp [errW_none, errW_some] <;> rfl) | (simp [*, errW_none, errW_some] <;> rfl), by first | exact Kd.S_nil _ _ _ _ _ | exact Kd.N_nil _ _ _ _ _ | exact Kd.V_nil _ _ _ _ _ | exact Kd.Q_nil _ _ _ _ _ | exact Kd.R_nil _ _ _ _ _, by repeat (first | (with_reducible first | exact HB.out | apply below_alloc | apply pw_below_drewN | apply below_drew1 | refine below_set ?_ GE342.out) | exact HB.out)⟩
mutual
def ebbtideref06_Same.l0 : Nat → List (List Int) → List (List Int) → Int → Option (Bool)
 | 0, _, _, _ => none
 | k + 1, x0, x1, x5 => if x5 < (x0.length : Int) then (if 0 ≤ x5 then (if x5 < (x1.length : Int) then (if ((rd_L3 x0 x5).length : Int) = ((rd_L3 x1 x5).length : Int) then (ebbtideref06_Same.l1 k x0 x1 x5 0) else (some false)) else (none)) else (none)) else (some true)
def ebbtideref06_Same.l1 : Nat → List (List Int) → List (List Int) → Int → Int → Option (Bool)
 | 0, _, _, _, _ => none
 | k + 1, x0, x1, x5, x6 => if 0 ≤ x5 then (if x5 < (x0.length : Int) then (if x6 < ((rd_L3 x0 x5).length : Int) then (if 0 ≤ x6 then (if x5 < (x1.length : Int) then (if x6 < ((rd_L3 x1 x5).length : Int) then (if (rd (rd_L3 x0 x5) x6) = (rd (rd_L3 x1 x5) x6) then (ebbtideref06_Same.l1 k x0 x1 x5 (wrap64 (x6 + 1))) else (some false)) else (none)) else (none)) else (none)) else (ebbtideref06_Same.l0 k x0 x1 (wrap64 (x5 + 1)))) else (none)) else (none)
end
def ebbtideref06_Same.f (k : Nat) (l0 : List (List Int)) (l1 : List (List Int)) : Option (Bool) := if (l0.length : Int) = (l1.length : Int) then (ebbtideref06_Same.l0 k l0 l1 0) else (some false)
set_option maxHeartbeats 8000000 in
set_option maxRecDepth 100000 in
theorem ebbtideref06_Same.calls (k : Nat) (A0 : Option Addr) (c0 : Nat) (l0 : List (List Int)) (A1 : Option Addr) (c1 : Nat) (l1 : List (List Int)) (r : Bool) (w : World) (hr0 : Kd.C (Kd.slice 3 (Kd.int .i64)) w A0 l0.length l0) (hc0 : l0.length ≤ c0) (hr1 : Kd.C (Kd.slice 3 (Kd.int .i64)) w A1 l1.length l1) (hc1 : l1.length ≤ c1) (h : ebbtideref06_Same.f k l0 l1 = some r) :
  Calls Try.prog 13 #[.slice A0 l0.length c0, .slice A1 l1.length c1] w fun e w' => e = .returned (.bool r) ∧ Drawn0 w w' := by
 have HR0 := am_ hr0; have HC0 := am_ hc0; clear hr0 hc0; have HR1 := am_ hr1; have HC1 := am_ hc1; clear hr1 hc1; have H : (if (l0.length : Int) = (l1.length : Int) then (ebbtideref06_Same.l0 k l0 l1 0) else (some false)) = some r := h; clear h
 by_cases c3 : (l0.length : Int) = (l1.length : Int)
 ·rw [if_pos c3] at H
  have c3b0 : ((l0.length : Int) == (l1.length : Int)) = true := beq_iff_eq.mpr c3; have c3b1 : ((l0.length : Int) != (l1.length : Int)) = false := bne_eq_false_iff_eq.mpr c3
  have c3b2 : (l0.length == l1.length) = true := by first | simpa using c3 | (simp at c3 ⊢; omega)
  clear c3; have H' := am_ H; clear H
  go_enter Try.func13, Try.ntmps13
  go_wp2
  repeat (go_quiet (fail); try go_wp2)
  go_loopg [5] k (fun kq v5 w' => ∃ (x5_1 : Int), v5 = .int .i64 x5_1 ∧ Aside0 (ebbtideref06_Same.l0 kq l0 l1 x5_1 = some r) ∧ Aside0 (kq ≤ k) ∧ Drawn0 w w')
  case atStart => exact ⟨(0), rs_, H', ⟨Nat.le_refl _⟩, by repeat (first | exact Drawn0.refl _ | apply Drawn0.step)⟩
  case round =>
   clear H'
   try clear c1
   try clear p2
   try clear c3
   try clear c3b0
   try clear c3b1
   try clear c3b2
   obtain ⟨x5_1, rfl, HA, HK1, ⟨m1, rfl⟩⟩ := hrel
   cases gk with
   | zero => exact absurd HA.out (by simp [ebbtideref06_Same.l0])
   | succ k1 =>
    have H := HA.out; clear HA; simp only [ebbtideref06_Same.l0] at H
    by_cases c4 : x5_1 < (l0.length : Int)
    ·rw [if_pos c4] at H
     have c4b0 : decide (x5_1 < (l0.length : Int)) = true := decide_eq_true c4; clear c4
     by_cases c5 : 0 ≤ x5_1
     ·rw [if_pos c5] at H
      have c5b0 : decide (0 ≤ x5_1) = true := decide_eq_true c5; clear c5
      by_cases c6 : x5_1 < (l1.length : Int)
      ·rw [if_pos c6] at H
       have c6b0 : decide (x5_1 < (l1.length : Int)) = true := decide_eq_true c6; clear c6
       by_cases c7 : ((rd_L3 l0 x5_1).length : Int) = ((rd_L3 l1 x5_1).length : Int)
       ·rw [if_pos c7] at H
        have c7b0 : (((rd_L3 l0 x5_1).length : Int) == ((rd_L3 l1 x5_1).length : Int)) = true := beq_iff_eq.mpr c7; have c7b1 : (((rd_L3 l0 x5_1).length : Int) != ((rd_L3 l1 x5_1).length : Int)) = false := bne_eq_false_iff_eq.mpr c7
        have c7b2 : ((rd_L3 l0 x5_1).length == (rd_L3 l1 x5_1).length) = true := by first | simpa using c7 | (simp at c7 ⊢; omega)
        clear c7; have H' := am_ H; clear H; have p354 : 0 ≤ (x5_1 : Int) := of_decide_eq_true sm_; have q354 : x5_1 < (l0.length : Int) := of_decide_eq_true sm_; obtain ⟨ad354, A354_0, c354_0, e354, hx354_0, hl354_0, hi354_0⟩ := at_L3 HR0.out x5_1 p354 q354; cases e354; have HR354_0 := am_ hi354_0; have HC354_0 := am_ hl354_0; clear hi354_0 hl354_0; replace p354 := eq_true p354; replace q354 := eq_true q354; have p355 : 0 ≤ (x5_1 : Int) := of_decide_eq_true sm_; have q355 : x5_1 < (l1.length : Int) := of_decide_eq_true sm_; obtain ⟨ad355, A355_0, c355_0, e355, hx355_0, hl355_0, hi355_0⟩ := at_L3 HR1.out x5_1 p355 q355; cases e355; have HR355_0 := am_ hi355_0; have HC355_0 := am_ hl355_0; clear hi355_0 hl355_0; replace p355 := eq_true p355; replace q355 := eq_true q355
        go_wp2
        repeat (go_quiet (fail); try go_wp2)
        go_loopg [6] k1 (fun kq v6 w' => ∃ (x6_2 : Int), v6 = .int .i64 x6_2 ∧ Aside0 (ebbtideref06_Same.l1 kq l0 l1 x5_1 x6_2 = some r) ∧ Aside0 (kq ≤ k1) ∧ Drawn0 w w')
        case atStart => exact ⟨(0), rs_, H', ⟨Nat.le_refl _⟩, by repeat (first | exact Drawn0.refl _ | apply Drawn0.step)⟩
        case round =>
         clear H'
         try clear c1
         try clear p2
         try clear c3
         try clear c3b0
         try clear c3b1
         try clear c3b2
         try clear p3
         try clear q3
         try clear hx3
         try clear c4
         try clear c4b0
         try clear c5
         try clear c5b0
         try clear c6
         try clear c6b0
         try clear c7
         try clear c7b0
         try clear c7b1
         try clear c7b2
         try clear hx354_0
         try clear hx355_0
         try clear p2
         try clear p354
         try clear p355
         try clear q354
         try clear q355
         obtain ⟨x6_2, rfl, HA, HK2, ⟨m2, rfl⟩⟩ := hrel
         cases gk with
         | zero => exact absurd HA.out (by simp [ebbtideref06_Same.l1])
         | succ k2 =>
          have H := HA.out; clear HA; simp only [ebbtideref06_Same.l1] at H
          by_cases c8 : 0 ≤ x5_1
          ·rw [if_pos c8] at H
           have c8b0 : decide (0 ≤ x5_1) = true := decide_eq_true c8; clear c8
           by_cases c9 : x5_1 < (l0.length : Int)
           ·rw [if_pos c9] at H
            have c9b0 : decide (x5_1 < (l0.length : Int)) = true := decide_eq_true c9; clear c9
            by_cases c10 : x6_2 < ((rd_L3 l0 x5_1).length : Int)
            ·rw [if_pos c10] at H
             have c10b0 : decide (x6_2 < ((rd_L3 l0 x5_1).length : Int)) = true := decide_eq_true c10; clear c10
             by_cases c11 : 0 ≤ x6_2
             ·rw [if_pos c11] at H
              have c11b0 : decide (0 ≤ x6_2) = true := decide_eq_true c11; clear c11
              by_cases c12 : x5_1 < (l1.length : Int)
              ·rw [if_pos c12] at H
               have c12b0 : decide (x5_1 < (l1.length : Int)) = true := decide_eq_true c12; clear c12
               by_cases c13 : x6_2 < ((rd_L3 l1 x5_1).length : Int)
               ·rw [if_pos c13] at H
                have c13b0 : decide (x6_2 < ((rd_L3 l1 x5_1).length : Int)) = true := decide_eq_true c13; clear c13
                by_cases c14 : (rd (rd_L3 l0 x5_1) x6_2) = (rd (rd_L3 l1 x5_1) x6_2)
                ·rw [if_pos c14] at H
                 have c14b0 : ((rd (rd_L3 l0 x5_1) x6_2) == (rd (rd_L3 l1 x5_1) x6_2)) = true := beq_iff_eq.mpr c14; have c14b1 : ((rd (rd_L3 l0 x5_1) x6_2) != (rd (rd_L3 l1 x5_1) x6_2)) = false := bne_eq_false_iff_eq.mpr c14; clear c14; have H' := am_ H; clear H; have p356 : 0 ≤ (x5_1 : Int) := of_decide_eq_true sm_; have q356 : x5_1 < (l0.length : Int) := of_decide_eq_true sm_; obtain ⟨ad356, A356_0, c356_0, e356, hx356_0, hl356_0, hi356_0⟩ := at_L3 HR0.out x5_1 p356 q356; obtain rfl : ad354 = ad356 := (by injection e356); have HR356_0 := am_ hi356_0; have HC356_0 := am_ hl356_0; clear hi356_0 hl356_0; replace p356 := eq_true p356; replace q356 := eq_true q356; have p357 : 0 ≤ (x5_1 : Int) := of_decide_eq_true sm_; have q357 : x5_1 < (l0.length : Int) := of_decide_eq_true sm_; obtain ⟨ad357, A357_0, c357_0, e357, hx357_0, hl357_0, hi357_0⟩ := at_L3 HR0.out x5_1 p357 q357; obtain rfl : ad354 = ad357 := (by injection e357); have HR357_0 := am_ hi357_0; have HC357_0 := am_ hl357_0; clear hi357_0 hl357_0; replace p357 := eq_true p357; replace q357 := eq_true q357; have ea_ := Option.some.inj (hx356_0.symm.trans hx357_0)
                 injection ea_ with ea_ en_ ec_
                 subst ea_; subst ec_; clear en_; have p358 : 0 ≤ (x6_2 : Int) := of_decide_eq_true sm_; have q358 : x6_2 < ((rd_L3 l0 x5_1).length : Int) := of_decide_eq_true sm_; obtain ⟨ad358, e358, hx358_0⟩ := Kd.at_int HR357_0.out x6_2 p358 q358; cases e358; replace p358 := eq_true p358; replace q358 := eq_true q358; have p359 : 0 ≤ (x5_1 : Int) := of_decide_eq_true sm_; have q359 : x5_1 < (l1.length : Int) := of_decide_eq_true sm_; obtain ⟨ad359, A359_0, c359_0, e359, hx359_0, hl359_0, hi359_0⟩ := at_L3 HR1.out x5_1 p359 q359; obtain rfl : ad355 = ad359 := (by injection e359); have HR359_0 := am_ hi359_0; have HC359_0 := am_ hl359_0; clear hi359_0 hl359_0; replace p359 := eq_true p359; replace q359 := eq_true q359; have p360 : 0 ≤ (x6_2 : Int) := of_decide_eq_true sm_; have q360 : x6_2 < ((rd_L3 l1 x5_1).length : Int) := of_decide_eq_true sm_; obtain ⟨ad360, e360, hx360_0⟩ := Kd.at_int HR359_0.out x6_2 p360 q360; cases e360; replace p360 := eq_true p360; replace q360 := eq_true q360
                 go_wp2
                 repeat (go_quiet (fail); try go_wp2)
                 go_roundg k2
                 case measure => have := HK1.out; have := HK2.out; omega
                 case rel => exact ⟨(wrap64 (x6_2 + 1)), rs_, H', ⟨by have := HK1.out; have := HK2.out; omega⟩, by repeat (first | exact Drawn0.refl _ | apply Drawn0.step)⟩
                ·rw [if_neg c14] at H
                 have c14b0 : ((rd (rd_L3 l0 x5_1) x6_2) == (rd (rd_L3 l1 x5_1) x6_2)) = false := beq_eq_false_iff_ne.mpr c14; have c14b1 : ((rd (rd_L3 l0 x5_1) x6_2) != (rd (rd_L3 l1 x5_1) x6_2)) = true := bne_iff_ne.mpr c14; obtain rfl := Option.some.inj H; have p356 : 0 ≤ (x5_1 : Int) := of_decide_eq_true sm_; have q356 : x5_1 < (l0.length : Int) := of_decide_eq_true sm_; obtain ⟨ad356, A356_0, c356_0, e356, hx356_0, hl356_0, hi356_0⟩ := at_L3 HR0.out x5_1 p356 q356; obtain rfl : ad354 = ad356 := (by injection e356); have HR356_0 := am_ hi356_0; have HC356_0 := am_ hl356_0; clear hi356_0 hl356_0; replace p356 := eq_true p356; replace q356 := eq_true q356; have p357 : 0 ≤ (x5_1 : Int) := of_decide_eq_true sm_; have q357 : x5_1 < (l0.length : Int) := of_decide_eq_true sm_; obtain ⟨ad357, A357_0, c357_0, e357, hx357_0, hl357_0, hi357_0⟩ := at_L3 HR0.out x5_1 p357 q357; obtain rfl : ad354 = ad357 := (by injection e357); have HR357_0 := am_ hi357_0; have HC357_0 := am_ hl357_0; clear hi357_0 hl357_0; replace p357 := eq_true p357; replace q357 := eq_true q357; have ea_ := Option.some.inj (hx356_0.symm.trans hx357_0)
                 injection ea_ with ea_ en_ ec_
                 subst ea_; subst ec_; clear en_; have p358 : 0 ≤ (x6_2 : Int) := of_decide_eq_true sm_; have q358 : x6_2 < ((rd_L3 l0 x5_1).length : Int) := of_decide_eq_true sm_; obtain ⟨ad358, e358, hx358_0⟩ := Kd.at_int HR357_0.out x6_2 p358 q358; cases e358; replace p358 := eq_true p358; replace q358 := eq_true q358; have p359 : 0 ≤ (x5_1 : Int) := of_decide_eq_true sm_; have q359 : x5_1 < (l1.length : Int) := of_decide_eq_true sm_; obtain ⟨ad359, A359_0, c359_0, e359, hx359_0, hl359_0, hi359_0⟩ := at_L3 HR1.out x5_1 p359 q359; obtain rfl : ad355 = ad359 := (by injection e359); have HR359_0 := am_ hi359_0; have HC359_0 := am_ hl359_0; clear hi359_0 hl359_0; replace p359 := eq_true p359; replace q359 := eq_true q359; have p360 : 0 ≤ (x6_2 : Int) := of_decide_eq_true sm_; have q360 : x6_2 < ((rd_L3 l1 x5_1).length : Int) := of_decide_eq_true sm_; obtain ⟨ad360, e360, hx360_0⟩ := Kd.at_int HR359_0.out x6_2 p360 q360; cases e360; replace p360 := eq_true p360; replace q360 := eq_true q360
                 go_wp2
                 repeat (go_quiet (fail); try go_wp2)
                 go_ret
                 exact ⟨by first | rfl | (simp; done) | (simp [*]; done), by repeat (first | exact Drawn0.refl _ | apply Drawn0.step)⟩
               ·rw [if_neg c13] at H
                exact absurd H (by simp)
              ·rw [if_neg c12] at H
               exact absurd H (by simp)
             ·rw [if_neg c11] at H
              exact absurd H (by simp)
            ·rw [if_neg c10] at H
             have c10b0 : decide (x6_2 < ((rd_L3 l0 x5_1).length : Int)) = false := decide_eq_false c10; clear c10; have H' := am_ H; clear H; have p356 : 0 ≤ (x5_1 : Int) := of_decide_eq_true sm_; have q356 : x5_1 < (l0.length : Int) := of_decide_eq_true sm_; obtain ⟨ad356, A356_0, c356_0, e356, hx356_0, hl356_0, hi356_0⟩ := at_L3 HR0.out x5_1 p356 q356; obtain rfl : ad354 = ad356 := (by injection e356); have HR356_0 := am_ hi356_0; have HC356_0 := am_ hl356_0; clear hi356_0 hl356_0; replace p356 := eq_true p356; replace q356 := eq_true q356
             go_wp2
             repeat (go_quiet (fail); try go_wp2)
             go_roundg k2
             case measure => have := HK1.out; have := HK2.out; omega
             case rel => exact ⟨(wrap64 (x5_1 + 1)), rs_, H', ⟨by have := HK1.out; have := HK2.out; omega⟩, by repeat (first | exact Drawn0.refl _ | apply Drawn0.step)⟩
           ·rw [if_neg c9] at H
            exact absurd H (by simp)
          ·rw [if_neg c8] at H
           exact absurd H (by simp)
       ·rw [if_neg c7] at H
        have c7b0 : (((rd_L3 l0 x5_1).length : Int) == ((rd_L3 l1 x5_1).length : Int)) = false := beq_eq_false_iff_ne.mpr c7; have c7b1 : (((rd_L3 l0 x5_1).length : Int) != ((rd_L3 l1 x5_1).length : Int)) = true := bne_iff_ne.mpr c7
        have c7b2 : ((rd_L3 l0 x5_1).length == (rd_L3 l1 x5_1).length) = false := by first | simpa using c7 | (simp at c7 ⊢; omega)
        obtain rfl := Option.some.inj H; have p354 : 0 ≤ (x5_1 : Int) := of_decide_eq_true sm_; have q354 : x5_1 < (l0.length : Int) := of_decide_eq_true sm_; obtain ⟨ad354, A354_0, c354_0, e354, hx354_0, hl354_0, hi354_0⟩ := at_L3 HR0.out x5_1 p354 q354; cases e354; have HR354_0 := am_ hi354_0; have HC354_0 := am_ hl354_0; clear hi354_0 hl354_0; replace p354 := eq_true p354; replace q354 := eq_true q354; have p355 : 0 ≤ (x5_1 : Int) := of_decide_eq_true sm_; have q355 : x5_1 < (l1.length : Int) := of_decide_eq_true sm_; obtain ⟨ad355, A355_0, c355_0, e355, hx355_0, hl355_0, hi355_0⟩ := at_L3 HR1.out x5_1 p355 q355; cases e355; have HR355_0 := am_ hi355_0; have HC355_0 := am_ hl355_0; clear hi355_0 hl355_0; replace p355 := eq_true p355; replace q355 := eq_true q355
        go_wp2
        repeat (go_quiet (fail); try go_wp2)
        go_ret
        exact ⟨by first | rfl | (simp; done) | (simp [*]; done), by repeat (first | exact Drawn0.refl _ | apply Drawn0.step)⟩
      ·rw [if_neg c6] at H
       exact absurd H (by simp)
     ·rw [if_neg c5] at H
      exact absurd H (by simp)
    ·rw [if_neg c4] at H
     have c4b0 : decide (x5_1 < (l0.length : Int)) = false := decide_eq_false c4; clear c4; obtain rfl := Option.some.inj H
     go_wp2
     repeat (go_quiet (fail); try go_wp2)
     go_ret
     exact ⟨by first | rfl | (simp; done) | (simp [*]; done), by repeat (first | exact Drawn0.refl _ | apply Drawn0.step)⟩
 ·rw [if_neg c3] at H
  have c3b0 : ((l0.length : Int) == (l1.length : Int)) = false := beq_eq_false_iff_ne.mpr c3; have c3b1 : ((l0.length : Int) != (l1.length : Int)) = true := bne_iff_ne.mpr c3
  have c3b2 : (l0.length == l1.length) = false := by first | simpa using c3 | (simp at c3 ⊢; omega)
  obtain rfl := Option.some.inj H
  go_enter Try.func13, Try.ntmps13
  go_wp2
  repeat (go_quiet (fail); try go_wp2)
  go_ret
  exact ⟨by first | rfl | (simp; done) | (simp [*]; done), by repeat (first | exact Drawn0.refl _ | apply Drawn0.step)⟩
end Go.Proofs.Ytdghehebkalbgaa.Q
end
