/- A part of the proof: words, contracts, plain lemmas. Conditions: none. -/
import Derived.Test.YtfhkkbpkajfdlaaZExpandRuns20
import Derived.Test.YtfhkkbpkajfdlaaZExpandRuns21
set_option linter.unusedSimpArgs false
set_option linter.unusedVariables false
section
namespace Go.Proofs.Ytfhkkbpkajfdlaa.Q
open Go.RowKit Go.Proofs.YtfhkkbpkajfdlaaW.PrintWords Go.Proofs.YtfhkkbpkajfdlaaW.PrintLast Go.Proofs.YtfhkkbpkajfdlaaW.PrintMore
mutual
def ebbtideref14_Stocks.l0 : Nat → Int → List (S85) → List (List Int) → Int → Int → Bool → List (S54) → Option ((List (List Int)) × Int)
 | 0, _, _, _, _, _, _, _ => none
 | k + 1, x3, x12, x14, x15, x619000, x619001, x619002 => if x15 ≤ x3 then (ebbtideref14_Stocks.l1 k x3 x12 x14 x15 ([] : List Int) 0 x619000 x619001 x619002) else (some (x14, 0))
def ebbtideref14_Stocks.l1 : Nat → Int → List (S85) → List (List Int) → Int → List Int → Int → Int → Bool → List (S54) → Option ((List (List Int)) × Int)
 | 0, _, _, _, _, _, _, _, _, _ => none
 | k + 1, x3, x12, x14, x15, x16, x17, x619000, x619001, x619002 => if x17 < x619000 then ((ebbtideref14_Stock.f k x619000 x619001 x619002 x12 x17 x15).bind fun t623 => (if x16.length < 17592186044416 then (ebbtideref14_Stocks.l1 k x3 x12 x14 x15 (x16 ++ [t623]) (wrap64 (x17 + 1)) x619000 x619001 x619002) else (none))) else (if x14.length < 5864062014805 then (ebbtideref14_Stocks.l0 k x3 x12 (x14 ++ [x16]) (wrap64 (x15 + 1)) x619000 x619001 x619002) else (none))
end
def ebbtideref14_Stocks.f (k : Nat) (a0_0 : Int) (a0_1 : Bool) (l0_2 : List (S54)) (a1 : Int) (a2 : Int) (a3 : Int) (l4 : List (S85)) : Option ((List (List Int)) × Int) := (ebbtideref14_Merged.f k a0_0 a0_1 l0_2 a1 a2 a3 l4).bind fun bt619 => (if bt619.2 = 0 then (ebbtideref14_Stocks.l0 k a3 bt619.1 ([] : List (List Int)) 0 a0_0 a0_1 l0_2) else (some (([] : List (List Int)), bt619.2)))
set_option maxHeartbeats 8000000 in
set_option maxRecDepth 100000 in
theorem ebbtideref14_Stocks.calls (k : Nat) (a0_0 : Int) (a0_1 : Bool) (A0_2 : Option Addr) (c0_2 : Nat) (l0_2 : List (S54)) (a1 : Int) (a2 : Int) (a3 : Int) (A4 : Option Addr) (c4 : Nat) (l4 : List (S85)) (r1 : List (List Int)) (r2 : Int) (w : World) (hr0_2 : Kd.C k54 w A0_2 l0_2.length l0_2) (hc0_2 : l0_2.length ≤ c0_2) (hr4 : Kd.C k85 w A4 l4.length l4) (hc4 : l4.length ≤ c4) (h : ebbtideref14_Stocks.f k a0_0 a0_1 l0_2 a1 a2 a3 l4 = some (r1, r2)) :
  Calls Try.prog 47 #[.agg #[.int .i64 a0_0, .bool a0_1, .slice A0_2 l0_2.length c0_2], .int .i64 a1, .int .i64 a2, .int .i64 a3, .slice A4 l4.length c4] w fun e w' => ∃ v0_ : Value, e = .returned (.tuple #[v0_, .int .i64 r2]) ∧ Kd.S (Kd.slice 3 (Kd.int .i64)) 42 w' w.heap.size (fun _ => True) v0_ r1 ∧ Below w.heap.size w w' := by
 have hu24 := Try.underlying24; have HR0_2 := am_ hr0_2; have HC0_2 := am_ hc0_2; clear hr0_2 hc0_2; have HR4 := am_ hr4; have HC4 := am_ hc4; clear hr4 hc4; have HB := am_ (Below.refl w.heap.size w); have H : ((ebbtideref14_Merged.f k a0_0 a0_1 l0_2 a1 a2 a3 l4).bind fun bt619 => (if bt619.2 = 0 then (ebbtideref14_Stocks.l0 k a3 bt619.1 ([] : List (List Int)) 0 a0_0 a0_1 l0_2) else (some (([] : List (List Int)), bt619.2)))) = some (r1, r2) := h; clear h; replace H := Option.bind_eq_some_iff.mp H; obtain ⟨⟨t619, t622⟩, A60, H⟩ := H; replace H : (if t622 = 0 then (ebbtideref14_Stocks.l0 k a3 t619 ([] : List (List Int)) 0 a0_0 a0_1 l0_2) else (some (([] : List (List Int)), t622))) = some (r1, r2) := H; have A6 := am_ A60; clear A60
 by_cases c7 : t622 = 0
 ·rw [if_pos c7] at H
  obtain ⟨c7b0, c7b1⟩ := eqb_ c7; clear c7; have H' := am_ H; clear H
  go_enter Try.func47, Try.ntmps47
  go_wp2_with (first | ((with_reducible refine gate_dst (N := 5) rfl ?_); refine bx_ 5 #[.int .i64 a0_0, .bool a0_1, .slice A0_2 l0_2.length c0_2] 24 ?_; intro gb618 hg w8 BK618 hb; have GE618 := ge_ (w := w) hg; replace HB := hst_ hb; clear hb hg; obtain ⟨hcz9_0, hcz9_1, hcz9_2, hfz9_0, hfz9_1, hfz9_2⟩ := cf3_ BK618.out) | ((with_reducible refine gate_callee (f := 51) rfl ?_); refine cl_ 24 Try.func51 (ebbtideref14_Merged.calls k a0_0 a0_1 _ _ l0_2 a1 a2 a3 _ _ l4 t619 t622 _ (cb_ HR0_2.out) HC0_2.out (cb_ HR4.out) HC4.out A6.out) ?_; rintro e w10 ⟨v620, rfl, ho0, hb⟩; refine ⟨_, rfl, ?_⟩; have HO621 := am_ (Kd.R_lower ho0 (below_size hb_)); replace BK618 := am_ (bb_ BK618.out hb); replace HB := hst_ hb; (try clear hb); (try clear hb2); (try clear hk); (try clear hi); (try clear ho0)))
  go_loopg [14, 15] k (fun kq v14 v15 w' => ∃ (x14_1 : List (List Int)) (x15_1 : Int), v15 = .int .i64 x15_1 ∧ Aside0 (ebbtideref14_Stocks.l0 kq a3 t619 x14_1 x15_1 a0_0 a0_1 l0_2 = some (r1, r2)) ∧ Aside0 (kq ≤ k) ∧ Aside0 (Kd.R k85 85 w' w.heap.size (fun _ => True) v620 t619) ∧ Aside0 (Kd.S (Kd.slice 3 (Kd.int .i64)) 42 w' w.heap.size (fun _ => True) v14 x14_1) ∧ Aside0 (w'.heap[gb618]? = some (.cells #[.int .i64 a0_0, .bool a0_1, (.slice A0_2 l0_2.length c0_2)] 24 (0, 0))) ∧ Aside0 (Below w.heap.size w w'))
  case atStart => exact ⟨(([] : List (List Int))), (0), rs_, H', ⟨Nat.le_refl _⟩, ⟨rq_ HO621.out⟩, ⟨by first | exact Kd.S_nil _ _ _ _ _ | exact Kd.N_nil _ _ _ _ _ | exact Kd.V_nil _ _ _ _ _ | exact Kd.Q_nil _ _ _ _ _ | exact Kd.R_nil _ _ _ _ _⟩, ⟨bq_ BK618.out⟩, ⟨hb_⟩⟩
  case round =>
   clear H'
   try clear p2
   try clear c4
   try clear c5
   try clear c7
   try clear c7b0
   try clear c7b1
   try clear hcz9_0 hcz9_1 hcz9_2 hfz9_0 hfz9_1 hfz9_2
   obtain ⟨x14_1, x15_1, rfl, HA, HK1, HO_12, HO_14, BK618, HB⟩ := hrel
   cases gk with
   | zero => exact absurd HA.out (by simp [ebbtideref14_Stocks.l0])
   | succ k1 =>
    have H := HA.out; clear HA; simp only [ebbtideref14_Stocks.l0] at H
    by_cases c11 : x15_1 ≤ a3
    ·rw [if_pos c11] at H
     have c11b0 := decide_eq_true c11; clear c11; have H' := am_ H; clear H
     go_wp2
     go_loopg [16, 17] k1 (fun kq v16 v17 w' => ∃ (x16_2 : List Int) (x17_2 : Int), v17 = .int .i64 x17_2 ∧ Aside0 (ebbtideref14_Stocks.l1 kq a3 t619 x14_1 x15_1 x16_2 x17_2 a0_0 a0_1 l0_2 = some (r1, r2)) ∧ Aside0 (kq ≤ k1) ∧ Aside0 (Kd.R k85 85 w' w.heap.size (fun _ => True) v620 t619) ∧ Aside0 (Kd.S (Kd.slice 3 (Kd.int .i64)) 42 w' w.heap.size (fun k_ => some k_ ≠ (v16 : Value).ownBlock) u14 x14_1) ∧ Aside0 (Kd.R (Kd.int .i64) 3 w' w.heap.size (fun _ => True) v16 x16_2) ∧ Aside0 (w'.heap[gb618]? = some (.cells #[.int .i64 a0_0, .bool a0_1, (.slice A0_2 l0_2.length c0_2)] 24 (0, 0))) ∧ Aside0 (Below w.heap.size w w'))
     case atStart => exact ⟨(([] : List Int)), (0), rs_, H', ⟨Nat.le_refl _⟩, ⟨rq_ HO_12.out⟩, ⟨by refine sq_ ?_; exact Kd.S_mono HO_14.out (fun _ hk => (by simp [Value.ownBlock]))⟩, ⟨ni_⟩, ⟨bq_ BK618.out⟩, ⟨hb_⟩⟩
     case round =>
      clear H'
      try clear c1
      try clear p2
      try clear c4
      try clear c5
      try clear c7
      try clear c7b0
      try clear c7b1
      try clear c11
      try clear c11b0
      try clear hcz9_0 hcz9_1 hcz9_2 hfz9_0 hfz9_1 hfz9_2
      try clear p2
      obtain ⟨x16_2, x17_2, rfl, HA, HK2, HO_12, HO_14, HO_16, BK618, HB⟩ := hrel
      cases gk with
      | zero => exact absurd HA.out (by simp [ebbtideref14_Stocks.l1])
      | succ k2 =>
       have H := HA.out; clear HA; simp only [ebbtideref14_Stocks.l1] at H
       by_cases c12 : x17_2 < a0_0
       ·rw [if_pos c12] at H
        have c12b0 := decide_eq_true c12; clear c12; replace H := Option.bind_eq_some_iff.mp H; obtain ⟨t623, A130, H⟩ := H; replace H : (if x16_2.length < 17592186044416 then (ebbtideref14_Stocks.l1 k2 a3 t619 x14_1 x15_1 (x16_2 ++ [t623]) (wrap64 (x17_2 + 1)) a0_0 a0_1 l0_2) else (none)) = some (r1, r2) := H; have A13 := am_ A130; clear A130
        replace H := ifn_ H; obtain ⟨c14, H⟩ := H
        have LMc14 := am_ c14; clear c14; obtain ⟨y624, hy_⟩ : ∃ y_ : List Int, y_ = (x16_2 ++ [t623]) := ⟨_, rfl⟩
        replace H : (ebbtideref14_Stocks.l1 k2 a3 t619 x14_1 x15_1 y624 (wrap64 (x17_2 + 1)) a0_0 a0_1 l0_2) = some (r1, r2) := hyH_
        have Ny624 := am_ hy_; clear hy_; have H' := am_ H; clear H; obtain ⟨hcz15_0, hcz15_1, hcz15_2, hfz15_0, hfz15_1, hfz15_2⟩ := cf3_ BK618.out; obtain ⟨Ao16, co16, eo16⟩ := Kd.R_slice HO_12.out; subst eo16
        go_wp2_with (first | ((with_reducible refine gate_callee (f := 52) rfl ?_); refine goesL_ (some 46) rfl rfl Try.func52 (by kernel_rfl) rfl #[.agg #[.int .i64 a0_0, .bool a0_1, .slice A0_2 l0_2.length c0_2], .slice Ao16 t619.length co16, .int .i64 x17_2, .int .i64 x15_1] rfl mt_ ?_; (with_reducible refine (ebbtideref14_Stock.calls k2 a0_0 a0_1 _ _ l0_2 _ _ t619 x17_2 x15_1 t623 _ ?side1 ?side2 ?side3 ?side4 A13.out).mono ?_); (case side1 => exact cb_ HR0_2.out); (case side2 => exact HC0_2.out); (case side3 => repeat (first | exact (Kd.R_reads' HO_12.out).2.2 | (with_reducible refine Kd.C_alloc ?_ _) | (with_reducible refine Kd.C_drewN ?_ _) | (with_reducible refine Kd.C_drew ?_))); (case side4 => exact (Kd.R_reads' HO_12.out).2.1); rintro e w17 ⟨rfl, hb⟩; refine ⟨_, rfl, ?_⟩; replace HO_12 := am_ (Kd.R_below (rq_ HO_12.out) hb); replace HO_14 := am_ (Kd.S_below (sq_ HO_14.out) hb); replace HO_16 := am_ (Kd.R_below (rq_ HO_16.out) hb); replace BK618 := am_ (bb_ BK618.out hb); replace HB := hst_ hb; (try clear hb); (try clear hb2); (try clear hk); (try clear hi)) | ((with_reducible refine gate_builtin (b := .append) (xs := #[.tmp 41, .tmp 47]) rfl ?_); at_builtin; refine Kd.R_append (Kd.int .i64) (w0 := w) w.heap.size rfl (.tmp 41) (.tmp 47) 42 3 (.int .i64 0) 8 rfl Try.underlying42 info3 rfl (by decide) (by omega) u16 x16_2 t623 [.int .i64 t623] (fun _ => True) (fun _ => False) rfl rfl ?aP (fun _ hk => hk.elim) ?aF ?aO ?aB ?aS ?aL ?_; (case aP => exact rfl); (case aB => exact hb_); (case aF => exact (fun _ _ => trivial)); (case aO => exact (rq_ HO_16.out)); (case aS => exact (below_size hb_)); (case aL => have := LMc14.out; omega); intro v625 w18 ho hb hg hat; rw [← Ny624.out] at ho; replace HO_12 := am_ (Kd.R_over' (rq_ HO_12.out) (Kd.R_typed (rq_ HO_16.out)) (by decide) hg); replace HO_14 := am_ (Kd.S_after (ok := (fun _ => True)) (by refine sq_ ?_; exact Kd.S_mono HO_14.out (fun _ hk => ⟨trivial, hk⟩)) hg hat); replace BK618 := am_ (bg_ BK618.out hg (Kd.R_ne HO_16.out BK618.out (by decide))); replace HB := am_ (hb); have HO626 := am_ (ho); clear HO_16; clear ho hb hg hat))
        go_roundg k2
        case measure => have := HK1.out; have := HK2.out; omega
        case rel => exact ⟨(y624), (wrap64 (x17_2 + 1)), rs_, H', ⟨by have := HK1.out; have := HK2.out; omega⟩, ⟨rq_ HO_12.out⟩, ⟨by refine sq_ ?_; exact Kd.S_mono HO_14.out (fun _ hk => hk.2)⟩, ⟨rq_ HO626.out⟩, ⟨bq_ BK618.out⟩, ⟨hb_⟩⟩
       ·rw [if_neg c12] at H
        have c12b0 := decide_eq_false c12; clear c12
        replace H := ifn_ H; obtain ⟨c19, H⟩ := H
        have LMc19 := am_ c19; clear c19; obtain ⟨y627, hy_⟩ : ∃ y_ : List (List Int), y_ = (x14_1 ++ [x16_2]) := ⟨_, rfl⟩
        replace H : (ebbtideref14_Stocks.l0 k2 a3 t619 y627 (wrap64 (x15_1 + 1)) a0_0 a0_1 l0_2) = some (r1, r2) := hyH_
        have Ny627 := am_ hy_; clear hy_; have H' := am_ H; clear H; obtain ⟨hcz20_0, hcz20_1, hcz20_2, hfz20_0, hfz20_1, hfz20_2⟩ := cf3_ BK618.out; obtain ⟨Ao22, co22, eo22⟩ := Kd.R_slice HO_16.out; subst eo22
        go_wp2_with (first | ((with_reducible refine gate_builtin (b := .append) (xs := #[.tmp 49, .tmp 51]) rfl ?_); at_builtin; refine Kd.S_append (Kd.slice 3 (Kd.int .i64)) (w0 := w) w.heap.size rfl (.tmp 49) (.tmp 51) 92 42 (.slice none 0 0) 24 rfl Try.underlying92 info42 rfl (by decide) (by omega) u14 x14_1 x16_2 [.slice Ao22 x16_2.length co22] (fun _ => True) (fun k_ => some k_ = (.slice Ao22 x16_2.length co22 : Value).ownBlock) rfl rfl ?aP (fun k_ hk_ => ((Kd.R_mono (ok' := fun k_ => ((fun _ => True)) k_ ∧ some k_ ≠ (u14 : Value).ownBlock) (Kd.R_apart' (HO_16.out) (Kd.S_typed HO_14.out) (by decide)) (fun k_ hk => ⟨trivial, hk.2⟩))).1 k_ hk_.symm) ?aF ?aO ?aB ?aS ?aL ?_; (case aP => exact Kd.M_row (Kd.R_mono (Kd.R_tight rfl (Kd.R_mono (ok' := fun k_ => ((fun _ => True)) k_ ∧ some k_ ≠ (u14 : Value).ownBlock) (Kd.R_apart' (HO_16.out) (Kd.S_typed HO_14.out) (by decide)) (fun k_ hk => ⟨trivial, hk.2⟩))) (fun _ h_ => h_))); (case aB => exact hb_); (case aF => exact (fun _ _ => trivial)); (case aO => exact (by refine sq_ ?_; exact Kd.S_mono HO_14.out (fun k_ hk => ⟨trivial, fun e_ => hk e_⟩))); (case aS => exact (below_size hb_)); (case aL => have := LMc19.out; omega); intro v628 w21 ho hb hg hat; rw [← Ny627.out] at ho; replace HO_12 := am_ (Kd.R_over' (rq_ HO_12.out) (Kd.S_typed (sq_ HO_14.out)) (by decide) hg); replace BK618 := am_ (bg_ BK618.out hg (Kd.S_ne HO_14.out BK618.out (by decide))); replace HB := am_ (hb); have HO629 := am_ (ho); clear HO_14 HO_16; clear ho hb hg hat))
        go_roundg k2
        case measure => have := HK1.out; have := HK2.out; omega
        case rel => exact ⟨(y627), (wrap64 (x15_1 + 1)), rs_, H', ⟨by have := HK1.out; have := HK2.out; omega⟩, ⟨rq_ HO_12.out⟩, ⟨sq_ HO629.out⟩, ⟨bq_ BK618.out⟩, ⟨hb_⟩⟩
    ·rw [if_neg c11] at H
     have c11b0 := decide_eq_false c11; clear c11; simp only [Option.some.injEq, Prod.mk.injEq] at H; obtain ⟨rfl, rfl⟩ := H
     go_wp2
     go_ret2
     exact ⟨_, er_, by refine sq_ ?_; exact HO_14.out, hb_⟩
 ·rw [if_neg c7] at H
  obtain ⟨c7b0, c7b1⟩ := neb_ c7; simp only [Option.some.injEq, Prod.mk.injEq] at H; obtain ⟨rfl, rfl⟩ := H
  go_enter Try.func47, Try.ntmps47
  go_wp2_with (first | ((with_reducible refine gate_dst (N := 5) rfl ?_); refine bx_ 5 #[.int .i64 a0_0, .bool a0_1, .slice A0_2 l0_2.length c0_2] 24 ?_; intro gb618 hg w23 BK618 hb; have GE618 := ge_ (w := w) hg; replace HB := hst_ hb; clear hb hg; obtain ⟨hcz24_0, hcz24_1, hcz24_2, hfz24_0, hfz24_1, hfz24_2⟩ := cf3_ BK618.out) | ((with_reducible refine gate_callee (f := 51) rfl ?_); refine cl_ 24 Try.func51 (ebbtideref14_Merged.calls k a0_0 a0_1 _ _ l0_2 a1 a2 a3 _ _ l4 t619 t622 _ (cb_ HR0_2.out) HC0_2.out (cb_ HR4.out) HC4.out A6.out) ?_; rintro e w25 ⟨v620, rfl, ho0, hb⟩; refine ⟨_, rfl, ?_⟩; have HO621 := am_ (Kd.R_lower ho0 (below_size hb_)); replace BK618 := am_ (bb_ BK618.out hb); replace HB := hst_ hb; (try clear hb); (try clear hb2); (try clear hk); (try clear hi); (try clear ho0)))
  go_ret2
  exact ⟨_, er_, by first | exact Kd.S_nil _ _ _ _ _ | exact Kd.N_nil _ _ _ _ _ | exact Kd.V_nil _ _ _ _ _ | exact Kd.Q_nil _ _ _ _ _ | exact Kd.R_nil _ _ _ _ _, hb_⟩
mutual
def ebbtideref14_Check.l0 : Nat → Int → Int → Int → List (List Int) → Int → Int → Bool → List (S54) → Option (Int × Int)
 | 0, _, _, _, _, _, _, _, _ => none
 | k + 1, x1, x2, x3, x12, x14, x631000, x631001, x631002 => if x14 < x631000 then (ebbtideref14_Check.l1 k x1 x2 x3 x12 x14 0 x631000 x631001 x631002) else (if 0 ≤ x3 then (if x3 < (x12.length : Int) then (if 0 ≤ x2 then (if x2 < ((rd_L3 x12 x3).length : Int) then (some (rd (rd_L3 x12 x3) x2, 0)) else (none)) else (none)) else (none)) else (none))
def ebbtideref14_Check.l1 : Nat → Int → Int → Int → List (List Int) → Int → Int → Int → Bool → List (S54) → Option (Int × Int)
 | 0, _, _, _, _, _, _, _, _, _ => none
 | k + 1, x1, x2, x3, x12, x14, x15, x631000, x631001, x631002 => if x15 ≤ x3 then (if x14 = x1 then (ebbtideref14_Check.j2 k x1 x2 x3 x12 x14 x15 false x631000 x631001 x631002) else (ebbtideref14_Check.j2 k x1 x2 x3 x12 x14 x15 (x14 != x2) x631000 x631001 x631002)) else (ebbtideref14_Check.j2 k x1 x2 x3 x12 x14 x15 false x631000 x631001 x631002)
def ebbtideref14_Check.j2 : Nat → Int → Int → Int → List (List Int) → Int → Int → Bool → Int → Bool → List (S54) → Option (Int × Int)
 | 0, _, _, _, _, _, _, _, _, _, _ => none
 | k + 1, x1, x2, x3, x12, x14, x15, x46, x631000, x631001, x631002 => if x46 = true then (if 0 ≤ x15 then (if x15 < (x12.length : Int) then (if 0 ≤ x14 then (if x14 < ((rd_L3 x12 x15).length : Int) then (if (rd (rd_L3 x12 x15) x14) < 0 then (some (0, 141)) else (if (rd (rd_L3 x12 x15) x14) > 0 then (if x631001 = true then (if x15 = x3 then (some (0, 141)) else (ebbtideref14_Check.l1 k x1 x2 x3 x12 x14 (wrap64 (x15 + 1)) x631000 x631001 x631002)) else (some (0, 141))) else (ebbtideref14_Check.l1 k x1 x2 x3 x12 x14 (wrap64 (x15 + 1)) x631000 x631001 x631002))) else (none)) else (none)) else (none)) else (none)) else (ebbtideref14_Check.l0 k x1 x2 x3 x12 (wrap64 (x14 + 1)) x631000 x631001 x631002)
end
def ebbtideref14_Check.f (k : Nat) (a0_0 : Int) (a0_1 : Bool) (l0_2 : List (S54)) (a1 : Int) (a2 : Int) (a3 : Int) (l4 : List (S85)) : Option (Int × Int) := (ebbtideref14_Stocks.f k a0_0 a0_1 l0_2 a1 a2 a3 l4).bind fun bt631 => (if bt631.2 = 0 then (ebbtideref14_Check.l0 k a1 a2 a3 bt631.1 0 a0_0 a0_1 l0_2) else (some (0, bt631.2)))
set_option maxHeartbeats 8000000 in
set_option maxRecDepth 100000 in
theorem ebbtideref14_Check.calls (k : Nat) (a0_0 : Int) (a0_1 : Bool) (A0_2 : Option Addr) (c0_2 : Nat) (l0_2 : List (S54)) (a1 : Int) (a2 : Int) (a3 : Int) (A4 : Option Addr) (c4 : Nat) (l4 : List (S85)) (r1 : Int) (r2 : Int) (w : World) (hr0_2 : Kd.C k54 w A0_2 l0_2.length l0_2) (hc0_2 : l0_2.length ≤ c0_2) (hr4 : Kd.C k85 w A4 l4.length l4) (hc4 : l4.length ≤ c4) (h : ebbtideref14_Check.f k a0_0 a0_1 l0_2 a1 a2 a3 l4 = some (r1, r2)) :
  Calls Try.prog 26 #[.agg #[.int .i64 a0_0, .bool a0_1, .slice A0_2 l0_2.length c0_2], .int .i64 a1, .int .i64 a2, .int .i64 a3, .slice A4 l4.length c4] w fun e w' => e = .returned (.tuple #[.int .i64 r1, .int .i64 r2]) ∧ Below w.heap.size w w' := by
 have hu24 := Try.underlying24; have HR0_2 := am_ hr0_2; have HC0_2 := am_ hc0_2; clear hr0_2 hc0_2; have HR4 := am_ hr4; have HC4 := am_ hc4; clear hr4 hc4; have HB := am_ (Below.refl w.heap.size w); have H : ((ebbtideref14_Stocks.f k a0_0 a0_1 l0_2 a1 a2 a3 l4).bind fun bt631 => (if bt631.2 = 0 then (ebbtideref14_Check.l0 k a1 a2 a3 bt631.1 0 a0_0 a0_1 l0_2) else (some (0, bt631.2)))) = some (r1, r2) := h; clear h; replace H := Option.bind_eq_some_iff.mp H; obtain ⟨⟨t631, t634⟩, A60, H⟩ := H; replace H : (if t634 = 0 then (ebbtideref14_Check.l0 k a1 a2 a3 t631 0 a0_0 a0_1 l0_2) else (some (0, t634))) = some (r1, r2) := H; have A6 := am_ A60; clear A60
 by_cases c7 : t634 = 0
 ·rw [if_pos c7] at H
  obtain ⟨c7b0, c7b1⟩ := eqb_ c7; clear c7; have H' := am_ H; clear H
  go_enter Try.func26, Try.ntmps26
  go_wp2_with (first | ((with_reducible refine gate_dst (N := 5) rfl ?_); refine bx_ 5 #[.int .i64 a0_0, .bool a0_1, .slice A0_2 l0_2.length c0_2] 24 ?_; intro gb630 hg w8 BK630 hb; have GE630 := ge_ (w := w) hg; replace HB := hst_ hb; clear hb hg; obtain ⟨hcz9_0, hcz9_1, hcz9_2, hfz9_0, hfz9_1, hfz9_2⟩ := cf3_ BK630.out) | ((with_reducible refine gate_callee (f := 47) rfl ?_); refine cl_ 22 Try.func47 (ebbtideref14_Stocks.calls k a0_0 a0_1 _ _ l0_2 a1 a2 a3 _ _ l4 t631 t634 _ (cb_ HR0_2.out) HC0_2.out (cb_ HR4.out) HC4.out A6.out) ?_; rintro e w10 ⟨v632, rfl, ho0, hb⟩; refine ⟨_, rfl, ?_⟩; have HO633 := am_ (Kd.S_lower ho0 (below_size hb_)); replace BK630 := am_ (bb_ BK630.out hb); replace HB := hst_ hb; (try clear hb); (try clear hb2); (try clear hk); (try clear hi); (try clear ho0)))
  go_loopg [14] k (fun kq v14 w' => ∃ (x14_1 : Int), v14 = .int .i64 x14_1 ∧ Aside0 (ebbtideref14_Check.l0 kq a1 a2 a3 t631 x14_1 a0_0 a0_1 l0_2 = some (r1, r2)) ∧ Aside0 (kq ≤ k) ∧ Aside0 (Kd.S (Kd.slice 3 (Kd.int .i64)) 42 w' w.heap.size (fun _ => True) v632 t631) ∧ Aside0 (w'.heap[gb630]? = some (.cells #[.int .i64 a0_0, .bool a0_1, (.slice A0_2 l0_2.length c0_2)] 24 (0, 0))) ∧ Aside0 (Below w.heap.size w w'))
  case atStart => exact ⟨(0), rs_, H', ⟨Nat.le_refl _⟩, ⟨sq_ HO633.out⟩, ⟨bq_ BK630.out⟩, ⟨hb_⟩⟩
  case round =>
   clear H'
   try clear c2
   try clear p2
   try clear c4
   try clear c7
   try clear c7b0
   try clear c7b1
   try clear hcz9_0 hcz9_1 hcz9_2 hfz9_0 hfz9_1 hfz9_2
   obtain ⟨x14_1, rfl, HA, HK1, HO_12, BK630, HB⟩ := hrel
   cases gk with
   | zero => exact absurd HA.out (by simp [ebbtideref14_Check.l0])
   | succ k1 =>
    have H := HA.out; clear HA; simp only [ebbtideref14_Check.l0] at H
    by_cases c11 : x14_1 < a0_0
    ·rw [if_pos c11] at H
     have c11b0 := decide_eq_true c11; clear c11; have H' := am_ H; clear H; obtain ⟨hcz12_0, hcz12_1, hcz12_2, hfz12_0, hfz12_1, hfz12_2⟩ := cf3_ BK630.out
     go_wp2
     go_loopg [15] k1 (fun kq v15 w' => ∃ (x15_2 : Int), v15 = .int .i64 x15_2 ∧ Aside0 (ebbtideref14_Check.l1 kq a1 a2 a3 t631 x14_1 x15_2 a0_0 a0_1 l0_2 = some (r1, r2)) ∧ Aside0 (kq ≤ k1) ∧ Aside0 (Kd.S (Kd.slice 3 (Kd.int .i64)) 42 w' w.heap.size (fun _ => True) v632 t631) ∧ Aside0 (w'.heap[gb630]? = some (.cells #[.int .i64 a0_0, .bool a0_1, (.slice A0_2 l0_2.length c0_2)] 24 (0, 0))) ∧ Aside0 (Below w.heap.size w w'))
     case atStart => exact ⟨(0), rs_, H', ⟨Nat.le_refl _⟩, ⟨sq_ HO_12.out⟩, ⟨bq_ BK630.out⟩, ⟨hb_⟩⟩
     case round =>
      clear H'
      try clear c1
      try clear c2
      try clear p2
      try clear c4
      try clear c7
      try clear c7b0
      try clear c7b1
      try clear c11
      try clear c11b0
      try clear hcz12_0 hcz12_1 hcz12_2
      try clear hcz9_0 hcz9_1 hcz9_2
      try clear hfz12_0 hfz12_1 hfz12_2
      try clear hfz9_0 hfz9_1 hfz9_2
      try clear p2
      obtain ⟨x15_2, rfl, HA, HK2, HO_12, BK630, HB⟩ := hrel
      cases gk with
      | zero => exact absurd HA.out (by simp [ebbtideref14_Check.l1])
      | succ k2 =>
       have H := HA.out; clear HA; simp only [ebbtideref14_Check.l1] at H; have HC13 := am_ H; clear H
       go_upto_region 8 with (fail)
       go_cut [46] (fun v46 wc => ∃ (kq : Nat) (x46_12 : Bool), v46 = .bool x46_12 ∧ Aside0 (ebbtideref14_Check.j2 kq a1 a2 a3 t631 x14_1 x15_2 x46_12 a0_0 a0_1 l0_2 = some (r1, r2)) ∧ Aside0 (kq ≤ k2) ∧ Aside0 (Kd.S (Kd.slice 3 (Kd.int .i64)) 42 wc w.heap.size (fun _ => True) v632 t631) ∧ Aside0 (wc.heap[gb630]? = some (.cells #[.int .i64 a0_0, .bool a0_1, (.slice A0_2 l0_2.length c0_2)] 24 (0, 0))) ∧ Aside0 (Below w.heap.size w wc))
       case first =>
        have H := HC13.out; clear HC13
        by_cases c14 : x15_2 ≤ a3
        ·rw [if_pos c14] at H
         have c14b0 := decide_eq_true c14; clear c14
         (first | rw [c14b0] | (simp only [i64_w, i32_w]; rw [c14b0]) | skip)
         by_cases c15 : x14_1 = a1
         ·rw [if_pos c15] at H
          obtain ⟨c15b0, c15b1⟩ := eqb_ c15; clear c15; have H' := am_ H; clear H
          go_wp2
          go_meet
          case rel => exact ⟨_, (false), rs_, H', ⟨by have := HK1.out; have := HK2.out; first | omega | exact Nat.le_refl _⟩, ⟨sq_ HO_12.out⟩, ⟨bq_ BK630.out⟩, ⟨hb_⟩⟩
         ·rw [if_neg c15] at H
          obtain ⟨c15b0, c15b1⟩ := neb_ c15; have H' := am_ H; clear H
          go_wp2
          go_meet
          case rel => exact ⟨_, ((x14_1 != a2)), rs_, H', ⟨by have := HK1.out; have := HK2.out; first | omega | exact Nat.le_refl _⟩, ⟨sq_ HO_12.out⟩, ⟨bq_ BK630.out⟩, ⟨hb_⟩⟩
        ·rw [if_neg c14] at H
         have c14b0 := decide_eq_false c14; clear c14
         (first | rw [c14b0] | (simp only [i64_w, i32_w]; rw [c14b0]) | skip)
         have H' := am_ H; clear H
         go_wp2
         go_meet
         case rel => exact ⟨_, (false), rs_, H', ⟨by have := HK1.out; have := HK2.out; first | omega | exact Nat.le_refl _⟩, ⟨sq_ HO_12.out⟩, ⟨bq_ BK630.out⟩, ⟨hb_⟩⟩
       case rest =>
        clear HC13
        try clear c1
        try clear c2
        try clear p2
        try clear c4
        try clear c7
        try clear c7b0
        try clear c7b1
        try clear c11
        try clear c11b0
        try clear c14
        try clear c14b0
        try clear c15
        try clear c15b0
        try clear c15b1
        try clear hcz12_0 hcz12_1 hcz12_2
        try clear hcz9_0 hcz9_1 hcz9_2
        try clear hfz12_0 hfz12_1 hfz12_2
        try clear hfz9_0 hfz9_1 hfz9_2
        try clear p2
        obtain ⟨kq, x46_12, rfl, HA, HJ12, HO_12, BK630, HB⟩ := hcut
        cases kq with
        | zero => exact absurd HA.out (by simp [ebbtideref14_Check.j2])
        | succ kj12 =>
         have H := HA.out; clear HA; simp only [ebbtideref14_Check.j2] at H
         by_cases c16 : x46_12 = true
         ·subst c16
          have H1 : (if 0 ≤ x15_2 then (if x15_2 < (t631.length : Int) then (if 0 ≤ x14_1 then (if x14_1 < ((rd_L3 t631 x15_2).length : Int) then (if (rd (rd_L3 t631 x15_2) x14_1) < 0 then (some (0, 141)) else (if (rd (rd_L3 t631 x15_2) x14_1) > 0 then (if a0_1 = true then (if x15_2 = a3 then (some (0, 141)) else (ebbtideref14_Check.l1 kj12 a1 a2 a3 t631 x14_1 (wrap64 (x15_2 + 1)) a0_0 a0_1 l0_2)) else (some (0, 141))) else (ebbtideref14_Check.l1 kj12 a1 a2 a3 t631 x14_1 (wrap64 (x15_2 + 1)) a0_0 a0_1 l0_2))) else (none)) else (none)) else (none)) else (none)) = some (r1, r2) := by rw [if_pos rfl] at H; exact H
          clear H; have H := H1; clear H1
          replace H := ifn_ H; obtain ⟨c17, H⟩ := H
          have c17b0 := decide_eq_true c17; clear c17
          replace H := ifn_ H; obtain ⟨c18, H⟩ := H
          have c18b0 := decide_eq_true c18; clear c18
          replace H := ifn_ H; obtain ⟨c19, H⟩ := H
          have c19b0 := decide_eq_true c19; clear c19
          replace H := ifn_ H; obtain ⟨c20, H⟩ := H
          have c20b0 := decide_eq_true c20; clear c20
          by_cases c21 : (rd (rd_L3 t631 x15_2) x14_1) < 0
          ·rw [if_pos c21] at H
           have c21b0 := decide_eq_true c21; clear c21; simp only [Option.some.injEq, Prod.mk.injEq] at H; obtain ⟨rfl, rfl⟩ := H; obtain ⟨Ao22, co22, eo22⟩ := Kd.S_slice HO_12.out; subst eo22; have p637 : 0 ≤ (x15_2 : Int) := of_decide_eq_true sm_; have q637 : x15_2 < (t631.length : Int) := of_decide_eq_true sm_; obtain ⟨ad637, A637_0, c637_0, e637, hx637_0, hl637_0, hi637_0⟩ := at_L3 (Kd.S_reads' HO_12.out).2.2 x15_2 p637 q637; cases e637; obtain ⟨ce637, hce637, hMe637, hcc637⟩ := Kd.S_get HO_12.out [] x15_2 p637 q16_; obtain ⟨ve637_0, rfl, ge637_0⟩ := hMe637; have hv637_0 := hcc637 0 _ rfl; rw [Nat.add_zero, show ((Kd.slice 3 (Kd.int .i64))).sz = 1 from rfl, Nat.mul_one] at hv637_0; replace hv637_0 := Option.some.inj (hv637_0.symm.trans hx637_0); rw [hv637_0] at ge637_0; have HL637_0 := am_ (show Kd.R (Kd.int .i64) 3 _ _ _ _ (rd_L3 t631 x15_2) from ge637_0); clear hv637_0 ge637_0; clear hcc637 hce637; have HR637_0 := am_ hi637_0; have HC637_0 := am_ hl637_0; clear hi637_0 hl637_0; replace p637 := eq_true p637; replace q637 := eq_true q637; have p638 : 0 ≤ (x14_1 : Int) := of_decide_eq_true sm_; have q638 : x14_1 < ((rd_L3 t631 x15_2).length : Int) := of_decide_eq_true sm_; obtain ⟨ad638, e638, hx638_0⟩ := Kd.at_int q8_ x14_1 p638 q638; cases e638; replace p638 := eq_true p638; replace q638 := eq_true q638
           go_wp2
           go_ret2
           exact ⟨er_, hb_⟩
          ·rw [if_neg c21] at H
           have c21b0 := decide_eq_false c21; clear c21
           by_cases c23 : (rd (rd_L3 t631 x15_2) x14_1) > 0
           ·rw [if_pos c23] at H
            have c23b0 := decide_eq_true c23; clear c23
            by_cases c24 : a0_1 = true
            ·subst c24
             have H1 : (if x15_2 = a3 then (some (0, 141)) else (ebbtideref14_Check.l1 kj12 a1 a2 a3 t631 x14_1 (wrap64 (x15_2 + 1)) a0_0 true l0_2)) = some (r1, r2) := by rw [if_pos rfl] at H; exact H
             clear H; have H := H1; clear H1
             by_cases c25 : x15_2 = a3
             ·rw [if_pos c25] at H
              obtain ⟨c25b0, c25b1⟩ := eqb_ c25; clear c25; simp only [Option.some.injEq, Prod.mk.injEq] at H; obtain ⟨rfl, rfl⟩ := H; obtain ⟨Ao26, co26, eo26⟩ := Kd.S_slice HO_12.out; subst eo26; have p637 : 0 ≤ (x15_2 : Int) := of_decide_eq_true sm_; have q637 : x15_2 < (t631.length : Int) := of_decide_eq_true sm_; obtain ⟨ad637, A637_0, c637_0, e637, hx637_0, hl637_0, hi637_0⟩ := at_L3 (Kd.S_reads' HO_12.out).2.2 x15_2 p637 q637; cases e637; obtain ⟨ce637, hce637, hMe637, hcc637⟩ := Kd.S_get HO_12.out [] x15_2 p637 q16_; obtain ⟨ve637_0, rfl, ge637_0⟩ := hMe637; have hv637_0 := hcc637 0 _ rfl; rw [Nat.add_zero, show ((Kd.slice 3 (Kd.int .i64))).sz = 1 from rfl, Nat.mul_one] at hv637_0; replace hv637_0 := Option.some.inj (hv637_0.symm.trans hx637_0); rw [hv637_0] at ge637_0; have HL637_0 := am_ (show Kd.R (Kd.int .i64) 3 _ _ _ _ (rd_L3 t631 x15_2) from ge637_0); clear hv637_0 ge637_0; clear hcc637 hce637; have HR637_0 := am_ hi637_0; have HC637_0 := am_ hl637_0; clear hi637_0 hl637_0; replace p637 := eq_true p637; replace q637 := eq_true q637; have p638 : 0 ≤ (x14_1 : Int) := of_decide_eq_true sm_; have q638 : x14_1 < ((rd_L3 t631 x15_2).length : Int) := of_decide_eq_true sm_; obtain ⟨ad638, e638, hx638_0⟩ := Kd.at_int q8_ x14_1 p638 q638; cases e638; replace p638 := eq_true p638; replace q638 := eq_true q638; have p639 : 0 ≤ (x15_2 : Int) := of_decide_eq_true sm_; have q639 : x15_2 < (t631.length : Int) := of_decide_eq_true sm_; obtain ⟨ad639, A639_0, c639_0, e639, hx639_0, hl639_0, hi639_0⟩ := at_L3 (Kd.S_reads' HO_12.out).2.2 x15_2 p639 q639; obtain rfl : ad637 = ad639 := (by injection e639); obtain ⟨ce639, hce639, hMe639, hcc639⟩ := Kd.S_get HO_12.out [] x15_2 p639 (by first | exact q639 | exact of_decide_eq_true sm_ | (have e_ := (Kd.S_reads' HO_12.out).1; omega)); obtain ⟨ve639_0, rfl, ge639_0⟩ := hMe639; have hv639_0 := hcc639 0 _ rfl; rw [Nat.add_zero, show ((Kd.slice 3 (Kd.int .i64))).sz = 1 from rfl, Nat.mul_one] at hv639_0; replace hv639_0 := Option.some.inj (hv639_0.symm.trans hx639_0); rw [hv639_0] at ge639_0; have HL639_0 := am_ (show Kd.R (Kd.int .i64) 3 _ _ _ _ (rd_L3 t631 x15_2) from ge639_0); clear hv639_0 ge639_0; clear hcc639 hce639; have HR639_0 := am_ hi639_0; have HC639_0 := am_ hl639_0; clear hi639_0 hl639_0; replace p639 := eq_true p639; replace q639 := eq_true q639; have ea_ := Option.some.inj (hx637_0.symm.trans hx639_0)
              injection ea_ with ea_ en_ ec_
              subst ea_; subst ec_; clear en_; have p640 : 0 ≤ (x14_1 : Int) := of_decide_eq_true sm_; have q640 : x14_1 < ((rd_L3 t631 x15_2).length : Int) := of_decide_eq_true sm_; obtain ⟨ad640, e640, hx640_0⟩ := Kd.at_int q11_ x14_1 p640 q640; cases e640; replace p640 := eq_true p640; replace q640 := eq_true q640; obtain ⟨hcz27_0, hcz27_1, hcz27_2, hfz27_0, hfz27_1, hfz27_2⟩ := cf3_ BK630.out
              go_wp2
              go_ret2
              exact ⟨er_, hb_⟩
             ·rw [if_neg c25] at H
              obtain ⟨c25b0, c25b1⟩ := neb_ c25; have H' := am_ H; clear H; obtain ⟨Ao28, co28, eo28⟩ := Kd.S_slice HO_12.out; subst eo28; have p637 : 0 ≤ (x15_2 : Int) := of_decide_eq_true sm_; have q637 : x15_2 < (t631.length : Int) := of_decide_eq_true sm_; obtain ⟨ad637, A637_0, c637_0, e637, hx637_0, hl637_0, hi637_0⟩ := at_L3 (Kd.S_reads' HO_12.out).2.2 x15_2 p637 q637; cases e637; obtain ⟨ce637, hce637, hMe637, hcc637⟩ := Kd.S_get HO_12.out [] x15_2 p637 q16_; obtain ⟨ve637_0, rfl, ge637_0⟩ := hMe637; have hv637_0 := hcc637 0 _ rfl; rw [Nat.add_zero, show ((Kd.slice 3 (Kd.int .i64))).sz = 1 from rfl, Nat.mul_one] at hv637_0; replace hv637_0 := Option.some.inj (hv637_0.symm.trans hx637_0); rw [hv637_0] at ge637_0; have HL637_0 := am_ (show Kd.R (Kd.int .i64) 3 _ _ _ _ (rd_L3 t631 x15_2) from ge637_0); clear hv637_0 ge637_0; clear hcc637 hce637; have HR637_0 := am_ hi637_0; have HC637_0 := am_ hl637_0; clear hi637_0 hl637_0; replace p637 := eq_true p637; replace q637 := eq_true q637; have p638 : 0 ≤ (x14_1 : Int) := of_decide_eq_true sm_; have q638 : x14_1 < ((rd_L3 t631 x15_2).length : Int) := of_decide_eq_true sm_; obtain ⟨ad638, e638, hx638_0⟩ := Kd.at_int q8_ x14_1 p638 q638; cases e638; replace p638 := eq_true p638; replace q638 := eq_true q638; have p639 : 0 ≤ (x15_2 : Int) := of_decide_eq_true sm_; have q639 : x15_2 < (t631.length : Int) := of_decide_eq_true sm_; obtain ⟨ad639, A639_0, c639_0, e639, hx639_0, hl639_0, hi639_0⟩ := at_L3 (Kd.S_reads' HO_12.out).2.2 x15_2 p639 q639; obtain rfl : ad637 = ad639 := (by injection e639); obtain ⟨ce639, hce639, hMe639, hcc639⟩ := Kd.S_get HO_12.out [] x15_2 p639 (by first | exact q639 | exact of_decide_eq_true sm_ | (have e_ := (Kd.S_reads' HO_12.out).1; omega)); obtain ⟨ve639_0, rfl, ge639_0⟩ := hMe639; have hv639_0 := hcc639 0 _ rfl; rw [Nat.add_zero, show ((Kd.slice 3 (Kd.int .i64))).sz = 1 from rfl, Nat.mul_one] at hv639_0; replace hv639_0 := Option.some.inj (hv639_0.symm.trans hx639_0); rw [hv639_0] at ge639_0; have HL639_0 := am_ (show Kd.R (Kd.int .i64) 3 _ _ _ _ (rd_L3 t631 x15_2) from ge639_0); clear hv639_0 ge639_0; clear hcc639 hce639; have HR639_0 := am_ hi639_0; have HC639_0 := am_ hl639_0; clear hi639_0 hl639_0; replace p639 := eq_true p639; replace q639 := eq_true q639; have ea_ := Option.some.inj (hx637_0.symm.trans hx639_0)
              injection ea_ with ea_ en_ ec_
              subst ea_; subst ec_; clear en_; have p640 : 0 ≤ (x14_1 : Int) := of_decide_eq_true sm_; have q640 : x14_1 < ((rd_L3 t631 x15_2).length : Int) := of_decide_eq_true sm_; obtain ⟨ad640, e640, hx640_0⟩ := Kd.at_int q11_ x14_1 p640 q640; cases e640; replace p640 := eq_true p640; replace q640 := eq_true q640; obtain ⟨hcz29_0, hcz29_1, hcz29_2, hfz29_0, hfz29_1, hfz29_2⟩ := cf3_ BK630.out
              go_wp2
              go_roundg kj12
              case measure => have := HK1.out; have := HK2.out; have := HJ12.out; omega
              case rel => exact ⟨(wrap64 (x15_2 + 1)), rs_, H', ⟨by have := HK1.out; have := HK2.out; have := HJ12.out; omega⟩, ⟨sq_ HO_12.out⟩, ⟨bq_ BK630.out⟩, ⟨hb_⟩⟩
            ·replace c24 := Bool.eq_false_iff.mpr c24
             subst c24
             have H1 : (some (0, 141)) = some (r1, r2) := by rw [if_neg (show ¬ (false = true) by decide)] at H; exact H
             clear H; have H := H1; clear H1; simp only [Option.some.injEq, Prod.mk.injEq] at H; obtain ⟨rfl, rfl⟩ := H; obtain ⟨Ao30, co30, eo30⟩ := Kd.S_slice HO_12.out; subst eo30; have p637 : 0 ≤ (x15_2 : Int) := of_decide_eq_true sm_; have q637 : x15_2 < (t631.length : Int) := of_decide_eq_true sm_; obtain ⟨ad637, A637_0, c637_0, e637, hx637_0, hl637_0, hi637_0⟩ := at_L3 (Kd.S_reads' HO_12.out).2.2 x15_2 p637 q637; cases e637; obtain ⟨ce637, hce637, hMe637, hcc637⟩ := Kd.S_get HO_12.out [] x15_2 p637 q16_; obtain ⟨ve637_0, rfl, ge637_0⟩ := hMe637; have hv637_0 := hcc637 0 _ rfl; rw [Nat.add_zero, show ((Kd.slice 3 (Kd.int .i64))).sz = 1 from rfl, Nat.mul_one] at hv637_0; replace hv637_0 := Option.some.inj (hv637_0.symm.trans hx637_0); rw [hv637_0] at ge637_0; have HL637_0 := am_ (show Kd.R (Kd.int .i64) 3 _ _ _ _ (rd_L3 t631 x15_2) from ge637_0); clear hv637_0 ge637_0; clear hcc637 hce637; have HR637_0 := am_ hi637_0; have HC637_0 := am_ hl637_0; clear hi637_0 hl637_0; replace p637 := eq_true p637; replace q637 := eq_true q637; have p638 : 0 ≤ (x14_1 : Int) := of_decide_eq_true sm_; have q638 : x14_1 < ((rd_L3 t631 x15_2).length : Int) := of_decide_eq_true sm_; obtain ⟨ad638, e638, hx638_0⟩ := Kd.at_int q8_ x14_1 p638 q638; cases e638; replace p638 := eq_true p638; replace q638 := eq_true q638; have p639 : 0 ≤ (x15_2 : Int) := of_decide_eq_true sm_; have q639 : x15_2 < (t631.length : Int) := of_decide_eq_true sm_; obtain ⟨ad639, A639_0, c639_0, e639, hx639_0, hl639_0, hi639_0⟩ := at_L3 (Kd.S_reads' HO_12.out).2.2 x15_2 p639 q639; obtain rfl : ad637 = ad639 := (by injection e639); obtain ⟨ce639, hce639, hMe639, hcc639⟩ := Kd.S_get HO_12.out [] x15_2 p639 (by first | exact q639 | exact of_decide_eq_true sm_ | (have e_ := (Kd.S_reads' HO_12.out).1; omega)); obtain ⟨ve639_0, rfl, ge639_0⟩ := hMe639; have hv639_0 := hcc639 0 _ rfl; rw [Nat.add_zero, show ((Kd.slice 3 (Kd.int .i64))).sz = 1 from rfl, Nat.mul_one] at hv639_0; replace hv639_0 := Option.some.inj (hv639_0.symm.trans hx639_0); rw [hv639_0] at ge639_0; have HL639_0 := am_ (show Kd.R (Kd.int .i64) 3 _ _ _ _ (rd_L3 t631 x15_2) from ge639_0); clear hv639_0 ge639_0; clear hcc639 hce639; have HR639_0 := am_ hi639_0; have HC639_0 := am_ hl639_0; clear hi639_0 hl639_0; replace p639 := eq_true p639; replace q639 := eq_true q639; have ea_ := Option.some.inj (hx637_0.symm.trans hx639_0)
             injection ea_ with ea_ en_ ec_
             subst ea_; subst ec_; clear en_; have p640 : 0 ≤ (x14_1 : Int) := of_decide_eq_true sm_; have q640 : x14_1 < ((rd_L3 t631 x15_2).length : Int) := of_decide_eq_true sm_; obtain ⟨ad640, e640, hx640_0⟩ := Kd.at_int q11_ x14_1 p640 q640; cases e640; replace p640 := eq_true p640; replace q640 := eq_true q640; obtain ⟨hcz31_0, hcz31_1, hcz31_2, hfz31_0, hfz31_1, hfz31_2⟩ := cf3_ BK630.out
             go_wp2
             go_ret2
             exact ⟨er_, hb_⟩
           ·rw [if_neg c23] at H
            have c23b0 := decide_eq_false c23; clear c23; have H' := am_ H; clear H; obtain ⟨Ao32, co32, eo32⟩ := Kd.S_slice HO_12.out; subst eo32; have p637 : 0 ≤ (x15_2 : Int) := of_decide_eq_true sm_; have q637 : x15_2 < (t631.length : Int) := of_decide_eq_true sm_; obtain ⟨ad637, A637_0, c637_0, e637, hx637_0, hl637_0, hi637_0⟩ := at_L3 (Kd.S_reads' HO_12.out).2.2 x15_2 p637 q637; cases e637; obtain ⟨ce637, hce637, hMe637, hcc637⟩ := Kd.S_get HO_12.out [] x15_2 p637 q16_; obtain ⟨ve637_0, rfl, ge637_0⟩ := hMe637; have hv637_0 := hcc637 0 _ rfl; rw [Nat.add_zero, show ((Kd.slice 3 (Kd.int .i64))).sz = 1 from rfl, Nat.mul_one] at hv637_0; replace hv637_0 := Option.some.inj (hv637_0.symm.trans hx637_0); rw [hv637_0] at ge637_0; have HL637_0 := am_ (show Kd.R (Kd.int .i64) 3 _ _ _ _ (rd_L3 t631 x15_2) from ge637_0); clear hv637_0 ge637_0; clear hcc637 hce637; have HR637_0 := am_ hi637_0; have HC637_0 := am_ hl637_0; clear hi637_0 hl637_0; replace p637 := eq_true p637; replace q637 := eq_true q637; have p638 : 0 ≤ (x14_1 : Int) := of_decide_eq_true sm_; have q638 : x14_1 < ((rd_L3 t631 x15_2).length : Int) := of_decide_eq_true sm_; obtain ⟨ad638, e638, hx638_0⟩ := Kd.at_int q8_ x14_1 p638 q638; cases e638; replace p638 := eq_true p638; replace q638 := eq_true q638; have p639 : 0 ≤ (x15_2 : Int) := of_decide_eq_true sm_; have q639 : x15_2 < (t631.length : Int) := of_decide_eq_true sm_; obtain ⟨ad639, A639_0, c639_0, e639, hx639_0, hl639_0, hi639_0⟩ := at_L3 (Kd.S_reads' HO_12.out).2.2 x15_2 p639 q639; obtain rfl : ad637 = ad639 := (by injection e639); obtain ⟨ce639, hce639, hMe639, hcc639⟩ := Kd.S_get HO_12.out [] x15_2 p639 (by first | exact q639 | exact of_decide_eq_true sm_ | (have e_ := (Kd.S_reads' HO_12.out).1; omega)); obtain ⟨ve639_0, rfl, ge639_0⟩ := hMe639; have hv639_0 := hcc639 0 _ rfl; rw [Nat.add_zero, show ((Kd.slice 3 (Kd.int .i64))).sz = 1 from rfl, Nat.mul_one] at hv639_0; replace hv639_0 := Option.some.inj (hv639_0.symm.trans hx639_0); rw [hv639_0] at ge639_0; have HL639_0 := am_ (show Kd.R (Kd.int .i64) 3 _ _ _ _ (rd_L3 t631 x15_2) from ge639_0); clear hv639_0 ge639_0; clear hcc639 hce639; have HR639_0 := am_ hi639_0; have HC639_0 := am_ hl639_0; clear hi639_0 hl639_0; replace p639 := eq_true p639; replace q639 := eq_true q639; have ea_ := Option.some.inj (hx637_0.symm.trans hx639_0)
            injection ea_ with ea_ en_ ec_
            subst ea_; subst ec_; clear en_; have p640 : 0 ≤ (x14_1 : Int) := of_decide_eq_true sm_; have q640 : x14_1 < ((rd_L3 t631 x15_2).length : Int) := of_decide_eq_true sm_; obtain ⟨ad640, e640, hx640_0⟩ := Kd.at_int q11_ x14_1 p640 q640; cases e640; replace p640 := eq_true p640; replace q640 := eq_true q640
            go_wp2
            go_roundg kj12
            case measure => have := HK1.out; have := HK2.out; have := HJ12.out; omega
            case rel => exact ⟨(wrap64 (x15_2 + 1)), rs_, H', ⟨by have := HK1.out; have := HK2.out; have := HJ12.out; omega⟩, ⟨sq_ HO_12.out⟩, ⟨bq_ BK630.out⟩, ⟨hb_⟩⟩
         ·replace c16 := Bool.eq_false_iff.mpr c16
          subst c16
          have H1 : (ebbtideref14_Check.l0 kj12 a1 a2 a3 t631 (wrap64 (x14_1 + 1)) a0_0 a0_1 l0_2) = some (r1, r2) := by rw [if_neg (show ¬ (false = true) by decide)] at H; exact H
          clear H; have H := H1; clear H1; have H' := am_ H; clear H
          go_wp2
          go_roundg kj12
          case measure => have := HK1.out; have := HK2.out; have := HJ12.out; omega
          case rel => exact ⟨(wrap64 (x14_1 + 1)), rs_, H', ⟨by have := HK1.out; have := HK2.out; have := HJ12.out; omega⟩, ⟨sq_ HO_12.out⟩, ⟨bq_ BK630.out⟩, ⟨hb_⟩⟩
    ·rw [if_neg c11] at H
     have c11b0 := decide_eq_false c11; clear c11
     replace H := ifn_ H; obtain ⟨c33, H⟩ := H
     have c33b0 := decide_eq_true c33; clear c33
     replace H := ifn_ H; obtain ⟨c34, H⟩ := H
     have c34b0 := decide_eq_true c34; clear c34
     replace H := ifn_ H; obtain ⟨c35, H⟩ := H
     have c35b0 := decide_eq_true c35; clear c35
     replace H := ifn_ H; obtain ⟨c36, H⟩ := H
     have c36b0 := decide_eq_true c36; clear c36; simp only [Option.some.injEq, Prod.mk.injEq] at H; obtain ⟨rfl, rfl⟩ := H; obtain ⟨hcz37_0, hcz37_1, hcz37_2, hfz37_0, hfz37_1, hfz37_2⟩ := cf3_ BK630.out; obtain ⟨Ao38, co38, eo38⟩ := Kd.S_slice HO_12.out; subst eo38; have p635 : 0 ≤ (a3 : Int) := of_decide_eq_true sm_; have q635 : a3 < (t631.length : Int) := of_decide_eq_true sm_; obtain ⟨ad635, A635_0, c635_0, e635, hx635_0, hl635_0, hi635_0⟩ := at_L3 (Kd.S_reads' HO_12.out).2.2 a3 p635 q635; cases e635; obtain ⟨ce635, hce635, hMe635, hcc635⟩ := Kd.S_get HO_12.out [] a3 p635 (by first | exact q635 | exact of_decide_eq_true sm_ | (have e_ := (Kd.S_reads' HO_12.out).1; omega)); obtain ⟨ve635_0, rfl, ge635_0⟩ := hMe635; have hv635_0 := hcc635 0 _ rfl; rw [Nat.add_zero, show ((Kd.slice 3 (Kd.int .i64))).sz = 1 from rfl, Nat.mul_one] at hv635_0; replace hv635_0 := Option.some.inj (hv635_0.symm.trans hx635_0); rw [hv635_0] at ge635_0; have HL635_0 := am_ (show Kd.R (Kd.int .i64) 3 _ _ _ _ (rd_L3 t631 a3) from ge635_0); clear hv635_0 ge635_0; clear hcc635 hce635; have HR635_0 := am_ hi635_0; have HC635_0 := am_ hl635_0; clear hi635_0 hl635_0; replace p635 := eq_true p635; replace q635 := eq_true q635; have p636 : 0 ≤ (a2 : Int) := of_decide_eq_true sm_; have q636 : a2 < ((rd_L3 t631 a3).length : Int) := of_decide_eq_true sm_; obtain ⟨ad636, e636, hx636_0⟩ := Kd.at_int (by repeat (first | (with_reducible exact HR635_0.out) | (with_reducible refine Kd.C_alloc ?_ _) | (with_reducible refine Kd.C_drewN ?_ _) | (with_reducible refine Kd.C_drew ?_) | exact HR635_0.out)) a2 p636 q636; cases e636; replace p636 := eq_true p636; replace q636 := eq_true q636
     go_wp2
     go_ret2
     exact ⟨er_, hb_⟩
 ·rw [if_neg c7] at H
  obtain ⟨c7b0, c7b1⟩ := neb_ c7; simp only [Option.some.injEq, Prod.mk.injEq] at H; obtain ⟨rfl, rfl⟩ := H
  go_enter Try.func26, Try.ntmps26
  go_wp2_with (first | ((with_reducible refine gate_dst (N := 5) rfl ?_); refine bx_ 5 #[.int .i64 a0_0, .bool a0_1, .slice A0_2 l0_2.length c0_2] 24 ?_; intro gb630 hg w39 BK630 hb; have GE630 := ge_ (w := w) hg; replace HB := hst_ hb; clear hb hg; obtain ⟨hcz40_0, hcz40_1, hcz40_2, hfz40_0, hfz40_1, hfz40_2⟩ := cf3_ BK630.out) | ((with_reducible refine gate_callee (f := 47) rfl ?_); refine cl_ 22 Try.func47 (ebbtideref14_Stocks.calls k a0_0 a0_1 _ _ l0_2 a1 a2 a3 _ _ l4 t631 t634 _ (cb_ HR0_2.out) HC0_2.out (cb_ HR4.out) HC4.out A6.out) ?_; rintro e w41 ⟨v632, rfl, ho0, hb⟩; refine ⟨_, rfl, ?_⟩; have HO633 := am_ (Kd.S_lower ho0 (below_size hb_)); replace BK630 := am_ (bb_ BK630.out hb); replace HB := hst_ hb; (try clear hb); (try clear hb2); (try clear hk); (try clear hi); (try clear ho0)))
  go_ret2
  exact ⟨er_, hb_⟩
end Go.Proofs.Ytfhkkbpkajfdlaa.Q
end
