/- A part of the proof: words, contracts, plain lemmas. Conditions: none. -/
import Derived.Test.YtfhkkbpkajfdlaaZExpandRuns30
import Derived.Test.YtfhkkbpkajfdlaaZExpandRuns31
set_option linter.unusedSectionVars false
set_option linter.unusedSimpArgs false
set_option linter.unusedVariables false
section
namespace Go.Proofs.Ytfhkkbpkajfdlaa.Q
open Go.RowKit Go.Proofs.YtfhkkbpkajfdlaaW.PrintWords Go.Proofs.YtfhkkbpkajfdlaaW.PrintLast Go.Proofs.YtfhkkbpkajfdlaaW.PrintMore
def ebbtideref09_Best.l0 : Nat → Int → Int → List Int → Int → Bool → List (S54) → Option (List Int)
 | 0, _, _, _, _, _, _ => none
 | k + 1, x1, x2, x7, x259000, x259001, x259002 => (ebbtideref07_Steps.f k x259000 x259001 x259002 x7).bind fun t262 => ((ebbtideref08_Way.f k x259000 x259001 x259002 x1 x2 t262).bind fun bt265 => (if bt265.2 = true then ((ebbtideref08_Bottle.f k x259000 x259001 x259002 x7 bt265.1).bind fun t269 => ((ebbtideref07_Pushed.f k x7 bt265.1 t269).bind fun t270 => (ebbtideref09_Best.l0 k x1 x2 t270 x259000 x259001 x259002))) else (some x7)))
def ebbtideref09_Best.f (k : Nat) (a0_0 : Int) (a0_1 : Bool) (l0_2 : List (S54)) (a1 : Int) (a2 : Int) : Option (List Int) := if 0 ≤ (l0_2.length : Int) then (if ((l0_2.length : Int) : Int).toNat ≤ 35184372088832 then (ebbtideref09_Best.l0 k a1 a2 (List.replicate ((l0_2.length : Int) : Int).toNat 0) a0_0 a0_1 l0_2) else (none)) else (none)
def ebbtideref09_Best.T2 : Bool × List (List Nat × List Nat) := (true, [([], []), ([], []), ([], []), ([], []), ([], []), ([3, 4], [3, 4]), ([0, 1, 2, 5, 5], [0, 1, 2, 5]), ([6], [6]), ([7], [7]), ([7], [7]), ([8, 6, 0, 1, 2, 3, 4, 5, 6, 7, 8], [8]), ([9, 10, 0, 1, 2, 3, 4, 5, 6, 7, 8, 9, 10], [9])])
def ebbtideref09_Best.B2 : List Nat := [0, 0, 0, 0, 0, 24, 63, 127, 255, 255, 511, 2047]
theorem ebbtideref09_Best.tab2 : rtab .any (opsOf Try.f25 2) = ebbtideref09_Best.T2 := by kernel_rfl
theorem ebbtideref09_Best.bits2 : waitsOk ebbtideref09_Best.T2.2 ebbtideref09_Best.B2 = true := by kernel_rfl
set_option maxHeartbeats 8000000 in
set_option maxRecDepth 100000 in
theorem ebbtideref09_Best.calls (k : Nat) (a0_0 : Int) (a0_1 : Bool) (A0_2 : Option Addr) (c0_2 : Nat) (l0_2 : List (S54)) (a1 : Int) (a2 : Int) (r : List Int) (w : World) (hr0_2 : Kd.C k54 w A0_2 l0_2.length l0_2) (hc0_2 : l0_2.length ≤ c0_2) (h : ebbtideref09_Best.f k a0_0 a0_1 l0_2 a1 a2 = some r) :
  Calls Try.prog 25 #[.agg #[.int .i64 a0_0, .bool a0_1, .slice A0_2 l0_2.length c0_2], .int .i64 a1, .int .i64 a2] w fun e w' => ∃ v0_ : Value, e = .returned (v0_) ∧ Kd.R (Kd.int .i64) 3 w' w.heap.size (fun _ => True) v0_ r ∧ Below w.heap.size w w' := by
 have hu24 := Try.underlying24; have HR0_2 := am_ hr0_2; have HC0_2 := am_ hc0_2; clear hr0_2 hc0_2; have HB := am_ (Below.refl w.heap.size w); have H : (if 0 ≤ (l0_2.length : Int) then (if ((l0_2.length : Int) : Int).toNat ≤ 35184372088832 then (ebbtideref09_Best.l0 k a1 a2 (List.replicate ((l0_2.length : Int) : Int).toNat 0) a0_0 a0_1 l0_2) else (none)) else (none)) = some r := h; clear h
 replace H := ifn_ H; obtain ⟨c4, H⟩ := H
 have c4b0 := eq_true c4; have c4b1 := decide_eq_true c4; clear c4
 replace H := ifn_ H; obtain ⟨c5, H⟩ := H
 have c5b0 := eq_true c5; have c5b1 := decide_eq_true c5; clear c5; obtain ⟨y259, hy_⟩ : ∃ y_ : List Int, y_ = (List.replicate ((l0_2.length : Int) : Int).toNat 0) := ⟨_, rfl⟩
 replace H : (ebbtideref09_Best.l0 k a1 a2 y259 a0_0 a0_1 l0_2) = some r := hyH_
 have Ny259 := am_ hy_; clear hy_; have H' := am_ H; clear H
 go_enter Try.func25, Try.ntmps25
 go_wp2_with (first | ((with_reducible refine gate_dst (N := 3) rfl ?_); refine bx_ 3 #[.int .i64 a0_0, .bool a0_1, .slice A0_2 l0_2.length c0_2] 24 ?_; intro gb258 hg w6 BK258 hb; have GE258 := ge_ (w := w) hg; replace HB := hst_ hb; clear hb hg; obtain ⟨hcz7_0, hcz7_1, hcz7_2, hfz7_0, hfz7_1, hfz7_2⟩ := cf3_ BK258.out) | ((with_reducible refine gate_dst (N := 13) rfl ?_); refine Kd.R_make (Kd.int .i64) _ 3 rfl (N := 13) rfl 42 _ _ rfl (l0_2.length : Int) rfl rfl Try.underlying42 (.int .i64 0) 8 info3 rfl (by decide) (by omega) 0 (ok := fun _ => True) (okp := fun _ => True) rfl (fun _ hk => hk) trivial (of_decide_eq_true sm_) (Nat.le_trans (Nat.mul_le_mul_right _ (of_decide_eq_true sm_ : (l0_2.length : Int).toNat ≤ 35184372088832)) (by omega)) (Below.refl _ _) (Nat.le_refl _) ?_; intro v260 w8 ho9 hb hg_ hnew_; clear hg_ hnew_; (first | rw [← Ny259.out] at ho9 | (simp only [Int.reduceToNat] at ho9; rw [← Ny259.out] at ho9)); have HO261 := am_ (Kd.R_lower ho9 (below_size hb_)); replace BK258 := am_ (bb_ BK258.out hb); replace HB := hst_ hb; clear hb ho9))
 go_loopg [7] k (fun kq v7 w' => ∃ (x7_1 : List Int), Aside0 (ebbtideref09_Best.l0 kq a1 a2 x7_1 a0_0 a0_1 l0_2 = some r) ∧ Aside0 (kq ≤ k) ∧ Aside0 (Kd.R (Kd.int .i64) 3 w' w.heap.size (fun _ => True) v7 x7_1) ∧ Aside0 (w'.heap[gb258]? = some (.cells #[.int .i64 a0_0, .bool a0_1, (.slice A0_2 l0_2.length c0_2)] 24 (0, 0))) ∧ Aside0 (Below w.heap.size w w'))
 case atStart => exact ⟨(y259), H', ⟨Nat.le_refl _⟩, ⟨rq_ HO261.out⟩, ⟨bq_ BK258.out⟩, ⟨hb_⟩⟩
 case round =>
  clear H'
  try clear c2
  try clear p2
  try clear c4
  try clear c4b0
  try clear c4b1
  try clear c5
  try clear c5b0
  try clear c5b1
  try clear hcz7_0 hcz7_1 hcz7_2 hfz7_0 hfz7_1 hfz7_2
  obtain ⟨x7_1, HA, HK1, HO_7, BK258, HB⟩ := hrel
  cases gk with
  | zero => exact absurd HA.out (by simp [ebbtideref09_Best.l0])
  | succ k1 =>
   have H := HA.out; clear HA; simp only [ebbtideref09_Best.l0] at H; replace H := Option.bind_eq_some_iff.mp H; obtain ⟨t262, A100, H⟩ := H; replace H : ((ebbtideref08_Way.f k1 a0_0 a0_1 l0_2 a1 a2 t262).bind fun bt265 => (if bt265.2 = true then ((ebbtideref08_Bottle.f k1 a0_0 a0_1 l0_2 x7_1 bt265.1).bind fun t269 => ((ebbtideref07_Pushed.f k1 x7_1 bt265.1 t269).bind fun t270 => (ebbtideref09_Best.l0 k1 a1 a2 t270 a0_0 a0_1 l0_2))) else (some x7_1))) = some r := H; have A10 := am_ A100; clear A100; replace H := Option.bind_eq_some_iff.mp H; obtain ⟨⟨t265, t268⟩, A110, H⟩ := H; replace H : (if t268 = true then ((ebbtideref08_Bottle.f k1 a0_0 a0_1 l0_2 x7_1 t265).bind fun t269 => ((ebbtideref07_Pushed.f k1 x7_1 t265 t269).bind fun t270 => (ebbtideref09_Best.l0 k1 a1 a2 t270 a0_0 a0_1 l0_2))) else (some x7_1)) = some r := H; have A11 := am_ A110; clear A110
   by_cases c12 : t268 = true
   ·subst c12
    have H1 : ((ebbtideref08_Bottle.f k1 a0_0 a0_1 l0_2 x7_1 t265).bind fun t269 => ((ebbtideref07_Pushed.f k1 x7_1 t265 t269).bind fun t270 => (ebbtideref09_Best.l0 k1 a1 a2 t270 a0_0 a0_1 l0_2))) = some r := by rw [if_pos rfl] at H; exact H
    clear H; have H := H1; clear H1; replace H := Option.bind_eq_some_iff.mp H; obtain ⟨t269, A130, H⟩ := H; replace H : ((ebbtideref07_Pushed.f k1 x7_1 t265 t269).bind fun t270 => (ebbtideref09_Best.l0 k1 a1 a2 t270 a0_0 a0_1 l0_2)) = some r := H; have A13 := am_ A130; clear A130; replace H := Option.bind_eq_some_iff.mp H; obtain ⟨t270, A140, H⟩ := H; replace H : (ebbtideref09_Best.l0 k1 a1 a2 t270 a0_0 a0_1 l0_2) = some r := H; have A14 := am_ A140; clear A140; have H' := am_ H; clear H
    try go_wp2
    replace HO_7 := am_ (Kd.R_drew HO_7.out); replace BK258 := am_ (blk_drew BK258.out); replace HB := am_ (below_drew1 HB.out); obtain ⟨Ao16, co16, eo16⟩ := Kd.R_slice HO_7.out
    (first | subst eo16 | (injection eo16 with f1_ f2_ f3_; have f4_ := f1_.symm; have f5_ := f3_.symm; clear f1_ f2_ f3_; subst f4_; subst f5_))
    refine start_ (n := 12) (S := fun w' => w'.cell? ⟨gb258, 0, none⟩ = some (.int .i64 a0_0) ∧ w'.cell? ⟨gb258, 1, none⟩ = some (.bool a0_1) ∧ w'.cell? ⟨gb258, 2, none⟩ = some (.slice A0_2 l0_2.length c0_2)) (ds := []) #[Ff,Ff,Ff,Ff,Ff,Ff,Ff,Ff,Ff,Ff,Ff,Ff] (by kernel_rfl) rfl rfl ⟨(blk_cell BK258.out 0).trans rfl, (blk_cell BK258.out 1).trans rfl, (blk_cell BK258.out 2).trans rfl⟩ (fun hHeld => ?_); refine with_tabW ebbtideref09_Best.tab2 ebbtideref09_Best.bits2 (fun HT_ HW_ => ?_); generalize wr.drew = w15 at HO_7 BK258 HB hHeld ⊢; refine pw_ 1 16 ?_; refine pw_ 2 17 ?_; refine pw_ 4 19 ?_; refine tk_ 0 15 ?_; refine tk_ 3 18 ?_; refine one_ (i := 5) (N := some 20) #[Tt,Tt,Tt,Tt,Tt,Tt,Ff,Ff,Ff,Ff,Ff,Ff] rfl rfl (one_of HT_.out (by kernel_rfl)) (by decide) (fun K hK => ?_); refine goes_ Try.func44 (by kernel_rfl) rfl #[.agg #[.int .i64 a0_0, .bool a0_1, .slice A0_2 l0_2.length c0_2], .slice Ao16 x7_1.length co16] (by rfl) rfl rfl mt_ ?_
    with_reducible refine (ebbtideref07_Steps.calls k1 a0_0 a0_1 _ _ l0_2 _ _ x7_1 t262 _ ?side1 ?side2 ?side3 ?side4 A10.out).mono ?_
    (case side1 => exact cb_ HR0_2.out)
    (case side2 => exact HC0_2.out)
    (case side3 => repeat (first | exact (Kd.R_reads' HO_7.out).2.2 | (with_reducible refine Kd.C_alloc ?_ _) | (with_reducible refine Kd.C_drewN ?_ _) | (with_reducible refine Kd.C_drew ?_)))
    (case side4 => exact (Kd.R_reads' HO_7.out).2.1)
    rintro e w17 ⟨v263, rfl, ho0, hb⟩; refine ⟨_, rfl, ?_⟩; replace HO_7 := am_ (Kd.R_below (rq_ HO_7.out) hb); have HO264 := am_ (Kd.R_lower ho0 (below_size hb_)); replace BK258 := am_ (bb_ BK258.out hb); replace HB := hst_ hb
    (try clear hb)
    (try clear hb2)
    (try clear hk)
    (try clear hi)
    (try clear ho0)
    obtain ⟨Ao18, co18, eo18⟩ := Kd.R_slice HO264.out
    (first | subst eo18 | (injection eo18 with f1_ f2_ f3_; have f4_ := f1_.symm; have f5_ := f3_.symm; clear f1_ f2_ f3_; subst f4_; subst f5_))
    refine hK.out _ _ ⟨(blk_cell BK258.out 0).trans rfl, (blk_cell BK258.out 1).trans rfl, (blk_cell BK258.out 2).trans rfl⟩ (fun hHeld => ?_); clear hK K; refine norm_ (a' := ?_) ?_ ?_; rotate_left
    ·show Act.put _ (some 20) _ = _
     simp only [Act.put, List.setIfInBounds_toArray, List.set_cons_zero, List.set_cons_succ, i64_w, i32_w]; rfl
    refine one_ (i := 6) (N := some 21) #[Tt,Tt,Tt,Tt,Tt,Tt,Tt,Ff,Ff,Ff,Ff,Ff] rfl rfl (one_of HT_.out (by kernel_rfl)) (by decide) (fun K hK => ?_); refine goes_ Try.func43 (by kernel_rfl) rfl #[.agg #[.int .i64 a0_0, .bool a0_1, .slice A0_2 l0_2.length c0_2], .int .i64 a1, .int .i64 a2, .slice Ao18 t262.length co18] (by rfl) rfl rfl mt_ ?_
    with_reducible refine (ebbtideref08_Way.calls k1 a0_0 a0_1 _ _ l0_2 a1 a2 _ _ t262 t265 true _ ?side1 ?side2 ?side3 ?side4 A11.out).mono ?_
    (case side1 => exact cb_ HR0_2.out)
    (case side2 => exact HC0_2.out)
    (case side3 => repeat (first | exact (Kd.R_reads' HO264.out).2.2 | (with_reducible refine Kd.C_alloc ?_ _) | (with_reducible refine Kd.C_drewN ?_ _) | (with_reducible refine Kd.C_drew ?_)))
    (case side4 => exact (Kd.R_reads' HO264.out).2.1)
    rintro e w19 ⟨v266, rfl, ho0, hb⟩; refine ⟨_, rfl, ?_⟩; replace HO_7 := am_ (Kd.R_below (rq_ HO_7.out) hb); have HO267 := am_ (Kd.R_lower (Kd.R_new' ho0 (Kd.R_lt (rq_ HO264.out))) (below_size hb_)); replace HO264 := am_ (Kd.R_elder' (rq_ HO264.out) (Kd.R_base ho0) hb); replace BK258 := am_ (bb_ BK258.out hb); replace HB := hst_ hb
    (try clear hb)
    (try clear hb2)
    (try clear hk)
    (try clear hi)
    (try clear ho0)
    refine hK.out _ _ ⟨(blk_cell BK258.out 0).trans rfl, (blk_cell BK258.out 1).trans rfl, (blk_cell BK258.out 2).trans rfl⟩ (fun hHeld => ?_); clear hK K; refine norm_ (a' := ?_) ?_ ?_; rotate_left
    ·show Act.put _ (some 21) _ = _
     simp only [Act.put, List.setIfInBounds_toArray, List.set_cons_zero, List.set_cons_succ, i64_w, i32_w]; rfl
    refine pw_ 7 14 ?_; refine pw_ 8 22 ?_; refine pw_ 9 23 ?_; refine pw_ 10 8 ?_; refine pw_ 11 9 ?_; refine done_ (done_of HT_.out (by kernel_rfl)) ?_; obtain ⟨hcz20_0, hcz20_1, hcz20_2, hfz20_0, hfz20_1, hfz20_2⟩ := cf3_ BK258.out; obtain ⟨Ao21, co21, eo21⟩ := Kd.R_slice HO267.out; subst eo21
    try go_wp2_with (first | ((with_reducible refine gate_callee (f := 46) rfl ?_); refine goesL_ (some 32) rfl rfl Try.func46 (by kernel_rfl) rfl #[.agg #[.int .i64 a0_0, .bool a0_1, .slice A0_2 l0_2.length c0_2], .slice Ao16 x7_1.length co16, .slice Ao21 t265.length co21] rfl mt_ ?_; (with_reducible refine (ebbtideref08_Bottle.calls k1 a0_0 a0_1 _ _ l0_2 _ _ x7_1 _ _ t265 t269 _ ?side1 ?side2 ?side3 ?side4 ?side5 ?side6 A13.out).mono ?_); (case side1 => exact cb_ HR0_2.out); (case side2 => exact HC0_2.out); (case side3 => repeat (first | exact (Kd.R_reads' HO_7.out).2.2 | (with_reducible refine Kd.C_alloc ?_ _) | (with_reducible refine Kd.C_drewN ?_ _) | (with_reducible refine Kd.C_drew ?_))); (case side4 => exact (Kd.R_reads' HO_7.out).2.1); (case side5 => repeat (first | exact (Kd.R_reads' HO267.out).2.2 | (with_reducible refine Kd.C_alloc ?_ _) | (with_reducible refine Kd.C_drewN ?_ _) | (with_reducible refine Kd.C_drew ?_))); (case side6 => exact (Kd.R_reads' HO267.out).2.1); rintro e w22 ⟨rfl, hb⟩; refine ⟨_, rfl, ?_⟩; replace HO_7 := am_ (Kd.R_below (rq_ HO_7.out) hb); replace HO264 := am_ (Kd.R_below (rq_ HO264.out) hb); replace HO267 := am_ (Kd.R_below (rq_ HO267.out) hb); replace BK258 := am_ (bb_ BK258.out hb); replace HB := hst_ hb; (try clear hb); (try clear hb2); (try clear hk); (try clear hi)) | ((with_reducible refine gate_callee (f := 45) rfl ?_); refine goesL_ (some 33) rfl rfl Try.func45 (by kernel_rfl) rfl #[.slice Ao16 x7_1.length co16, .slice Ao21 t265.length co21, .int .i64 t269] rfl mt_ ?_; (with_reducible refine (ebbtideref07_Pushed.calls k1 _ _ x7_1 _ _ t265 t269 t270 _ ?side1 ?side2 ?side3 ?side4 A14.out).mono ?_); (case side1 => repeat (first | exact (Kd.R_reads' HO_7.out).2.2 | (with_reducible refine Kd.C_alloc ?_ _) | (with_reducible refine Kd.C_drewN ?_ _) | (with_reducible refine Kd.C_drew ?_))); (case side2 => exact (Kd.R_reads' HO_7.out).2.1); (case side3 => repeat (first | exact (Kd.R_reads' HO267.out).2.2 | (with_reducible refine Kd.C_alloc ?_ _) | (with_reducible refine Kd.C_drewN ?_ _) | (with_reducible refine Kd.C_drew ?_))); (case side4 => exact (Kd.R_reads' HO267.out).2.1); rintro e w23 ⟨v271, rfl, ho0, hb⟩; refine ⟨_, rfl, ?_⟩; replace HO264 := am_ (Kd.R_below (rq_ HO264.out) hb); replace HO267 := am_ (Kd.R_below (rq_ HO267.out) hb); have HO272 := am_ (Kd.R_lower (Kd.R_new' ho0 (Kd.R_lt (rq_ HO_7.out))) (below_size hb_)); replace HO_7 := am_ (Kd.R_elder' (rq_ HO_7.out) (Kd.R_base ho0) hb); replace BK258 := am_ (bb_ BK258.out hb); replace HB := hst_ hb; (try clear hb); (try clear hb2); (try clear hk); (try clear hi); (try clear ho0)))
    go_roundg k1
    case measure => have := HK1.out; omega
    case rel => exact ⟨(t270), H', ⟨by have := HK1.out; omega⟩, ⟨by refine rq_ ?_; exact Kd.R_mono HO272.out (fun _ hk => trivial)⟩, ⟨bq_ BK258.out⟩, ⟨hb_⟩⟩
   ·replace c12 := Bool.eq_false_iff.mpr c12
    subst c12
    have H1 : (some x7_1) = some r := by rw [if_neg (show ¬ (false = true) by decide)] at H; exact H
    clear H; have H := H1; clear H1; obtain rfl := Option.some.inj H
    try go_wp2
    replace HO_7 := am_ (Kd.R_drew HO_7.out); replace BK258 := am_ (blk_drew BK258.out); replace HB := am_ (below_drew1 HB.out); obtain ⟨Ao25, co25, eo25⟩ := Kd.R_slice HO_7.out
    (first | subst eo25 | (injection eo25 with f1_ f2_ f3_; have f4_ := f1_.symm; have f5_ := f3_.symm; clear f1_ f2_ f3_; subst f4_; subst f5_))
    refine start_ (n := 12) (S := fun w' => w'.cell? ⟨gb258, 0, none⟩ = some (.int .i64 a0_0) ∧ w'.cell? ⟨gb258, 1, none⟩ = some (.bool a0_1) ∧ w'.cell? ⟨gb258, 2, none⟩ = some (.slice A0_2 l0_2.length c0_2)) (ds := []) #[Ff,Ff,Ff,Ff,Ff,Ff,Ff,Ff,Ff,Ff,Ff,Ff] (by kernel_rfl) rfl rfl ⟨(blk_cell BK258.out 0).trans rfl, (blk_cell BK258.out 1).trans rfl, (blk_cell BK258.out 2).trans rfl⟩ (fun hHeld => ?_); refine with_tabW ebbtideref09_Best.tab2 ebbtideref09_Best.bits2 (fun HT_ HW_ => ?_); generalize wr.drew = w24 at HO_7 BK258 HB hHeld ⊢; refine pw_ 1 16 ?_; refine pw_ 2 17 ?_; refine pw_ 4 19 ?_; refine tk_ 0 15 ?_; refine tk_ 3 18 ?_; refine one_ (i := 5) (N := some 20) #[Tt,Tt,Tt,Tt,Tt,Tt,Ff,Ff,Ff,Ff,Ff,Ff] rfl rfl (one_of HT_.out (by kernel_rfl)) (by decide) (fun K hK => ?_); refine goes_ Try.func44 (by kernel_rfl) rfl #[.agg #[.int .i64 a0_0, .bool a0_1, .slice A0_2 l0_2.length c0_2], .slice Ao25 x7_1.length co25] (by rfl) rfl rfl mt_ ?_
    with_reducible refine (ebbtideref07_Steps.calls k1 a0_0 a0_1 _ _ l0_2 _ _ x7_1 t262 _ ?side1 ?side2 ?side3 ?side4 A10.out).mono ?_
    (case side1 => exact cb_ HR0_2.out)
    (case side2 => exact HC0_2.out)
    (case side3 => repeat (first | exact (Kd.R_reads' HO_7.out).2.2 | (with_reducible refine Kd.C_alloc ?_ _) | (with_reducible refine Kd.C_drewN ?_ _) | (with_reducible refine Kd.C_drew ?_)))
    (case side4 => exact (Kd.R_reads' HO_7.out).2.1)
    rintro e w26 ⟨v263, rfl, ho0, hb⟩; refine ⟨_, rfl, ?_⟩; replace HO_7 := am_ (Kd.R_below (rq_ HO_7.out) hb); have HO264 := am_ (Kd.R_lower ho0 (below_size hb_)); replace BK258 := am_ (bb_ BK258.out hb); replace HB := hst_ hb
    (try clear hb)
    (try clear hb2)
    (try clear hk)
    (try clear hi)
    (try clear ho0)
    obtain ⟨Ao27, co27, eo27⟩ := Kd.R_slice HO264.out
    (first | subst eo27 | (injection eo27 with f1_ f2_ f3_; have f4_ := f1_.symm; have f5_ := f3_.symm; clear f1_ f2_ f3_; subst f4_; subst f5_))
    refine hK.out _ _ ⟨(blk_cell BK258.out 0).trans rfl, (blk_cell BK258.out 1).trans rfl, (blk_cell BK258.out 2).trans rfl⟩ (fun hHeld => ?_); clear hK K; refine norm_ (a' := ?_) ?_ ?_; rotate_left
    ·show Act.put _ (some 20) _ = _
     simp only [Act.put, List.setIfInBounds_toArray, List.set_cons_zero, List.set_cons_succ, i64_w, i32_w]; rfl
    refine one_ (i := 6) (N := some 21) #[Tt,Tt,Tt,Tt,Tt,Tt,Tt,Ff,Ff,Ff,Ff,Ff] rfl rfl (one_of HT_.out (by kernel_rfl)) (by decide) (fun K hK => ?_); refine goes_ Try.func43 (by kernel_rfl) rfl #[.agg #[.int .i64 a0_0, .bool a0_1, .slice A0_2 l0_2.length c0_2], .int .i64 a1, .int .i64 a2, .slice Ao27 t262.length co27] (by rfl) rfl rfl mt_ ?_
    with_reducible refine (ebbtideref08_Way.calls k1 a0_0 a0_1 _ _ l0_2 a1 a2 _ _ t262 t265 false _ ?side1 ?side2 ?side3 ?side4 A11.out).mono ?_
    (case side1 => exact cb_ HR0_2.out)
    (case side2 => exact HC0_2.out)
    (case side3 => repeat (first | exact (Kd.R_reads' HO264.out).2.2 | (with_reducible refine Kd.C_alloc ?_ _) | (with_reducible refine Kd.C_drewN ?_ _) | (with_reducible refine Kd.C_drew ?_)))
    (case side4 => exact (Kd.R_reads' HO264.out).2.1)
    rintro e w28 ⟨v266, rfl, ho0, hb⟩; refine ⟨_, rfl, ?_⟩; replace HO_7 := am_ (Kd.R_below (rq_ HO_7.out) hb); have HO267 := am_ (Kd.R_lower (Kd.R_new' ho0 (Kd.R_lt (rq_ HO264.out))) (below_size hb_)); replace HO264 := am_ (Kd.R_elder' (rq_ HO264.out) (Kd.R_base ho0) hb); replace BK258 := am_ (bb_ BK258.out hb); replace HB := hst_ hb
    (try clear hb)
    (try clear hb2)
    (try clear hk)
    (try clear hi)
    (try clear ho0)
    refine hK.out _ _ ⟨(blk_cell BK258.out 0).trans rfl, (blk_cell BK258.out 1).trans rfl, (blk_cell BK258.out 2).trans rfl⟩ (fun hHeld => ?_); clear hK K; refine norm_ (a' := ?_) ?_ ?_; rotate_left
    ·show Act.put _ (some 21) _ = _
     simp only [Act.put, List.setIfInBounds_toArray, List.set_cons_zero, List.set_cons_succ, i64_w, i32_w]; rfl
    refine pw_ 7 14 ?_; refine pw_ 8 22 ?_; refine pw_ 9 23 ?_; refine pw_ 10 8 ?_; refine pw_ 11 9 ?_; refine done_ (done_of HT_.out (by kernel_rfl)) ?_
    try go_wp2
    go_ret
    exact ⟨_, er_, by refine rq_ ?_; exact HO_7.out, hb_⟩
end Go.Proofs.Ytfhkkbpkajfdlaa.Q
end
section
namespace Go.Proofs.Ytfhkkbpkajfdlaa.P
open Go.RowKit Go.Proofs.Ytfhkkbpkajfdlaa.Q Go.Proofs.YtfhkkbpkajfdlaaW.PrintWords Go.Proofs.YtfhkkbpkajfdlaaW.PrintLast Go.Proofs.YtfhkkbpkajfdlaaW.PrintMore
noncomputable instance : DecidableEq S115 := fun _ _ => Classical.propDecidable _
def leftS (A : List S54) (f : List Int) (x : S115) : Int := if x.f1 = true then rd f x.f0 else (rd_T54 A x.f0).f2 - rd f x.f0
structure Fits (A : List S54) (f : List Int) : Prop where
 len : f.length = A.length
 lo : ∀ j (h : j < f.length), 0 ≤ f[j]
 hi : ∀ j (h : j < f.length) (h2 : j < A.length), f[j] ≤ A[j].f2
def bal (A : List S54) (f : List Int) (v : Int) : Int := sm (fun p : S54 × Int => p.2 * (dl p.1.f0 v - dl p.1.f1 v)) (A.zip f)
theorem bal_set : ∀ (A : List S54) (f : List Int) (j : Nat) (hA : j < A.length) (hf : j < f.length) (y v : Int), bal A (f.set j y) v = bal A f v + (y - f[j]) * (dl A[j].f0 v - dl A[j].f1 v)
 | [], _, _, h, _, _, _ => absurd h (Nat.not_lt_zero _)
 | _ :: _, [], _, _, h, _, _ => absurd h (Nat.not_lt_zero _)
 | a :: A, x :: f, 0, _, _, y, v => by
  simp only [bal, List.set_cons_zero, List.zip_cons_cons, sm, List.getElem_cons_zero, Int.sub_mul]
  omega
 | a :: A, x :: f, j + 1, hA, hf, y, v => by
  have h := bal_set A f j (by simpa using hA) (by simpa using hf) y v
  unfold bal at h
  simp only [bal, List.set_cons_succ, List.zip_cons_cons, sm, List.getElem_cons_succ]
  rw [h]
  omega
section
variable {nn s t : Int} {bb : Bool} {A : List S54} {f : List Int} (hAl : A.length ≤ 300000) (hc : ∀ j (h : j < A.length), 0 ≤ A[j].f2 ∧ A[j].f2 ≤ 1099511627776) (hf : Fits A f)
include hAl hc hf
theorem fits_at {x : S115} (h : okS A x) : ∃ j : Nat, ∃ h1 : j < A.length, ∃ h2 : j < f.length, x.f0 = (j : Int) ∧ rd f x.f0 = f[j] ∧ rd_T54 A x.f0 = A[j] := by
 obtain ⟨j, hj⟩ := Int.eq_ofNat_of_zero_le h.1
 have h2 := h.2
 rw [hj] at h2
 have h3 := hf.len
 exact ⟨j, by omega, by omega, hj, by rw [hj]; exact rdI_at (by omega), by rw [hj]; exact rdA_of (by omega)⟩
theorem left_eq {x : S115} (h : okS A x) : ebbtideref07_Left.f nn bb A f x.f0 x.f1 = some (leftS A f x) ∧ leftS A f x ≤ 1099511627776 := by
 obtain ⟨j, h1, h2, e1, e2, e3⟩ := fits_at hAl hc hf h
 have h4 := hf.lo j h2
 have h5 := hf.hi j h2 h1
 have h6 := hc j h1
 have h7 := hf.len
 unfold ebbtideref07_Left.f leftS
 rw [e2, e3]
 cases x.f1
 ·rw [if_neg Bool.false_ne_true, if_neg Bool.false_ne_true, if_pos h.1, if_pos h.2, if_pos (by omega), w64v (by omega) (by omega)]
  exact ⟨rfl, by omega⟩
 ·rw [if_pos rfl, if_pos rfl, if_pos h.1, if_pos (by omega)]
  exact ⟨rfl, by omega⟩
theorem steps_loop : ∀ d i : Nat, i + d = f.length → ∀ out : List S115, out.length ≤ 2 * i → (∀ x ∈ out, okS A x ∧ 0 < leftS A f x) →
 ∃ R, Ev (fun k => ebbtideref07_Steps.l0 k f out (i : Int) nn bb A) R ∧ (∀ x ∈ R, okS A x ∧ 0 < leftS A f x) ∧ R.length ≤ 2 * f.length := by
 intro d
 induction d with
 | zero =>
  intro i hi out ho hx
  exact ⟨out, ev_cst fun k => by rw [ebbtideref07_Steps.l0, if_neg (by omega)], hx, by omega⟩
 | succ d ih =>
  intro i hi out ho hx
  have h3 := hf.len
  have hlt : i < f.length := by omega
  have hltA : i < A.length := by omega
  have okF : ∀ z : Bool, okS A ⟨(i : Int), z⟩ := fun z => ⟨by show (0 : Int) ≤ (i : Int); omega, by show (i : Int) < _; omega⟩
  have addF : f[i] < A[i].f2 → ∀ y ∈ out ++ [(⟨(i : Int), false⟩ : S115)], okS A y ∧ 0 < leftS A f y := fun h y hy => by
   rcases List.mem_append.1 hy with hy | hy
   ·exact hx y hy
   ·rw [List.mem_singleton.1 hy]
    refine ⟨okF false, ?_⟩
    unfold leftS
    rw [if_neg Bool.false_ne_true, rdA_of hltA, rdI_at hlt]
    omega
  have addB : 0 < f[i] → ∀ o : List S115, (∀ x ∈ o, okS A x ∧ 0 < leftS A f x) → ∀ y ∈ o ++ [(⟨(i : Int), true⟩ : S115)], okS A y ∧ 0 < leftS A f y := fun h o ho y hy => by
   rcases List.mem_append.1 hy with hy | hy
   ·exact ho y hy
   ·rw [List.mem_singleton.1 hy]
    refine ⟨okF true, ?_⟩
    unfold leftS
    rw [if_pos rfl, rdI_at hlt]
    exact h
  by_cases c1 : A[i].f2 > f[i]
  ·by_cases c2 : f[i] > 0
   ·obtain ⟨R, h1, h2⟩ := ih (i + 1) (by omega) ((out ++ [(⟨(i : Int), false⟩ : S115)]) ++ [(⟨(i : Int), true⟩ : S115)]) (by simp only [List.length_append, List.length_singleton]; omega) (addB c2 _ (addF c1))
    refine ⟨R, Ev.step (fun k => ?_) h1, h2⟩
    rw [ebbtideref07_Steps.l0, if_pos (by omega), if_pos (by omega), if_pos (by omega), rdA_of hltA, rdI_at hlt, if_pos c1, if_pos (by omega), Option.bind_some, if_pos c2, if_pos (by rw [List.length_append, List.length_singleton]; omega), wrap1 (by omega)]
   ·obtain ⟨R, h1, h2⟩ := ih (i + 1) (by omega) (out ++ [(⟨(i : Int), false⟩ : S115)]) (by simp only [List.length_append, List.length_singleton]; omega) (addF c1)
    refine ⟨R, Ev.step (fun k => ?_) h1, h2⟩
    rw [ebbtideref07_Steps.l0, if_pos (by omega), if_pos (by omega), if_pos (by omega), rdA_of hltA, rdI_at hlt, if_pos c1, if_pos (by omega), Option.bind_some, if_neg c2, wrap1 (by omega)]
  ·by_cases c2 : f[i] > 0
   ·obtain ⟨R, h1, h2⟩ := ih (i + 1) (by omega) (out ++ [(⟨(i : Int), true⟩ : S115)]) (by simp only [List.length_append, List.length_singleton]; omega) (addB c2 _ hx)
    refine ⟨R, Ev.step (fun k => ?_) h1, h2⟩
    rw [ebbtideref07_Steps.l0, if_pos (by omega), if_pos (by omega), if_pos (by omega), rdA_of hltA, rdI_at hlt, if_neg c1, if_pos c2, if_pos (by omega), wrap1 (by omega)]
   ·obtain ⟨R, h1, h2⟩ := ih (i + 1) (by omega) out (by omega) hx
    refine ⟨R, Ev.step (fun k => ?_) h1, h2⟩
    rw [ebbtideref07_Steps.l0, if_pos (by omega), if_pos (by omega), if_pos (by omega), rdA_of hltA, rdI_at hlt, if_neg c1, if_neg c2, wrap1 (by omega)]
theorem steps_ev : ∃ R, Ev (fun k => ebbtideref07_Steps.f k nn bb A f) R ∧ (∀ x ∈ R, okS A x ∧ 0 < leftS A f x) ∧ R.length ≤ 600000 := by
 obtain ⟨R, h1, h2, h3⟩ := steps_loop hAl hc hf (nn := nn) (bb := bb) f.length 0 (by omega) [] (Nat.zero_le _) (by simp)
 have := hf.len
 exact ⟨R, h1, h2, by omega⟩
theorem bottle_loop {P : List S115} (hP : ∀ x ∈ P, okS A x ∧ 0 < leftS A f x) (hl : P.length ≤ 1000000) : ∀ d i : Nat, i + d = P.length → ∀ b : Int, 0 < b → b ≤ 1099511627776 → (∀ x ∈ P.take i, b ≤ leftS A f x) →
 ∃ r, Ev (fun k => ebbtideref08_Bottle.l0 k f P b (i : Int) nn bb A) r ∧ (0 < r ∧ r ≤ 1099511627776) ∧ ∀ x ∈ P, r ≤ leftS A f x := by
 intro d
 induction d with
 | zero =>
  intro i hi b h0 h1 h2
  rw [List.take_of_length_le (by omega)] at h2
  exact ⟨b, ev_cst fun k => by rw [ebbtideref08_Bottle.l0, if_neg (by omega)], ⟨h0, h1⟩, h2⟩
 | succ d ih =>
  intro i hi b h0 h1 h2
  have hlt : i < P.length := by omega
  have hx := hP P[i] (List.getElem_mem hlt)
  have hle := left_eq hAl hc hf (nn := nn) (bb := bb) hx.1
  have hmn : mn b (leftS A f P[i]) ≤ b ∧ mn b (leftS A f P[i]) ≤ leftS A f P[i] ∧ 0 < mn b (leftS A f P[i]) := by
   unfold mn; split <;> omega
  obtain ⟨r, k1, k2⟩ := ih (i + 1) (by omega) (mn b (leftS A f P[i])) hmn.2.2 (by omega) (fun y hy => by
   rw [List.take_succ_eq_append_getElem hlt] at hy
   rcases List.mem_append.1 hy with hy | hy
   ·have := h2 y hy; omega
   ·rw [List.mem_singleton.1 hy]; exact hmn.2.1)
  refine ⟨r, Ev.step (fun k => ?_) k1, k2⟩
  rw [ebbtideref08_Bottle.l0, if_pos (by omega), if_pos (by omega), rdS_at hlt, hle.1, Option.bind_some, wrap1 (by omega)]
theorem bottle_ev {P : List S115} (hP : ∀ x ∈ P, okS A x ∧ 0 < leftS A f x) (hl : P.length ≤ 1000000) (hne : 0 < P.length) :
 ∃ r, Ev (fun k => ebbtideref08_Bottle.f k nn bb A f P) r ∧ (0 < r ∧ r ≤ 1099511627776) ∧ ∀ x ∈ P, r ≤ leftS A f x := by
 have hx := hP P[0] (List.getElem_mem hne)
 have hle := left_eq hAl hc hf (nn := nn) (bb := bb) hx.1
 obtain ⟨r, k1, k2⟩ := bottle_loop hAl hc hf (nn := nn) (bb := bb) hP hl (P.length - 1) 1 (by omega) (leftS A f P[0]) hx.2 hle.2 (fun y hy => by
  rw [List.take_succ_eq_append_getElem hne, List.take_zero, List.nil_append, List.mem_singleton] at hy
  rw [hy]; exact Int.le_refl _)
 refine ⟨r, Ev.congr (fun k => ?_) k1, k2⟩
 unfold ebbtideref08_Bottle.f
 have e : rd_T115 P 0 = P[0] := rdS_at hne
 rw [if_pos (by omega), e, hle.1, Option.bind_some]
 rfl
end
def cb (b : Int) (j : Nat) (x : S115) : Int := if x.f0 = (j : Int) then (if x.f1 = true then -b else b) else 0
def db (A : List S54) (b v : Int) (x : S115) : Int := b * dl (frS A x) v - b * dl (toS A x) v
theorem db_chain {A : List S54} {t b v : Int} : ∀ (P : List S115) (u : Int), chain A t u P → sm (db A b v) P = b * dl u v - b * dl t v
 | [], u, h => by
  have : u = t := h
  subst this
  simp [sm]
 | x :: P, u, h => by
  obtain ⟨h1, h2⟩ := h
  rw [sm, db_chain P _ h2]
  unfold db
  rw [h1]
  omega
theorem cb_sum {b : Int} {j : Nat} {P : List S115} (hd : P.Nodup) : sm (cb b j) P = (if (⟨(j : Int), false⟩ : S115) ∈ P then b else 0) + (if (⟨(j : Int), true⟩ : S115) ∈ P then -b else 0) := by
 rw [← sm_one hd, ← sm_one hd, ← sm_add]
 refine sm_congr fun x _ => ?_
 unfold cb
 obtain ⟨x0, x1⟩ := x
 cases x1
 ·by_cases c : x0 = (j : Int)
  ·subst c
   rw [if_pos rfl, if_neg Bool.false_ne_true, if_pos rfl, if_neg (fun e => by have := congrArg S115.f1 e; cases this)]
   omega
  ·rw [if_neg c, if_neg (fun e => c (congrArg S115.f0 e)), if_neg (fun e => c (congrArg S115.f0 e))]
   omega
 ·by_cases c : x0 = (j : Int)
  ·subst c
   rw [if_pos rfl, if_pos rfl, if_neg (fun e => by have := congrArg S115.f1 e; cases this), if_pos rfl]
   omega
  ·rw [if_neg c, if_neg (fun e => c (congrArg S115.f0 e)), if_neg (fun e => c (congrArg S115.f0 e))]
   omega
section
variable {N : Nat} {nn s t : Int} {bb : Bool} {A : List S54} (hN : N ≤ 100000) (hAl : A.length ≤ 300000) (hc : ∀ j (h : j < A.length), 0 ≤ A[j].f2 ∧ A[j].f2 ≤ 1099511627776) (hA : ∀ a ∈ A, (0 ≤ a.f0 ∧ a.f0 < (N : Int)) ∧ (0 ≤ a.f1 ∧ a.f1 < (N : Int)))
include hN hAl hc hA
structure Pushing (A : List S54) (f : List Int) (b : Int) (Q : List S115) (g : List Int) : Prop where
 len : g.length = f.length
 at_ : ∀ j (h : j < g.length) (h2 : j < f.length), g[j] = f[j] + sm (cb b j) Q
 bl : ∀ v, bal A g v = bal A f v + sm (db A b v) Q
theorem push_loop {f : List Int} (hf : Fits A f) {P : List S115} (hP : ∀ x ∈ P, okS A x) (hl : P.length ≤ 1000000) {b : Int} (hb : 0 < b ∧ b ≤ 1099511627776) : ∀ d i : Nat, i + d = P.length → ∀ g, Pushing A f b (P.take i) g →
 ∃ R, Ev (fun k => ebbtideref07_Pushed.l0 k P b g (i : Int)) R ∧ Pushing A f b P R := by
 intro d
 induction d with
 | zero =>
  intro i hi g hg
  rw [List.take_of_length_le (by omega)] at hg
  exact ⟨g, ev_cst fun k => by rw [ebbtideref07_Pushed.l0, if_neg (by omega)], hg⟩
 | succ d ih =>
  intro i hi g hg
  have hlt : i < P.length := by omega
  have hx := hP P[i] (List.getElem_mem hlt)
  obtain ⟨j, h1, h2, e1, -, e3⟩ := fits_at hAl hc hf hx
  have hgl := hg.len
  have hfl := hf.len
  have hjg : j < g.length := by omega
  have hgj := hg.at_ j hjg h2
  have hfj := hf.lo j h2
  have hfh := hf.hi j h2 h1
  have hcj := hc j h1
  have hbd := sm_bd (f := cb b j) (l := P.take i) (B := 1099511627776) (fun x _ => by unfold cb; split <;> (try split) <;> omega)
  have hln : (P.take i).length ≤ 1000000 := by rw [List.length_take]; omega
  have key : ∀ y : Int, y = g[j] + cb b j P[i] → Pushing A f b (P.take (i + 1)) (g.set j y) := fun y hy => by
   refine ⟨by rw [List.length_set]; exact hgl, ?_, ?_⟩
   ·intro q hq hq2
    rw [List.take_succ_eq_append_getElem hlt, sm_snoc, List.getElem_set]
    have hq3 : q < g.length := by rw [List.length_set] at hq; exact hq
    by_cases c : j = q
    ·subst c
     rw [if_pos rfl, hy, hgj]
     omega
    ·have h4 := hg.at_ q hq3 hq2
     have e5 : cb b q P[i] = 0 := by
      unfold cb
      rw [if_neg]
      rw [e1]; omega
     rw [if_neg c, h4, e5]
     omega
   ·intro v
    rw [bal_set A g j h1 hjg, hg.bl v, List.take_succ_eq_append_getElem hlt, sm_snoc, hy]
    have e6 : (g[j] + cb b j P[i] - g[j]) = cb b j P[i] := by omega
    rw [e6]
    unfold cb db frS toS
    rw [if_pos e1, e3]
    cases hb1 : P[i].f1
    ·simp only [Bool.false_eq_true, if_false, Int.mul_sub]
     omega
    ·simp only [if_true, Int.mul_sub, Int.neg_mul]
     omega
  have ejt : (P[i].f0).toNat = j := by omega
  have erd : rd g P[i].f0 = g[j] := by rw [e1]; exact rdI_at hjg
  cases hb1 : P[i].f1
  ·obtain ⟨R, k1, k2⟩ := ih (i + 1) (by omega) (g.set j (g[j] + b)) (key _ (by unfold cb; rw [if_pos e1, hb1, if_neg Bool.false_ne_true]))
   refine ⟨R, Ev.step (fun k => ?_) k1, k2⟩
   rw [ebbtideref07_Pushed.l0, if_pos (by omega), if_pos (by omega), rdS_at hlt, hb1, if_neg Bool.false_ne_true, if_pos hx.1, if_pos (by omega), ejt, erd, w64v (by omega) (by omega), wrap1 (by omega)]
  ·obtain ⟨R, k1, k2⟩ := ih (i + 1) (by omega) (g.set j (g[j] - b)) (key _ (by unfold cb; rw [if_pos e1, hb1, if_pos rfl]; omega))
   refine ⟨R, Ev.step (fun k => ?_) k1, k2⟩
   rw [ebbtideref07_Pushed.l0, if_pos (by omega), if_pos (by omega), rdS_at hlt, hb1, if_pos rfl, if_pos hx.1, if_pos (by omega), ejt, erd, w64v (by omega) (by omega), wrap1 (by omega)]
theorem pushed_ev {f : List Int} (hf : Fits A f) {P : List S115} (hP : ∀ x ∈ P, okS A x) (hl : P.length ≤ 1000000) (hd : P.Nodup) {b : Int} (hb : 0 < b ∧ b ≤ 1099511627776) (hle : ∀ x ∈ P, b ≤ leftS A f x) :
 ∃ R, Ev (fun k => ebbtideref07_Pushed.f k f P b) R ∧ Fits A R ∧ ∀ v, bal A R v = bal A f v + sm (db A b v) P := by
 have hfl := hf.len
 obtain ⟨R, h1, h2⟩ := push_loop hN hAl hc hA hf hP hl hb P.length 0 (by omega) f ⟨rfl, fun j h h2 => by simp [sm], fun v => by simp [sm]⟩
 refine ⟨R, Ev.congr (fun k => ?_) h1, ⟨by rw [h2.len]; exact hfl, ?_, ?_⟩, h2.bl⟩
 ·unfold ebbtideref07_Pushed.f
  rw [if_pos (by simp; omega), List.nil_append]
  rfl
 ·intro j hj
  have hj2 : j < f.length := by have := h2.len; omega
  have hjA : j < A.length := by omega
  rw [h2.at_ j hj hj2, cb_sum hd]
  have h3 := hf.lo j hj2
  by_cases c : (⟨(j : Int), true⟩ : S115) ∈ P
  ·have h4 := hle _ c
   unfold leftS at h4
   rw [if_pos rfl, rdI_at hj2] at h4
   rw [if_pos c]
   split <;> omega
  ·rw [if_neg c]
   split <;> omega
 ·intro j hj hjA
  have hj2 : j < f.length := by have := h2.len; omega
  rw [h2.at_ j hj hj2, cb_sum hd]
  have h3 := hf.hi j hj2 hjA
  by_cases c : (⟨(j : Int), false⟩ : S115) ∈ P
  ·have h4 := hle _ c
   unfold leftS at h4
   rw [if_neg Bool.false_ne_true, rdI_at hj2, rdA_of hjA] at h4
   rw [if_pos c]
   split <;> omega
  ·rw [if_neg c]
   split <;> omega
theorem bal_bd {f : List Int} (hf : Fits A f) (v : Int) : bal A f v ≤ 1099511627776 * (A.length : Int) := by
 have h := (sm_bd (f := fun p : S54 × Int => p.2 * (dl p.1.f0 v - dl p.1.f1 v)) (l := A.zip f) (B := 1099511627776) (fun p hp => by
  obtain ⟨j, hj, e⟩ := List.getElem_of_mem hp
  rw [List.length_zip] at hj
  rw [List.getElem_zip] at e
  subst e
  have h1 := hf.lo j (by omega)
  have h2 := hf.hi j (by omega) (by omega)
  have h3 := hc j (by omega)
  simp only
  unfold dl
  split <;> split <;> omega)).2
 have hl : (A.zip f).length = A.length := by have := hf.len; rw [List.length_zip]; omega
 rw [hl] at h
 exact h
theorem best_loop (hs : 0 ≤ s ∧ s < (N : Int)) (hst : s ≠ t) : ∀ d : Nat, ∀ f, Fits A f → (∀ v, v ≠ s → v ≠ t → bal A f v = 0) → 1099511627776 * (A.length : Int) - bal A f s ≤ (d : Int) →
 ∃ R, Ev (fun k => ebbtideref09_Best.l0 k s t f nn bb A) R ∧ Fits A R ∧ ∀ v, v ≠ s → v ≠ t → bal A R v = 0 := by
 intro d
 induction d with
 | zero =>
  intro f hf hz hd
  obtain ⟨L, h1, h2, h3⟩ := steps_ev hAl hc hf (nn := nn) (bb := bb)
  obtain ⟨W, h4, h5⟩ := way_ev (by omega : N ≤ 1000000) hA (fun x hx => (h2 x hx).1) (by omega : L.length ≤ 1000000) (nn := nn) (bb := bb) (s := s) (t := t) hs
  cases hw : W.2
  ·refine ⟨f, Ev.step (f := fun k => (ebbtideref07_Steps.f k nn bb A f).bind fun t262 => ((ebbtideref08_Way.f k nn bb A s t t262).bind fun bt265 => (if bt265.2 = true then ((ebbtideref08_Bottle.f k nn bb A f bt265.1).bind fun t269 => ((ebbtideref07_Pushed.f k f bt265.1 t269).bind fun t270 => (ebbtideref09_Best.l0 k s t t270 nn bb A))) else (some f)))) (fun k => by rw [ebbtideref09_Best.l0]) (Ev.bind h1 (Ev.bind h4 ?_)), hf, hz⟩
   simp only [hw, Bool.false_eq_true, if_false]
   exact Ev.now _
  ·have hG := h5 hw
   have hP : ∀ x ∈ W.1, okS A x ∧ 0 < leftS A f x := fun x hx => h2 x (hG.mem x hx)
   have hne : 0 < W.1.length := by
    rcases Nat.eq_zero_or_pos W.1.length with e | e
    ·have e2 := List.length_eq_zero_iff.1 e
     have h6 := hG.ch
     rw [e2] at h6
     exact absurd h6 hst
    ·exact e
   have hPl := hG.len
   obtain ⟨b, k1, k2, k3⟩ := bottle_ev hAl hc hf (nn := nn) (bb := bb) hP (by omega) hne
   have hnd : W.1.Nodup := by
    have := hG.nd
    rw [List.Nodup, List.pairwise_map] at this
    exact this.imp fun h e => h (by rw [e])
   obtain ⟨R, m1, m2, m3⟩ := pushed_ev hN hAl hc hA hf (fun x hx => (hP x hx).1) (by omega) hnd k2 k3
   have h7 := m3 s
   rw [db_chain _ _ hG.ch] at h7
   have h8 := bal_bd hN hAl hc hA m2 s
   unfold dl at h7
   rw [if_pos rfl, if_neg (fun e => hst e.symm)] at h7
   omega
 | succ d ih =>
  intro f hf hz hd
  obtain ⟨L, h1, h2, h3⟩ := steps_ev hAl hc hf (nn := nn) (bb := bb)
  obtain ⟨W, h4, h5⟩ := way_ev (by omega : N ≤ 1000000) hA (fun x hx => (h2 x hx).1) (by omega : L.length ≤ 1000000) (nn := nn) (bb := bb) (s := s) (t := t) hs
  cases hw : W.2
  ·refine ⟨f, Ev.step (f := fun k => (ebbtideref07_Steps.f k nn bb A f).bind fun t262 => ((ebbtideref08_Way.f k nn bb A s t t262).bind fun bt265 => (if bt265.2 = true then ((ebbtideref08_Bottle.f k nn bb A f bt265.1).bind fun t269 => ((ebbtideref07_Pushed.f k f bt265.1 t269).bind fun t270 => (ebbtideref09_Best.l0 k s t t270 nn bb A))) else (some f)))) (fun k => by rw [ebbtideref09_Best.l0]) (Ev.bind h1 (Ev.bind h4 ?_)), hf, hz⟩
   simp only [hw, Bool.false_eq_true, if_false]
   exact Ev.now _
  ·have hG := h5 hw
   have hP : ∀ x ∈ W.1, okS A x ∧ 0 < leftS A f x := fun x hx => h2 x (hG.mem x hx)
   have hne : 0 < W.1.length := by
    rcases Nat.eq_zero_or_pos W.1.length with e | e
    ·have e2 := List.length_eq_zero_iff.1 e
     have h6 := hG.ch
     rw [e2] at h6
     exact absurd h6 hst
    ·exact e
   have hPl := hG.len
   obtain ⟨b, k1, k2, k3⟩ := bottle_ev hAl hc hf (nn := nn) (bb := bb) hP (by omega) hne
   have hnd : W.1.Nodup := by
    have := hG.nd
    rw [List.Nodup, List.pairwise_map] at this
    exact this.imp fun h e => h (by rw [e])
   obtain ⟨R, m1, m2, m3⟩ := pushed_ev hN hAl hc hA hf (fun x hx => (hP x hx).1) (by omega) hnd k2 k3
   have h7 := m3 s
   rw [db_chain _ _ hG.ch] at h7
   unfold dl at h7
   rw [if_pos rfl, if_neg (fun e => hst e.symm)] at h7
   obtain ⟨R2, n1, n2, n3⟩ := ih R m2 (fun v hvs hvt => by
    have h8 := m3 v
    rw [db_chain _ _ hG.ch] at h8
    unfold dl at h8
    rw [if_neg (fun e => hvs e.symm), if_neg (fun e => hvt e.symm), hz v hvs hvt] at h8
    omega) (by omega)
   refine ⟨R2, Ev.step (f := fun k => (ebbtideref07_Steps.f k nn bb A f).bind fun t262 => ((ebbtideref08_Way.f k nn bb A s t t262).bind fun bt265 => (if bt265.2 = true then ((ebbtideref08_Bottle.f k nn bb A f bt265.1).bind fun t269 => ((ebbtideref07_Pushed.f k f bt265.1 t269).bind fun t270 => (ebbtideref09_Best.l0 k s t t270 nn bb A))) else (some f)))) (fun k => by rw [ebbtideref09_Best.l0]) (Ev.bind h1 (Ev.bind h4 ?_)), n2, n3⟩
   simp only [hw, if_true]
   exact Ev.bind k1 (Ev.bind m1 n1)
theorem best_ev (hs : 0 ≤ s ∧ s < (N : Int)) (hst : s ≠ t) : ∃ R, Ev (fun k => ebbtideref09_Best.f k nn bb A s t) R ∧ Fits A R ∧ ∀ v, v ≠ s → v ≠ t → bal A R v = 0 := by
 have hz : Fits A (List.replicate A.length 0) := ⟨List.length_replicate, fun j h => by rw [List.getElem_replicate]; exact Int.le_refl _, fun j h h2 => by rw [List.getElem_replicate]; exact (hc j h2).1⟩
 have hb0 : ∀ v, bal A (List.replicate A.length 0) v = 0 := fun v => by
  unfold bal
  refine sm_zero fun p hp => ?_
  obtain ⟨j, hj, e⟩ := List.getElem_of_mem hp
  rw [List.getElem_zip] at e
  subst e
  simp
 obtain ⟨R, h1, h2, h3⟩ := best_loop hN hAl hc hA (nn := nn) (bb := bb) (t := t) hs hst (1099511627776 * A.length) (List.replicate A.length 0) hz (fun v _ _ => hb0 v) (by rw [hb0]; omega)
 refine ⟨R, Ev.congr (fun k => ?_) h1, h2, h3⟩
 unfold ebbtideref09_Best.f
 rw [if_pos (by omega), if_pos (by omega), Int.toNat_natCast]
end
end Go.Proofs.Ytfhkkbpkajfdlaa.P
end
