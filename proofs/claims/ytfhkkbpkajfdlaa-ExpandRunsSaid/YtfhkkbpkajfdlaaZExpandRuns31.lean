/- A part of the proof: words, contracts, plain lemmas. Conditions: none. -/
import Derived.Test.YtfhkkbpkajfdlaaZExpandRuns5
set_option linter.unusedSimpArgs false
set_option linter.unusedVariables false
open Go.RowKit Go.Proofs.YtfhkkbpkajfdlaaW.PrintWords Go.Proofs.YtfhkkbpkajfdlaaW.PrintLast Go.Proofs.YtfhkkbpkajfdlaaW.PrintMore
section
namespace Go.Proofs.Ytfhkkbpkajfdlaa.Q
def ebbtideref07_Pushed.l0 : Nat → List (S115) → Int → List Int → Int → Option (List Int)
 | 0, _, _, _, _ => none
 | k + 1, x1, x2, x7, x8 => if x8 < (x1.length : Int) then (if 0 ≤ x8 then (if (rd_T115 x1 x8).f1 = true then (if 0 ≤ ((rd_T115 x1 x8).f0) then (if ((rd_T115 x1 x8).f0) < (x7.length : Int) then (ebbtideref07_Pushed.l0 k x1 x2 (x7.set (((rd_T115 x1 x8).f0) : Int).toNat (wrap64 ((rd x7 ((rd_T115 x1 x8).f0)) - x2))) (wrap64 (x8 + 1))) else (none)) else (none)) else (if 0 ≤ ((rd_T115 x1 x8).f0) then (if ((rd_T115 x1 x8).f0) < (x7.length : Int) then (ebbtideref07_Pushed.l0 k x1 x2 (x7.set (((rd_T115 x1 x8).f0) : Int).toNat (wrap64 ((rd x7 ((rd_T115 x1 x8).f0)) + x2))) (wrap64 (x8 + 1))) else (none)) else (none))) else (none)) else (some x7)
def ebbtideref07_Pushed.f (k : Nat) (l0 : List Int) (l1 : List (S115)) (a2 : Int) : Option (List Int) := if ([] : List Int).length + l0.length < 17592186044416 then (ebbtideref07_Pushed.l0 k l1 a2 (([] : List Int) ++ l0) 0) else (none)
def ebbtideref07_Pushed.T7 : Bool × List (List Nat × List Nat) := (true, [([], []), ([], []), ([], []), ([1, 2], [1, 2]), ([3], [3]), ([4], [4]), ([], []), ([], []), ([], []), ([7, 8], [7, 8]), ([9], [9]), ([10], [10]), ([6, 11], [6, 11]), ([12], [12]), ([], []), ([13, 14], [13, 14]), ([0, 5, 0, 1, 2, 3, 4, 5, 6, 7, 8, 9, 10, 11, 12, 13, 14, 15], [0, 5]), ([16, 15, 0, 1, 2, 3, 4, 5, 6, 7, 8, 9, 10, 11, 12, 13, 14, 15], [15, 16])])
def ebbtideref07_Pushed.B7 : List Nat := [0, 0, 0, 6, 14, 30, 0, 0, 0, 384, 896, 1920, 4032, 8128, 0, 32704, 65535, 131071]
theorem ebbtideref07_Pushed.tab7 : rtab .any (opsOf Try.f45 7) = ebbtideref07_Pushed.T7 := by kernel_rfl
theorem ebbtideref07_Pushed.bits7 : waitsOk ebbtideref07_Pushed.T7.2 ebbtideref07_Pushed.B7 = true := by kernel_rfl
def ebbtideref07_Pushed.T8 : Bool × List (List Nat × List Nat) := (true, [([], []), ([], []), ([], []), ([1, 2], [1, 2]), ([3], [3]), ([4], [4]), ([], []), ([], []), ([], []), ([7, 8], [7, 8]), ([9], [9]), ([10], [10]), ([6, 11], [6, 11]), ([12], [12]), ([], []), ([13, 14], [13, 14]), ([0, 5, 0, 1, 2, 3, 4, 5, 6, 7, 8, 9, 10, 11, 12, 13, 14, 15], [0, 5]), ([16, 15, 0, 1, 2, 3, 4, 5, 6, 7, 8, 9, 10, 11, 12, 13, 14, 15], [15, 16])])
def ebbtideref07_Pushed.B8 : List Nat := [0, 0, 0, 6, 14, 30, 0, 0, 0, 384, 896, 1920, 4032, 8128, 0, 32704, 65535, 131071]
theorem ebbtideref07_Pushed.tab8 : rtab .any (opsOf Try.f45 8) = ebbtideref07_Pushed.T8 := by kernel_rfl
theorem ebbtideref07_Pushed.bits8 : waitsOk ebbtideref07_Pushed.T8.2 ebbtideref07_Pushed.B8 = true := by kernel_rfl
set_option maxHeartbeats 8000000 in
set_option maxRecDepth 100000 in
theorem ebbtideref07_Pushed.calls (k : Nat) (A0 : Option Addr) (c0 : Nat) (l0 : List Int) (A1 : Option Addr) (c1 : Nat) (l1 : List (S115)) (a2 : Int) (r : List Int) (w : World) (hr0 : Kd.C (Kd.int .i64) w A0 l0.length l0) (hc0 : l0.length ≤ c0) (hr1 : Kd.C k115 w A1 l1.length l1) (hc1 : l1.length ≤ c1) (h : ebbtideref07_Pushed.f k l0 l1 a2 = some r) :
  Calls Try.prog 45 #[.slice A0 l0.length c0, .slice A1 l1.length c1, .int .i64 a2] w fun e w' => ∃ v0_ : Value, e = .returned (v0_) ∧ Kd.R (Kd.int .i64) 3 w' w.heap.size (fun _ => True) v0_ r ∧ Below w.heap.size w w' := by
 have HR0 := am_ hr0; have HC0 := am_ hc0; clear hr0 hc0; have HR1 := am_ hr1; have HC1 := am_ hc1; clear hr1 hc1; have HB := am_ (Below.refl w.heap.size w); have H : (if ([] : List Int).length + l0.length < 17592186044416 then (ebbtideref07_Pushed.l0 k l1 a2 (([] : List Int) ++ l0) 0) else (none)) = some r := h; clear h
 replace H := ifn_ H; obtain ⟨c4, H⟩ := H
 have LMc4 := am_ c4; clear c4; obtain ⟨y532, hy_⟩ : ∃ y_ : List Int, y_ = (([] : List Int) ++ l0) := ⟨_, rfl⟩
 replace H : (ebbtideref07_Pushed.l0 k l1 a2 y532 0) = some r := hyH_
 have Ny532 := am_ hy_; clear hy_; have H' := am_ H; clear H
 go_enter Try.func45, Try.ntmps45
 go_wp2_with (first | ((with_reducible refine gate_builtin (b := .append) (xs := #[.tmp 9, .tmp 10]) rfl ?_); at_builtin; refine Kd.R_append_rows (Kd.int .i64) (w0 := w) w.heap.size rfl (.tmp 9) (.tmp 10) 42 3 (.int .i64 0) 8 rfl Try.underlying42 info3 rfl (by decide) (by omega) (.slice none 0 0) ([] : List Int) l0 _ _ _ (fun _ => True) (fun _ => False) rfl rfl ?aO ?aR (fun _ _ h => h) (fun _ h => h.elim) ?aF ?aB ?aS ?aL ?_; (case aR => repeat (first | exact HR0.out | (with_reducible refine Kd.C_alloc ?_ _) | (with_reducible refine Kd.C_drewN ?_ _) | (with_reducible refine Kd.C_drew ?_))); (case aB => exact hb_); (case aF => exact (fun _ _ => trivial)); (case aO => exact ((Kd.R_nil _ _ _ _ (fun _ => True)))); (case aS => exact (below_size hb_)); (case aL => have := LMc4.out; omega); intro v533 w5 ho hb hg hat; rw [← Ny532.out] at ho; replace HB := am_ (hb); have HO534 := am_ (ho); clear ho hb hg hat))
 go_loopg [8] k (fun kq v8 w' => ∃ (x7_1 : List Int) (x8_1 : Int), v8 = .int .i64 x8_1 ∧ Aside0 (ebbtideref07_Pushed.l0 kq l1 a2 x7_1 x8_1 = some r) ∧ Aside0 (kq ≤ k) ∧ Aside0 (Kd.R (Kd.int .i64) 3 w' w.heap.size (fun _ => True) v533 x7_1) ∧ Aside0 (Below w.heap.size w w'))
 case atStart => exact ⟨(y532), (0), rs_, H', ⟨Nat.le_refl _⟩, ⟨rq_ HO534.out⟩, ⟨hb_⟩⟩
 case round =>
  clear H'
  try clear c1
  try clear p2
  try clear c4
  obtain ⟨x7_1, x8_1, rfl, HA, HK1, HO_7, HB⟩ := hrel
  cases gk with
  | zero => exact absurd HA.out (by simp [ebbtideref07_Pushed.l0])
  | succ k1 =>
   have H := HA.out; clear HA; simp only [ebbtideref07_Pushed.l0] at H
   by_cases c6 : x8_1 < (l1.length : Int)
   ·rw [if_pos c6] at H
    have c6b0 := decide_eq_true c6; clear c6
    replace H := ifn_ H; obtain ⟨c7, H⟩ := H
    have c7b0 := decide_eq_true c7; clear c7; obtain ⟨bq8, hbq8⟩ : ∃ b_ : Bool, b_ = ((rd_T115 l1 x8_1).f1) := ⟨_, rfl⟩
    replace H : (if bq8 = true then (if 0 ≤ ((rd_T115 l1 x8_1).f0) then (if ((rd_T115 l1 x8_1).f0) < (x7_1.length : Int) then (ebbtideref07_Pushed.l0 k1 l1 a2 (x7_1.set (((rd_T115 l1 x8_1).f0) : Int).toNat (wrap64 ((rd x7_1 ((rd_T115 l1 x8_1).f0)) - a2))) (wrap64 (x8_1 + 1))) else (none)) else (none)) else (if 0 ≤ ((rd_T115 l1 x8_1).f0) then (if ((rd_T115 l1 x8_1).f0) < (x7_1.length : Int) then (ebbtideref07_Pushed.l0 k1 l1 a2 (x7_1.set (((rd_T115 l1 x8_1).f0) : Int).toNat (wrap64 ((rd x7_1 ((rd_T115 l1 x8_1).f0)) + a2))) (wrap64 (x8_1 + 1))) else (none)) else (none))) = some r := by rw [← hbq8] at H; exact H
    have Nbq8 := am_ hbq8; clear hbq8
    by_cases c9 : bq8 = true
    ·subst c9
     have H1 : (if 0 ≤ ((rd_T115 l1 x8_1).f0) then (if ((rd_T115 l1 x8_1).f0) < (x7_1.length : Int) then (ebbtideref07_Pushed.l0 k1 l1 a2 (x7_1.set (((rd_T115 l1 x8_1).f0) : Int).toNat (wrap64 ((rd x7_1 ((rd_T115 l1 x8_1).f0)) - a2))) (wrap64 (x8_1 + 1))) else (none)) else (none)) = some r := by rw [if_pos rfl] at H; exact H
     clear H; have H := H1; clear H1
     replace H := ifn_ H; obtain ⟨c10, H⟩ := H
     have c10b0 := decide_eq_true c10; clear c10
     replace H := ifn_ H; obtain ⟨c11, H⟩ := H
     have c11b0 := decide_eq_true c11; clear c11; obtain ⟨y539, hy_⟩ : ∃ y_ : List Int, y_ = (x7_1.set (((rd_T115 l1 x8_1).f0) : Int).toNat (wrap64 ((rd x7_1 ((rd_T115 l1 x8_1).f0)) - a2))) := ⟨_, rfl⟩
     replace H : (ebbtideref07_Pushed.l0 k1 l1 a2 y539 (wrap64 (x8_1 + 1))) = some r := hyH_
     have Ny539 := am_ hy_; clear hy_; have H' := am_ H; clear H; have p535 : 0 ≤ (x8_1 : Int) := of_decide_eq_true sm_; have q535 : x8_1 < (l1.length : Int) := of_decide_eq_true sm_; obtain ⟨ad535, e535, hx535_0, hx535_1⟩ := at_T115 HR1.out x8_1 p535 q535
     (try rw [← Nbq8.out] at hx535_1); (try rw [← Nbq8.out] at hw535_1)
     cases e535; replace hx535_0 := (HB.out.cell (World.block_lt_of_cell? w _ hx535_0)).trans hx535_0; replace hx535_1 := (HB.out.cell (World.block_lt_of_cell? w _ hx535_1)).trans hx535_1; replace p535 := eq_true p535; replace q535 := eq_true q535
     try go_wp2
     replace HO_7 := am_ (Kd.R_drew HO_7.out); replace HB := am_ (below_drew1 HB.out); have p536 : 0 ≤ (x8_1 : Int) := of_decide_eq_true sm_; have q536 : x8_1 < (l1.length : Int) := of_decide_eq_true sm_; obtain ⟨ad536, e536, hx536_0, hx536_1⟩ := at_T115 HR1.out x8_1 p536 q536; have hw536_1 := hx536_1; have hw536_0 := hx536_0
     (try rw [← Nbq8.out] at hx536_1); (try rw [← Nbq8.out] at hw536_1)
     obtain rfl : ad535 = ad536 := (by injection e536); replace hx536_0 := (HB.out.cell (World.block_lt_of_cell? w _ hx536_0)).trans hx536_0; replace hx536_1 := (HB.out.cell (World.block_lt_of_cell? w _ hx536_1)).trans hx536_1; replace p536 := eq_true p536; replace q536 := eq_true q536; have p537 : 0 ≤ (x8_1 : Int) := of_decide_eq_true sm_; have q537 : x8_1 < (l1.length : Int) := of_decide_eq_true sm_; obtain ⟨ad537, e537, hx537_0, hx537_1⟩ := at_T115 HR1.out x8_1 p537 q537; have hw537_1 := hx537_1; have hw537_0 := hx537_0
     (try rw [← Nbq8.out] at hx537_1); (try rw [← Nbq8.out] at hw537_1)
     obtain rfl : ad535 = ad537 := (by injection e537); replace hx537_0 := (HB.out.cell (World.block_lt_of_cell? w _ hx537_0)).trans hx537_0; replace hx537_1 := (HB.out.cell (World.block_lt_of_cell? w _ hx537_1)).trans hx537_1; replace p537 := eq_true p537; replace q537 := eq_true q537; obtain ⟨Ao14, co14, eo14⟩ := Kd.R_slice HO_7.out
     (first | subst eo14 | (injection eo14 with f1_ f2_ f3_; have f4_ := f1_.symm; have f5_ := f3_.symm; clear f1_ f2_ f3_; subst f4_; subst f5_))
     have p538 : 0 ≤ (((rd_T115 l1 x8_1).f0) : Int) := of_decide_eq_true sm_; have q538 : ((rd_T115 l1 x8_1).f0) < (x7_1.length : Int) := of_decide_eq_true sm_; obtain ⟨ad538, e538, hx538_0⟩ := Kd.at_int (Kd.R_reads' HO_7.out).2.2 ((rd_T115 l1 x8_1).f0) p538 q538; cases e538; replace p538 := eq_true p538; replace q538 := eq_true q538; have p12 : 0 ≤ (((rd_T115 l1 x8_1).f0) : Int) := of_decide_eq_true sm_; have q12 : (((rd_T115 l1 x8_1).f0) : Int) < ((x7_1.length : Int) : Int) := of_decide_eq_true sm_; obtain ⟨go12, co12, eo12, gb12, gl12, cl12, HG12⟩ := Kd.R_form HO_7.out (by omega)
     (first | cases eo12 | (injection eo12 with ea_ en_ ec_; (first | subst ea_ | (injection ea_ with ea_; subst ea_)); subst ec_; clear en_))
     have GB12 := am_ gb12; have GG12 := am_ HG12; clear gb12 gl12 HG12
     (first | simp only [add_plain] at hx538_0 | skip)
     obtain ⟨hx12_0, hf12_0⟩ := Kd.R_celln 0 HO_7.out (((rd_T115 l1 x8_1).f0) : Int) p12 q12; replace p12 := eq_true p12; replace q12 := eq_true q12; have HP15 := Kd.R_putn HO_7.out (((rd_T115 l1 x8_1).f0) : Int) (wrap64 ((rd x7_1 ((rd_T115 l1 x8_1).f0)) - a2)); rw [← Ny539.out] at HP15; have HQ15 := am_ HP15; clear HP15; refine start_ (n := 18) (S := fun w' => w'.cell? (ad535.add ((x8_1).toNat * 2)) = some (.int .i64 ((rd_T115 l1 x8_1).f0)) ∧ w'.cell? ⟨(ad535.add ((x8_1).toNat * 2)).block, (ad535.add ((x8_1).toNat * 2)).off + 1, none⟩ = some (.bool (true)) ∧ w'.cell? (ad535.add ((x8_1).toNat * 2)) = some (.int .i64 ((rd_T115 l1 x8_1).f0)) ∧ w'.cell? ⟨(ad535.add ((x8_1).toNat * 2)).block, (ad535.add ((x8_1).toNat * 2)).off + 1, none⟩ = some (.bool (true)) ∧ w'.cell? ⟨go12, (((rd_T115 l1 x8_1).f0)).toNat, none⟩ = some (.int .i64 (rd x7_1 ((rd_T115 l1 x8_1).f0)))) (ds := [17]) #[Ff,Ff,Ff,Ff,Ff,Ff,Ff,Ff,Ff,Ff,Ff,Ff,Ff,Ff,Ff,Ff,Ff,Ff] (by kernel_rfl) rfl rfl ⟨((HB.out.cell (World.block_lt_of_cell? w _ hw536_0)).trans hw536_0), ((HB.out.cell (World.block_lt_of_cell? w _ hw536_1)).trans hw536_1), ((HB.out.cell (World.block_lt_of_cell? w _ hw537_0)).trans hw537_0), ((HB.out.cell (World.block_lt_of_cell? w _ hw537_1)).trans hw537_1), hx538_0⟩ (fun hHeld => ?_); refine with_tabW ebbtideref07_Pushed.tab7 ebbtideref07_Pushed.bits7 (fun HT_ HW_ => ?_); generalize wr.drew = w13 at HO_7 HB GG12 HQ15 hf12_0 hx12_0 hx536_0 hx536_1 hx537_0 hx537_1 hx538_0 hHeld ⊢; refine pw_ 0 23 ?_; refine pw_ 1 24 ?_; refine pw_ 2 25 ?_; refine pw_ 3 26 ?_; refine pw_ 4 27 ?_; refine pw_ 6 29 ?_; refine pw_ 7 30 ?_; refine pw_ 8 31 ?_; refine pw_ 9 32 ?_; refine pw_ 10 33 ?_; refine pw_ 14 37 ?_; refine tk_ 5 28 ?_; refine tk_ 11 34 ?_; refine pw_ 12 35 ?_; refine tk_ 13 36 ?_; refine pw_ 15 38 ?_; refine pw_ 16 39 ?_; refine last_ (i := 17) (N := none) #[Tt,Tt,Tt,Tt,Tt,Tt,Tt,Tt,Tt,Tt,Tt,Tt,Tt,Tt,Tt,Tt,Tt,Tt] rfl rfl (one_of HT_.out (by kernel_rfl)) (by decide) (fun K hK => ?_); refine skip_ (w1 := ?_) (by rfl) rfl ?_ ?_; rotate_left; (· go_simp; rfl); refine hK.out _ _ ?_; clear hK K; refine done_ (done_of HT_.out (by kernel_rfl)) ?_
     try go_wp2
     go_roundg k1
     case measure => have := HK1.out; omega
     case rel => exact ⟨(y539), (wrap64 (x8_1 + 1)), rs_, H', ⟨by have := HK1.out; omega⟩, ⟨rq_ HQ15.out⟩, ⟨hb_⟩⟩
    ·replace c9 := Bool.eq_false_iff.mpr c9
     subst c9
     have H1 : (if 0 ≤ ((rd_T115 l1 x8_1).f0) then (if ((rd_T115 l1 x8_1).f0) < (x7_1.length : Int) then (ebbtideref07_Pushed.l0 k1 l1 a2 (x7_1.set (((rd_T115 l1 x8_1).f0) : Int).toNat (wrap64 ((rd x7_1 ((rd_T115 l1 x8_1).f0)) + a2))) (wrap64 (x8_1 + 1))) else (none)) else (none)) = some r := by rw [if_neg (show ¬ (false = true) by decide)] at H; exact H
     clear H; have H := H1; clear H1
     replace H := ifn_ H; obtain ⟨c16, H⟩ := H
     have c16b0 := decide_eq_true c16; clear c16
     replace H := ifn_ H; obtain ⟨c17, H⟩ := H
     have c17b0 := decide_eq_true c17; clear c17; obtain ⟨y543, hy_⟩ : ∃ y_ : List Int, y_ = (x7_1.set (((rd_T115 l1 x8_1).f0) : Int).toNat (wrap64 ((rd x7_1 ((rd_T115 l1 x8_1).f0)) + a2))) := ⟨_, rfl⟩
     replace H : (ebbtideref07_Pushed.l0 k1 l1 a2 y543 (wrap64 (x8_1 + 1))) = some r := hyH_
     have Ny543 := am_ hy_; clear hy_; have H' := am_ H; clear H; have p535 : 0 ≤ (x8_1 : Int) := of_decide_eq_true sm_; have q535 : x8_1 < (l1.length : Int) := of_decide_eq_true sm_; obtain ⟨ad535, e535, hx535_0, hx535_1⟩ := at_T115 HR1.out x8_1 p535 q535
     (try rw [← Nbq8.out] at hx535_1); (try rw [← Nbq8.out] at hw535_1)
     cases e535; replace hx535_0 := (HB.out.cell (World.block_lt_of_cell? w _ hx535_0)).trans hx535_0; replace hx535_1 := (HB.out.cell (World.block_lt_of_cell? w _ hx535_1)).trans hx535_1; replace p535 := eq_true p535; replace q535 := eq_true q535
     try go_wp2
     replace HO_7 := am_ (Kd.R_drew HO_7.out); replace HB := am_ (below_drew1 HB.out); have p540 : 0 ≤ (x8_1 : Int) := of_decide_eq_true sm_; have q540 : x8_1 < (l1.length : Int) := of_decide_eq_true sm_; obtain ⟨ad540, e540, hx540_0, hx540_1⟩ := at_T115 HR1.out x8_1 p540 q540; have hw540_1 := hx540_1; have hw540_0 := hx540_0
     (try rw [← Nbq8.out] at hx540_1); (try rw [← Nbq8.out] at hw540_1)
     obtain rfl : ad535 = ad540 := (by injection e540); replace hx540_0 := (HB.out.cell (World.block_lt_of_cell? w _ hx540_0)).trans hx540_0; replace hx540_1 := (HB.out.cell (World.block_lt_of_cell? w _ hx540_1)).trans hx540_1; replace p540 := eq_true p540; replace q540 := eq_true q540; have p541 : 0 ≤ (x8_1 : Int) := of_decide_eq_true sm_; have q541 : x8_1 < (l1.length : Int) := of_decide_eq_true sm_; obtain ⟨ad541, e541, hx541_0, hx541_1⟩ := at_T115 HR1.out x8_1 p541 q541; have hw541_1 := hx541_1; have hw541_0 := hx541_0
     (try rw [← Nbq8.out] at hx541_1); (try rw [← Nbq8.out] at hw541_1)
     obtain rfl : ad535 = ad541 := (by injection e541); replace hx541_0 := (HB.out.cell (World.block_lt_of_cell? w _ hx541_0)).trans hx541_0; replace hx541_1 := (HB.out.cell (World.block_lt_of_cell? w _ hx541_1)).trans hx541_1; replace p541 := eq_true p541; replace q541 := eq_true q541; obtain ⟨Ao20, co20, eo20⟩ := Kd.R_slice HO_7.out
     (first | subst eo20 | (injection eo20 with f1_ f2_ f3_; have f4_ := f1_.symm; have f5_ := f3_.symm; clear f1_ f2_ f3_; subst f4_; subst f5_))
     have p542 : 0 ≤ (((rd_T115 l1 x8_1).f0) : Int) := of_decide_eq_true sm_; have q542 : ((rd_T115 l1 x8_1).f0) < (x7_1.length : Int) := of_decide_eq_true sm_; obtain ⟨ad542, e542, hx542_0⟩ := Kd.at_int (Kd.R_reads' HO_7.out).2.2 ((rd_T115 l1 x8_1).f0) p542 q542; cases e542; replace p542 := eq_true p542; replace q542 := eq_true q542; have p18 : 0 ≤ (((rd_T115 l1 x8_1).f0) : Int) := of_decide_eq_true sm_; have q18 : (((rd_T115 l1 x8_1).f0) : Int) < ((x7_1.length : Int) : Int) := of_decide_eq_true sm_; obtain ⟨go18, co18, eo18, gb18, gl18, cl18, HG18⟩ := Kd.R_form HO_7.out (by omega)
     (first | cases eo18 | (injection eo18 with ea_ en_ ec_; (first | subst ea_ | (injection ea_ with ea_; subst ea_)); subst ec_; clear en_))
     have GB18 := am_ gb18; have GG18 := am_ HG18; clear gb18 gl18 HG18
     (first | simp only [add_plain] at hx542_0 | skip)
     obtain ⟨hx18_0, hf18_0⟩ := Kd.R_celln 0 HO_7.out (((rd_T115 l1 x8_1).f0) : Int) p18 q18; replace p18 := eq_true p18; replace q18 := eq_true q18; have HP21 := Kd.R_putn HO_7.out (((rd_T115 l1 x8_1).f0) : Int) (wrap64 ((rd x7_1 ((rd_T115 l1 x8_1).f0)) + a2)); rw [← Ny543.out] at HP21; have HQ21 := am_ HP21; clear HP21; refine start_ (n := 18) (S := fun w' => w'.cell? (ad535.add ((x8_1).toNat * 2)) = some (.int .i64 ((rd_T115 l1 x8_1).f0)) ∧ w'.cell? ⟨(ad535.add ((x8_1).toNat * 2)).block, (ad535.add ((x8_1).toNat * 2)).off + 1, none⟩ = some (.bool (false)) ∧ w'.cell? (ad535.add ((x8_1).toNat * 2)) = some (.int .i64 ((rd_T115 l1 x8_1).f0)) ∧ w'.cell? ⟨(ad535.add ((x8_1).toNat * 2)).block, (ad535.add ((x8_1).toNat * 2)).off + 1, none⟩ = some (.bool (false)) ∧ w'.cell? ⟨go18, (((rd_T115 l1 x8_1).f0)).toNat, none⟩ = some (.int .i64 (rd x7_1 ((rd_T115 l1 x8_1).f0)))) (ds := [17]) #[Ff,Ff,Ff,Ff,Ff,Ff,Ff,Ff,Ff,Ff,Ff,Ff,Ff,Ff,Ff,Ff,Ff,Ff] (by kernel_rfl) rfl rfl ⟨((HB.out.cell (World.block_lt_of_cell? w _ hw540_0)).trans hw540_0), ((HB.out.cell (World.block_lt_of_cell? w _ hw540_1)).trans hw540_1), ((HB.out.cell (World.block_lt_of_cell? w _ hw541_0)).trans hw541_0), ((HB.out.cell (World.block_lt_of_cell? w _ hw541_1)).trans hw541_1), hx542_0⟩ (fun hHeld => ?_); refine with_tabW ebbtideref07_Pushed.tab8 ebbtideref07_Pushed.bits8 (fun HT_ HW_ => ?_); generalize wr.drew = w19 at HO_7 HB GG18 HQ21 hf18_0 hx18_0 hx540_0 hx540_1 hx541_0 hx541_1 hx542_0 hHeld ⊢; refine pw_ 0 40 ?_; refine pw_ 1 41 ?_; refine pw_ 2 42 ?_; refine pw_ 3 43 ?_; refine pw_ 4 44 ?_; refine pw_ 6 46 ?_; refine pw_ 7 47 ?_; refine pw_ 8 48 ?_; refine pw_ 9 49 ?_; refine pw_ 10 50 ?_; refine pw_ 14 54 ?_; refine tk_ 5 45 ?_; refine tk_ 11 51 ?_; refine pw_ 12 52 ?_; refine tk_ 13 53 ?_; refine pw_ 15 55 ?_; refine pw_ 16 56 ?_; refine last_ (i := 17) (N := none) #[Tt,Tt,Tt,Tt,Tt,Tt,Tt,Tt,Tt,Tt,Tt,Tt,Tt,Tt,Tt,Tt,Tt,Tt] rfl rfl (one_of HT_.out (by kernel_rfl)) (by decide) (fun K hK => ?_); refine skip_ (w1 := ?_) (by rfl) rfl ?_ ?_; rotate_left; (· go_simp; rfl); refine hK.out _ _ ?_; clear hK K; refine done_ (done_of HT_.out (by kernel_rfl)) ?_
     try go_wp2
     go_roundg k1
     case measure => have := HK1.out; omega
     case rel => exact ⟨(y543), (wrap64 (x8_1 + 1)), rs_, H', ⟨by have := HK1.out; omega⟩, ⟨rq_ HQ21.out⟩, ⟨hb_⟩⟩
   ·rw [if_neg c6] at H
    have c6b0 := decide_eq_false c6; clear c6; obtain rfl := Option.some.inj H
    go_wp2
    go_ret
    exact ⟨_, er_, by refine rq_ ?_; exact HO_7.out, hb_⟩
def ebbtideref07_Left.f (a0_0 : Int) (a0_1 : Bool) (l0_2 : List (S54)) (l1 : List Int) (a2_0 : Int) (a2_1 : Bool) : Option (Int) := if a2_1 = true then (if 0 ≤ a2_0 then (if a2_0 < (l1.length : Int) then (some (rd l1 a2_0)) else (none)) else (none)) else (if 0 ≤ a2_0 then (if a2_0 < (l0_2.length : Int) then (if a2_0 < (l1.length : Int) then (some (wrap64 (((rd_T54 l0_2 a2_0).f2) - (rd l1 a2_0)))) else (none)) else (none)) else (none))
set_option maxHeartbeats 8000000 in
set_option maxRecDepth 100000 in
theorem ebbtideref07_Left.calls (a0_0 : Int) (a0_1 : Bool) (A0_2 : Option Addr) (c0_2 : Nat) (l0_2 : List (S54)) (A1 : Option Addr) (c1 : Nat) (l1 : List Int) (a2_0 : Int) (a2_1 : Bool) (r : Int) (w : World) (hr0_2 : Kd.C k54 w A0_2 l0_2.length l0_2) (hc0_2 : l0_2.length ≤ c0_2) (hr1 : Kd.C (Kd.int .i64) w A1 l1.length l1) (hc1 : l1.length ≤ c1) (h : ebbtideref07_Left.f a0_0 a0_1 l0_2 l1 a2_0 a2_1 = some r) :
  Calls Try.prog 70 #[.agg #[.int .i64 a0_0, .bool a0_1, .slice A0_2 l0_2.length c0_2], .slice A1 l1.length c1, .agg #[.int .i64 a2_0, .bool a2_1]] w fun e w' => e = .returned (.int .i64 r) ∧ Below w.heap.size w w' := by
 have hu24 := Try.underlying24; have hu115 := Try.underlying115; have HR0_2 := am_ hr0_2; have HC0_2 := am_ hc0_2; clear hr0_2 hc0_2; have HR1 := am_ hr1; have HC1 := am_ hc1; clear hr1 hc1; have HB := am_ (Below.refl w.heap.size w); have H : (if a2_1 = true then (if 0 ≤ a2_0 then (if a2_0 < (l1.length : Int) then (some (rd l1 a2_0)) else (none)) else (none)) else (if 0 ≤ a2_0 then (if a2_0 < (l0_2.length : Int) then (if a2_0 < (l1.length : Int) then (some (wrap64 (((rd_T54 l0_2 a2_0).f2) - (rd l1 a2_0)))) else (none)) else (none)) else (none))) = some r := h; clear h
 by_cases c4 : a2_1 = true
 ·subst c4
  have H1 : (if 0 ≤ a2_0 then (if a2_0 < (l1.length : Int) then (some (rd l1 a2_0)) else (none)) else (none)) = some r := by rw [if_pos rfl] at H; exact H
  clear H; have H := H1; clear H1
  replace H := ifn_ H; obtain ⟨c5, H⟩ := H
  have c5b0 := decide_eq_true c5; clear c5
  replace H := ifn_ H; obtain ⟨c6, H⟩ := H
  have c6b0 := decide_eq_true c6; clear c6; obtain rfl := Option.some.inj H
  go_enter Try.func70, Try.ntmps70
  go_wp2_with (first | ((with_reducible refine gate_dst (N := 3) rfl ?_); refine bx_ 3 #[.int .i64 a0_0, .bool a0_1, .slice A0_2 l0_2.length c0_2] 24 ?_; intro gb544 hg w7 BK544 hb; have GE544 := ge_ (w := w) hg; replace HB := hst_ hb; clear hb hg) | ((with_reducible refine gate_dst (N := 5) rfl ?_); refine bx_ 5 #[.int .i64 a2_0, .bool true] 115 ?_; intro gb545 hg w8 BK545 hb; have GE545 := ge_ (w := w) hg; replace HB := hst_ hb; have NB544_545 := am_ (nl_ BK544.out hg); have NB545_544 := am_ (ng_ BK544.out hg); replace BK544 := am_ (bb_ BK544.out hb); clear hb hg; have hnb9 := NB545_544.out; have hnc9 := NB544_545.out; obtain ⟨hcz10_0, hcz10_1, hfz10_0, hfz10_1⟩ := cf2_ BK545.out; have p546 : 0 ≤ (a2_0 : Int) := of_decide_eq_true sm_; have q546 : a2_0 < (l1.length : Int) := of_decide_eq_true sm_; obtain ⟨ad546, e546, hx546_0⟩ := Kd.at_int HR1.out a2_0 p546 q546; cases e546; replace hx546_0 := (HB.out.cell (World.block_lt_of_cell? w _ hx546_0)).trans hx546_0; replace p546 := eq_true p546; replace q546 := eq_true q546))
  repeat (go_quiet (first | ((with_reducible refine gate_dst (N := 3) rfl ?_); refine bx_ 3 #[.int .i64 a0_0, .bool a0_1, .slice A0_2 l0_2.length c0_2] 24 ?_; intro gb544 hg w7 BK544 hb; have GE544 := ge_ (w := w) hg; replace HB := hst_ hb; clear hb hg) | ((with_reducible refine gate_dst (N := 5) rfl ?_); refine bx_ 5 #[.int .i64 a2_0, .bool true] 115 ?_; intro gb545 hg w8 BK545 hb; have GE545 := ge_ (w := w) hg; replace HB := hst_ hb; have NB544_545 := am_ (nl_ BK544.out hg); have NB545_544 := am_ (ng_ BK544.out hg); replace BK544 := am_ (bb_ BK544.out hb); clear hb hg; have hnb9 := NB545_544.out; have hnc9 := NB544_545.out; obtain ⟨hcz10_0, hcz10_1, hfz10_0, hfz10_1⟩ := cf2_ BK545.out; have p546 : 0 ≤ (a2_0 : Int) := of_decide_eq_true sm_; have q546 : a2_0 < (l1.length : Int) := of_decide_eq_true sm_; obtain ⟨ad546, e546, hx546_0⟩ := Kd.at_int HR1.out a2_0 p546 q546; cases e546; replace hx546_0 := (HB.out.cell (World.block_lt_of_cell? w _ hx546_0)).trans hx546_0; replace p546 := eq_true p546; replace q546 := eq_true q546)); try go_wp2_with (first | ((with_reducible refine gate_dst (N := 3) rfl ?_); refine bx_ 3 #[.int .i64 a0_0, .bool a0_1, .slice A0_2 l0_2.length c0_2] 24 ?_; intro gb544 hg w7 BK544 hb; have GE544 := ge_ (w := w) hg; replace HB := hst_ hb; clear hb hg) | ((with_reducible refine gate_dst (N := 5) rfl ?_); refine bx_ 5 #[.int .i64 a2_0, .bool true] 115 ?_; intro gb545 hg w8 BK545 hb; have GE545 := ge_ (w := w) hg; replace HB := hst_ hb; have NB544_545 := am_ (nl_ BK544.out hg); have NB545_544 := am_ (ng_ BK544.out hg); replace BK544 := am_ (bb_ BK544.out hb); clear hb hg; have hnb9 := NB545_544.out; have hnc9 := NB544_545.out; obtain ⟨hcz10_0, hcz10_1, hfz10_0, hfz10_1⟩ := cf2_ BK545.out; have p546 : 0 ≤ (a2_0 : Int) := of_decide_eq_true sm_; have q546 : a2_0 < (l1.length : Int) := of_decide_eq_true sm_; obtain ⟨ad546, e546, hx546_0⟩ := Kd.at_int HR1.out a2_0 p546 q546; cases e546; replace hx546_0 := (HB.out.cell (World.block_lt_of_cell? w _ hx546_0)).trans hx546_0; replace p546 := eq_true p546; replace q546 := eq_true q546)))
  go_ret
  exact ⟨er_, hb_⟩
 ·replace c4 := Bool.eq_false_iff.mpr c4
  subst c4
  have H1 : (if 0 ≤ a2_0 then (if a2_0 < (l0_2.length : Int) then (if a2_0 < (l1.length : Int) then (some (wrap64 (((rd_T54 l0_2 a2_0).f2) - (rd l1 a2_0)))) else (none)) else (none)) else (none)) = some r := by rw [if_neg (show ¬ (false = true) by decide)] at H; exact H
  clear H; have H := H1; clear H1
  replace H := ifn_ H; obtain ⟨c11, H⟩ := H
  have c11b0 := decide_eq_true c11; clear c11
  replace H := ifn_ H; obtain ⟨c12, H⟩ := H
  have c12b0 := decide_eq_true c12; clear c12
  replace H := ifn_ H; obtain ⟨c13, H⟩ := H
  have c13b0 := decide_eq_true c13; clear c13; obtain rfl := Option.some.inj H
  go_enter Try.func70, Try.ntmps70
  go_wp2_with (first | ((with_reducible refine gate_dst (N := 3) rfl ?_); refine bx_ 3 #[.int .i64 a0_0, .bool a0_1, .slice A0_2 l0_2.length c0_2] 24 ?_; intro gb544 hg w14 BK544 hb; have GE544 := ge_ (w := w) hg; replace HB := hst_ hb; clear hb hg) | ((with_reducible refine gate_dst (N := 5) rfl ?_); refine bx_ 5 #[.int .i64 a2_0, .bool false] 115 ?_; intro gb545 hg w15 BK545 hb; have GE545 := ge_ (w := w) hg; replace HB := hst_ hb; have NB544_545 := am_ (nl_ BK544.out hg); have NB545_544 := am_ (ng_ BK544.out hg); replace BK544 := am_ (bb_ BK544.out hb); clear hb hg; have hnb16 := NB545_544.out; have hnc16 := NB544_545.out; obtain ⟨hcz17_0, hcz17_1, hfz17_0, hfz17_1⟩ := cf2_ BK545.out; obtain ⟨hcz18_0, hcz18_1, hcz18_2, hfz18_0, hfz18_1, hfz18_2⟩ := cf3_ BK544.out; have p547 : 0 ≤ (a2_0 : Int) := of_decide_eq_true sm_; have q547 : a2_0 < (l0_2.length : Int) := of_decide_eq_true sm_; obtain ⟨ad547, e547, hx547_0, hx547_1, hx547_2, hx547_3⟩ := at_T54 HR0_2.out a2_0 p547 q547; cases e547; replace hx547_0 := (HB.out.cell (World.block_lt_of_cell? w _ hx547_0)).trans hx547_0; replace hx547_1 := (HB.out.cell (World.block_lt_of_cell? w _ hx547_1)).trans hx547_1; replace hx547_2 := (HB.out.cell (World.block_lt_of_cell? w _ hx547_2)).trans hx547_2; replace hx547_3 := (HB.out.cell (World.block_lt_of_cell? w _ hx547_3)).trans hx547_3; replace p547 := eq_true p547; replace q547 := eq_true q547; have p548 : 0 ≤ (a2_0 : Int) := of_decide_eq_true sm_; have q548 : a2_0 < (l1.length : Int) := of_decide_eq_true sm_; obtain ⟨ad548, e548, hx548_0⟩ := Kd.at_int HR1.out a2_0 p548 q548; cases e548; replace hx548_0 := (HB.out.cell (World.block_lt_of_cell? w _ hx548_0)).trans hx548_0; replace p548 := eq_true p548; replace q548 := eq_true q548))
  repeat (go_quiet (first | ((with_reducible refine gate_dst (N := 3) rfl ?_); refine bx_ 3 #[.int .i64 a0_0, .bool a0_1, .slice A0_2 l0_2.length c0_2] 24 ?_; intro gb544 hg w14 BK544 hb; have GE544 := ge_ (w := w) hg; replace HB := hst_ hb; clear hb hg) | ((with_reducible refine gate_dst (N := 5) rfl ?_); refine bx_ 5 #[.int .i64 a2_0, .bool false] 115 ?_; intro gb545 hg w15 BK545 hb; have GE545 := ge_ (w := w) hg; replace HB := hst_ hb; have NB544_545 := am_ (nl_ BK544.out hg); have NB545_544 := am_ (ng_ BK544.out hg); replace BK544 := am_ (bb_ BK544.out hb); clear hb hg; have hnb16 := NB545_544.out; have hnc16 := NB544_545.out; obtain ⟨hcz17_0, hcz17_1, hfz17_0, hfz17_1⟩ := cf2_ BK545.out; obtain ⟨hcz18_0, hcz18_1, hcz18_2, hfz18_0, hfz18_1, hfz18_2⟩ := cf3_ BK544.out; have p547 : 0 ≤ (a2_0 : Int) := of_decide_eq_true sm_; have q547 : a2_0 < (l0_2.length : Int) := of_decide_eq_true sm_; obtain ⟨ad547, e547, hx547_0, hx547_1, hx547_2, hx547_3⟩ := at_T54 HR0_2.out a2_0 p547 q547; cases e547; replace hx547_0 := (HB.out.cell (World.block_lt_of_cell? w _ hx547_0)).trans hx547_0; replace hx547_1 := (HB.out.cell (World.block_lt_of_cell? w _ hx547_1)).trans hx547_1; replace hx547_2 := (HB.out.cell (World.block_lt_of_cell? w _ hx547_2)).trans hx547_2; replace hx547_3 := (HB.out.cell (World.block_lt_of_cell? w _ hx547_3)).trans hx547_3; replace p547 := eq_true p547; replace q547 := eq_true q547; have p548 : 0 ≤ (a2_0 : Int) := of_decide_eq_true sm_; have q548 : a2_0 < (l1.length : Int) := of_decide_eq_true sm_; obtain ⟨ad548, e548, hx548_0⟩ := Kd.at_int HR1.out a2_0 p548 q548; cases e548; replace hx548_0 := (HB.out.cell (World.block_lt_of_cell? w _ hx548_0)).trans hx548_0; replace p548 := eq_true p548; replace q548 := eq_true q548)); try go_wp2_with (first | ((with_reducible refine gate_dst (N := 3) rfl ?_); refine bx_ 3 #[.int .i64 a0_0, .bool a0_1, .slice A0_2 l0_2.length c0_2] 24 ?_; intro gb544 hg w14 BK544 hb; have GE544 := ge_ (w := w) hg; replace HB := hst_ hb; clear hb hg) | ((with_reducible refine gate_dst (N := 5) rfl ?_); refine bx_ 5 #[.int .i64 a2_0, .bool false] 115 ?_; intro gb545 hg w15 BK545 hb; have GE545 := ge_ (w := w) hg; replace HB := hst_ hb; have NB544_545 := am_ (nl_ BK544.out hg); have NB545_544 := am_ (ng_ BK544.out hg); replace BK544 := am_ (bb_ BK544.out hb); clear hb hg; have hnb16 := NB545_544.out; have hnc16 := NB544_545.out; obtain ⟨hcz17_0, hcz17_1, hfz17_0, hfz17_1⟩ := cf2_ BK545.out; obtain ⟨hcz18_0, hcz18_1, hcz18_2, hfz18_0, hfz18_1, hfz18_2⟩ := cf3_ BK544.out; have p547 : 0 ≤ (a2_0 : Int) := of_decide_eq_true sm_; have q547 : a2_0 < (l0_2.length : Int) := of_decide_eq_true sm_; obtain ⟨ad547, e547, hx547_0, hx547_1, hx547_2, hx547_3⟩ := at_T54 HR0_2.out a2_0 p547 q547; cases e547; replace hx547_0 := (HB.out.cell (World.block_lt_of_cell? w _ hx547_0)).trans hx547_0; replace hx547_1 := (HB.out.cell (World.block_lt_of_cell? w _ hx547_1)).trans hx547_1; replace hx547_2 := (HB.out.cell (World.block_lt_of_cell? w _ hx547_2)).trans hx547_2; replace hx547_3 := (HB.out.cell (World.block_lt_of_cell? w _ hx547_3)).trans hx547_3; replace p547 := eq_true p547; replace q547 := eq_true q547; have p548 : 0 ≤ (a2_0 : Int) := of_decide_eq_true sm_; have q548 : a2_0 < (l1.length : Int) := of_decide_eq_true sm_; obtain ⟨ad548, e548, hx548_0⟩ := Kd.at_int HR1.out a2_0 p548 q548; cases e548; replace hx548_0 := (HB.out.cell (World.block_lt_of_cell? w _ hx548_0)).trans hx548_0; replace p548 := eq_true p548; replace q548 := eq_true q548)))
  go_ret
  exact ⟨er_, hb_⟩
end Go.Proofs.Ytfhkkbpkajfdlaa.Q
end
section
namespace Go.Proofs.Ytfhkkbpkajfdlaa.Q
attribute [local go_sem] max2_int min2_int max_two min_two min_four
def ebbtideref08_Bottle.l0 : Nat → List Int → List (S115) → Int → Int → Int → Bool → List (S54) → Option (Int)
 | 0, _, _, _, _, _, _, _ => none
 | k + 1, x1, x2, x7, x8, x550000, x550001, x550002 => if x8 < (x2.length : Int) then (if 0 ≤ x8 then ((ebbtideref07_Left.f x550000 x550001 x550002 x1 ((rd_T115 x2 x8).f0) ((rd_T115 x2 x8).f1)).bind fun t553 => (ebbtideref08_Bottle.l0 k x1 x2 (mn x7 t553) (wrap64 (x8 + 1)) x550000 x550001 x550002)) else (none)) else (some x7)
def ebbtideref08_Bottle.f (k : Nat) (a0_0 : Int) (a0_1 : Bool) (l0_2 : List (S54)) (l1 : List Int) (l2 : List (S115)) : Option (Int) := if 0 < (l2.length : Int) then ((ebbtideref07_Left.f a0_0 a0_1 l0_2 l1 ((rd_T115 l2 0).f0) ((rd_T115 l2 0).f1)).bind fun t551 => (ebbtideref08_Bottle.l0 k l1 l2 t551 1 a0_0 a0_1 l0_2)) else (none)
def ebbtideref08_Bottle.T5 : Bool × List (List Nat × List Nat) := (true, [([], []), ([], []), ([], []), ([], []), ([], []), ([3, 4], [3, 4]), ([5], [5]), ([1, 2, 6], [1, 2, 6]), ([0, 7], [0, 7]), ([8, 7, 0, 1, 2, 3, 4, 5, 6, 7, 8], [0, 8])])
def ebbtideref08_Bottle.B5 : List Nat := [0, 0, 0, 0, 0, 24, 56, 126, 255, 511]
theorem ebbtideref08_Bottle.tab5 : rtab .any (opsOf Try.f46 5) = ebbtideref08_Bottle.T5 := by kernel_rfl
theorem ebbtideref08_Bottle.bits5 : waitsOk ebbtideref08_Bottle.T5.2 ebbtideref08_Bottle.B5 = true := by kernel_rfl
set_option maxHeartbeats 8000000 in
set_option maxRecDepth 100000 in
theorem ebbtideref08_Bottle.calls (k : Nat) (a0_0 : Int) (a0_1 : Bool) (A0_2 : Option Addr) (c0_2 : Nat) (l0_2 : List (S54)) (A1 : Option Addr) (c1 : Nat) (l1 : List Int) (A2 : Option Addr) (c2 : Nat) (l2 : List (S115)) (r : Int) (w : World) (hr0_2 : Kd.C k54 w A0_2 l0_2.length l0_2) (hc0_2 : l0_2.length ≤ c0_2) (hr1 : Kd.C (Kd.int .i64) w A1 l1.length l1) (hc1 : l1.length ≤ c1) (hr2 : Kd.C k115 w A2 l2.length l2) (hc2 : l2.length ≤ c2) (h : ebbtideref08_Bottle.f k a0_0 a0_1 l0_2 l1 l2 = some r) :
  Calls Try.prog 46 #[.agg #[.int .i64 a0_0, .bool a0_1, .slice A0_2 l0_2.length c0_2], .slice A1 l1.length c1, .slice A2 l2.length c2] w fun e w' => e = .returned (.int .i64 r) ∧ Below w.heap.size w w' := by
 have hu24 := Try.underlying24; have hu115 := Try.underlying115; have HR0_2 := am_ hr0_2; have HC0_2 := am_ hc0_2; clear hr0_2 hc0_2; have HR1 := am_ hr1; have HC1 := am_ hc1; clear hr1 hc1; have HR2 := am_ hr2; have HC2 := am_ hc2; clear hr2 hc2; have HB := am_ (Below.refl w.heap.size w); have H : (if 0 < (l2.length : Int) then ((ebbtideref07_Left.f a0_0 a0_1 l0_2 l1 ((rd_T115 l2 0).f0) ((rd_T115 l2 0).f1)).bind fun t551 => (ebbtideref08_Bottle.l0 k l1 l2 t551 1 a0_0 a0_1 l0_2)) else (none)) = some r := h; clear h
 replace H := ifn_ H; obtain ⟨c4, H⟩ := H
 have c4b0 := decide_eq_true c4; have c4b1 : decide (0 < l2.length) = true := decide_eq_true (by omega); clear c4; replace H := Option.bind_eq_some_iff.mp H; obtain ⟨t551, A50, H⟩ := H; replace H : (ebbtideref08_Bottle.l0 k l1 l2 t551 1 a0_0 a0_1 l0_2) = some r := H; have A5 := am_ A50; clear A50; have H' := am_ H; clear H
 go_enter Try.func46, Try.ntmps46
 try go_wp2_with (first | ((with_reducible refine gate_dst (N := 3) rfl ?_); refine bx_ 3 #[.int .i64 a0_0, .bool a0_1, .slice A0_2 l0_2.length c0_2] 24 ?_; intro gb549 hg w6 BK549 hb; have GE549 := ge_ (w := w) hg; replace HB := hst_ hb; clear hb hg))
 replace BK549 := am_ (blk_drew BK549.out); replace HB := am_ (below_drew1 HB.out); have p550 : 0 ≤ (0 : Int) := (by omega); have q550 : 0 < (l2.length : Int) := of_decide_eq_true sm_; obtain ⟨ad550, e550, hx550_0, hx550_1⟩ := at_T115 HR2.out 0 p550 q550; have hw550_1 := hx550_1
 (try rw [show ((0 : Int)).toNat = 0 from rfl] at hw550_1)
 (try rw [show 0 * 2 = 0 from rfl] at hw550_1)
 (try rw [Addr.add_zero'] at hw550_1)
 have hw550_0 := hx550_0
 (try rw [show ((0 : Int)).toNat = 0 from rfl] at hw550_0)
 (try rw [show 0 * 2 = 0 from rfl] at hw550_0)
 (try rw [Addr.add_zero'] at hw550_0)
 cases e550; have qi550 : (0 < l2.length) = True := eq_true (by omega)
 (try rw [show ((0 : Int)).toNat = 0 from rfl] at hx550_0)
 (try rw [show 0 * 2 = 0 from rfl] at hx550_0)
 (try rw [Addr.add_zero'] at hx550_0)
 (try rw [show ((0 : Int)).toNat = 0 from rfl] at hx550_1)
 (try rw [show 0 * 2 = 0 from rfl] at hx550_1)
 (try rw [Addr.add_zero'] at hx550_1)
 replace hx550_0 := (HB.out.cell (World.block_lt_of_cell? w _ hx550_0)).trans hx550_0; replace hx550_1 := (HB.out.cell (World.block_lt_of_cell? w _ hx550_1)).trans hx550_1; replace p550 := eq_true p550; replace q550 := eq_true q550; refine start_ (n := 7) (S := fun w' => w'.cell? ⟨gb549, 0, none⟩ = some (.int .i64 a0_0) ∧ w'.cell? ⟨gb549, 1, none⟩ = some (.bool a0_1) ∧ w'.cell? ⟨gb549, 2, none⟩ = some (.slice A0_2 l0_2.length c0_2) ∧ w'.cell? ad550 = some (.int .i64 ((rd_T115 l2 0).f0)) ∧ w'.cell? ⟨ad550.block, ad550.off + 1, none⟩ = some (.bool ((rd_T115 l2 0).f1))) (ds := []) #[Ff,Ff,Ff,Ff,Ff,Ff,Ff] (by kernel_rfl) rfl rfl ⟨(blk_cell BK549.out 0).trans rfl, (blk_cell BK549.out 1).trans rfl, (blk_cell BK549.out 2).trans rfl, ((HB.out.cell (World.block_lt_of_cell? w _ hw550_0)).trans hw550_0), ((HB.out.cell (World.block_lt_of_cell? w _ hw550_1)).trans hw550_1)⟩ (fun hHeld => ?_); generalize w6.drew = w7 at BK549 HB hx550_0 hx550_1 hHeld ⊢; refine pure_ (i := 1) (N := some 10) (v := ?_) (a' := ?_) #[Ff,Tt,Ff,Ff,Ff,Ff,Ff] rfl rfl (by kernel_rfl) (fun _ _ _ h => h) (Or.inl ⟨by rfl, ?_⟩) ?_ ?_; rotate_left; (· intro w'; go_simp; with_reducible rfl); rotate_left; exact ap_; refine pure_ (i := 2) (N := some 11) (v := ?_) (a' := ?_) #[Ff,Tt,Tt,Ff,Ff,Ff,Ff] rfl rfl (by kernel_rfl) (fun _ _ _ h => h) (Or.inl ⟨by rfl, ?_⟩) ?_ ?_; rotate_left; (· intro w'; go_simp; with_reducible rfl); rotate_left; exact ap_; refine pure_ (i := 3) (N := some 12) (v := ?_) (a' := ?_) #[Ff,Tt,Tt,Tt,Ff,Ff,Ff] rfl rfl (by kernel_rfl) (fun _ _ _ h => h) (Or.inl ⟨by rfl, ?_⟩) ?_ ?_; rotate_left; (· intro w'; go_simp; with_reducible rfl); rotate_left; exact ap_; refine take_ (i := 0) (N := some 9) (v := ?_) (a' := ?_) #[Tt,Tt,Tt,Tt,Ff,Ff,Ff] rfl rfl (by kernel_rfl) (fun _ _ _ h => h) (Or.inl ⟨by rfl, ?_⟩) hHeld ?_ ?_; rotate_left; (· rintro w' ⟨s0, s1, s2, s3, s4⟩; go_simp; with_reducible rfl); rotate_left; exact ap_; refine take_ (i := 4) (N := some 13) (v := ?_) (a' := ?_) #[Tt,Tt,Tt,Tt,Tt,Ff,Ff] rfl rfl (by kernel_rfl) (fun _ _ _ h => h) (Or.inl ⟨by rfl, ?_⟩) hHeld ?_ ?_; rotate_left; (· rintro w' ⟨s0, s1, s2, s3, s4⟩; go_simp; with_reducible rfl); rotate_left; exact ap_; refine one_ (i := 5) (N := some 14) #[Tt,Tt,Tt,Tt,Tt,Tt,Ff] rfl rfl (by kernel_rfl) (by decide) (fun K hK => ?_); refine goes_ Try.func70 (by kernel_rfl) rfl #[.agg #[.int .i64 a0_0, .bool a0_1, .slice A0_2 l0_2.length c0_2], .slice A1 l1.length c1, .agg #[.int .i64 ((rd_T115 l2 0).f0), .bool ((rd_T115 l2 0).f1)]] (by rfl) rfl rfl mt_ ?_
 with_reducible refine (ebbtideref07_Left.calls a0_0 a0_1 _ _ l0_2 _ _ l1 ((rd_T115 l2 0).f0) ((rd_T115 l2 0).f1) t551 _ ?side1 ?side2 ?side3 ?side4 A5.out).mono ?_
 (case side1 => exact cb_ HR0_2.out)
 (case side2 => exact HC0_2.out)
 (case side3 => exact cb_ HR1.out)
 (case side4 => exact HC1.out)
 rintro e w8 ⟨rfl, hb⟩; refine ⟨_, rfl, ?_⟩; replace BK549 := am_ (bb_ BK549.out hb); replace HB := hst_ hb
 (try clear hb)
 (try clear hb2)
 (try clear hk)
 (try clear hi)
 refine hK.out _ _ ⟨(blk_cell BK549.out 0).trans rfl, (blk_cell BK549.out 1).trans rfl, (blk_cell BK549.out 2).trans rfl, ((HB.out.cell (World.block_lt_of_cell? w _ hw550_0)).trans hw550_0), ((HB.out.cell (World.block_lt_of_cell? w _ hw550_1)).trans hw550_1)⟩ (fun hHeld => ?_); clear hK K; refine norm_ (a' := ?_) ?_ ?_; rotate_left
 ·show Act.put _ (some 14) _ = _
  simp only [Act.put, List.setIfInBounds_toArray, List.set_cons_zero, List.set_cons_succ, i64_w, i32_w]; rfl
 refine pure_ (i := 6) (N := some 7) (v := ?_) (a' := ?_) #[Tt,Tt,Tt,Tt,Tt,Tt,Tt] rfl rfl (by kernel_rfl) (fun _ _ _ h => h) (Or.inl ⟨by rfl, ?_⟩) ?_ ?_; rotate_left; (· intro w'; go_simp; with_reducible rfl); rotate_left; exact ap_; refine done_ (by kernel_rfl) ?_
 try go_wp2
 go_loopg [7, 8] k (fun kq v7 v8 w' => ∃ (x7_1 : Int) (x8_1 : Int), v7 = .int .i64 x7_1 ∧ v8 = .int .i64 x8_1 ∧ Aside0 (ebbtideref08_Bottle.l0 kq l1 l2 x7_1 x8_1 a0_0 a0_1 l0_2 = some r) ∧ Aside0 (kq ≤ k) ∧ Aside0 (w'.heap[gb549]? = some (.cells #[.int .i64 a0_0, .bool a0_1, (.slice A0_2 l0_2.length c0_2)] 24 (0, 0))) ∧ Aside0 (Below w.heap.size w w'))
 case atStart => exact ⟨(t551), (1), rs_, rs_, H', ⟨Nat.le_refl _⟩, ⟨bq_ BK549.out⟩, ⟨hb_⟩⟩
 case round =>
  clear H'
  try clear c1
  try clear c2
  try clear p2
  try clear c4
  try clear c4b0
  try clear c4b1
  try clear p5
  try clear q5
  try clear hx5
  try clear qi5
  try clear c7
  try clear hx550_0
  try clear hx550_1
  try clear p550
  try clear q550
  obtain ⟨x7_1, x8_1, rfl, rfl, HA, HK1, BK549, HB⟩ := hrel
  cases gk with
  | zero => exact absurd HA.out (by simp [ebbtideref08_Bottle.l0])
  | succ k1 =>
   have H := HA.out; clear HA; simp only [ebbtideref08_Bottle.l0] at H
   by_cases c9 : x8_1 < (l2.length : Int)
   ·rw [if_pos c9] at H
    have c9b0 := decide_eq_true c9; clear c9
    replace H := ifn_ H; obtain ⟨c10, H⟩ := H
    have c10b0 := decide_eq_true c10; clear c10; replace H := Option.bind_eq_some_iff.mp H; obtain ⟨t553, A110, H⟩ := H; replace H : (ebbtideref08_Bottle.l0 k1 l1 l2 (mn x7_1 t553) (wrap64 (x8_1 + 1)) a0_0 a0_1 l0_2) = some r := H; have A11 := am_ A110; clear A110; obtain ⟨ji12, hji12⟩ : ∃ j_ : Int, (mn x7_1 t553) = j_ := ⟨_, rfl⟩
    replace H : (ebbtideref08_Bottle.l0 k1 l1 l2 ji12 (wrap64 (x8_1 + 1)) a0_0 a0_1 l0_2) = some r := by first | (rw [hji12] at H; exact H) | (simp only [hji12] at H ⊢; exact H)
    (try rw [hji12] at A11)
    have hji12_ : (if t553 < x7_1 then t553 else x7_1) = ji12 := hji12; have H' := am_ H; clear H
    try go_wp2
    replace BK549 := am_ (blk_drew BK549.out); replace HB := am_ (below_drew1 HB.out); have p552 : 0 ≤ (x8_1 : Int) := of_decide_eq_true sm_; have q552 : x8_1 < (l2.length : Int) := of_decide_eq_true sm_; obtain ⟨ad552, e552, hx552_0, hx552_1⟩ := at_T115 HR2.out x8_1 p552 q552; have hw552_1 := hx552_1; have hw552_0 := hx552_0; obtain rfl : ad550 = ad552 := (by injection e552); replace hx552_0 := (HB.out.cell (World.block_lt_of_cell? w _ hx552_0)).trans hx552_0; replace hx552_1 := (HB.out.cell (World.block_lt_of_cell? w _ hx552_1)).trans hx552_1; replace p552 := eq_true p552; replace q552 := eq_true q552; refine start_ (n := 10) (S := fun w' => w'.cell? ⟨gb549, 0, none⟩ = some (.int .i64 a0_0) ∧ w'.cell? ⟨gb549, 1, none⟩ = some (.bool a0_1) ∧ w'.cell? ⟨gb549, 2, none⟩ = some (.slice A0_2 l0_2.length c0_2) ∧ w'.cell? (ad550.add ((x8_1).toNat * 2)) = some (.int .i64 ((rd_T115 l2 x8_1).f0)) ∧ w'.cell? ⟨(ad550.add ((x8_1).toNat * 2)).block, (ad550.add ((x8_1).toNat * 2)).off + 1, none⟩ = some (.bool ((rd_T115 l2 x8_1).f1))) (ds := []) #[Ff,Ff,Ff,Ff,Ff,Ff,Ff,Ff,Ff,Ff] (by kernel_rfl) rfl rfl ⟨(blk_cell BK549.out 0).trans rfl, (blk_cell BK549.out 1).trans rfl, (blk_cell BK549.out 2).trans rfl, ((HB.out.cell (World.block_lt_of_cell? w _ hw552_0)).trans hw552_0), ((HB.out.cell (World.block_lt_of_cell? w _ hw552_1)).trans hw552_1)⟩ (fun hHeld => ?_); refine with_tabW ebbtideref08_Bottle.tab5 ebbtideref08_Bottle.bits5 (fun HT_ HW_ => ?_); generalize wr.drew = w13 at BK549 HB hx552_0 hx552_1 hHeld ⊢; refine pw_ 0 21 ?_; refine pw_ 2 23 ?_; refine pw_ 3 24 ?_; refine pw_ 4 25 ?_; refine pw_ 5 26 ?_; refine tk_ 1 22 ?_; refine tk_ 6 27 ?_; refine one_ (i := 7) (N := some 28) #[Tt,Tt,Tt,Tt,Tt,Tt,Tt,Tt,Ff,Ff] rfl rfl (one_of HT_.out (by kernel_rfl)) (by decide) (fun K hK => ?_); refine goes_ Try.func70 (by kernel_rfl) rfl #[.agg #[.int .i64 a0_0, .bool a0_1, .slice A0_2 l0_2.length c0_2], .slice A1 l1.length c1, .agg #[.int .i64 ((rd_T115 l2 x8_1).f0), .bool ((rd_T115 l2 x8_1).f1)]] (by rfl) rfl rfl mt_ ?_
    with_reducible refine (ebbtideref07_Left.calls a0_0 a0_1 _ _ l0_2 _ _ l1 ((rd_T115 l2 x8_1).f0) ((rd_T115 l2 x8_1).f1) t553 _ ?side1 ?side2 ?side3 ?side4 A11.out).mono ?_
    (case side1 => exact cb_ HR0_2.out)
    (case side2 => exact HC0_2.out)
    (case side3 => exact cb_ HR1.out)
    (case side4 => exact HC1.out)
    rintro e w14 ⟨rfl, hb⟩; refine ⟨_, rfl, ?_⟩; replace BK549 := am_ (bb_ BK549.out hb); replace HB := hst_ hb
    (try clear hb)
    (try clear hb2)
    (try clear hk)
    (try clear hi)
    refine hK.out _ _ ⟨(blk_cell BK549.out 0).trans rfl, (blk_cell BK549.out 1).trans rfl, (blk_cell BK549.out 2).trans rfl, ((HB.out.cell (World.block_lt_of_cell? w _ hw552_0)).trans hw552_0), ((HB.out.cell (World.block_lt_of_cell? w _ hw552_1)).trans hw552_1)⟩ (fun hHeld => ?_); clear hK K; refine norm_ (a' := ?_) ?_ ?_; rotate_left
    ·show Act.put _ (some 28) _ = _
     simp only [Act.put, List.setIfInBounds_toArray, List.set_cons_zero, List.set_cons_succ, i64_w, i32_w]; rfl
    refine pw_ 8 29 ?_; refine pw_ 9 7 ?_; refine done_ (done_of HT_.out (by kernel_rfl)) ?_
    try go_wp2
    go_roundg k1
    case measure => have := HK1.out; omega
    case rel => exact ⟨(ji12), (wrap64 (x8_1 + 1)), (by first | rfl | (simp; done) | (simp only [← hji12] <;> (first | rfl | simp)) | (simp [*]; done)), rs_, H', ⟨by have := HK1.out; omega⟩, ⟨bq_ BK549.out⟩, ⟨hb_⟩⟩
   ·rw [if_neg c9] at H
    have c9b0 := decide_eq_false c9; clear c9; obtain rfl := Option.some.inj H
    go_wp2
    go_ret
    exact ⟨er_, hb_⟩
end Go.Proofs.Ytfhkkbpkajfdlaa.Q
end
