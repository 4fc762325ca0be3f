/- A part of the proof: words, contracts, plain lemmas. Conditions: none. -/
import Derived.Maps.RangeWalk
import Derived.Test.YtfhkkbpkajfdlaaZExpandPlans7
set_option linter.unusedSimpArgs false
set_option linter.unusedVariables false
section
namespace Go.Proofs.Ytfhkkbpkajfdlaa.Q
open Go.RowKit Go.Proofs.YtfhkkbpkajfdlaaW.PrintWords Go.Proofs.YtfhkkbpkajfdlaaW.PrintLast Go.Proofs.YtfhkkbpkajfdlaaW.PrintMore
def table_Moves.l0 : Nat → List (S85) → List (S85) → List (List Int) → Int → Int → Option ((List (S85)) × Int)
 | 0, _, _, _, _, _ => none
 | k + 1, x0, x4, x11, x12, x13 => if x13 < x12 then (if 0 ≤ x13 then (if x13 < (x11.length : Int) then (if 0 < ((rd_L3 x11 x13).length : Int) then (if 0 ≤ (rd (rd_L3 x11 x13) 0) then (if (rd (rd_L3 x11 x13) 0) < (x0.length : Int) then ((api_Move_76.f k x0 (rd_L3 x11 x13)).bind fun bt150 => (if bt150.2 = true then (if bt150.1 = 0 then (table_Moves.l0 k x0 x4 x11 x12 (wrap64 (x13 + 1))) else (if x4.length < 5864062014805 then (table_Moves.l0 k x0 (x4 ++ [(⟨(rd_T85 x0 (rd (rd_L3 x11 x13) 0)).f0, (rd_T85 x0 (rd (rd_L3 x11 x13) 0)).f1, bt150.1⟩ : S85)]) x11 x12 (wrap64 (x13 + 1))) else (none))) else (some (([] : List (S85)), 10)))) else (none)) else (none)) else (none)) else (none)) else (none)) else ((api_Move_78.f x4).bind fun t145 => (some (t145, 0)))
def table_Moves.f (k : Nat) (l0 : List (S85)) : Option ((List (S85)) × Int) := (api_Move_2_int.f k l0).bind fun t142 => (table_Moves.l0 k l0 (([] : List (S85))) t142 (t142.length : Int) 0)
set_option maxHeartbeats 8000000 in
set_option maxRecDepth 100000 in
theorem table_Moves.calls (k : Nat) (A0 : Option Addr) (c0 : Nat) (l0 : List (S85)) (r1 : List (S85)) (r2 : Int) (w : World) (hr0 : Kd.C k85 w A0 l0.length l0) (hc0 : l0.length ≤ c0) (h : table_Moves.f k l0 = some (r1, r2)) :
  Calls Try.prog 50 #[.slice A0 l0.length c0] w fun e w' => ∃ v0_ : Value, e = .returned (.tuple #[v0_, .int .i64 r2]) ∧ Kd.R k85 85 w' w.heap.size (fun _ => True) v0_ r1 ∧ Below w.heap.size w w' := by
 have hu85 := Try.underlying85; have HR0 := am_ hr0; have HC0 := am_ hc0; clear hr0 hc0; have HB := am_ (Below.refl w.heap.size w); have H : ((api_Move_2_int.f k l0).bind fun t142 => (table_Moves.l0 k l0 (([] : List (S85))) t142 (t142.length : Int) 0)) = some (r1, r2) := h; clear h; obtain ⟨y139, hy_⟩ : ∃ y_ : List (S85), y_ = (([] : List (S85))) := ⟨_, rfl⟩
 replace H : ((api_Move_2_int.f k l0).bind fun t142 => (table_Moves.l0 k l0 y139 t142 (t142.length : Int) 0)) = some (r1, r2) := hyH_
 have Ny139 := am_ hy_; clear hy_; replace H := Option.bind_eq_some_iff.mp H; obtain ⟨t142, A20, H⟩ := H; replace H : (table_Moves.l0 k l0 y139 t142 (t142.length : Int) 0) = some (r1, r2) := H; have A2 := am_ A20; clear A20; have H' := am_ H; clear H
 go_enter Try.func50, Try.ntmps50
 go_wp2_with (first | ((with_reducible refine gate_dst (N := 9) rfl ?_); refine Kd.R_lit k85 _ 85 ?hg (N := 9) ?hd (xs := ([] : List (S85))) (inner := []) (ok := fun _ => True) (okp := fun _ => True) ?hr ?hp (fun _ hk => hk) trivial (Below.refl _ _) (Nat.le_refl _) (by simp) ?_; (case hd => rfl); (case hg => rfl); (case hr => first | (go_simp; done) | (go_simp; rfl)); (case hp => exact (Reps.none _ _)); intro v140 w3 ho4 hb hg_ hnew_; clear hg_ hnew_; (first | rw [← Ny139.out] at ho4 | (simp only [Int.reduceToNat] at ho4; rw [← Ny139.out] at ho4)); have HO141 := am_ (Kd.R_lower ho4 (below_size hb_)); replace HB := hst_ hb; clear hb ho4) | ((with_reducible refine gate_callee (f := 74) rfl ?_); refine cl_ 11 Try.func74 (api_Move_2_int.calls k _ _ l0  t142 _ (cb_ HR0.out) HC0.out A2.out) ?_; rintro e w5 ⟨v143, rfl, ho0, hb⟩; refine ⟨_, rfl, ?_⟩; replace HO141 := am_ (Kd.R_below (rq_ HO141.out) hb); have HO144 := am_ (Kd.S_lower ho0 (below_size hb_)); replace HB := hst_ hb; (try clear hb); (try clear hb2); (try clear hk); (try clear hi); (try clear ho0); obtain ⟨Ao6, co6, eo6⟩ := Kd.S_slice HO144.out; subst eo6))
 go_loopg [4, 13] k (fun kq v4 v13 w' => ∃ (x4_1 : List (S85)) (x13_1 : Int), v13 = .int .i64 x13_1 ∧ Aside0 (table_Moves.l0 kq l0 x4_1 t142 (t142.length : Int) x13_1 = some (r1, r2)) ∧ Aside0 (kq ≤ k) ∧ Aside0 (Kd.R k85 85 w' w.heap.size (fun _ => True) v4 x4_1) ∧ Aside0 (Kd.S (Kd.slice 3 (Kd.int .i64)) 42 w' w.heap.size (fun _ => True) (.slice Ao6 t142.length co6) t142) ∧ Aside0 (Below w.heap.size w w'))
 case atStart => exact ⟨(y139), (0), rs_, H', ⟨Nat.le_refl _⟩, ⟨rq_ HO141.out⟩, ⟨sq_ HO144.out⟩, ⟨hb_⟩⟩
 case round =>
  clear H'
  try clear p2
  try clear c5
  obtain ⟨x4_1, x13_1, rfl, HA, HK1, HO_4, HO_11, HB⟩ := hrel
  cases gk with
  | zero => exact absurd HA.out (by simp [table_Moves.l0])
  | succ k1 =>
   have H := HA.out; clear HA; simp only [table_Moves.l0] at H
   by_cases c7 : x13_1 < (t142.length : Int)
   ·rw [if_pos c7] at H
    have c7b0 := decide_eq_true c7; clear c7
    replace H := ifn_ H; obtain ⟨c8, H⟩ := H
    have c8b0 := decide_eq_true c8; clear c8
    replace H := ifn_ H; obtain ⟨c9, H⟩ := H
    have c9b0 := decide_eq_true c9; clear c9
    replace H := ifn_ H; obtain ⟨c10, H⟩ := H
    have c10b0 := decide_eq_true c10; have c10b1 : decide (0 < (rd_L3 t142 x13_1).length) = true := decide_eq_true (by omega); clear c10
    replace H := ifn_ H; obtain ⟨c11, H⟩ := H
    have c11b0 := decide_eq_true c11; clear c11
    replace H := ifn_ H; obtain ⟨c12, H⟩ := H
    have c12b0 := decide_eq_true c12; clear c12; replace H := Option.bind_eq_some_iff.mp H; obtain ⟨⟨t150, t151⟩, A130, H⟩ := H; replace H : (if t151 = true then (if t150 = 0 then (table_Moves.l0 k1 l0 x4_1 t142 (t142.length : Int) (wrap64 (x13_1 + 1))) else (if x4_1.length < 5864062014805 then (table_Moves.l0 k1 l0 (x4_1 ++ [(⟨(rd_T85 l0 (rd (rd_L3 t142 x13_1) 0)).f0, (rd_T85 l0 (rd (rd_L3 t142 x13_1) 0)).f1, t150⟩ : S85)]) t142 (t142.length : Int) (wrap64 (x13_1 + 1))) else (none))) else (some (([] : List (S85)), 10))) = some (r1, r2) := H; have A13 := am_ A130; clear A130
    by_cases c14 : t151 = true
    ·subst c14
     have H1 : (if t150 = 0 then (table_Moves.l0 k1 l0 x4_1 t142 (t142.length : Int) (wrap64 (x13_1 + 1))) else (if x4_1.length < 5864062014805 then (table_Moves.l0 k1 l0 (x4_1 ++ [(⟨(rd_T85 l0 (rd (rd_L3 t142 x13_1) 0)).f0, (rd_T85 l0 (rd (rd_L3 t142 x13_1) 0)).f1, t150⟩ : S85)]) t142 (t142.length : Int) (wrap64 (x13_1 + 1))) else (none))) = some (r1, r2) := by rw [if_pos rfl] at H; exact H
     clear H; have H := H1; clear H1
     by_cases c15 : t150 = 0
     ·rw [if_pos c15] at H
      obtain ⟨c15b0, c15b1⟩ := eqb_ c15; clear c15; have H' := am_ H; clear H; have p146 : 0 ≤ (x13_1 : Int) := of_decide_eq_true sm_; have q146 : x13_1 < (t142.length : Int) := of_decide_eq_true sm_; obtain ⟨ad146, A146_0, c146_0, e146, hx146_0, hl146_0, hi146_0⟩ := at_L3 (Kd.S_reads' HO_11.out).2.2 x13_1 p146 q146; cases e146; obtain ⟨ce146, hce146, hMe146, hcc146⟩ := Kd.S_get HO_11.out [] x13_1 p146 (by first | exact q146 | exact of_decide_eq_true sm_ | (have e_ := (Kd.S_reads' HO_11.out).1; omega)); obtain ⟨ve146_0, rfl, ge146_0⟩ := hMe146; have hv146_0 := hcc146 0 _ rfl; rw [Nat.add_zero, show ((Kd.slice 3 (Kd.int .i64))).sz = 1 from rfl, Nat.mul_one] at hv146_0; replace hv146_0 := Option.some.inj (hv146_0.symm.trans hx146_0); rw [hv146_0] at ge146_0; have HL146_0 := am_ (show Kd.R (Kd.int .i64) 3 _ _ _ _ (rd_L3 t142 x13_1) from ge146_0); clear hv146_0 ge146_0; clear hcc146 hce146; have HR146_0 := am_ hi146_0; have HC146_0 := am_ hl146_0; clear hi146_0 hl146_0; replace p146 := eq_true p146; replace q146 := eq_true q146; have p147 : 0 ≤ (0 : Int) := (by omega); have q147 : 0 < ((rd_L3 t142 x13_1).length : Int) := of_decide_eq_true sm_; obtain ⟨ad147, e147, hx147_0⟩ := Kd.at_int q2_ 0 p147 q147; cases e147; have qi147 : (0 < (rd_L3 t142 x13_1).length) = True := eq_true (by omega)
      (try rw [show ((0 : Int)).toNat = 0 from rfl] at hx147_0)
      (try rw [Addr.add_zero'] at hx147_0)
      replace p147 := eq_true p147; replace q147 := eq_true q147; have p148 := od_ (p := 0 ≤ ((rd (rd_L3 t142 x13_1) 0) : Int)); have q148 := od_ (p := (rd (rd_L3 t142 x13_1) 0) < (l0.length : Int)); obtain ⟨ad148, e148, hx148_0, hx148_1, hx148_2⟩ := tr3_ HB.out (at_T85 HR0.out (rd (rd_L3 t142 x13_1) 0) p148 q148); cases e148; replace p148 := eq_true p148; replace q148 := eq_true q148
      go_wp2_with (first | ((with_reducible refine gate_dst (N := 7) rfl ?_); refine bx_ 7 #[.int .i64 0, .int .i64 0, .int .i64 0] 85 ?_; intro gb149 hg w16 BK149 hb; replace HO_4 := am_ (Kd.R_below (Kd.R_elderB (rq_ HO_4.out) gb149 (Nat.le_of_eq hg.symm)) hb); replace HO_11 := am_ (Kd.S_below (sq_ HO_11.out) hb); replace HL146_0 := am_ (Kd.R_below (rq_ HL146_0.out) hb); replace HR146_0 := am_ (Kd.C_below q2_ hb); have GE149 := ge_ (w := w) hg; replace HB := hst_ hb; clear hb hg; obtain ⟨hcz17_0, hcz17_1, hcz17_2, hfz17_0, hfz17_1, hfz17_2⟩ := cf3_ BK149.out) | ((with_reducible refine gate_callee (f := 76) rfl ?_); refine goesL_ (some 26) rfl rfl Try.func76 (by kernel_rfl) rfl #[.slice (some ad148) l0.length c0, .slice (some ad147) (rd_L3 t142 x13_1).length c146_0, .func (.func 77) #[] #[]] rfl mt_ ?_; (with_reducible refine (api_Move_76.calls k1 _ _ l0 _ _ (rd_L3 t142 x13_1)  t150 true _ ?side1 ?side2 ?side3 ?side4 A13.out).mono ?_); (case side1 => exact Kd.C_below HR0.out hb_); (case side2 => exact HC0.out); (case side3 => repeat (first | exact ((Kd.R_reads' q0_).2.2) | (with_reducible refine Kd.C_alloc ?_ _) | (with_reducible refine Kd.C_drewN ?_ _) | (with_reducible refine Kd.C_drew ?_))); (case side4 => exact HC146_0.out); rintro e w18 ⟨rfl, hb⟩; refine ⟨_, rfl, ?_⟩; replace HO_4 := am_ (Kd.R_below q3_ hb); replace HO_11 := am_ (Kd.S_below q5_ hb); replace HR146_0 := am_ (Kd.C_below ((Kd.R_reads' q0_).2.2) hb); replace HL146_0 := am_ (Kd.R_below q0_ hb); replace BK149 := am_ (blk_below (g := gb149) (o := .cells #[.int .i64 ((rd_T85 l0 (rd (rd_L3 t142 x13_1) 0)).f0), .int .i64 ((rd_T85 l0 (rd (rd_L3 t142 x13_1) 0)).f1), .int .i64 ((rd_T85 l0 (rd (rd_L3 t142 x13_1) 0)).f2)] 85 (0, 0)) q4_ hb); replace HB := hst_ hb; (try clear hb); (try clear hb2); (try clear hk); (try clear hi); obtain ⟨hcz19_0, hcz19_1, hcz19_2, hfz19_0, hfz19_1, hfz19_2⟩ := cf3_ BK149.out))
      go_roundg k1
      case measure => have := HK1.out; omega
      case rel => exact ⟨(x4_1), (wrap64 (x13_1 + 1)), rs_, H', ⟨by have := HK1.out; omega⟩, ⟨by refine rq_ ?_; exact Kd.R_mono (Kd.R_far (p := ⟨gb149, 2, none⟩) (Kd.R_mono HO_4.out (fun k_ hk => (⟨hk, hk.2⟩ : _ ∧ k_ ≠ gb149))) (fun _ hk => hk.2) (.int .i64 t150)) (fun _ hk => trivial)⟩, ⟨by refine sq_ ?_; exact Kd.S_mono (Kd.S_far (p := ⟨gb149, 2, none⟩) (Kd.S_types HO_11.out BK149.out (by decide)) (fun _ hk => hk.2) (.int .i64 t150)) (fun _ hk => trivial)⟩, ⟨hb_⟩⟩
     ·rw [if_neg c15] at H
      obtain ⟨c15b0, c15b1⟩ := neb_ c15
      replace H := ifn_ H; obtain ⟨c20, H⟩ := H
      have LMc20 := am_ c20; clear c20; obtain ⟨y152, hy_⟩ : ∃ y_ : List (S85), y_ = (x4_1 ++ [(⟨(rd_T85 l0 (rd (rd_L3 t142 x13_1) 0)).f0, (rd_T85 l0 (rd (rd_L3 t142 x13_1) 0)).f1, t150⟩ : S85)]) := ⟨_, rfl⟩
      replace H : (table_Moves.l0 k1 l0 y152 t142 (t142.length : Int) (wrap64 (x13_1 + 1))) = some (r1, r2) := hyH_
      have Ny152 := am_ hy_; clear hy_; have H' := am_ H; clear H; have p146 : 0 ≤ (x13_1 : Int) := of_decide_eq_true sm_; have q146 : x13_1 < (t142.length : Int) := of_decide_eq_true sm_; obtain ⟨ad146, A146_0, c146_0, e146, hx146_0, hl146_0, hi146_0⟩ := at_L3 (Kd.S_reads' HO_11.out).2.2 x13_1 p146 q146; cases e146; obtain ⟨ce146, hce146, hMe146, hcc146⟩ := Kd.S_get HO_11.out [] x13_1 p146 (by first | exact q146 | exact of_decide_eq_true sm_ | (have e_ := (Kd.S_reads' HO_11.out).1; omega)); obtain ⟨ve146_0, rfl, ge146_0⟩ := hMe146; have hv146_0 := hcc146 0 _ rfl; rw [Nat.add_zero, show ((Kd.slice 3 (Kd.int .i64))).sz = 1 from rfl, Nat.mul_one] at hv146_0; replace hv146_0 := Option.some.inj (hv146_0.symm.trans hx146_0); rw [hv146_0] at ge146_0; have HL146_0 := am_ (show Kd.R (Kd.int .i64) 3 _ _ _ _ (rd_L3 t142 x13_1) from ge146_0); clear hv146_0 ge146_0; clear hcc146 hce146; have HR146_0 := am_ hi146_0; have HC146_0 := am_ hl146_0; clear hi146_0 hl146_0; replace p146 := eq_true p146; replace q146 := eq_true q146; have p147 : 0 ≤ (0 : Int) := (by omega); have q147 : 0 < ((rd_L3 t142 x13_1).length : Int) := of_decide_eq_true sm_; obtain ⟨ad147, e147, hx147_0⟩ := Kd.at_int q2_ 0 p147 q147; cases e147; have qi147 : (0 < (rd_L3 t142 x13_1).length) = True := eq_true (by omega)
      (try rw [show ((0 : Int)).toNat = 0 from rfl] at hx147_0)
      (try rw [Addr.add_zero'] at hx147_0)
      replace p147 := eq_true p147; replace q147 := eq_true q147; have p148 := od_ (p := 0 ≤ ((rd (rd_L3 t142 x13_1) 0) : Int)); have q148 := od_ (p := (rd (rd_L3 t142 x13_1) 0) < (l0.length : Int)); obtain ⟨ad148, e148, hx148_0, hx148_1, hx148_2⟩ := tr3_ HB.out (at_T85 HR0.out (rd (rd_L3 t142 x13_1) 0) p148 q148); cases e148; replace p148 := eq_true p148; replace q148 := eq_true q148
      go_wp2_with (first | ((with_reducible refine gate_dst (N := 7) rfl ?_); refine bx_ 7 #[.int .i64 0, .int .i64 0, .int .i64 0] 85 ?_; intro gb149 hg w21 BK149 hb; replace HO_4 := am_ (Kd.R_below (Kd.R_elderB (rq_ HO_4.out) gb149 (Nat.le_of_eq hg.symm)) hb); replace HO_11 := am_ (Kd.S_below (sq_ HO_11.out) hb); replace HL146_0 := am_ (Kd.R_below (rq_ HL146_0.out) hb); replace HR146_0 := am_ (Kd.C_below q2_ hb); have GE149 := ge_ (w := w) hg; replace HB := hst_ hb; clear hb hg; obtain ⟨hcz22_0, hcz22_1, hcz22_2, hfz22_0, hfz22_1, hfz22_2⟩ := cf3_ BK149.out) | ((with_reducible refine gate_callee (f := 76) rfl ?_); refine goesL_ (some 26) rfl rfl Try.func76 (by kernel_rfl) rfl #[.slice (some ad148) l0.length c0, .slice (some ad147) (rd_L3 t142 x13_1).length c146_0, .func (.func 77) #[] #[]] rfl mt_ ?_; (with_reducible refine (api_Move_76.calls k1 _ _ l0 _ _ (rd_L3 t142 x13_1)  t150 true _ ?side1 ?side2 ?side3 ?side4 A13.out).mono ?_); (case side1 => exact Kd.C_below HR0.out hb_); (case side2 => exact HC0.out); (case side3 => repeat (first | exact ((Kd.R_reads' q0_).2.2) | (with_reducible refine Kd.C_alloc ?_ _) | (with_reducible refine Kd.C_drewN ?_ _) | (with_reducible refine Kd.C_drew ?_))); (case side4 => exact HC146_0.out); rintro e w23 ⟨rfl, hb⟩; refine ⟨_, rfl, ?_⟩; replace HO_4 := am_ (Kd.R_below q3_ hb); replace HO_11 := am_ (Kd.S_below q5_ hb); replace HR146_0 := am_ (Kd.C_below ((Kd.R_reads' q0_).2.2) hb); replace HL146_0 := am_ (Kd.R_below q0_ hb); replace BK149 := am_ (blk_below (g := gb149) (o := .cells #[.int .i64 ((rd_T85 l0 (rd (rd_L3 t142 x13_1) 0)).f0), .int .i64 ((rd_T85 l0 (rd (rd_L3 t142 x13_1) 0)).f1), .int .i64 ((rd_T85 l0 (rd (rd_L3 t142 x13_1) 0)).f2)] 85 (0, 0)) q4_ hb); replace HB := hst_ hb; (try clear hb); (try clear hb2); (try clear hk); (try clear hi); obtain ⟨hcz24_0, hcz24_1, hcz24_2, hfz24_0, hfz24_1, hfz24_2⟩ := cf3_ BK149.out) | ((with_reducible refine gate_builtin (b := .append) (xs := #[.tmp 35, .tmp 37]) rfl ?_); at_builtin; refine Kd.R_append k85 (w0 := w) w.heap.size rfl (.tmp 35) (.tmp 37) 45 85 (.agg #[(.int .i64 0), (.int .i64 0), (.int .i64 0)]) 24 rfl Try.underlying45 info85 rfl (by decide) (by omega) u4 x4_1 (⟨(rd_T85 l0 (rd (rd_L3 t142 x13_1) 0)).f0, (rd_T85 l0 (rd (rd_L3 t142 x13_1) 0)).f1, t150⟩ : S85) [.int .i64 ((rd_T85 l0 (rd (rd_L3 t142 x13_1) 0)).f0), .int .i64 ((rd_T85 l0 (rd (rd_L3 t142 x13_1) 0)).f1), .int .i64 t150] (fun k_ => k_ ≠ gb149) (fun _ => False) rfl (by first | (go_simp; done) | (go_simp; rfl)) ?aP (fun _ hk => hk.elim) ?aF ?aO ?aB ?aS ?aL ?_; (case aP => exact k85_mkM _ _ _ (⟨(rd_T85 l0 (rd (rd_L3 t142 x13_1) 0)).f0, (rd_T85 l0 (rd (rd_L3 t142 x13_1) 0)).f1, t150⟩ : S85)); (case aB => exact hb_); (case aF => exact (fun k_ hk => Kd.freshB (g := gb149) (o := .cells #[.int .i64 ((rd_T85 l0 (rd (rd_L3 t142 x13_1) 0)).f0), .int .i64 ((rd_T85 l0 (rd (rd_L3 t142 x13_1) 0)).f1), .int .i64 t150] 85 (0, 0)) (by refine bq_ ?_; refine blk_put (cs := #[.int .i64 ((rd_T85 l0 (rd (rd_L3 t142 x13_1) 0)).f0), .int .i64 ((rd_T85 l0 (rd (rd_L3 t142 x13_1) 0)).f1), .int .i64 ((rd_T85 l0 (rd (rd_L3 t142 x13_1) 0)).f2)]) ?_ 2 _ rfl; refine bq_ ?_; exact BK149.out) k_ hk)); (case aO => exact (by refine rq_ ?_; exact Kd.R_mono (Kd.R_far (p := ⟨gb149, 2, none⟩) (Kd.R_mono HO_4.out (fun k_ hk => (⟨hk, hk.2⟩ : _ ∧ k_ ≠ gb149))) (fun _ hk => hk.2) (.int .i64 t150)) (fun _ hk => hk.1.2))); (case aS => exact (below_size hb_)); (case aL => have := LMc20.out; omega); intro v153 w25 ho hb hg hat; rw [← Ny152.out] at ho; replace HO_11 := am_ (Kd.S_over' (by refine sq_ ?_; exact (Kd.S_mono (Kd.S_far (p := ⟨gb149, 2, none⟩) (Kd.S_types HO_11.out BK149.out (by decide)) (fun _ hk => hk.2) (.int .i64 t150)) (fun _ h_ => h_.1))) (Kd.R_typed (by refine rq_ ?_; exact (Kd.R_mono (Kd.R_far (p := ⟨gb149, 2, none⟩) (Kd.R_mono HO_4.out (fun k_ hk => (⟨hk, hk.2⟩ : _ ∧ k_ ≠ gb149))) (fun _ hk => hk.2) (.int .i64 t150)) (fun _ h_ => h_.1)))) (by decide) hg); replace HL146_0 := am_ (Kd.R_over' (by refine rq_ ?_; exact (Kd.R_mono (Kd.R_far (p := ⟨gb149, 2, none⟩) (Kd.R_types HL146_0.out BK149.out (by decide)) (fun _ hk => hk.2) (.int .i64 t150)) (fun _ h_ => h_.1))) (Kd.R_typed (by refine rq_ ?_; exact (Kd.R_mono (Kd.R_far (p := ⟨gb149, 2, none⟩) (Kd.R_mono HO_4.out (fun k_ hk => (⟨hk, hk.2⟩ : _ ∧ k_ ≠ gb149))) (fun _ hk => hk.2) (.int .i64 t150)) (fun _ h_ => h_.1)))) (by decide) hg); replace BK149 := am_ (blk_grown (g := gb149) (o := .cells #[.int .i64 ((rd_T85 l0 (rd (rd_L3 t142 x13_1) 0)).f0), .int .i64 ((rd_T85 l0 (rd (rd_L3 t142 x13_1) 0)).f1), .int .i64 t150] 85 (0, 0)) (by refine bq_ ?_; refine blk_put (cs := #[.int .i64 ((rd_T85 l0 (rd (rd_L3 t142 x13_1) 0)).f0), .int .i64 ((rd_T85 l0 (rd (rd_L3 t142 x13_1) 0)).f1), .int .i64 ((rd_T85 l0 (rd (rd_L3 t142 x13_1) 0)).f2)]) ?_ 2 _ rfl; refine bq_ ?_; exact BK149.out) hg (Kd.R_away HO_4.out (fun _ hk => hk.2))); replace HB := am_ (hb); have HO154 := am_ (ho); clear HO_4; clear ho hb hg hat))
      go_roundg k1
      case measure => have := HK1.out; omega
      case rel => exact ⟨(y152), (wrap64 (x13_1 + 1)), rs_, H', ⟨by have := HK1.out; omega⟩, ⟨by refine rq_ ?_; exact Kd.R_mono HO154.out (fun _ hk => trivial)⟩, ⟨sq_ HO_11.out⟩, ⟨hb_⟩⟩
    ·replace c14 := Bool.eq_false_iff.mpr c14
     subst c14
     have H1 : (some (([] : List (S85)), 10)) = some (r1, r2) := by rw [if_neg (show ¬ (false = true) by decide)] at H; exact H
     clear H; have H := H1; clear H1; simp only [Option.some.injEq, Prod.mk.injEq] at H; obtain ⟨rfl, rfl⟩ := H; have p146 : 0 ≤ (x13_1 : Int) := of_decide_eq_true sm_; have q146 : x13_1 < (t142.length : Int) := of_decide_eq_true sm_; obtain ⟨ad146, A146_0, c146_0, e146, hx146_0, hl146_0, hi146_0⟩ := at_L3 (Kd.S_reads' HO_11.out).2.2 x13_1 p146 q146; cases e146; obtain ⟨ce146, hce146, hMe146, hcc146⟩ := Kd.S_get HO_11.out [] x13_1 p146 (by first | exact q146 | exact of_decide_eq_true sm_ | (have e_ := (Kd.S_reads' HO_11.out).1; omega)); obtain ⟨ve146_0, rfl, ge146_0⟩ := hMe146; have hv146_0 := hcc146 0 _ rfl; rw [Nat.add_zero, show ((Kd.slice 3 (Kd.int .i64))).sz = 1 from rfl, Nat.mul_one] at hv146_0; replace hv146_0 := Option.some.inj (hv146_0.symm.trans hx146_0); rw [hv146_0] at ge146_0; have HL146_0 := am_ (show Kd.R (Kd.int .i64) 3 _ _ _ _ (rd_L3 t142 x13_1) from ge146_0); clear hv146_0 ge146_0; clear hcc146 hce146; have HR146_0 := am_ hi146_0; have HC146_0 := am_ hl146_0; clear hi146_0 hl146_0; replace p146 := eq_true p146; replace q146 := eq_true q146; have p147 : 0 ≤ (0 : Int) := (by omega); have q147 : 0 < ((rd_L3 t142 x13_1).length : Int) := of_decide_eq_true sm_; obtain ⟨ad147, e147, hx147_0⟩ := Kd.at_int q2_ 0 p147 q147; cases e147; have qi147 : (0 < (rd_L3 t142 x13_1).length) = True := eq_true (by omega)
     (try rw [show ((0 : Int)).toNat = 0 from rfl] at hx147_0)
     (try rw [Addr.add_zero'] at hx147_0)
     replace p147 := eq_true p147; replace q147 := eq_true q147; have p148 := od_ (p := 0 ≤ ((rd (rd_L3 t142 x13_1) 0) : Int)); have q148 := od_ (p := (rd (rd_L3 t142 x13_1) 0) < (l0.length : Int)); obtain ⟨ad148, e148, hx148_0, hx148_1, hx148_2⟩ := tr3_ HB.out (at_T85 HR0.out (rd (rd_L3 t142 x13_1) 0) p148 q148); cases e148; replace p148 := eq_true p148; replace q148 := eq_true q148
     go_wp2_with (first | ((with_reducible refine gate_dst (N := 7) rfl ?_); refine bx_ 7 #[.int .i64 0, .int .i64 0, .int .i64 0] 85 ?_; intro gb149 hg w26 BK149 hb; replace HO_4 := am_ (Kd.R_below (Kd.R_elderB (rq_ HO_4.out) gb149 (Nat.le_of_eq hg.symm)) hb); replace HO_11 := am_ (Kd.S_below (sq_ HO_11.out) hb); replace HL146_0 := am_ (Kd.R_below (rq_ HL146_0.out) hb); replace HR146_0 := am_ (Kd.C_below q2_ hb); have GE149 := ge_ (w := w) hg; replace HB := hst_ hb; clear hb hg; obtain ⟨hcz27_0, hcz27_1, hcz27_2, hfz27_0, hfz27_1, hfz27_2⟩ := cf3_ BK149.out) | ((with_reducible refine gate_callee (f := 76) rfl ?_); refine goesL_ (some 26) rfl rfl Try.func76 (by kernel_rfl) rfl #[.slice (some ad148) l0.length c0, .slice (some ad147) (rd_L3 t142 x13_1).length c146_0, .func (.func 77) #[] #[]] rfl mt_ ?_; (with_reducible refine (api_Move_76.calls k1 _ _ l0 _ _ (rd_L3 t142 x13_1)  t150 false _ ?side1 ?side2 ?side3 ?side4 A13.out).mono ?_); (case side1 => exact Kd.C_below HR0.out hb_); (case side2 => exact HC0.out); (case side3 => repeat (first | exact ((Kd.R_reads' q0_).2.2) | (with_reducible refine Kd.C_alloc ?_ _) | (with_reducible refine Kd.C_drewN ?_ _) | (with_reducible refine Kd.C_drew ?_))); (case side4 => exact HC146_0.out); rintro e w28 ⟨rfl, hb⟩; refine ⟨_, rfl, ?_⟩; replace HO_4 := am_ (Kd.R_below q3_ hb); replace HO_11 := am_ (Kd.S_below q5_ hb); replace HR146_0 := am_ (Kd.C_below ((Kd.R_reads' q0_).2.2) hb); replace HL146_0 := am_ (Kd.R_below q0_ hb); replace BK149 := am_ (blk_below (g := gb149) (o := .cells #[.int .i64 ((rd_T85 l0 (rd (rd_L3 t142 x13_1) 0)).f0), .int .i64 ((rd_T85 l0 (rd (rd_L3 t142 x13_1) 0)).f1), .int .i64 ((rd_T85 l0 (rd (rd_L3 t142 x13_1) 0)).f2)] 85 (0, 0)) q4_ hb); replace HB := hst_ hb; (try clear hb); (try clear hb2); (try clear hk); (try clear hi); obtain ⟨hcz29_0, hcz29_1, hcz29_2, hfz29_0, hfz29_1, hfz29_2⟩ := cf3_ BK149.out))
     go_ret2
     exact ⟨_, er_, ni_, hb_⟩
   ·rw [if_neg c7] at H
    have c7b0 := decide_eq_false c7; clear c7; replace H := Option.bind_eq_some_iff.mp H; obtain ⟨t145, A300, H⟩ := H; replace H : (some (t145, 0)) = some (r1, r2) := H; have A30 := am_ A300; clear A300; simp only [Option.some.injEq, Prod.mk.injEq] at H; obtain ⟨rfl, rfl⟩ := H; obtain ⟨Ao31, co31, eo31⟩ := Kd.R_slice HO_4.out; subst eo31
    go_wp2_with (first | ((with_reducible refine gate_callee (f := 78) rfl ?_); refine goesL_ (some 41) rfl rfl Try.func78 (by kernel_rfl) rfl #[.slice Ao31 x4_1.length co31, .func (.func 79) #[] #[]] rfl mt_ ?_; (with_reducible refine (api_Move_78.calls (fun k_ => some k_ = (.slice Ao31 x4_1.length co31 : Value).ownBlock) (.slice Ao31 x4_1.length co31) x4_1  t145 w _ ?side1 ?side2 A30.out).mono ?_); (case side1 => repeat (first | (with_reducible first | exact HB.out | apply below_alloc | apply pw_below_drewN | apply below_drew1) | exact HB.out)); (case side2 => exact Kd.R_tight rfl HO_4.out); rintro e w32 ⟨rfl, hy0, hb, hkp⟩; refine ⟨_, rfl, ?_⟩; replace HO_11 := am_ (Kd.S_mono (ok' := fun k_ => True) (Kd.S_keptB ((Kd.S_apart' HO_11.out (Kd.R_typed HO_4.out) (by decide))) hkp (fun k_ hk_ hs_ => (hk_.2) hs_)) (fun k_ hk_ => trivial)); replace HO_4 := am_ (Kd.R_reok rfl hy0 (fun k_ e_ => HO_4.out.1 k_ e_)); replace HB := am_ (hb); (try clear hb); (try clear hkp); (try clear hy0)))
    go_ret2
    exact ⟨_, er_, by refine rq_ ?_; exact HO_4.out, hb_⟩
def ebbtideref01_Sum.l0 : Nat → List Int → Int → Int → Int → Option (Int × Bool)
 | 0, _, _, _, _ => none
 | k + 1, x0, x4, x5, x6 => if x6 < (x0.length : Int) then (if 0 ≤ x6 then (ebbtideref01_Sum.l0 k x0 (wrap64 (x4 + ((rd x0 x6) / 4294967296))) (wrap64 (x5 + (Go.bits .and .i64 (rd x0 x6) 4294967295))) (wrap64 (x6 + 1))) else (none)) else (if (wrap64 (x4 + (x5 / 4294967296))) < (-2147483648) then (some (0, false)) else (if (wrap64 (x4 + (x5 / 4294967296))) ≥ 2147483648 then (some (0, false)) else (some (wrap64 ((wrap64 ((wrap64 (x4 + (x5 / 4294967296))) * 4294967296)) + (Go.bits .and .i64 x5 4294967295)), true))))
def ebbtideref01_Sum.f (k : Nat) (l0 : List Int) : Option (Int × Bool) := ebbtideref01_Sum.l0 k l0 0 0 0
set_option maxHeartbeats 8000000 in
set_option maxRecDepth 100000 in
theorem ebbtideref01_Sum.calls (k : Nat) (A0 : Option Addr) (c0 : Nat) (l0 : List Int) (r1 : Int) (r2 : Bool) (w : World) (hr0 : Kd.C (Kd.int .i64) w A0 l0.length l0) (hc0 : l0.length ≤ c0) (h : ebbtideref01_Sum.f k l0 = some (r1, r2)) :
  Calls Try.prog 53 #[.slice A0 l0.length c0] w fun e w' => e = .returned (.tuple #[.int .i64 r1, .bool r2]) ∧ Drawn0 w w' := by
 have HR0 := am_ hr0; have HC0 := am_ hc0; clear hr0 hc0; have H : (ebbtideref01_Sum.l0 k l0 0 0 0) = some (r1, r2) := h; clear h; have H' := am_ H; clear H
 go_enter Try.func53, Try.ntmps53
 go_wp2
 go_loopg [4, 5, 6] k (fun kq v4 v5 v6 w' => ∃ (x4_1 : Int) (x5_1 : Int) (x6_1 : Int), v4 = .int .i64 x4_1 ∧ v5 = .int .i64 x5_1 ∧ v6 = .int .i64 x6_1 ∧ Aside0 (ebbtideref01_Sum.l0 kq l0 x4_1 x5_1 x6_1 = some (r1, r2)) ∧ Aside0 (kq ≤ k) ∧ Drawn0 w w')
 case atStart => exact ⟨(0), (0), (0), rs_, rs_, rs_, H', ⟨Nat.le_refl _⟩, by repeat (first | exact Drawn0.refl _ | apply Drawn0.step)⟩
 case round =>
  clear H'; obtain ⟨x4_1, x5_1, x6_1, rfl, rfl, rfl, HA, HK1, ⟨m1, rfl⟩⟩ := hrel
  cases gk with
  | zero => exact absurd HA.out (by simp [ebbtideref01_Sum.l0])
  | succ k1 =>
   have H := HA.out; clear HA; simp only [ebbtideref01_Sum.l0] at H
   by_cases c2 : x6_1 < (l0.length : Int)
   ·rw [if_pos c2] at H
    have c2b0 := decide_eq_true c2; clear c2
    replace H := ifn_ H; obtain ⟨c3, H⟩ := H
    have c3b0 := decide_eq_true c3; clear c3; have H' := am_ H; clear H; have p561 : 0 ≤ (x6_1 : Int) := of_decide_eq_true sm_; have q561 : x6_1 < (l0.length : Int) := of_decide_eq_true sm_; obtain ⟨ad561, e561, hx561_0⟩ := Kd.at_int HR0.out x6_1 p561 q561; cases e561; replace p561 := eq_true p561; replace q561 := eq_true q561; have p562 : 0 ≤ (x6_1 : Int) := of_decide_eq_true sm_; have q562 : x6_1 < (l0.length : Int) := of_decide_eq_true sm_; obtain ⟨ad562, e562, hx562_0⟩ := Kd.at_int HR0.out x6_1 p562 q562; obtain rfl : ad561 = ad562 := (by injection e562); replace p562 := eq_true p562; replace q562 := eq_true q562
    go_wp2
    go_roundg k1
    case measure => have := HK1.out; omega
    case rel => exact ⟨(wrap64 (x4_1 + ((rd l0 x6_1) / 4294967296))), (wrap64 (x5_1 + (Go.bits .and .i64 (rd l0 x6_1) 4294967295))), (wrap64 (x6_1 + 1)), rs_, rs_, rs_, H', ⟨by have := HK1.out; omega⟩, by repeat (first | exact Drawn0.refl _ | apply Drawn0.step)⟩
   ·rw [if_neg c2] at H
    have c2b0 := decide_eq_false c2; clear c2
    by_cases c4 : (wrap64 (x4_1 + (x5_1 / 4294967296))) < (-2147483648)
    ·rw [if_pos c4] at H
     have c4b0 := decide_eq_true c4; clear c4; simp only [Option.some.injEq, Prod.mk.injEq] at H; obtain ⟨rfl, rfl⟩ := H
     go_wp2
     go_ret2
     exact ⟨by first | rfl | (simp; done) | (simp [*]; done), by repeat (first | exact Drawn0.refl _ | apply Drawn0.step)⟩
    ·rw [if_neg c4] at H
     have c4b0 := decide_eq_false c4; clear c4
     by_cases c5 : (wrap64 (x4_1 + (x5_1 / 4294967296))) ≥ 2147483648
     ·rw [if_pos c5] at H
      have c5b0 := decide_eq_true c5; clear c5; simp only [Option.some.injEq, Prod.mk.injEq] at H; obtain ⟨rfl, rfl⟩ := H
      go_wp2
      go_ret2
      exact ⟨by first | rfl | (simp; done) | (simp [*]; done), by repeat (first | exact Drawn0.refl _ | apply Drawn0.step)⟩
     ·rw [if_neg c5] at H
      have c5b0 := decide_eq_false c5; clear c5; simp only [Option.some.injEq, Prod.mk.injEq] at H; obtain ⟨rfl, rfl⟩ := H
      go_wp2
      go_ret2
      exact ⟨by first | rfl | (simp; done) | (simp [*]; done), by repeat (first | exact Drawn0.refl _ | apply Drawn0.step)⟩
end Go.Proofs.Ytfhkkbpkajfdlaa.Q
end
section
namespace Go.Proofs.Ytfhkkbpkajfdlaa.P
open Go.RowKit Go.Proofs.Ytfhkkbpkajfdlaa.Q Go.Proofs.YtfhkkbpkajfdlaaW.PrintWords Go.Proofs.YtfhkkbpkajfdlaaW.PrintLast Go.Proofs.YtfhkkbpkajfdlaaW.PrintMore
theorem wi64 (n : Int) : IntKind.i64.wrap n = wrap64 n := by
 simp [IntKind.wrap, IntKind.bits, IntKind.signed, wrap64]; split <;> omega
theorem ofInt_nat (a : Int) : ((BitVec.ofInt 64 a).toNat : Int) = a % 18446744073709551616 := by
 rw [BitVec.toNat_ofInt]
 omega
theorem w64_id {n : Int} (h0 : -9223372036854775808 ≤ n) (h1 : n ≤ 9223372036854775807) : wrap64 n = n := by unfold wrap64; omega
theorem and_low {a : Int} (_h0 : -9223372036854775808 ≤ a) (_h1 : a ≤ 9223372036854775807) : Go.bits .and .i64 a 4294967295 = a % 4294967296 := by
 show IntKind.i64.wrap ((BitVec.ofInt 64 a &&& BitVec.ofInt 64 4294967295).toNat) = _
 have ha := ofInt_nat a
 have hm : (BitVec.ofInt 64 4294967295).toNat = 2 ^ 32 - 1 := by decide
 rw [wi64, BitVec.toNat_and, hm, Nat.and_two_pow_sub_one_eq_mod]
 unfold wrap64
 omega
def sh (l : List Int) : Int := (l.map fun x => x / 4294967296).sum
def sl (l : List Int) : Int := (l.map fun x => x % 4294967296).sum
theorem halves (l : List Int) : l.sum = sh l * 4294967296 + sl l := by
 unfold sh sl
 induction l with
 | nil => rfl
 | cons x r ih => simp only [List.map_cons, List.sum_cons, ih]; omega
theorem half_bd (l : List Int) (h : ∀ x ∈ l, -9223372036854775808 ≤ x ∧ x ≤ 9223372036854775807) : -2147483648 * (l.length : Int) ≤ sh l ∧ sh l ≤ 2147483647 * (l.length : Int) ∧ 0 ≤ sl l ∧ sl l ≤ 4294967295 * (l.length : Int) := by
 unfold sh sl
 induction l with
 | nil => simp
 | cons x r ih =>
  have := ih (fun y hy => h y (List.mem_cons_of_mem _ hy))
  have := h x List.mem_cons_self
  simp only [List.map_cons, List.sum_cons, List.length_cons]
  omega
theorem rsum_loop (l : List Int) (hl : l.length ≤ 1048576) (hw : ∀ x ∈ l, -9223372036854775808 ≤ x ∧ x ≤ 9223372036854775807) (d : Nat) : ∀ (j k : Nat), j + d = l.length → d < k →
 ebbtideref01_Sum.l0 k l (sh (l.take j)) (sl (l.take j)) (j : Int) = some (sumFit l.sum) := by
 induction d with
 | zero =>
  intro j k hj hk
  obtain ⟨k, rfl⟩ : ∃ m, k = m + 1 := ⟨k - 1, by omega⟩
  have hb := half_bd l hw
  have hs := halves l
  rw [ebbtideref01_Sum.l0, if_neg (by omega), List.take_of_length_le (by omega), and_low (by omega) (by omega), w64_id (n := sh l + sl l / 4294967296) (by omega) (by omega)]
  unfold sumFit
  by_cases c : -9223372036854775808 ≤ l.sum ∧ l.sum ≤ 9223372036854775807
  ·rw [if_pos c, if_neg (by omega), if_neg (by omega), w64_id (n := (sh l + sl l / 4294967296) * 4294967296) (by omega) (by omega), w64_id (by omega) (by omega)]
   exact congrArg some (Prod.ext (by show _ = _; simp only; omega) rfl)
  ·rw [if_neg c]
   by_cases c1 : sh l + sl l / 4294967296 < -2147483648
   ·rw [if_pos c1]
   ·rw [if_neg c1, if_pos (by omega)]
 | succ d ih =>
  intro j k hj hk
  obtain ⟨k, rfl⟩ : ∃ m, k = m + 1 := ⟨k - 1, by omega⟩
  have hlt : j < l.length := by omega
  have hx := hw l[j] (List.getElem_mem hlt)
  have hb := half_bd (l.take j) (fun x hx => hw x (List.mem_of_mem_take hx))
  have hlen : (l.take j).length = j := by rw [List.length_take]; omega
  rw [hlen] at hb
  have e1 : sh (l.take (j + 1)) = sh (l.take j) + l[j] / 4294967296 := by unfold sh; rw [List.take_succ_eq_append_getElem hlt, List.map_append, List.sum_append]; simp
  have e2 : sl (l.take (j + 1)) = sl (l.take j) + l[j] % 4294967296 := by unfold sl; rw [List.take_succ_eq_append_getElem hlt, List.map_append, List.sum_append]; simp
  rw [ebbtideref01_Sum.l0, if_pos (by omega), if_pos (by omega), rd_at hlt, and_low hx.1 hx.2, w64_id (n := sh (l.take j) + l[j] / 4294967296) (by omega) (by omega), w64_id (n := sl (l.take j) + l[j] % 4294967296) (by omega) (by omega), w64_id (n := (j : Int) + 1) (by omega) (by omega), ← e1, ← e2]
  exact ih (j + 1) k (by omega) (by omega)
theorem csum_eq {l : List Int} (hl : l.length ≤ 1152921504606846976) (hw : ∀ x ∈ l, -9223372036854775808 ≤ x ∧ x ≤ 9223372036854775807) : checked_Sum.f l = some (sumFit l.sum) := by
 unfold checked_Sum.f
 rw [if_pos]
 simp only [sumOk, Bool.and_eq_true, List.all_eq_true, decide_eq_true_eq]
 exact ⟨hw, hl⟩
theorem rsum_eq {l : List Int} (hl : l.length ≤ 1048576) (hw : ∀ x ∈ l, -9223372036854775808 ≤ x ∧ x ≤ 9223372036854775807) {k : Nat} (hk : l.length < k) : ebbtideref01_Sum.f k l = some (sumFit l.sum) :=
 rsum_loop l hl hw l.length 0 k (by omega) hk
end Go.Proofs.Ytfhkkbpkajfdlaa.P
end
section
namespace Go.Proofs.Ytfhkkbpkajfdlaa.P
def row {β : Type} (V : Nat) (g : Nat → β) : List β := (List.range V).map g
def mat (H V : Nat) (f : Nat → Nat → Int) : List (List Int) := row H (fun a => row V (f a))
section
variable {β : Type}
theorem row_length (V : Nat) (g : Nat → β) : (row V g).length = V := by simp [row]
theorem row_get? (V : Nat) (g : Nat → β) (v : Nat) (h : v < V) : (row V g)[v]? = some (g v) := by
 unfold row
 rw [List.getElem?_map, List.getElem?_range h]; rfl
theorem row_none (V : Nat) (g : Nat → β) (v : Nat) (h : V ≤ v) : (row V g)[v]? = none := List.getElem?_eq_none (by rw [row_length]; exact h)
theorem row_getD (V : Nat) (g : Nat → β) (v : Nat) (h : v < V) (d : β) : (row V g).getD v d = g v := by
 rw [List.getD_eq_getElem?_getD, row_get? V g v h]; rfl
theorem row_get (V : Nat) (g : Nat → β) (v : Nat) (h : v < (row V g).length) : (row V g)[v] = g v := by simp [row]
theorem row_ext {V : Nat} {g g' : Nat → β} (h : ∀ v, v < V → g v = g' v) : row V g = row V g' := by
 unfold row
 exact List.map_congr_left (fun v hv => h v (List.mem_range.1 hv))
theorem row_set (V : Nat) (g : Nat → β) (v : Nat) (x : β) : (row V g).set v x = row V (fun u => if u = v then x else g u) := by
 apply List.ext_getElem?
 intro i
 rcases Nat.lt_or_ge i V with hi | hi
 ·rw [List.getElem?_set, row_get? _ _ _ hi, row_length]
  by_cases e : v = i
  ·subst e; simp [hi, row_get? _ _ _ hi]
  ·rw [if_neg e, row_get? _ _ _ hi, if_neg (Ne.symm e)]
 ·rw [row_none _ _ _ hi, List.getElem?_eq_none (by rw [List.length_set, row_length]; exact hi)]
theorem row_snoc (V : Nat) (g : Nat → β) : row V g ++ [g V] = row (V + 1) g := by
 unfold row
 rw [List.range_succ, List.map_append]; rfl
end
theorem mat_length (H V : Nat) (f : Nat → Nat → Int) : (mat H V f).length = H := row_length _ _
theorem mat_ext {H V : Nat} {f f' : Nat → Nat → Int} (h : ∀ a v, a < H → v < V → f a v = f' a v) : mat H V f = mat H V f' := row_ext fun a ha => row_ext fun v hv => h a v ha hv
theorem mat_set (H V : Nat) (f : Nat → Nat → Int) (a : Nat) (g : Nat → Int) : (mat H V f).set a (row V g) = mat H V (fun u => if u = a then g else f u) := by
 unfold mat
 rw [row_set]
 refine row_ext fun u _ => ?_
 by_cases e : u = a
 ·simp only [e, if_true]
 ·simp only [e, if_false]
theorem mat_put (H V : Nat) (f : Nat → Nat → Int) (a v : Nat) (x : Int) : (mat H V f).set a ((row V (f a)).set v x) = mat H V (fun u w => if u = a ∧ w = v then x else f u w) := by
 rw [row_set, mat_set]
 refine mat_ext fun u w _ _ => ?_
 by_cases e : u = a
 ·subst e
  by_cases e2 : w = v <;> simp [e2]
 ·simp [e]
theorem row_replicate {β : Type} (V : Nat) (x : β) : List.replicate V x = row V (fun _ => x) := by
 unfold row
 apply List.ext_getElem?
 intro i
 rcases Nat.lt_or_ge i V with hi | hi
 ·rw [List.getElem?_replicate, if_pos hi, List.getElem?_map, List.getElem?_range hi]; rfl
 ·rw [List.getElem?_replicate, if_neg (by omega), List.getElem?_eq_none (by simpa using hi)]
theorem sorted_ext {α : Type} {lt : α → α → Prop} (irr : ∀ x, ¬ lt x x) (asym : ∀ x y, lt x y → ¬ lt y x) : ∀ {a b : List α}, a.Pairwise lt → b.Pairwise lt → (∀ x, x ∈ a ↔ x ∈ b) → a = b
 | [], [], _, _, _ => rfl
 | [], y :: b, _, _, h => absurd ((h y).2 List.mem_cons_self) (by simp)
 | x :: a, [], _, _, h => absurd ((h x).1 List.mem_cons_self) (by simp)
 | x :: a, y :: b, ha, hb, h => by
  rw [List.pairwise_cons] at ha hb
  have hxy : x = y := by
   rcases List.mem_cons.1 ((h x).1 List.mem_cons_self) with e | hx
   ·exact e
   ·rcases List.mem_cons.1 ((h y).2 List.mem_cons_self) with e | hy
    ·exact e.symm
    ·exact absurd (ha.1 y hy) (asym _ _ (hb.1 x hx))
  subst hxy
  rw [sorted_ext irr asym ha.2 hb.2 (fun z => by
   constructor
   ·intro hz
    rcases List.mem_cons.1 ((h z).1 (List.mem_cons_of_mem _ hz)) with e | hz'
    ·exact absurd (ha.1 z hz) (by rw [e]; exact irr _)
    ·exact hz'
   ·intro hz
    rcases List.mem_cons.1 ((h z).2 (List.mem_cons_of_mem _ hz)) with e | hz'
    ·exact absurd (hb.1 z hz) (by rw [e]; exact irr _)
    ·exact hz')]
section
variable {α κ : Type} [DecidableEq κ]
def once : List κ → List κ → List κ
 | acc, [] => acc
 | acc, k :: r => once (if k ∈ acc then acc else acc ++ [k]) r
def keysOf (key : α → κ) (l : List α) : List κ := once [] (l.map key)
theorem once_append (acc a b : List κ) : once acc (a ++ b) = once (once acc a) b := by
 induction a generalizing acc with
 | nil => rfl
 | cons x a ih => simp only [List.cons_append, once]; exact ih _
theorem keysOf_snoc (key : α → κ) (l : List α) (x : α) : keysOf key (l ++ [x]) = if key x ∈ keysOf key l then keysOf key l else keysOf key l ++ [key x] := by
 unfold keysOf
 rw [List.map_append, once_append]
 rfl
theorem mem_once (acc l : List κ) (k : κ) : k ∈ once acc l ↔ k ∈ acc ∨ k ∈ l := by
 induction l generalizing acc with
 | nil => simp [once]
 | cons x l ih =>
  simp only [once]
  rw [ih]
  split
  ·rename_i h
   constructor
   ·rintro (h1 | h1)
    ·exact .inl h1
    ·exact .inr (List.mem_cons_of_mem _ h1)
   ·rintro (h1 | h1)
    ·exact .inl h1
    ·rcases List.mem_cons.1 h1 with rfl | h2
     ·exact .inl h
     ·exact .inr h2
  ·constructor
   ·rintro (h1 | h1)
    ·rcases List.mem_append.1 h1 with h1 | h1
     ·exact .inl h1
     ·rw [List.mem_singleton.1 h1]; exact .inr List.mem_cons_self
    ·exact .inr (List.mem_cons_of_mem _ h1)
   ·rintro (h1 | h1)
    ·exact .inl (List.mem_append_left _ h1)
    ·rcases List.mem_cons.1 h1 with rfl | h2
     ·exact .inl (List.mem_append_right _ (List.mem_singleton.2 rfl))
     ·exact .inr h2
theorem nodup_once (acc l : List κ) (h : acc.Nodup) : (once acc l).Nodup := by
 induction l generalizing acc with
 | nil => exact h
 | cons x l ih =>
  simp only [once]
  refine ih _ ?_
  split
  ·exact h
  ·rename_i hx
   rw [List.nodup_append]
   refine ⟨h, by simp, ?_⟩
   intro a ha b hb
   rw [List.mem_singleton.1 hb]
   rintro rfl
   exact hx ha
theorem mem_keysOf (key : α → κ) (l : List α) (k : κ) : k ∈ keysOf key l ↔ ∃ x ∈ l, key x = k := by
 unfold keysOf
 rw [mem_once]
 simp [eq_comm]
theorem once_length_le (acc l : List κ) : (once acc l).length ≤ acc.length + l.length := by
 induction l generalizing acc with
 | nil => simp [once]
 | cons x l ih =>
  simp only [once]
  refine Nat.le_trans (ih _) ?_
  split
  ·simp only [List.length_cons]; omega
  ·simp only [List.length_append, List.length_cons, List.length_nil]; omega
theorem keysOf_length_le (key : α → κ) (l : List α) : (keysOf key l).length ≤ l.length := by
 have := once_length_le [] (l.map key)
 rw [List.length_map] at this
 unfold keysOf
 simpa using this
theorem nodup_keysOf (key : α → κ) (l : List α) : (keysOf key l).Nodup := nodup_once _ _ List.nodup_nil
def idxFrom (key : α → κ) (k : κ) : Nat → List α → List Int
 | _, [] => []
 | i, x :: r => if key x = k then (i : Int) :: idxFrom key k (i + 1) r else idxFrom key k (i + 1) r
def idxs (key : α → κ) (l : List α) (k : κ) : List Int := idxFrom key k 0 l
theorem idxFrom_append (key : α → κ) (k : κ) (i : Nat) (a b : List α) : idxFrom key k i (a ++ b) = idxFrom key k i a ++ idxFrom key k (i + a.length) b := by
 induction a generalizing i with
 | nil => simp [idxFrom]
 | cons x a ih =>
  simp only [List.cons_append, idxFrom, ih, List.length_cons]
  rw [show i + 1 + a.length = i + (a.length + 1) by omega]
  split <;> simp
theorem idxs_snoc (key : α → κ) (l : List α) (x : α) (k : κ) : idxs key (l ++ [x]) k = if key x = k then idxs key l k ++ [(l.length : Int)] else idxs key l k := by
 unfold idxs
 rw [idxFrom_append]
 simp only [idxFrom, Nat.zero_add]
 split <;> simp
theorem idxs_fresh (key : α → κ) (l : List α) (k : κ) (h : ∀ x ∈ l, key x ≠ k) : idxs key l k = [] := by
 suffices H : ∀ (l : List α) (i : Nat), (∀ x ∈ l, key x ≠ k) → idxFrom key k i l = [] from H l 0 h
 intro l
 induction l with
 | nil => intro i _; rfl
 | cons x l ih =>
  intro i h
  rw [idxFrom, if_neg (h x List.mem_cons_self)]
  exact ih _ (fun y hy => h y (List.mem_cons_of_mem _ hy))
theorem idxFrom_bd (key : α → κ) (k : κ) (l : List α) (i : Nat) : ∀ j ∈ idxFrom key k i l, (i : Int) ≤ j ∧ j < (i : Int) + (l.length : Int) := by
 induction l generalizing i with
 | nil => intro j hj; cases hj
 | cons x l ih =>
  intro j hj
  rw [idxFrom] at hj
  simp only [List.length_cons]
  split at hj
  ·rcases List.mem_cons.1 hj with rfl | hj
   ·omega
   ·have := ih (i + 1) j hj; omega
  ·have := ih (i + 1) j hj; omega
theorem idxs_bd (key : α → κ) (l : List α) (k : κ) : ∀ j ∈ idxs key l k, 0 ≤ j ∧ j < (l.length : Int) := by
 intro j hj
 have := idxFrom_bd key k l 0 j hj
 omega
theorem idxFrom_key (key : α → κ) (k : κ) (d : α) (pre l : List α) : ∀ j ∈ idxFrom key k pre.length l, key ((pre ++ l).getD j.toNat d) = k := by
 induction l generalizing pre with
 | nil => intro j hj; cases hj
 | cons x l ih =>
  intro j hj
  have e : pre ++ x :: l = (pre ++ [x]) ++ l := by simp
  have hi : ∀ j ∈ idxFrom key k (pre.length + 1) l, key ((pre ++ x :: l).getD j.toNat d) = k := by
   intro j hj
   rw [e]
   exact ih (pre ++ [x]) j (by simpa using hj)
  rw [idxFrom] at hj
  split at hj
  ·rename_i hk
   rcases List.mem_cons.1 hj with rfl | hj
   ·simp [List.getD_eq_getElem?_getD, hk]
   ·exact hi j hj
  ·exact hi j hj
theorem idxs_key (key : α → κ) (l : List α) (k : κ) (d : α) : ∀ j ∈ idxs key l k, key (l.getD j.toNat d) = k := fun j hj => idxFrom_key key k d [] l j hj
theorem idxFrom_length (key : α → κ) (k : κ) (l : List α) (i : Nat) : (idxFrom key k i l).length = (l.filter (fun x => decide (key x = k))).length := by
 induction l generalizing i with
 | nil => rfl
 | cons x l ih =>
  rw [idxFrom, List.filter_cons]
  by_cases h : key x = k
  ·simp [h, ih]
  ·simp [h, ih]
theorem idxs_length_le (key : α → κ) (l : List α) (k : κ) : (idxs key l k).length ≤ l.length := by
 unfold idxs
 rw [idxFrom_length]
 exact List.length_filter_le _ _
theorem idxs_ne (key : α → κ) (l : List α) (k : κ) (h : ∃ x ∈ l, key x = k) : idxs key l k ≠ [] := by
 obtain ⟨x, hx, hk⟩ := h
 intro e
 have := idxFrom_length key k l 0
 rw [show idxFrom key k 0 l = [] from e] at this
 have h2 : x ∈ l.filter (fun x => decide (key x = k)) := by simp [hx, hk]
 rw [List.eq_nil_of_length_eq_zero this.symm] at h2
 cases h2
def sumK (key : α → κ) (val : α → Int) (l : List α) (k : κ) : Int := ((l.filter (fun x => decide (key x = k))).map val).sum
theorem sumK_cons (key : α → κ) (val : α → Int) (x : α) (l : List α) (k : κ) : sumK key val (x :: l) k = (if key x = k then val x else 0) + sumK key val l k := by
 unfold sumK
 rw [List.filter_cons]
 by_cases h : key x = k
 ·simp [h]
 ·simp [h]
theorem idxFrom_vals (key : α → κ) (val : α → Int) (k : κ) (d : α) (pre l : List α) : (idxFrom key k pre.length l).map (fun j => val ((pre ++ l).getD j.toNat d)) = (l.filter (fun x => decide (key x = k))).map val := by
 induction l generalizing pre with
 | nil => rfl
 | cons x l ih =>
  have e : pre ++ x :: l = (pre ++ [x]) ++ l := by simp
  have hi := ih (pre ++ [x])
  rw [List.length_append, List.length_singleton, ← e] at hi
  rw [idxFrom, List.filter_cons]
  by_cases h : key x = k
  ·simp only [h, if_true, decide_true, List.map_cons, hi]
   congr 1
   simp [List.getD_eq_getElem?_getD]
  ·simp only [h, if_false, decide_false, hi, Bool.false_eq_true]
theorem idxs_vals (key : α → κ) (val : α → Int) (l : List α) (k : κ) (d : α) : (idxs key l k).map (fun j => val (l.getD j.toNat d)) = (l.filter (fun x => decide (key x = k))).map val := idxFrom_vals key val k d [] l
end
section
variable {α κ : Type} [DecidableEq κ]
def groups (key : α → κ) (l : List α) : List (List Int) := (keysOf key l).map (idxs key l)
theorem groups_length (key : α → κ) (l : List α) : (groups key l).length = (keysOf key l).length := by simp [groups]
omit [DecidableEq κ] in
theorem nodup_at {l : List κ} (h : l.Nodup) {i j : Nat} {k : κ} (hi : l[i]? = some k) (hj : l[j]? = some k) : i = j := by
 obtain ⟨hi1, hi2⟩ := List.getElem?_eq_some_iff.1 hi
 obtain ⟨hj1, hj2⟩ := List.getElem?_eq_some_iff.1 hj
 rcases Nat.lt_trichotomy i j with hlt | rfl | hlt
 ·exact absurd (hi2.trans hj2.symm) (List.pairwise_iff_getElem.1 h i j hi1 hj1 hlt)
 ·rfl
 ·exact absurd (hj2.trans hi2.symm) (List.pairwise_iff_getElem.1 h j i hj1 hi1 hlt)
theorem groups_old (key : α → κ) (p : List α) (x : α) (j : Nat) (hj : (keysOf key p)[j]? = some (key x)) :
 (groups key p).set j (idxs key p (key x) ++ [(p.length : Int)]) = groups key (p ++ [x]) := by
 have hm : key x ∈ keysOf key p := List.mem_of_getElem? hj
 unfold groups
 rw [keysOf_snoc, if_pos hm]
 apply List.ext_getElem?
 intro i
 rw [List.getElem?_set, List.getElem?_map, List.getElem?_map, List.length_map]
 by_cases e : j = i
 ·subst e
  have hlt := (List.getElem?_eq_some_iff.1 hj).1
  rw [if_pos rfl, if_pos hlt, hj]
  simp only [Option.map_some]
  rw [idxs_snoc, if_pos rfl]
 ·rw [if_neg e]
  cases hi : (keysOf key p)[i]? with
  | none => rfl
  | some k =>
   simp only [Option.map_some]
   rw [idxs_snoc, if_neg]
   rintro rfl
   exact e (nodup_at (nodup_keysOf key p) hj hi)
theorem groups_new (key : α → κ) (p : List α) (x : α) (h : key x ∉ keysOf key p) : groups key p ++ [[(p.length : Int)]] = groups key (p ++ [x]) := by
 unfold groups
 rw [keysOf_snoc, if_neg h, List.map_append, List.map_singleton]
 congr 1
 ·apply List.map_congr_left
  intro k hk
  rw [idxs_snoc, if_neg]
  rintro rfl
  exact h hk
 ·rw [idxs_snoc, if_pos rfl, idxs_fresh key p (key x) (fun y hy e => h ((mem_keysOf key p _).2 ⟨y, hy, e⟩))]
  rfl
theorem groups_get (key : α → κ) (p : List α) (j : Nat) (k : κ) (hj : (keysOf key p)[j]? = some k) : (groups key p)[j]? = some (idxs key p k) := by
 unfold groups
 rw [List.getElem?_map, hj]; rfl
end
end Go.Proofs.Ytfhkkbpkajfdlaa.P
end
section
namespace Go.Proofs.Ytfhkkbpkajfdlaa.P
open Go.RowKit Go.Proofs.Ytfhkkbpkajfdlaa.Q Go.Proofs.YtfhkkbpkajfdlaaW.PrintWords
theorem wf_i64 {n : Int} (h0 : -9223372036854775808 ≤ n) (h1 : n ≤ 9223372036854775807) : (Lit.int .i64 n).wf = true := by
 simp [Lit.wf, IntKind.min, IntKind.max, IntKind.bits, IntKind.signed]
 omega
def keyM (x : S85) : (Int × Int) := (x.f0, x.f1)
def LogOkM (es : List ((Int × Int) × Int)) (p : List S85) : Prop := (∀ k n, lookM es k = some n ↔ ∃ j : Nat, (keysOf keyM p)[j]? = some k ∧ n = (j : Int)) ∧ es.length ≤ p.length
theorem logOkM_nil : LogOkM [] [] := ⟨fun k n => by simp [lookM, keysOf, once], Nat.le_refl _⟩
theorem gatherM_loop (l : List S85) (hlen : l.length ≤ 1048576) (hw : ∀ x ∈ l, good2 (keyM x) = true) (d : Nat) : ∀ (i k : Nat) (es : List ((Int × Int) × Int)), i + d = l.length → d < k → LogOkM es (l.take i) →
 api_Move_2_int.l0 k (groups keyM (l.take i)) es l (l.length : Int) (i : Int) = some (groups keyM l) := by
 induction d with
 | zero =>
  intro i k es hi hk hes
  obtain ⟨k, rfl⟩ : ∃ m, k = m + 1 := ⟨k - 1, by omega⟩
  rw [api_Move_2_int.l0, if_neg (by omega), List.take_of_length_le (by omega)]
 | succ d ih =>
  intro i k es hi hk hes
  obtain ⟨k, rfl⟩ : ∃ m, k = m + 1 := ⟨k - 1, by omega⟩
  have hlt : i < l.length := by omega
  have hr : rd_T85 l (i : Int) = l[i] := by unfold rd_T85; simp [List.getD_eq_getElem?_getD, List.getElem?_eq_getElem hlt]
  have hgood := hw l[i] (List.getElem_mem hlt)
  have htl : (l.take i).length = i := by rw [List.length_take]; omega
  have hkl : (keysOf keyM (l.take i)).length ≤ i := by
   have h1 := keysOf_length_le keyM (l.take i)
   omega
  have hstep : l.take (i + 1) = l.take i ++ [l[i]] := List.take_succ_eq_append_getElem hlt
  have hwrap : wrap64 ((i : Int) + 1) = ((i + 1 : Nat) : Int) := by unfold wrap64; omega
  have hlook : lookF good2 es (keyM l[i]) = some ((lookM es (keyM l[i])).getD 0, (lookM es (keyM l[i])).isSome) := by unfold lookF; rw [if_pos hgood]
  rw [api_Move_2_int.l0, if_pos (by omega), if_pos (by omega), if_pos (by omega), hr]
  simp only [table_Moves_1.f, Option.bind_some]
  rw [show ((l[i].f0, l[i].f1) : (Int × Int)) = keyM l[i] from rfl, hlook]
  simp only [Option.bind_some]
  cases hL : lookM es (keyM l[i]) with
  | some n =>
   obtain ⟨j, hj, rfl⟩ := (hes.1 _ _).1 hL
   have hjl := (List.getElem?_eq_some_iff.1 hj).1
   have hrd : rd_L3 (groups keyM (l.take i)) (j : Int) = idxs keyM (l.take i) (keyM l[i]) := by
    unfold rd_L3
    rw [Int.toNat_natCast, List.getD_eq_getElem?_getD, groups_get _ _ _ _ hj]; rfl
   have hle := idxs_length_le keyM (l.take i) (keyM l[i])
   simp only [Option.getD_some, Option.isSome_some, if_true]
   rw [if_pos (by omega), if_pos (by rw [groups_length]; omega), hrd, if_pos (by omega), Int.toNat_natCast, hwrap]
   have e := groups_old keyM (l.take i) l[i] j hj
   rw [htl] at e
   rw [e, ← hstep]
   refine ih (i + 1) k es (by omega) (by omega) ⟨fun k' n' => ?_, by rw [hstep, List.length_append]; have := hes.2; omega⟩
   rw [hstep, keysOf_snoc, if_pos (List.mem_of_getElem? hj)]
   exact hes.1 k' n'
  | none =>
   have hno : keyM l[i] ∉ keysOf keyM (l.take i) := by
    intro hm
    obtain ⟨j, hj⟩ := List.getElem?_of_mem hm
    have := (hes.1 (keyM l[i]) (j : Int)).2 ⟨j, hj, rfl⟩
    rw [hL] at this
    cases this
   have hput : putF good2 es (keyM l[i]) ((groups keyM (l.take i)).length : Int) = some (es ++ [(keyM l[i], ((groups keyM (l.take i)).length : Int))]) := by
    have hwf : (Lit.int .i64 ((groups keyM (l.take i)).length : Int)).wf = true := wf_i64 (by omega) (by rw [groups_length]; omega)
    unfold putF
    rw [if_pos ⟨hgood, hwf, by have := hes.2; omega⟩]
   have hgl : ((groups keyM (l.take i)).length : Int) = ((keysOf keyM (l.take i)).length : Int) := by rw [groups_length]
   have hrd : rd_L3 (groups keyM (l.take i) ++ [[]]) ((groups keyM (l.take i)).length : Int) = [] := by
    unfold rd_L3
    rw [Int.toNat_natCast, List.getD_eq_getElem?_getD, List.getElem?_append_right (Nat.le_refl _)]; simp
   simp only [Option.getD_none, Option.isSome_none, Bool.false_eq_true, if_false]
   rw [hput]
   simp only [Option.bind_some]
   rw [if_pos (by rw [groups_length]; omega), if_pos (by omega), if_pos (by rw [List.length_append, List.length_singleton]; omega), hrd, if_pos (by decide), Int.toNat_natCast, hwrap]
   have e : (groups keyM (l.take i) ++ [[]]).set (groups keyM (l.take i)).length ([] ++ [(i : Int)]) = groups keyM (l.take (i + 1)) := by
    rw [hstep, ← groups_new _ _ _ hno, htl, List.set_append_right _ _ (Nat.le_refl _)]
    simp
   rw [e]
   refine ih (i + 1) k _ (by omega) (by omega) ⟨fun k' n' => ?_, by rw [hstep, List.length_append, List.length_append]; have := hes.2; simp; omega⟩
   rw [hstep, keysOf_snoc, if_neg hno, lookM_snoc, groups_length]
   by_cases ek : keyM l[i] = k'
   ·rw [if_pos ek]
    subst ek
    constructor
    ·intro h
     injection h with h
     exact ⟨(keysOf keyM (l.take i)).length, by simp, h.symm⟩
    ·rintro ⟨j, hj, rfl⟩
     rcases Nat.lt_trichotomy j (keysOf keyM (l.take i)).length with h1 | h1 | h1
     ·rw [List.getElem?_append_left h1] at hj
      exact absurd (List.mem_of_getElem? hj) hno
     ·rw [h1]
     ·rw [List.getElem?_eq_none (by rw [List.length_append, List.length_singleton]; omega)] at hj
      cases hj
   ·rw [if_neg ek, hes.1]
    constructor
    ·rintro ⟨j, hj, rfl⟩
     exact ⟨j, by rw [List.getElem?_append_left (List.getElem?_eq_some_iff.1 hj).1]; exact hj, rfl⟩
    ·rintro ⟨j, hj, rfl⟩
     rcases Nat.lt_trichotomy j (keysOf keyM (l.take i)).length with h1 | h1 | h1
     ·rw [List.getElem?_append_left h1] at hj
      exact ⟨j, hj, rfl⟩
     ·rw [h1] at hj
      simp at hj
      exact absurd hj ek
     ·rw [List.getElem?_eq_none (by rw [List.length_append, List.length_singleton]; omega)] at hj
      cases hj
theorem gatherM_eq (l : List S85) (hlen : l.length ≤ 1048576) (hw : ∀ x ∈ l, good2 (keyM x) = true) {k : Nat} (hk : l.length < k) : api_Move_2_int.f k l = some (groups keyM l) := by
 have h := gatherM_loop l hlen hw l.length 0 k [] (by omega) hk logOkM_nil
 exact h
def mlt (a b : S85) : Prop := a.f1 < b.f1 ∨ a.f1 = b.f1 ∧ a.f0 < b.f0
instance (a b : S85) : Decidable (mlt a b) := by unfold mlt; exact inferInstance
def msum (l : List S85) (k : Int × Int) : Int := sumK keyM S85.f2 l k
def fits (n : Int) : Prop := -9223372036854775808 ≤ n ∧ n ≤ 9223372036854775807
instance (n : Int) : Decidable (fits n) := by unfold fits; exact inferInstance
def AllFit (l : List S85) : Prop := ∀ k ∈ keysOf keyM l, fits (msum l k)
instance (l : List S85) : Decidable (AllFit l) := by unfold AllFit; exact inferInstance
structure IsMerge (l r : List S85) : Prop where
 sorted : r.Pairwise mlt
 mem : ∀ m, m ∈ r ↔ keyM m ∈ keysOf keyM l ∧ m.f2 = msum l (keyM m) ∧ m.f2 ≠ 0
theorem mlt_irrefl (x : S85) : ¬ mlt x x := by unfold mlt; omega
theorem mlt_asym (x y : S85) (h : mlt x y) : ¬ mlt y x := by unfold mlt at *; omega
theorem isMerge_unique {l r r' : List S85} (h : IsMerge l r) (h' : IsMerge l r') : r = r' :=
 sorted_ext mlt_irrefl mlt_asym h.sorted h'.sorted (fun x => by rw [h.mem, h'.mem])
theorem s85_ext {x y : S85} (h0 : x.f0 = y.f0) (h1 : x.f1 = y.f1) (h2 : x.f2 = y.f2) : x = y := by
 cases x; cases y; simp_all
theorem isMerge_congr {l l' r : List S85} (hk : ∀ k, k ∈ keysOf keyM l ↔ k ∈ keysOf keyM l') (hs : ∀ k, k ∈ keysOf keyM l → msum l k = msum l' k) (h : IsMerge l r) : IsMerge l' r :=
 ⟨h.sorted, fun m => by
  rw [h.mem, hk]
  constructor
  ·rintro ⟨h1, h2, h3⟩; exact ⟨h1, by rw [h2, hs _ ((hk _).2 h1)], h3⟩
  ·rintro ⟨h1, h2, h3⟩; exact ⟨h1, by rw [h2, hs _ ((hk _).2 h1)], h3⟩⟩
theorem sorted_keys {r : List S85} (h : r.Pairwise mlt) : (r.map keyM).Nodup := by
 rw [List.Nodup, List.pairwise_map]
 refine h.imp ?_
 intro a b hab e
 unfold keyM at e
 have e0 := congrArg Prod.fst e
 have e1 := congrArg Prod.snd e
 simp only at e0 e1
 unfold mlt at hab
 omega
theorem msum_nodup {r : List S85} (h : (r.map keyM).Nodup) {m : S85} (hm : m ∈ r) : msum r (keyM m) = m.f2 := by
 induction r with
 | nil => cases hm
 | cons x r ih =>
  rw [List.map_cons, List.nodup_cons] at h
  unfold msum
  rw [sumK_cons]
  rcases List.mem_cons.1 hm with rfl | hm'
  ·have hz : ∀ (r : List S85) (k : Int × Int), k ∉ r.map keyM → sumK keyM S85.f2 r k = 0 := by
    intro r k hk
    unfold sumK
    rw [List.filter_eq_nil_iff.2 (fun y hy => by
     simp only [decide_eq_true_eq]
     intro e
     exact hk (List.mem_map.2 ⟨y, hy, e⟩))]
    rfl
   rw [hz r _ h.1]
   simp
  ·have hne : keyM x ≠ keyM m := fun e => h.1 (e ▸ List.mem_map_of_mem hm')
   rw [if_neg hne, Int.zero_add]
   exact ih h.2 hm'
def wsum (c : Int × Int → Int) (l : List S85) : Int := (l.map fun x => c (keyM x) * x.f2).sum
theorem wsum_cons (c : Int × Int → Int) (x : S85) (l : List S85) : wsum c (x :: l) = c (keyM x) * x.f2 + wsum c l := by unfold wsum; simp
theorem wsum_append (c : Int × Int → Int) (a b : List S85) : wsum c (a ++ b) = wsum c a + wsum c b := by unfold wsum; simp
theorem wsum_nil (c : Int × Int → Int) : wsum c [] = 0 := rfl
theorem sum_zero {α : Type} (K : List α) (f : α → Int) (h : ∀ k ∈ K, f k = 0) : (K.map f).sum = 0 := by
 induction K with
 | nil => rfl
 | cons x K ih => rw [List.map_cons, List.sum_cons, h x List.mem_cons_self, ih (fun k hk => h k (List.mem_cons_of_mem _ hk))]; rfl
theorem sum_add {α : Type} (K : List α) (f g : α → Int) : (K.map fun k => f k + g k).sum = (K.map f).sum + (K.map g).sum := by
 induction K with
 | nil => rfl
 | cons x K ih => simp only [List.map_cons, List.sum_cons, ih]; omega
theorem wsum_congr {c c' : Int × Int → Int} {l : List S85} (h : ∀ x ∈ l, c (keyM x) = c' (keyM x)) : wsum c l = wsum c' l := by
 unfold wsum
 congr 1
 exact List.map_congr_left fun x hx => by rw [h x hx]
theorem wsum_add (c c' : Int × Int → Int) (l : List S85) : wsum (fun k => c k + c' k) l = wsum c l + wsum c' l := by
 unfold wsum
 rw [← sum_add]
 congr 1
 exact List.map_congr_left fun x _ => by rw [Int.add_mul]
theorem wsum_zero {c : Int × Int → Int} {l : List S85} (h : ∀ x ∈ l, c (keyM x) = 0) : wsum c l = 0 := by
 unfold wsum
 exact sum_zero _ _ fun x hx => by rw [h x hx, Int.zero_mul]
theorem wsum_bd {c : Int × Int → Int} {l : List S85} {B : Int} (hB : 0 ≤ B) (hc : ∀ x ∈ l, -1 ≤ c (keyM x) ∧ c (keyM x) ≤ 1) (hn : ∀ x ∈ l, 0 ≤ x.f2 ∧ x.f2 ≤ B) : -(B * l.length) ≤ wsum c l ∧ wsum c l ≤ B * l.length := by
 induction l with
 | nil => simp [wsum_nil]
 | cons x l ih =>
  have hi := ih (fun y hy => hc y (List.mem_cons_of_mem _ hy)) (fun y hy => hn y (List.mem_cons_of_mem _ hy))
  have h1 := hc x List.mem_cons_self
  have h2 := hn x List.mem_cons_self
  rw [wsum_cons, List.length_cons]
  have e : B * ((l.length + 1 : Nat) : Int) = B * (l.length : Int) + B := by rw [Int.natCast_add, Int.mul_add]; simp
  rw [e]
  have h3 : c (keyM x) = -1 ∨ c (keyM x) = 0 ∨ c (keyM x) = 1 := by omega
  rcases h3 with h3 | h3 | h3 <;> rw [h3] <;> omega
end Go.Proofs.Ytfhkkbpkajfdlaa.P
end
section
namespace Go.Proofs.Ytfhkkbpkajfdlaa.P
open Go.Sort hiding rd
open Go.RowKit Go.Proofs.Ytfhkkbpkajfdlaa.Q Go.Proofs.YtfhkkbpkajfdlaaW.PrintWords Go.Proofs.YtfhkkbpkajfdlaaW.PrintLast Go.Proofs.YtfhkkbpkajfdlaaW.PrintMore
theorem ev_const {α : Type} {g : Nat → Option α} {r : α} (h : ∀ k, g (k + 1) = some r) : Ev g r := Ev.step h (Ev.now r)
def OkM (x : S85) : Prop := fits x.f0 ∧ fits x.f1 ∧ fits x.f2
theorem w1 {i : Nat} (h : i ≤ 4611686018427387904) : wrap64 ((i : Int) + 1) = ((i + 1 : Nat) : Int) := by unfold wrap64; omega
theorem rd_row {V : Nat} {g : Nat → Int} {i : Nat} (h : i < V) : rd (row V g) (i : Int) = g i := by unfold rd; rw [Int.toNat_natCast, row_getD _ _ _ h]
theorem rd_of {l : List Int} {i : Nat} (h : i < l.length) : rd l (i : Int) = l[i] := by unfold rd; simp [List.getD_eq_getElem?_getD, List.getElem?_eq_getElem h]
theorem rdM_of {l : List S85} {i : Nat} (h : i < l.length) : rd_T85 l (i : Int) = l[i] := by unfold rd_T85; simp [List.getD_eq_getElem?_getD, List.getElem?_eq_getElem h]
theorem rdL_of {l : List (List Int)} {i : Nat} (h : i < l.length) : rd_L3 l (i : Int) = l[i] := by unfold rd_L3; simp [List.getD_eq_getElem?_getD, List.getElem?_eq_getElem h]
theorem total_ev (l : List S85) (g : List Int) (hg : ∀ j ∈ g, 0 ≤ j ∧ j < (l.length : Int)) (hlen : g.length ≤ 1048576) (hl : ∀ x ∈ l, fits x.f2) :
 Ev (fun k => api_Move_76.f k l g) (sumFit ((g.map fun j => (l.getD j.toNat z85).f2).sum)) := by
 have hloop : ∀ (d i : Nat), i + d = g.length → Ev (fun k => api_Move_76.l0 k l (row g.length (fun j => if j < i then (rd_T85 l (g.getD j 0)).f2 else 0)) g (g.length : Int) (i : Int)) (sumFit ((g.map fun j => (l.getD j.toNat z85).f2).sum)) := by
  intro d
  induction d with
  | zero =>
   intro i hi
   have e : row g.length (fun j => if j < i then (rd_T85 l (g.getD j 0)).f2 else 0) = g.map fun j => (l.getD j.toNat z85).f2 := by
    apply List.ext_getElem?
    intro j
    rcases Nat.lt_or_ge j g.length with hj | hj
    ·rw [row_get? _ _ _ hj, if_pos (by omega), List.getElem?_map, List.getElem?_eq_getElem hj, List.getD_eq_getElem?_getD, List.getElem?_eq_getElem hj]; rfl
    ·rw [row_none _ _ _ hj, List.getElem?_eq_none (by rw [List.length_map]; exact hj)]
   have hs : checked_Sum.f (g.map fun j => (l.getD j.toNat z85).f2) = some (sumFit ((g.map fun j => (l.getD j.toNat z85).f2).sum)) := by
    refine csum_eq (by rw [List.length_map]; omega) (fun x hx => ?_)
    obtain ⟨j, hj, rfl⟩ := List.mem_map.1 hx
    have h1 := hg j hj
    have h2 : j.toNat < l.length := by omega
    rw [List.getD_eq_getElem?_getD, List.getElem?_eq_getElem h2]
    exact hl _ (List.getElem_mem h2)
   exact ev_const fun k => by rw [api_Move_76.l0, if_neg (by omega), e, hs]; rfl
  | succ d ih =>
   intro i hi
   have hlt : i < g.length := by omega
   have h1 := hg g[i] (List.getElem_mem hlt)
   have hlen2 := row_length g.length (fun j => if j < i then (rd_T85 l (g.getD j 0)).f2 else 0)
   refine Ev.step (fun k => ?_) (ih (i + 1) (by omega))
   rw [api_Move_76.l0, if_pos (by omega), if_pos (by omega), if_pos (by omega), rd_of hlt, if_pos h1.1, if_pos h1.2]
   simp only [table_Moves_2.f, Option.bind_some]
   rw [if_pos (by rw [hlen2]; omega), Int.toNat_natCast, row_set, w1 (by omega)]
   congr 1
   refine row_ext fun j hj => ?_
   by_cases c : j = i
   ·subst c
    rw [if_pos rfl, if_pos (by omega), List.getD_eq_getElem?_getD, List.getElem?_eq_getElem hlt]; rfl
   ·rw [if_neg c]
    by_cases c2 : j < i
    ·rw [if_pos c2, if_pos (by omega)]
    ·rw [if_neg c2, if_neg (by omega)]
 have h0 := hloop g.length 0 (by omega)
 refine Ev.congr (fun k => ?_) h0
 have e : row g.length (fun j => if j < 0 then (rd_T85 l (g.getD j 0)).f2 else 0) = row g.length (fun _ => (0 : Int)) := row_ext fun j _ => by rw [if_neg (by omega)]
 rw [e]
 unfold api_Move_76.f
 rw [if_pos (by omega), if_pos (by omega), Int.toNat_natCast, row_replicate]
 rfl
def rawOf (l : List S85) (K : List (Int × Int)) : List S85 := K.filterMap fun k => if msum l k = 0 then none else some ⟨k.1, k.2, msum l k⟩
noncomputable def mergeL (l : List S85) : List S85 := srtL cfMove (rawOf l (keysOf keyM l))
noncomputable def mergeR (l : List S85) : List S85 × Int := if AllFit l then (mergeL l, 0) else ([], 10)
theorem sumFit_pos {n : Int} (h : fits n) : sumFit n = (n, true) := by unfold sumFit; exact if_pos h
theorem sumFit_neg {n : Int} (h : ¬ fits n) : sumFit n = (0, false) := by unfold sumFit; exact if_neg h
theorem total_group (l : List S85) (hlen : l.length ≤ 1048576) (hl : ∀ x ∈ l, OkM x) (k : Int × Int) : Ev (fun n => api_Move_76.f n l (idxs keyM l k)) (sumFit (msum l k)) := by
 have h := total_ev l (idxs keyM l k) (idxs_bd keyM l k) (Nat.le_trans (idxs_length_le keyM l k) hlen) (fun x hx => (hl x hx).2.2)
 rw [idxs_vals keyM S85.f2 l k z85] at h
 exact h
theorem rawOf_length (l : List S85) (K : List (Int × Int)) : (rawOf l K).length ≤ K.length := List.length_filterMap_le _ _
def FitAll (l : List S85) (K : List (Int × Int)) : Prop := ∀ k ∈ K, fits (msum l k)
noncomputable instance (l : List S85) (K : List (Int × Int)) : Decidable (FitAll l K) := Classical.propDecidable _
theorem moves_loop (l : List S85) (hlen : l.length ≤ 1048576) (hl : ∀ x ∈ l, OkM x) (d : Nat) : ∀ (i : Nat), i + d = (keysOf keyM l).length →
 Ev (fun k => table_Moves.l0 k l (rawOf l ((keysOf keyM l).take i)) (groups keyM l) ((groups keyM l).length : Int) (i : Int))
  (if FitAll l ((keysOf keyM l).drop i) then (mergeL l, 0) else ([], 10)) := by
 have hkl := keysOf_length_le keyM l
 induction d with
 | zero =>
  intro i hi
  rw [List.drop_eq_nil_of_le (by omega), if_pos (by intro k hk; cases hk), List.take_of_length_le (by omega)]
  refine ev_const fun k => ?_
  rw [table_Moves.l0, if_neg (by rw [groups_length]; omega)]
  unfold api_Move_78.f
  have := rawOf_length l (keysOf keyM l)
  rw [if_pos (by omega)]
  rfl
 | succ d ih =>
  intro i hi
  have hlt : i < (keysOf keyM l).length := by omega
  have hlg : i < (groups keyM l).length := by rw [groups_length]; exact hlt
  obtain ⟨key, hkey⟩ : ∃ key, (keysOf keyM l)[i]? = some key := ⟨_, List.getElem?_eq_getElem hlt⟩
  have hmem := List.mem_of_getElem? hkey
  have hgi : rd_L3 (groups keyM l) (i : Int) = idxs keyM l key := by
   have h2 := groups_get keyM l i key hkey
   rw [rdL_of hlg]
   rw [List.getElem?_eq_getElem hlg] at h2
   exact Option.some.inj h2
  have hne := idxs_ne keyM l key ((mem_keysOf _ _ _).1 hmem)
  have hpos : 0 < (idxs keyM l key).length := List.length_pos_iff.2 hne
  have hmem0 : rd (idxs keyM l key) 0 ∈ idxs keyM l key := by
   have := rd_of hpos
   rw [show ((0 : Nat) : Int) = 0 from rfl] at this
   rw [this]
   exact List.getElem_mem hpos
  have hb := idxs_bd keyM l key _ hmem0
  have hk0 := idxs_key keyM l key z85 _ hmem0
  have ht := total_group l hlen hl key
  have hdrop : (keysOf keyM l).drop i = key :: (keysOf keyM l).drop (i + 1) := by
   rw [List.drop_eq_getElem_cons hlt]
   rw [List.getElem?_eq_getElem hlt] at hkey
   rw [Option.some.inj hkey]
  have htake : (keysOf keyM l).take (i + 1) = (keysOf keyM l).take i ++ [key] := by
   rw [List.take_succ_eq_append_getElem hlt]
   rw [List.getElem?_eq_getElem hlt] at hkey
   rw [Option.some.inj hkey]
  have hraw : (rawOf l ((keysOf keyM l).take i)).length ≤ l.length := by
   have h1 := rawOf_length l ((keysOf keyM l).take i)
   rw [List.length_take] at h1
   omega
  have hstep : ∀ k, table_Moves.l0 (k + 1) l (rawOf l ((keysOf keyM l).take i)) (groups keyM l) ((groups keyM l).length : Int) (i : Int) =
   (api_Move_76.f k l (idxs keyM l key)).bind fun bt => if bt.2 = true then (if bt.1 = 0 then table_Moves.l0 k l (rawOf l ((keysOf keyM l).take i)) (groups keyM l) ((groups keyM l).length : Int) ((i + 1 : Nat) : Int) else table_Moves.l0 k l (rawOf l ((keysOf keyM l).take i) ++ [⟨key.1, key.2, bt.1⟩]) (groups keyM l) ((groups keyM l).length : Int) ((i + 1 : Nat) : Int)) else some ([], 10) := by
   intro k
   rw [table_Moves.l0, if_pos (by omega), if_pos (by omega), if_pos (by omega), hgi, if_pos (by omega), if_pos hb.1, if_pos hb.2]
   have hl9 : (rawOf l ((keysOf keyM l).take i)).length < 5864062014805 := by omega
   have hw9 : wrap64 ((i : Int) + 1) = ((i + 1 : Nat) : Int) := w1 (by omega)
   have e0 : (rd_T85 l (rd (idxs keyM l key) 0)).f0 = key.1 := congrArg Prod.fst hk0
   have e1 : (rd_T85 l (rd (idxs keyM l key) 0)).f1 = key.2 := congrArg Prod.snd hk0
   simp only [e0, e1, hl9, hw9, if_true]
  refine Ev.step hstep ?_
  refine Ev.bind ht ?_
  rw [hdrop]
  by_cases hf : fits (msum l key)
  ·rw [sumFit_pos hf]
   have hif : (if FitAll l (key :: (keysOf keyM l).drop (i + 1)) then (mergeL l, (0 : Int)) else ([], 10)) = (if FitAll l ((keysOf keyM l).drop (i + 1)) then (mergeL l, 0) else ([], 10)) := by
    by_cases c : FitAll l ((keysOf keyM l).drop (i + 1))
    ·rw [if_pos c, if_pos (by intro k hk; rcases List.mem_cons.1 hk with rfl | hk; exact hf; exact c k hk)]
    ·rw [if_neg c, if_neg (fun h => c (fun k hk => h k (List.mem_cons_of_mem _ hk)))]
   rw [hif]
   have hi2 := ih (i + 1) (by omega)
   rw [htake] at hi2
   unfold rawOf at hi2
   rw [List.filterMap_append] at hi2
   simp only [if_true]
   by_cases hz : msum l key = 0
   ·simp only [hz, if_true]
    simp only [List.filterMap_cons, hz, if_true, List.filterMap_nil, List.append_nil] at hi2
    exact hi2
   ·simp only [hz, if_false]
    simp only [List.filterMap_cons, hz, if_false, List.filterMap_nil] at hi2
    exact hi2
  ·rw [sumFit_neg hf, if_neg (fun h => hf (h key List.mem_cons_self))]
   exact Ev.now _
theorem okM_good {x : S85} (h : OkM x) : good2 (keyM x) = true := by
 obtain ⟨h0, h1, _⟩ := h
 unfold fits at h0 h1
 unfold good2 keyM
 rw [wf_i64 h0.1 h0.2, wf_i64 h1.1 h1.2]
 rfl
theorem moves_ev (l : List S85) (hlen : l.length ≤ 1048576) (hl : ∀ x ∈ l, OkM x) : Ev (fun k => table_Moves.f k l) (mergeR l) := by
 unfold table_Moves.f
 refine Ev.bind (a := groups keyM l) ⟨l.length + 1, fun k hk => gatherM_eq l hlen (fun x hx => okM_good (hl x hx)) (by omega)⟩ ?_
 have h := moves_loop l hlen hl (keysOf keyM l).length 0 (by omega)
 have e : (if FitAll l ((keysOf keyM l).drop 0) then (mergeL l, (0 : Int)) else ([], 10)) = mergeR l := by
  unfold mergeR
  by_cases c : AllFit l
  ·rw [if_pos c, if_pos (show FitAll l ((keysOf keyM l).drop 0) from c)]
  ·rw [if_neg c, if_neg (show ¬ FitAll l ((keysOf keyM l).drop 0) from c)]
 rw [e] at h
 exact h
theorem lt_move (x y : S85) : (ltOf cfMove x y = true) ↔ mlt x y := ltMove_eq x y
theorem mergeL_is (l : List S85) : IsMerge l (mergeL l) := by
 obtain ⟨hp, hs⟩ := srtL_spec swoMove (rawOf l (keysOf keyM l))
 have hmem : ∀ m, m ∈ mergeL l ↔ keyM m ∈ keysOf keyM l ∧ m.f2 = msum l (keyM m) ∧ m.f2 ≠ 0 := by
  intro m
  unfold mergeL
  rw [hp.mem_iff]
  unfold rawOf
  rw [List.mem_filterMap]
  constructor
  ·rintro ⟨k, hk, he⟩
   split at he
   ·cases he
   ·rename_i hz
    injection he with he
    subst he
    exact ⟨hk, rfl, hz⟩
  ·rintro ⟨h1, h2, h3⟩
   refine ⟨keyM m, h1, ?_⟩
   rw [if_neg (by rw [← h2]; exact h3), ← h2]
   rfl
 refine ⟨?_, hmem⟩
 have hnd : ((mergeL l).map keyM).Nodup := by
  have h1 : ((rawOf l (keysOf keyM l)).map keyM).Nodup := by
   have h2 : (rawOf l (keysOf keyM l)).map keyM = (keysOf keyM l).filter (fun k => decide (msum l k ≠ 0)) := by
    unfold rawOf
    generalize keysOf keyM l = K
    induction K with
    | nil => rfl
    | cons k K ih =>
     rw [List.filterMap_cons, List.filter_cons]
     by_cases hz : msum l k = 0
     ·simp [hz, ih]
     ·simp [hz, ih]; rfl
   rw [h2]
   exact (nodup_keysOf keyM l).sublist List.filter_sublist
  exact ((hp.map keyM).nodup_iff).2 h1
 have hpair : (mergeL l).Pairwise (fun x y => ltOf cfMove y x = false ∧ keyM x ≠ keyM y) := by
  rw [List.pairwise_and_iff]
  exact ⟨hs, by rw [List.Nodup, List.pairwise_map] at hnd; exact hnd⟩
 refine hpair.imp ?_
 rintro x y ⟨h1, h2⟩
 rw [← Bool.not_eq_true, lt_move] at h1
 have h3 : ¬ (x.f0 = y.f0 ∧ x.f1 = y.f1) := fun h => h2 (by unfold keyM; rw [h.1, h.2])
 unfold mlt at *
 omega
theorem mergeL_length (l : List S85) : (mergeL l).length ≤ l.length := by
 unfold mergeL
 rw [srtL_length swoMove]
 exact Nat.le_trans (rawOf_length _ _) (keysOf_length_le _ _)
end Go.Proofs.Ytfhkkbpkajfdlaa.P
end
section
namespace Go.Proofs.Ytfhkkbpkajfdlaa.Q
open Go.RowKit Go.Maps Go.Proofs.YtfhkkbpkajfdlaaW.PrintWords Go.Proofs.YtfhkkbpkajfdlaaW.PrintLast Go.Proofs.YtfhkkbpkajfdlaaW.PrintMore
section
variable {K : TypeId} {α : Type} [DecidableEq α] {E : KeyEnc K α} {w w1 : World} {b r n : Nat} {es vis : List (α × Int)}
omit [DecidableEq α] in
theorem has_only (E : KeyEnc K α) (kl : Lit) : ∀ (es : List (α × Int)) (m : DataW Unit), IsMap m → (∀ p ∈ es, kl ≠ E.kl p.1) → Maps.has (es.foldl (fun m p => m.put (E.kl p.1) (.lit (.int .i64 p.2))) m) kl = Maps.has m kl
 | [], m, _, _ => rfl
 | p :: es, m, hm, h => by
  rw [List.foldl_cons, has_only E kl es _ (hm.put _ _) (fun q hq => h q (List.mem_cons_of_mem _ hq)), has_put_other (h p List.mem_cons_self)]
theorem lookM_fold (x : α) : ∀ (es : List (α × Int)) (r : Option Int), (∀ p ∈ es, p.1 ≠ x) → es.foldl (fun r p => if p.1 = x then some p.2 else r) r = r
 | [], r, _ => rfl
 | p :: es, r, h => by
  rw [List.foldl_cons, if_neg (h p List.mem_cons_self)]
  exact lookM_fold x es r (fun q hq => h q (List.mem_cons_of_mem _ hq))
theorem lookM_mem : ∀ (es : List (α × Int)) (r : Option Int) (p : α × Int), (es.map (·.1)).Nodup → p ∈ es → es.foldl (fun r q => if q.1 = p.1 then some q.2 else r) r = some p.2
 | q :: es, r, p, hd, hp => by
  rw [List.map_cons, List.nodup_cons] at hd
  rw [List.foldl_cons]
  rcases List.mem_cons.1 hp with rfl | hp
  ·rw [if_pos rfl]
   exact lookM_fold _ es _ (fun z hz e => hd.1 (by rw [← e]; exact List.mem_map_of_mem hz))
  ·exact lookM_mem es _ p hd.2 hp
def MapR (E : KeyEnc K α) (w : World) (b r n : Nat) (es vis : List (α × Int)) : Prop :=
 ∃ left cnt, w.ranges Try.prog K (plainElem Try.prog 3) b r n (datM E.kl es) left cnt ∧ (∀ p ∈ es, E.good p.1) ∧ (es.map (·.1)).Nodup ∧ (vis.map (·.1)).Nodup ∧ (∀ p ∈ vis, p ∈ es) ∧
  (∀ p ∈ es, left (E.kl p.1) = true ↔ p.1 ∉ vis.map (·.1)) ∧ (∀ kl, left kl = true → ∃ p ∈ es, kl = E.kl p.1)
omit [DecidableEq α] in
theorem MapR.owns (h : MapR E w b r n es vis) : MapI E w b n es := by
 obtain ⟨left, cnt, h, hg, _⟩ := h
 exact ⟨h.owns, hg⟩
omit [DecidableEq α] in
theorem MapR.lt (h : MapR E w b r n es vis) : r < w.heap.size := by
 obtain ⟨left, cnt, h, k⟩ := h
 exact h.lt
omit [DecidableEq α] in
theorem MapR.ltb (h : MapR E w b r n es vis) : b < w.heap.size := h.owns.lt
omit [DecidableEq α] in
theorem MapR.move (h : MapR E w b r n es vis) (hb : w1.heap[b]? = w.heap[b]?) (hr : w1.heap[r]? = w.heap[r]?) : MapR E w1 b r n es vis := by
 obtain ⟨left, cnt, ⟨es', clock, since, seen, c0, x1, x2, x3, x4, x5, x6⟩, k⟩ := h
 exact ⟨left, cnt, ⟨es', clock, since, seen, c0, hb.trans x1, x2, x3, x4, hr.trans x5, x6⟩, k⟩
omit [DecidableEq α] in
theorem MapR.iter (h : MapR E w b r n es vis) : ∃ b' s0 sn c0, w.heap[r]? = some (.mapIter b' s0 sn c0) := by
 obtain ⟨left, cnt, ⟨es', clock, since, seen, c0, x1, x2, x3, x4, x5, x6⟩, k⟩ := h
 exact ⟨_, _, _, _, x5⟩
omit [DecidableEq α] in
theorem MapR.below (h : MapR E w b r n es vis) (hb : Below w.heap.size w w1) : MapR E w1 b r n es vis := h.move (hb.block b h.ltb) (hb.block r h.lt)
omit [DecidableEq α] in
theorem MapR.alloc (h : MapR E w b r n es vis) (o : Obj) : MapR E (w.alloc o) b r n es vis := h.below (below_alloc (Below.refl _ _) o)
omit [DecidableEq α] in
theorem MapR.drew (h : MapR E w b r n es vis) : MapR E w.drew b r n es vis := h.below (below_drew (Below.refl _ _))
omit [DecidableEq α] in
theorem MapR.ne (h : MapR E w b r n es vis) {g : Nat} {cells : Array Value} {q : TypeId} {fr : Nat × Nat} (hg : w.heap[g]? = some (.cells cells q fr)) : g ≠ b ∧ g ≠ r := by
 refine ⟨h.owns.ne hg, ?_⟩
 obtain ⟨b', s0, sn, c0, hr⟩ := h.iter
 rintro rfl
 rw [hg] at hr; injection hr with hr; cases hr
omit [DecidableEq α] in
theorem MapR.grown (h : MapR E w b r n es vis) {row : Option Nat} (hg : w.grownBy w1 row) (ht : ∀ k, row = some k → ∃ cells q fr, w.heap[k]? = some (.cells cells q fr)) : MapR E w1 b r n es vis :=
 h.move (hg.block b h.ltb (fun e => by obtain ⟨cells, q, fr, hk⟩ := ht b e.symm; exact (h.ne hk).1 rfl)) (hg.block r h.lt (fun e => by obtain ⟨cells, q, fr, hk⟩ := ht r e.symm; exact (h.ne hk).2 rfl))
omit [DecidableEq α] in
theorem MapR.grownT (h : MapR E w b r n es vis) {row : Option Nat} (hg : w.grownBy w1 row) {q : TypeId} (ht : ∀ k, row = some k → ∃ cells, w.heap[k]? = some (.cells cells q (0, 0))) : MapR E w1 b r n es vis :=
 h.grown hg (fun k hk => by obtain ⟨c, hc⟩ := ht k hk; exact ⟨c, q, (0, 0), hc⟩)
omit [DecidableEq α] in
theorem MapR.farg (h : MapR E w b r n es vis) {g j : Nat} {cells : Array Value} {q : TypeId} {fr : Nat × Nat} (hg : w.heap[g]? = some (.cells cells q fr)) (u : Value) : MapR E (w.setCell ⟨g, j, none⟩ u) b r n es vis :=
 h.move (Below.heap_setCell w ⟨g, j, none⟩ u b (fun e => (h.ne hg).1 e.symm)) (Below.heap_setCell w ⟨g, j, none⟩ u r (fun e => (h.ne hg).2 e.symm))
theorem nodup_len {β : Type} [DecidableEq β] : ∀ {l m : List β}, l.Nodup → (∀ x ∈ l, x ∈ m) → l.length ≤ m.length
 | [], _, _, _ => Nat.zero_le _
 | x :: l, m, hd, hs => by
  rw [List.nodup_cons] at hd
  have hx := hs x List.mem_cons_self
  have := nodup_len (l := l) (m := m.erase x) hd.2 (fun y hy => (List.mem_erase_of_ne (fun e => hd.1 (by rw [← e]; exact hy))).2 (hs y (List.mem_cons_of_mem _ hy)))
  rw [List.length_erase_of_mem hx] at this
  have hp := List.length_pos_of_mem hx
  rw [List.length_cons]; omega
theorem MapR.le (h : MapR E w b r n es vis) : vis.length ≤ es.length := by
 obtain ⟨left, cnt, _, _, hd, hv, hs, _⟩ := h
 have : (vis.map (·.1)).length ≤ (es.map (·.1)).length := nodup_len hv (fun x hx => by
  obtain ⟨p, hp, rfl⟩ := List.mem_map.1 hx
  exact List.mem_map_of_mem (hs p hp))
 simpa using this
omit [DecidableEq α] in
theorem nodup_of_map : ∀ {l : List (α × Int)}, (l.map (·.1)).Nodup → l.Nodup
 | [], _ => List.nodup_nil
 | p :: l, h => by
  rw [List.map_cons, List.nodup_cons] at h
  exact List.nodup_cons.2 ⟨fun hp => h.1 (List.mem_map_of_mem hp), nodup_of_map h.2⟩
omit [DecidableEq α] in
theorem R_noiter {β : Type} {d : Kd β} {e : Nat} {w : World} {base : Nat} {ok : Nat → Prop} {v : Value} {xs : List β} (h : Kd.R d e w base ok v xs) {r : Nat} (hr : ∃ b' s0 sn c0, w.heap[r]? = some (.mapIter b' s0 sn c0)) : Kd.R d e w base (fun k => ok k ∧ k ≠ r) v xs :=
 Kd.R_mono (Kd.R_bound h) (fun k hk => ⟨hk.1, by
  obtain ⟨_, _, _, q, _, cells, hc⟩ := hk
  obtain ⟨b', s0, sn, c0, hm⟩ := hr
  rintro rfl
  rw [hc] at hm; injection hm with hm; cases hm⟩)
section
variable {ops : Array Oper} {rest : List Oper} {o : Oper} {a : Act} {Q : Exit → Act → World → Prop}
theorem mrange (E : KeyEnc K α) (hg : o.guard = none) (m : Operand) (t : TypeId) (hop : o.op = Op.range t m) (ht : Try.prog.underlying t = some (.map K 3)) (hm : a.eval m = .map (some b)) (h : MapI E w b n es) (hd : (es.map (·.1)).Nodup)
 (hK : ∀ r w', r = w.heap.size → MapR E w' b r n es [] → w.grownBy w' none → w'.heap.size = w.heap.size + 1 → wpList Try.prog ops Q rest (a.put o.dst (.pointer (some ⟨r, 0, none⟩))) w') :
 wpList Try.prog ops Q (o :: rest) a w := by
 refine wpList_range_own w hg m t hop K 3 E.law ht (plainElem Try.prog 3) b n (datM E.kl es) hm h.1 ?_
 intro w' hr hgr hs
 refine hK _ w' rfl ⟨_, _, hr, h.2, hd, List.nodup_nil, (fun p hp => by cases hp), fun p hp => ?_, fun kl hkl => ?_⟩ hgr hs
 ·rw [has_datM E h.2 (h.2 p hp)]
  unfold lookM
  rw [lookM_mem es none p hd hp]
  simp
 ·refine Classical.byContradiction fun hno => ?_
  have := has_only E kl es (.map []) isMap_empty (fun p hp e => hno ⟨p, hp, e⟩)
  rw [show Maps.has (datM E.kl es) kl = _ from this] at hkl
  cases hkl
theorem mnext (E : KeyEnc K α) (hg : o.guard = none) (it : Operand) (hop : o.op = Op.next it false) (hit : a.eval it = .pointer (some ⟨r, 0, none⟩)) (h : MapR E w b r n es vis)
 (hDone : vis.Perm es → wpList Try.prog ops Q rest (a.put o.dst (.tuple #[.bool false])) w)
 (hMore : ∀ (p : α × Int) (w' : World), p ∈ es → p ∉ vis → MapR E w' b r n es (vis ++ [p]) → w.grownBy w' (some r) → w'.heap.size = w.heap.size → (Instr.entry (.pointer (some ⟨r, 0, none⟩))).run Try.prog w' = .ok (.tuple #[E.enc p.1, .int .i64 p.2]) w' → wpList Try.prog ops Q rest (a.put o.dst (.tuple #[.bool true, E.enc p.1, .int .i64 p.2])) w') :
 wpList Try.prog ops Q (o :: rest) a w := by
 obtain ⟨left, cnt, hR, hgo, hd, hv, hs, hl, ho⟩ := h
 refine wpList_next_ranges w hg it hop K E.law (plainElem Try.prog 3) (fun v : Value => v) (Value.int .i64) (fun key kl _ => ⟨key, rfl⟩) (fun v y hv => by obtain ⟨c, rfl, _⟩ := plainElem_int_inv Try.underlying3 hv; exact ⟨c, rfl⟩) b r n _ left cnt hit hR ?_ ?_
 ·intro _ hno
  refine hDone ((List.perm_ext_iff_of_nodup (nodup_of_map hv) (nodup_of_map hd)).2 fun p => ⟨hs p, fun hp => ?_⟩)
  have hin : p.1 ∈ vis.map (·.1) := by
   refine Classical.byContradiction fun hn => ?_
   have := (hl p hp).2 hn
   rw [hno] at this
   cases this
  obtain ⟨q, hq, e⟩ := List.mem_map.1 hin
  have h1 := lookM_mem es none p hd hp
  have h2 := lookM_mem es none q hd (hs q hq)
  rw [e] at h2
  have := h1.symm.trans h2
  have e2 : p = q := Prod.ext e.symm (Option.some.inj this)
  rw [e2]; exact hq
 ·intro x c kl y w' cnt' hkey hlk hv0 hat hr2 hlt hgr hsz hen
  obtain ⟨p, hp, rfl⟩ := ho kl hlk
  obtain rfl : x = E.enc p.1 := E.law.inj hkey (E.key p.1 (hgo p hp))
  obtain ⟨c', ec, hy, _⟩ := plainElem_int_inv Try.underlying3 hv0
  cases ec
  have h1 := hat (.lit (.int .i64 0))
  rw [at_datM E hgo (hgo p hp), hy] at h1
  unfold lookM at h1
  rw [lookM_mem es none p hd hp] at h1
  have h3 : (DataW.lit (.int .i64 p.2) : DataW Unit) = .lit (.int .i64 c) := h1
  obtain rfl : p.2 = c := by cases h3; rfl
  have hnv : p.1 ∉ vis.map (·.1) := (hl p hp).1 hlk
  refine hMore p w' hp (fun h => hnv (List.mem_map_of_mem h)) ⟨_, cnt', hr2, hgo, hd, ?_, ?_, ?_, ?_⟩ hgr hsz hen
  ·rw [List.map_append, List.map_singleton, List.nodup_append]
   refine ⟨hv, by simp, fun a ha b hb e => ?_⟩
   rw [List.mem_singleton] at hb
   rw [e, hb] at ha
   exact hnv ha
  ·intro q hq
   rcases List.mem_append.1 hq with hq | hq
   ·exact hs q hq
   ·rw [List.mem_singleton.1 hq]; exact hp
  ·intro q hq
   rw [List.map_append, List.map_singleton, List.mem_append, List.mem_singleton, not_or, ← hl q hq, Bool.and_eq_true, Bool.not_eq_true']
   refine and_congr_right fun _ => ?_
   rw [← Bool.not_eq_true, WideAt.sameKey_iff (E.isKey (hgo p hp))]
   refine not_congr ⟨fun e => E.kl_inj (hgo q hq) (hgo p hp) e, fun e => by rw [e]⟩
  ·intro kl hkl
   exact ho kl (by simp only [Bool.and_eq_true] at hkl; exact hkl.1)
end
end
def withinB (lf : List Int) (arcs : List S54) : Bool := (List.range arcs.length).all fun i => decide (0 ≤ rd lf (i : Int) ∧ rd lf (i : Int) ≤ (rd_T54 arcs (i : Int)).f2)
def toldL (lf : List Int) (vis : List ((Int × Int) × Int)) : List S85 := vis.filterMap fun p => if 0 < rd lf p.2 then some ⟨p.1.1, p.1.2, rd lf p.2⟩ else none
theorem toldL_snoc (lf : List Int) (vis : List ((Int × Int) × Int)) (a b i : Int) : toldL lf (vis ++ [((a, b), i)]) = if 0 < rd lf i then toldL lf vis ++ [⟨a, b, rd lf i⟩] else toldL lf vis := by
 unfold toldL
 rw [List.filterMap_append]
 by_cases c : 0 < rd lf i
 ·simp [c]
 ·simp [c]
theorem toldL_length (lf : List Int) (vis : List ((Int × Int) × Int)) : (toldL lf vis).length ≤ vis.length := List.length_filterMap_le _ _
def Grid_Told.T6 : Bool × List (List Nat × List Nat) := (true, [([], []), ([], []), ([1], [1]), ([], []), ([3], [3]), ([], []), ([], []), ([5, 6], [5, 6]), ([7], [7]), ([2, 4, 8], [2, 4, 8]), ([9], [9]), ([0, 10], [0, 10]), ([11, 11, 0, 1, 2, 3, 4, 5, 6, 7, 8, 9, 10, 11], [0, 11])])
def Grid_Told.B6 : List Nat := [0, 0, 2, 0, 8, 0, 0, 96, 224, 510, 1022, 2047, 4095]
theorem Grid_Told.tab6 : rtab .any (opsOf Try.f42 6) = Grid_Told.T6 := by kernel_rfl
theorem Grid_Told.bits6 : waitsOk Grid_Told.T6.2 Grid_Told.B6 = true := by kernel_rfl
set_option maxHeartbeats 8000000 in
set_option maxRecDepth 100000 in
theorem Grid_Told.calls (gg : Nat) (N V : Int) (v p2 p3 p4 : Value) (m1 : Nat) (l1 : List ((Int × Int) × Int)) (A : Option Addr) (c : Nat) (lf : List Int) (w : World)
 (hb : w.heap[gg]? = some (.cells #[.int .i64 N, .bool false, v, .map (some m1), p2, p3, p4, .int .i64 V] 76 (0, 0))) (hM : MapI E26 w m1 l1.length l1) (hd : (l1.map (·.1)).Nodup)
 (hf : Kd.C (Kd.int .i64) w A lf.length lf) (hc : lf.length ≤ c) (hp : ∀ p ∈ l1, 0 ≤ p.2 ∧ p.2 < (lf.length : Int)) (hl : l1.length ≤ 1048576)
 (hT : ∀ vis, vis.Perm l1 → ∃ k, table_Moves.f k (toldL lf vis) = some (toldL lf l1, 0)) :
 Calls Try.prog 42 #[.pointer (some ⟨gg, 0, none⟩), .slice A lf.length c] w fun e w' => ∃ v0, e = .returned v0 ∧ Kd.R k85 85 w' w.heap.size (fun _ => True) v0 (toldL lf l1) ∧ Below w.heap.size w w' := by
 have hu26 := Try.underlying26
 have hu85 := Try.underlying85
 have HM := am_ hM
 have HD := am_ hd
 have HRf := am_ hf
 have HCf := am_ hc
 have HP := am_ hp
 have HLn := am_ hl
 have HT := am_ hT
 have HB := am_ (Below.refl w.heap.size w)
 have HG := am_ hb
 clear hb hM hd hf hc hp hl hT
 go_enter Try.func42, Try.ntmps42
 go_wp2_with (first
  | ((with_reducible refine gate_dst (N := 10) rfl ?_); refine Kd.R_lit k85 _ 85 ?hg (N := 10) ?hd (xs := ([] : List (S85))) (inner := []) (ok := fun _ => True) (okp := fun _ => True) ?hr ?hp (fun _ hk => hk) trivial (Below.refl _ _) (Nat.le_refl _) (by simp) ?_; (case hd => rfl); (case hg => rfl); (case hr => first | (go_simp; done) | (go_simp; rfl)); (case hp => exact (Reps.none _ _)); intro v0 w3 ho4 hb hg_ hnew_; clear hg_ hnew_; have n0_ := am_ (Kd.R_lower ho4 (below_size HB.out)); have n1_ := am_ (below_step HB.out hb); have n2_ := am_ (HM.out.below hb); have n3_ := am_ (blk_below HG.out hb); clear HB HM HG ho4 hb; have HO := n0_; have HB := n1_; have HM := n2_; have HG := n3_; clear n0_ n1_ n2_ n3_; have z3 : w3.cell? ⟨gg, 3, none⟩ = some (.map (some m1)) := (blk_cell HG.out 3).trans rfl)
  | (at_range; refine mrange E26 rfl _ 73 rfl Try.underlying73 rfl HM.out HD.out ?_; intro r wr hr hR hg hs; clear z3; have GEr := am_ (by rw [hr]; exact below_size HB.out : w.heap.size ≤ r); have n0_ := am_ (Kd.R_grown HO.out hg (fun k_ hk e_ => by cases e_)); have n1_ := am_ (Below.grown HB.out hg (below_size HB.out) (fun k_ e_ => by cases e_)); clear HB HO HM HG hg hs hr; have HO := n0_; have HB := n1_; have HR := am_ hR; clear n0_ n1_ hR))
 go_frame
 go_loopg [5] (l1.length) (fun kq v5 w' => ∃ (vis : List ((Int × Int) × Int)), Aside0 (vis.length + kq = l1.length) ∧ Aside0 (MapR E26 w' m1 r l1.length l1 vis) ∧ Aside0 (Kd.R k85 85 w' w.heap.size (fun _ => True) v5 (toldL lf vis)) ∧ Aside0 (Below w.heap.size w w'))
 case atStart => exact ⟨[], ⟨Nat.zero_add _⟩, HR, HO, HB⟩
 case round =>
  clear HO HB HR
  obtain ⟨vis, HV, HR, HO, HB⟩ := hrel
  go_wp2_with (first | (at_next; refine mnext E26 rfl _ rfl rfl HR.out ?_ ?_))
  ·intro hperm
   obtain ⟨k, hk⟩ := HT.out vis hperm
   have HKm := am_ hk
   obtain ⟨Ao, co, eo⟩ := Kd.R_slice HO.out
   subst eo
   clear hperm hk
   go_wp2_with (first
    | (go_at_call 50; (with_reducible refine (table_Moves.calls k Ao co (toldL lf vis) (toldL lf l1) 0 _ ?s1 ?s2 HKm.out).mono ?_); (case s1 => exact (Kd.R_reads' HO.out).2.2); (case s2 => exact (Kd.R_reads' HO.out).2.1); rintro e w9 ⟨v9, rfl, ho, hb⟩; have n0_ := am_ (Kd.R_lower ho (below_size HB.out)); have n1_ := am_ (below_step HB.out hb); clear HO HB ho hb; have HO := n0_; have HB := n1_; clear n0_ n1_))
   go_ret
   exact ⟨_, rfl, HO.out, HB.out⟩
  ·intro pn pa pi w' hp hnv hR2 hg hs hen
   have n0_ := am_ (Kd.R_mono (Kd.R_grown (R_noiter HO.out HR.out.iter) hg (fun k_ hk e_ => hk.2 (Option.some.inj e_))) (fun _ hk => hk.1))
   have n1_ := am_ (Below.grown HB.out hg (below_size HB.out) (fun k_ e_ => by injection e_ with e_; subst e_; exact GEr.out))
   have hpi := HP.out _ hp
   have hV2 : vis.length + 1 ≤ l1.length := by have := hR2.le; rw [List.length_append] at this; exact this
   clear HO HB HR hg hs hnv hp
   have HO := n0_
   have HB := n1_
   have HR := am_ hR2
   have HV2 := am_ hV2
   clear n0_ n1_ hR2 hV2
   obtain ⟨pi0, pi1⟩ := hpi
   obtain ⟨ad, e, hx⟩ := Kd.at_int HRf.out pi pi0 pi1
   cases e
   replace hx := (HB.out.cell (World.block_lt_of_cell? w _ hx)).trans hx
   have hx2 := ((below_alloc (Below.refl w'.heap.size w') (.cells #[.int .i64 pn, .int .i64 pa] 26 (0, 0))).cell (World.block_lt_of_cell? w' _ hx)).trans hx
   replace pi0 := eq_true pi0
   replace pi1 := eq_true pi1
   rw [show E26.enc (pn, pa) = .agg #[.int .i64 pn, .int .i64 pa] from rfl] at hen ⊢
   by_cases c0 : 0 < rd lf pi
   ·have c1 : decide (rd lf pi > 0) = true := decide_eq_true c0
    go_wp2
    have n0_ := am_ (Kd.R_alloc HO.out (.cells #[.int .i64 pn, .int .i64 pa] 26 (0, 0)))
    have n1_ := am_ (below_alloc HB.out (.cells #[.int .i64 pn, .int .i64 pa] 26 (0, 0)))
    have n2_ := am_ (HR.out.alloc (.cells #[.int .i64 pn, .int .i64 pa] 26 (0, 0)))
    have BKx := am_ (blk_new w' (.cells #[.int .i64 pn, .int .i64 pa] 26 (0, 0)))
    clear HO HB HR hx hen
    have HO := n0_
    have HB := n1_
    have HR := n2_
    clear n0_ n1_ n2_
    generalize hw2 : w'.alloc (.cells #[.int .i64 pn, .int .i64 pa] 26 (0, 0)) = w2 at HO HB HR BKx hx2 ⊢
    generalize hgx : w'.heap.size = gx at BKx ⊢
    clear hw2 hgx w'
    have zx0 : w2.cell? ⟨gx, 0, none⟩ = some (.int .i64 pn) := (blk_cell BKx.out 0).trans rfl
    have zx1 : w2.cell? ⟨gx, 1, none⟩ = some (.int .i64 pa) := (blk_cell BKx.out 1).trans rfl
    have n0_ := am_ (Kd.R_drew HO.out)
    have n1_ := am_ (below_drew1 HB.out)
    have n2_ := am_ HR.out.drew
    clear HO HB HR
    have HO := n0_
    have HB := n1_
    have HR := n2_
    clear n0_ n1_ n2_
    refine start_ (n := 13) (S := fun w' => w'.cell? ⟨gx, 0, none⟩ = some (.int .i64 pn) ∧ w'.cell? ⟨gx, 1, none⟩ = some (.int .i64 pa) ∧ w'.cell? (ad.add pi.toNat) = some (.int .i64 (rd lf pi))) (ds := [10, 11]) #[Ff,Ff,Ff,Ff,Ff,Ff,Ff,Ff,Ff,Ff,Ff,Ff,Ff] (by kernel_rfl) rfl rfl ⟨zx0, zx1, hx2⟩ (fun hHeld => ?_)
    clear zx0 zx1 hx2 BKx
    generalize w2.drew = w10 at HB HO HR hHeld ⊢
    refine with_tabW Grid_Told.tab6 Grid_Told.bits6 (fun HT_ HW_ => ?_)
    refine pw_ 0 26 ?_
    refine pw_ 1 27 ?_
    refine pw_ 3 29 ?_
    refine pw_ 5 31 ?_
    refine pw_ 6 32 ?_
    refine pw_ 7 33 ?_
    refine tk_ 2 28 ?_
    refine tk_ 4 30 ?_
    refine tk_ 8 34 ?_
    refine pw_ 9 35 ?_
    refine last_ (i := 10) (N := (some 36)) #[Tt,Tt,Tt,Tt,Tt,Tt,Tt,Tt,Tt,Tt,Tt,Ff,Ff] rfl rfl (one_of HT_.out (by kernel_rfl)) (by decide) (fun K hK => ?_)
    refine value_ (w1 := ?_) (v := ?_) (by rfl) rfl ?_ ?_
    rotate_left 2
    ·go_simp
     constructor
     ·rfl
     ·rfl
    refine hK.out _ _ ?_
    clear hK K hHeld
    refine norm_ (a' := ?_) ?_ ?_
    rotate_left
    ·show Act.put _ (some 36) _ = _
     simp only [Act.put, List.setIfInBounds_toArray, List.set_cons_zero, List.set_cons_succ, i64_w, i32_w]
     rfl
    refine last_ (i := 11) (N := (some 37)) #[Tt,Tt,Tt,Tt,Tt,Tt,Tt,Tt,Tt,Tt,Tt,Tt,Ff] rfl rfl (one_of HT_.out (by kernel_rfl)) (by decide) (fun K hK => ?_)
    refine Kd.R_append_step k85 (w0 := w) w.heap.size (by rfl) (.tmp 26) (.tmp 36) 45 85 (.agg #[(.int .i64 0), (.int .i64 0), (.int .i64 0)]) 24 rfl Try.underlying45 info85 rfl (by decide) (by omega) u5 (toldL lf vis) (⟨pn, pa, rd lf pi⟩ : S85) [.int .i64 pn, .int .i64 pa, .int .i64 (rd lf pi)] (fun _ => True) (fun _ => False) rfl rfl ?aP (fun _ hk => hk.elim) ?aF ?aO ?aB ?aS ?aL ?_
    case aP => exact k85_mkM _ _ _ (⟨pn, pa, rd lf pi⟩ : S85)
    case aB => exact HB.out
    case aF => exact (fun _ _ => trivial)
    case aO => exact HO.out
    case aS => exact below_size HB.out
    case aL => have := toldL_length lf vis; have := HLn.out; have := HV2.out; omega
    intro v5 w33 ho hb hg hat
    have n0_ := am_ (MapR.grownT HR.out hg (Kd.R_typed HO.out))
    clear HO HB HR hg hat
    have HO := am_ ho
    have HB := am_ hb
    have HR := n0_
    clear ho hb n0_
    refine hK.out _ _ ?_
    clear hK K
    refine norm_ (a' := ?_) ?_ ?_
    rotate_left
    ·show Act.put _ (some 37) _ = _
     simp only [Act.put, List.setIfInBounds_toArray, List.set_cons_zero, List.set_cons_succ, i64_w, i32_w]
     rfl
    refine pw_ 12 5 ?_
    refine done_ (done_of HT_.out (by kernel_rfl)) ?_
    try go_wp2
    go_roundg (gk - 1)
    case measure => have := HV.out; have := HV2.out; omega
    case rel => exact ⟨vis ++ [((pn, pa), pi)], ⟨by rw [List.length_append]; have := HV.out; have := HV2.out; simp only [List.length_singleton]; omega⟩, HR, ⟨by rw [toldL_snoc, if_pos c0]; exact HO.out⟩, HB⟩
   ·have c1 : decide (rd lf pi > 0) = false := decide_eq_false c0
    go_wp2
    go_roundg (gk - 1)
    case measure => have := HV.out; have := HV2.out; omega
    case rel => exact ⟨vis ++ [((pn, pa), pi)], ⟨by rw [List.length_append]; have := HV.out; have := HV2.out; simp only [List.length_singleton]; omega⟩, ⟨HR.out.alloc _⟩, ⟨by rw [toldL_snoc, if_neg (by omega)]; exact Kd.R_alloc HO.out _⟩, ⟨below_alloc HB.out _⟩⟩
end Go.Proofs.Ytfhkkbpkajfdlaa.Q
end
section
namespace Go.Proofs.Ytfhkkbpkajfdlaa.P
open Go.RowKit Go.Proofs.Ytfhkkbpkajfdlaa.Q Go.Proofs.YtfhkkbpkajfdlaaW.PrintWords Go.Proofs.YtfhkkbpkajfdlaaW.PrintLast Go.Proofs.YtfhkkbpkajfdlaaW.PrintMore
def kord (p q : (Int × Int) × Int) : Prop := p.1.2 < q.1.2 ∨ p.1.2 = q.1.2 ∧ p.1.1 < q.1.1
theorem zip_sorted {K : List S83} (h : K.Pairwise klt) : K.zipIdx.Pairwise (fun p q => klt p.1 q.1) := by
 rw [← List.pairwise_map (f := Prod.fst) (R := klt), List.zipIdx_map_fst]
 exact h
theorem movesK_sorted {K : List S83} (h : K.Pairwise klt) : (movesK K).Pairwise kord := by
 unfold movesK
 rw [List.pairwise_filterMap]
 refine (zip_sorted h).imp ?_
 rintro ⟨x, i⟩ ⟨y, j⟩ hk p hp q hq
 unfold mvK at hp hq
 simp only at hp hq hk
 split at hp
 ·split at hq
  ·rename_i hx hy
   simp only [Option.some.injEq] at hp hq
   subst hp; subst hq
   unfold klt at hk
   unfold kord
   simp only [hx, hy, forall_const, and_self] at hk ⊢
   omega
  ·cases hq
 ·cases hp
theorem waitsK_sorted {K : List S83} (h : K.Pairwise klt) : (waitsK K).Pairwise kord := by
 unfold waitsK
 rw [List.pairwise_filterMap]
 refine (zip_sorted h).imp ?_
 rintro ⟨x, i⟩ ⟨y, j⟩ hk p hp q hq
 unfold wtK at hp hq
 simp only at hp hq hk
 split at hp
 ·split at hq
  ·rename_i hx hy
   simp only [Option.some.injEq] at hp hq
   subst hp; subst hq
   unfold klt at hk
   unfold kord
   simp only [hx, hy, forall_const, and_self] at hk ⊢
   omega
  ·cases hq
 ·cases hp
theorem kord_nodup {l : List ((Int × Int) × Int)} (h : l.Pairwise kord) : (l.map (·.1)).Nodup := by
 rw [List.Nodup, List.pairwise_map]
 refine h.imp ?_
 rintro ⟨⟨a, b⟩, i⟩ ⟨⟨c, d⟩, j⟩ hk e
 unfold kord at hk
 simp only [Prod.mk.injEq] at hk e
 omega
theorem movesK_mem {K : List S83} {p : (Int × Int) × Int} : p ∈ movesK K ↔ ∃ (i : Nat) (k : S83), K[i]? = some k ∧ k.f0 = true ∧ p = ((k.f2, k.f4), (i : Int)) := by
 unfold movesK
 rw [List.mem_filterMap]
 constructor
 ·rintro ⟨⟨k, i⟩, hm, hp⟩
  rw [List.mem_zipIdx_iff_getElem?] at hm
  unfold mvK at hp
  split at hp
  ·rename_i h
   simp only [Option.some.injEq] at hp
   exact ⟨i, k, hm, h, hp.symm⟩
  ·cases hp
 ·rintro ⟨i, k, hm, h, rfl⟩
  exact ⟨(k, i), List.mem_zipIdx_iff_getElem?.2 hm, by unfold mvK; rw [if_pos h]⟩
theorem waitsK_mem {K : List S83} {p : (Int × Int) × Int} : p ∈ waitsK K ↔ ∃ (i : Nat) (k : S83), K[i]? = some k ∧ k.f1 = true ∧ p = ((k.f3, k.f4), (i : Int)) := by
 unfold waitsK
 rw [List.mem_filterMap]
 constructor
 ·rintro ⟨⟨k, i⟩, hm, hp⟩
  rw [List.mem_zipIdx_iff_getElem?] at hm
  unfold wtK at hp
  split at hp
  ·rename_i h
   simp only [Option.some.injEq] at hp
   exact ⟨i, k, hm, h, hp.symm⟩
  ·cases hp
 ·rintro ⟨i, k, hm, h, rfl⟩
  exact ⟨(k, i), List.mem_zipIdx_iff_getElem?.2 hm, by unfold wtK; rw [if_pos h]⟩
theorem movesK_len (K : List S83) : (movesK K).length ≤ K.length := by
 unfold movesK
 refine Nat.le_trans (List.length_filterMap_le _ _) ?_
 rw [List.length_zipIdx]; exact Nat.le_refl _
theorem msum_perm {l l' : List S85} (h : l.Perm l') (k : Int × Int) : msum l k = msum l' k := by
 unfold msum
 induction h with
 | nil => rfl
 | cons x _ ih => rw [sumK_cons, sumK_cons, ih]
 | swap x y l => rw [sumK_cons, sumK_cons, sumK_cons, sumK_cons]; omega
 | trans _ _ h1 h2 => rw [h1, h2]
theorem told_sorted {lf : List Int} {l1 : List ((Int × Int) × Int)} (h : l1.Pairwise kord) : (toldL lf l1).Pairwise mlt := by
 unfold toldL
 rw [List.pairwise_filterMap]
 refine h.imp ?_
 rintro ⟨⟨a, b⟩, i⟩ ⟨⟨c, d⟩, j⟩ hk x hx y hy
 simp only at hx hy
 split at hx
 ·split at hy
  ·simp only [Option.some.injEq] at hx hy
   subst hx; subst hy
   exact hk
  ·cases hy
 ·cases hx
theorem told_mem {lf : List Int} {l1 : List ((Int × Int) × Int)} {m : S85} : m ∈ toldL lf l1 ↔ ∃ i, ((m.f0, m.f1), i) ∈ l1 ∧ 0 < rd lf i ∧ m.f2 = rd lf i := by
 unfold toldL
 rw [List.mem_filterMap]
 constructor
 ·rintro ⟨⟨⟨a, b⟩, i⟩, hm, hp⟩
  simp only at hp
  split at hp
  ·rename_i h
   simp only [Option.some.injEq] at hp
   subst hp
   exact ⟨i, hm, h, rfl⟩
  ·cases hp
 ·rintro ⟨i, hm, h, e⟩
  refine ⟨_, hm, ?_⟩
  simp only [if_pos h]
  rw [← e]
theorem merge_self {r : List S85} (h : r.Pairwise mlt) (hz : ∀ m ∈ r, m.f2 ≠ 0) : IsMerge r r := by
 refine ⟨h, fun m => ⟨fun hm => ⟨(mem_keysOf _ _ _).2 ⟨m, hm, rfl⟩, (msum_nodup (sorted_keys h) hm).symm, hz m hm⟩, ?_⟩⟩
 rintro ⟨h1, h2, h3⟩
 obtain ⟨x, hx, hk⟩ := (mem_keysOf _ _ _).1 h1
 have e : m = x := by
  have := msum_nodup (sorted_keys h) hx
  rw [hk, ← h2] at this
  unfold keyM at hk
  exact s85_ext (congrArg Prod.fst hk).symm (congrArg Prod.snd hk).symm this
 rw [e]; exact hx
theorem merge_perm {l r : List S85} (hp : l.Perm r) (h : r.Pairwise mlt) (hz : ∀ m ∈ r, m.f2 ≠ 0) : IsMerge l r :=
 isMerge_congr (l := r) (fun k => by
  rw [mem_keysOf, mem_keysOf]
  constructor
  ·rintro ⟨x, hx, e⟩; exact ⟨x, hp.mem_iff.2 hx, e⟩
  ·rintro ⟨x, hx, e⟩; exact ⟨x, hp.mem_iff.1 hx, e⟩) (fun k _ => (msum_perm hp k).symm) (merge_self h hz)
theorem moves_perm {l r : List S85} (hp : l.Perm r) (h : r.Pairwise mlt) (hz : ∀ m ∈ r, m.f2 ≠ 0) (hok : ∀ m ∈ r, OkM m) (hl : r.length ≤ 1048576) : Ev (fun k => table_Moves.f k l) (r, 0) := by
 have hE := moves_ev l (by rw [hp.length_eq]; exact hl) (fun m hm => hok m (hp.mem_iff.1 hm))
 have hm : mergeL l = r := isMerge_unique (mergeL_is l) (merge_perm hp h hz)
 have hf : AllFit l := by
  intro k hk
  obtain ⟨x, hx, e⟩ := (mem_keysOf _ _ _).1 hk
  rw [msum_perm hp, ← e, msum_nodup (sorted_keys h) (hp.mem_iff.1 hx)]
  exact (hok x (hp.mem_iff.1 hx)).2.2
 have e : mergeR l = (r, 0) := by unfold mergeR; rw [if_pos hf, hm]
 rw [e] at hE
 exact hE
section
variable {V H s t : Int} {hold : Bool} {l0 : List S54}
theorem log1 (n : Nat) : (atLoop V H hold s t l0 n).2.1 = movesK (kindsB V H hold s t l0 n) := by rw [(rel_ats n).mv, rAts_kinds]
theorem log2 (n : Nat) : (atLoop V H hold s t l0 n).2.2 = waitsK (kindsB V H hold s t l0 n) := by rw [(rel_ats n).wt, rAts_kinds]
theorem arcs1 (n : Nat) : (atLoop V H hold s t l0 n).1 = (kindsB V H hold s t l0 n).map (arcK V l0) := by rw [(rel_ats n).same, (rel_ats (hold := hold) n).arcs, rAts_kinds]
theorem kind_move {n : Nat} {k : S83} (hk : k ∈ kindsB V H hold s t l0 n) (h : k.f0 = true) : ∃ a i : Nat, a < n ∧ i < l0.length ∧ k = ⟨true, false, (i : Int), 0, (a : Int)⟩ ∧ (a : Int) + (l0.getD i z54).f3 ≤ H ∧ (l0.getD i z54).f1 ≠ s ∧ (l0.getD i z54).f0 ≠ t := by
 obtain ⟨a, ha, ⟨i, hi, hm⟩ | ⟨v, hv, hm⟩⟩ := mem_kindsB.1 hk
 ·rw [mvAt_some] at hm
  exact ⟨a, i, ha, hi, hm.2, hm.1⟩
 ·rw [wtAt_some] at hm
  rw [hm.2] at h; cases h
theorem kind_wait {n : Nat} {k : S83} (hk : k ∈ kindsB V H hold s t l0 n) (h : k.f1 = true) : ∃ a v : Nat, a < n ∧ v < V.toNat ∧ k = ⟨false, true, 0, (v : Int), (a : Int)⟩ ∧ (a : Int) < H ∧ hold = true ∧ (v : Int) ≠ s ∧ (v : Int) ≠ t := by
 obtain ⟨a, ha, ⟨i, hi, hm⟩ | ⟨v, hv, hm⟩⟩ := mem_kindsB.1 hk
 ·rw [mvAt_some] at hm
  rw [hm.2] at h; cases h
 ·rw [wtAt_some] at hm
  exact ⟨a, v, ha, hv, hm.2, hm.1⟩
theorem gridArcs_get {i : Nat} {k : S83} (h : (kindsB V H hold s t l0 (H.toNat + 1))[i]? = some k) : (gridArcs V H hold s t l0)[i]? = some (arcK V l0 k) := by
 have hi := (List.getElem?_eq_some_iff.1 h).1
 unfold gridArcs
 rw [arcs1, List.append_assoc, List.getElem?_append_left (by rw [List.length_map]; exact hi), List.getElem?_map, h]
 rfl
theorem withinB_at {lf : List Int} {arcs : List S54} (h : withinB lf arcs = true) {i : Nat} {a : S54} (hi : arcs[i]? = some a) : 0 ≤ rd lf (i : Int) ∧ rd lf (i : Int) ≤ a.f2 := by
 unfold withinB at h
 obtain ⟨hl, e⟩ := List.getElem?_eq_some_iff.1 hi
 have := List.all_eq_true.1 h i (List.mem_range.2 hl)
 rw [rdA_of hl, e] at this
 exact of_decide_eq_true this
theorem grid_len (hok : okNet V H l0 = true) : (gridArcs V H hold s t l0).length ≤ 300000 := by
 unfold okNet at hok
 simp only [Bool.and_eq_true, decide_eq_true_eq] at hok
 obtain ⟨⟨hV0, hV1, hH0, hH1, hl⟩, hall⟩ := hok
 have h1 := (atLoop_bal (H := H) (s := s) (t := t) (hold := hold) hV1 hl (H.toNat + 1)).2
 unfold gridArcs
 rw [List.length_append, List.length_append, firstsA_length, lastsA_length]
 omega
theorem grid_told (hok : okNet V H l0 = true) (lf : List Int) (hlen : lf.length = (gridArcs V H hold s t l0).length) (hw : withinB lf (gridArcs V H hold s t l0) = true) :
 (((atLoop V H hold s t l0 (H.toNat + 1)).2.1).map (·.1)).Nodup ∧ (∀ p ∈ (atLoop V H hold s t l0 (H.toNat + 1)).2.1, 0 ≤ p.2 ∧ p.2 < (lf.length : Int)) ∧ (atLoop V H hold s t l0 (H.toNat + 1)).2.1.length ≤ 1048576 ∧
 ∀ vis, vis.Perm (atLoop V H hold s t l0 (H.toNat + 1)).2.1 → ∃ k, table_Moves.f k (toldL lf vis) = some (toldL lf (atLoop V H hold s t l0 (H.toNat + 1)).2.1, 0) := by
 unfold okNet at hok
 simp only [Bool.and_eq_true, decide_eq_true_eq] at hok
 obtain ⟨⟨hV0, hV1, hH0, hH1, hl⟩, hall⟩ := hok
 rw [log1]
 have hs := movesK_sorted (kindsB_sorted (V := V) (H := H) (s := s) (t := t) (hold := hold) (l0 := l0) (H.toNat + 1))
 have hKl : (kindsB V H hold s t l0 (H.toNat + 1)).length ≤ 256250 := by
  have h1 := (atLoop_bal (H := H) (s := s) (t := t) (hold := hold) hV1 hl (H.toNat + 1)).2
  rw [arcs1, List.length_map] at h1
  omega
 have hKg : (kindsB V H hold s t l0 (H.toNat + 1)).length ≤ (gridArcs V H hold s t l0).length := by
  unfold gridArcs
  rw [arcs1, List.length_append, List.length_append, List.length_map]; omega
 have hml := movesK_len (kindsB V H hold s t l0 (H.toNat + 1))
 refine ⟨kord_nodup hs, ?_, by omega, ?_⟩
 ·intro p hp
  obtain ⟨i, k, hi, _, rfl⟩ := movesK_mem.1 hp
  have := (List.getElem?_eq_some_iff.1 hi).1
  simp only
  omega
 ·intro vis hvis
  have hE := moves_perm (l := toldL lf vis) (r := toldL lf (movesK (kindsB V H hold s t l0 (H.toNat + 1)))) (by unfold toldL; exact hvis.filterMap _) (told_sorted hs) ?_ ?_ (by have := toldL_length lf (movesK (kindsB V H hold s t l0 (H.toNat + 1))); omega)
  ·obtain ⟨k, hk⟩ := hE
   exact ⟨k, hk k (Nat.le_refl _)⟩
  ·intro m hm
   obtain ⟨i, _, h1, h2⟩ := told_mem.1 hm
   omega
  ·intro m hm
   obtain ⟨i, h0, h1, h2⟩ := told_mem.1 hm
   obtain ⟨j, k, hj, hk, e⟩ := movesK_mem.1 h0
   obtain ⟨a, q, ha, hq, rfl, _⟩ := kind_move (List.mem_of_getElem? hj) hk
   simp only [Prod.mk.injEq] at e
   obtain ⟨⟨e1, e2⟩, rfl⟩ := e
   have hb := withinB_at hw (gridArcs_get hj)
   have hc : (arcK V l0 ⟨true, false, (q : Int), 0, (a : Int)⟩).f2 = (l0.getD q z54).f2 := rfl
   rw [hc] at hb
   have ho := List.all_eq_true.1 hall (l0.getD q z54) (by rw [List.getD_eq_getElem?_getD, List.getElem?_eq_getElem hq]; exact List.getElem_mem _)
   unfold okA at ho
   simp only [decide_eq_true_eq] at ho
   unfold OkM fits
   rw [e1, e2, h2]
   omega
end
theorem zip_lt (K : List S83) : K.zipIdx.Pairwise (fun p q => p.2 < q.2) := by
 rw [← List.pairwise_map (f := Prod.snd) (R := (· < ·)), List.zipIdx_map_snd]
 exact List.pairwise_lt_range'
theorem waitsK_idx (K : List S83) : (waitsK K).Pairwise (fun p q => p.2 < q.2) := by
 unfold waitsK
 rw [List.pairwise_filterMap]
 refine (zip_lt K).imp ?_
 rintro ⟨x, i⟩ ⟨y, j⟩ hk p hp q hq
 unfold wtK at hp hq
 simp only at hp hq hk
 split at hp
 ·split at hq
  ·simp only [Option.some.injEq] at hp hq
   subst hp; subst hq
   show (i : Int) < (j : Int)
   omega
  ·cases hq
 ·cases hp
def setAll {α : Type} (l : List α) (at_ : α → Nat) (val : α → Int) (o : List Int) : List Int := l.foldl (fun o p => o.set (at_ p) (val p)) o
theorem setAll_length {α : Type} (l : List α) (at_ : α → Nat) (val : α → Int) (o : List Int) : (setAll l at_ val o).length = o.length := by
 unfold setAll
 induction l generalizing o with
 | nil => rfl
 | cons x l ih => rw [List.foldl_cons, ih, List.length_set]
theorem setAll_snoc {α : Type} (l : List α) (x : α) (at_ : α → Nat) (val : α → Int) (o : List Int) : setAll (l ++ [x]) at_ val o = (setAll l at_ val o).set (at_ x) (val x) := by
 unfold setAll; rw [List.foldl_append]; rfl
theorem setAll_other {α : Type} (l : List α) (at_ : α → Nat) (val : α → Int) (o : List Int) {j : Nat} (h : ∀ x ∈ l, at_ x ≠ j) : (setAll l at_ val o)[j]? = o[j]? := by
 unfold setAll
 induction l generalizing o with
 | nil => rfl
 | cons x l ih =>
  rw [List.foldl_cons, ih _ (fun y hy => h y (List.mem_cons_of_mem _ hy)), List.getElem?_set_ne (h x List.mem_cons_self)]
theorem setAll_at {α : Type} (l : List α) (at_ : α → Nat) (val : α → Int) (o : List Int) (hp : l.Pairwise (fun x y => at_ x ≠ at_ y)) {x : α} (hx : x ∈ l) (hl : at_ x < o.length) : (setAll l at_ val o)[at_ x]? = some (val x) := by
 induction l generalizing o with
 | nil => cases hx
 | cons y l ih =>
  rw [List.pairwise_cons] at hp
  show (setAll l at_ val (o.set (at_ y) (val y)))[at_ x]? = some (val x)
  rcases List.mem_cons.1 hx with rfl | hx
  ·rw [setAll_other l at_ val _ (fun z hz e => hp.1 z hz e.symm), List.getElem?_set_self (by exact hl)]
  ·exact ih _ hp.2 hx (by rw [List.length_set]; exact hl)
theorem setAll_perm {α : Type} {l l' : List α} (hp : l.Perm l') (at_ : α → Nat) (val : α → Int) (o : List Int) (hd : l'.Pairwise (fun x y => at_ x ≠ at_ y)) (hl : ∀ x ∈ l', at_ x < o.length) : setAll l at_ val o = setAll l' at_ val o := by
 have hd2 : l.Pairwise (fun x y => at_ x ≠ at_ y) := (hp.pairwise_iff (fun h => h.symm)).2 hd
 refine List.ext_getElem? fun j => ?_
 by_cases c : ∃ x ∈ l', at_ x = j
 ·obtain ⟨x, hx, rfl⟩ := c
  rw [setAll_at l' at_ val o hd hx (hl x hx), setAll_at l at_ val o hd2 (hp.mem_iff.2 hx) (hl x hx)]
 ·rw [setAll_other l' at_ val o (fun x hx e => c ⟨x, hx, e⟩), setAll_other l at_ val o (fun x hx e => c ⟨x, hp.mem_iff.1 hx, e⟩)]
section
variable {V H s t : Int} {hold : Bool} {l0 : List S54}
structure Log2 (H V : Int) (n : Nat) (l2 : List ((Int × Int) × Int)) : Prop where
 keys : (l2.map (·.1)).Nodup
 idx : l2.Pairwise (fun p q => p.2.toNat ≠ q.2.toNat)
 bd : ∀ p ∈ l2, (0 ≤ p.2 ∧ p.2 < (n : Int)) ∧ (0 ≤ p.1.2 ∧ p.1.2 ≤ H) ∧ (0 ≤ p.1.1 ∧ p.1.1 < V)
 len : l2.length ≤ 300000
theorem log2_ok (hok : okNet V H l0 = true) : Log2 H V (gridArcs V H hold s t l0).length (atLoop V H hold s t l0 (H.toNat + 1)).2.2 := by
 have hgl := grid_len (hold := hold) (s := s) (t := t) hok
 have hKg : (kindsB V H hold s t l0 (H.toNat + 1)).length ≤ (gridArcs V H hold s t l0).length := by
  unfold gridArcs
  rw [arcs1, List.length_append, List.length_append, List.length_map]; omega
 rw [log2]
 refine ⟨kord_nodup (waitsK_sorted (kindsB_sorted _)), ?_, ?_, ?_⟩
 ·have hmem : ∀ p ∈ waitsK (kindsB V H hold s t l0 (H.toNat + 1)), 0 ≤ p.2 := fun p hp => by
   obtain ⟨i, k, _, _, rfl⟩ := waitsK_mem.1 hp
   exact Int.natCast_nonneg i
  refine List.Pairwise.imp_of_mem ?_ (waitsK_idx _)
  intro p q hp hq hpq
  have := hmem p hp
  have := hmem q hq
  omega
 ·intro p hp
  obtain ⟨i, k, hi, hk, rfl⟩ := waitsK_mem.1 hp
  have hlt := (List.getElem?_eq_some_iff.1 hi).1
  obtain ⟨a, v, ha, hv, rfl, h1, _⟩ := kind_wait (List.mem_of_getElem? hi) hk
  refine ⟨⟨by show (0 : Int) ≤ (i : Int); omega, by show (i : Int) < _; omega⟩, ⟨by show (0 : Int) ≤ (a : Int); omega, by show (a : Int) ≤ _; omega⟩, ⟨by show (0 : Int) ≤ (v : Int); omega, by show (v : Int) < _; omega⟩⟩
 ·unfold waitsK
  refine Nat.le_trans (List.length_filterMap_le _ _) ?_
  rw [List.length_zipIdx]; omega
end
end Go.Proofs.Ytfhkkbpkajfdlaa.P
end
section
namespace Go.Proofs.Ytfhkkbpkajfdlaa.Q
open Go.RowKit Go.Maps Go.Proofs.YtfhkkbpkajfdlaaW.PrintWords Go.Proofs.YtfhkkbpkajfdlaaW.PrintLast Go.Proofs.YtfhkkbpkajfdlaaW.PrintMore
def gridMoves (V H : Int) (hold : Bool) (s t : Int) (l0 : List S54) : List ((Int × Int) × Int) := (atLoop V H hold s t l0 (H.toNat + 1)).2.1
def expand_Moves.f (k : Nat) (a0_0 : Int) (a0_1 : Bool) (l0_2 : List S54) (a1 a2 a3 : Int) (l4 : List Int) : Option (List S85 × Int) := (expand_Asked.f k a0_0 a0_1 l0_2 a1 a2 a3).bind fun e => if e = 0 then (if okNet a0_0 a3 l0_2 = true ∧ (0 ≤ a1 ∧ a1 < a0_0 ∧ 0 ≤ a2 ∧ a2 < a0_0) then (if l4.length = (gridArcs a0_0 a3 a0_1 a1 a2 l0_2).length then (if withinB l4 (gridArcs a0_0 a3 a0_1 a1 a2 l0_2) = true then some (toldL l4 (gridMoves a0_0 a3 a0_1 a1 a2 l0_2), 0) else some ([], 71)) else some ([], 71)) else none) else some ([], e)
theorem within_bad {lf : List Int} {arcs : List S54} {i : Nat} (hi : i < arcs.length) (h : ¬ (0 ≤ rd lf (i : Int) ∧ rd lf (i : Int) ≤ (rd_T54 arcs (i : Int)).f2)) : withinB lf arcs = false := by
 cases e : withinB lf arcs
 ·rfl
 ·exact absurd (of_decide_eq_true (List.all_eq_true.1 e i (List.mem_range.2 hi))) h
theorem within_all {lf : List Int} {arcs : List S54} (h : ∀ i, i < arcs.length → 0 ≤ rd lf (i : Int) ∧ rd lf (i : Int) ≤ (rd_T54 arcs (i : Int)).f2) : withinB lf arcs = true :=
 List.all_eq_true.2 (fun i hi => decide_eq_true (h i (List.mem_range.1 hi)))
set_option maxHeartbeats 8000000 in
set_option maxRecDepth 100000 in
theorem expand_Moves.calls (k : Nat) (a0_0 : Int) (a0_1 : Bool) (A0_2 : Option Addr) (c0_2 : Nat) (l0_2 : List S54) (a1 a2 a3 : Int) (A4 : Option Addr) (c4 : Nat) (l4 : List Int) (r1 : List S85) (r2 : Int) (w : World) (hr0_2 : Kd.C k54 w A0_2 l0_2.length l0_2) (hc0_2 : l0_2.length ≤ c0_2) (hr4 : Kd.C (Kd.int .i64) w A4 l4.length l4) (hc4 : l4.length ≤ c4) (h : expand_Moves.f k a0_0 a0_1 l0_2 a1 a2 a3 l4 = some (r1, r2)) :
 Calls Try.prog 21 #[.agg #[.int .i64 a0_0, .bool a0_1, .slice A0_2 l0_2.length c0_2], .int .i64 a1, .int .i64 a2, .int .i64 a3, .slice A4 l4.length c4] w fun e w' => ∃ v0_ : Value, e = .returned (.tuple #[v0_, .int .i64 r2]) ∧ Kd.R k85 85 w' w.heap.size (fun _ => True) v0_ r1 ∧ Below w.heap.size w w' := by
 have hu24 := Try.underlying24
 have hu54 := Try.underlying54
 have hu76 := Try.underlying76
 have HR0 := am_ hr0_2
 have HC0 := am_ hc0_2
 have HR4 := am_ hr4
 have HC4 := am_ hc4
 have HB := am_ (Below.refl w.heap.size w)
 clear hr0_2 hc0_2 hr4 hc4
 unfold expand_Moves.f at h
 replace h := Option.bind_eq_some_iff.1 h
 obtain ⟨e, he, h⟩ := h
 have HE := am_ he
 clear he
 by_cases c : e = 0
 ·rw [if_pos c] at h
  split at h
  case isFalse => cases h
  rename_i hh
  have HOK := am_ hh.1
  have HEN := am_ hh.2
  have c1 : (e == 0) = true := beq_iff_eq.2 c
  have c2 : (e != 0) = false := by rw [c]; rfl
  have HGL := am_ (P.grid_len (hold := a0_1) (s := a1) (t := a2) hh.1)
  have HGT := am_ (P.grid_told (hold := a0_1) (s := a1) (t := a2) hh.1 l4)
  clear hh c
  unfold gridMoves at h
  have HLE := am_ h
  clear h
  by_cases cq : l4.length = (gridArcs a0_0 a3 a0_1 a1 a2 l0_2).length
  ·have cl : ((l4.length : Int) != ((gridArcs a0_0 a3 a0_1 a1 a2 l0_2).length : Int)) = false := by rw [cq]; exact bne_self_eq_false _
   have HCQ := am_ cq
   clear cq
   go_enter Try.func21, Try.ntmps21
   go_wp2_with (first
    | ((with_reducible refine gate_dst (N := 5) rfl ?_); refine box_event ?hg (N := 5) ?hd (cs := #[.int .i64 a0_0, .bool a0_1, .slice A0_2 l0_2.length c0_2]) (t := 24) ?hr ?_; (case hd => rfl); (case hg => rfl); (case hr => first | (go_simp; done) | (go_simp; rfl)); intro gn hg w2 hbox hb; replace HB := am_ (below_step HB.out hb); have BKn := am_ hbox; clear hb hbox hg; have zn0 : w2.cell? ⟨gn, 0, none⟩ = some (.int .i64 a0_0) := (blk_cell BKn.out 0).trans rfl; have zn1 : w2.cell? ⟨gn, 1, none⟩ = some (.bool a0_1) := (blk_cell BKn.out 1).trans rfl; have zn2 : w2.cell? ⟨gn, 2, none⟩ = some (.slice A0_2 l0_2.length c0_2) := (blk_cell BKn.out 2).trans rfl)
    | (go_at_call 38; (with_reducible refine (expand_Asked.calls k a0_0 a0_1 A0_2 c0_2 l0_2 a1 a2 a3 e _ ?side11 HC0.out HE.out).mono ?_); (case side11 => exact (Kd.C_below HR0.out HB.out)); rintro e4 w4 ⟨rfl, hb⟩; have n0_ := am_ (below_step HB.out hb); have n1_ := am_ (blk_below BKn.out hb); clear HB BKn zn0 zn1 zn2 hb; have HB := n0_; have BKn := n1_; clear n0_ n1_; have zn0 : w4.cell? ⟨gn, 0, none⟩ = some (.int .i64 a0_0) := (blk_cell BKn.out 0).trans rfl; have zn1 : w4.cell? ⟨gn, 1, none⟩ = some (.bool a0_1) := (blk_cell BKn.out 1).trans rfl; have zn2 : w4.cell? ⟨gn, 2, none⟩ = some (.slice A0_2 l0_2.length c0_2) := (blk_cell BKn.out 2).trans rfl)
    | (go_at_call 39; refine (expand_Of.calls a0_0 a3 a1 a2 a0_1 A0_2 c0_2 l0_2 _ (Kd.C_below HR0.out HB.out) HC0.out HOK.out HEN.out.1 HEN.out.2.1 HEN.out.2.2.1 HEN.out.2.2.2).mono ?_; rintro e5 w5 ⟨gg, v, m1, m2, m3, m4, rfl, hG, hb⟩; obtain ⟨Av, cv, ev⟩ := Kd.R_slice hG.row; generalize gridArcs a0_0 a3 a0_1 a1 a2 l0_2 = arcs at hG ev HLE HGT HGL HCQ cl; generalize (atLoop a0_0 a3 a0_1 a1 a2 l0_2 (a3.toNat + 1)).2.1 = l1 at hG HLE HGT; subst ev; have n0_ := am_ (hG.lower (below_size HB.out)); have n1_ := am_ (below_step HB.out hb); clear HB BKn zn0 zn1 zn2 hb hG; have HG := n0_; have HB := n1_; clear n0_ n1_; have zg2 : w5.cell? ⟨gg, 2, none⟩ = some (.slice Av arcs.length cv) := (blk_cell HG.out.blk 2).trans rfl))
   clear zg2
   go_loopg [44] arcs.length (fun kq vi w' => ∃ (j : Nat), vi = .int .i64 (j : Int) ∧ Aside0 (j + kq = arcs.length) ∧ Aside0 (∀ i : Nat, i < j → 0 ≤ rd l4 (i : Int) ∧ rd l4 (i : Int) ≤ (rd_T54 arcs (i : Int)).f2) ∧ Aside0 (GridW w' w.heap.size (fun _ => True) gg ((a3 + 1) * a0_0 + 2) a0_0 (.slice Av arcs.length cv) arcs m1 m2 m3 m4 l1 (atLoop a0_0 a3 a0_1 a1 a2 l0_2 (a3.toNat + 1)).2.2 (placesL (atLoop a0_0 a3 a0_1 a1 a2 l0_2 (a3.toNat + 1)).1.length (a3.toNat + 1)) (placesL ((atLoop a0_0 a3 a0_1 a1 a2 l0_2 (a3.toNat + 1)).1.length + (a3.toNat + 1)) (a3.toNat + 1))) ∧ Aside0 (Below w.heap.size w w'))
   case atStart => exact ⟨0, rfl, ⟨Nat.zero_add _⟩, ⟨fun i hi => absurd hi (Nat.not_lt_zero _)⟩, HG, HB⟩
   case round =>
    clear HG HB
    obtain ⟨j, rfl, HJ, HW, HG, HB⟩ := hrel
    have hJ := HJ.out
    cases gk with
    | zero =>
     have hj : j = arcs.length := by omega
     have d1 : decide ((j : Int) < (arcs.length : Int)) = false := decide_eq_false (by omega)
     subst hj
     have hwi := within_all HW.out
     have h := HLE.out
     rw [if_pos HCQ.out, if_pos hwi] at h
     simp only [Option.some.injEq, Prod.mk.injEq] at h
     obtain ⟨rfl, rfl⟩ := h
     have HQ := am_ (HGT.out HCQ.out hwi)
     clear hwi hJ HJ HLE HGT
     go_wp2_with (first
      | (go_at_call 42; (with_reducible refine (Grid_Told.calls gg _ _ _ _ _ _ m1 l1 A4 c4 l4 _ HG.out.blk HG.out.M1 HQ.out.1 (Kd.C_below HR4.out HB.out) HC4.out HQ.out.2.1 HQ.out.2.2.1 HQ.out.2.2.2).mono ?_); rintro e w9 ⟨v9, rfl, ho, hb⟩; have n0_ := am_ (Kd.R_lower ho (below_size HB.out)); have n1_ := am_ (below_step HB.out hb); clear HB HG ho hb; have HO := n0_; have HB := n1_; clear n0_ n1_))
     go_ret2
     exact ⟨_, rfl, HO.out, HB.out⟩
    | succ gk0 =>
     have hjl : j < arcs.length := by omega
     have d1 : decide ((j : Int) < (arcs.length : Int)) = true := decide_eq_true (by omega)
     have hwj : wrap64 ((j : Int) + 1) = ((j + 1 : Nat) : Int) := P.wrap1 (by have := HGL.out; omega)
     obtain ⟨ad, ea, hx0, hx1, hx2, hx3⟩ := at_T54 (Kd.R_reads' HG.out.row).2.2 (j : Int) (by omega) (by omega)
     cases ea
     obtain ⟨af, eb, hf⟩ := Kd.at_int HR4.out (j : Int) (by omega) (by have := HCQ.out; omega)
     cases eb
     replace hf := (HB.out.cell (World.block_lt_of_cell? w _ hf)).trans hf
     rw [Int.toNat_natCast] at hx0 hx1 hx2 hx3 hf
     have p0 := eq_true (show (0 : Int) ≤ (j : Int) by omega)
     have p1 := eq_true (show (j : Int) < (arcs.length : Int) by omega)
     have p2 := eq_true (show (j : Int) < (l4.length : Int) by have := HCQ.out; omega)
     have HJL := am_ hjl
     have HWJ := am_ hwj
     clear hjl hwj hJ
     generalize hA : rd_T54 arcs (j : Int) = X at hx0 hx1 hx2 hx3
     generalize hF : rd l4 (j : Int) = F at hf
     obtain ⟨X0, X1, X2, X3⟩ := X
     have HA := am_ hA
     have HF := am_ hF
     have hfa := ((below_alloc (Below.refl wr.heap.size wr) (.cells #[.int .i64 X0, .int .i64 X1, .int .i64 X2, .int .i64 X3] 54 (0, 0))).cell (World.block_lt_of_cell? wr _ hf)).trans hf
     clear hA hF
     by_cases b1 : F < 0
     ·have b2 : decide (F < 0) = true := decide_eq_true b1
      have HBAD : Aside0 (¬ (0 ≤ F ∧ F ≤ X2)) := ⟨by omega⟩
      clear b1
      as_aux_lemma =>
       go_wp2
       go_quiet (fail)
       go_wp2
       have hwi : withinB l4 arcs = false := within_bad HJL.out (by rw [HA.out, HF.out]; exact HBAD.out)
       have h := HLE.out
       rw [if_pos HCQ.out, if_neg (by rw [hwi]; exact Bool.false_ne_true)] at h
       simp only [Option.some.injEq, Prod.mk.injEq] at h
       obtain ⟨rfl, rfl⟩ := h
       go_ret2
       exact ⟨_, rfl, Kd.R_nil _ _ _ _ _, by first | exact pw_below_drewN (below_alloc HB.out _) _ | exact below_drew1 (below_alloc HB.out _)⟩
     ·have b2 : decide (F < 0) = false := decide_eq_false b1
      by_cases b3 : F > X2
      ·have b4 : decide (F > X2) = true := decide_eq_true b3
       have HBAD : Aside0 (¬ (0 ≤ F ∧ F ≤ X2)) := ⟨by omega⟩
       clear b1 b3
       as_aux_lemma =>
        go_wp2
        go_quiet (fail)
        go_wp2
        have hwi : withinB l4 arcs = false := within_bad HJL.out (by rw [HA.out, HF.out]; exact HBAD.out)
        have h := HLE.out
        rw [if_pos HCQ.out, if_neg (by rw [hwi]; exact Bool.false_ne_true)] at h
        simp only [Option.some.injEq, Prod.mk.injEq] at h
        obtain ⟨rfl, rfl⟩ := h
        go_ret2
        exact ⟨_, rfl, Kd.R_nil _ _ _ _ _, by first | exact pw_below_drewN (below_alloc HB.out _) _ | exact below_drew1 (below_alloc HB.out _)⟩
      ·have b4 : decide (F > X2) = false := decide_eq_false b3
       have HOKB : Aside0 (0 ≤ F ∧ F ≤ X2) := ⟨by omega⟩
       clear b1 b3
       as_aux_lemma =>
        go_wp2
        go_quiet (fail)
        go_wp2
        go_roundg gk0
        case measure => omega
        case rel =>
         refine ⟨j + 1, congrArg (Value.int .i64) HWJ.out, ⟨by have := HJ.out; omega⟩, ⟨fun i hi => ?_⟩, ⟨?_⟩, ⟨?_⟩⟩
         ·by_cases hij : i = j
          ·subst hij; rw [HA.out, HF.out]; exact HOKB.out
          ·exact HW.out i (by omega)
         ·exact HG.out.below (by first | exact pw_below_drewN (below_alloc (Below.refl _ _) _) _ | exact below_drew1 (below_alloc (Below.refl _ _) _))
         ·first | exact pw_below_drewN (below_alloc HB.out _) _ | exact below_drew1 (below_alloc HB.out _)
  ·have cl : ((l4.length : Int) != ((gridArcs a0_0 a3 a0_1 a1 a2 l0_2).length : Int)) = true := bne_iff_ne.2 (fun e_ => cq (by omega))
   have HCQ := am_ cq
   clear cq
   go_enter Try.func21, Try.ntmps21
   go_wp2_with (first
    | ((with_reducible refine gate_dst (N := 5) rfl ?_); refine box_event ?hg (N := 5) ?hd (cs := #[.int .i64 a0_0, .bool a0_1, .slice A0_2 l0_2.length c0_2]) (t := 24) ?hr ?_; (case hd => rfl); (case hg => rfl); (case hr => first | (go_simp; done) | (go_simp; rfl)); intro gn hg w2 hbox hb; replace HB := am_ (below_step HB.out hb); have BKn := am_ hbox; clear hb hbox hg; have zn0 : w2.cell? ⟨gn, 0, none⟩ = some (.int .i64 a0_0) := (blk_cell BKn.out 0).trans rfl; have zn1 : w2.cell? ⟨gn, 1, none⟩ = some (.bool a0_1) := (blk_cell BKn.out 1).trans rfl; have zn2 : w2.cell? ⟨gn, 2, none⟩ = some (.slice A0_2 l0_2.length c0_2) := (blk_cell BKn.out 2).trans rfl)
    | (go_at_call 38; (with_reducible refine (expand_Asked.calls k a0_0 a0_1 A0_2 c0_2 l0_2 a1 a2 a3 e _ ?side14 HC0.out HE.out).mono ?_); (case side14 => exact (Kd.C_below HR0.out HB.out)); rintro e4 w4 ⟨rfl, hb⟩; have n0_ := am_ (below_step HB.out hb); have n1_ := am_ (blk_below BKn.out hb); clear HB BKn zn0 zn1 zn2 hb; have HB := n0_; have BKn := n1_; clear n0_ n1_; have zn0 : w4.cell? ⟨gn, 0, none⟩ = some (.int .i64 a0_0) := (blk_cell BKn.out 0).trans rfl; have zn1 : w4.cell? ⟨gn, 1, none⟩ = some (.bool a0_1) := (blk_cell BKn.out 1).trans rfl; have zn2 : w4.cell? ⟨gn, 2, none⟩ = some (.slice A0_2 l0_2.length c0_2) := (blk_cell BKn.out 2).trans rfl)
    | (go_at_call 39; refine (expand_Of.calls a0_0 a3 a1 a2 a0_1 A0_2 c0_2 l0_2 _ (Kd.C_below HR0.out HB.out) HC0.out HOK.out HEN.out.1 HEN.out.2.1 HEN.out.2.2.1 HEN.out.2.2.2).mono ?_; rintro e5 w5 ⟨gg, v, m1, m2, m3, m4, rfl, hG, hb⟩; obtain ⟨Av, cv, ev⟩ := Kd.R_slice hG.row; generalize gridArcs a0_0 a3 a0_1 a1 a2 l0_2 = arcs at hG ev HLE HGT HGL HCQ cl; generalize (atLoop a0_0 a3 a0_1 a1 a2 l0_2 (a3.toNat + 1)).2.1 = l1 at hG HLE HGT; subst ev; have n0_ := am_ (hG.lower (below_size HB.out)); have n1_ := am_ (below_step HB.out hb); clear HB BKn zn0 zn1 zn2 hb hG; have HG := n0_; have HB := n1_; clear n0_ n1_; have zg2 : w5.cell? ⟨gg, 2, none⟩ = some (.slice Av arcs.length cv) := (blk_cell HG.out.blk 2).trans rfl))
   have h := HLE.out
   rw [if_neg HCQ.out] at h
   simp only [Option.some.injEq, Prod.mk.injEq] at h
   obtain ⟨rfl, rfl⟩ := h
   go_ret2
   exact ⟨_, rfl, Kd.R_nil _ _ _ _ _, HB.out⟩
 ·rw [if_neg c] at h
  simp only [Option.some.injEq, Prod.mk.injEq] at h
  obtain ⟨rfl, rfl⟩ := h
  have c1 : (e == 0) = false := beq_eq_false_iff_ne.2 c
  have c2 : (e != 0) = true := bne_iff_ne.2 c
  clear c
  have HOK := am_ (trivial : True)
  have HEN := HOK
  have HLE := HOK
  have HGT := HOK
  have HGL := HOK
  have cl := HOK
  have HCQ := HOK
  go_enter Try.func21, Try.ntmps21
  go_wp2_with (first
   | ((with_reducible refine gate_dst (N := 5) rfl ?_); refine box_event ?hg (N := 5) ?hd (cs := #[.int .i64 a0_0, .bool a0_1, .slice A0_2 l0_2.length c0_2]) (t := 24) ?hr ?_; (case hd => rfl); (case hg => rfl); (case hr => first | (go_simp; done) | (go_simp; rfl)); intro gn hg w2 hbox hb; replace HB := am_ (below_step HB.out hb); have BKn := am_ hbox; clear hb hbox hg; have zn0 : w2.cell? ⟨gn, 0, none⟩ = some (.int .i64 a0_0) := (blk_cell BKn.out 0).trans rfl; have zn1 : w2.cell? ⟨gn, 1, none⟩ = some (.bool a0_1) := (blk_cell BKn.out 1).trans rfl; have zn2 : w2.cell? ⟨gn, 2, none⟩ = some (.slice A0_2 l0_2.length c0_2) := (blk_cell BKn.out 2).trans rfl)
   | (go_at_call 38; (with_reducible refine (expand_Asked.calls k a0_0 a0_1 A0_2 c0_2 l0_2 a1 a2 a3 e _ ?side15 HC0.out HE.out).mono ?_); (case side15 => exact (Kd.C_below HR0.out HB.out)); rintro e4 w4 ⟨rfl, hb⟩; have n0_ := am_ (below_step HB.out hb); have n1_ := am_ (blk_below BKn.out hb); clear HB BKn zn0 zn1 zn2 hb; have HB := n0_; have BKn := n1_; clear n0_ n1_; have zn0 : w4.cell? ⟨gn, 0, none⟩ = some (.int .i64 a0_0) := (blk_cell BKn.out 0).trans rfl; have zn1 : w4.cell? ⟨gn, 1, none⟩ = some (.bool a0_1) := (blk_cell BKn.out 1).trans rfl; have zn2 : w4.cell? ⟨gn, 2, none⟩ = some (.slice A0_2 l0_2.length c0_2) := (blk_cell BKn.out 2).trans rfl)
   | (go_at_call 39; refine (expand_Of.calls a0_0 a3 a1 a2 a0_1 A0_2 c0_2 l0_2 _ (Kd.C_below HR0.out HB.out) HC0.out HOK.out HEN.out.1 HEN.out.2.1 HEN.out.2.2.1 HEN.out.2.2.2).mono ?_; rintro e5 w5 ⟨gg, v, m1, m2, m3, m4, rfl, hG, hb⟩; obtain ⟨Av, cv, ev⟩ := Kd.R_slice hG.row; generalize gridArcs a0_0 a3 a0_1 a1 a2 l0_2 = arcs at hG ev HLE HGT HGL HCQ cl; generalize (atLoop a0_0 a3 a0_1 a1 a2 l0_2 (a3.toNat + 1)).2.1 = l1 at hG HLE HGT; subst ev; have n0_ := am_ (hG.lower (below_size HB.out)); have n1_ := am_ (below_step HB.out hb); clear HB BKn zn0 zn1 zn2 hb hG; have HG := n0_; have HB := n1_; clear n0_ n1_; have zg2 : w5.cell? ⟨gg, 2, none⟩ = some (.slice Av arcs.length cv) := (blk_cell HG.out.blk 2).trans rfl))
  go_ret2
  exact ⟨_, rfl, Kd.R_nil _ _ _ _ _, HB.out⟩
end Go.Proofs.Ytfhkkbpkajfdlaa.Q
end
section
namespace Go.Proofs.Ytfhkkbpkajfdlaa.Q
open Go.RowKit Go.Proofs.YtfhkkbpkajfdlaaW.PrintWords Go.Proofs.YtfhkkbpkajfdlaaW.PrintLast Go.Proofs.YtfhkkbpkajfdlaaW.PrintMore
def plan_may.f (a0_0 : Int) (a0_1 : Bool) (l0_2 : List (S54)) (a1 : Int) (a2 : Int) (a3 : Int) (a4_0 : Int) (a4_1 : Int) (a4_2 : Int) : Option (Bool) := if a4_0 < 0 then (some false) else (if a4_0 ≥ (l0_2.length : Int) then (some false) else (if a4_1 < 0 then (some false) else (if a4_1 > a3 then (some false) else (if a4_2 < 0 then (some false) else (if 0 ≤ a4_0 then (if a4_0 < (l0_2.length : Int) then (if (wrap64 (a4_1 + ((rd_T54 l0_2 a4_0).f3))) ≤ a3 then (if a4_2 ≤ ((rd_T54 l0_2 a4_0).f2) then (if ((rd_T54 l0_2 a4_0).f1) = a1 then (some false) else (some (((rd_T54 l0_2 a4_0).f0) != a2))) else (some false)) else (some false)) else (none)) else (none))))))
set_option maxHeartbeats 8000000 in
set_option maxRecDepth 100000 in
theorem plan_may.calls (a0_0 : Int) (a0_1 : Bool) (A0_2 : Option Addr) (c0_2 : Nat) (l0_2 : List (S54)) (a1 : Int) (a2 : Int) (a3 : Int) (a4_0 : Int) (a4_1 : Int) (a4_2 : Int) (r : Bool) (w : World) (hr0_2 : Kd.C k54 w A0_2 l0_2.length l0_2) (hc0_2 : l0_2.length ≤ c0_2) (h : plan_may.f a0_0 a0_1 l0_2 a1 a2 a3 a4_0 a4_1 a4_2 = some r) :
  Calls Try.prog 87 #[.agg #[.int .i64 a0_0, .bool a0_1, .slice A0_2 l0_2.length c0_2], .int .i64 a1, .int .i64 a2, .int .i64 a3, .agg #[.int .i64 a4_0, .int .i64 a4_1, .int .i64 a4_2]] w fun e w' => e = .returned (.bool r) ∧ Below w.heap.size w w' := by
 have hu24 := Try.underlying24; have hu85 := Try.underlying85; have hu54 := Try.underlying54; have HR0_2 := am_ hr0_2; have HC0_2 := am_ hc0_2; clear hr0_2 hc0_2; have HB := am_ (Below.refl w.heap.size w); have H : (if a4_0 < 0 then (some false) else (if a4_0 ≥ (l0_2.length : Int) then (some false) else (if a4_1 < 0 then (some false) else (if a4_1 > a3 then (some false) else (if a4_2 < 0 then (some false) else (if 0 ≤ a4_0 then (if a4_0 < (l0_2.length : Int) then (if (wrap64 (a4_1 + ((rd_T54 l0_2 a4_0).f3))) ≤ a3 then (if a4_2 ≤ ((rd_T54 l0_2 a4_0).f2) then (if ((rd_T54 l0_2 a4_0).f1) = a1 then (some false) else (some (((rd_T54 l0_2 a4_0).f0) != a2))) else (some false)) else (some false)) else (none)) else (none))))))) = some r := h; clear h
 by_cases c6 : a4_0 < 0
 ·rw [if_pos c6] at H
  have c6b0 := decide_eq_true c6; clear c6; obtain rfl := Option.some.inj H
  go_enter Try.func87, Try.ntmps87
  go_wp2_with (first | ((with_reducible refine gate_dst (N := 5) rfl ?_); (try (refine gate_guard (by rfl) ?_; dsimp only)); refine bx_ 5 #[.int .i64 a0_0, .bool a0_1, .slice A0_2 l0_2.length c0_2] 24 ?_; intro gb155 hg w7 BK155 hb; have GE155 := ge_ (w := w) hg; replace HB := hst_ hb; clear hb hg) | ((with_reducible refine gate_dst (N := 9) rfl ?_); (try (refine gate_guard (by rfl) ?_; dsimp only)); refine bx_ 9 #[.int .i64 a4_0, .int .i64 a4_1, .int .i64 a4_2] 85 ?_; intro gb156 hg w8 BK156 hb; have GE156 := ge_ (w := w) hg; replace HB := hst_ hb; have NB155_156 := am_ (nl_ BK155.out hg); have NB156_155 := am_ (ng_ BK155.out hg); replace BK155 := am_ (bb_ BK155.out hb); clear hb hg; have hnb9 := NB156_155.out; have hnc9 := NB155_156.out; obtain ⟨hcz10_0, hcz10_1, hcz10_2, hfz10_0, hfz10_1, hfz10_2⟩ := cf3_ BK156.out))
  go_ret
  exact ⟨er_, hb_⟩
 ·rw [if_neg c6] at H
  have c6b0 := decide_eq_false c6; clear c6
  by_cases c11 : a4_0 ≥ (l0_2.length : Int)
  ·rw [if_pos c11] at H
   have c11b0 := decide_eq_true c11; clear c11; obtain rfl := Option.some.inj H
   go_enter Try.func87, Try.ntmps87
   go_wp2_with (first | ((with_reducible refine gate_dst (N := 5) rfl ?_); (try (refine gate_guard (by rfl) ?_; dsimp only)); refine bx_ 5 #[.int .i64 a0_0, .bool a0_1, .slice A0_2 l0_2.length c0_2] 24 ?_; intro gb155 hg w12 BK155 hb; have GE155 := ge_ (w := w) hg; replace HB := hst_ hb; clear hb hg) | ((with_reducible refine gate_dst (N := 9) rfl ?_); (try (refine gate_guard (by rfl) ?_; dsimp only)); refine bx_ 9 #[.int .i64 a4_0, .int .i64 a4_1, .int .i64 a4_2] 85 ?_; intro gb156 hg w13 BK156 hb; have GE156 := ge_ (w := w) hg; replace HB := hst_ hb; have NB155_156 := am_ (nl_ BK155.out hg); have NB156_155 := am_ (ng_ BK155.out hg); replace BK155 := am_ (bb_ BK155.out hb); clear hb hg; have hnb14 := NB156_155.out; have hnc14 := NB155_156.out; obtain ⟨hcz15_0, hcz15_1, hcz15_2, hfz15_0, hfz15_1, hfz15_2⟩ := cf3_ BK156.out; obtain ⟨hcz16_0, hcz16_1, hcz16_2, hfz16_0, hfz16_1, hfz16_2⟩ := cf3_ BK155.out))
   go_ret
   exact ⟨er_, hb_⟩
  ·rw [if_neg c11] at H
   have c11b0 := decide_eq_false c11; clear c11
   by_cases c17 : a4_1 < 0
   ·rw [if_pos c17] at H
    have c17b0 := decide_eq_true c17; clear c17; obtain rfl := Option.some.inj H
    go_enter Try.func87, Try.ntmps87
    go_wp2_with (first | ((with_reducible refine gate_dst (N := 5) rfl ?_); (try (refine gate_guard (by rfl) ?_; dsimp only)); refine bx_ 5 #[.int .i64 a0_0, .bool a0_1, .slice A0_2 l0_2.length c0_2] 24 ?_; intro gb155 hg w18 BK155 hb; have GE155 := ge_ (w := w) hg; replace HB := hst_ hb; clear hb hg) | ((with_reducible refine gate_dst (N := 9) rfl ?_); (try (refine gate_guard (by rfl) ?_; dsimp only)); refine bx_ 9 #[.int .i64 a4_0, .int .i64 a4_1, .int .i64 a4_2] 85 ?_; intro gb156 hg w19 BK156 hb; have GE156 := ge_ (w := w) hg; replace HB := hst_ hb; have NB155_156 := am_ (nl_ BK155.out hg); have NB156_155 := am_ (ng_ BK155.out hg); replace BK155 := am_ (bb_ BK155.out hb); clear hb hg; have hnb20 := NB156_155.out; have hnc20 := NB155_156.out; obtain ⟨hcz21_0, hcz21_1, hcz21_2, hfz21_0, hfz21_1, hfz21_2⟩ := cf3_ BK156.out; obtain ⟨hcz22_0, hcz22_1, hcz22_2, hfz22_0, hfz22_1, hfz22_2⟩ := cf3_ BK155.out))
    go_ret
    exact ⟨er_, hb_⟩
   ·rw [if_neg c17] at H
    have c17b0 := decide_eq_false c17; clear c17
    by_cases c23 : a4_1 > a3
    ·rw [if_pos c23] at H
     have c23b0 := decide_eq_true c23; clear c23; obtain rfl := Option.some.inj H
     go_enter Try.func87, Try.ntmps87
     go_wp2_with (first | ((with_reducible refine gate_dst (N := 5) rfl ?_); (try (refine gate_guard (by rfl) ?_; dsimp only)); refine bx_ 5 #[.int .i64 a0_0, .bool a0_1, .slice A0_2 l0_2.length c0_2] 24 ?_; intro gb155 hg w24 BK155 hb; have GE155 := ge_ (w := w) hg; replace HB := hst_ hb; clear hb hg) | ((with_reducible refine gate_dst (N := 9) rfl ?_); (try (refine gate_guard (by rfl) ?_; dsimp only)); refine bx_ 9 #[.int .i64 a4_0, .int .i64 a4_1, .int .i64 a4_2] 85 ?_; intro gb156 hg w25 BK156 hb; have GE156 := ge_ (w := w) hg; replace HB := hst_ hb; have NB155_156 := am_ (nl_ BK155.out hg); have NB156_155 := am_ (ng_ BK155.out hg); replace BK155 := am_ (bb_ BK155.out hb); clear hb hg; have hnb26 := NB156_155.out; have hnc26 := NB155_156.out; obtain ⟨hcz27_0, hcz27_1, hcz27_2, hfz27_0, hfz27_1, hfz27_2⟩ := cf3_ BK156.out; obtain ⟨hcz28_0, hcz28_1, hcz28_2, hfz28_0, hfz28_1, hfz28_2⟩ := cf3_ BK155.out))
     go_ret
     exact ⟨er_, hb_⟩
    ·rw [if_neg c23] at H
     have c23b0 := decide_eq_false c23; clear c23
     by_cases c29 : a4_2 < 0
     ·rw [if_pos c29] at H
      have c29b0 := decide_eq_true c29; clear c29; obtain rfl := Option.some.inj H
      go_enter Try.func87, Try.ntmps87
      go_wp2_with (first | ((with_reducible refine gate_dst (N := 5) rfl ?_); (try (refine gate_guard (by rfl) ?_; dsimp only)); refine bx_ 5 #[.int .i64 a0_0, .bool a0_1, .slice A0_2 l0_2.length c0_2] 24 ?_; intro gb155 hg w30 BK155 hb; have GE155 := ge_ (w := w) hg; replace HB := hst_ hb; clear hb hg) | ((with_reducible refine gate_dst (N := 9) rfl ?_); (try (refine gate_guard (by rfl) ?_; dsimp only)); refine bx_ 9 #[.int .i64 a4_0, .int .i64 a4_1, .int .i64 a4_2] 85 ?_; intro gb156 hg w31 BK156 hb; have GE156 := ge_ (w := w) hg; replace HB := hst_ hb; have NB155_156 := am_ (nl_ BK155.out hg); have NB156_155 := am_ (ng_ BK155.out hg); replace BK155 := am_ (bb_ BK155.out hb); clear hb hg; have hnb32 := NB156_155.out; have hnc32 := NB155_156.out; obtain ⟨hcz33_0, hcz33_1, hcz33_2, hfz33_0, hfz33_1, hfz33_2⟩ := cf3_ BK156.out; obtain ⟨hcz34_0, hcz34_1, hcz34_2, hfz34_0, hfz34_1, hfz34_2⟩ := cf3_ BK155.out))
      go_ret
      exact ⟨er_, hb_⟩
     ·rw [if_neg c29] at H
      have c29b0 := decide_eq_false c29; clear c29
      replace H := ifn_ H; obtain ⟨c35, H⟩ := H
      have c35b0 := decide_eq_true c35; clear c35
      replace H := ifn_ H; obtain ⟨c36, H⟩ := H
      have c36b0 := decide_eq_true c36; clear c36
      by_cases c37 : (wrap64 (a4_1 + ((rd_T54 l0_2 a4_0).f3))) ≤ a3
      ·rw [if_pos c37] at H
       have c37b0 := decide_eq_true c37; clear c37
       by_cases c38 : a4_2 ≤ ((rd_T54 l0_2 a4_0).f2)
       ·rw [if_pos c38] at H
        have c38b0 := decide_eq_true c38; clear c38
        by_cases c39 : ((rd_T54 l0_2 a4_0).f1) = a1
        ·rw [if_pos c39] at H
         obtain ⟨c39b0, c39b1⟩ := eqb_ c39; clear c39; obtain rfl := Option.some.inj H
         go_enter Try.func87, Try.ntmps87
         go_wp2_with (first | ((with_reducible refine gate_dst (N := 5) rfl ?_); (try (refine gate_guard (by rfl) ?_; dsimp only)); refine bx_ 5 #[.int .i64 a0_0, .bool a0_1, .slice A0_2 l0_2.length c0_2] 24 ?_; intro gb155 hg w40 BK155 hb; have GE155 := ge_ (w := w) hg; replace HB := hst_ hb; clear hb hg) | ((with_reducible refine gate_dst (N := 9) rfl ?_); (try (refine gate_guard (by rfl) ?_; dsimp only)); refine bx_ 9 #[.int .i64 a4_0, .int .i64 a4_1, .int .i64 a4_2] 85 ?_; intro gb156 hg w41 BK156 hb; have GE156 := ge_ (w := w) hg; replace HB := hst_ hb; have NB155_156 := am_ (nl_ BK155.out hg); have NB156_155 := am_ (ng_ BK155.out hg); replace BK155 := am_ (bb_ BK155.out hb); clear hb hg; have hnb42 := NB156_155.out; have hnc42 := NB155_156.out; obtain ⟨hcz43_0, hcz43_1, hcz43_2, hfz43_0, hfz43_1, hfz43_2⟩ := cf3_ BK156.out; obtain ⟨hcz44_0, hcz44_1, hcz44_2, hfz44_0, hfz44_1, hfz44_2⟩ := cf3_ BK155.out; have p157 : 0 ≤ (a4_0 : Int) := of_decide_eq_true sm_; have q157 : a4_0 < (l0_2.length : Int) := of_decide_eq_true sm_; obtain ⟨ad157, e157, hx157_0, hx157_1, hx157_2, hx157_3⟩ := at_T54 HR0_2.out a4_0 p157 q157; cases e157; replace hx157_0 := (HB.out.cell (World.block_lt_of_cell? w _ hx157_0)).trans hx157_0; replace hx157_1 := (HB.out.cell (World.block_lt_of_cell? w _ hx157_1)).trans hx157_1; replace hx157_2 := (HB.out.cell (World.block_lt_of_cell? w _ hx157_2)).trans hx157_2; replace hx157_3 := (HB.out.cell (World.block_lt_of_cell? w _ hx157_3)).trans hx157_3; replace p157 := eq_true p157; replace q157 := eq_true q157) | ((with_reducible refine gate_dst (N := 11) rfl ?_); (try (refine gate_guard (by rfl) ?_; dsimp only)); refine bx_ 11 #[.int .i64 0, .int .i64 0, .int .i64 0, .int .i64 0] 54 ?_; intro gb158 hg w45 BK158 hb; have GE158 := ge_ (w := w) hg; replace HB := hst_ hb; have NB155_158 := am_ (nl_ BK155.out hg); have NB158_155 := am_ (ng_ BK155.out hg); replace BK155 := am_ (bb_ BK155.out hb); have NB156_158 := am_ (nl_ BK156.out hg); have NB158_156 := am_ (ng_ BK156.out hg); replace BK156 := am_ (bb_ BK156.out hb); clear hb hg; have hnb46 := NB158_155.out; have hnc46 := NB155_158.out; have hnb47 := NB158_156.out; have hnc47 := NB156_158.out; obtain ⟨hcz48_0, hcz48_1, hcz48_2, hcz48_3, hfz48_0, hfz48_1, hfz48_2, hfz48_3⟩ := cf4_ BK158.out; obtain ⟨hcz49_0, hcz49_1, hcz49_2, hfz49_0, hfz49_1, hfz49_2⟩ := cf3_ BK156.out))
         go_ret
         exact ⟨er_, hb_⟩
        ·rw [if_neg c39] at H
         obtain ⟨c39b0, c39b1⟩ := neb_ c39; obtain rfl := Option.some.inj H
         go_enter Try.func87, Try.ntmps87
         go_wp2_with (first | ((with_reducible refine gate_dst (N := 5) rfl ?_); (try (refine gate_guard (by rfl) ?_; dsimp only)); refine bx_ 5 #[.int .i64 a0_0, .bool a0_1, .slice A0_2 l0_2.length c0_2] 24 ?_; intro gb155 hg w50 BK155 hb; have GE155 := ge_ (w := w) hg; replace HB := hst_ hb; clear hb hg) | ((with_reducible refine gate_dst (N := 9) rfl ?_); (try (refine gate_guard (by rfl) ?_; dsimp only)); refine bx_ 9 #[.int .i64 a4_0, .int .i64 a4_1, .int .i64 a4_2] 85 ?_; intro gb156 hg w51 BK156 hb; have GE156 := ge_ (w := w) hg; replace HB := hst_ hb; have NB155_156 := am_ (nl_ BK155.out hg); have NB156_155 := am_ (ng_ BK155.out hg); replace BK155 := am_ (bb_ BK155.out hb); clear hb hg; have hnb52 := NB156_155.out; have hnc52 := NB155_156.out; obtain ⟨hcz53_0, hcz53_1, hcz53_2, hfz53_0, hfz53_1, hfz53_2⟩ := cf3_ BK156.out; obtain ⟨hcz54_0, hcz54_1, hcz54_2, hfz54_0, hfz54_1, hfz54_2⟩ := cf3_ BK155.out; have p157 : 0 ≤ (a4_0 : Int) := of_decide_eq_true sm_; have q157 : a4_0 < (l0_2.length : Int) := of_decide_eq_true sm_; obtain ⟨ad157, e157, hx157_0, hx157_1, hx157_2, hx157_3⟩ := at_T54 HR0_2.out a4_0 p157 q157; cases e157; replace hx157_0 := (HB.out.cell (World.block_lt_of_cell? w _ hx157_0)).trans hx157_0; replace hx157_1 := (HB.out.cell (World.block_lt_of_cell? w _ hx157_1)).trans hx157_1; replace hx157_2 := (HB.out.cell (World.block_lt_of_cell? w _ hx157_2)).trans hx157_2; replace hx157_3 := (HB.out.cell (World.block_lt_of_cell? w _ hx157_3)).trans hx157_3; replace p157 := eq_true p157; replace q157 := eq_true q157) | ((with_reducible refine gate_dst (N := 11) rfl ?_); (try (refine gate_guard (by rfl) ?_; dsimp only)); refine bx_ 11 #[.int .i64 0, .int .i64 0, .int .i64 0, .int .i64 0] 54 ?_; intro gb158 hg w55 BK158 hb; have GE158 := ge_ (w := w) hg; replace HB := hst_ hb; have NB155_158 := am_ (nl_ BK155.out hg); have NB158_155 := am_ (ng_ BK155.out hg); replace BK155 := am_ (bb_ BK155.out hb); have NB156_158 := am_ (nl_ BK156.out hg); have NB158_156 := am_ (ng_ BK156.out hg); replace BK156 := am_ (bb_ BK156.out hb); clear hb hg; have hnb56 := NB158_155.out; have hnc56 := NB155_158.out; have hnb57 := NB158_156.out; have hnc57 := NB156_158.out; obtain ⟨hcz58_0, hcz58_1, hcz58_2, hcz58_3, hfz58_0, hfz58_1, hfz58_2, hfz58_3⟩ := cf4_ BK158.out; obtain ⟨hcz59_0, hcz59_1, hcz59_2, hfz59_0, hfz59_1, hfz59_2⟩ := cf3_ BK156.out))
         go_ret
         exact ⟨er_, hb_⟩
       ·rw [if_neg c38] at H
        have c38b0 := decide_eq_false c38; clear c38; obtain rfl := Option.some.inj H
        go_enter Try.func87, Try.ntmps87
        go_wp2_with (first | ((with_reducible refine gate_dst (N := 5) rfl ?_); (try (refine gate_guard (by rfl) ?_; dsimp only)); refine bx_ 5 #[.int .i64 a0_0, .bool a0_1, .slice A0_2 l0_2.length c0_2] 24 ?_; intro gb155 hg w60 BK155 hb; have GE155 := ge_ (w := w) hg; replace HB := hst_ hb; clear hb hg) | ((with_reducible refine gate_dst (N := 9) rfl ?_); (try (refine gate_guard (by rfl) ?_; dsimp only)); refine bx_ 9 #[.int .i64 a4_0, .int .i64 a4_1, .int .i64 a4_2] 85 ?_; intro gb156 hg w61 BK156 hb; have GE156 := ge_ (w := w) hg; replace HB := hst_ hb; have NB155_156 := am_ (nl_ BK155.out hg); have NB156_155 := am_ (ng_ BK155.out hg); replace BK155 := am_ (bb_ BK155.out hb); clear hb hg; have hnb62 := NB156_155.out; have hnc62 := NB155_156.out; obtain ⟨hcz63_0, hcz63_1, hcz63_2, hfz63_0, hfz63_1, hfz63_2⟩ := cf3_ BK156.out; obtain ⟨hcz64_0, hcz64_1, hcz64_2, hfz64_0, hfz64_1, hfz64_2⟩ := cf3_ BK155.out; have p157 : 0 ≤ (a4_0 : Int) := of_decide_eq_true sm_; have q157 : a4_0 < (l0_2.length : Int) := of_decide_eq_true sm_; obtain ⟨ad157, e157, hx157_0, hx157_1, hx157_2, hx157_3⟩ := at_T54 HR0_2.out a4_0 p157 q157; cases e157; replace hx157_0 := (HB.out.cell (World.block_lt_of_cell? w _ hx157_0)).trans hx157_0; replace hx157_1 := (HB.out.cell (World.block_lt_of_cell? w _ hx157_1)).trans hx157_1; replace hx157_2 := (HB.out.cell (World.block_lt_of_cell? w _ hx157_2)).trans hx157_2; replace hx157_3 := (HB.out.cell (World.block_lt_of_cell? w _ hx157_3)).trans hx157_3; replace p157 := eq_true p157; replace q157 := eq_true q157) | ((with_reducible refine gate_dst (N := 11) rfl ?_); (try (refine gate_guard (by rfl) ?_; dsimp only)); refine bx_ 11 #[.int .i64 0, .int .i64 0, .int .i64 0, .int .i64 0] 54 ?_; intro gb158 hg w65 BK158 hb; have GE158 := ge_ (w := w) hg; replace HB := hst_ hb; have NB155_158 := am_ (nl_ BK155.out hg); have NB158_155 := am_ (ng_ BK155.out hg); replace BK155 := am_ (bb_ BK155.out hb); have NB156_158 := am_ (nl_ BK156.out hg); have NB158_156 := am_ (ng_ BK156.out hg); replace BK156 := am_ (bb_ BK156.out hb); clear hb hg; have hnb66 := NB158_155.out; have hnc66 := NB155_158.out; have hnb67 := NB158_156.out; have hnc67 := NB156_158.out; obtain ⟨hcz68_0, hcz68_1, hcz68_2, hcz68_3, hfz68_0, hfz68_1, hfz68_2, hfz68_3⟩ := cf4_ BK158.out; obtain ⟨hcz69_0, hcz69_1, hcz69_2, hfz69_0, hfz69_1, hfz69_2⟩ := cf3_ BK156.out))
        go_ret
        exact ⟨er_, hb_⟩
      ·rw [if_neg c37] at H
       have c37b0 := decide_eq_false c37; clear c37; obtain rfl := Option.some.inj H
       go_enter Try.func87, Try.ntmps87
       go_wp2_with (first | ((with_reducible refine gate_dst (N := 5) rfl ?_); (try (refine gate_guard (by rfl) ?_; dsimp only)); refine bx_ 5 #[.int .i64 a0_0, .bool a0_1, .slice A0_2 l0_2.length c0_2] 24 ?_; intro gb155 hg w70 BK155 hb; have GE155 := ge_ (w := w) hg; replace HB := hst_ hb; clear hb hg) | ((with_reducible refine gate_dst (N := 9) rfl ?_); (try (refine gate_guard (by rfl) ?_; dsimp only)); refine bx_ 9 #[.int .i64 a4_0, .int .i64 a4_1, .int .i64 a4_2] 85 ?_; intro gb156 hg w71 BK156 hb; have GE156 := ge_ (w := w) hg; replace HB := hst_ hb; have NB155_156 := am_ (nl_ BK155.out hg); have NB156_155 := am_ (ng_ BK155.out hg); replace BK155 := am_ (bb_ BK155.out hb); clear hb hg; have hnb72 := NB156_155.out; have hnc72 := NB155_156.out; obtain ⟨hcz73_0, hcz73_1, hcz73_2, hfz73_0, hfz73_1, hfz73_2⟩ := cf3_ BK156.out; obtain ⟨hcz74_0, hcz74_1, hcz74_2, hfz74_0, hfz74_1, hfz74_2⟩ := cf3_ BK155.out; have p157 : 0 ≤ (a4_0 : Int) := of_decide_eq_true sm_; have q157 : a4_0 < (l0_2.length : Int) := of_decide_eq_true sm_; obtain ⟨ad157, e157, hx157_0, hx157_1, hx157_2, hx157_3⟩ := at_T54 HR0_2.out a4_0 p157 q157; cases e157; replace hx157_0 := (HB.out.cell (World.block_lt_of_cell? w _ hx157_0)).trans hx157_0; replace hx157_1 := (HB.out.cell (World.block_lt_of_cell? w _ hx157_1)).trans hx157_1; replace hx157_2 := (HB.out.cell (World.block_lt_of_cell? w _ hx157_2)).trans hx157_2; replace hx157_3 := (HB.out.cell (World.block_lt_of_cell? w _ hx157_3)).trans hx157_3; replace p157 := eq_true p157; replace q157 := eq_true q157) | ((with_reducible refine gate_dst (N := 11) rfl ?_); (try (refine gate_guard (by rfl) ?_; dsimp only)); refine bx_ 11 #[.int .i64 0, .int .i64 0, .int .i64 0, .int .i64 0] 54 ?_; intro gb158 hg w75 BK158 hb; have GE158 := ge_ (w := w) hg; replace HB := hst_ hb; have NB155_158 := am_ (nl_ BK155.out hg); have NB158_155 := am_ (ng_ BK155.out hg); replace BK155 := am_ (bb_ BK155.out hb); have NB156_158 := am_ (nl_ BK156.out hg); have NB158_156 := am_ (ng_ BK156.out hg); replace BK156 := am_ (bb_ BK156.out hb); clear hb hg; have hnb76 := NB158_155.out; have hnc76 := NB155_158.out; have hnb77 := NB158_156.out; have hnc77 := NB156_158.out; obtain ⟨hcz78_0, hcz78_1, hcz78_2, hcz78_3, hfz78_0, hfz78_1, hfz78_2, hfz78_3⟩ := cf4_ BK158.out; obtain ⟨hcz79_0, hcz79_1, hcz79_2, hfz79_0, hfz79_1, hfz79_2⟩ := cf3_ BK156.out))
       go_ret
       exact ⟨er_, hb_⟩
end Go.Proofs.Ytfhkkbpkajfdlaa.Q
end
