/- A part of the proof: words, contracts, plain lemmas. Conditions: none. -/
import Derived.Test.YtdghehebkalbgaaZSmall4
section
namespace Go.Proofs.Ytdghehebkalbgaa.Q
open Go.RowKit Go.Proofs.YtdghehebkalbgaaW.PrintWords Go.Proofs.YtdghehebkalbgaaW.PrintLast Go.Proofs.YtdghehebkalbgaaW.PrintMore
attribute [local go_sem] max2_int min2_int max_two min_two min_four
set_option linter.unusedVariables false
set_option linter.unusedSimpArgs false
mutual
def plan_stocks.l0 : Nat → Int → List (S45) → List (List Int) → Int → Int → Int → Bool → List (S47) → Option ((List (List Int)))
 | 0, _, _, _, _, _, _, _, _ => none
 | k + 1, x1, x2, x7, x19, x20, x163000, x163001, x163002 => if x20 < x19 then (if 0 ≤ x163000 then (if (x163000 : Int).toNat ≤ 35184372088832 then (if 0 ≤ x20 then (if x20 < (x7.length : Int) then (plan_stocks.l0 k x1 x2 (x7.set (x20 : Int).toNat (List.replicate (x163000 : Int).toNat 0)) x19 (wrap64 (x20 + 1)) x163000 x163001 x163002) else (none)) else (none)) else (none)) else (none)) else (plan_stocks.l1 k x1 x7 x2 (x2.length : Int) 0 x163000 x163001 x163002)
def plan_stocks.l1 : Nat → Int → List (List Int) → List (S45) → Int → Int → Int → Bool → List (S47) → Option ((List (List Int)))
 | 0, _, _, _, _, _, _, _, _ => none
 | k + 1, x1, x7, x30, x31, x32, x163000, x163001, x163002 => if x32 < x31 then (if 0 ≤ x32 then (if x32 < (x30.length : Int) then (if 0 ≤ ((rd_T45 x30 x32).f0) then (if ((rd_T45 x30 x32).f0) < (x163002.length : Int) then (if 0 ≤ ((rd_T45 x30 x32).f1) then (if ((rd_T45 x30 x32).f1) < (x7.length : Int) then (if 0 ≤ ((rd_T47 x163002 ((rd_T45 x30 x32).f0)).f0) then (if ((rd_T47 x163002 ((rd_T45 x30 x32).f0)).f0) < ((rd_L3 x7 ((rd_T45 x30 x32).f1)).length : Int) then ((some (x7.set (((rd_T45 x30 x32).f1) : Int).toNat ((rd_L3 x7 ((rd_T45 x30 x32).f1)).set (((rd_T47 x163002 ((rd_T45 x30 x32).f0)).f0) : Int).toNat (wrap64 ((rd (rd_L3 x7 ((rd_T45 x30 x32).f1)) ((rd_T47 x163002 ((rd_T45 x30 x32).f0)).f0)) - ((rd_T45 x30 x32).f2)))) : List (List Int))).bind fun y178 => (if 0 ≤ (wrap64 (((rd_T45 x30 x32).f1) + ((rd_T47 x163002 ((rd_T45 x30 x32).f0)).f3))) then (if (wrap64 (((rd_T45 x30 x32).f1) + ((rd_T47 x163002 ((rd_T45 x30 x32).f0)).f3))) < (x7.length : Int) then (if 0 ≤ ((rd_T47 x163002 ((rd_T45 x30 x32).f0)).f1) then (if ((rd_T47 x163002 ((rd_T45 x30 x32).f0)).f1) < ((rd_L3 y178 (wrap64 (((rd_T45 x30 x32).f1) + ((rd_T47 x163002 ((rd_T45 x30 x32).f0)).f3)))).length : Int) then (plan_stocks.l1 k x1 (y178.set ((wrap64 (((rd_T45 x30 x32).f1) + ((rd_T47 x163002 ((rd_T45 x30 x32).f0)).f3))) : Int).toNat ((rd_L3 y178 (wrap64 (((rd_T45 x30 x32).f1) + ((rd_T47 x163002 ((rd_T45 x30 x32).f0)).f3)))).set (((rd_T47 x163002 ((rd_T45 x30 x32).f0)).f1) : Int).toNat (wrap64 ((rd (rd_L3 y178 (wrap64 (((rd_T45 x30 x32).f1) + ((rd_T47 x163002 ((rd_T45 x30 x32).f0)).f3)))) ((rd_T47 x163002 ((rd_T45 x30 x32).f0)).f1)) + ((rd_T45 x30 x32).f2))))) x30 x31 (wrap64 (x32 + 1)) x163000 x163001 x163002) else (none)) else (none)) else (none)) else (none))) else (none)) else (none)) else (none)) else (none)) else (none)) else (none)) else (none)) else (none)) else (plan_stocks.l2 k x7 x1 0)
def plan_stocks.l2 : Nat → List (List Int) → Int → Int → Option ((List (List Int)))
 | 0, _, _, _ => none
 | k + 1, x7, x72, x73 => if x73 < x72 then (if 0 ≤ x73 then (if x73 < (x7.length : Int) then (plan_stocks.l3 k x7 x73 x72 x73 (rd_L3 x7 x73) ((rd_L3 x7 x73).length : Int) 0) else (none)) else (none)) else (some x7)
def plan_stocks.l3 : Nat → List (List Int) → Int → Int → Int → List Int → Int → Int → Option ((List (List Int)))
 | 0, _, _, _, _, _, _, _ => none
 | k + 1, x7, x12, x72, x73, x79, x80, x81 => if x81 < x80 then (if 0 ≤ x81 then (if x81 < (x79.length : Int) then (if 0 ≤ (wrap64 (x12 + 1)) then (if (wrap64 (x12 + 1)) < (x7.length : Int) then (if x81 < ((rd_L3 x7 (wrap64 (x12 + 1))).length : Int) then (plan_stocks.l3 k (x7.set ((wrap64 (x12 + 1)) : Int).toNat ((rd_L3 x7 (wrap64 (x12 + 1))).set (x81 : Int).toNat (wrap64 ((rd (rd_L3 x7 (wrap64 (x12 + 1))) x81) + (rd x79 x81))))) x12 x72 x73 x79 x80 (wrap64 (x81 + 1))) else (none)) else (none)) else (none)) else (none)) else (none)) else (plan_stocks.l2 k x7 x72 (wrap64 (x73 + 1)))
end
def plan_stocks.f (k : Nat) (a0_0 : Int) (a0_1 : Bool) (l0_2 : List (S47)) (a1 : Int) (l2 : List (S45)) : Option ((List (List Int))) := if 0 ≤ (wrap64 (a1 + 1)) then (if (wrap64 (a1 + 1) : Int).toNat ≤ 11728124029610 then ((some (List.replicate (wrap64 (a1 + 1) : Int).toNat [] : List (List Int))).bind fun y163 => (plan_stocks.l0 k a1 l2 y163 (y163.length : Int) 0 a0_0 a0_1 l0_2)) else (none)) else (none)
theorem plan_stocks.mono_l : ∀ k, (∀ y0 y1 y2 y3 y4 y5 y6 y7, LeO (plan_stocks.l0 k y0 y1 y2 y3 y4 y5 y6 y7) (plan_stocks.l0 (k + 1) y0 y1 y2 y3 y4 y5 y6 y7)) ∧ (∀ y0 y1 y2 y3 y4 y5 y6 y7, LeO (plan_stocks.l1 k y0 y1 y2 y3 y4 y5 y6 y7) (plan_stocks.l1 (k + 1) y0 y1 y2 y3 y4 y5 y6 y7)) ∧ (∀ y0 y1 y2, LeO (plan_stocks.l2 k y0 y1 y2) (plan_stocks.l2 (k + 1) y0 y1 y2)) ∧ (∀ y0 y1 y2 y3 y4 y5 y6, LeO (plan_stocks.l3 k y0 y1 y2 y3 y4 y5 y6) (plan_stocks.l3 (k + 1) y0 y1 y2 y3 y4 y5 y6))
 | 0 => ⟨fun _ _ _ _ _ _ _ _ r h => by simp [plan_stocks.l0] at h, fun _ _ _ _ _ _ _ _ r h => by simp [plan_stocks.l1] at h, fun _ _ _ r h => by simp [plan_stocks.l2] at h, fun _ _ _ _ _ _ _ r h => by simp [plan_stocks.l3] at h⟩
 | k + 1 => by
  obtain ⟨ih0, ih1, ih2, ih3⟩ := plan_stocks.mono_l k; refine ⟨?_, ?_, ?_, ?_⟩
  ·intro y0 y1 y2 y3 y4 y5 y6 y7
   unfold plan_stocks.l0
   repeat' first
   | (with_reducible exact ih0 _ _ _ _ _ _ _ _)
   | (with_reducible exact ih1 _ _ _ _ _ _ _ _)
   | (with_reducible exact ih2 _ _ _)
   | (with_reducible exact ih3 _ _ _ _ _ _ _)
   | (with_reducible exact LeO.refl _)
   | (with_reducible exact LeO.none _)
   | (with_reducible refine LeO.ite ?_ ?_)
   | (with_reducible refine LeO.bind ?_ (fun _ => ?_))
   | exact ih0 _ _ _ _ _ _ _ _
   | exact ih1 _ _ _ _ _ _ _ _
   | exact ih2 _ _ _
   | exact ih3 _ _ _ _ _ _ _
   | exact LeO.none _
   | refine LeO.ite ?_ ?_
   | refine LeO.bind ?_ (fun _ => ?_)
  ·intro y0 y1 y2 y3 y4 y5 y6 y7
   unfold plan_stocks.l1
   repeat' first
   | (with_reducible exact ih0 _ _ _ _ _ _ _ _)
   | (with_reducible exact ih1 _ _ _ _ _ _ _ _)
   | (with_reducible exact ih2 _ _ _)
   | (with_reducible exact ih3 _ _ _ _ _ _ _)
   | (with_reducible exact LeO.refl _)
   | (with_reducible exact LeO.none _)
   | (with_reducible refine LeO.ite ?_ ?_)
   | (with_reducible refine LeO.bind ?_ (fun _ => ?_))
   | exact ih0 _ _ _ _ _ _ _ _
   | exact ih1 _ _ _ _ _ _ _ _
   | exact ih2 _ _ _
   | exact ih3 _ _ _ _ _ _ _
   | exact LeO.none _
   | refine LeO.ite ?_ ?_
   | refine LeO.bind ?_ (fun _ => ?_)
  ·intro y0 y1 y2
   unfold plan_stocks.l2
   repeat' first
   | (with_reducible exact ih0 _ _ _ _ _ _ _ _)
   | (with_reducible exact ih1 _ _ _ _ _ _ _ _)
   | (with_reducible exact ih2 _ _ _)
   | (with_reducible exact ih3 _ _ _ _ _ _ _)
   | (with_reducible exact LeO.refl _)
   | (with_reducible exact LeO.none _)
   | (with_reducible refine LeO.ite ?_ ?_)
   | (with_reducible refine LeO.bind ?_ (fun _ => ?_))
   | exact ih0 _ _ _ _ _ _ _ _
   | exact ih1 _ _ _ _ _ _ _ _
   | exact ih2 _ _ _
   | exact ih3 _ _ _ _ _ _ _
   | exact LeO.none _
   | refine LeO.ite ?_ ?_
   | refine LeO.bind ?_ (fun _ => ?_)
  ·intro y0 y1 y2 y3 y4 y5 y6
   unfold plan_stocks.l3
   repeat' first
   | (with_reducible exact ih0 _ _ _ _ _ _ _ _)
   | (with_reducible exact ih1 _ _ _ _ _ _ _ _)
   | (with_reducible exact ih2 _ _ _)
   | (with_reducible exact ih3 _ _ _ _ _ _ _)
   | (with_reducible exact LeO.refl _)
   | (with_reducible exact LeO.none _)
   | (with_reducible refine LeO.ite ?_ ?_)
   | (with_reducible refine LeO.bind ?_ (fun _ => ?_))
   | exact ih0 _ _ _ _ _ _ _ _
   | exact ih1 _ _ _ _ _ _ _ _
   | exact ih2 _ _ _
   | exact ih3 _ _ _ _ _ _ _
   | exact LeO.none _
   | refine LeO.ite ?_ ?_
   | refine LeO.bind ?_ (fun _ => ?_)
theorem plan_stocks.mono : ∀ a0 a1 a2 a3 a4 k, LeO (plan_stocks.f k a0 a1 a2 a3 a4) (plan_stocks.f (k + 1) a0 a1 a2 a3 a4) := by
 intro a0 a1 a2 a3 a4 k; obtain ⟨ih0, ih1, ih2, ih3⟩ := plan_stocks.mono_l k
 unfold plan_stocks.f
 repeat' first
   | (with_reducible exact ih0 _ _ _ _ _ _ _ _)
   | (with_reducible exact ih1 _ _ _ _ _ _ _ _)
   | (with_reducible exact ih2 _ _ _)
   | (with_reducible exact ih3 _ _ _ _ _ _ _)
   | (with_reducible exact LeO.refl _)
   | (with_reducible exact LeO.none _)
   | (with_reducible refine LeO.ite ?_ ?_)
   | (with_reducible refine LeO.bind ?_ (fun _ => ?_))
   | exact ih0 _ _ _ _ _ _ _ _
   | exact ih1 _ _ _ _ _ _ _ _
   | exact ih2 _ _ _
   | exact ih3 _ _ _ _ _ _ _
   | exact LeO.none _
   | refine LeO.ite ?_ ?_
   | refine LeO.bind ?_ (fun _ => ?_)
def plan_stocks.T11 : Bool × List (List Nat × List Nat) := (true, [([], []), ([], []), ([1], [1]), ([0, 2], [0, 2]), ([3], [3]), ([], []), ([5], [5]), ([4, 6], [4, 6]), ([7], [7]), ([], []), ([9], [9]), ([8, 10], [8, 10]), ([4, 6, 0, 1, 2, 3, 4, 5, 6, 7, 8, 9, 10, 11], [4, 6]), ([12, 11, 0, 1, 2, 3, 4, 5, 6, 7, 8, 9, 10, 11], [11, 12])])
def plan_stocks.B11 : List Nat := [0, 0, 2, 7, 15, 0, 32, 127, 255, 0, 512, 2047, 4095, 8191]
theorem plan_stocks.tab11 : rtab .any (opsOf Try.f25 11) = plan_stocks.T11 := by kernel_rfl
theorem plan_stocks.bits11 : waitsOk plan_stocks.T11.2 plan_stocks.B11 = true := by kernel_rfl
def plan_stocks.T12 : Bool × List (List Nat × List Nat) := (true, [([], []), ([], []), ([1], [1]), ([], []), ([3], [3]), ([2, 4], [2, 4]), ([0, 5], [0, 5]), ([6], [6]), ([], []), ([8], [8]), ([7, 9], [7, 9]), ([10], [10]), ([], []), ([12], [12]), ([11, 13], [11, 13]), ([7, 9, 0, 1, 2, 3, 4, 5, 6, 7, 8, 9, 10, 11, 12, 13, 14], [7, 9]), ([15, 14, 0, 1, 2, 3, 4, 5, 6, 7, 8, 9, 10, 11, 12, 13, 14], [14, 15])])
def plan_stocks.B12 : List Nat := [0, 0, 2, 0, 8, 30, 63, 127, 0, 256, 1023, 2047, 0, 4096, 16383, 32767, 65535]
theorem plan_stocks.tab12 : rtab .any (opsOf Try.f25 12) = plan_stocks.T12 := by kernel_rfl
theorem plan_stocks.bits12 : waitsOk plan_stocks.T12.2 plan_stocks.B12 = true := by kernel_rfl
theorem rd_L3_ne_ {xs : List (List Int)} {a : Nat} {v : List Int} {i : Int} (h : a ≠ i.toNat) : rd_L3 (xs.set a v) i = rd_L3 xs i := by unfold rd_L3; rw [List.getD_eq_getElem?_getD, List.getD_eq_getElem?_getD, List.getElem?_set_ne h]
theorem add_block_ (a : Addr) (j : Nat) : (a.add j).block = a.block := by unfold Addr.add; split <;> rfl
set_option maxHeartbeats 8000000 in
set_option maxRecDepth 100000 in
theorem plan_stocks.calls (k : Nat) (a0_0 : Int) (a0_1 : Bool) (A0_2 : Option Addr) (c0_2 : Nat) (l0_2 : List (S47)) (a1 : Int) (A2 : Option Addr) (c2 : Nat) (l2 : List (S45)) (r : List (List Int)) (w : World) (hr0_2 : Kd.C k47 w A0_2 l0_2.length l0_2) (hc0_2 : l0_2.length ≤ c0_2) (hr2 : Kd.C k45 w A2 l2.length l2) (hc2 : l2.length ≤ c2) (h : plan_stocks.f k a0_0 a0_1 l0_2 a1 l2 = some r) :
  Calls Try.prog 25 #[.agg #[.int .i64 a0_0, .bool a0_1, .slice A0_2 l0_2.length c0_2], .int .i64 a1, .slice A2 l2.length c2] w fun e w' => ∃ v0_ : Value, e = .returned (v0_) ∧ Kd.S (Kd.slice 3 (Kd.int .i64)) 48 w' w.heap.size (fun _ => True) v0_ r ∧ Below w.heap.size w w' := by
 have hu24 := Try.underlying24; have hu45 := Try.underlying45; have hu47 := Try.underlying47; have HR0_2 := am_ hr0_2; have HC0_2 := am_ hc0_2; clear hr0_2 hc0_2; have HR2 := am_ hr2; have HC2 := am_ hc2; clear hr2 hc2; have HB := am_ (Below.refl w.heap.size w); have H : (if 0 ≤ (wrap64 (a1 + 1)) then (if (wrap64 (a1 + 1) : Int).toNat ≤ 11728124029610 then ((some (List.replicate (wrap64 (a1 + 1) : Int).toNat [] : List (List Int))).bind fun y163 => (plan_stocks.l0 k a1 l2 y163 (y163.length : Int) 0 a0_0 a0_1 l0_2)) else (none)) else (none)) = some r := h; clear h; obtain ⟨ji4, hji4⟩ : ∃ j_ : Int, (wrap64 (a1 + 1)) = j_ := ⟨_, rfl⟩
 replace H : (if 0 ≤ (ji4) then (if (ji4 : Int).toNat ≤ 11728124029610 then ((some (List.replicate (ji4 : Int).toNat [] : List (List Int))).bind fun y163 => (plan_stocks.l0 k a1 l2 y163 (y163.length : Int) 0 a0_0 a0_1 l0_2)) else (none)) else (none)) = some r := by first | (rw [hji4] at H; exact H) | (simp only [hji4] at H ⊢; exact H)
 have hji4w : (IntKind.i64.wrap (a1 + 1)) = ji4 := (i64_w _).trans hji4
 by_cases c5 : 0 ≤ (ji4)
 ·rw [if_pos c5] at H
  have c5b0 := eq_true c5; have c5b1 : decide (0 ≤ (ji4)) = true := decide_eq_true c5; clear c5
  by_cases c6 : (ji4 : Int).toNat ≤ 11728124029610
  ·rw [if_pos c6] at H
   have c6b0 := eq_true c6; have c6b1 : decide ((ji4 : Int).toNat ≤ 11728124029610) = true := decide_eq_true c6; clear c6; obtain ⟨y163, hy163⟩ : ∃ y_ : List (List Int), y_ = (List.replicate (ji4 : Int).toNat []) := ⟨_, rfl⟩
   replace H : (plan_stocks.l0 k a1 l2 y163 (y163.length : Int) 0 a0_0 a0_1 l0_2) = some r := by first | (rw [hy163]; with_reducible exact H) | (have H2_ := (Option.bind_some _ _).symm.trans H; rw [hy163]; with_reducible exact H2_) | (have H2_ := (Option.bind_some _ _).symm.trans H; with_reducible exact H2_) | with_reducible exact H | (rw [hy163]; exact H) | exact H
   have Ny163 := am_ hy163; clear hy163; have H' := am_ H; clear H
   go_enter Try.func25, Try.ntmps25
   go_wp2_with (first | ((with_reducible refine gate_dst (N := 3) rfl ?_); refine box_event ?hg (N := 3) ?hd (cs := #[.int .i64 a0_0, .bool a0_1, .slice A0_2 l0_2.length c0_2]) (t := 24) ?hr ?_; (case hd => rfl); (case hg => rfl); (case hr => first | (go_simp; done) | (go_simp; rfl)); intro gb162 hg w7 hbox hb; have BK162 := am_ (hbox); have GE162 := am_ ((by rw [hg]; exact (below_size hb_) : w.heap.size ≤ gb162)); replace HB := am_ (below_step hb_ hb); clear hb hbox hg) | ((with_reducible refine gate_dst (N := 17) rfl ?_); refine Kd.S_make (Kd.slice 3 (Kd.int .i64)) _ 48 rfl (N := 17) rfl 27 _ _ rfl ji4 rfl rfl Try.underlying27 (.slice none 0 0) 24 info48 rfl (by decide) (by omega) [] (ok := fun _ => True) (okp := fun _ => True) ⟨_, rfl, Kd.R_nil _ _ _ _ _⟩ (fun _ hk => hk) trivial (of_decide_eq_true sm_) (Nat.le_trans (Nat.mul_le_mul_right _ (of_decide_eq_true sm_ : ji4.toNat ≤ 11728124029610)) (by omega)) (Below.refl _ _) (Nat.le_refl _) ?_; intro v164 w8 ho9 hb hg_ hnew_; clear hg_ hnew_; (first | rw [← Ny163.out] at ho9 | (simp only [Int.reduceToNat] at ho9; rw [← Ny163.out] at ho9)); have HO165 := am_ (Kd.S_lower ho9 (below_size hb_)); replace BK162 := am_ (blk_below (g := gb162) (o := .cells #[.int .i64 a0_0, .bool a0_1, .slice A0_2 l0_2.length c0_2] 24 (0, 0)) (bq_ BK162.out) hb); replace HB := am_ (below_step hb_ hb); clear hb ho9; obtain ⟨Ao10, co10, eo10⟩ := Kd.S_slice HO165.out; subst eo10))
   go_loopg [20] k (fun kq v20 w' => ∃ (x7_1 : List (List Int)) (x20_1 : Int), v20 = .int .i64 x20_1 ∧ Aside0 (plan_stocks.l0 kq a1 l2 x7_1 (y163.length : Int) x20_1 a0_0 a0_1 l0_2 = some r) ∧ Aside0 (kq ≤ k) ∧ Aside0 (Kd.S (Kd.slice 3 (Kd.int .i64)) 48 w' w.heap.size (fun _ => True) (.slice Ao10 y163.length co10) x7_1) ∧ Aside0 (w'.heap[gb162]? = some (.cells #[.int .i64 a0_0, .bool a0_1, (.slice A0_2 l0_2.length c0_2)] 24 (0, 0))) ∧ Aside0 (Below w.heap.size w w'))
   case atStart => exact ⟨(y163), (0), rs_, H', ⟨Nat.le_refl _⟩, ⟨by refine sq_ ?_; exact HO165.out⟩, ⟨by refine bq_ ?_; exact BK162.out⟩, ⟨by repeat (first | (with_reducible first | exact HB.out | apply below_alloc | apply pw_below_drewN | apply below_drew1 | refine below_set ?_ GE162.out) | exact HB.out)⟩⟩
   case round =>
    clear H'
    try clear c2
    try clear p2
    try clear c5
    try clear c5b0
    try clear c5b1
    try clear c6
    try clear c6b0
    try clear c6b1
    try clear p6
    obtain ⟨x7_1, x20_1, rfl, HA, HK1, HO_7, BK162, HB⟩ := hrel; have hl7_1 := (Kd.S_reads' HO_7.out).1; rw [hl7_1] at HO_7
    (try simp only [hl7_1])
    (try simp only [hl7_1] at BK162)
    cases gk with
    | zero => exact absurd HA.out (by simp [plan_stocks.l0])
    | succ k1 =>
     have H := HA.out; clear HA; simp only [plan_stocks.l0] at H
     by_cases c11 : x20_1 < (y163.length : Int)
     ·rw [if_pos c11] at H
      have c11b0 : decide (x20_1 < (y163.length : Int)) = true := decide_eq_true c11
      (try (have c11b0r0 := c11b0; simp only [hl7_1] at c11b0r0))
      clear c11
      by_cases c12 : 0 ≤ a0_0
      ·rw [if_pos c12] at H
       have c12b0 := eq_true c12; have c12b1 : decide (0 ≤ a0_0) = true := decide_eq_true c12; clear c12
       by_cases c13 : (a0_0 : Int).toNat ≤ 35184372088832
       ·rw [if_pos c13] at H
        have c13b0 := eq_true c13; have c13b1 : decide ((a0_0 : Int).toNat ≤ 35184372088832) = true := decide_eq_true c13; clear c13; obtain ⟨y166, hy166⟩ : ∃ y_ : List Int, y_ = (List.replicate (a0_0 : Int).toNat 0) := ⟨_, rfl⟩
        replace H : (if 0 ≤ x20_1 then (if x20_1 < (x7_1.length : Int) then (plan_stocks.l0 k1 a1 l2 (x7_1.set (x20_1 : Int).toNat y166) (y163.length : Int) (wrap64 (x20_1 + 1)) a0_0 a0_1 l0_2) else (none)) else (none)) = some r := by first | (rw [hy166]; with_reducible exact H) | (have H2_ := (Option.bind_some _ _).symm.trans H; rw [hy166]; with_reducible exact H2_) | (have H2_ := (Option.bind_some _ _).symm.trans H; with_reducible exact H2_) | with_reducible exact H | (rw [hy166]; exact H) | exact H
        have Ny166 := am_ hy166; clear hy166
        by_cases c14 : 0 ≤ x20_1
        ·rw [if_pos c14] at H
         have c14b0 : decide (0 ≤ x20_1) = true := decide_eq_true c14; clear c14
         by_cases c15 : x20_1 < (x7_1.length : Int)
         ·rw [if_pos c15] at H
          have c15b0 : decide (x20_1 < (x7_1.length : Int)) = true := decide_eq_true c15
          (try (have c15b0r0 := c15b0; simp only [hl7_1] at c15b0r0))
          clear c15; obtain ⟨y169, hy169⟩ : ∃ y_ : List (List Int), y_ = (x7_1.set (x20_1 : Int).toNat y166) := ⟨_, rfl⟩
          replace H : (plan_stocks.l0 k1 a1 l2 y169 (y163.length : Int) (wrap64 (x20_1 + 1)) a0_0 a0_1 l0_2) = some r := by first | (rw [hy169]; with_reducible exact H) | (have H2_ := (Option.bind_some _ _).symm.trans H; rw [hy169]; with_reducible exact H2_) | (have H2_ := (Option.bind_some _ _).symm.trans H; with_reducible exact H2_) | with_reducible exact H | (rw [hy169]; exact H) | exact H
          have Ny169 := am_ hy169; clear hy169; have H' := am_ H; clear H; have hcz17_0 : wr.cell? ⟨gb162, 0, none⟩ = some (.int .i64 a0_0) := (blk_cell BK162.out 0).trans rfl; have hcz17_1 : wr.cell? ⟨gb162, 1, none⟩ = some (.bool a0_1) := (blk_cell BK162.out 1).trans rfl; have hcz17_2 : wr.cell? ⟨gb162, 2, none⟩ = some (.slice A0_2 l0_2.length c0_2) := (blk_cell BK162.out 2).trans rfl; have hfz17_0 := blk_frozen BK162.out 0; have hfz17_1 := blk_frozen BK162.out 1; have hfz17_2 := blk_frozen BK162.out 2
          go_wp2_with (first | ((with_reducible refine gate_dst (N := 27) rfl ?_); refine Kd.R_make (Kd.int .i64) _ 3 rfl (N := 27) rfl 48 _ _ rfl a0_0 rfl rfl Try.underlying48 (.int .i64 0) 8 info3 rfl (by decide) (by omega) 0 (ok := fun _ => True) (okp := fun _ => True) rfl (fun _ hk => hk) trivial (of_decide_eq_true sm_) (Nat.le_trans (Nat.mul_le_mul_right _ (of_decide_eq_true sm_ : a0_0.toNat ≤ 35184372088832)) (by omega)) (Below.refl _ _) (Nat.le_refl _) ?_; intro v167 w18 ho19 hb hg_ hnew_; clear hg_ hnew_; (first | rw [← Ny166.out] at ho19 | (simp only [Int.reduceToNat] at ho19; rw [← Ny166.out] at ho19)); replace HO_7 := am_ (Kd.S_elder' (sq_ HO_7.out) (Kd.R_base ho19) hb); have HO168 := am_ (Kd.R_lower ho19 (below_size hb_)); replace BK162 := am_ (blk_below (g := gb162) (o := .cells #[.int .i64 a0_0, .bool a0_1, .slice A0_2 l0_2.length c0_2] 24 (0, 0)) (bq_ BK162.out) hb); replace HB := am_ (below_step hb_ hb); clear hb ho19; have p16 : 0 ≤ (x20_1 : Int) := of_decide_eq_true sm_; have q16 : (x20_1 : Int) < ((x7_1.length : Int) : Int) := of_decide_eq_true sm_; obtain ⟨go16, co16, eo16, gb16, gl16, cl16, HG16⟩ := Kd.S_form HO_7.out (by omega); (first | cases eo16 | (injection eo16 with ea_ en_ ec_; (first | subst ea_ | (injection ea_ with ea_; subst ea_)); subst ec_; clear en_)); have GB16 := am_ gb16; have GG16 := am_ HG16; clear gb16 gl16 HG16; obtain ⟨_, ce16, hcl16, hM16, hcc16, hfr16, _, _⟩ := Kd.S_elem HO_7.out [] (x20_1 : Int) p16 q16; obtain ⟨ve16_0, rfl, ge16_0⟩ := hM16; have hx16_0 := hcc16 0 _ rfl; have hf16_0 := hfr16 0; (try simp only [show ((Kd.slice 3 (Kd.int .i64))).sz = 1 from rfl, Nat.mul_one, Nat.add_zero] at hx16_0); (try simp only [show ((Kd.slice 3 (Kd.int .i64))).sz = 1 from rfl, Nat.mul_one, Nat.add_zero] at hf16_0); clear hcl16 hcc16 hfr16; replace p16 := eq_true p16; replace q16 := eq_true q16; have n_ := am_ (Kd.S_mono (ok' := (fun k_ => some k_ ≠ (v167 : Value).ownBlock)) HO_7.out (fun k_ hk => hk.2)); clear HO_7; have HO_7 := n_; clear n_; have HX20 := am_ (show Kd.S (Kd.slice 3 (Kd.int .i64)) 48 w18 w.heap.size (fun k_ => ((fun _ => True)) k_ ∧ ¬ ((fun k_ => some k_ = (v167 : Value).ownBlock)) k_) (.slice (some ⟨go16, 0, none⟩) x7_1.length co10) x7_1 from (by refine sq_ ?_; exact Kd.S_mono HO_7.out (fun k_ hk => ⟨trivial, fun e_ => hk e_⟩))); obtain ⟨oki20, ce20, hcl20, hM20, hcc20, hfr20, hoki20, hH20⟩ := Kd.S_elem HX20.out [] (x20_1 : Int) (of_decide_eq_true sm_) (by have h_ : (x20_1 : Int) < ((x7_1.length : Int) : Int) := of_decide_eq_true sm_; first | exact h_ | (have e_ := (Kd.S_reads' HO_7.out).1; omega) | simpa using h_); obtain ⟨ve20_0, rfl, ge20_0⟩ := hM20; have HP20 := Kd.S_seg hH20 (of_decide_eq_true sm_) (by have h_ : (x20_1 : Int) < ((x7_1.length : Int) : Int) := of_decide_eq_true sm_; first | exact h_ | (have e_ := (Kd.S_reads' HO_7.out).1; omega) | simpa using h_) (seg := [v167]) (j := 0) (show 1 ≤ 1 from by decide) (x' := y166) (Kd.M_row (Kd.R_mono (Kd.R_tight rfl (Kd.R_mono (ok' := fun k_ => ((fun _ => True)) k_ ∧ k_ ≠ go16) (Kd.R_apart' (HO168.out) (Kd.S_typed HO_7.out) (by decide)) (fun k_ hk => ⟨trivial, fun e_ => (hk.2) (by rw [e_]; rfl)⟩))) (fun _ h_ => Or.inr (h_)))) (fun _ hk => hk) (fun k_ hk_ => ((Kd.R_mono (ok' := fun k_ => ((fun _ => True)) k_ ∧ k_ ≠ go16) (Kd.R_apart' (HO168.out) (Kd.S_typed HO_7.out) (by decide)) (fun k_ hk => ⟨trivial, fun e_ => (hk.2) (by rw [e_]; rfl)⟩))).1 k_ hk_.symm); have hx20_0 := hcc20 0 _ rfl; (try simp only [show ((Kd.slice 3 (Kd.int .i64))).sz = 1 from rfl, Nat.mul_one, Nat.add_zero] at hx20_0); have hf20_0 := hfr20 0; (try simp only [show ((Kd.slice 3 (Kd.int .i64))).sz = 1 from rfl, Nat.mul_one, Nat.add_zero] at hf20_0); clear hcl20 hcc20 hfr20 hoki20 hH20; (try simp only [show ((Kd.slice 3 (Kd.int .i64))).sz = 1 from rfl, Nat.mul_one, Nat.add_zero] at HP20)) | ((with_reducible refine gate_store (t := 48) (p := 28) rfl ?_); refine store_event (t := 48) (p := 28) (v := ?vo_w21) (w1 := (w18.setCell ⟨go16, (x20_1 : Int).toNat, none⟩ (v167))) ?hg ?ho ?hn ?hr ?_; (case ho => rfl); (case hg => rfl); (case hn => rfl); (case hr => first | (go_simp; done) | (go_simp; rfl) | (obtain ⟨A_, c_, e_⟩ := Kd.R_slice (‹Aside0 (Kd.R _ _ _ _ _ v167 _)›).out; subst e_; first | (go_simp; done) | (go_simp; rfl))); intro w21 hw; have hg : w18.grownBy w21 (some go16) := (by rw [hw]; exact HP20.2); have hp_ : Kd.S (Kd.slice 3 (Kd.int .i64)) 48 w21 w.heap.size (fun _ => True) (.slice (some ⟨go16, 0, none⟩) x7_1.length co10) y169 := (by rw [hw, Ny169.out]; exact HP20.1); clear HP20; replace BK162 := am_ (blk_grown (g := gb162) (o := .cells #[.int .i64 a0_0, .bool a0_1, .slice A0_2 l0_2.length c0_2] 24 (0, 0)) (bq_ BK162.out) hg (Kd.S_ne HO_7.out BK162.out (by decide))); replace HO_7 := am_ (hp_); replace HB := am_ ((by rw [hw]; exact below_set (HB.out) GB16.out : Below w.heap.size w w21)); clear HO168; clear hg hw hp_))
          (try simp only [← hl7_1])
          go_roundg k1
          case measure => have := HK1.out; omega
          case rel => exact ⟨(y169), (wrap64 (x20_1 + 1)), rs_, H', ⟨by have := HK1.out; omega⟩, ⟨by (try simp only [hl7_1]); refine sq_ ?_; exact HO_7.out⟩, ⟨by (try simp only [hl7_1]); refine bq_ ?_; exact BK162.out⟩, ⟨by repeat (first | (with_reducible first | exact HB.out | apply below_alloc | apply pw_below_drewN | apply below_drew1 | refine below_set ?_ GE162.out) | exact HB.out)⟩⟩
         ·rw [if_neg c15] at H
          exact absurd H (by simp)
        ·rw [if_neg c14] at H
         exact absurd H (by simp)
       ·rw [if_neg c13] at H
        exact absurd H (by simp)
      ·rw [if_neg c12] at H
       exact absurd H (by simp)
     ·rw [if_neg c11] at H
      have c11b0 : decide (x20_1 < (y163.length : Int)) = false := decide_eq_false c11
      (try (have c11b0r0 := c11b0; simp only [hl7_1] at c11b0r0))
      clear c11; have H' := am_ H; clear H
      go_wp2
      go_loopg [32] k1 (fun kq v32 w' => ∃ (x7_2 : List (List Int)) (x32_2 : Int), v32 = .int .i64 x32_2 ∧ Aside0 (plan_stocks.l1 kq a1 x7_2 l2 (l2.length : Int) x32_2 a0_0 a0_1 l0_2 = some r) ∧ Aside0 (kq ≤ k1) ∧ Aside0 (Kd.S (Kd.slice 3 (Kd.int .i64)) 48 w' w.heap.size (fun _ => True) (.slice Ao10 x7_1.length co10) x7_2) ∧ Aside0 (w'.heap[gb162]? = some (.cells #[.int .i64 a0_0, .bool a0_1, (.slice A0_2 l0_2.length c0_2)] 24 (0, 0))) ∧ Aside0 (Below w.heap.size w w'))
      case atStart => exact ⟨(x7_1), (0), rs_, H', ⟨Nat.le_refl _⟩, ⟨by (try simp only [hl7_1]); refine sq_ ?_; exact HO_7.out⟩, ⟨by (try simp only [hl7_1]); refine bq_ ?_; exact BK162.out⟩, ⟨by repeat (first | (with_reducible first | exact HB.out | apply below_alloc | apply pw_below_drewN | apply below_drew1 | refine below_set ?_ GE162.out) | exact HB.out)⟩⟩
      case round =>
       clear H'
       try clear c1
       try clear p1
       try clear q1
       try clear hx1
       try clear c2
       try clear p2
       try clear hx2
       try clear c5
       try clear c5b0
       try clear c5b1
       try clear c6
       try clear c6b0
       try clear c6b1
       try clear p6
       try clear c11
       try clear c11b0
       try clear c12
       try clear c12b0
       try clear c12b1
       try clear c13
       try clear c13b0
       try clear c13b1
       try clear c14
       try clear c14b0
       try clear c15
       try clear c15b0
       try clear c16
       try clear p16
       try clear q16
       try clear hx16
       try clear hf16
       try clear c20
       try clear hx20
       try clear hf20
       try clear hcz17_0
       try clear hcz17_1
       try clear hcz17_2
       try clear hfz17_0
       try clear hfz17_1
       try clear hfz17_2
       try clear hx16_0
       try clear hx20_0
       try clear p16
       try clear p2
       try clear p6
       try clear q16
       obtain ⟨x7_2, x32_2, rfl, HA, HK2, HO_7, BK162, HB⟩ := hrel; have hl7_2 := (Kd.S_reads' HO_7.out).1; rw [hl7_2] at HO_7
       (try simp only [hl7_2])
       (try simp only [hl7_2] at BK162)
       cases gk with
       | zero => exact absurd HA.out (by simp [plan_stocks.l1])
       | succ k2 =>
        have H := HA.out; clear HA; simp only [plan_stocks.l1] at H
        by_cases c22 : x32_2 < (l2.length : Int)
        ·rw [if_pos c22] at H
         have c22b0 : decide (x32_2 < (l2.length : Int)) = true := decide_eq_true c22
         (try (have c22b0r0 := c22b0; simp only [hl7_1] at c22b0r0))
         (try (have c22b0r1 := c22b0; simp only [hl7_2] at c22b0r1))
         clear c22
         by_cases c23 : 0 ≤ x32_2
         ·rw [if_pos c23] at H
          have c23b0 : decide (0 ≤ x32_2) = true := decide_eq_true c23; clear c23
          by_cases c24 : x32_2 < (l2.length : Int)
          ·rw [if_pos c24] at H
           have c24b0 : decide (x32_2 < (l2.length : Int)) = true := decide_eq_true c24
           (try (have c24b0r0 := c24b0; simp only [hl7_1] at c24b0r0))
           (try (have c24b0r1 := c24b0; simp only [hl7_2] at c24b0r1))
           clear c24
           by_cases c25 : 0 ≤ ((rd_T45 l2 x32_2).f0)
           ·rw [if_pos c25] at H
            have c25b0 : decide (0 ≤ ((rd_T45 l2 x32_2).f0)) = true := decide_eq_true c25; clear c25
            by_cases c26 : ((rd_T45 l2 x32_2).f0) < (l0_2.length : Int)
            ·rw [if_pos c26] at H
             have c26b0 : decide (((rd_T45 l2 x32_2).f0) < (l0_2.length : Int)) = true := decide_eq_true c26
             (try (have c26b0r0 := c26b0; simp only [hl7_1] at c26b0r0))
             (try (have c26b0r1 := c26b0; simp only [hl7_2] at c26b0r1))
             clear c26
             by_cases c27 : 0 ≤ ((rd_T45 l2 x32_2).f1)
             ·rw [if_pos c27] at H
              have c27b0 : decide (0 ≤ ((rd_T45 l2 x32_2).f1)) = true := decide_eq_true c27; clear c27
              by_cases c28 : ((rd_T45 l2 x32_2).f1) < (x7_2.length : Int)
              ·rw [if_pos c28] at H
               have c28b0 : decide (((rd_T45 l2 x32_2).f1) < (x7_2.length : Int)) = true := decide_eq_true c28
               (try (have c28b0r0 := c28b0; simp only [hl7_1] at c28b0r0))
               (try (have c28b0r1 := c28b0; simp only [hl7_2] at c28b0r1))
               clear c28
               by_cases c29 : 0 ≤ ((rd_T47 l0_2 ((rd_T45 l2 x32_2).f0)).f0)
               ·rw [if_pos c29] at H
                have c29b0 : decide (0 ≤ ((rd_T47 l0_2 ((rd_T45 l2 x32_2).f0)).f0)) = true := decide_eq_true c29; clear c29
                by_cases c30 : ((rd_T47 l0_2 ((rd_T45 l2 x32_2).f0)).f0) < ((rd_L3 x7_2 ((rd_T45 l2 x32_2).f1)).length : Int)
                ·rw [if_pos c30] at H
                 have c30b0 : decide (((rd_T47 l0_2 ((rd_T45 l2 x32_2).f0)).f0) < ((rd_L3 x7_2 ((rd_T45 l2 x32_2).f1)).length : Int)) = true := decide_eq_true c30
                 (try (have c30b0r0 := c30b0; simp only [hl7_1] at c30b0r0))
                 (try (have c30b0r1 := c30b0; simp only [hl7_2] at c30b0r1))
                 clear c30; obtain ⟨y176, hy176⟩ : ∃ y_ : List Int, y_ = ((rd_L3 x7_2 ((rd_T45 l2 x32_2).f1)).set (((rd_T47 l0_2 ((rd_T45 l2 x32_2).f0)).f0) : Int).toNat (wrap64 ((rd (rd_L3 x7_2 ((rd_T45 l2 x32_2).f1)) ((rd_T47 l0_2 ((rd_T45 l2 x32_2).f0)).f0)) - ((rd_T45 l2 x32_2).f2)))) := ⟨_, rfl⟩
                 replace H : ((some (x7_2.set (((rd_T45 l2 x32_2).f1) : Int).toNat y176 : List (List Int))).bind fun y178 => (if 0 ≤ (wrap64 (((rd_T45 l2 x32_2).f1) + ((rd_T47 l0_2 ((rd_T45 l2 x32_2).f0)).f3))) then (if (wrap64 (((rd_T45 l2 x32_2).f1) + ((rd_T47 l0_2 ((rd_T45 l2 x32_2).f0)).f3))) < (x7_2.length : Int) then (if 0 ≤ ((rd_T47 l0_2 ((rd_T45 l2 x32_2).f0)).f1) then (if ((rd_T47 l0_2 ((rd_T45 l2 x32_2).f0)).f1) < ((rd_L3 y178 (wrap64 (((rd_T45 l2 x32_2).f1) + ((rd_T47 l0_2 ((rd_T45 l2 x32_2).f0)).f3)))).length : Int) then (plan_stocks.l1 k2 a1 (y178.set ((wrap64 (((rd_T45 l2 x32_2).f1) + ((rd_T47 l0_2 ((rd_T45 l2 x32_2).f0)).f3))) : Int).toNat ((rd_L3 y178 (wrap64 (((rd_T45 l2 x32_2).f1) + ((rd_T47 l0_2 ((rd_T45 l2 x32_2).f0)).f3)))).set (((rd_T47 l0_2 ((rd_T45 l2 x32_2).f0)).f1) : Int).toNat (wrap64 ((rd (rd_L3 y178 (wrap64 (((rd_T45 l2 x32_2).f1) + ((rd_T47 l0_2 ((rd_T45 l2 x32_2).f0)).f3)))) ((rd_T47 l0_2 ((rd_T45 l2 x32_2).f0)).f1)) + ((rd_T45 l2 x32_2).f2))))) l2 (l2.length : Int) (wrap64 (x32_2 + 1)) a0_0 a0_1 l0_2) else (none)) else (none)) else (none)) else (none))) = some r := by first | (rw [hy176]; with_reducible exact H) | (have H2_ := (Option.bind_some _ _).symm.trans H; rw [hy176]; with_reducible exact H2_) | (have H2_ := (Option.bind_some _ _).symm.trans H; with_reducible exact H2_) | with_reducible exact H | (rw [hy176]; exact H) | exact H
                 have Ny176 := am_ hy176; clear hy176; obtain ⟨y178, hy178⟩ : ∃ y_ : List (List Int), y_ = (x7_2.set (((rd_T45 l2 x32_2).f1) : Int).toNat y176) := ⟨_, rfl⟩
                 replace H : (if 0 ≤ (wrap64 (((rd_T45 l2 x32_2).f1) + ((rd_T47 l0_2 ((rd_T45 l2 x32_2).f0)).f3))) then (if (wrap64 (((rd_T45 l2 x32_2).f1) + ((rd_T47 l0_2 ((rd_T45 l2 x32_2).f0)).f3))) < (x7_2.length : Int) then (if 0 ≤ ((rd_T47 l0_2 ((rd_T45 l2 x32_2).f0)).f1) then (if ((rd_T47 l0_2 ((rd_T45 l2 x32_2).f0)).f1) < ((rd_L3 y178 (wrap64 (((rd_T45 l2 x32_2).f1) + ((rd_T47 l0_2 ((rd_T45 l2 x32_2).f0)).f3)))).length : Int) then (plan_stocks.l1 k2 a1 (y178.set ((wrap64 (((rd_T45 l2 x32_2).f1) + ((rd_T47 l0_2 ((rd_T45 l2 x32_2).f0)).f3))) : Int).toNat ((rd_L3 y178 (wrap64 (((rd_T45 l2 x32_2).f1) + ((rd_T47 l0_2 ((rd_T45 l2 x32_2).f0)).f3)))).set (((rd_T47 l0_2 ((rd_T45 l2 x32_2).f0)).f1) : Int).toNat (wrap64 ((rd (rd_L3 y178 (wrap64 (((rd_T45 l2 x32_2).f1) + ((rd_T47 l0_2 ((rd_T45 l2 x32_2).f0)).f3)))) ((rd_T47 l0_2 ((rd_T45 l2 x32_2).f0)).f1)) + ((rd_T45 l2 x32_2).f2))))) l2 (l2.length : Int) (wrap64 (x32_2 + 1)) a0_0 a0_1 l0_2) else (none)) else (none)) else (none)) else (none)) = some r := by first | (rw [hy178]; with_reducible exact H) | (have H2_ := (Option.bind_some _ _).symm.trans H; rw [hy178]; with_reducible exact H2_) | (have H2_ := (Option.bind_some _ _).symm.trans H; with_reducible exact H2_) | with_reducible exact H | (rw [hy178]; exact H) | exact H
                 have Ny178 := am_ hy178; clear hy178; obtain ⟨ji32, hji32⟩ : ∃ j_ : Int, (wrap64 (((rd_T45 l2 x32_2).f1) + ((rd_T47 l0_2 ((rd_T45 l2 x32_2).f0)).f3))) = j_ := ⟨_, rfl⟩
                 replace H : (if 0 ≤ (ji32) then (if (ji32) < (x7_2.length : Int) then (if 0 ≤ ((rd_T47 l0_2 ((rd_T45 l2 x32_2).f0)).f1) then (if ((rd_T47 l0_2 ((rd_T45 l2 x32_2).f0)).f1) < ((rd_L3 y178 (ji32)).length : Int) then (plan_stocks.l1 k2 a1 (y178.set ((ji32) : Int).toNat ((rd_L3 y178 (ji32)).set (((rd_T47 l0_2 ((rd_T45 l2 x32_2).f0)).f1) : Int).toNat (wrap64 ((rd (rd_L3 y178 (ji32)) ((rd_T47 l0_2 ((rd_T45 l2 x32_2).f0)).f1)) + ((rd_T45 l2 x32_2).f2))))) l2 (l2.length : Int) (wrap64 (x32_2 + 1)) a0_0 a0_1 l0_2) else (none)) else (none)) else (none)) else (none)) = some r := by first | (rw [hji32] at H; exact H) | (simp only [hji32] at H ⊢; exact H)
                 have hji32w : (IntKind.i64.wrap (((rd_T45 l2 x32_2).f1) + ((rd_T47 l0_2 ((rd_T45 l2 x32_2).f0)).f3))) = ji32 := (i64_w _).trans hji32
                 by_cases c33 : 0 ≤ (ji32)
                 ·rw [if_pos c33] at H
                  have c33b0 : decide (0 ≤ (ji32)) = true := decide_eq_true c33; clear c33
                  by_cases c34 : (ji32) < (x7_2.length : Int)
                  ·rw [if_pos c34] at H
                   have c34b0 : decide ((ji32) < (x7_2.length : Int)) = true := decide_eq_true c34
                   (try (have c34b0r0 := c34b0; simp only [hl7_1] at c34b0r0))
                   (try (have c34b0r1 := c34b0; simp only [hl7_2] at c34b0r1))
                   clear c34
                   by_cases c35 : 0 ≤ ((rd_T47 l0_2 ((rd_T45 l2 x32_2).f0)).f1)
                   ·rw [if_pos c35] at H
                    have c35b0 : decide (0 ≤ ((rd_T47 l0_2 ((rd_T45 l2 x32_2).f0)).f1)) = true := decide_eq_true c35; clear c35
                    by_cases c36 : ((rd_T47 l0_2 ((rd_T45 l2 x32_2).f0)).f1) < ((rd_L3 y178 (ji32)).length : Int)
                    ·rw [if_pos c36] at H
                     have c36b0 : decide (((rd_T47 l0_2 ((rd_T45 l2 x32_2).f0)).f1) < ((rd_L3 y178 (ji32)).length : Int)) = true := decide_eq_true c36
                     (try (have c36b0r0 := c36b0; simp only [hl7_1] at c36b0r0))
                     (try (have c36b0r1 := c36b0; simp only [hl7_2] at c36b0r1))
                     clear c36; obtain ⟨y181, hy181⟩ : ∃ y_ : List Int, y_ = ((rd_L3 y178 (ji32)).set (((rd_T47 l0_2 ((rd_T45 l2 x32_2).f0)).f1) : Int).toNat (wrap64 ((rd (rd_L3 y178 (ji32)) ((rd_T47 l0_2 ((rd_T45 l2 x32_2).f0)).f1)) + ((rd_T45 l2 x32_2).f2)))) := ⟨_, rfl⟩
                     replace H : (plan_stocks.l1 k2 a1 (y178.set ((ji32) : Int).toNat y181) l2 (l2.length : Int) (wrap64 (x32_2 + 1)) a0_0 a0_1 l0_2) = some r := by first | (rw [hy181]; with_reducible exact H) | (have H2_ := (Option.bind_some _ _).symm.trans H; rw [hy181]; with_reducible exact H2_) | (have H2_ := (Option.bind_some _ _).symm.trans H; with_reducible exact H2_) | with_reducible exact H | (rw [hy181]; exact H) | exact H
                     have Ny181 := am_ hy181; clear hy181; obtain ⟨y183, hy183⟩ : ∃ y_ : List (List Int), y_ = (y178.set ((ji32) : Int).toNat y181) := ⟨_, rfl⟩
                     replace H : (plan_stocks.l1 k2 a1 y183 l2 (l2.length : Int) (wrap64 (x32_2 + 1)) a0_0 a0_1 l0_2) = some r := by first | (rw [hy183]; with_reducible exact H) | (have H2_ := (Option.bind_some _ _).symm.trans H; rw [hy183]; with_reducible exact H2_) | (have H2_ := (Option.bind_some _ _).symm.trans H; with_reducible exact H2_) | with_reducible exact H | (rw [hy183]; exact H) | exact H
                     have Ny183 := am_ hy183; clear hy183; have H' := am_ H; clear H; have p170 : 0 ≤ (x32_2 : Int) := of_decide_eq_true sm_; have q170 : x32_2 < (l2.length : Int) := of_decide_eq_true sm_; obtain ⟨ad170, e170, hx170_0, hx170_1, hx170_2⟩ := at_T45 HR2.out x32_2 p170 q170; cases e170; replace hx170_0 := (HB.out.cell (World.block_lt_of_cell? w _ hx170_0)).trans hx170_0; replace hx170_1 := (HB.out.cell (World.block_lt_of_cell? w _ hx170_1)).trans hx170_1; replace hx170_2 := (HB.out.cell (World.block_lt_of_cell? w _ hx170_2)).trans hx170_2; replace p170 := eq_true p170; replace q170 := eq_true q170
                     try go_wp2_with (first | ((with_reducible refine gate_dst (N := 10) rfl ?_); refine box_event ?hg (N := 10) ?hd (cs := #[.int .i64 0, .int .i64 0, .int .i64 0]) (t := 45) ?hr ?_; (case hd => rfl); (case hg => rfl); (case hr => first | (go_simp; done) | (go_simp; rfl)); intro gb171 hg w38 hbox hb; replace HO_7 := am_ (Kd.S_below (sq_ HO_7.out) hb); have BK171 := am_ (hbox); have GW171 := am_ ((by rw [hg]; exact (below_size hb_) : w.heap.size ≤ gb171)); have GE171 := am_ ((by rw [hg]; exact (below_size hb_) : w.heap.size ≤ gb171)); replace HB := am_ (below_step hb_ hb); have NB162_171 := am_ ((by rw [hg]; exact Nat.ne_of_lt (blk_lt (g := gb162) (o := .cells #[.int .i64 a0_0, .bool a0_1, .slice A0_2 l0_2.length c0_2] 24 (0, 0)) (bq_ BK162.out)) : gb162 ≠ gb171)); have NB171_162 := am_ ((by rw [hg]; exact Nat.ne_of_gt (blk_lt (g := gb162) (o := .cells #[.int .i64 a0_0, .bool a0_1, .slice A0_2 l0_2.length c0_2] 24 (0, 0)) (bq_ BK162.out)) : gb171 ≠ gb162)); replace BK162 := am_ (blk_below (g := gb162) (o := .cells #[.int .i64 a0_0, .bool a0_1, .slice A0_2 l0_2.length c0_2] 24 (0, 0)) (bq_ BK162.out) hb); clear hb hbox hg; have hnb39 := NB171_162.out; have hnc39 := NB162_171.out; have hcz40_0 : w38.cell? ⟨gb171, 0, none⟩ = some (.int .i64 0) := (blk_cell BK171.out 0).trans rfl; have hcz40_1 : w38.cell? ⟨gb171, 1, none⟩ = some (.int .i64 0) := (blk_cell BK171.out 1).trans rfl; have hcz40_2 : w38.cell? ⟨gb171, 2, none⟩ = some (.int .i64 0) := (blk_cell BK171.out 2).trans rfl; have hfz40_0 := blk_frozen BK171.out 0; have hfz40_1 := blk_frozen BK171.out 1; have hfz40_2 := blk_frozen BK171.out 2; have hcz41_0 : w38.cell? ⟨gb162, 0, none⟩ = some (.int .i64 a0_0) := (blk_cell BK162.out 0).trans rfl; have hcz41_1 : w38.cell? ⟨gb162, 1, none⟩ = some (.bool a0_1) := (blk_cell BK162.out 1).trans rfl; have hcz41_2 : w38.cell? ⟨gb162, 2, none⟩ = some (.slice A0_2 l0_2.length c0_2) := (blk_cell BK162.out 2).trans rfl; have hfz41_0 := blk_frozen BK162.out 0; have hfz41_1 := blk_frozen BK162.out 1; have hfz41_2 := blk_frozen BK162.out 2; have p172 : 0 ≤ (((rd_T45 l2 x32_2).f0) : Int) := of_decide_eq_true sm_; have q172 : ((rd_T45 l2 x32_2).f0) < (l0_2.length : Int) := of_decide_eq_true sm_; obtain ⟨ad172, e172, hx172_0, hx172_1, hx172_2, hx172_3⟩ := at_T47 HR0_2.out ((rd_T45 l2 x32_2).f0) p172 q172; cases e172; have hn172_0 : ad172.block ≠ gb171 := Nat.ne_of_lt (Nat.lt_of_lt_of_le (by have := World.block_lt_of_cell? _ _ hx172_0; first | rwa [add_block] at this | exact this) GW171.out); have hn172_1 : ad172.block ≠ gb171 := Nat.ne_of_lt (Nat.lt_of_lt_of_le (by have := World.block_lt_of_cell? _ _ hx172_0; first | rwa [add_block] at this | exact this) GW171.out); have hn172_2 : ad172.block ≠ gb171 := Nat.ne_of_lt (Nat.lt_of_lt_of_le (by have := World.block_lt_of_cell? _ _ hx172_0; first | rwa [add_block] at this | exact this) GW171.out); replace hx172_0 := (HB.out.cell (World.block_lt_of_cell? w _ hx172_0)).trans hx172_0; replace hx172_1 := (HB.out.cell (World.block_lt_of_cell? w _ hx172_1)).trans hx172_1; replace hx172_2 := (HB.out.cell (World.block_lt_of_cell? w _ hx172_2)).trans hx172_2; replace hx172_3 := (HB.out.cell (World.block_lt_of_cell? w _ hx172_3)).trans hx172_3; replace hx172_0 := (cell_far (p := ⟨gb171, 0, none⟩) q18_ (.int .i64 ((rd_T45 l2 x32_2).f0))).trans hx172_0; replace hx172_1 := (cell_far (p := ⟨gb171, 0, none⟩) q18_ (.int .i64 ((rd_T45 l2 x32_2).f0))).trans hx172_1; replace hx172_2 := (cell_far (p := ⟨gb171, 0, none⟩) q18_ (.int .i64 ((rd_T45 l2 x32_2).f0))).trans hx172_2; replace hx172_3 := (cell_far (p := ⟨gb171, 0, none⟩) q18_ (.int .i64 ((rd_T45 l2 x32_2).f0))).trans hx172_3; replace hx172_0 := (cell_far (p := ⟨gb171, 1, none⟩) q19_ (.int .i64 ((rd_T45 l2 x32_2).f1))).trans hx172_0; replace hx172_1 := (cell_far (p := ⟨gb171, 1, none⟩) q19_ (.int .i64 ((rd_T45 l2 x32_2).f1))).trans hx172_1; replace hx172_2 := (cell_far (p := ⟨gb171, 1, none⟩) q19_ (.int .i64 ((rd_T45 l2 x32_2).f1))).trans hx172_2; replace hx172_3 := (cell_far (p := ⟨gb171, 1, none⟩) q19_ (.int .i64 ((rd_T45 l2 x32_2).f1))).trans hx172_3; replace hx172_0 := (cell_far (p := ⟨gb171, 2, none⟩) q20_ (.int .i64 ((rd_T45 l2 x32_2).f2))).trans hx172_0; replace hx172_1 := (cell_far (p := ⟨gb171, 2, none⟩) q20_ (.int .i64 ((rd_T45 l2 x32_2).f2))).trans hx172_1; replace hx172_2 := (cell_far (p := ⟨gb171, 2, none⟩) q20_ (.int .i64 ((rd_T45 l2 x32_2).f2))).trans hx172_2; replace hx172_3 := (cell_far (p := ⟨gb171, 2, none⟩) q20_ (.int .i64 ((rd_T45 l2 x32_2).f2))).trans hx172_3; clear hn172_0; clear hn172_1; clear hn172_2; replace p172 := eq_true p172; replace q172 := eq_true q172) | ((with_reducible refine gate_dst (N := 11) rfl ?_); refine box_event ?hg (N := 11) ?hd (cs := #[.int .i64 0, .int .i64 0, .int .i64 0, .int .i64 0]) (t := 47) ?hr ?_; (case hd => rfl); (case hg => rfl); (case hr => first | (go_simp; done) | (go_simp; rfl)); intro gb173 hg w42 hbox hb; replace HO_7 := am_ (Kd.S_below (by refine sq_ ?_; exact (Kd.S_mono (Kd.S_far (p := ⟨gb171, 2, none⟩) (Kd.S_far (p := ⟨gb171, 1, none⟩) (Kd.S_far (p := ⟨gb171, 0, none⟩) (Kd.S_types HO_7.out BK171.out (by decide)) (fun _ hk => hk.2) (.int .i64 ((rd_T45 l2 x32_2).f0))) (fun _ hk => hk.2) (.int .i64 ((rd_T45 l2 x32_2).f1))) (fun _ hk => hk.2) (.int .i64 ((rd_T45 l2 x32_2).f2))) (fun _ h_ => h_.1))) hb); have BK173 := am_ (hbox); have GE173 := am_ ((by rw [hg]; exact (below_size hb_) : w.heap.size ≤ gb173)); replace HB := am_ (below_step hb_ hb); have NB162_173 := am_ ((by rw [hg]; exact Nat.ne_of_lt (blk_lt (g := gb162) (o := .cells #[.int .i64 a0_0, .bool a0_1, .slice (some ad172) l0_2.length c0_2] 24 (0, 0)) q22_) : gb162 ≠ gb173)); have NB173_162 := am_ ((by rw [hg]; exact Nat.ne_of_gt (blk_lt (g := gb162) (o := .cells #[.int .i64 a0_0, .bool a0_1, .slice (some ad172) l0_2.length c0_2] 24 (0, 0)) q22_) : gb173 ≠ gb162)); replace BK162 := am_ (blk_below (g := gb162) (o := .cells #[.int .i64 a0_0, .bool a0_1, .slice (some ad172) l0_2.length c0_2] 24 (0, 0)) q22_ hb); have NB171_173 := am_ ((by rw [hg]; exact Nat.ne_of_lt (blk_lt (g := gb171) (o := .cells #[.int .i64 ((rd_T45 l2 x32_2).f0), .int .i64 ((rd_T45 l2 x32_2).f1), .int .i64 ((rd_T45 l2 x32_2).f2)] 45 (0, 0)) q7_) : gb171 ≠ gb173)); have NB173_171 := am_ ((by rw [hg]; exact Nat.ne_of_gt (blk_lt (g := gb171) (o := .cells #[.int .i64 ((rd_T45 l2 x32_2).f0), .int .i64 ((rd_T45 l2 x32_2).f1), .int .i64 ((rd_T45 l2 x32_2).f2)] 45 (0, 0)) q7_) : gb173 ≠ gb171)); replace BK171 := am_ (blk_below (g := gb171) (o := .cells #[.int .i64 ((rd_T45 l2 x32_2).f0), .int .i64 ((rd_T45 l2 x32_2).f1), .int .i64 ((rd_T45 l2 x32_2).f2)] 45 (0, 0)) q7_ hb); clear hb hbox hg; have hnb43 := NB173_162.out; have hnc43 := NB162_173.out; have hnb44 := NB173_171.out; have hnc44 := NB171_173.out; have hcz45_0 : w42.cell? ⟨gb173, 0, none⟩ = some (.int .i64 0) := (blk_cell BK173.out 0).trans rfl; have hcz45_1 : w42.cell? ⟨gb173, 1, none⟩ = some (.int .i64 0) := (blk_cell BK173.out 1).trans rfl; have hcz45_2 : w42.cell? ⟨gb173, 2, none⟩ = some (.int .i64 0) := (blk_cell BK173.out 2).trans rfl; have hcz45_3 : w42.cell? ⟨gb173, 3, none⟩ = some (.int .i64 0) := (blk_cell BK173.out 3).trans rfl; have hfz45_0 := blk_frozen BK173.out 0; have hfz45_1 := blk_frozen BK173.out 1; have hfz45_2 := blk_frozen BK173.out 2; have hfz45_3 := blk_frozen BK173.out 3))
                     have n0_ : Aside0 (Kd.S (Kd.slice 3 (Kd.int .i64)) 48 ((((w42.setCell ⟨gb173, 0, none⟩ (.int .i64 ((rd_T47 l0_2 ((rd_T45 l2 x32_2).f0)).f0))).setCell ⟨gb173, 1, none⟩ (.int .i64 ((rd_T47 l0_2 ((rd_T45 l2 x32_2).f0)).f1))).setCell ⟨gb173, 2, none⟩ (.int .i64 ((rd_T47 l0_2 ((rd_T45 l2 x32_2).f0)).f2))).setCell ⟨gb173, 3, none⟩ (.int .i64 ((rd_T47 l0_2 ((rd_T45 l2 x32_2).f0)).f3))) w.heap.size (fun _ => True) (.slice Ao10 x7_2.length co10) x7_2) := ⟨by refine sq_ ?_; exact Kd.S_mono (Kd.S_far (p := ⟨gb173, 3, none⟩) (Kd.S_far (p := ⟨gb173, 2, none⟩) (Kd.S_far (p := ⟨gb173, 1, none⟩) (Kd.S_far (p := ⟨gb173, 0, none⟩) (Kd.S_types HO_7.out BK173.out (by decide)) (fun _ hk => hk.2) (.int .i64 ((rd_T47 l0_2 ((rd_T45 l2 x32_2).f0)).f0))) (fun _ hk => hk.2) (.int .i64 ((rd_T47 l0_2 ((rd_T45 l2 x32_2).f0)).f1))) (fun _ hk => hk.2) (.int .i64 ((rd_T47 l0_2 ((rd_T45 l2 x32_2).f0)).f2))) (fun _ hk => hk.2) (.int .i64 ((rd_T47 l0_2 ((rd_T45 l2 x32_2).f0)).f3))) (fun _ hk => trivial)⟩; have n1_ : Aside0 (((((w42.setCell ⟨gb173, 0, none⟩ (.int .i64 ((rd_T47 l0_2 ((rd_T45 l2 x32_2).f0)).f0))).setCell ⟨gb173, 1, none⟩ (.int .i64 ((rd_T47 l0_2 ((rd_T45 l2 x32_2).f0)).f1))).setCell ⟨gb173, 2, none⟩ (.int .i64 ((rd_T47 l0_2 ((rd_T45 l2 x32_2).f0)).f2))).setCell ⟨gb173, 3, none⟩ (.int .i64 ((rd_T47 l0_2 ((rd_T45 l2 x32_2).f0)).f3))).heap[gb162]? = some (.cells #[.int .i64 a0_0, .bool a0_1, .slice (some ad172) l0_2.length c0_2] 24 (0, 0))) := ⟨by refine bq_ ?_; refine blk_far ?_ NB162_173.out _; refine bq_ ?_; refine blk_far ?_ NB162_173.out _; refine bq_ ?_; refine blk_far ?_ NB162_173.out _; refine bq_ ?_; refine blk_far ?_ NB162_173.out _; refine bq_ ?_; exact BK162.out⟩; have n2_ : Aside0 (((((w42.setCell ⟨gb173, 0, none⟩ (.int .i64 ((rd_T47 l0_2 ((rd_T45 l2 x32_2).f0)).f0))).setCell ⟨gb173, 1, none⟩ (.int .i64 ((rd_T47 l0_2 ((rd_T45 l2 x32_2).f0)).f1))).setCell ⟨gb173, 2, none⟩ (.int .i64 ((rd_T47 l0_2 ((rd_T45 l2 x32_2).f0)).f2))).setCell ⟨gb173, 3, none⟩ (.int .i64 ((rd_T47 l0_2 ((rd_T45 l2 x32_2).f0)).f3))).heap[gb171]? = some (.cells #[.int .i64 ((rd_T45 l2 x32_2).f0), .int .i64 ((rd_T45 l2 x32_2).f1), .int .i64 ((rd_T45 l2 x32_2).f2)] 45 (0, 0))) := ⟨by refine bq_ ?_; refine blk_far ?_ NB171_173.out _; refine bq_ ?_; refine blk_far ?_ NB171_173.out _; refine bq_ ?_; refine blk_far ?_ NB171_173.out _; refine bq_ ?_; refine blk_far ?_ NB171_173.out _; refine bq_ ?_; exact BK171.out⟩; have n3_ : Aside0 (((((w42.setCell ⟨gb173, 0, none⟩ (.int .i64 ((rd_T47 l0_2 ((rd_T45 l2 x32_2).f0)).f0))).setCell ⟨gb173, 1, none⟩ (.int .i64 ((rd_T47 l0_2 ((rd_T45 l2 x32_2).f0)).f1))).setCell ⟨gb173, 2, none⟩ (.int .i64 ((rd_T47 l0_2 ((rd_T45 l2 x32_2).f0)).f2))).setCell ⟨gb173, 3, none⟩ (.int .i64 ((rd_T47 l0_2 ((rd_T45 l2 x32_2).f0)).f3))).heap[gb173]? = some (.cells #[.int .i64 ((rd_T47 l0_2 ((rd_T45 l2 x32_2).f0)).f0), .int .i64 ((rd_T47 l0_2 ((rd_T45 l2 x32_2).f0)).f1), .int .i64 ((rd_T47 l0_2 ((rd_T45 l2 x32_2).f0)).f2), .int .i64 ((rd_T47 l0_2 ((rd_T45 l2 x32_2).f0)).f3)] 47 (0, 0))) := ⟨by refine bq_ ?_; refine blk_put (cs := #[.int .i64 ((rd_T47 l0_2 ((rd_T45 l2 x32_2).f0)).f0), .int .i64 ((rd_T47 l0_2 ((rd_T45 l2 x32_2).f0)).f1), .int .i64 ((rd_T47 l0_2 ((rd_T45 l2 x32_2).f0)).f2), .int .i64 0]) ?_ 3 _ rfl; refine bq_ ?_; refine blk_put (cs := #[.int .i64 ((rd_T47 l0_2 ((rd_T45 l2 x32_2).f0)).f0), .int .i64 ((rd_T47 l0_2 ((rd_T45 l2 x32_2).f0)).f1), .int .i64 0, .int .i64 0]) ?_ 2 _ rfl; refine bq_ ?_; refine blk_put (cs := #[.int .i64 ((rd_T47 l0_2 ((rd_T45 l2 x32_2).f0)).f0), .int .i64 0, .int .i64 0, .int .i64 0]) ?_ 1 _ rfl; refine bq_ ?_; refine blk_put (cs := #[.int .i64 0, .int .i64 0, .int .i64 0, .int .i64 0]) ?_ 0 _ rfl; refine bq_ ?_; exact BK173.out⟩; have n4_ : Aside0 (Below w.heap.size w ((((w42.setCell ⟨gb173, 0, none⟩ (.int .i64 ((rd_T47 l0_2 ((rd_T45 l2 x32_2).f0)).f0))).setCell ⟨gb173, 1, none⟩ (.int .i64 ((rd_T47 l0_2 ((rd_T45 l2 x32_2).f0)).f1))).setCell ⟨gb173, 2, none⟩ (.int .i64 ((rd_T47 l0_2 ((rd_T45 l2 x32_2).f0)).f2))).setCell ⟨gb173, 3, none⟩ (.int .i64 ((rd_T47 l0_2 ((rd_T45 l2 x32_2).f0)).f3)))) := ⟨by repeat (first | (with_reducible first | exact HB.out | apply below_alloc | apply pw_below_drewN | apply below_drew1 | refine below_set ?_ GE162.out | refine below_set ?_ GE171.out | refine below_set ?_ GE173.out) | exact HB.out)⟩
                     (try clear HO_7)
                     (try clear BK162)
                     (try clear BK171)
                     (try clear BK173)
                     (try clear HB)
                     generalize ((((w42.setCell ⟨gb173, 0, none⟩ (.int .i64 ((rd_T47 l0_2 ((rd_T45 l2 x32_2).f0)).f0))).setCell ⟨gb173, 1, none⟩ (.int .i64 ((rd_T47 l0_2 ((rd_T45 l2 x32_2).f0)).f1))).setCell ⟨gb173, 2, none⟩ (.int .i64 ((rd_T47 l0_2 ((rd_T45 l2 x32_2).f0)).f2))).setCell ⟨gb173, 3, none⟩ (.int .i64 ((rd_T47 l0_2 ((rd_T45 l2 x32_2).f0)).f3))) = w46 at n0_ n1_ n2_ n3_ n4_ ⊢; have HO_7 := n0_; have BK162 := n1_; have BK171 := n2_; have BK173 := n3_; have HB := n4_; clear n0_ n1_ n2_ n3_ n4_; replace HO_7 := am_ (Kd.S_drew HO_7.out); replace BK162 := am_ (blk_drew BK162.out); replace BK171 := am_ (blk_drew BK171.out); replace BK173 := am_ (blk_drew BK173.out); replace HB := am_ (below_drew1 HB.out); have p174 : 0 ≤ (((rd_T45 l2 x32_2).f1) : Int) := of_decide_eq_true sm_; have q174 : ((rd_T45 l2 x32_2).f1) < (x7_2.length : Int) := of_decide_eq_true sm_; obtain ⟨ad174, A174_0, c174_0, e174, hx174_0, hl174_0, hi174_0⟩ := at_L3 (Kd.S_reads' HO_7.out).2.2 ((rd_T45 l2 x32_2).f1) p174 q174; cases e174; obtain ⟨ce174, hce174, hMe174, hcc174⟩ := Kd.S_get HO_7.out [] ((rd_T45 l2 x32_2).f1) p174 (by first | exact q174 | exact of_decide_eq_true sm_ | (have e_ := (Kd.S_reads' HO_7.out).1; omega)); obtain ⟨ve174_0, rfl, ge174_0⟩ := hMe174; have hv174_0 := hcc174 0 _ rfl; rw [Nat.add_zero, show ((Kd.slice 3 (Kd.int .i64))).sz = 1 from rfl, Nat.mul_one] at hv174_0; replace hv174_0 := Option.some.inj (hv174_0.symm.trans hx174_0); rw [hv174_0] at ge174_0; have HL174_0 := am_ (show Kd.R (Kd.int .i64) 3 _ _ _ _ (rd_L3 x7_2 ((rd_T45 l2 x32_2).f1)) from ge174_0); clear hv174_0 ge174_0; have HX174_0 := am_ hx174_0; clear hcc174 hce174; have HR174_0 := am_ hi174_0; have HC174_0 := am_ hl174_0; clear hi174_0 hl174_0; replace p174 := eq_true p174; replace q174 := eq_true q174; have p175 : 0 ≤ (((rd_T47 l0_2 ((rd_T45 l2 x32_2).f0)).f0) : Int) := of_decide_eq_true sm_; have q175 : ((rd_T47 l0_2 ((rd_T45 l2 x32_2).f0)).f0) < ((rd_L3 x7_2 ((rd_T45 l2 x32_2).f1)).length : Int) := of_decide_eq_true sm_; obtain ⟨ad175, e175, hx175_0⟩ := Kd.at_int (by repeat (first | (with_reducible exact HR174_0.out) | (with_reducible refine Kd.C_alloc ?_ _) | (with_reducible refine Kd.C_drewN ?_ _) | (with_reducible refine Kd.C_drew ?_) | exact HR174_0.out)) ((rd_T47 l0_2 ((rd_T45 l2 x32_2).f0)).f0) p175 q175; cases e175; replace p175 := eq_true p175; replace q175 := eq_true q175; have p31 : 0 ≤ (((rd_T47 l0_2 ((rd_T45 l2 x32_2).f0)).f0) : Int) := of_decide_eq_true sm_; have q31 : (((rd_T47 l0_2 ((rd_T45 l2 x32_2).f0)).f0) : Int) < (((rd_L3 x7_2 ((rd_T45 l2 x32_2).f1)).length : Int) : Int) := of_decide_eq_true sm_; obtain ⟨go31, co31, eo31, gb31, gl31, cl31, HG31⟩ := Kd.R_form HL174_0.out (by omega)
                     (first | cases eo31 | (injection eo31 with ea_ en_ ec_; (first | subst ea_ | (injection ea_ with ea_; subst ea_)); subst ec_; clear en_))
                     have GB31 := am_ gb31; have GG31 := am_ HG31; clear gb31 gl31 HG31
                     (first | simp only [add_plain] at hx175_0 | skip)
                     obtain ⟨hx31_0, hf31_0⟩ := Kd.R_celln 0 HL174_0.out (((rd_T47 l0_2 ((rd_T45 l2 x32_2).f0)).f0) : Int) p31 q31; replace p31 := eq_true p31; replace q31 := eq_true q31; have hq48 : (((rd_T45 l2 x32_2).f1) : Int) < (x7_2.length : Int) := (by have h_ : (((rd_T45 l2 x32_2).f1) : Int) < ((x7_2.length : Int) : Int) := of_decide_eq_true sm_; first | exact h_ | (have e_ := (Kd.S_reads' HO_7.out).1; omega) | simpa only [List.length_set, List.length_set] using h_); obtain ⟨oki48, ce48, hcl48, hM48, hcc48, hok48, hbk48⟩ := Kd.S_borrow HO_7.out [] (((rd_T45 l2 x32_2).f1) : Int) (of_decide_eq_true sm_) hq48; obtain ⟨ve48_0, rfl, ge48_0⟩ := hM48; have hv48 := hcc48 0 _ rfl; rw [Nat.add_zero, show ((Kd.slice 3 (Kd.int .i64))).sz = 1 from rfl, Nat.mul_one] at hv48; replace hv48 := Option.some.inj (hv48.symm.trans HX174_0.out); subst hv48; clear hcc48 hcl48; replace ge48_0 := (show Kd.R (Kd.int .i64) 3 _ _ _ _ (rd_L3 x7_2 ((rd_T45 l2 x32_2).f1)) from ge48_0); have HP48 := Kd.R_putg ge48_0 (((rd_T47 l0_2 ((rd_T45 l2 x32_2).f0)).f0) : Int) (wrap64 ((rd (rd_L3 x7_2 ((rd_T45 l2 x32_2).f1)) ((rd_T47 l0_2 ((rd_T45 l2 x32_2).f0)).f0)) - ((rd_T45 l2 x32_2).f2))); rw [← Ny176.out] at HP48; have HS48 := hbk48 HP48.2 (fun k_ e_ => by injection e_ with e_; subst e_; exact ge48_0.1 _ rfl) (x' := y176) (Kd.M_row HP48.1); rw [← Ny178.out] at HS48; have HQ48 := am_ HS48; clear HP48 HS48 hbk48 hok48; refine start_ (n := 14) (S := fun w' => w'.cell? ⟨gb171, 0, none⟩ = some (.int .i64 ((rd_T45 l2 x32_2).f0)) ∧ w'.cell? ⟨gb171, 1, none⟩ = some (.int .i64 ((rd_T45 l2 x32_2).f1)) ∧ w'.cell? ⟨gb171, 2, none⟩ = some (.int .i64 ((rd_T45 l2 x32_2).f2)) ∧ w'.cell? ⟨gb173, 0, none⟩ = some (.int .i64 ((rd_T47 l0_2 ((rd_T45 l2 x32_2).f0)).f0)) ∧ w'.cell? ⟨gb173, 1, none⟩ = some (.int .i64 ((rd_T47 l0_2 ((rd_T45 l2 x32_2).f0)).f1)) ∧ w'.cell? ⟨gb173, 2, none⟩ = some (.int .i64 ((rd_T47 l0_2 ((rd_T45 l2 x32_2).f0)).f2)) ∧ w'.cell? ⟨gb173, 3, none⟩ = some (.int .i64 ((rd_T47 l0_2 ((rd_T45 l2 x32_2).f0)).f3)) ∧ w'.cell? (ad174.add (((rd_T45 l2 x32_2).f1)).toNat) = some (.slice (some ⟨go31, 0, none⟩) (rd_L3 x7_2 ((rd_T45 l2 x32_2).f1)).length c174_0) ∧ w'.cell? ⟨go31, (((rd_T47 l0_2 ((rd_T45 l2 x32_2).f0)).f0)).toNat, none⟩ = some (.int .i64 (rd (rd_L3 x7_2 ((rd_T45 l2 x32_2).f1)) ((rd_T47 l0_2 ((rd_T45 l2 x32_2).f0)).f0)))) (ds := [13]) #[Ff,Ff,Ff,Ff,Ff,Ff,Ff,Ff,Ff,Ff,Ff,Ff,Ff,Ff] (by kernel_rfl) rfl rfl ⟨(blk_cell BK171.out 0).trans rfl, (blk_cell BK171.out 1).trans rfl, (blk_cell BK171.out 2).trans rfl, (blk_cell BK173.out 0).trans rfl, (blk_cell BK173.out 1).trans rfl, (blk_cell BK173.out 2).trans rfl, (blk_cell BK173.out 3).trans rfl, hx174_0, hx175_0⟩ (fun hHeld => ?_); refine with_tabW plan_stocks.tab11 plan_stocks.bits11 (fun HT_ HW_ => ?_); generalize w46.drew = w47 at HO_7 BK162 BK171 BK173 HB GG31 HL174_0 HQ48 HR174_0 HX174_0 hf31_0 hx174_0 hx175_0 hx31_0 hHeld ⊢; refine pv_ 0 42 #[Tt,Ff,Ff,Ff,Ff,Ff,Ff,Ff,Ff,Ff,Ff,Ff,Ff,Ff] ?_; refine pv_ 1 43 #[Tt,Tt,Ff,Ff,Ff,Ff,Ff,Ff,Ff,Ff,Ff,Ff,Ff,Ff] ?_; refine pv_ 5 47 #[Tt,Tt,Ff,Ff,Ff,Tt,Ff,Ff,Ff,Ff,Ff,Ff,Ff,Ff] ?_; refine pv_ 9 51 #[Tt,Tt,Ff,Ff,Ff,Tt,Ff,Ff,Ff,Tt,Ff,Ff,Ff,Ff] ?_; refine take_ (i := 2) (N := some 44) (v := ?_) (a' := ?_) #[Tt,Tt,Tt,Ff,Ff,Tt,Ff,Ff,Ff,Tt,Ff,Ff,Ff,Ff] rfl rfl (take_ofW HT_.out HW_.out (by kernel_rfl)) (fun _ _ _ h => h) (Or.inl ⟨by rfl, ?_⟩) hHeld ?_ ?_; rotate_left; (· rintro w' ⟨s0, s1, s2, s3, s4, s5, s6, s7, s8⟩; go_simp; with_reducible rfl); rotate_left; exact ap_; refine pv_ 3 45 #[Tt,Tt,Tt,Tt,Ff,Tt,Ff,Ff,Ff,Tt,Ff,Ff,Ff,Ff] ?_; refine take_ (i := 4) (N := some 46) (v := ?_) (a' := ?_) #[Tt,Tt,Tt,Tt,Tt,Tt,Ff,Ff,Ff,Tt,Ff,Ff,Ff,Ff] rfl rfl (take_ofW HT_.out HW_.out (by kernel_rfl)) (fun _ _ _ h => h) (Or.inl ⟨by rfl, ?_⟩) hHeld ?_ ?_; rotate_left; (· rintro w' ⟨s0, s1, s2, s3, s4, s5, s6, s7, s8⟩; go_simp; with_reducible rfl); rotate_left; exact ap_; refine take_ (i := 6) (N := some 48) (v := ?_) (a' := ?_) #[Tt,Tt,Tt,Tt,Tt,Tt,Tt,Ff,Ff,Tt,Ff,Ff,Ff,Ff] rfl rfl (take_ofW HT_.out HW_.out (by kernel_rfl)) (fun _ _ _ h => h) (Or.inl ⟨by rfl, ?_⟩) hHeld ?_ ?_; rotate_left; (· rintro w' ⟨s0, s1, s2, s3, s4, s5, s6, s7, s8⟩; go_simp; with_reducible rfl); rotate_left; exact ap_; refine pv_ 7 49 #[Tt,Tt,Tt,Tt,Tt,Tt,Tt,Tt,Ff,Tt,Ff,Ff,Ff,Ff] ?_; refine take_ (i := 8) (N := some 50) (v := ?_) (a' := ?_) #[Tt,Tt,Tt,Tt,Tt,Tt,Tt,Tt,Tt,Tt,Ff,Ff,Ff,Ff] rfl rfl (take_ofW HT_.out HW_.out (by kernel_rfl)) (fun _ _ _ h => h) (Or.inl ⟨by rfl, ?_⟩) hHeld ?_ ?_; rotate_left; (· rintro w' ⟨s0, s1, s2, s3, s4, s5, s6, s7, s8⟩; go_simp; with_reducible rfl); rotate_left; exact ap_; refine take_ (i := 10) (N := some 52) (v := ?_) (a' := ?_) #[Tt,Tt,Tt,Tt,Tt,Tt,Tt,Tt,Tt,Tt,Tt,Ff,Ff,Ff] rfl rfl (take_ofW HT_.out HW_.out (by kernel_rfl)) (fun _ _ _ h => h) (Or.inl ⟨by rfl, ?_⟩) hHeld ?_ ?_; rotate_left; (· rintro w' ⟨s0, s1, s2, s3, s4, s5, s6, s7, s8⟩; go_simp; with_reducible rfl); rotate_left; exact ap_; refine pv_ 11 53 #[Tt,Tt,Tt,Tt,Tt,Tt,Tt,Tt,Tt,Tt,Tt,Tt,Ff,Ff] ?_; refine pv_ 12 54 #[Tt,Tt,Tt,Tt,Tt,Tt,Tt,Tt,Tt,Tt,Tt,Tt,Tt,Ff] ?_; refine last_ (i := 13) (N := none) #[Tt,Tt,Tt,Tt,Tt,Tt,Tt,Tt,Tt,Tt,Tt,Tt,Tt,Tt] rfl rfl (one_of HT_.out (by kernel_rfl)) (by decide) (fun K hK => ?_); refine skip_ (w1 := ?_) (by rfl) rfl ?_ ?_; rotate_left; (· go_simp; rfl); refine hK.out _ _ ?_; clear hK K; refine done_ (done_of HT_.out (by kernel_rfl)) ?_
                     try go_wp2
                     have n0_ : Aside0 (Kd.S (Kd.slice 3 (Kd.int .i64)) 48 (w47.setCell ⟨go31, (((rd_T47 l0_2 ((rd_T45 l2 x32_2).f0)).f0) : Int).toNat, none⟩ (.int .i64 (wrap64 ((rd (rd_L3 x7_2 ((rd_T45 l2 x32_2).f1)) ((rd_T47 l0_2 ((rd_T45 l2 x32_2).f0)).f0)) - ((rd_T45 l2 x32_2).f2))))) w.heap.size (fun _ => True) (.slice (some ad174) x7_2.length co10) y178) := ⟨by refine sq_ ?_; exact HQ48.out⟩; have n1_ : Aside0 ((w47.setCell ⟨go31, (((rd_T47 l0_2 ((rd_T45 l2 x32_2).f0)).f0) : Int).toNat, none⟩ (.int .i64 (wrap64 ((rd (rd_L3 x7_2 ((rd_T45 l2 x32_2).f1)) ((rd_T47 l0_2 ((rd_T45 l2 x32_2).f0)).f0)) - ((rd_T45 l2 x32_2).f2))))).heap[gb162]? = some (.cells #[.int .i64 a0_0, .bool a0_1, .slice (some ad172) l0_2.length c0_2] 24 (0, 0))) := ⟨by refine bq_ ?_; refine blk_far ?_ (by have h_ := Kd.R_ne HL174_0.out BK162.out (by decide); intro e_; exact h_ (by rw [e_]; rfl)) _; refine bq_ ?_; exact BK162.out⟩; have n2_ : Aside0 ((w47.setCell ⟨go31, (((rd_T47 l0_2 ((rd_T45 l2 x32_2).f0)).f0) : Int).toNat, none⟩ (.int .i64 (wrap64 ((rd (rd_L3 x7_2 ((rd_T45 l2 x32_2).f1)) ((rd_T47 l0_2 ((rd_T45 l2 x32_2).f0)).f0)) - ((rd_T45 l2 x32_2).f2))))).heap[gb171]? = some (.cells #[.int .i64 ((rd_T45 l2 x32_2).f0), .int .i64 ((rd_T45 l2 x32_2).f1), .int .i64 ((rd_T45 l2 x32_2).f2)] 45 (0, 0))) := ⟨by refine bq_ ?_; refine blk_far ?_ (by have h_ := Kd.R_ne HL174_0.out BK171.out (by decide); intro e_; exact h_ (by rw [e_]; rfl)) _; refine bq_ ?_; exact BK171.out⟩; have n3_ : Aside0 ((w47.setCell ⟨go31, (((rd_T47 l0_2 ((rd_T45 l2 x32_2).f0)).f0) : Int).toNat, none⟩ (.int .i64 (wrap64 ((rd (rd_L3 x7_2 ((rd_T45 l2 x32_2).f1)) ((rd_T47 l0_2 ((rd_T45 l2 x32_2).f0)).f0)) - ((rd_T45 l2 x32_2).f2))))).heap[gb173]? = some (.cells #[.int .i64 ((rd_T47 l0_2 ((rd_T45 l2 x32_2).f0)).f0), .int .i64 ((rd_T47 l0_2 ((rd_T45 l2 x32_2).f0)).f1), .int .i64 ((rd_T47 l0_2 ((rd_T45 l2 x32_2).f0)).f2), .int .i64 ((rd_T47 l0_2 ((rd_T45 l2 x32_2).f0)).f3)] 47 (0, 0))) := ⟨by refine bq_ ?_; refine blk_far ?_ (by have h_ := Kd.R_ne HL174_0.out BK173.out (by decide); intro e_; exact h_ (by rw [e_]; rfl)) _; refine bq_ ?_; exact BK173.out⟩; have n4_ : Aside0 (Below w.heap.size w (w47.setCell ⟨go31, (((rd_T47 l0_2 ((rd_T45 l2 x32_2).f0)).f0) : Int).toNat, none⟩ (.int .i64 (wrap64 ((rd (rd_L3 x7_2 ((rd_T45 l2 x32_2).f1)) ((rd_T47 l0_2 ((rd_T45 l2 x32_2).f0)).f0)) - ((rd_T45 l2 x32_2).f2)))))) := ⟨by repeat (first | (with_reducible first | exact HB.out | apply below_alloc | apply pw_below_drewN | apply below_drew1 | refine below_set ?_ GB31.out | refine below_set ?_ GE162.out | refine below_set ?_ GE171.out | refine below_set ?_ GE173.out) | exact HB.out)⟩
                     (try clear HO_7)
                     (try clear BK162)
                     (try clear BK171)
                     (try clear BK173)
                     (try clear HB)
                     generalize (w47.setCell ⟨go31, (((rd_T47 l0_2 ((rd_T45 l2 x32_2).f0)).f0) : Int).toNat, none⟩ (.int .i64 (wrap64 ((rd (rd_L3 x7_2 ((rd_T45 l2 x32_2).f1)) ((rd_T47 l0_2 ((rd_T45 l2 x32_2).f0)).f0)) - ((rd_T45 l2 x32_2).f2))))) = w50 at n0_ n1_ n2_ n3_ n4_ ⊢; have HO_7 := n0_; have BK162 := n1_; have BK171 := n2_; have BK173 := n3_; have HB := n4_; clear n0_ n1_ n2_ n3_ n4_; replace HO_7 := am_ (Kd.S_drew HO_7.out); replace BK162 := am_ (blk_drew BK162.out); replace BK171 := am_ (blk_drew BK171.out); replace BK173 := am_ (blk_drew BK173.out); replace HB := am_ (below_drew1 HB.out); have p179 : 0 ≤ ((ji32) : Int) := of_decide_eq_true sm_; have q179 : (ji32) < (y178.length : Int) := (by have h_ : ((ji32) : Int) < ((x7_2.length : Int) : Int) := of_decide_eq_true sm_; first | (have e_ := (Kd.S_reads' HO_7.out).1; omega) | simpa only [Ny178.out, List.length_set] using h_); have ql179 : (((ji32) : Int) < ((x7_2.length : Int) : Int)) = True := eq_true (of_decide_eq_true sm_); obtain ⟨ad179, A179_0, c179_0, e179, hx179_0, hl179_0, hi179_0⟩ := at_L3 (Kd.S_reads' HO_7.out).2.2 (ji32) p179 q179; obtain rfl : ad174 = ad179 := (by injection e179); obtain ⟨ce179, hce179, hMe179, hcc179⟩ := Kd.S_get HO_7.out [] (ji32) p179 (by first | exact q179 | exact of_decide_eq_true sm_ | (have e_ := (Kd.S_reads' HO_7.out).1; omega)); obtain ⟨ve179_0, rfl, ge179_0⟩ := hMe179; have hv179_0 := hcc179 0 _ rfl; rw [Nat.add_zero, show ((Kd.slice 3 (Kd.int .i64))).sz = 1 from rfl, Nat.mul_one] at hv179_0; replace hv179_0 := Option.some.inj (hv179_0.symm.trans hx179_0); rw [hv179_0] at ge179_0; have HL179_0 := am_ (show Kd.R (Kd.int .i64) 3 _ _ _ _ (rd_L3 y178 (ji32)) from ge179_0); clear hv179_0 ge179_0; have HX179_0 := am_ hx179_0; clear hcc179 hce179; have HR179_0 := am_ hi179_0; have HC179_0 := am_ hl179_0; clear hi179_0 hl179_0; replace p179 := eq_true p179; replace q179 := eq_true q179; have p180 : 0 ≤ (((rd_T47 l0_2 ((rd_T45 l2 x32_2).f0)).f1) : Int) := of_decide_eq_true sm_; have q180 : ((rd_T47 l0_2 ((rd_T45 l2 x32_2).f0)).f1) < ((rd_L3 y178 (ji32)).length : Int) := of_decide_eq_true sm_; obtain ⟨ad180, e180, hx180_0⟩ := Kd.at_int (by repeat (first | (with_reducible exact HR179_0.out) | (with_reducible refine Kd.C_alloc ?_ _) | (with_reducible refine Kd.C_drewN ?_ _) | (with_reducible refine Kd.C_drew ?_) | exact HR179_0.out)) ((rd_T47 l0_2 ((rd_T45 l2 x32_2).f0)).f1) p180 q180; cases e180; replace p180 := eq_true p180; replace q180 := eq_true q180; have p37 : 0 ≤ (((rd_T47 l0_2 ((rd_T45 l2 x32_2).f0)).f1) : Int) := of_decide_eq_true sm_; have q37 : (((rd_T47 l0_2 ((rd_T45 l2 x32_2).f0)).f1) : Int) < (((rd_L3 y178 (ji32)).length : Int) : Int) := of_decide_eq_true sm_; obtain ⟨go37, co37, eo37, gb37, gl37, cl37, HG37⟩ := Kd.R_form HL179_0.out (by omega)
                     (first | cases eo37 | (injection eo37 with ea_ en_ ec_; (first | subst ea_ | (injection ea_ with ea_; subst ea_)); subst ec_; clear en_))
                     have GB37 := am_ gb37; have GG37 := am_ HG37; clear gb37 gl37 HG37
                     (first | simp only [add_plain] at hx180_0 | skip)
                     obtain ⟨hx37_0, hf37_0⟩ := Kd.R_celln 0 HL179_0.out (((rd_T47 l0_2 ((rd_T45 l2 x32_2).f0)).f1) : Int) p37 q37; replace p37 := eq_true p37; replace q37 := eq_true q37; have hq52 : ((ji32) : Int) < (y178.length : Int) := (by have h_ : ((ji32) : Int) < ((x7_2.length : Int) : Int) := of_decide_eq_true sm_; first | exact h_ | (have e_ := (Kd.S_reads' HO_7.out).1; omega) | simpa only [Ny178.out, List.length_set] using h_); obtain ⟨oki52, ce52, hcl52, hM52, hcc52, hok52, hbk52⟩ := Kd.S_borrow HO_7.out [] ((ji32) : Int) (of_decide_eq_true sm_) (by first | exact hq52 | (have e_ := (Kd.S_reads' HO_7.out).1; omega)); obtain ⟨ve52_0, rfl, ge52_0⟩ := hM52; have hv52 := hcc52 0 _ rfl; rw [Nat.add_zero, show ((Kd.slice 3 (Kd.int .i64))).sz = 1 from rfl, Nat.mul_one] at hv52; replace hv52 := Option.some.inj (hv52.symm.trans HX179_0.out); subst hv52; clear hcc52 hcl52; replace ge52_0 := (show Kd.R (Kd.int .i64) 3 _ _ _ _ (rd_L3 y178 (ji32)) from ge52_0); have HP52 := Kd.R_putg ge52_0 (((rd_T47 l0_2 ((rd_T45 l2 x32_2).f0)).f1) : Int) (wrap64 ((rd (rd_L3 y178 (ji32)) ((rd_T47 l0_2 ((rd_T45 l2 x32_2).f0)).f1)) + ((rd_T45 l2 x32_2).f2))); rw [← Ny181.out] at HP52; have HS52 := hbk52 HP52.2 (fun k_ e_ => by injection e_ with e_; subst e_; exact ge52_0.1 _ rfl) (x' := y181) (Kd.M_row HP52.1); rw [← Ny183.out] at HS52; have HQ52 := am_ HS52; clear HP52 HS52 hbk52 hok52; refine start_ (n := 17) (S := fun w' => w'.cell? ⟨gb171, 0, none⟩ = some (.int .i64 ((rd_T45 l2 x32_2).f0)) ∧ w'.cell? ⟨gb171, 1, none⟩ = some (.int .i64 ((rd_T45 l2 x32_2).f1)) ∧ w'.cell? ⟨gb171, 2, none⟩ = some (.int .i64 ((rd_T45 l2 x32_2).f2)) ∧ w'.cell? ⟨gb173, 0, none⟩ = some (.int .i64 ((rd_T47 l0_2 ((rd_T45 l2 x32_2).f0)).f0)) ∧ w'.cell? ⟨gb173, 1, none⟩ = some (.int .i64 ((rd_T47 l0_2 ((rd_T45 l2 x32_2).f0)).f1)) ∧ w'.cell? ⟨gb173, 2, none⟩ = some (.int .i64 ((rd_T47 l0_2 ((rd_T45 l2 x32_2).f0)).f2)) ∧ w'.cell? ⟨gb173, 3, none⟩ = some (.int .i64 ((rd_T47 l0_2 ((rd_T45 l2 x32_2).f0)).f3)) ∧ w'.cell? (ad174.add ((ji32)).toNat) = some (.slice (some ⟨go37, 0, none⟩) (rd_L3 y178 (ji32)).length c179_0) ∧ w'.cell? ⟨go37, (((rd_T47 l0_2 ((rd_T45 l2 x32_2).f0)).f1)).toNat, none⟩ = some (.int .i64 (rd (rd_L3 y178 (ji32)) ((rd_T47 l0_2 ((rd_T45 l2 x32_2).f0)).f1)))) (ds := [16]) #[Ff,Ff,Ff,Ff,Ff,Ff,Ff,Ff,Ff,Ff,Ff,Ff,Ff,Ff,Ff,Ff,Ff] (by kernel_rfl) rfl rfl ⟨(blk_cell BK171.out 0).trans rfl, (blk_cell BK171.out 1).trans rfl, (blk_cell BK171.out 2).trans rfl, (blk_cell BK173.out 0).trans rfl, (blk_cell BK173.out 1).trans rfl, (blk_cell BK173.out 2).trans rfl, (blk_cell BK173.out 3).trans rfl, hx179_0, hx180_0⟩ (fun hHeld => ?_); refine with_tabW plan_stocks.tab12 plan_stocks.bits12 (fun HT_ HW_ => ?_); generalize w50.drew = w51 at HO_7 BK162 BK171 BK173 HB GG37 HL179_0 HQ48 HQ52 HR179_0 HX179_0 hf37_0 hx179_0 hx180_0 hx37_0 hHeld ⊢; refine pv_ 0 55 #[Tt,Ff,Ff,Ff,Ff,Ff,Ff,Ff,Ff,Ff,Ff,Ff,Ff,Ff,Ff,Ff,Ff] ?_; refine pv_ 1 56 #[Tt,Tt,Ff,Ff,Ff,Ff,Ff,Ff,Ff,Ff,Ff,Ff,Ff,Ff,Ff,Ff,Ff] ?_; refine pv_ 3 58 #[Tt,Tt,Ff,Tt,Ff,Ff,Ff,Ff,Ff,Ff,Ff,Ff,Ff,Ff,Ff,Ff,Ff] ?_; refine pv_ 8 63 #[Tt,Tt,Ff,Tt,Ff,Ff,Ff,Ff,Tt,Ff,Ff,Ff,Ff,Ff,Ff,Ff,Ff] ?_; refine pv_ 12 67 #[Tt,Tt,Ff,Tt,Ff,Ff,Ff,Ff,Tt,Ff,Ff,Ff,Tt,Ff,Ff,Ff,Ff] ?_; refine take_ (i := 2) (N := some 57) (v := ?_) (a' := ?_) #[Tt,Tt,Tt,Tt,Ff,Ff,Ff,Ff,Tt,Ff,Ff,Ff,Tt,Ff,Ff,Ff,Ff] rfl rfl (take_ofW HT_.out HW_.out (by kernel_rfl)) (fun _ _ _ h => h) (Or.inl ⟨by rfl, ?_⟩) hHeld ?_ ?_; rotate_left; (· rintro w' ⟨s0, s1, s2, s3, s4, s5, s6, s7, s8⟩; go_simp; with_reducible rfl); rotate_left; exact ap_; refine take_ (i := 4) (N := some 59) (v := ?_) (a' := ?_) #[Tt,Tt,Tt,Tt,Tt,Ff,Ff,Ff,Tt,Ff,Ff,Ff,Tt,Ff,Ff,Ff,Ff] rfl rfl (take_ofW HT_.out HW_.out (by kernel_rfl)) (fun _ _ _ h => h) (Or.inl ⟨by rfl, ?_⟩) hHeld ?_ ?_; rotate_left; (· rintro w' ⟨s0, s1, s2, s3, s4, s5, s6, s7, s8⟩; go_simp; with_reducible rfl); rotate_left; exact ap_; refine pv_ 5 60 #[Tt,Tt,Tt,Tt,Tt,Tt,Ff,Ff,Tt,Ff,Ff,Ff,Tt,Ff,Ff,Ff,Ff] ?_; refine pv_ 6 61 #[Tt,Tt,Tt,Tt,Tt,Tt,Tt,Ff,Tt,Ff,Ff,Ff,Tt,Ff,Ff,Ff,Ff] ?_; refine take_ (i := 7) (N := some 62) (v := ?_) (a' := ?_) #[Tt,Tt,Tt,Tt,Tt,Tt,Tt,Tt,Tt,Ff,Ff,Ff,Tt,Ff,Ff,Ff,Ff] rfl rfl (take_ofW HT_.out HW_.out (by kernel_rfl)) (fun _ _ _ h => h) (Or.inl ⟨by rfl, ?_⟩) hHeld ?_ ?_; rotate_left; (· rintro w' ⟨s0, s1, s2, s3, s4, s5, s6, s7, s8⟩; go_simp; with_reducible rfl); rotate_left; exact ap_; refine take_ (i := 9) (N := some 64) (v := ?_) (a' := ?_) #[Tt,Tt,Tt,Tt,Tt,Tt,Tt,Tt,Tt,Tt,Ff,Ff,Tt,Ff,Ff,Ff,Ff] rfl rfl (take_ofW HT_.out HW_.out (by kernel_rfl)) (fun _ _ _ h => h) (Or.inl ⟨by rfl, ?_⟩) hHeld ?_ ?_; rotate_left; (· rintro w' ⟨s0, s1, s2, s3, s4, s5, s6, s7, s8⟩; go_simp; with_reducible rfl); rotate_left; exact ap_; refine pv_ 10 65 #[Tt,Tt,Tt,Tt,Tt,Tt,Tt,Tt,Tt,Tt,Tt,Ff,Tt,Ff,Ff,Ff,Ff] ?_; refine take_ (i := 11) (N := some 66) (v := ?_) (a' := ?_) #[Tt,Tt,Tt,Tt,Tt,Tt,Tt,Tt,Tt,Tt,Tt,Tt,Tt,Ff,Ff,Ff,Ff] rfl rfl (take_ofW HT_.out HW_.out (by kernel_rfl)) (fun _ _ _ h => h) (Or.inl ⟨by rfl, ?_⟩) hHeld ?_ ?_; rotate_left; (· rintro w' ⟨s0, s1, s2, s3, s4, s5, s6, s7, s8⟩; go_simp; with_reducible rfl); rotate_left; exact ap_; refine take_ (i := 13) (N := some 68) (v := ?_) (a' := ?_) #[Tt,Tt,Tt,Tt,Tt,Tt,Tt,Tt,Tt,Tt,Tt,Tt,Tt,Tt,Ff,Ff,Ff] rfl rfl (take_ofW HT_.out HW_.out (by kernel_rfl)) (fun _ _ _ h => h) (Or.inl ⟨by rfl, ?_⟩) hHeld ?_ ?_; rotate_left; (· rintro w' ⟨s0, s1, s2, s3, s4, s5, s6, s7, s8⟩; go_simp; with_reducible rfl); rotate_left; exact ap_; refine pv_ 14 69 #[Tt,Tt,Tt,Tt,Tt,Tt,Tt,Tt,Tt,Tt,Tt,Tt,Tt,Tt,Tt,Ff,Ff] ?_; refine pv_ 15 70 #[Tt,Tt,Tt,Tt,Tt,Tt,Tt,Tt,Tt,Tt,Tt,Tt,Tt,Tt,Tt,Tt,Ff] ?_; refine last_ (i := 16) (N := none) #[Tt,Tt,Tt,Tt,Tt,Tt,Tt,Tt,Tt,Tt,Tt,Tt,Tt,Tt,Tt,Tt,Tt] rfl rfl (one_of HT_.out (by kernel_rfl)) (by decide) (fun K hK => ?_); refine skip_ (w1 := ?_) (by rfl) rfl ?_ ?_; rotate_left; (· go_simp; rfl); refine hK.out _ _ ?_; clear hK K; refine done_ (done_of HT_.out (by kernel_rfl)) ?_
                     try go_wp2
                     (try simp only [← hl7_2])
                     go_roundg k2
                     case measure => have := HK1.out; have := HK2.out; omega
                     case rel => exact ⟨(y183), (wrap64 (x32_2 + 1)), rs_, H', ⟨by have := HK1.out; have := HK2.out; omega⟩, ⟨by (try simp only [hl7_1]); (try simp only [hl7_2]); refine sq_ ?_; exact HQ52.out⟩, ⟨by (try simp only [hl7_1]); (try simp only [hl7_2]); refine bq_ ?_; refine blk_far ?_ (by have h_ := Kd.R_ne HL179_0.out BK162.out (by decide); intro e_; exact h_ (by rw [e_]; rfl)) _; refine bq_ ?_; exact BK162.out⟩, ⟨by repeat (first | (with_reducible first | exact HB.out | apply below_alloc | apply pw_below_drewN | apply below_drew1 | refine below_set ?_ GB37.out | refine below_set ?_ GE162.out | refine below_set ?_ GE171.out | refine below_set ?_ GE173.out) | exact HB.out)⟩⟩
                    ·rw [if_neg c36] at H
                     exact absurd H (by simp)
                   ·rw [if_neg c35] at H
                    exact absurd H (by simp)
                  ·rw [if_neg c34] at H
                   exact absurd H (by simp)
                 ·rw [if_neg c33] at H
                  exact absurd H (by simp)
                ·rw [if_neg c30] at H
                 exact absurd H (by simp)
               ·rw [if_neg c29] at H
                exact absurd H (by simp)
              ·rw [if_neg c28] at H
               exact absurd H (by simp)
             ·rw [if_neg c27] at H
              exact absurd H (by simp)
            ·rw [if_neg c26] at H
             exact absurd H (by simp)
           ·rw [if_neg c25] at H
            exact absurd H (by simp)
          ·rw [if_neg c24] at H
           exact absurd H (by simp)
         ·rw [if_neg c23] at H
          exact absurd H (by simp)
        ·rw [if_neg c22] at H
         have c22b0 : decide (x32_2 < (l2.length : Int)) = false := decide_eq_false c22
         (try (have c22b0r0 := c22b0; simp only [hl7_1] at c22b0r0))
         (try (have c22b0r1 := c22b0; simp only [hl7_2] at c22b0r1))
         clear c22; have H' := am_ H; clear H
         go_wp2
         go_loopg [73] k2 (fun kq v73 w' => ∃ (x7_3 : List (List Int)) (x73_3 : Int), v73 = .int .i64 x73_3 ∧ Aside0 (plan_stocks.l2 kq x7_3 a1 x73_3 = some r) ∧ Aside0 (kq ≤ k2) ∧ Aside0 (Kd.S (Kd.slice 3 (Kd.int .i64)) 48 w' w.heap.size (fun _ => True) (.slice Ao10 x7_2.length co10) x7_3) ∧ Aside0 (w'.heap[gb162]? = some (.cells #[.int .i64 a0_0, .bool a0_1, (.slice A0_2 l0_2.length c0_2)] 24 (0, 0))) ∧ Aside0 (Below w.heap.size w w'))
         case atStart => exact ⟨(x7_2), (0), rs_, H', ⟨Nat.le_refl _⟩, ⟨by (try simp only [hl7_1]); (try simp only [hl7_2]); refine sq_ ?_; exact HO_7.out⟩, ⟨by (try simp only [hl7_1]); (try simp only [hl7_2]); refine bq_ ?_; exact BK162.out⟩, ⟨by repeat (first | (with_reducible first | exact HB.out | apply below_alloc | apply pw_below_drewN | apply below_drew1 | refine below_set ?_ GE162.out) | exact HB.out)⟩⟩
         case round =>
          clear H'
          try clear c1
          try clear p1
          try clear q1
          try clear hx1
          try clear c2
          try clear p2
          try clear hx2
          try clear c3
          try clear p3
          try clear q3
          try clear hx3
          try clear hf3
          try clear c4
          try clear q4
          try clear c5
          try clear q5
          try clear p6
          try clear c12
          try clear c12b0
          try clear c12b1
          try clear c13
          try clear c13b0
          try clear c13b1
          try clear c14
          try clear c14b0
          try clear c15
          try clear c15b0
          try clear c16
          try clear p16
          try clear q16
          try clear hx16
          try clear hf16
          try clear c17
          try clear p17
          try clear q17
          try clear hx17
          try clear p18
          try clear q18
          try clear hx18
          try clear c20
          try clear hx20
          try clear hf20
          try clear c22
          try clear c22b0
          try clear c23
          try clear c23b0
          try clear c24
          try clear c24b0
          try clear c25
          try clear c25b0
          try clear c26
          try clear c26b0
          try clear c27
          try clear c27b0
          try clear c28
          try clear c28b0
          try clear c29
          try clear c29b0
          try clear c30
          try clear c30b0
          try clear p31
          try clear q31
          try clear hx31
          try clear hf31
          try clear c33
          try clear c33b0
          try clear c34
          try clear c34b0
          try clear c35
          try clear c35b0
          try clear c36
          try clear c36b0
          try clear p37
          try clear q37
          try clear hx37
          try clear hf37
          try clear c39
          try clear c43
          try clear c44
          try clear c48
          try clear q48
          try clear c52
          try clear q52
          try clear hcz17_0
          try clear hcz17_1
          try clear hcz17_2
          try clear hcz40_0
          try clear hcz40_1
          try clear hcz40_2
          try clear hcz41_0
          try clear hcz41_1
          try clear hcz41_2
          try clear hcz45_0
          try clear hcz45_1
          try clear hcz45_2
          try clear hcz45_3
          try clear hfz17_0
          try clear hfz17_1
          try clear hfz17_2
          try clear hfz40_0
          try clear hfz40_1
          try clear hfz40_2
          try clear hfz41_0
          try clear hfz41_1
          try clear hfz41_2
          try clear hfz45_0
          try clear hfz45_1
          try clear hfz45_2
          try clear hfz45_3
          try clear hx16_0
          try clear hx170_0
          try clear hx170_1
          try clear hx170_2
          try clear hx172_0
          try clear hx172_1
          try clear hx172_2
          try clear hx172_3
          try clear hx174_0
          try clear hx175_0
          try clear hx179_0
          try clear hx180_0
          try clear hx20_0
          try clear hx31_0
          try clear hx37_0
          try clear p16
          try clear p170
          try clear p172
          try clear p174
          try clear p175
          try clear p179
          try clear p180
          try clear p2
          try clear p31
          try clear p37
          try clear p6
          try clear q16
          try clear q170
          try clear q172
          try clear q174
          try clear q175
          try clear q179
          try clear q180
          try clear q31
          try clear q37
          obtain ⟨x7_3, x73_3, rfl, HA, HK3, HO_7, BK162, HB⟩ := hrel; have hl7_3 := (Kd.S_reads' HO_7.out).1; rw [hl7_3] at HO_7
          (try simp only [hl7_3])
          (try simp only [hl7_3] at BK162)
          cases gk with
          | zero => exact absurd HA.out (by simp [plan_stocks.l2])
          | succ k3 =>
           have H := HA.out; clear HA; simp only [plan_stocks.l2] at H
           by_cases c54 : x73_3 < a1
           ·rw [if_pos c54] at H
            have c54b0 : decide (x73_3 < a1) = true := decide_eq_true c54; clear c54
            by_cases c55 : 0 ≤ x73_3
            ·rw [if_pos c55] at H
             have c55b0 : decide (0 ≤ x73_3) = true := decide_eq_true c55; clear c55
             by_cases c56 : x73_3 < (x7_3.length : Int)
             ·rw [if_pos c56] at H
              have c56b0 : decide (x73_3 < (x7_3.length : Int)) = true := decide_eq_true c56
              (try (have c56b0r0 := c56b0; simp only [hl7_1] at c56b0r0))
              (try (have c56b0r1 := c56b0; simp only [hl7_2] at c56b0r1))
              (try (have c56b0r2 := c56b0; simp only [hl7_3] at c56b0r2))
              clear c56; have H' := am_ H; clear H; have p184 : 0 ≤ (x73_3 : Int) := of_decide_eq_true sm_; have q184 : x73_3 < (x7_3.length : Int) := of_decide_eq_true sm_; obtain ⟨ad184, A184_0, c184_0, e184, hx184_0, hl184_0, hi184_0⟩ := at_L3 (Kd.S_reads' HO_7.out).2.2 x73_3 p184 q184; cases e184; obtain ⟨ce184, hce184, hMe184, hcc184⟩ := Kd.S_get HO_7.out [] x73_3 p184 (by first | exact q184 | exact of_decide_eq_true sm_ | (have e_ := (Kd.S_reads' HO_7.out).1; omega)); obtain ⟨ve184_0, rfl, ge184_0⟩ := hMe184; have hv184_0 := hcc184 0 _ rfl; rw [Nat.add_zero, show ((Kd.slice 3 (Kd.int .i64))).sz = 1 from rfl, Nat.mul_one] at hv184_0; replace hv184_0 := Option.some.inj (hv184_0.symm.trans hx184_0); rw [hv184_0] at ge184_0; have HL184_0 := am_ (show Kd.R (Kd.int .i64) 3 _ _ _ _ (rd_L3 x7_3 x73_3) from ge184_0); clear hv184_0 ge184_0; have HX184_0 := am_ hx184_0; clear hcc184 hce184; have HR184_0 := am_ hi184_0; have HC184_0 := am_ hl184_0; clear hi184_0 hl184_0; replace p184 := eq_true p184; replace q184 := eq_true q184
              go_wp2
              have HP73 := am_ (show 0 ≤ x73_3 ∧ x73_3 < (x7_3.length : Int) from ⟨of_decide_eq_true sm_, of_decide_eq_true sm_⟩)
              go_loopg [81] k3 (fun kq v81 w' => ∃ (x7_4 : List (List Int)) (x81_4 : Int), v81 = .int .i64 x81_4 ∧ Aside0 (plan_stocks.l3 kq x7_4 x73_3 a1 x73_3 (rd_L3 x7_3 x73_3) ((rd_L3 x7_3 x73_3).length : Int) x81_4 = some r) ∧ Aside0 (kq ≤ k3) ∧ Aside0 (Kd.S (Kd.slice 3 (Kd.int .i64)) 48 w' w.heap.size (fun _ => True) (.slice (some ad184) x7_3.length co10) x7_4) ∧ Aside0 (w'.heap[gb162]? = some (.cells #[.int .i64 a0_0, .bool a0_1, (.slice A0_2 l0_2.length c0_2)] 24 (0, 0))) ∧ Aside0 (Below w.heap.size w w') ∧ Aside0 (w'.cell? (ad184.add x73_3.toNat) = some (.slice A184_0 (rd_L3 x7_3 x73_3).length c184_0)) ∧ Aside0 (rd_L3 x7_4 x73_3 = rd_L3 x7_3 x73_3))
              case atStart => exact ⟨(x7_3), (0), rs_, H', ⟨Nat.le_refl _⟩, ⟨by (try simp only [hl7_1]); (try simp only [hl7_2]); (try simp only [hl7_3]); refine sq_ ?_; exact HO_7.out⟩, ⟨by (try simp only [hl7_1]); (try simp only [hl7_2]); (try simp only [hl7_3]); refine bq_ ?_; exact BK162.out⟩, ⟨by repeat (first | (with_reducible first | exact HB.out | apply below_alloc | apply pw_below_drewN | apply below_drew1 | refine below_set ?_ GE162.out) | exact HB.out)⟩, ⟨HX184_0.out⟩, ⟨rfl⟩⟩
              case round =>
               clear H'
               try clear c1
               try clear p1
               try clear q1
               try clear hx1
               try clear c2
               try clear p2
               try clear hx2
               try clear c3
               try clear p3
               try clear q3
               try clear hx3
               try clear hf3
               try clear c4
               try clear q4
               try clear c5
               try clear q5
               try clear p6
               try clear c12
               try clear c12b0
               try clear c12b1
               try clear c13
               try clear c13b0
               try clear c13b1
               try clear c14
               try clear c14b0
               try clear c15
               try clear c15b0
               try clear c16
               try clear p16
               try clear q16
               try clear hx16
               try clear hf16
               try clear c17
               try clear p17
               try clear q17
               try clear hx17
               try clear c18
               try clear p18
               try clear q18
               try clear hx18
               try clear c20
               try clear hx20
               try clear hf20
               try clear c22
               try clear c22b0
               try clear c23
               try clear c23b0
               try clear c24
               try clear c24b0
               try clear c25
               try clear c25b0
               try clear c26
               try clear c26b0
               try clear c27
               try clear c27b0
               try clear c28
               try clear c28b0
               try clear c29
               try clear c29b0
               try clear c30
               try clear c30b0
               try clear p31
               try clear q31
               try clear hx31
               try clear hf31
               try clear c33
               try clear c33b0
               try clear c34
               try clear c34b0
               try clear c35
               try clear c35b0
               try clear c36
               try clear c36b0
               try clear p37
               try clear q37
               try clear hx37
               try clear hf37
               try clear c39
               try clear c43
               try clear c44
               try clear c48
               try clear q48
               try clear c52
               try clear q52
               try clear c54
               try clear c54b0
               try clear c55
               try clear c55b0
               try clear c56
               try clear c56b0
               try clear hcz17_0
               try clear hcz17_1
               try clear hcz17_2
               try clear hcz40_0
               try clear hcz40_1
               try clear hcz40_2
               try clear hcz41_0
               try clear hcz41_1
               try clear hcz41_2
               try clear hcz45_0
               try clear hcz45_1
               try clear hcz45_2
               try clear hcz45_3
               try clear hfz17_0
               try clear hfz17_1
               try clear hfz17_2
               try clear hfz40_0
               try clear hfz40_1
               try clear hfz40_2
               try clear hfz41_0
               try clear hfz41_1
               try clear hfz41_2
               try clear hfz45_0
               try clear hfz45_1
               try clear hfz45_2
               try clear hfz45_3
               try clear hx16_0
               try clear hx170_0
               try clear hx170_1
               try clear hx170_2
               try clear hx172_0
               try clear hx172_1
               try clear hx172_2
               try clear hx172_3
               try clear hx174_0
               try clear hx175_0
               try clear hx179_0
               try clear hx180_0
               try clear hx184_0
               try clear hx20_0
               try clear hx31_0
               try clear hx37_0
               try clear p1
               try clear p16
               try clear p17
               try clear p170
               try clear p172
               try clear p174
               try clear p175
               try clear p179
               try clear p18
               try clear p180
               try clear p184
               try clear p2
               try clear p3
               try clear p31
               try clear p37
               try clear p6
               try clear q1
               try clear q16
               try clear q17
               try clear q170
               try clear q172
               try clear q174
               try clear q175
               try clear q179
               try clear q18
               try clear q180
               try clear q184
               try clear q3
               try clear q31
               try clear q37
               try clear q4
               try clear q48
               try clear q5
               try clear q52
               obtain ⟨x7_4, x81_4, rfl, HA, HK4, HO_7, BK162, HB, HX92, HE92⟩ := hrel; have hl7_4 := (Kd.S_reads' HO_7.out).1; rw [hl7_4] at HO_7
               (try simp only [hl7_4])
               (try simp only [hl7_4] at BK162)
               cases gk with
               | zero => exact absurd HA.out (by simp [plan_stocks.l3])
               | succ k4 =>
                have H := HA.out; clear HA; simp only [plan_stocks.l3] at H
                by_cases c57 : x81_4 < ((rd_L3 x7_3 x73_3).length : Int)
                ·rw [if_pos c57] at H
                 have c57b0 : decide (x81_4 < ((rd_L3 x7_3 x73_3).length : Int)) = true := decide_eq_true c57
                 (try (have c57b0r0 := c57b0; simp only [hl7_1] at c57b0r0))
                 (try (have c57b0r1 := c57b0; simp only [hl7_2] at c57b0r1))
                 (try (have c57b0r2 := c57b0; simp only [hl7_3] at c57b0r2))
                 (try (have c57b0r3 := c57b0; simp only [hl7_4] at c57b0r3))
                 clear c57
                 by_cases c58 : 0 ≤ x81_4
                 ·rw [if_pos c58] at H
                  have c58b0 : decide (0 ≤ x81_4) = true := decide_eq_true c58; clear c58
                  by_cases c59 : x81_4 < ((rd_L3 x7_3 x73_3).length : Int)
                  ·rw [if_pos c59] at H
                   have c59b0 : decide (x81_4 < ((rd_L3 x7_3 x73_3).length : Int)) = true := decide_eq_true c59
                   (try (have c59b0r0 := c59b0; simp only [hl7_1] at c59b0r0))
                   (try (have c59b0r1 := c59b0; simp only [hl7_2] at c59b0r1))
                   (try (have c59b0r2 := c59b0; simp only [hl7_3] at c59b0r2))
                   (try (have c59b0r3 := c59b0; simp only [hl7_4] at c59b0r3))
                   clear c59; obtain ⟨ji60, hji60⟩ : ∃ j_ : Int, (wrap64 (x73_3 + 1)) = j_ := ⟨_, rfl⟩
                   replace H : (if 0 ≤ (ji60) then (if (ji60) < (x7_4.length : Int) then (if x81_4 < ((rd_L3 x7_4 (ji60)).length : Int) then (plan_stocks.l3 k4 (x7_4.set ((ji60) : Int).toNat ((rd_L3 x7_4 (ji60)).set (x81_4 : Int).toNat (wrap64 ((rd (rd_L3 x7_4 (ji60)) x81_4) + (rd (rd_L3 x7_3 x73_3) x81_4))))) x73_3 a1 x73_3 (rd_L3 x7_3 x73_3) ((rd_L3 x7_3 x73_3).length : Int) (wrap64 (x81_4 + 1))) else (none)) else (none)) else (none)) = some r := by first | (rw [hji60] at H; exact H) | (simp only [hji60] at H ⊢; exact H)
                   have hji60w : (IntKind.i64.wrap (x73_3 + 1)) = ji60 := (i64_w _).trans hji60
                   by_cases c61 : 0 ≤ (ji60)
                   ·rw [if_pos c61] at H
                    have c61b0 : decide (0 ≤ (ji60)) = true := decide_eq_true c61; clear c61
                    by_cases c62 : (ji60) < (x7_4.length : Int)
                    ·rw [if_pos c62] at H
                     have c62b0 : decide ((ji60) < (x7_4.length : Int)) = true := decide_eq_true c62
                     (try (have c62b0r0 := c62b0; simp only [hl7_1] at c62b0r0))
                     (try (have c62b0r1 := c62b0; simp only [hl7_2] at c62b0r1))
                     (try (have c62b0r2 := c62b0; simp only [hl7_3] at c62b0r2))
                     (try (have c62b0r3 := c62b0; simp only [hl7_4] at c62b0r3))
                     clear c62
                     by_cases c63 : x81_4 < ((rd_L3 x7_4 (ji60)).length : Int)
                     ·rw [if_pos c63] at H
                      have c63b0 : decide (x81_4 < ((rd_L3 x7_4 (ji60)).length : Int)) = true := decide_eq_true c63
                      (try (have c63b0r0 := c63b0; simp only [hl7_1] at c63b0r0))
                      (try (have c63b0r1 := c63b0; simp only [hl7_2] at c63b0r1))
                      (try (have c63b0r2 := c63b0; simp only [hl7_3] at c63b0r2))
                      (try (have c63b0r3 := c63b0; simp only [hl7_4] at c63b0r3))
                      clear c63; obtain ⟨y188, hy188⟩ : ∃ y_ : List Int, y_ = ((rd_L3 x7_4 (ji60)).set (x81_4 : Int).toNat (wrap64 ((rd (rd_L3 x7_4 (ji60)) x81_4) + (rd (rd_L3 x7_3 x73_3) x81_4)))) := ⟨_, rfl⟩
                      replace H : (plan_stocks.l3 k4 (x7_4.set ((ji60) : Int).toNat y188) x73_3 a1 x73_3 (rd_L3 x7_3 x73_3) ((rd_L3 x7_3 x73_3).length : Int) (wrap64 (x81_4 + 1))) = some r := by first | (rw [hy188]; with_reducible exact H) | (have H2_ := (Option.bind_some _ _).symm.trans H; rw [hy188]; with_reducible exact H2_) | (have H2_ := (Option.bind_some _ _).symm.trans H; with_reducible exact H2_) | with_reducible exact H | (rw [hy188]; exact H) | exact H
                      have Ny188 := am_ hy188; clear hy188; obtain ⟨y190, hy190⟩ : ∃ y_ : List (List Int), y_ = (x7_4.set ((ji60) : Int).toNat y188) := ⟨_, rfl⟩
                      replace H : (plan_stocks.l3 k4 y190 x73_3 a1 x73_3 (rd_L3 x7_3 x73_3) ((rd_L3 x7_3 x73_3).length : Int) (wrap64 (x81_4 + 1))) = some r := by first | (rw [hy190]; with_reducible exact H) | (have H2_ := (Option.bind_some _ _).symm.trans H; rw [hy190]; with_reducible exact H2_) | (have H2_ := (Option.bind_some _ _).symm.trans H; with_reducible exact H2_) | with_reducible exact H | (rw [hy190]; exact H) | exact H
                      have Ny190 := am_ hy190; clear hy190; have H' := am_ H; clear H; have p185 : 0 ≤ (x81_4 : Int) := of_decide_eq_true sm_; have q185 : x81_4 < ((rd_L3 x7_3 x73_3).length : Int) := of_decide_eq_true sm_; obtain ⟨ce92_, hce92_, hMe92_, hcc92_⟩ := Kd.S_get HO_7.out [] x73_3 HP73.out.1 (by have h_ := HP73.out.2; have e_ := (Kd.S_reads' HO_7.out).1; omega); obtain ⟨ve92_, rfl, ge92_⟩ := hMe92_; have hv92_ := hcc92_ 0 _ rfl; rw [Nat.add_zero, show ((Kd.slice 3 (Kd.int .i64))).sz = 1 from rfl, Nat.mul_one] at hv92_; replace hv92_ := Option.some.inj (hv92_.symm.trans HX92.out); rw [hv92_] at ge92_; have gi92_ := (Kd.R_reads' (show Kd.R (Kd.int .i64) 3 _ _ _ (.slice A184_0 (rd_L3 x7_3 x73_3).length c184_0) (rd_L3 x7_4 x73_3) from ge92_)).2.2; rw [HE92.out] at gi92_; clear ge92_ hv92_ hcc92_ hce92_; obtain ⟨ad185, e185, hx185_0⟩ := Kd.at_int gi92_ x81_4 p185 q185; cases e185; clear gi92_; replace p185 := eq_true p185; replace q185 := eq_true q185; have p186 : 0 ≤ ((ji60) : Int) := of_decide_eq_true sm_; have q186 : (ji60) < (x7_4.length : Int) := of_decide_eq_true sm_; obtain ⟨ad186, A186_0, c186_0, e186, hx186_0, hl186_0, hi186_0⟩ := at_L3 (Kd.S_reads' HO_7.out).2.2 (ji60) p186 q186; obtain rfl : ad184 = ad186 := (by injection e186); obtain ⟨ce186, hce186, hMe186, hcc186⟩ := Kd.S_get HO_7.out [] (ji60) p186 (by first | exact q186 | exact of_decide_eq_true sm_ | (have e_ := (Kd.S_reads' HO_7.out).1; omega)); obtain ⟨ve186_0, rfl, ge186_0⟩ := hMe186; have hv186_0 := hcc186 0 _ rfl; rw [Nat.add_zero, show ((Kd.slice 3 (Kd.int .i64))).sz = 1 from rfl, Nat.mul_one] at hv186_0; replace hv186_0 := Option.some.inj (hv186_0.symm.trans hx186_0); rw [hv186_0] at ge186_0; have HL186_0 := am_ (show Kd.R (Kd.int .i64) 3 _ _ _ _ (rd_L3 x7_4 (ji60)) from ge186_0); clear hv186_0 ge186_0; have HX186_0 := am_ hx186_0; clear hcc186 hce186; have HR186_0 := am_ hi186_0; have HC186_0 := am_ hl186_0; clear hi186_0 hl186_0; replace p186 := eq_true p186; replace q186 := eq_true q186; have p187 : 0 ≤ (x81_4 : Int) := of_decide_eq_true sm_; have q187 : x81_4 < ((rd_L3 x7_4 (ji60)).length : Int) := of_decide_eq_true sm_; obtain ⟨ad187, e187, hx187_0⟩ := Kd.at_int (by repeat (first | (with_reducible exact HR186_0.out) | (with_reducible refine Kd.C_alloc ?_ _) | (with_reducible refine Kd.C_drewN ?_ _) | (with_reducible refine Kd.C_drew ?_) | exact HR186_0.out)) x81_4 p187 q187; cases e187; replace p187 := eq_true p187; replace q187 := eq_true q187; have p64 : 0 ≤ (x81_4 : Int) := of_decide_eq_true sm_; have q64 : (x81_4 : Int) < (((rd_L3 x7_4 (ji60)).length : Int) : Int) := of_decide_eq_true sm_; obtain ⟨go64, co64, eo64, gb64, gl64, cl64, HG64⟩ := Kd.R_form HL186_0.out (by omega)
                      (first | cases eo64 | (injection eo64 with ea_ en_ ec_; (first | subst ea_ | (injection ea_ with ea_; subst ea_)); subst ec_; clear en_))
                      have GB64 := am_ gb64; have GG64 := am_ HG64; clear gb64 gl64 HG64
                      (first | simp only [add_plain] at hx187_0 | skip)
                      obtain ⟨hx64_0, hf64_0⟩ := Kd.R_celln 0 HL186_0.out (x81_4 : Int) p64 q64; replace p64 := eq_true p64; replace q64 := eq_true q64; have hq65 : ((ji60) : Int) < (x7_4.length : Int) := (by have h_ : ((ji60) : Int) < ((x7_4.length : Int) : Int) := of_decide_eq_true sm_; first | exact h_ | (have e_ := (Kd.S_reads' HO_7.out).1; omega) | simpa only [List.length_set, List.length_set] using h_); obtain ⟨oki65, ce65, hcl65, hM65, hcc65, hok65, hbk65⟩ := Kd.S_borrow HO_7.out [] ((ji60) : Int) (of_decide_eq_true sm_) hq65; obtain ⟨ve65_0, rfl, ge65_0⟩ := hM65; have hv65 := hcc65 0 _ rfl; rw [Nat.add_zero, show ((Kd.slice 3 (Kd.int .i64))).sz = 1 from rfl, Nat.mul_one] at hv65; replace hv65 := Option.some.inj (hv65.symm.trans HX186_0.out); subst hv65; clear hcc65 hcl65; replace ge65_0 := (show Kd.R (Kd.int .i64) 3 _ _ _ _ (rd_L3 x7_4 (ji60)) from ge65_0); have HP65 := Kd.R_putg ge65_0 (x81_4 : Int) (wrap64 ((rd (rd_L3 x7_4 (ji60)) x81_4) + (rd (rd_L3 x7_3 x73_3) x81_4)))
                      go_wp2_with (first | ((with_reducible refine gate_store (t := 3) (p := 96) rfl ?_); refine store_event (t := 3) (p := 96) (v := ?vo_w66) (w1 := (wr.setCell ⟨go64, (x81_4 : Int).toNat, none⟩ (.int .i64 (wrap64 ((rd (rd_L3 x7_4 (ji60)) x81_4) + (rd (rd_L3 x7_3 x73_3) x81_4)))))) ?hg ?ho ?hn ?hr ?_; (case ho => rfl); (case hg => rfl); (case hn => rfl); (case hr => first | (go_simp; done) | (go_simp; rfl)); intro w66 hw; have hg : wr.grownBy w66 (some go64) := (by rw [hw]; exact HP65.2); have hz_ : Kd.R (Kd.int .i64) 3 w66 w.heap.size oki65 (.slice (some ⟨go64, 0, none⟩) (rd_L3 x7_4 (ji60)).length c186_0) y188 := (by rw [hw, Ny188.out]; exact HP65.1); have hp_ : Kd.S (Kd.slice 3 (Kd.int .i64)) 48 w66 w.heap.size (fun _ => True) (.slice (some ad184) x7_4.length co10) y190 := (by rw [Ny190.out]; exact hbk65 hg (fun k_ e_ => by injection e_ with e_; subst e_; exact ge65_0.1 _ rfl) (Kd.M_row hz_)); have hm_ := Kd.R_mono hz_ hok65; clear HP65 hbk65; have n0_ := am_ (hp_); have n1_ := am_ (blk_grown (g := gb162) (o := .cells #[.int .i64 a0_0, .bool a0_1, .slice A0_2 l0_2.length c0_2] 24 (0, 0)) (bq_ BK162.out) hg (Kd.R_ne HL186_0.out BK162.out (by decide))); have n2_ := am_ ((by rw [hw]; exact below_set (HB.out) GB64.out : Below w.heap.size w w66)); have n3_ := am_ (hm_); have n4_ := am_ ((Kd.R_reads' hm_).2.1); have n9_ : w66.cell? (ad184.add x73_3.toNat) = some (.slice (some ad185) (rd_L3 x7_3 x73_3).length c184_0) := (by rw [hw]; exact (World.cell?_of_block (Below.heap_setCell _ _ _ _ (fun e_ => by obtain ⟨c_, hc_⟩ := Kd.S_typed HO_7.out ad184.block rfl; rw [add_block_] at e_; rw [e_] at hc_; have hg_ := GG64.out; rw [hc_] at hg_; injection hg_ with hg_; injection hg_ with _ hg_; exact absurd hg_ (by decide)))).trans HX92.out); clear HX92; have HX92 := am_ n9_; clear n9_; clear HO_7; clear BK162; clear HB; clear HL186_0; have HO_7 := n0_; have BK162 := n1_; have HB := n2_; have HL191 := n3_; have HC189 := n4_; clear n0_ n1_ n2_ n3_ n4_; clear hg hw hp_ hz_ hm_ hok65))
                      (try simp only [← hl7_4])
                      go_roundg k4
                      case measure => have := HK1.out; have := HK2.out; have := HK3.out; have := HK4.out; omega
                      case rel => exact ⟨(y190), (wrap64 (x81_4 + 1)), rs_, H', ⟨by have := HK1.out; have := HK2.out; have := HK3.out; have := HK4.out; omega⟩, ⟨by (try simp only [hl7_1]); (try simp only [hl7_2]); (try simp only [hl7_3]); (try simp only [hl7_4]); refine sq_ ?_; exact HO_7.out⟩, ⟨by (try simp only [hl7_1]); (try simp only [hl7_2]); (try simp only [hl7_3]); (try simp only [hl7_4]); refine bq_ ?_; exact BK162.out⟩, ⟨by repeat (first | (with_reducible first | exact HB.out | apply below_alloc | apply pw_below_drewN | apply below_drew1 | refine below_set ?_ GE162.out) | exact HB.out)⟩, ⟨HX92.out⟩, ⟨by rw [Ny190.out]; refine Eq.trans (rd_L3_ne_ ?_) HE92.out; have h1_ := hji60; have h2_ := HP73.out.1; have h3_ : 0 ≤ ji60 := (by first | exact of_eq_true p186 | exact of_decide_eq_true sm_); unfold wrap64 at h1_; omega⟩⟩
                     ·rw [if_neg c63] at H
                      exact absurd H (by simp)
                    ·rw [if_neg c62] at H
                     exact absurd H (by simp)
                   ·rw [if_neg c61] at H
                    exact absurd H (by simp)
                  ·rw [if_neg c59] at H
                   exact absurd H (by simp)
                 ·rw [if_neg c58] at H
                  exact absurd H (by simp)
                ·rw [if_neg c57] at H
                 have c57b0 : decide (x81_4 < ((rd_L3 x7_3 x73_3).length : Int)) = false := decide_eq_false c57
                 (try (have c57b0r0 := c57b0; simp only [hl7_1] at c57b0r0))
                 (try (have c57b0r1 := c57b0; simp only [hl7_2] at c57b0r1))
                 (try (have c57b0r2 := c57b0; simp only [hl7_3] at c57b0r2))
                 (try (have c57b0r3 := c57b0; simp only [hl7_4] at c57b0r3))
                 clear c57; have H' := am_ H; clear H
                 go_wp2
                 (try simp only [← hl7_3, ← hl7_4])
                 go_roundg k4
                 case measure => have := HK1.out; have := HK2.out; have := HK3.out; have := HK4.out; omega
                 case rel => exact ⟨(x7_4), (wrap64 (x73_3 + 1)), rs_, H', ⟨by have := HK1.out; have := HK2.out; have := HK3.out; have := HK4.out; omega⟩, ⟨by (try simp only [hl7_1]); (try simp only [hl7_2]); (try simp only [hl7_3]); (try simp only [hl7_4]); refine sq_ ?_; exact HO_7.out⟩, ⟨by (try simp only [hl7_1]); (try simp only [hl7_2]); (try simp only [hl7_3]); (try simp only [hl7_4]); refine bq_ ?_; exact BK162.out⟩, ⟨by repeat (first | (with_reducible first | exact HB.out | apply below_alloc | apply pw_below_drewN | apply below_drew1 | refine below_set ?_ GE162.out) | exact HB.out)⟩⟩
             ·rw [if_neg c56] at H
              exact absurd H (by simp)
            ·rw [if_neg c55] at H
             exact absurd H (by simp)
           ·rw [if_neg c54] at H
            have c54b0 : decide (x73_3 < a1) = false := decide_eq_false c54; clear c54; obtain rfl := Option.some.inj H
            go_wp2
            go_ret
            exact ⟨_, by first | rfl | (simp [errW_none, errW_some] <;> rfl) | (simp only [← hji4]; first | rfl | (simp [errW_none, errW_some] <;> rfl)) | (simp [*, errW_none, errW_some] <;> rfl), by refine sq_ ?_; exact HO_7.out, by repeat (first | (with_reducible first | exact HB.out | apply below_alloc | apply pw_below_drewN | apply below_drew1 | refine below_set ?_ GE162.out) | exact HB.out)⟩
  ·rw [if_neg c6] at H
   exact absurd H (by simp)
 ·rw [if_neg c5] at H
  exact absurd H (by simp)
end Go.Proofs.Ytdghehebkalbgaa.Q
end
