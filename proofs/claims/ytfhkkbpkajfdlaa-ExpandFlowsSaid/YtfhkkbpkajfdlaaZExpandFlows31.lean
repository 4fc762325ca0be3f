/- A part of the proof: words, contracts, plain lemmas. Conditions: none. -/
import Derived.Test.YtfhkkbpkajfdlaaZExpandFlows4
import Derived.Test.YtfhkkbpkajfdlaaZExpandFlows5
import Derived.Test.YtfhkkbpkajfdlaaZExpandFlows30
import Derived.Test.YtfhkkbpkajfdlaaRows
import Derived.Deep.Slices
import Derived.ProofKit
section
namespace Go.Proofs.Ytfhkkbpkajfdlaa.Q
open Go.RowKit Go.Proofs.YtfhkkbpkajfdlaaW.PrintWords Go.Proofs.YtfhkkbpkajfdlaaW.PrintLast Go.Proofs.YtfhkkbpkajfdlaaW.PrintMore
set_option linter.unusedVariables false
set_option linter.unusedSimpArgs false
def ebbtidelaw14_Read.l0 : Nat → Int → Int → Int → List (S85) → Int → Int → Bool → List (S80) → Int → Int → Int → List (S96) → Int → Bool → List (S54) → Option (Int × Bool × (List (S54)) × Int × Int × Int × (List (S85)))
 | 0, _, _, _, _, _, _, _, _, _, _, _, _, _, _, _ => none
 | k + 1, x8, x9, x10, x11, x12, x662000, x662001, x662002, x662003, x662004, x662005, x662006, x672000, x672001, x672002 => if x12 < (x662006.length : Int) then (if x12 < 30 then (if (x672002.length : Int) > 0 then (if 0 ≤ x12 then (if (x672002.length : Int) = 0 then (none) else (if (wrap64 (x10 + 1)) = 0 then (none) else (if x11.length < 5864062014805 then (ebbtidelaw14_Read.l0 k x8 x9 x10 (x11 ++ [(⟨Int.tmod (wrap64 ((rd_T96 x662006 x12).f0)) (x672002.length : Int), Int.tmod (wrap64 ((rd_T96 x662006 x12).f1)) (wrap64 (x10 + 1)), Int.tmod (wrap64 ((rd_T96 x662006 x12).f2)) 4⟩ : S85)]) (wrap64 (x12 + 1)) x662000 x662001 x662002 x662003 x662004 x662005 x662006 x672000 x672001 x672002) else (none)))) else (none)) else (some (x672000, x672001, x672002, x8, x9, x10, x11))) else (some (x672000, x672001, x672002, x8, x9, x10, x11))) else (some (x672000, x672001, x672002, x8, x9, x10, x11))
def ebbtidelaw14_Read.f (k : Nat) (a0_0 : Int) (a0_1 : Bool) (l0_2 : List (S80)) (a0_3 : Int) (a0_4 : Int) (a0_5 : Int) (l0_6 : List (S96)) : Option (Int × Bool × (List (S54)) × Int × Int × Int × (List (S85))) := (ebbtidelaw12_Read.f k a0_0 a0_1 l0_2 a0_3 a0_4 a0_5 8).bind fun bt663 => (ebbtidelaw14_Read.l0 k bt663.2.2.2.1 bt663.2.2.2.2.1 bt663.2.2.2.2.2 ([] : List (S85)) 0 a0_0 a0_1 l0_2 a0_3 a0_4 a0_5 l0_6 bt663.1 bt663.2.1 bt663.2.2.1)
def ebbtidelaw14_Read.T6 : Bool × List (List Nat × List Nat) := (true, [([], []), ([], []), ([1], [1]), ([], []), ([2, 3], [2, 3]), ([4], [4]), ([5], [5]), ([6], [6]), ([], []), ([8], [8]), ([9], [9]), ([7, 10], [7, 10]), ([], []), ([12], [12]), ([], []), ([13, 14], [13, 14]), ([15], [15]), ([16], [16]), ([17], [17]), ([], []), ([19], [19]), ([18, 20], [18, 20]), ([], []), ([22], [22]), ([], []), ([23, 24], [23, 24]), ([25], [25]), ([26], [26]), ([27], [27]), ([28], [28]), ([11, 21, 29], [11, 21, 29]), ([30], [30]), ([0, 31], [0, 31]), ([32, 32, 0, 1, 2, 3, 4, 5, 6, 7, 8, 9, 10, 11, 12, 13, 14, 15, 16, 17, 18, 19, 20, 21, 22, 23, 24, 25, 26, 27, 28, 29, 30, 31, 32], [0, 32])])
def ebbtidelaw14_Read.B6 : List Nat := [0, 0, 2, 0, 14, 30, 62, 126, 0, 256, 768, 2046, 0, 4096, 0, 28672, 61440, 126976, 258048, 0, 524288, 2093056, 0, 4194304, 0, 29360128, 62914560, 130023424, 264241152, 532676608, 1073741822, 2147483646, 4294967295, 8589934591]
theorem ebbtidelaw14_Read.tab6 : rtab .any (opsOf Try.f27 6) = ebbtidelaw14_Read.T6 := by kernel_rfl
theorem ebbtidelaw14_Read.bits6 : waitsOk ebbtidelaw14_Read.T6.2 ebbtidelaw14_Read.B6 = true := by kernel_rfl
set_option maxHeartbeats 8000000 in
set_option maxRecDepth 100000 in
theorem ebbtidelaw14_Read.calls (k : Nat) (a0_0 : Int) (a0_1 : Bool) (A0_2 : Option Addr) (c0_2 : Nat) (l0_2 : List (S80)) (a0_3 : Int) (a0_4 : Int) (a0_5 : Int) (A0_6 : Option Addr) (c0_6 : Nat) (l0_6 : List (S96)) (r1 : Int) (r2 : Bool) (r3 : List (S54)) (r4 : Int) (r5 : Int) (r6 : Int) (r7 : List (S85)) (w : World) (hr0_2 : Kd.C k80 w A0_2 l0_2.length l0_2) (hc0_2 : l0_2.length ≤ c0_2) (hr0_6 : Kd.C k96 w A0_6 l0_6.length l0_6) (hc0_6 : l0_6.length ≤ c0_6) (h : ebbtidelaw14_Read.f k a0_0 a0_1 l0_2 a0_3 a0_4 a0_5 l0_6 = some (r1, r2, r3, r4, r5, r6, r7)) :
  Calls Try.prog 27 #[.agg #[.int .u8 a0_0, .bool a0_1, .slice A0_2 l0_2.length c0_2, .int .u8 a0_3, .int .u8 a0_4, .int .u8 a0_5, .slice A0_6 l0_6.length c0_6]] w fun e w' => ∃ v2_ v6_ : Value, e = .returned (.tuple #[.agg #[.int .i64 r1, .bool r2, v2_], .int .i64 r4, .int .i64 r5, .int .i64 r6, v6_]) ∧ Kd.R k54 54 w' w.heap.size (fun _ => True) v2_ r3 ∧ Kd.R k85 85 w' w.heap.size (fun _ => True) v6_ r7 ∧ Below w.heap.size w w' := by
 have hu60 := Try.underlying60; have hu24 := Try.underlying24; have hu41 := Try.underlying41; have hu85 := Try.underlying85; have HR0_2 := am_ hr0_2; have HC0_2 := am_ hc0_2; clear hr0_2 hc0_2; have HR0_6 := am_ hr0_6; have HC0_6 := am_ hc0_6; clear hr0_6 hc0_6; have HB := am_ (Below.refl w.heap.size w); have H : ((ebbtidelaw12_Read.f k a0_0 a0_1 l0_2 a0_3 a0_4 a0_5 8).bind fun bt663 => (ebbtidelaw14_Read.l0 k bt663.2.2.2.1 bt663.2.2.2.2.1 bt663.2.2.2.2.2 ([] : List (S85)) 0 a0_0 a0_1 l0_2 a0_3 a0_4 a0_5 l0_6 bt663.1 bt663.2.1 bt663.2.2.1)) = some (r1, r2, r3, r4, r5, r6, r7) := h; clear h; replace H := Option.bind_eq_some_iff.mp H; obtain ⟨⟨t663, t664, t665, t668, t669, t670⟩, A20, H⟩ := H; replace H : (ebbtidelaw14_Read.l0 k t668 t669 t670 ([] : List (S85)) 0 a0_0 a0_1 l0_2 a0_3 a0_4 a0_5 l0_6 t663 t664 t665) = some (r1, r2, r3, r4, r5, r6, r7) := H; have A2 := am_ A20; clear A20; have H' := am_ H; clear H
 go_enter Try.func27, Try.ntmps27
 go_wp2_with (first | ((with_reducible refine gate_dst (N := 1) rfl ?_); (try (refine gate_guard (by rfl) ?_; dsimp only)); refine bx_ 1 #[.int .u8 a0_0, .bool a0_1, .slice A0_2 l0_2.length c0_2, .int .u8 a0_3, .int .u8 a0_4, .int .u8 a0_5, .slice A0_6 l0_6.length c0_6] 60 ?_; intro gb661 hg w3 BK661 hb; have GE661 := ge_ (w := w) hg; replace HB := hst_ hb; clear hb hg) | ((with_reducible refine gate_dst (N := 2) rfl ?_); (try (refine gate_guard (by rfl) ?_; dsimp only)); refine bx_ 2 #[.int .i64 0, .bool false, .slice none 0 0] 24 ?_; intro gb662 hg w4 BK662 hb; have GE662 := ge_ (w := w) hg; replace HB := hst_ hb; have NB661_662 := am_ (nl_ BK661.out hg); have NB662_661 := am_ (ng_ BK661.out hg); replace BK661 := am_ (bb_ BK661.out hb); clear hb hg; have hnb5 := NB661_662.out; have hnc5 := NB662_661.out; obtain ⟨hcz6_0, hcz6_1, hcz6_2, hcz6_3, hcz6_4, hcz6_5, hcz6_6, hfz6_0, hfz6_1, hfz6_2, hfz6_3, hfz6_4, hfz6_5, hfz6_6⟩ := cf7_ BK661.out) | ((with_reducible refine gate_callee (f := 20) rfl ?_); refine cl_ 16 Try.func20 (ebbtidelaw12_Read.calls k a0_0 a0_1 _ _ l0_2 a0_3 a0_4 a0_5 8 t663 t664 t665 t668 t669 t670 _ (cb_ HR0_2.out) HC0_2.out A2.out) ?_; rintro e w7 ⟨v666, rfl, ho0, hb⟩; refine ⟨_, rfl, ?_⟩; have HO667 := am_ (Kd.R_lower ho0 (below_size hb_)); replace BK661 := am_ (bb_ BK661.out hb); replace BK662 := am_ (bb_ BK662.out hb); replace HB := hst_ hb; (try clear hb); (try clear hb2); (try clear hk); (try clear hi); (try clear ho0)) | ((with_reducible refine gate_dst (N := 7) rfl ?_); (try (refine gate_guard (by rfl) ?_; dsimp only)); refine bx_ 7 #[.int .i64 0, .bool false, .slice none 0 0] 24 ?_; intro gb671 hg w8 BK671 hb; replace HO667 := am_ (Kd.R_below (rq_ HO667.out) hb); have GE671 := ge_ (w := w) hg; replace HB := hst_ hb; have NB661_671 := am_ (nl_ BK661.out hg); have NB671_661 := am_ (ng_ BK661.out hg); replace BK661 := am_ (bb_ BK661.out hb); have NB662_671 := am_ (nl_ BK662.out hg); have NB671_662 := am_ (ng_ BK662.out hg); replace BK662 := am_ (bb_ BK662.out hb); clear hb hg; have hnb9 := NB671_661.out; have hnc9 := NB661_671.out; have hnb10 := NB671_662.out; have hnc10 := NB662_671.out; obtain ⟨hcz11_0, hcz11_1, hcz11_2, hfz11_0, hfz11_1, hfz11_2⟩ := cf3_ BK671.out; obtain ⟨Ao12, co12, eo12⟩ := Kd.R_slice HO667.out; subst eo12))
 go_loopg [11, 12] k (fun kq v11 v12 w' => ∃ (x11_1 : List (S85)) (x12_1 : Int), v12 = .int .i64 x12_1 ∧ Aside0 (ebbtidelaw14_Read.l0 kq t668 t669 t670 x11_1 x12_1 a0_0 a0_1 l0_2 a0_3 a0_4 a0_5 l0_6 t663 t664 t665 = some (r1, r2, r3, r4, r5, r6, r7)) ∧ Aside0 (kq ≤ k) ∧ Aside0 (Kd.R k85 85 w' w.heap.size (fun _ => True) v11 x11_1) ∧ Aside0 (Kd.R k54 54 w' w.heap.size (fun _ => True) (.slice Ao12 t665.length co12) t665) ∧ Aside0 (w'.heap[gb661]? = some (.cells #[.int .u8 a0_0, .bool a0_1, (.slice A0_2 l0_2.length c0_2), .int .u8 a0_3, .int .u8 a0_4, .int .u8 a0_5, (.slice A0_6 l0_6.length c0_6)] 60 (0, 0))) ∧ Aside0 (w'.heap[gb662]? = some (.cells #[.int .i64 0, .bool false, (.slice none 0 0)] 24 (0, 0))) ∧ Aside0 (w'.heap[gb671]? = some (.cells #[.int .i64 t663, .bool t664, (.slice Ao12 t665.length co12)] 24 (0, 0))) ∧ Aside0 (Below w.heap.size w w'))
 case atStart => exact ⟨(([] : List (S85))), (0), rs_, H', ⟨Nat.le_refl _⟩, ⟨ni_⟩, ⟨by refine rq_ ?_; exact Kd.R_mono (rf3_ (Kd.R_types HO667.out BK671.out (by decide))) (fun _ hk => trivial)⟩, ⟨by refine bq_ ?_; refine blk_far ?_ NB661_671.out _; refine bq_ ?_; refine blk_far ?_ NB661_671.out _; refine bq_ ?_; refine blk_far ?_ NB661_671.out _; refine bq_ ?_; exact BK661.out⟩, ⟨by refine bq_ ?_; refine blk_far ?_ NB662_671.out _; refine bq_ ?_; refine blk_far ?_ NB662_671.out _; refine bq_ ?_; refine blk_far ?_ NB662_671.out _; refine bq_ ?_; exact BK662.out⟩, ⟨by refine bq_ ?_; refine blk_put (cs := #[.int .i64 t663, .bool t664, .slice none 0 0]) ?_ 2 _ rfl; refine bq_ ?_; refine blk_put (cs := #[.int .i64 t663, .bool false, .slice none 0 0]) ?_ 1 _ rfl; refine bq_ ?_; refine blk_put (cs := #[.int .i64 0, .bool false, .slice none 0 0]) ?_ 0 _ rfl; refine bq_ ?_; exact BK671.out⟩, ⟨hb_⟩⟩
 case round =>
  clear H'
  try clear c1
  try clear c2
  try clear p2
  try clear c5
  try clear c9
  try clear c10
  try clear hcz11_0 hcz11_1 hcz11_2
  try clear hcz6_0 hcz6_1 hcz6_2 hcz6_3 hcz6_4 hcz6_5 hcz6_6
  try clear hfz11_0 hfz11_1 hfz11_2
  try clear hfz6_0 hfz6_1 hfz6_2 hfz6_3 hfz6_4 hfz6_5 hfz6_6
  obtain ⟨x11_1, x12_1, rfl, HA, HK1, HO_11, HO_672002, BK661, BK662, BK671, HB⟩ := hrel
  cases gk with
  | zero => exact absurd HA.out (by simp [ebbtidelaw14_Read.l0])
  | succ k1 =>
   have H := HA.out; clear HA; simp only [ebbtidelaw14_Read.l0] at H
   by_cases c13 : x12_1 < (l0_6.length : Int)
   ·rw [if_pos c13] at H
    have c13b0 := decide_eq_true c13; clear c13
    by_cases c14 : x12_1 < 30
    ·rw [if_pos c14] at H
     have c14b0 := decide_eq_true c14; clear c14
     by_cases c15 : (t665.length : Int) > 0
     ·rw [if_pos c15] at H
      have c15b0 := decide_eq_true c15; have c15b1 : decide (0 < t665.length) = true := decide_eq_true (by omega); clear c15
      replace H := ifn_ H; obtain ⟨c16, H⟩ := H
      have c16b0 := decide_eq_true c16; clear c16
      by_cases c17 : (t665.length : Int) = 0
      ·rw [if_pos c17] at H
       exact absurd H (by simp)
      ·rw [if_neg c17] at H
       obtain ⟨c17b0, c17b1⟩ := neb_ c17
       have c17b2 : ¬ (t665 = []) := fun h_ => c17 (by rw [h_]; rfl)
       by_cases c18 : (wrap64 (t670 + 1)) = 0
       ·rw [if_pos c18] at H
        exact absurd H (by simp)
       ·rw [if_neg c18] at H
        obtain ⟨c18b0, c18b1⟩ := neb_ c18
        replace H := ifn_ H; obtain ⟨c19, H⟩ := H
        have LMc19 := am_ c19; clear c19; obtain ⟨y675, hy_⟩ : ∃ y_ : List (S85), y_ = (x11_1 ++ [(⟨Int.tmod (wrap64 ((rd_T96 l0_6 x12_1).f0)) (t665.length : Int), Int.tmod (wrap64 ((rd_T96 l0_6 x12_1).f1)) (wrap64 (t670 + 1)), Int.tmod (wrap64 ((rd_T96 l0_6 x12_1).f2)) 4⟩ : S85)]) := ⟨_, rfl⟩
        replace H : (ebbtidelaw14_Read.l0 k1 t668 t669 t670 y675 (wrap64 (x12_1 + 1)) a0_0 a0_1 l0_2 a0_3 a0_4 a0_5 l0_6 t663 t664 t665) = some (r1, r2, r3, r4, r5, r6, r7) := hyH_
        have Ny675 := am_ hy_; clear hy_; have H' := am_ H; clear H; have hnb20 := NB661_662.out; have hnc20 := NB662_661.out; have hnb21 := NB661_671.out; have hnc21 := NB671_661.out; obtain ⟨hcz22_0, hcz22_1, hcz22_2, hcz22_3, hcz22_4, hcz22_5, hcz22_6, hfz22_0, hfz22_1, hfz22_2, hfz22_3, hfz22_4, hfz22_5, hfz22_6⟩ := cf7_ BK661.out; have hnb23 := NB671_662.out; have hnc23 := NB662_671.out; obtain ⟨hcz24_0, hcz24_1, hcz24_2, hfz24_0, hfz24_1, hfz24_2⟩ := cf3_ BK671.out
        try go_wp2
        replace HO_11 := am_ (Kd.R_drew HO_11.out); replace HO_672002 := am_ (Kd.R_drew HO_672002.out); replace BK661 := am_ (blk_drew BK661.out); replace BK662 := am_ (blk_drew BK662.out); replace BK671 := am_ (blk_drew BK671.out); replace HB := am_ (below_drew1 HB.out); have p672 : 0 ≤ (x12_1 : Int) := of_decide_eq_true sm_; have q672 : x12_1 < (l0_6.length : Int) := of_decide_eq_true sm_; obtain ⟨ad672, e672, hx672_0, hx672_1, hx672_2⟩ := at_T96 HR0_6.out x12_1 p672 q672; have hw672_2 := hx672_2; have hw672_1 := hx672_1; have hw672_0 := hx672_0; cases e672; replace hx672_0 := (HB.out.cell (World.block_lt_of_cell? w _ hx672_0)).trans hx672_0; replace hx672_1 := (HB.out.cell (World.block_lt_of_cell? w _ hx672_1)).trans hx672_1; replace hx672_2 := (HB.out.cell (World.block_lt_of_cell? w _ hx672_2)).trans hx672_2; replace p672 := eq_true p672; replace q672 := eq_true q672; have p673 : 0 ≤ (x12_1 : Int) := of_decide_eq_true sm_; have q673 : x12_1 < (l0_6.length : Int) := of_decide_eq_true sm_; obtain ⟨ad673, e673, hx673_0, hx673_1, hx673_2⟩ := at_T96 HR0_6.out x12_1 p673 q673; have hw673_2 := hx673_2; have hw673_1 := hx673_1; have hw673_0 := hx673_0; obtain rfl : ad672 = ad673 := (by injection e673); replace hx673_0 := (HB.out.cell (World.block_lt_of_cell? w _ hx673_0)).trans hx673_0; replace hx673_1 := (HB.out.cell (World.block_lt_of_cell? w _ hx673_1)).trans hx673_1; replace hx673_2 := (HB.out.cell (World.block_lt_of_cell? w _ hx673_2)).trans hx673_2; replace p673 := eq_true p673; replace q673 := eq_true q673; refine start_ (n := 34) (S := fun w' => w'.cell? ⟨gb661, 0, none⟩ = some (.int .u8 a0_0) ∧ w'.cell? ⟨gb661, 1, none⟩ = some (.bool a0_1) ∧ w'.cell? ⟨gb661, 2, none⟩ = some (.slice A0_2 l0_2.length c0_2) ∧ w'.cell? ⟨gb661, 3, none⟩ = some (.int .u8 a0_3) ∧ w'.cell? ⟨gb661, 4, none⟩ = some (.int .u8 a0_4) ∧ w'.cell? ⟨gb661, 5, none⟩ = some (.int .u8 a0_5) ∧ w'.cell? ⟨gb661, 6, none⟩ = some (.slice (some ad672) l0_6.length c0_6) ∧ w'.cell? ⟨gb671, 0, none⟩ = some (.int .i64 t663) ∧ w'.cell? ⟨gb671, 1, none⟩ = some (.bool t664) ∧ w'.cell? ⟨gb671, 2, none⟩ = some (.slice Ao12 t665.length co12) ∧ w'.cell? (ad672.add ((x12_1).toNat * 3)) = some (.int .u8 ((rd_T96 l0_6 x12_1).f0)) ∧ w'.cell? ⟨(ad672.add ((x12_1).toNat * 3)).block, (ad672.add ((x12_1).toNat * 3)).off + 1, none⟩ = some (.int .u8 ((rd_T96 l0_6 x12_1).f1)) ∧ w'.cell? ⟨(ad672.add ((x12_1).toNat * 3)).block, (ad672.add ((x12_1).toNat * 3)).off + 2, none⟩ = some (.int .u8 ((rd_T96 l0_6 x12_1).f2)) ∧ w'.cell? (ad672.add ((x12_1).toNat * 3)) = some (.int .u8 ((rd_T96 l0_6 x12_1).f0)) ∧ w'.cell? ⟨(ad672.add ((x12_1).toNat * 3)).block, (ad672.add ((x12_1).toNat * 3)).off + 1, none⟩ = some (.int .u8 ((rd_T96 l0_6 x12_1).f1)) ∧ w'.cell? ⟨(ad672.add ((x12_1).toNat * 3)).block, (ad672.add ((x12_1).toNat * 3)).off + 2, none⟩ = some (.int .u8 ((rd_T96 l0_6 x12_1).f2)) ∧ w'.cell? (ad672.add ((x12_1).toNat * 3)) = some (.int .u8 ((rd_T96 l0_6 x12_1).f0)) ∧ w'.cell? ⟨(ad672.add ((x12_1).toNat * 3)).block, (ad672.add ((x12_1).toNat * 3)).off + 1, none⟩ = some (.int .u8 ((rd_T96 l0_6 x12_1).f1)) ∧ w'.cell? ⟨(ad672.add ((x12_1).toNat * 3)).block, (ad672.add ((x12_1).toNat * 3)).off + 2, none⟩ = some (.int .u8 ((rd_T96 l0_6 x12_1).f2))) (ds := []) #[Ff,Ff,Ff,Ff,Ff,Ff,Ff,Ff,Ff,Ff,Ff,Ff,Ff,Ff,Ff,Ff,Ff,Ff,Ff,Ff,Ff,Ff,Ff,Ff,Ff,Ff,Ff,Ff,Ff,Ff,Ff,Ff,Ff,Ff] (by kernel_rfl) rfl rfl ⟨(blk_cell BK661.out 0).trans rfl, (blk_cell BK661.out 1).trans rfl, (blk_cell BK661.out 2).trans rfl, (blk_cell BK661.out 3).trans rfl, (blk_cell BK661.out 4).trans rfl, (blk_cell BK661.out 5).trans rfl, (blk_cell BK661.out 6).trans rfl, (blk_cell BK671.out 0).trans rfl, (blk_cell BK671.out 1).trans rfl, (blk_cell BK671.out 2).trans rfl, ((HB.out.cell (World.block_lt_of_cell? w _ hw672_0)).trans hw672_0), ((HB.out.cell (World.block_lt_of_cell? w _ hw672_1)).trans hw672_1), ((HB.out.cell (World.block_lt_of_cell? w _ hw672_2)).trans hw672_2), ((HB.out.cell (World.block_lt_of_cell? w _ hw673_0)).trans hw673_0), ((HB.out.cell (World.block_lt_of_cell? w _ hw673_1)).trans hw673_1), ((HB.out.cell (World.block_lt_of_cell? w _ hw673_2)).trans hw673_2), ((HB.out.cell (World.block_lt_of_cell? w _ hw673_0)).trans hw673_0), ((HB.out.cell (World.block_lt_of_cell? w _ hw673_1)).trans hw673_1), ((HB.out.cell (World.block_lt_of_cell? w _ hw673_2)).trans hw673_2)⟩ (fun hHeld => ?_); refine with_tabW ebbtidelaw14_Read.tab6 ebbtidelaw14_Read.bits6 (fun HT_ HW_ => ?_); generalize wr.drew = w25 at HO_11 HO_672002 BK661 BK662 BK671 HB hx672_0 hx672_1 hx672_2 hx673_0 hx673_1 hx673_2 hx673_0 hx673_1 hx673_2 hHeld ⊢; refine pw_ 0 38 ?_; refine pw_ 1 39 ?_; refine pw_ 3 41 ?_; refine pw_ 8 46 ?_; refine pw_ 12 50 ?_; refine pw_ 14 52 ?_; refine pw_ 19 57 ?_; refine pw_ 20 58 ?_; refine pw_ 22 60 ?_; refine pw_ 24 62 ?_; refine tk_ 2 40 ?_; refine pw_ 4 42 ?_; refine pw_ 5 43 ?_; refine tk_ 6 44 ?_; refine pw_ 7 45 ?_; refine tk_ 9 47 ?_; refine pw_ 10 48 ?_; refine pw_ 11 49 ?_; refine tk_ 13 51 ?_; refine pw_ 15 53 ?_; refine pw_ 16 54 ?_; refine tk_ 17 55 ?_; refine pw_ 18 56 ?_; refine pw_ 21 59 ?_; refine tk_ 23 61 ?_; refine pw_ 25 63 ?_; refine pw_ 26 64 ?_; refine tk_ 27 65 ?_; refine pw_ 28 66 ?_; refine pw_ 29 67 ?_; refine pw_ 30 68 ?_; refine one_ (i := 31) (N := some 69) #[Tt,Tt,Tt,Tt,Tt,Tt,Tt,Tt,Tt,Tt,Tt,Tt,Tt,Tt,Tt,Tt,Tt,Tt,Tt,Tt,Tt,Tt,Tt,Tt,Tt,Tt,Tt,Tt,Tt,Tt,Tt,Tt,Ff,Ff] rfl rfl (one_of HT_.out (by kernel_rfl)) (by decide) (fun K hK => ?_); refine value_ (w1 := ?_) (v := ?_) (by rfl) rfl ?_ ?_; rotate_left 2
        ·go_simp
         constructor
         ·rfl
         ·rfl
        refine hK.out _ _ ⟨(blk_cell (blk_alloc BK661.out _) 0).trans rfl, (blk_cell (blk_alloc BK661.out _) 1).trans rfl, (blk_cell (blk_alloc BK661.out _) 2).trans rfl, (blk_cell (blk_alloc BK661.out _) 3).trans rfl, (blk_cell (blk_alloc BK661.out _) 4).trans rfl, (blk_cell (blk_alloc BK661.out _) 5).trans rfl, (blk_cell (blk_alloc BK661.out _) 6).trans rfl, (blk_cell (blk_alloc BK671.out _) 0).trans rfl, (blk_cell (blk_alloc BK671.out _) 1).trans rfl, (blk_cell (blk_alloc BK671.out _) 2).trans rfl, (World.cell?_alloc_lt _ _ _ (World.block_lt_of_cell? _ _ (((HB.out.cell (World.block_lt_of_cell? w _ hw672_0)).trans hw672_0)))).trans (((HB.out.cell (World.block_lt_of_cell? w _ hw672_0)).trans hw672_0)), (World.cell?_alloc_lt _ _ _ (World.block_lt_of_cell? _ _ (((HB.out.cell (World.block_lt_of_cell? w _ hw672_1)).trans hw672_1)))).trans (((HB.out.cell (World.block_lt_of_cell? w _ hw672_1)).trans hw672_1)), (World.cell?_alloc_lt _ _ _ (World.block_lt_of_cell? _ _ (((HB.out.cell (World.block_lt_of_cell? w _ hw672_2)).trans hw672_2)))).trans (((HB.out.cell (World.block_lt_of_cell? w _ hw672_2)).trans hw672_2)), (World.cell?_alloc_lt _ _ _ (World.block_lt_of_cell? _ _ (((HB.out.cell (World.block_lt_of_cell? w _ hw673_0)).trans hw673_0)))).trans (((HB.out.cell (World.block_lt_of_cell? w _ hw673_0)).trans hw673_0)), (World.cell?_alloc_lt _ _ _ (World.block_lt_of_cell? _ _ (((HB.out.cell (World.block_lt_of_cell? w _ hw673_1)).trans hw673_1)))).trans (((HB.out.cell (World.block_lt_of_cell? w _ hw673_1)).trans hw673_1)), (World.cell?_alloc_lt _ _ _ (World.block_lt_of_cell? _ _ (((HB.out.cell (World.block_lt_of_cell? w _ hw673_2)).trans hw673_2)))).trans (((HB.out.cell (World.block_lt_of_cell? w _ hw673_2)).trans hw673_2)), (World.cell?_alloc_lt _ _ _ (World.block_lt_of_cell? _ _ (((HB.out.cell (World.block_lt_of_cell? w _ hw673_0)).trans hw673_0)))).trans (((HB.out.cell (World.block_lt_of_cell? w _ hw673_0)).trans hw673_0)), (World.cell?_alloc_lt _ _ _ (World.block_lt_of_cell? _ _ (((HB.out.cell (World.block_lt_of_cell? w _ hw673_1)).trans hw673_1)))).trans (((HB.out.cell (World.block_lt_of_cell? w _ hw673_1)).trans hw673_1)), (World.cell?_alloc_lt _ _ _ (World.block_lt_of_cell? _ _ (((HB.out.cell (World.block_lt_of_cell? w _ hw673_2)).trans hw673_2)))).trans (((HB.out.cell (World.block_lt_of_cell? w _ hw673_2)).trans hw673_2))⟩ (fun hHeld => ?_); clear hK K; refine norm_ (a' := ?_) ?_ ?_; rotate_left
        ·show Act.put _ (some 69) _ = _
         simp only [Act.put, List.setIfInBounds_toArray, List.set_cons_zero, List.set_cons_succ, i64_w, i32_w]; rfl
        refine one_ (i := 32) (N := some 70) #[Tt,Tt,Tt,Tt,Tt,Tt,Tt,Tt,Tt,Tt,Tt,Tt,Tt,Tt,Tt,Tt,Tt,Tt,Tt,Tt,Tt,Tt,Tt,Tt,Tt,Tt,Tt,Tt,Tt,Tt,Tt,Tt,Tt,Ff] rfl rfl (one_of HT_.out (by kernel_rfl)) (by decide) (fun K hK => ?_); refine Kd.R_append_step k85 (w0 := w) w.heap.size (by rfl) (.tmp 38) (.tmp 69) 45 85 (.agg #[(.int .i64 0), (.int .i64 0), (.int .i64 0)]) 24 rfl Try.underlying45 info85 rfl (by decide) (by omega) u11 x11_1 (⟨Int.tmod (wrap64 ((rd_T96 l0_6 x12_1).f0)) (t665.length : Int), Int.tmod (wrap64 ((rd_T96 l0_6 x12_1).f1)) (wrap64 (t670 + 1)), Int.tmod (wrap64 ((rd_T96 l0_6 x12_1).f2)) 4⟩ : S85) [.int .i64 (Int.tmod (wrap64 ((rd_T96 l0_6 x12_1).f0)) (t665.length : Int)), .int .i64 (Int.tmod (wrap64 ((rd_T96 l0_6 x12_1).f1)) (wrap64 (t670 + 1))), .int .i64 (Int.tmod (wrap64 ((rd_T96 l0_6 x12_1).f2)) 4)] (fun _ => True) (fun _ => False) rfl rfl ?aP (fun _ hk => hk.elim) ?aF ?aO ?aB ?aS ?aL ?_
        (case aP => exact k85_mkM _ _ _ (⟨Int.tmod (wrap64 ((rd_T96 l0_6 x12_1).f0)) (t665.length : Int), Int.tmod (wrap64 ((rd_T96 l0_6 x12_1).f1)) (wrap64 (t670 + 1)), Int.tmod (wrap64 ((rd_T96 l0_6 x12_1).f2)) 4⟩ : S85))
        (case aB => exact hb_)
        (case aF => exact (fun _ _ => trivial))
        (case aO => exact (rq_ HO_11.out))
        (case aS => exact (below_size hb_))
        (case aL => have := LMc19.out; omega)
        intro v676 w26 ho hb hg hat; rw [← Ny675.out] at ho; replace HO_672002 := am_ (Kd.R_over' (rq_ HO_672002.out) (Kd.R_typed (rq_ HO_11.out)) (by decide) hg); replace BK661 := am_ (bg_ BK661.out hg (Kd.R_ne HO_11.out BK661.out (by decide))); replace BK662 := am_ (bg_ BK662.out hg (Kd.R_ne HO_11.out BK662.out (by decide))); replace BK671 := am_ (bg_ BK671.out hg (Kd.R_ne HO_11.out BK671.out (by decide))); replace HB := am_ (hb); have HO677 := am_ (ho); clear HO_11; clear ho hb hg hat; refine hK.out _ _ ⟨(blk_cell BK661.out 0).trans rfl, (blk_cell BK661.out 1).trans rfl, (blk_cell BK661.out 2).trans rfl, (blk_cell BK661.out 3).trans rfl, (blk_cell BK661.out 4).trans rfl, (blk_cell BK661.out 5).trans rfl, (blk_cell BK661.out 6).trans rfl, (blk_cell BK671.out 0).trans rfl, (blk_cell BK671.out 1).trans rfl, (blk_cell BK671.out 2).trans rfl, ((HB.out.cell (World.block_lt_of_cell? w _ hw672_0)).trans hw672_0), ((HB.out.cell (World.block_lt_of_cell? w _ hw672_1)).trans hw672_1), ((HB.out.cell (World.block_lt_of_cell? w _ hw672_2)).trans hw672_2), ((HB.out.cell (World.block_lt_of_cell? w _ hw673_0)).trans hw673_0), ((HB.out.cell (World.block_lt_of_cell? w _ hw673_1)).trans hw673_1), ((HB.out.cell (World.block_lt_of_cell? w _ hw673_2)).trans hw673_2), ((HB.out.cell (World.block_lt_of_cell? w _ hw673_0)).trans hw673_0), ((HB.out.cell (World.block_lt_of_cell? w _ hw673_1)).trans hw673_1), ((HB.out.cell (World.block_lt_of_cell? w _ hw673_2)).trans hw673_2)⟩ (fun hHeld => ?_); clear hK K; refine norm_ (a' := ?_) ?_ ?_; rotate_left
        ·show Act.put _ (some 70) _ = _
         simp only [Act.put, List.setIfInBounds_toArray, List.set_cons_zero, List.set_cons_succ, i64_w, i32_w]; rfl
        refine pw_ 33 11 ?_; refine done_ (done_of HT_.out (by kernel_rfl)) ?_
        try go_wp2
        go_roundg k1
        case measure => have := HK1.out; omega
        case rel => exact ⟨(y675), (wrap64 (x12_1 + 1)), rs_, H', ⟨by have := HK1.out; omega⟩, ⟨rq_ HO677.out⟩, ⟨rq_ HO_672002.out⟩, ⟨bq_ BK661.out⟩, ⟨bq_ BK662.out⟩, ⟨bq_ BK671.out⟩, ⟨hb_⟩⟩
     ·rw [if_neg c15] at H
      have c15b0 := decide_eq_false c15; have c15b1 : decide (0 < t665.length) = false := decide_eq_false (by omega); clear c15; simp only [Option.some.injEq, Prod.mk.injEq] at H; obtain ⟨rfl, rfl, rfl, rfl, rfl, rfl, rfl⟩ := H; have hnb27 := NB661_662.out; have hnc27 := NB662_661.out; have hnb28 := NB661_671.out; have hnc28 := NB671_661.out; obtain ⟨hcz29_0, hcz29_1, hcz29_2, hcz29_3, hcz29_4, hcz29_5, hcz29_6, hfz29_0, hfz29_1, hfz29_2, hfz29_3, hfz29_4, hfz29_5, hfz29_6⟩ := cf7_ BK661.out; have hnb30 := NB671_662.out; have hnc30 := NB662_671.out; obtain ⟨hcz31_0, hcz31_1, hcz31_2, hfz31_0, hfz31_1, hfz31_2⟩ := cf3_ BK671.out; obtain ⟨hcz32_0, hcz32_1, hcz32_2, hfz32_0, hfz32_1, hfz32_2⟩ := cf3_ BK662.out
      go_wp2
      refine bodyPost_ret (results_list (rs := [.cell 2 24, .tmp 3, .tmp 4, .tmp 5, .tmp 6]) rfl (by simp) (.cell gb662 24 #[.int .i64 t663, .bool t664, .slice Ao12 t665.length co12] (0, 0) _ rfl q9_ Try.underlying24 rfl (by kernel_rfl) (.tmp (.tmp (.tmp (.tmp .nil)))))) rfl ?_; exact ⟨_, _, er_, by refine rq_ ?_; exact Kd.R_mono (rf3_ (Kd.R_types HO_672002.out BK662.out (by decide))) (fun _ hk => trivial), by refine rq_ ?_; exact Kd.R_mono (rf3_ (Kd.R_types HO_11.out BK662.out (by decide))) (fun _ hk => trivial), hb_⟩
    ·rw [if_neg c14] at H
     have c14b0 := decide_eq_false c14; clear c14; simp only [Option.some.injEq, Prod.mk.injEq] at H; obtain ⟨rfl, rfl, rfl, rfl, rfl, rfl, rfl⟩ := H; have hnb33 := NB661_662.out; have hnc33 := NB662_661.out; have hnb34 := NB661_671.out; have hnc34 := NB671_661.out; obtain ⟨hcz35_0, hcz35_1, hcz35_2, hcz35_3, hcz35_4, hcz35_5, hcz35_6, hfz35_0, hfz35_1, hfz35_2, hfz35_3, hfz35_4, hfz35_5, hfz35_6⟩ := cf7_ BK661.out; have hnb36 := NB671_662.out; have hnc36 := NB662_671.out; obtain ⟨hcz37_0, hcz37_1, hcz37_2, hfz37_0, hfz37_1, hfz37_2⟩ := cf3_ BK671.out; obtain ⟨hcz38_0, hcz38_1, hcz38_2, hfz38_0, hfz38_1, hfz38_2⟩ := cf3_ BK662.out
     go_wp2
     refine bodyPost_ret (results_list (rs := [.cell 2 24, .tmp 3, .tmp 4, .tmp 5, .tmp 6]) rfl (by simp) (.cell gb662 24 #[.int .i64 t663, .bool t664, .slice Ao12 t665.length co12] (0, 0) _ rfl q9_ Try.underlying24 rfl (by kernel_rfl) (.tmp (.tmp (.tmp (.tmp .nil)))))) rfl ?_; exact ⟨_, _, er_, by refine rq_ ?_; exact Kd.R_mono (rf3_ (Kd.R_types HO_672002.out BK662.out (by decide))) (fun _ hk => trivial), by refine rq_ ?_; exact Kd.R_mono (rf3_ (Kd.R_types HO_11.out BK662.out (by decide))) (fun _ hk => trivial), hb_⟩
   ·rw [if_neg c13] at H
    have c13b0 := decide_eq_false c13; clear c13; simp only [Option.some.injEq, Prod.mk.injEq] at H; obtain ⟨rfl, rfl, rfl, rfl, rfl, rfl, rfl⟩ := H; have hnb39 := NB661_662.out; have hnc39 := NB662_661.out; have hnb40 := NB661_671.out; have hnc40 := NB671_661.out; obtain ⟨hcz41_0, hcz41_1, hcz41_2, hcz41_3, hcz41_4, hcz41_5, hcz41_6, hfz41_0, hfz41_1, hfz41_2, hfz41_3, hfz41_4, hfz41_5, hfz41_6⟩ := cf7_ BK661.out; have hnb42 := NB671_662.out; have hnc42 := NB662_671.out; obtain ⟨hcz43_0, hcz43_1, hcz43_2, hfz43_0, hfz43_1, hfz43_2⟩ := cf3_ BK671.out; obtain ⟨hcz44_0, hcz44_1, hcz44_2, hfz44_0, hfz44_1, hfz44_2⟩ := cf3_ BK662.out
    go_wp2
    refine bodyPost_ret (results_list (rs := [.cell 2 24, .tmp 3, .tmp 4, .tmp 5, .tmp 6]) rfl (by simp) (.cell gb662 24 #[.int .i64 t663, .bool t664, .slice Ao12 t665.length co12] (0, 0) _ rfl q9_ Try.underlying24 rfl (by kernel_rfl) (.tmp (.tmp (.tmp (.tmp .nil)))))) rfl ?_; exact ⟨_, _, er_, by refine rq_ ?_; exact Kd.R_mono (rf3_ (Kd.R_types HO_672002.out BK662.out (by decide))) (fun _ hk => trivial), by refine rq_ ?_; exact Kd.R_mono (rf3_ (Kd.R_types HO_11.out BK662.out (by decide))) (fun _ hk => trivial), hb_⟩
end Go.Proofs.Ytfhkkbpkajfdlaa.Q
end
section
namespace Go.Proofs.Ytfhkkbpkajfdlaa.R
open Go.RowKit Go.Proofs.Ytfhkkbpkajfdlaa.Q Go.Proofs.YtfhkkbpkajfdlaaW.PrintWords Go.Proofs.YtfhkkbpkajfdlaaW.PrintLast Go.Proofs.YtfhkkbpkajfdlaaW.PrintMore
open Go.ChangeShapes Go.WideShapes Go.Deep
def Reads (t : TypeId) {α : Type} (d : Kd α) (G : Nat → α → Prop) : Prop :=
 ∀ {H : Type} (enc : TypeId × Value → H) (w : World) (base : Nat) (spare : Nat → Bool) (held : Bool) (fuel : Nat) (cs : List Value) (x : DataW H × List MemPlace),
  DataW.trod enc Try.prog w base spare held fuel t cs = some x → ∃ a, d.K w a cs ∧ ∀ N, Rows.uptoBulk x.1 ≤ N → G N a
def gInt (k : IntKind) (_ : Nat) (n : Int) : Prop := (Lit.int k n).wf = true
def gTrue (_ : Nat) (_ : Bool) : Prop := True
def gList {α : Type} (G : Nat → α → Prop) (N : Nat) (l : List α) : Prop := l.length ≤ maxLen ∧ l.length ≤ N ∧ ∀ x ∈ l, G N x
theorem readsInt {t : TypeId} {k : IntKind} (ht : Try.prog.underlying t = some (.int k)) : Reads t (Kd.int k) (gInt k) := by
 intro H enc w base spare held fuel cs x h
 obtain ⟨n, rfl, rfl, hw⟩ := DataW.trod_int ht h
 exact ⟨n, rfl, fun _ _ => hw⟩
theorem readsBool {t : TypeId} (ht : Try.prog.underlying t = some .bool) : Reads t Kd.bool gTrue := by
 intro H enc w base spare held fuel cs x h
 obtain ⟨n, rfl, rfl⟩ := DataW.trod_bool ht h
 exact ⟨n, rfl, fun _ _ => trivial⟩
theorem one_le {H : Type} (d : DataW H) : 1 ≤ Rows.uptoBulk d := by
 cases d with
 | lit l => cases l <;> simp [Rows.uptoBulk]
 | nil => simp [Rows.uptoBulk]
 | ptr d => simp [Rows.uptoBulk]
 | slice elems spare => simp [Rows.uptoBulk]
 | agg parts => simp [Rows.uptoBulk]
 | iface t d => simp [Rows.uptoBulk]
 | map entries => simp [Rows.uptoBulk]
 | held h => simp [Rows.uptoBulk]
theorem part_le {H : Type} {d : DataW H} {l : List (DataW H)} (h : d ∈ l) : Rows.uptoBulk d ≤ Rows.uptoBulkAll l := by
 induction l with
 | nil => cases h
 | cons x r ih =>
  simp only [Rows.uptoBulkAll]
  cases List.mem_cons.1 h with
  | inl e => subst e; omega
  | inr e => have := ih e; omega
theorem length_le {H : Type} (l : List (DataW H)) : l.length ≤ Rows.uptoBulkAll l := by
 induction l with
 | nil => simp [Rows.uptoBulkAll]
 | cons x r ih => have := one_le x; simp only [Rows.uptoBulkAll, List.length_cons]; omega
theorem readsSlice {t e : TypeId} {α : Type} [Inhabited α] {d : Kd α} {G : Nat → α → Prop} (ht : Try.prog.underlying t = some (.slice e)) (hc : Try.prog.cellsOf e = d.sz) (R : Reads e d G) : Reads t (Kd.slice e d) (gList G) := by
 intro H enc w base spare held fuel cs x h
 rcases open_slice ht h with ⟨rfl, rfl⟩ | ⟨a, len, cap, m, n, D, Pl, rfl, hb, hl, hm, hmm, rfl, hx⟩
 ·exact ⟨[], ⟨none, 0, rfl, Nat.le_refl _, Kd.C_nil d w⟩, fun N _ => ⟨Nat.zero_le _, Nat.zero_le _, fun x hx => by cases hx⟩⟩
 ·have hlm : len ≤ m := by rw [hmm]; split <;> omega
  obtain ⟨f, hf⟩ := choose_lt (α := α) (n := m) (p := fun i y => ∃ c, c.length = d.sz ∧ d.K w y c ∧ (∀ j u, c[j]? = some u → w.cell? (a.add (i * d.sz + j)) = some u) ∧ ∀ N, Rows.uptoBulk (D i) ≤ N → G N y) (fun i hi => by
   obtain ⟨c, h1, h2⟩ := hx i hi
   obtain ⟨y, hK, hG⟩ := R enc w base spare held n c _ h2
   obtain ⟨_, hlen, hcell⟩ := World.cells?_some h1
   rw [hc] at hlen hcell
   refine ⟨y, c, hlen, hK, fun j u hu => ?_, hG⟩
   have hj : j < d.sz := by rw [← hlen]; exact (List.getElem?_eq_some_iff.1 hu).1
   have := hcell j hj
   rw [Deep.add_add] at this
   rw [this, hu])
  have hL : ((List.range len).map f).length = len := by simp
  refine ⟨(List.range len).map f, ⟨some a, cap, by rw [hL], by rw [hL]; exact hl, ?_⟩, fun N hN => ?_⟩
  ·refine ⟨rfl, by rw [hL]; exact Nat.le_trans hl (Nat.le_trans hm (by decide)), fun _ => ⟨a, rfl, fun j p hj => ?_⟩⟩
   have hjl : j < len := by
    have := (List.getElem?_eq_some_iff.1 hj).1
    rwa [hL] at this
   have hp : f j = p := by
    rw [List.getElem?_map, List.getElem?_range hjl] at hj
    exact Option.some.inj hj
   obtain ⟨c, h1, h2, h3, _⟩ := hf j (by omega)
   rw [hp] at h2
   exact ⟨c, h1, h2, h3⟩
  ·have hbulk : Rows.uptoBulkAll ((List.range len).map D) ≤ N := by
    simp only [Rows.uptoBulk] at hN
    omega
   refine ⟨by rw [hL]; omega, by rw [hL]; have := length_le ((List.range len).map D); simp at this; omega, fun y hy => ?_⟩
   obtain ⟨i, hi, rfl⟩ := List.mem_map.1 hy
   have hi' := List.mem_range.1 hi
   obtain ⟨c, _, _, _, hG⟩ := hf i (by omega)
   exact hG N (Nat.le_trans (part_le (List.mem_map.2 ⟨i, hi, rfl⟩)) hbulk)
instance : Inhabited S54 := ⟨z54⟩
def g54 (N : Nat) (x : S54) : Prop := gInt .i64 N x.f0 ∧ gInt .i64 N x.f1 ∧ gInt .i64 N x.f2 ∧ gInt .i64 N x.f3
set_option maxRecDepth 100000 in
theorem reads54 : Reads 54 k54 g54 := by
 intro H enc w base spare held fuel cs x h
 obtain ⟨xs, n, _, hx, hl, hlen, hf⟩ := DataW.trod_struct Try.underlying54 h
 have hl2 : cs.length = 4 := hl.trans (by kernel_rfl)
 have hlen2 : xs.length = 4 := hlen
 match xs, hlen2, cs, hl2 with
 | [y0, y1, y2, y3], _, [v0, v1, v2, v3], _ =>
  have c0 : Try.prog.cellsOf 3 = 1 := by kernel_rfl
  have e0 : DataW.trod enc Try.prog w base spare held n 3 (List.take (Try.prog.cellsOf 3) (List.drop 0 [v0, v1, v2, v3])) = some y0 := hf 0 _ rfl
  rw [c0] at e0
  obtain ⟨a0, K0, G0⟩ := (readsInt Try.underlying3) enc w base spare held n [v0] y0 e0
  have c1 : Try.prog.cellsOf 3 = 1 := by kernel_rfl
  have e1 : DataW.trod enc Try.prog w base spare held n 3 (List.take (Try.prog.cellsOf 3) (List.drop 1 [v0, v1, v2, v3])) = some y1 := hf 1 _ rfl
  rw [c1] at e1
  obtain ⟨a1, K1, G1⟩ := (readsInt Try.underlying3) enc w base spare held n [v1] y1 e1
  have c2 : Try.prog.cellsOf 3 = 1 := by kernel_rfl
  have e2 : DataW.trod enc Try.prog w base spare held n 3 (List.take (Try.prog.cellsOf 3) (List.drop 2 [v0, v1, v2, v3])) = some y2 := hf 2 _ rfl
  rw [c2] at e2
  obtain ⟨a2, K2, G2⟩ := (readsInt Try.underlying3) enc w base spare held n [v2] y2 e2
  have c3 : Try.prog.cellsOf 3 = 1 := by kernel_rfl
  have e3 : DataW.trod enc Try.prog w base spare held n 3 (List.take (Try.prog.cellsOf 3) (List.drop 3 [v0, v1, v2, v3])) = some y3 := hf 3 _ rfl
  rw [c3] at e3
  obtain ⟨a3, K3, G3⟩ := (readsInt Try.underlying3) enc w base spare held n [v3] y3 e3
  refine ⟨⟨a0, a1, a2, a3⟩, ⟨_, _, rfl, K0, ⟨_, _, rfl, K1, ⟨_, _, rfl, K2, K3⟩⟩⟩, fun N hN => ?_⟩
  rw [hx] at hN
  simp only [List.map_cons, List.map_nil, Rows.uptoBulk, Rows.uptoBulkAll] at hN
  exact ⟨G0 N (by omega), G1 N (by omega), G2 N (by omega), G3 N (by omega)⟩
structure S24 where
 f0 : Int
 f1 : Bool
 f2 : List S54
def z24 : S24 := ⟨(0 : Int), false, []⟩
def k24 : Kd S24 := Kd.iso (Kd.pair (Kd.int .i64) (Kd.pair Kd.bool (Kd.slice 54 k54))) (fun x : S24 => (x.f0, x.f1, x.f2))
instance : Inhabited S24 := ⟨z24⟩
def g24 (N : Nat) (x : S24) : Prop := gInt .i64 N x.f0 ∧ gTrue N x.f1 ∧ gList (g54) N x.f2
set_option maxRecDepth 100000 in
theorem reads24 : Reads 24 k24 g24 := by
 intro H enc w base spare held fuel cs x h
 obtain ⟨xs, n, _, hx, hl, hlen, hf⟩ := DataW.trod_struct Try.underlying24 h
 have hl2 : cs.length = 3 := hl.trans (by kernel_rfl)
 have hlen2 : xs.length = 3 := hlen
 match xs, hlen2, cs, hl2 with
 | [y0, y1, y2], _, [v0, v1, v2], _ =>
  have c0 : Try.prog.cellsOf 3 = 1 := by kernel_rfl
  have e0 : DataW.trod enc Try.prog w base spare held n 3 (List.take (Try.prog.cellsOf 3) (List.drop 0 [v0, v1, v2])) = some y0 := hf 0 _ rfl
  rw [c0] at e0
  obtain ⟨a0, K0, G0⟩ := (readsInt Try.underlying3) enc w base spare held n [v0] y0 e0
  have c1 : Try.prog.cellsOf 4 = 1 := by kernel_rfl
  have e1 : DataW.trod enc Try.prog w base spare held n 4 (List.take (Try.prog.cellsOf 4) (List.drop 1 [v0, v1, v2])) = some y1 := hf 1 _ rfl
  rw [c1] at e1
  obtain ⟨a1, K1, G1⟩ := (readsBool Try.underlying4) enc w base spare held n [v1] y1 e1
  have c2 : Try.prog.cellsOf 22 = 1 := by kernel_rfl
  have e2 : DataW.trod enc Try.prog w base spare held n 22 (List.take (Try.prog.cellsOf 22) (List.drop 2 [v0, v1, v2])) = some y2 := hf 2 _ rfl
  rw [c2] at e2
  obtain ⟨a2, K2, G2⟩ := (readsSlice Try.underlying22 (by kernel_rfl) reads54) enc w base spare held n [v2] y2 e2
  refine ⟨⟨a0, a1, a2⟩, ⟨_, _, rfl, K0, ⟨_, _, rfl, K1, K2⟩⟩, fun N hN => ?_⟩
  rw [hx] at hN
  simp only [List.map_cons, List.map_nil, Rows.uptoBulk, Rows.uptoBulkAll] at hN
  exact ⟨G0 N (by omega), G1 N (by omega), G2 N (by omega)⟩
instance : Inhabited S80 := ⟨z80⟩
def g80 (N : Nat) (x : S80) : Prop := gInt .u8 N x.f0 ∧ gInt .u8 N x.f1 ∧ gInt .u8 N x.f2 ∧ gInt .u8 N x.f3
set_option maxRecDepth 100000 in
theorem reads80 : Reads 80 k80 g80 := by
 intro H enc w base spare held fuel cs x h
 obtain ⟨xs, n, _, hx, hl, hlen, hf⟩ := DataW.trod_struct Try.underlying80 h
 have hl2 : cs.length = 4 := hl.trans (by kernel_rfl)
 have hlen2 : xs.length = 4 := hlen
 match xs, hlen2, cs, hl2 with
 | [y0, y1, y2, y3], _, [v0, v1, v2, v3], _ =>
  have c0 : Try.prog.cellsOf 5 = 1 := by kernel_rfl
  have e0 : DataW.trod enc Try.prog w base spare held n 5 (List.take (Try.prog.cellsOf 5) (List.drop 0 [v0, v1, v2, v3])) = some y0 := hf 0 _ rfl
  rw [c0] at e0
  obtain ⟨a0, K0, G0⟩ := (readsInt Try.underlying5) enc w base spare held n [v0] y0 e0
  have c1 : Try.prog.cellsOf 5 = 1 := by kernel_rfl
  have e1 : DataW.trod enc Try.prog w base spare held n 5 (List.take (Try.prog.cellsOf 5) (List.drop 1 [v0, v1, v2, v3])) = some y1 := hf 1 _ rfl
  rw [c1] at e1
  obtain ⟨a1, K1, G1⟩ := (readsInt Try.underlying5) enc w base spare held n [v1] y1 e1
  have c2 : Try.prog.cellsOf 5 = 1 := by kernel_rfl
  have e2 : DataW.trod enc Try.prog w base spare held n 5 (List.take (Try.prog.cellsOf 5) (List.drop 2 [v0, v1, v2, v3])) = some y2 := hf 2 _ rfl
  rw [c2] at e2
  obtain ⟨a2, K2, G2⟩ := (readsInt Try.underlying5) enc w base spare held n [v2] y2 e2
  have c3 : Try.prog.cellsOf 5 = 1 := by kernel_rfl
  have e3 : DataW.trod enc Try.prog w base spare held n 5 (List.take (Try.prog.cellsOf 5) (List.drop 3 [v0, v1, v2, v3])) = some y3 := hf 3 _ rfl
  rw [c3] at e3
  obtain ⟨a3, K3, G3⟩ := (readsInt Try.underlying5) enc w base spare held n [v3] y3 e3
  refine ⟨⟨a0, a1, a2, a3⟩, ⟨_, _, rfl, K0, ⟨_, _, rfl, K1, ⟨_, _, rfl, K2, K3⟩⟩⟩, fun N hN => ?_⟩
  rw [hx] at hN
  simp only [List.map_cons, List.map_nil, Rows.uptoBulk, Rows.uptoBulkAll] at hN
  exact ⟨G0 N (by omega), G1 N (by omega), G2 N (by omega), G3 N (by omega)⟩
structure S41 where
 f0 : Int
 f1 : Bool
 f2 : List S80
 f3 : Int
 f4 : Int
 f5 : Int
def z41 : S41 := ⟨(0 : Int), false, [], (0 : Int), (0 : Int), (0 : Int)⟩
def k41 : Kd S41 := Kd.iso (Kd.pair (Kd.int .u8) (Kd.pair Kd.bool (Kd.pair (Kd.slice 80 k80) (Kd.pair (Kd.int .u8) (Kd.pair (Kd.int .u8) (Kd.int .u8)))))) (fun x : S41 => (x.f0, x.f1, x.f2, x.f3, x.f4, x.f5))
instance : Inhabited S41 := ⟨z41⟩
def g41 (N : Nat) (x : S41) : Prop := gInt .u8 N x.f0 ∧ gTrue N x.f1 ∧ gList (g80) N x.f2 ∧ gInt .u8 N x.f3 ∧ gInt .u8 N x.f4 ∧ gInt .u8 N x.f5
set_option maxRecDepth 100000 in
theorem reads41 : Reads 41 k41 g41 := by
 intro H enc w base spare held fuel cs x h
 obtain ⟨xs, n, _, hx, hl, hlen, hf⟩ := DataW.trod_struct Try.underlying41 h
 have hl2 : cs.length = 6 := hl.trans (by kernel_rfl)
 have hlen2 : xs.length = 6 := hlen
 match xs, hlen2, cs, hl2 with
 | [y0, y1, y2, y3, y4, y5], _, [v0, v1, v2, v3, v4, v5], _ =>
  have c0 : Try.prog.cellsOf 5 = 1 := by kernel_rfl
  have e0 : DataW.trod enc Try.prog w base spare held n 5 (List.take (Try.prog.cellsOf 5) (List.drop 0 [v0, v1, v2, v3, v4, v5])) = some y0 := hf 0 _ rfl
  rw [c0] at e0
  obtain ⟨a0, K0, G0⟩ := (readsInt Try.underlying5) enc w base spare held n [v0] y0 e0
  have c1 : Try.prog.cellsOf 4 = 1 := by kernel_rfl
  have e1 : DataW.trod enc Try.prog w base spare held n 4 (List.take (Try.prog.cellsOf 4) (List.drop 1 [v0, v1, v2, v3, v4, v5])) = some y1 := hf 1 _ rfl
  rw [c1] at e1
  obtain ⟨a1, K1, G1⟩ := (readsBool Try.underlying4) enc w base spare held n [v1] y1 e1
  have c2 : Try.prog.cellsOf 39 = 1 := by kernel_rfl
  have e2 : DataW.trod enc Try.prog w base spare held n 39 (List.take (Try.prog.cellsOf 39) (List.drop 2 [v0, v1, v2, v3, v4, v5])) = some y2 := hf 2 _ rfl
  rw [c2] at e2
  obtain ⟨a2, K2, G2⟩ := (readsSlice Try.underlying39 (by kernel_rfl) reads80) enc w base spare held n [v2] y2 e2
  have c3 : Try.prog.cellsOf 5 = 1 := by kernel_rfl
  have e3 : DataW.trod enc Try.prog w base spare held n 5 (List.take (Try.prog.cellsOf 5) (List.drop 3 [v0, v1, v2, v3, v4, v5])) = some y3 := hf 3 _ rfl
  rw [c3] at e3
  obtain ⟨a3, K3, G3⟩ := (readsInt Try.underlying5) enc w base spare held n [v3] y3 e3
  have c4 : Try.prog.cellsOf 5 = 1 := by kernel_rfl
  have e4 : DataW.trod enc Try.prog w base spare held n 5 (List.take (Try.prog.cellsOf 5) (List.drop 4 [v0, v1, v2, v3, v4, v5])) = some y4 := hf 4 _ rfl
  rw [c4] at e4
  obtain ⟨a4, K4, G4⟩ := (readsInt Try.underlying5) enc w base spare held n [v4] y4 e4
  have c5 : Try.prog.cellsOf 5 = 1 := by kernel_rfl
  have e5 : DataW.trod enc Try.prog w base spare held n 5 (List.take (Try.prog.cellsOf 5) (List.drop 5 [v0, v1, v2, v3, v4, v5])) = some y5 := hf 5 _ rfl
  rw [c5] at e5
  obtain ⟨a5, K5, G5⟩ := (readsInt Try.underlying5) enc w base spare held n [v5] y5 e5
  refine ⟨⟨a0, a1, a2, a3, a4, a5⟩, ⟨_, _, rfl, K0, ⟨_, _, rfl, K1, ⟨_, _, rfl, K2, ⟨_, _, rfl, K3, ⟨_, _, rfl, K4, K5⟩⟩⟩⟩⟩, fun N hN => ?_⟩
  rw [hx] at hN
  simp only [List.map_cons, List.map_nil, Rows.uptoBulk, Rows.uptoBulkAll] at hN
  exact ⟨G0 N (by omega), G1 N (by omega), G2 N (by omega), G3 N (by omega), G4 N (by omega), G5 N (by omega)⟩
instance : Inhabited S96 := ⟨z96⟩
def g96 (N : Nat) (x : S96) : Prop := gInt .u8 N x.f0 ∧ gInt .u8 N x.f1 ∧ gInt .u8 N x.f2
set_option maxRecDepth 100000 in
theorem reads96 : Reads 96 k96 g96 := by
 intro H enc w base spare held fuel cs x h
 obtain ⟨xs, n, _, hx, hl, hlen, hf⟩ := DataW.trod_struct Try.underlying96 h
 have hl2 : cs.length = 3 := hl.trans (by kernel_rfl)
 have hlen2 : xs.length = 3 := hlen
 match xs, hlen2, cs, hl2 with
 | [y0, y1, y2], _, [v0, v1, v2], _ =>
  have c0 : Try.prog.cellsOf 5 = 1 := by kernel_rfl
  have e0 : DataW.trod enc Try.prog w base spare held n 5 (List.take (Try.prog.cellsOf 5) (List.drop 0 [v0, v1, v2])) = some y0 := hf 0 _ rfl
  rw [c0] at e0
  obtain ⟨a0, K0, G0⟩ := (readsInt Try.underlying5) enc w base spare held n [v0] y0 e0
  have c1 : Try.prog.cellsOf 5 = 1 := by kernel_rfl
  have e1 : DataW.trod enc Try.prog w base spare held n 5 (List.take (Try.prog.cellsOf 5) (List.drop 1 [v0, v1, v2])) = some y1 := hf 1 _ rfl
  rw [c1] at e1
  obtain ⟨a1, K1, G1⟩ := (readsInt Try.underlying5) enc w base spare held n [v1] y1 e1
  have c2 : Try.prog.cellsOf 5 = 1 := by kernel_rfl
  have e2 : DataW.trod enc Try.prog w base spare held n 5 (List.take (Try.prog.cellsOf 5) (List.drop 2 [v0, v1, v2])) = some y2 := hf 2 _ rfl
  rw [c2] at e2
  obtain ⟨a2, K2, G2⟩ := (readsInt Try.underlying5) enc w base spare held n [v2] y2 e2
  refine ⟨⟨a0, a1, a2⟩, ⟨_, _, rfl, K0, ⟨_, _, rfl, K1, K2⟩⟩, fun N hN => ?_⟩
  rw [hx] at hN
  simp only [List.map_cons, List.map_nil, Rows.uptoBulk, Rows.uptoBulkAll] at hN
  exact ⟨G0 N (by omega), G1 N (by omega), G2 N (by omega)⟩
structure S60 where
 f0 : S41
 f1 : List S96
def z60 : S60 := ⟨z41, []⟩
def k60 : Kd S60 := Kd.iso (Kd.pair k41 (Kd.slice 96 k96)) (fun x : S60 => (x.f0, x.f1))
instance : Inhabited S60 := ⟨z60⟩
def g60 (N : Nat) (x : S60) : Prop := g41 N x.f0 ∧ gList (g96) N x.f1
set_option maxRecDepth 100000 in
theorem reads60 : Reads 60 k60 g60 := by
 intro H enc w base spare held fuel cs x h
 obtain ⟨xs, n, _, hx, hl, hlen, hf⟩ := DataW.trod_struct Try.underlying60 h
 have hl2 : cs.length = 7 := hl.trans (by kernel_rfl)
 have hlen2 : xs.length = 2 := hlen
 match xs, hlen2, cs, hl2 with
 | [y0, y1], _, [v0, v1, v2, v3, v4, v5, v6], _ =>
  have c0 : Try.prog.cellsOf 41 = 6 := by kernel_rfl
  have e0 : DataW.trod enc Try.prog w base spare held n 41 (List.take (Try.prog.cellsOf 41) (List.drop 0 [v0, v1, v2, v3, v4, v5, v6])) = some y0 := hf 0 _ rfl
  rw [c0] at e0
  obtain ⟨a0, K0, G0⟩ := reads41 enc w base spare held n [v0, v1, v2, v3, v4, v5] y0 e0
  have c1 : Try.prog.cellsOf 58 = 1 := by kernel_rfl
  have e1 : DataW.trod enc Try.prog w base spare held n 58 (List.take (Try.prog.cellsOf 58) (List.drop 6 [v0, v1, v2, v3, v4, v5, v6])) = some y1 := hf 1 _ rfl
  rw [c1] at e1
  obtain ⟨a1, K1, G1⟩ := (readsSlice Try.underlying58 (by kernel_rfl) reads96) enc w base spare held n [v6] y1 e1
  refine ⟨⟨a0, a1⟩, ⟨_, _, rfl, K0, K1⟩, fun N hN => ?_⟩
  rw [hx] at hN
  simp only [List.map_cons, List.map_nil, Rows.uptoBulk, Rows.uptoBulkAll] at hN
  exact ⟨G0 N (by omega), G1 N (by omega)⟩
end Go.Proofs.Ytfhkkbpkajfdlaa.R
end
