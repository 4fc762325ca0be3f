/- A part of the proof: words, contracts, plain lemmas. Conditions: none. -/
import Derived.Test.YtloebciamfbjfaaZPileSorts3
import Derived.Test.YtloebciamfbjfaaZPileSorts12
import Derived.Test.YtloebciamfbjfaaZPileSorts11
import Derived.Test.YtloebciamfbjfaaRows
import Derived.Deep.Slices
import Derived.ProofKit
import Derived.WalkKit
import Derived.OpenShut
import Derived.ShutString
import Derived.ChangeOld
import Derived.Below
import Derived.SizedLaws
section
namespace Go.Proofs.Ytloebciamfbjfaa.Q
open Go.RowKit Go.Proofs.YtloebciamfbjfaaW.PrintWords Go.Proofs.YtloebciamfbjfaaW.PrintLast Go.Proofs.YtloebciamfbjfaaW.PrintMore
set_option linter.unusedVariables false
set_option linter.unusedSimpArgs false
attribute [local go_sem high] eqA34
def ebbtideref02_Same.l0 : Nat → List (S34) → List (S34) → Int → Option (Bool)
 | 0, _, _, _ => none
 | k + 1, x0, x1, x5 => if x5 < (x0.length : Int) then (if 0 ≤ x5 then (if x5 < (x1.length : Int) then (if (!(((rd_T34 x0 x5).f0) == ((rd_T34 x1 x5).f0)) || (!(((rd_T34 x0 x5).f1) == ((rd_T34 x1 x5).f1)))) = true then (some false) else (ebbtideref02_Same.l0 k x0 x1 (wrap64 (x5 + 1)))) else (none)) else (none)) else (some true)
def ebbtideref02_Same.f (k : Nat) (l0 : List (S34)) (l1 : List (S34)) : Option (Bool) := if (l0.length : Int) = (l1.length : Int) then (ebbtideref02_Same.l0 k l0 l1 0) else (some false)
set_option maxHeartbeats 8000000 in
set_option maxRecDepth 100000 in
theorem ebbtideref02_Same.calls (k : Nat) (A0 : Option Addr) (c0 : Nat) (l0 : List (S34)) (A1 : Option Addr) (c1 : Nat) (l1 : List (S34)) (r : Bool) (w : World) (hr0 : Kd.C k34 w A0 l0.length l0) (hc0 : l0.length ≤ c0) (hr1 : Kd.C k34 w A1 l1.length l1) (hc1 : l1.length ≤ c1) (h : ebbtideref02_Same.f k l0 l1 = some r) :
  Calls Try.prog 25 #[.slice A0 l0.length c0, .slice A1 l1.length c1] w fun e w' => e = .returned (.bool r) ∧ Drawn0 w w' := by
 have hu34 := Try.underlying34; have HR0 := Aside0.mk hr0; have HC0 := Aside0.mk hc0; clear hr0 hc0; have HR1 := Aside0.mk hr1; have HC1 := Aside0.mk hc1; clear hr1 hc1; have H : (if (l0.length : Int) = (l1.length : Int) then (ebbtideref02_Same.l0 k l0 l1 0) else (some false)) = some r := h; clear h
 by_cases c3 : (l0.length : Int) = (l1.length : Int)
 ·rw [if_pos c3] at H
  have c3b0 : ((l0.length : Int) == (l1.length : Int)) = true := beq_iff_eq.mpr c3; have c3b1 : ((l0.length : Int) != (l1.length : Int)) = false := bne_eq_false_iff_eq.mpr c3
  have c3b2 : (l0.length == l1.length) = true := by first | simpa using c3 | (simp at c3 ⊢; omega)
  clear c3; have H' := Aside0.mk H; clear H
  go_enter Try.func25, Try.ntmps25
  go_wp2
  repeat (go_quiet (fail); try go_wp2)
  go_loopg [5] k (fun kq v5 w' => ∃ (x5_1 : Int), v5 = .int .i64 x5_1 ∧ Aside0 (ebbtideref02_Same.l0 kq l0 l1 x5_1 = some r) ∧ Aside0 (kq ≤ k) ∧ Drawn0 w w')
  case atStart => exact ⟨(0), (by first | rfl | (simp; done) | (simp [*]; done)), H', ⟨Nat.le_refl _⟩, by repeat (first | exact Drawn0.refl _ | apply Drawn0.step)⟩
  case round =>
   clear H'
   try clear c1
   try clear c2
   try clear p2
   try clear c3
   try clear c3b0
   try clear c3b1
   try clear c3b2
   obtain ⟨x5_1, rfl, HA, HK1, ⟨m1, rfl⟩⟩ := hrel
   cases gk with
   | zero => exact absurd HA.out (by simp [ebbtideref02_Same.l0])
   | succ k1 =>
    have H := HA.out; clear HA; simp only [ebbtideref02_Same.l0] at H
    by_cases c4 : x5_1 < (l0.length : Int)
    ·rw [if_pos c4] at H
     have c4b0 : decide (x5_1 < (l0.length : Int)) = true := decide_eq_true c4; clear c4
     by_cases c5 : 0 ≤ x5_1
     ·rw [if_pos c5] at H
      have c5b0 : decide (0 ≤ x5_1) = true := decide_eq_true c5; clear c5
      by_cases c6 : x5_1 < (l1.length : Int)
      ·rw [if_pos c6] at H
       have c6b0 : decide (x5_1 < (l1.length : Int)) = true := decide_eq_true c6; clear c6
       by_cases c7 : (!(((rd_T34 l0 x5_1).f0) == ((rd_T34 l1 x5_1).f0)) || (!(((rd_T34 l0 x5_1).f1) == ((rd_T34 l1 x5_1).f1)))) = true
       ·rw [if_pos c7] at H
        have c7b0 : (!(((rd_T34 l0 x5_1).f0) == ((rd_T34 l1 x5_1).f0)) || (!(((rd_T34 l0 x5_1).f1) == ((rd_T34 l1 x5_1).f1)))) = true := c7; clear c7; obtain rfl := Option.some.inj H; have p114 : 0 ≤ (x5_1 : Int) := of_decide_eq_true (by first | (with_reducible assumption) | assumption); have q114 : x5_1 < (l0.length : Int) := of_decide_eq_true (by first | (with_reducible assumption) | assumption); obtain ⟨ad114, e114, hx114_0, hx114_1⟩ := at_T34 HR0.out x5_1 p114 q114; cases e114; replace p114 := eq_true p114; replace q114 := eq_true q114; have p115 : 0 ≤ (x5_1 : Int) := of_decide_eq_true (by first | (with_reducible assumption) | assumption); have q115 : x5_1 < (l1.length : Int) := of_decide_eq_true (by first | (with_reducible assumption) | assumption); obtain ⟨ad115, e115, hx115_0, hx115_1⟩ := at_T34 HR1.out x5_1 p115 q115; cases e115; replace p115 := eq_true p115; replace q115 := eq_true q115
        go_wp2
        repeat (go_quiet (fail); try go_wp2)
        go_ret
        exact ⟨by first | rfl | (simp; done) | (simp [*]; done), by repeat (first | exact Drawn0.refl _ | apply Drawn0.step)⟩
       ·rw [if_neg c7] at H
        have c7b0 : (!(((rd_T34 l0 x5_1).f0) == ((rd_T34 l1 x5_1).f0)) || (!(((rd_T34 l0 x5_1).f1) == ((rd_T34 l1 x5_1).f1)))) = false := by simpa using c7
        clear c7; have H' := Aside0.mk H; clear H; have p114 : 0 ≤ (x5_1 : Int) := of_decide_eq_true (by first | (with_reducible assumption) | assumption); have q114 : x5_1 < (l0.length : Int) := of_decide_eq_true (by first | (with_reducible assumption) | assumption); obtain ⟨ad114, e114, hx114_0, hx114_1⟩ := at_T34 HR0.out x5_1 p114 q114; cases e114; replace p114 := eq_true p114; replace q114 := eq_true q114; have p115 : 0 ≤ (x5_1 : Int) := of_decide_eq_true (by first | (with_reducible assumption) | assumption); have q115 : x5_1 < (l1.length : Int) := of_decide_eq_true (by first | (with_reducible assumption) | assumption); obtain ⟨ad115, e115, hx115_0, hx115_1⟩ := at_T34 HR1.out x5_1 p115 q115; cases e115; replace p115 := eq_true p115; replace q115 := eq_true q115
        go_wp2
        repeat (go_quiet (fail); try go_wp2)
        go_roundg k1
        case measure => have := HK1.out; omega
        case rel => exact ⟨(wrap64 (x5_1 + 1)), (by first | rfl | (simp; done) | (simp [*]; done)), H', ⟨by have := HK1.out; omega⟩, by repeat (first | exact Drawn0.refl _ | apply Drawn0.step)⟩
      ·rw [if_neg c6] at H
       exact absurd H (by simp)
     ·rw [if_neg c5] at H
      exact absurd H (by simp)
    ·rw [if_neg c4] at H
     have c4b0 : decide (x5_1 < (l0.length : Int)) = false := decide_eq_false c4; clear c4; obtain rfl := Option.some.inj H
     go_wp2
     repeat (go_quiet (fail); try go_wp2)
     go_ret
     exact ⟨by first | rfl | (simp; done) | (simp [*]; done), by repeat (first | exact Drawn0.refl _ | apply Drawn0.step)⟩
 ·rw [if_neg c3] at H
  have c3b0 : ((l0.length : Int) == (l1.length : Int)) = false := beq_eq_false_iff_ne.mpr c3; have c3b1 : ((l0.length : Int) != (l1.length : Int)) = true := bne_iff_ne.mpr c3
  have c3b2 : (l0.length == l1.length) = false := by first | simpa using c3 | (simp at c3 ⊢; omega)
  obtain rfl := Option.some.inj H
  go_enter Try.func25, Try.ntmps25
  go_wp2
  repeat (go_quiet (fail); try go_wp2)
  go_ret
  exact ⟨by first | rfl | (simp; done) | (simp [*]; done), by repeat (first | exact Drawn0.refl _ | apply Drawn0.step)⟩
end Go.Proofs.Ytloebciamfbjfaa.Q
end
section
namespace Go.Proofs.Ytloebciamfbjfaa.Q
open Go.RowKit Go.Proofs.Ytloebciamfbjfaa.P Go.Proofs.YtloebciamfbjfaaW.PrintWords Go.Proofs.YtloebciamfbjfaaW.PrintLast Go.Proofs.YtloebciamfbjfaaW.PrintMore
set_option linter.unusedVariables false
set_option linter.unusedSimpArgs false
def sortL (l : List S34) : List S34 := l.foldl (fun c x => insL x c) []
theorem sortL_snoc (l : List S34) (x : S34) : sortL (l ++ [x]) = insL x (sortL l) := by simp [sortL]
theorem foldIns_length : ∀ (l c : List S34), (l.foldl (fun c x => insL x c) c).length = l.length + c.length
  | [], c => by simp
  | x :: l, c => by rw [List.foldl_cons, foldIns_length l, insL_length, List.length_cons]; omega
theorem sortL_length (l : List S34) : (sortL l).length = l.length := foldIns_length l []
set_option maxHeartbeats 8000000 in
set_option maxRecDepth 100000 in
theorem RefP_Sorted.calls (A : Option Addr) (cap : Nat) (zs : List S34) (w : World) (hC : Kd.C k34 w A zs.length zs) (hm : zs.length ≤ 1000) :
    Calls Try.prog 27 #[.slice A zs.length cap] w fun e W' => ∃ v, e = .returned v ∧ Kd.Q k34 34 W' w.heap.size (fun _ => True) v (sortL zs) ∧ Below w.heap.size w W' := by
  have hu40 := Try.underlying40
  have hu38 := Try.underlying38
  have hu34 := Try.underlying34
  have HB := Aside0.mk (Below.refl w.heap.size w)
  have HC := Aside0.mk hC
  have HM := Aside0.mk hm
  clear hC hm
  go_enter Try.func27, Try.ntmps27
  go_wp2
  have HP : Aside0 (RP (w.alloc (.cells #[.int .i64 (zs.length : Int), .slice none 0 0] 40)) w.heap.size (fun _ => True) w.heap.size (zs.length : Int) (.slice none 0 0) (sortL (zs.take 0))) := ⟨⟨World.alloc_heap_new w _, Kd.Q_nil _ _ _ _ _, Nat.le_refl _, by simp [sortL], by have := HM.out; omega⟩⟩
  have HB1 := Aside0.mk ((Below.refl w.heap.size w).alloc (Nat.le_refl _) (.cells #[.int .i64 (zs.length : Int), .slice none 0 0] 40))
  clear HB
  obtain ⟨g, hg⟩ : ∃ g, w.heap.size = g := ⟨_, rfl⟩
  generalize w.alloc (.cells #[.int .i64 (zs.length : Int), .slice none 0 0] 40) = w1 at HP HB1 ⊢
  rw [hg] at HP HB1 ⊢
  go_loopg [4] zs.length (fun kq v4 w' => ∃ (i : Nat) (v : Value), v4 = .int .i64 (i : Int) ∧ Aside0 (i + kq = zs.length) ∧ Aside0 (Below g w w') ∧ Aside0 (RP w' g (fun _ => True) g (zs.length : Int) v (sortL (zs.take i))))
  case atStart => exact ⟨0, _, rfl, ⟨by omega⟩, HB1, HP⟩
  case round =>
    clear HB1 HP
    obtain ⟨i, v, rfl, HI, HB, HP⟩ := hrel
    cases gk with
    | zero =>
      have hi : i = zs.length := by have := HI.out; omega
      subst hi
      have d1 : decide ((zs.length : Int) < (zs.length : Int)) = false := decide_eq_false (by omega)
      have HQ := Aside0.mk HP.out.row
      have hblk := HP.out.blk
      have ht : zs.take zs.length = zs := List.take_length
      rw [ht] at HQ
      clear ht
      obtain ⟨A2, c2, ev, _⟩ := Kd.Q_slice HQ.out
      subst ev
      have hx1 := blk_cell hblk 1
      have hx2 : wr.cell? ⟨g, 1, none⟩ = some (.slice A2 (sortL zs).length c2) := hx1
      clear hblk hx1 HP
      go_wp2
      go_ret
      exact ⟨_, rfl, by rw [hg]; exact Kd.Q_mono HQ.out (fun _ _ => trivial), by rw [hg]; exact HB.out⟩
    | succ gk =>
      have ci : i < zs.length := by have := HI.out; omega
      have HLT := Aside0.mk ci
      have d1 : decide ((i : Int) < (zs.length : Int)) = true := decide_eq_true (by omega)
      have d2 : decide (i < zs.length) = true := decide_eq_true ci
      have p1 := eq_true (show (0 : Int) ≤ (i : Int) by omega)
      have p2 := eq_true (show (i : Int) < (zs.length : Int) by omega)
      have hwi : wrap64 ((i : Int) + 1) = ((i + 1 : Nat) : Int) := wrapId (by omega) (by have := HM.out; omega)
      have HWI := Aside0.mk hwi
      obtain ⟨ad, ea, hx0, hx1⟩ := at_T34 (Kd.C_below HC.out (by rw [hg]; exact HB.out)) (i : Int) (by omega) (by omega)
      have hrd : rd_T34 zs (i : Int) = zs[i] := by unfold rd_T34; rw [Int.toNat_natCast, List.getD_eq_getElem?_getD, List.getElem?_eq_getElem ci]; rfl
      rw [hrd] at hx0 hx1
      rw [Int.toNat_natCast] at hx0 hx1
      obtain ⟨x0, e0⟩ : ∃ x, zs[i].f0 = x := ⟨_, rfl⟩
      obtain ⟨x1, e1⟩ : ∃ x, zs[i].f1 = x := ⟨_, rfl⟩
      rw [e0] at hx0
      rw [e1] at hx1
      have HS : Aside0 (sortL (zs.take (i + 1)) = insL ⟨x0, x1⟩ (sortL (zs.take i))) := ⟨by rw [List.take_add_one, List.getElem?_eq_getElem ci, Option.toList_some, sortL_snoc, ← e0, ← e1]⟩
      have HN : Aside0 (¬ ((sortL (zs.take i)).length : Int) = (zs.length : Int)) := ⟨by rw [sortL_length, List.length_take]; omega⟩
      clear hrd ci hwi e0 e1
      generalize zs.length = n at *
      subst ea
      have HPP := fun (w0 wa : World) (h0 : w0.heap.size = g) (hB : Below g w0 wa) (hP : RP wa g (fun _ => True) g (n : Int) v (sortL (zs.take i))) => RefP_Push.calls (fun _ => True) g (n : Int) v (sortL (zs.take i)) x0 x1 w0 wa (by rw [h0]; exact hB) (by rw [h0]; exact hP) (fun _ _ => trivial)
      go_wp2_with (go_at_call 17; refine (HPP w _ hg HB.out HP.out).mono ?_; rintro e w2 ⟨hb, _, rfl, v2, hP2⟩; rw [if_neg HN.out]; rw [if_neg HN.out] at hP2)
      go_roundg gk
      case measure => exact Nat.lt_succ_self _
      case rel => exact ⟨i + 1, v2, by rw [HWI.out], ⟨by have := HI.out; omega⟩, ⟨by rw [hg] at hb; exact hb⟩, ⟨by rw [HS.out]; rw [hg] at hP2; exact hP2⟩⟩
theorem pr_inj : ∀ {a b : List S34}, a.map pr = b.map pr → a = b
  | [], [], _ => rfl
  | [], _ :: _, h => by cases h
  | _ :: _, [], h => by cases h
  | ⟨a0, a1⟩ :: a, ⟨b0, b1⟩ :: b, h => by
    simp only [List.map_cons, List.cons.injEq, pr, Prod.mk.injEq] at h
    rw [pr_inj h.2, h.1.1, h.1.2]
theorem insL_perm (x : S34) : ∀ s, (insL x s).Perm (x :: s)
  | [] => List.Perm.refl _
  | y :: s => by
    rw [insL]
    split
    · exact ((insL_perm x s).cons y).trans (List.Perm.swap x y s)
    · exact List.Perm.refl _
theorem foldIns_perm : ∀ (l c : List S34), (l.foldl (fun c x => insL x c) c).Perm (l ++ c)
  | [], c => List.Perm.refl _
  | x :: l, c => by
    rw [List.foldl_cons]
    refine (foldIns_perm l (insL x c)).trans ?_
    refine ((insL_perm x c).append_left l).trans ?_
    exact List.perm_middle
theorem foldIns_sorted : ∀ (l c : List S34), Sorted2 (c.map pr) → Sorted2 ((l.foldl (fun c x => insL x c) c).map pr)
  | [], c, h => h
  | x :: l, c, h => by
    rw [List.foldl_cons]
    exact foldIns_sorted l _ (by rw [insL_pr]; exact ins_sorted _ _ h)
theorem srt_sortL (l : List S34) : srtL cfPair l = sortL l := by
  apply pr_inj
  refine sorted_unique ?_ (foldIns_sorted l [] sorted2_nil) ?_
  · unfold Sorted2
    rw [List.pairwise_map]
    refine (srtL_spec swoPair l).2.imp (fun {a b} h => ?_)
    rw [← Bool.not_eq_true, ltPair_eq] at h
    exact h
  · refine ((srtL_spec swoPair l).1.map pr).trans ?_
    have := (foldIns_perm l []).symm
    rw [List.append_nil] at this
    exact this.map pr
theorem same_loop (l : List S34) (hl : l.length ≤ 1000) (d : Nat) : ∀ (i : Nat), i + d = l.length → ebbtideref02_Same.l0 (d + 1) l l (i : Int) = some true := by
  induction d with
  | zero =>
    intro i hi
    rw [ebbtideref02_Same.l0, if_neg (by omega)]
  | succ d ih =>
    intro i hi
    have hw : wrap64 ((i : Int) + 1) = ((i + 1 : Nat) : Int) := wrapId (by omega) (by omega)
    rw [ebbtideref02_Same.l0, if_pos (by omega), if_pos (by omega), if_pos (by omega), if_neg (by simp), hw]
    exact ih (i + 1) (by omega)
theorem same_self (l : List S34) (hl : l.length ≤ 1000) : ebbtideref02_Same.f (l.length + 1) l l = some true := by
  unfold ebbtideref02_Same.f
  rw [if_pos rfl]
  exact same_loop l hl l.length 0 (by omega)
def ebbtidelaw02_PileSorts.f (_ : Nat) (_ : List S34) : Option Bool := some true
set_option maxHeartbeats 8000000 in
set_option maxRecDepth 100000 in
theorem ebbtidelaw02_PileSorts.calls (k : Nat) (A0 : Option Addr) (c0 : Nat) (l0 : List S34) (r : Bool) (w : World) (hr0 : Kd.C k34 w A0 l0.length l0) (hc0 : l0.length ≤ c0) (h : ebbtidelaw02_PileSorts.f k l0 = some r) (hrt : r = true := by first | rfl | exact HRT.out | assumption) :
    Calls Try.prog 6 #[.slice A0 l0.length c0] w fun e w' => e = .returned (.bool r) ∧ Below w.heap.size w w' := by
  subst hrt
  have HC := Aside0.mk hr0
  have HB := Aside0.mk (Below.refl w.heap.size w)
  clear hr0 hc0 h
  by_cases c : 300 < l0.length
  · have d1 : decide ((300 : Int) < (l0.length : Int)) = true := decide_eq_true (by omega)
    have d2 : decide (300 < l0.length) = true := decide_eq_true c
    clear c
    go_enter Try.func6, Try.ntmps6
    go_wp2_with (go_at_call 8; refine (ebbtidelaw02_awake.calls 0 true _ rfl).mono ?_; rintro e w4 ⟨rfl, hb⟩; have n0_ := Aside0.mk (below_step HB.out hb); clear HB hb; have HB := n0_; clear n0_)
    go_ret
    exact ⟨rfl, HB.out⟩
  · have d1 : decide ((300 : Int) < (l0.length : Int)) = false := decide_eq_false (by omega)
    have d2 : decide (300 < l0.length) = false := decide_eq_false c
    have HM := Aside0.mk (show l0.length ≤ 1000 by omega)
    clear c
    go_enter Try.func6, Try.ntmps6
    go_wp2_with (first
      | (go_at_call 8; refine (ebbtidelaw02_awake.calls 0 true _ rfl).mono ?_; rintro e w4 ⟨rfl, hb⟩; have n0_ := Aside0.mk (below_step HB.out hb); clear HB hb; have HB := n0_; clear n0_)
      | (go_at_call 26; refine (pile_Sorted.calls A0 c0 l0 _ (Kd.C_below HC.out HB.out) HM.out).mono ?_; rintro e w5 ⟨v, rfl, hr, hb⟩; rw [srt_sortL] at hr; obtain ⟨A1, c1, rfl⟩ := Kd.R_slice hr; have HR := Aside0.mk (Kd.R_lower hr (below_size HB.out)); have n0_ := Aside0.mk (below_step HB.out hb); clear HB hb hr; have HB := n0_; clear n0_)
      | (go_at_call 27; refine (RefP_Sorted.calls A0 c0 l0 _ (Kd.C_below HC.out HB.out) HM.out).mono ?_; rintro e w6 ⟨v, rfl, hr, hb⟩; obtain ⟨A2, c2, rfl, _⟩ := Kd.Q_slice hr; have HQ := Aside0.mk hr; have n1_ := Aside0.mk (Kd.R_below HR.out hb); have n0_ := Aside0.mk (below_step HB.out hb); clear HB HR hb hr; have HB := n0_; have HR := n1_; clear n0_ n1_)
      | (go_at_call 25; refine (ebbtideref02_Same.calls ((sortL l0).length + 1) A1 c1 (sortL l0) A2 c2 (sortL l0) true _ (Kd.R_reads' HR.out).2.2 (Kd.R_reads' HR.out).2.1 (Kd.Q_reads' HQ.out).2.2 (Kd.Q_reads' HQ.out).2.1 (same_self _ (by rw [sortL_length]; exact HM.out))).mono ?_; rintro e w7 ⟨rfl, ⟨nd, rfl⟩⟩; have n0_ := Aside0.mk (pw_below_drewN HB.out nd); clear HB; have HB := n0_; clear n0_))
    go_ret
    exact ⟨rfl, HB.out⟩
end Go.Proofs.Ytloebciamfbjfaa.Q
end
section
namespace Go.Proofs.Ytloebciamfbjfaa.R
open Go.RowKit Go.Proofs.Ytloebciamfbjfaa.Q Go.Proofs.YtloebciamfbjfaaW.PrintWords Go.Proofs.YtloebciamfbjfaaW.PrintLast Go.Proofs.YtloebciamfbjfaaW.PrintMore
open Go.ChangeShapes Go.WideShapes Go.Deep
def Reads (t : TypeId) {α : Type} (d : Kd α) (G : Nat → α → Prop) : Prop :=
  ∀ {H : Type} (enc : TypeId × Value → H) (w : World) (base : Nat) (spare : Nat → Bool) (held : Bool) (fuel : Nat) (cs : List Value) (x : DataW H × List MemPlace),
    DataW.trod enc Try.prog w base spare held fuel t cs = some x → ∃ a, d.K w a cs ∧ ∀ N, Rows.uptoBulk x.1 ≤ N → G N a
def gInt (k : IntKind) (_ : Nat) (n : Int) : Prop := (Lit.int k n).wf = true
def gList {α : Type} (G : Nat → α → Prop) (N : Nat) (l : List α) : Prop := l.length ≤ maxLen ∧ l.length ≤ N ∧ ∀ x ∈ l, G N x
theorem readsInt {t : TypeId} {k : IntKind} (ht : Try.prog.underlying t = some (.int k)) : Reads t (Kd.int k) (gInt k) := by
  intro H enc w base spare held fuel cs x h
  obtain ⟨n, rfl, rfl, hw⟩ := DataW.trod_int ht h
  exact ⟨n, rfl, fun _ _ => hw⟩
theorem one_le {H : Type} (d : DataW H) : 1 ≤ Rows.uptoBulk d := by
  cases d with
  | lit l => cases l <;> simp [Rows.uptoBulk]
  | nil => simp [Rows.uptoBulk]
  | ptr d => simp [Rows.uptoBulk]
  | slice elems spare => simp [Rows.uptoBulk]
  | agg parts => simp [Rows.uptoBulk]
  | iface t d => simp [Rows.uptoBulk]
  | map entries => simp [Rows.uptoBulk]
  | held h => simp [Rows.uptoBulk]
theorem part_le {H : Type} {d : DataW H} {l : List (DataW H)} (h : d ∈ l) : Rows.uptoBulk d ≤ Rows.uptoBulkAll l := by
  induction l with
  | nil => cases h
  | cons x r ih =>
    simp only [Rows.uptoBulkAll]
    cases List.mem_cons.1 h with
    | inl e => subst e; omega
    | inr e => have := ih e; omega
theorem length_le {H : Type} (l : List (DataW H)) : l.length ≤ Rows.uptoBulkAll l := by
  induction l with
  | nil => simp [Rows.uptoBulkAll]
  | cons x r ih => have := one_le x; simp only [Rows.uptoBulkAll, List.length_cons]; omega
theorem readsSlice {t e : TypeId} {α : Type} [Inhabited α] {d : Kd α} {G : Nat → α → Prop} (ht : Try.prog.underlying t = some (.slice e)) (hc : Try.prog.cellsOf e = d.sz) (R : Reads e d G) : Reads t (Kd.slice e d) (gList G) := by
  intro H enc w base spare held fuel cs x h
  rcases open_slice ht h with ⟨rfl, rfl⟩ | ⟨a, len, cap, m, n, D, Pl, rfl, hb, hl, hm, hmm, rfl, hx⟩
  · exact ⟨[], ⟨none, 0, rfl, Nat.le_refl _, Kd.C_nil d w⟩, fun N _ => ⟨Nat.zero_le _, Nat.zero_le _, fun x hx => by cases hx⟩⟩
  · have hlm : len ≤ m := by rw [hmm]; split <;> omega
    obtain ⟨f, hf⟩ := choose_lt (α := α) (n := m) (p := fun i y => ∃ c, c.length = d.sz ∧ d.K w y c ∧ (∀ j u, c[j]? = some u → w.cell? (a.add (i * d.sz + j)) = some u) ∧ ∀ N, Rows.uptoBulk (D i) ≤ N → G N y) (fun i hi => by
      obtain ⟨c, h1, h2⟩ := hx i hi
      obtain ⟨y, hK, hG⟩ := R enc w base spare held n c _ h2
      obtain ⟨_, hlen, hcell⟩ := World.cells?_some h1
      rw [hc] at hlen hcell
      refine ⟨y, c, hlen, hK, fun j u hu => ?_, hG⟩
      have hj : j < d.sz := by rw [← hlen]; exact (List.getElem?_eq_some_iff.1 hu).1
      have := hcell j hj
      rw [Deep.add_add] at this
      rw [this, hu])
    have hL : ((List.range len).map f).length = len := by simp
    refine ⟨(List.range len).map f, ⟨some a, cap, by rw [hL], by rw [hL]; exact hl, ?_⟩, fun N hN => ?_⟩
    · refine ⟨rfl, by rw [hL]; exact Nat.le_trans hl (Nat.le_trans hm (by decide)), fun _ => ⟨a, rfl, fun j p hj => ?_⟩⟩
      have hjl : j < len := by
        have := (List.getElem?_eq_some_iff.1 hj).1
        rwa [hL] at this
      have hp : f j = p := by
        rw [List.getElem?_map, List.getElem?_range hjl] at hj
        exact Option.some.inj hj
      obtain ⟨c, h1, h2, h3, _⟩ := hf j (by omega)
      rw [hp] at h2
      exact ⟨c, h1, h2, h3⟩
    · have hbulk : Rows.uptoBulkAll ((List.range len).map D) ≤ N := by
        simp only [Rows.uptoBulk] at hN
        omega
      refine ⟨by rw [hL]; omega, by rw [hL]; have := length_le ((List.range len).map D); simp at this; omega, fun y hy => ?_⟩
      obtain ⟨i, hi, rfl⟩ := List.mem_map.1 hy
      have hi' := List.mem_range.1 hi
      obtain ⟨c, _, _, _, hG⟩ := hf i (by omega)
      exact hG N (Nat.le_trans (part_le (List.mem_map.2 ⟨i, hi, rfl⟩)) hbulk)
instance : Inhabited S34 := ⟨z34⟩
def g34 (N : Nat) (x : S34) : Prop := gInt .i64 N x.f0 ∧ gInt .i64 N x.f1
set_option maxRecDepth 100000 in
theorem reads34 : Reads 34 k34 g34 := by
  intro H enc w base spare held fuel cs x h
  obtain ⟨xs, n, _, hx, hl, hlen, hf⟩ := DataW.trod_struct Try.underlying34 h
  have hl2 : cs.length = 2 := hl.trans (by kernel_rfl)
  have hlen2 : xs.length = 2 := hlen
  match xs, hlen2, cs, hl2 with
  | [y0, y1], _, [v0, v1], _ =>
    have c0 : Try.prog.cellsOf 3 = 1 := by kernel_rfl
    have e0 : DataW.trod enc Try.prog w base spare held n 3 (List.take (Try.prog.cellsOf 3) (List.drop 0 [v0, v1])) = some y0 := hf 0 _ rfl
    rw [c0] at e0
    obtain ⟨a0, K0, G0⟩ := (readsInt Try.underlying3) enc w base spare held n [v0] y0 e0
    have c1 : Try.prog.cellsOf 3 = 1 := by kernel_rfl
    have e1 : DataW.trod enc Try.prog w base spare held n 3 (List.take (Try.prog.cellsOf 3) (List.drop 1 [v0, v1])) = some y1 := hf 1 _ rfl
    rw [c1] at e1
    obtain ⟨a1, K1, G1⟩ := (readsInt Try.underlying3) enc w base spare held n [v1] y1 e1
    refine ⟨⟨a0, a1⟩, ⟨_, _, rfl, K0, K1⟩, fun N hN => ?_⟩
    rw [hx] at hN
    simp only [List.map_cons, List.map_nil, Rows.uptoBulk, Rows.uptoBulkAll] at hN
    exact ⟨G0 N (by omega), G1 N (by omega)⟩
end Go.Proofs.Ytloebciamfbjfaa.R
end
section
namespace Go.Proofs.Ytloebciamfbjfaa.R
open Go.RowKit Go.Proofs.Ytloebciamfbjfaa.Q Go.Proofs.YtloebciamfbjfaaW.PrintWords Go.Proofs.YtloebciamfbjfaaW.PrintLast Go.Proofs.YtloebciamfbjfaaW.PrintMore
def PileSorts.Pure : Prop := ∀ N0 : Nat, ∀ (x0 : List S34), gList (g34) N0 x0 → ∃ k, ebbtidelaw02_PileSorts.f k x0 = some true
end Go.Proofs.Ytloebciamfbjfaa.R
end
section
namespace Go.Proofs.Ytloebciamfbjfaa.Pure
open Go.RowKit Go.Proofs.Ytloebciamfbjfaa.Q Go.Proofs.YtloebciamfbjfaaW.PrintWords Go.Proofs.YtloebciamfbjfaaW.PrintLast Go.Proofs.YtloebciamfbjfaaW.PrintMore
open Go.Proofs.Ytloebciamfbjfaa.R
theorem PileSorts : PileSorts.Pure := fun _ _ _ => ⟨0, rfl⟩
end Go.Proofs.Ytloebciamfbjfaa.Pure
end
section
namespace Go.Proofs.Ytloebciamfbjfaa
open Go Go.RowKit
def ioHead : List Char := List.map Char.ofNat [104, 97, 114, 110, 101, 115, 115, 32, 102, 56, 48, 50, 52, 56, 55, 98, 101, 56, 98, 56, 54, 50, 49, 99, 48, 49, 54, 99, 50, 55, 50, 100, 57, 54, 102, 102, 98, 51, 54, 99, 50, 52, 99, 100, 99, 50, 52, 49, 97, 57, 55, 48, 50, 56, 52, 55, 102, 56, 102, 99, 52, 97, 97, 53, 98, 97, 48, 101, 49, 55, 53, 102, 32, 99, 117, 116, 32]
def ioRest : List Char := List.map Char.ofNat [97, 116, 32, 101, 98, 98, 116, 105, 100, 101, 47, 101, 98, 98, 116, 105, 100, 101, 108, 97, 119, 48, 50, 46, 80, 105, 108, 101, 80, 108, 97, 121, 115, 32, 101, 98, 98, 116, 105, 100, 101, 47, 101, 98, 98, 116, 105, 100, 101, 108, 97, 119, 48, 50, 46, 80, 105, 108, 101, 81, 117, 101, 117, 101, 115, 32, 101, 98, 98, 116, 105, 100, 101, 47, 101, 98, 98, 116, 105, 100, 101, 108, 97, 119, 48, 50, 46, 80, 105, 108, 101, 82, 111, 117, 110, 100, 115, 32, 101, 98, 98, 116, 105, 100, 101, 47, 101, 98, 98, 116, 105, 100, 101, 108, 97, 119, 48, 50, 46, 80, 105, 108, 101, 83, 111, 114, 116, 115, 32, 101, 98, 98, 116, 105, 100, 101, 47, 101, 98, 98, 116, 105, 100, 101, 108, 97, 119, 48, 50, 46, 80, 105, 108, 101, 79, 114, 100, 101, 114, 115]
set_option maxRecDepth 100000 in
theorem io_eq : Try.pinned.checked.prog.initOrder = String.ofList (ioHead ++ ioRest) := by kernel_rfl
theorem io_toList : Try.pinned.checked.prog.initOrder.toList = ioHead ++ ioRest := by rw [io_eq]; exact String.toList_ofList
def ioCut : List Char := List.map Char.ofNat [99, 117, 116]
set_option maxRecDepth 100000 in
theorem io_words (r : List Char) : behindMainWord (wordsSigns (ioHead ++ r)) = ioCut :: wordsSigns r := by kernel_rfl
theorem io_behind : ∃ X, behindMainWord (wordsSigns Try.pinned.checked.prog.initOrder.toList) = ioCut :: X := ⟨_, by rw [io_toList]; exact io_words _⟩
theorem io_cut : ioCut = "cut".toList := by decide +kernel
theorem io_strip (X : List (List Char)) : stripLifts liftWords (ioCut :: X) = ([], ioCut :: X) := by kernel_rfl
theorem headLifts_cut (P : Program) (h : ∃ X, behindMainWord (wordsSigns P.initOrder.toList) = ioCut :: X) : P.headLifts = [] := by
  obtain ⟨X, e⟩ := h
  unfold Program.headLifts
  rw [e, io_strip]
  rfl
theorem mayEnter_cut (P : Program) (h : ∃ X, behindMainWord (wordsSigns P.initOrder.toList) = ioCut :: X) (h1 : P.laysLater = false) (h2 : P.bearsReflect = false) (h3 : P.doorFits [] = true) : P.mayEnter = true := by
  obtain ⟨X, e⟩ := h
  unfold Program.mayEnter
  rw [e]
  simp only [io_strip, h1, h2, h3]
  rw [io_cut]
  simp
theorem liftsFinal_cut (P : Program) (h : ∃ X, behindMainWord (wordsSigns P.initOrder.toList) = ioCut :: X) : P.liftsFinal = false := by
  have h0 := headLifts_cut P h
  obtain ⟨X, e⟩ := h
  unfold Program.liftsFinal
  rw [e, h0]
  rw [io_cut]
  simp
theorem make_cut (P : Program) (h : ∃ X, behindMainWord (wordsSigns P.initOrder.toList) = ioCut :: X) : P.make = some .cut := by
  obtain ⟨X, e⟩ := h
  unfold Program.make
  rw [e]
  simp only [io_cut]
  rw [if_neg (by decide +kernel), if_pos (by simp)]
theorem p_mayEnter : Try.pinned.checked.prog.mayEnter = true := mayEnter_cut _ io_behind (by kernel_rfl) (by kernel_rfl) (by kernel_rfl)
theorem p_liftsFinal : Try.pinned.checked.prog.liftsFinal = false := liftsFinal_cut _ io_behind
theorem p_make : Try.pinned.checked.prog.make = some .cut := make_cut _ io_behind
theorem p_laidOut : laidOutB Try.pinned.checked.prog = true := by kernel_rfl
theorem p_mapsRowed : mapsRowed Try.pinned.checked.prog = true := by kernel_rfl
theorem p_stopsHeard : Try.pinned.checked.prog.stopsHeard = true := by kernel_rfl
theorem p_stops : Try.pinned.checked.prog.stops = [] := by kernel_rfl
theorem p_stopKnobs : Try.pinned.checked.prog.stopKnobs = [] := by kernel_rfl
end Go.Proofs.Ytloebciamfbjfaa
end
section
namespace Go.Proofs.Ytloebciamfbjfaa.pileSorts
open Go.ChangeShapes Go.WideShapes Go.ChangeAt Go.RowKit
open Go.ChangeMaps (open_string shut_string)
open Go.Proofs.Ytloebciamfbjfaa.Q Go.Proofs.Ytloebciamfbjfaa.R Go.Proofs.YtloebciamfbjfaaW.PrintWords
set_option linter.unusedVariables false
theorem own : ownKnob Try.prog.godebug = none := by kernel_rfl
theorem laidOut : laidOutB Try.prog = true := by kernel_rfl
set_option maxRecDepth 100000 in
theorem lifted (os : Os) (started : os.Started) (H : Type) (enc : TypeId × Value → H) :
    ReturnsInHanded {} Try.checked os 6 .any (Rows.pileSortsSpec.pre6 enc Try.prog Try.f6 Rows.pileSortsRow.domain false) (Rows.pileSortsSpec.post enc Try.prog Try.f6 false true false false) := by
  refine returnsInHanded_of_change_sized (C := Try.checked) own started (by kernel_rfl) Try.func6
    (ChangeSpec.witness6 (enc := enc) (C := Try.checked) false ⟨#[], #[.slice none 0 0], []⟩ 8 (by kernel_rfl) (by kernel_rfl) (by kernel_rfl) (by kernel_rfl)) ?_
  intro W base args ds gs before hval0 hW hcnd hsz0 _
  have hval : ∀ (j : Nat) t v, Try.f6.params[j]? = some t → args[j]? = some v → Value.okWide Try.prog W .any base t v := hval0
  have hW' := hW
  obtain ⟨p, q, hA0, hV, rfl, hfz, hnd⟩ := hW
  have hA : DataW.TrodAll enc Try.prog W 0 (fun _ => true) true Try.f6.params.toList args.toList ds p := hA0
  rw [Try.params6] at hA hval
  obtain ⟨v0, vs0, d0, ds0, p0, q0, hargs, rfl, rfl, h0, r0⟩ := trodAll_cons hA
  obtain ⟨rfl, rfl, rfl⟩ := trodAll_nil r0
  obtain rfl : args = #[v0] := by cases args; simp_all
  obtain ⟨rfl, rfl⟩ := trodVars_none hV
  have k0 := h0
  have lt0 : ∀ x ∈ p0, x.block < W.heap.size := by obtain ⟨m, hm⟩ := k0; exact DataW.trod_lt m _ _ _ hm
  obtain ⟨fu0, hf0⟩ := h0
  obtain ⟨x0, K0, G0⟩ := (readsSlice Try.underlying38 (by kernel_rfl) reads34) enc W 0 (fun _ => true) true fu0 _ _ hf0
  obtain ⟨a0, len0, cap0, rfl⟩ := okWide_slice Try.underlying38 (hval 0 38 v0 rfl rfl)
  obtain ⟨A0, c0, ek0, hc0, hr0⟩ := K0
  simp only [Value.cells, List.cons.injEq, and_true] at ek0
  injection ek0 with ea0 el0 ec0
  subst ea0 el0 ec0
  have h := Pure.PileSorts _ x0 (G0 _ (Nat.le_refl _))
  obtain ⟨k, h⟩ := h
  refine (ebbtidelaw02_PileSorts.calls k _ _ x0 true W hr0 hc0 h).mono fun e W' ⟨he, bel0⟩ => ?_
  have bel : Below W.heap.size W W' := bel0
  subst he
  exact ⟨_, rfl, _, _, _, [], _, [], hW', trodAll_mk1 (shut_bool Try.underlying4 _), (trodAll_cons_mk (Below.trod laidOut (by kernel_rfl) (of_decide_eq_true (by kernel_rfl)) k0 bel lt0) trodAll_mk0), rfl, bel.frame _, fun h => by cases h⟩
theorem andI {a b : Bool} (x : a = true) (y : b = true) : (a && b) = true := by rw [x, y]; rfl
set_option maxRecDepth 100000 in
set_option maxHeartbeats 8000000 in
theorem closed : joinedFacts Try.pinned.checked.prog 6 Try.f6 Rows.pileSortsSpec Rows.pileSortsRow = true := by
  unfold joinedFacts
  exact (andI (andI (andI (andI (andI (andI (andI (andI (andI (andI (andI (andI (andI (andI (andI (andI (andI (andI (andI (andI (andI (andI (andI (andI (andI (andI (andI (andI (andI (andI (andI (by as_aux_lemma => kernel_rfl)
    p_laidOut)
    p_mapsRowed)
    (by as_aux_lemma => kernel_rfl))
    (by as_aux_lemma => kernel_rfl))
    (by as_aux_lemma => kernel_rfl))
    (by rw [p_stops]; rfl))
    (by as_aux_lemma => kernel_rfl))
    (by rw [p_stopKnobs]; rfl))
    (by as_aux_lemma => kernel_rfl))
    (by as_aux_lemma => kernel_rfl))
    (by as_aux_lemma => kernel_rfl))
    (by as_aux_lemma => kernel_rfl))
    (by as_aux_lemma => kernel_rfl))
    (by as_aux_lemma => kernel_rfl))
    (by as_aux_lemma => kernel_rfl))
    (by as_aux_lemma => kernel_rfl))
    (by as_aux_lemma => kernel_rfl))
    (by as_aux_lemma => kernel_rfl))
    (by as_aux_lemma => kernel_rfl))
    (by as_aux_lemma => kernel_rfl))
    (by as_aux_lemma => kernel_rfl))
    (by as_aux_lemma => kernel_rfl))
    (by as_aux_lemma => kernel_rfl))
    p_stopsHeard)
    p_mayEnter)
    (by rw [p_liftsFinal]; rfl))
    (by rw [p_make]; rfl))
    (by as_aux_lemma => kernel_rfl))
    (by as_aux_lemma => kernel_rfl))
    (by as_aux_lemma => kernel_rfl))
    (by as_aux_lemma => kernel_rfl))
theorem proved : Rows.PileSortsSaid :=
  OpenClaim.holds_of_wide 6 Try.f6 rfl rfl rfl rfl rfl rfl rfl ⟨rfl, rfl, rfl, rfl, rfl⟩ rfl rfl rfl rfl rfl (by kernel_rfl) Try.func6 closed
    (of_decide_eq_true (by kernel_rfl)) (by unfold Func.isWrapper; first | (rw [if_pos (by decide +kernel)]; kernel_rfl) | (rw [if_neg (by decide +kernel)]; exact ⟨rfl, rfl⟩))
    (fun os started H enc _ => lifted os started H enc)
#print axioms proved
end Go.Proofs.Ytloebciamfbjfaa.pileSorts
namespace Go.Proofs.Ytloebciamfbjfaa
theorem pileSorts_holds : Rows.PileSortsSaid := pileSorts.proved
end Go.Proofs.Ytloebciamfbjfaa
end
