/- A part of the proof: words, contracts, plain lemmas. Conditions: none. -/
import Derived.Test.YtfhkkbpkajfdlaaZExpandRuns23
section
namespace Go.Proofs.Ytfhkkbpkajfdlaa.P
open Go.RowKit Go.Proofs.Ytfhkkbpkajfdlaa.Q Go.Proofs.YtfhkkbpkajfdlaaW.PrintWords Go.Proofs.YtfhkkbpkajfdlaaW.PrintLast Go.Proofs.YtfhkkbpkajfdlaaW.PrintMore
def Bad (hold : Bool) (h s t : Int) (f : Nat → Nat → Int) (a v : Nat) : Prop := (v : Int) ≠ s ∧ (v : Int) ≠ t ∧ (f a v < 0 ∨ 0 < f a v ∧ (hold = false ∨ (a : Int) = h))
def AllOk (hold : Bool) (h s t : Int) (H V : Nat) (f : Nat → Nat → Int) : Prop := ∀ u, u < H → ∀ w, w < V → ¬ Bad hold h s t f u w
def RowOk (hold : Bool) (h s t : Int) (V : Nat) (f : Nat → Nat → Int) (a v : Nat) : Prop := ∀ w, v ≤ w → w < V → ¬ Bad hold h s t f a w
def RowsOk (hold : Bool) (h s t : Int) (H V : Nat) (f : Nat → Nat → Int) (a : Nat) : Prop := ∀ u, a ≤ u → u < H → ∀ w, w < V → ¬ Bad hold h s t f u w
def ColOk (hold : Bool) (h s t : Int) (H : Nat) (f : Nat → Nat → Int) (v a : Nat) : Prop := ∀ u, a ≤ u → u < H → ¬ Bad hold h s t f u v
def ColsOk (hold : Bool) (h s t : Int) (H V : Nat) (f : Nat → Nat → Int) (v : Nat) : Prop := ∀ w, v ≤ w → w < V → ∀ u, u < H → ¬ Bad hold h s t f u w
section
open Classical
variable {hold : Bool} {h s t : Int} {H V : Nat} {f : Nat → Nat → Int} (hH : H ≤ 4611686018427387904) (hV : V ≤ 4611686018427387904) (hhH : (H : Int) = h + 1)
theorem rowOk_step {a v : Nat} (hv : v < V) : RowOk hold h s t V f a v ↔ ¬ Bad hold h s t f a v ∧ RowOk hold h s t V f a (v + 1) := by
 unfold RowOk
 constructor
 ·intro h1; exact ⟨h1 v (Nat.le_refl _) hv, fun w hw hw2 => h1 w (by omega) hw2⟩
 ·rintro ⟨h1, h2⟩ w hw hw2
  rcases Nat.eq_or_lt_of_le hw with rfl | h3
  ·exact h1
  ·exact h2 w h3 hw2
theorem rowsOk_step {a : Nat} (ha : a < H) : RowsOk hold h s t H V f a ↔ RowOk hold h s t V f a 0 ∧ RowsOk hold h s t H V f (a + 1) := by
 unfold RowsOk RowOk
 constructor
 ·intro h1; exact ⟨fun w _ hw => h1 a (Nat.le_refl _) ha w hw, fun u hu hu2 => h1 u (by omega) hu2⟩
 ·rintro ⟨h1, h2⟩ u hu hu2 w hw
  rcases Nat.eq_or_lt_of_le hu with rfl | h3
  ·exact h1 w (by omega) hw
  ·exact h2 u h3 hu2 w hw
theorem colsOk_step {v : Nat} (hv : v < V) : ColsOk hold h s t H V f v ↔ ColOk hold h s t H f v 0 ∧ ColsOk hold h s t H V f (v + 1) := by
 unfold ColsOk ColOk
 constructor
 ·intro h1; exact ⟨fun u _ hu => h1 v (Nat.le_refl _) hv u hu, fun w hw hw2 => h1 w (by omega) hw2⟩
 ·rintro ⟨h1, h2⟩ w hw hw2 u hu
  rcases Nat.eq_or_lt_of_le hw with rfl | h3
  ·exact h1 u (by omega) hu
  ·exact h2 w h3 hw2 u hu
include hH hV hhH
theorem ord_step (k a v : Nat) (ha : a < H) (hv : v < V) : plan_ordinary.l1 (k + 1) (mat H V f) s t hold (a : Int) (mat H V f) ((H : Nat) : Int) (a : Int) (row V (f a)) ((V : Nat) : Int) (v : Int) =
 if Bad hold h s t f a v then some false else plan_ordinary.l1 k (mat H V f) s t hold (a : Int) (mat H V f) ((H : Nat) : Int) (a : Int) (row V (f a)) ((V : Nat) : Int) ((v + 1 : Nat) : Int) := by
 have g1 : rd (row V (f a)) (v : Int) = f a v := rd_row hv
 have g2 : wrap64 (((mat H V f).length : Int) - 1) = h := by rw [mat_length]; unfold wrap64; omega
 rw [plan_ordinary.l1, if_pos (by omega), if_pos (by omega), if_pos (by rw [row_length]; omega), g1, g2, wrap1 (by omega)]
 by_cases c1 : (v : Int) = s
 ·rw [if_pos c1, if_neg (fun hb : Bad hold h s t f a v => hb.1 c1)]
 rw [if_neg c1]
 by_cases c2 : (v : Int) = t
 ·rw [if_pos c2, if_neg (fun hb : Bad hold h s t f a v => hb.2.1 c2)]
 rw [if_neg c2]
 by_cases c3 : f a v < 0
 ·rw [if_pos c3, if_pos (show Bad hold h s t f a v from ⟨c1, c2, .inl c3⟩)]
 rw [if_neg c3]
 by_cases c4 : f a v > 0
 ·rw [if_pos c4]
  cases hold with
  | false => rw [if_neg (by decide), if_pos (show Bad false h s t f a v from ⟨c1, c2, .inr ⟨c4, .inl rfl⟩⟩)]
  | true =>
   rw [if_pos rfl]
   by_cases c5 : (a : Int) = h
   ·rw [if_pos c5, if_pos (show Bad true h s t f a v from ⟨c1, c2, .inr ⟨c4, .inr c5⟩⟩)]
   ·rw [if_neg c5, if_neg]
    rintro ⟨_, _, h6 | ⟨_, h7 | h7⟩⟩
    ·exact c3 h6
    ·cases h7
    ·exact c5 h7
 ·rw [if_neg c4, if_neg]
  rintro ⟨_, _, h6 | ⟨h7, _⟩⟩
  ·exact c3 h6
  ·exact c4 h7
theorem ord_l1 (a : Nat) (ha : a < H) (hnext : Ev (fun k => plan_ordinary.l0 k (mat H V f) s t hold (mat H V f) ((H : Nat) : Int) ((a + 1 : Nat) : Int)) (decide (RowsOk hold h s t H V f (a + 1)))) (d : Nat) : ∀ v, v + d = V →
 Ev (fun k => plan_ordinary.l1 k (mat H V f) s t hold (a : Int) (mat H V f) ((H : Nat) : Int) (a : Int) (row V (f a)) ((V : Nat) : Int) (v : Int)) (decide (RowOk hold h s t V f a v ∧ RowsOk hold h s t H V f (a + 1))) := by
 induction d with
 | zero =>
  intro v hv
  have e : decide (RowOk hold h s t V f a v ∧ RowsOk hold h s t H V f (a + 1)) = decide (RowsOk hold h s t H V f (a + 1)) := by
   rw [decide_eq_decide]
   exact ⟨fun h => h.2, fun h => ⟨fun w hw hw2 => by omega, h⟩⟩
  rw [e]
  exact Ev.step (fun k => by rw [plan_ordinary.l1, if_neg (by omega), wrap1 (by omega)]) hnext
 | succ d ih =>
  intro v hv
  have hv2 : v < V := by omega
  refine Ev.step (fun k => ord_step hH hV hhH k a v ha hv2) ?_
  have hr := rowOk_step (hold := hold) (h := h) (s := s) (t := t) (f := f) (a := a) hv2
  by_cases c : Bad hold h s t f a v
  ·simp only [c, if_true]
   have e : decide (RowOk hold h s t V f a v ∧ RowsOk hold h s t H V f (a + 1)) = false := by
    rw [decide_eq_false_iff_not]
    rintro ⟨h1, _⟩
    exact (hr.1 h1).1 c
   rw [e]
   exact Ev.now _
  ·simp only [c, if_false]
   have e : decide (RowOk hold h s t V f a v ∧ RowsOk hold h s t H V f (a + 1)) = decide (RowOk hold h s t V f a (v + 1) ∧ RowsOk hold h s t H V f (a + 1)) := by
    rw [decide_eq_decide, hr]
    exact ⟨fun h => ⟨h.1.2, h.2⟩, fun h => ⟨⟨c, h.1⟩, h.2⟩⟩
   rw [e]
   exact ih (v + 1) (by omega)
theorem ord_l0 (d : Nat) : ∀ a, a + d = H → Ev (fun k => plan_ordinary.l0 k (mat H V f) s t hold (mat H V f) ((H : Nat) : Int) (a : Int)) (decide (RowsOk hold h s t H V f a)) := by
 induction d with
 | zero =>
  intro a ha
  rw [decide_eq_true (show RowsOk hold h s t H V f a from fun u hu hu2 => by omega)]
  exact ev_cst fun k => by rw [plan_ordinary.l0, if_neg (by omega)]
 | succ d ih =>
  intro a ha
  have ha2 : a < H := by omega
  have g : rd_L3 (mat H V f) (a : Int) = row V (f a) := rdL_row ha2
  have e : decide (RowsOk hold h s t H V f a) = decide (RowOk hold h s t V f a 0 ∧ RowsOk hold h s t H V f (a + 1)) := by rw [decide_eq_decide, rowsOk_step ha2]
  rw [e]
  refine Ev.step (fun k => ?_) (ord_l1 hH hV hhH a ha2 (ih (a + 1) (by omega)) V 0 (by omega))
  rw [plan_ordinary.l0, if_pos (by omega), if_pos (by omega), if_pos (by rw [mat_length]; omega), g, row_length]
  rfl
theorem ordinary_ev : Ev (fun k => plan_ordinary.f k (mat H V f) s t hold) (decide (AllOk hold h s t H V f)) := by
 have h0 := ord_l0 (hold := hold) (s := s) (t := t) (f := f) hH hV hhH H 0 (by omega)
 have e : decide (RowsOk hold h s t H V f 0) = decide (AllOk hold h s t H V f) := by
  rw [decide_eq_decide]
  exact ⟨fun h u hu w hw => h u (by omega) hu w hw, fun h u _ hu w hw => h u hu w hw⟩
 rw [e] at h0
 refine Ev.congr (fun k => ?_) h0
 unfold plan_ordinary.f
 rw [mat_length]
 rfl
variable {b : Bool} {arcs : List S54} (hh : 0 ≤ h) (ht : 0 ≤ t ∧ t < (V : Int))
include hh ht
theorem rchk_l0 (d : Nat) : ∀ v, v + d = V → Ev (fun k => ebbtideref14_Check.l0 k s t h (mat H V f) (v : Int) ((V : Nat) : Int) hold arcs) (if ColsOk hold h s t H V f v then (f h.toNat t.toNat, (0 : Int)) else (0, 141)) := by
 induction d with
 | zero =>
  intro v hv
  rw [if_pos (show ColsOk hold h s t H V f v from fun w hw hw2 => by omega)]
  obtain ⟨hN, rfl⟩ := Int.eq_ofNat_of_zero_le hh
  obtain ⟨tN, htN⟩ := Int.eq_ofNat_of_zero_le ht.1
  have g : rd_L3 (mat H V f) (hN : Int) = row V (f hN) := rdL_row (by omega)
  have g2 : rd (row V (f hN)) (tN : Int) = f hN tN := rd_row (by omega)
  refine ev_cst fun k => ?_
  rw [ebbtideref14_Check.l0, if_neg (by omega), if_pos (by omega), if_pos (by rw [mat_length]; omega), if_pos ht.1, g, if_pos (by rw [row_length]; omega), htN, g2]
  simp only [Int.toNat_natCast]
 | succ d ih =>
  intro v hv
  have hv2 : v < V := by omega
  have hnext := ih (v + 1) (by omega)
  have hfalse : ∀ a : Int, ColOk hold h s t H f v 0 → Ev (fun k => ebbtideref14_Check.j2 k s t h (mat H V f) (v : Int) a false ((V : Nat) : Int) hold arcs) (if ColsOk hold h s t H V f v then (f h.toNat t.toNat, (0 : Int)) else (0, 141)) := by
   intro a hc
   have e : (if ColsOk hold h s t H V f v then (f h.toNat t.toNat, (0 : Int)) else (0, 141)) = (if ColsOk hold h s t H V f (v + 1) then (f h.toNat t.toNat, (0 : Int)) else (0, 141)) := by
    have hcs := colsOk_step (hold := hold) (h := h) (s := s) (t := t) (f := f) (H := H) hv2
    by_cases c : ColsOk hold h s t H V f (v + 1)
    ·rw [if_pos c, if_pos (hcs.2 ⟨hc, c⟩)]
    ·rw [if_neg c, if_neg (fun h => c (hcs.1 h).2)]
   rw [e]
   exact Ev.step (fun k => by rw [ebbtideref14_Check.j2, if_neg (by decide), wrap1 (by omega)]) hnext
  have hl1 : ∀ d a, a + d = H → (∀ u, u < a → ¬ Bad hold h s t f u v) → Ev (fun k => ebbtideref14_Check.l1 k s t h (mat H V f) (v : Int) (a : Int) ((V : Nat) : Int) hold arcs) (if ColsOk hold h s t H V f v then (f h.toNat t.toNat, (0 : Int)) else (0, 141)) := by
   intro d
   induction d with
   | zero =>
    intro a ha hb
    refine Ev.step (fun k => ?_) (hfalse (a : Int) (fun u _ hu => hb u (by omega)))
    rw [ebbtideref14_Check.l1, if_neg (by omega)]
   | succ d ih2 =>
    intro a ha hb
    have ha2 : a < H := by omega
    by_cases c1 : (v : Int) = s
    ·refine Ev.step (fun k => ?_) (hfalse (a : Int) (fun u _ hu hbad => hbad.1 c1))
     rw [ebbtideref14_Check.l1, if_pos (by omega), if_pos c1]
    by_cases c2 : (v : Int) = t
    ·refine Ev.step (fun k => ?_) (hfalse (a : Int) (fun u _ hu hbad => hbad.2.1 c2))
     rw [ebbtideref14_Check.l1, if_pos (by omega), if_neg c1, c2]
     simp
    have g : rd_L3 (mat H V f) (a : Int) = row V (f a) := rdL_row ha2
    have g2 : rd (row V (f a)) (v : Int) = f a v := rd_row hv2
    have hj : Ev (fun k => ebbtideref14_Check.j2 k s t h (mat H V f) (v : Int) (a : Int) true ((V : Nat) : Int) hold arcs) (if ColsOk hold h s t H V f v then (f h.toNat t.toNat, (0 : Int)) else (0, 141)) := by
     have hstep : ∀ k, ebbtideref14_Check.j2 (k + 1) s t h (mat H V f) (v : Int) (a : Int) true ((V : Nat) : Int) hold arcs = if Bad hold h s t f a v then some (0, 141) else ebbtideref14_Check.l1 k s t h (mat H V f) (v : Int) ((a + 1 : Nat) : Int) ((V : Nat) : Int) hold arcs := by
      intro k
      rw [ebbtideref14_Check.j2, if_pos rfl, if_pos (by omega), if_pos (by rw [mat_length]; omega), if_pos (by omega), g, if_pos (by rw [row_length]; omega), g2, wrap1 (by omega)]
      by_cases c3 : f a v < 0
      ·rw [if_pos c3, if_pos (show Bad hold h s t f a v from ⟨c1, c2, .inl c3⟩)]
      rw [if_neg c3]
      by_cases c4 : f a v > 0
      ·rw [if_pos c4]
       cases hold with
       | false => rw [if_neg (by decide), if_pos (show Bad false h s t f a v from ⟨c1, c2, .inr ⟨c4, .inl rfl⟩⟩)]
       | true =>
        rw [if_pos rfl]
        by_cases c5 : (a : Int) = h
        ·rw [if_pos c5, if_pos (show Bad true h s t f a v from ⟨c1, c2, .inr ⟨c4, .inr c5⟩⟩)]
        ·rw [if_neg c5, if_neg]
         rintro ⟨_, _, h6 | ⟨_, h7 | h7⟩⟩
         ·exact c3 h6
         ·cases h7
         ·exact c5 h7
      ·rw [if_neg c4, if_neg]
       rintro ⟨_, _, h6 | ⟨h7, _⟩⟩
       ·exact c3 h6
       ·exact c4 h7
     refine Ev.step hstep ?_
     by_cases c : Bad hold h s t f a v
     ·simp only [c, if_true]
      rw [if_neg (fun hc : ColsOk hold h s t H V f v => hc v (Nat.le_refl _) hv2 a ha2 c)]
      exact Ev.now _
     ·simp only [c, if_false]
      refine ih2 (a + 1) (by omega) (fun u hu => ?_)
      rcases Nat.eq_or_lt_of_le (Nat.le_of_lt_succ hu) with rfl | h3
      ·exact c
      ·exact hb u h3
    refine Ev.step (fun k => ?_) hj
    rw [ebbtideref14_Check.l1, if_pos (by omega), if_neg c1]
    congr 1
    simp [c2]
  refine Ev.step (fun k => ?_) (hl1 H 0 (by omega) (fun u hu => by omega))
  rw [ebbtideref14_Check.l0, if_pos (by omega)]
  rfl
theorem rchk_ev : Ev (fun k => ebbtideref14_Check.l0 k s t h (mat H V f) 0 ((V : Nat) : Int) hold arcs) (if AllOk hold h s t H V f then (f h.toNat t.toNat, (0 : Int)) else (0, 141)) := by
 have h0 := rchk_l0 (hold := hold) (s := s) (f := f) (arcs := arcs) hH hV hhH hh ht V 0 (by omega)
 have e : (if ColsOk hold h s t H V f 0 then (f h.toNat t.toNat, (0 : Int)) else (0, 141)) = (if AllOk hold h s t H V f then (f h.toNat t.toNat, (0 : Int)) else (0, 141)) := by
  have hi : ColsOk hold h s t H V f 0 ↔ AllOk hold h s t H V f := ⟨fun h u hu w hw => h w (by omega) hw u hu, fun h w _ hw u hu => h u hu w hw⟩
  by_cases c : AllOk hold h s t H V f
  ·rw [if_pos c, if_pos (hi.2 c)]
  ·rw [if_neg c, if_neg (fun h => c (hi.1 h))]
 rw [e] at h0
 exact h0
end
noncomputable def stocksR (n : Int) (arcs : List S54) (s t h : Int) (l : List S85) : List (List Int) × Int :=
 if (mergedR n arcs s t h l).2 = 0 then (SM n arcs h (mergedR n arcs s t h l).1, 0) else ([], (mergedR n arcs s t h l).2)
open Classical in
noncomputable def planR (hold : Bool) (n : Int) (arcs : List S54) (s t h : Int) (l : List S85) : Int × Int :=
 if (mergedR n arcs s t h l).2 = 0 then (if AllOk hold h s t (tH h) (tV n) (stk arcs (mergedR n arcs s t h l).1) then (stk arcs (mergedR n arcs s t h l).1 h.toNat t.toNat, 0) else (0, 141)) else (0, (mergedR n arcs s t h l).2)
structure MergedOk (n : Int) (arcs : List S54) (s t h : Int) (l M : List S85) : Prop where
 net : NetOk n arcs
 ends : 0 ≤ s ∧ s < n ∧ 0 ≤ t ∧ t < n ∧ s ≠ t
 hor : 0 ≤ h ∧ h ≤ 1024
 fit : AllFit l
 is : M = mergeL l
 may : ∀ m ∈ M, May arcs s t h m
theorem mergedR_ok {n : Int} {arcs : List S54} {s t h : Int} {l : List S85} (hz : (mergedR n arcs s t h l).2 = 0) : MergedOk n arcs s t h l (mergedR n arcs s t h l).1 := by
 unfold mergedR at *
 by_cases c : askErr n arcs s t h = 0
 ·rw [if_pos c] at *
  obtain ⟨h1, h2, h3, h4, h5, h6, h7⟩ := askErr_ok.1 c
  by_cases c2 : AllFit l
  ·rw [if_pos c2] at *
   by_cases c3 : AllMay arcs s t h (mergeL l)
   ·rw [if_pos c3] at *
    exact ⟨h1, ⟨h2, h3, h4, h5, h6⟩, h7, c2, rfl, c3⟩
   ·rw [if_neg c3] at hz; cases hz
  ·rw [if_neg c2] at hz; cases hz
 ·rw [if_neg c] at hz; exact absurd hz c
section
variable {n : Int} {hold : Bool} {arcs : List S54} {s t h : Int} {l : List S85} (hlen : l.length ≤ 1048576) (hl : ∀ x ∈ l, OkM x)
include hlen
theorem merged_len (hz : (mergedR n arcs s t h l).2 = 0) : (mergedR n arcs s t h l).1.length ≤ 1048576 := by
 rw [(mergedR_ok hz).is]
 exact Nat.le_trans (mergeL_length l) hlen
include hl
theorem stocksP_ev : Ev (fun k => plan_Stocks.f k n hold arcs s t h l) (stocksR n arcs s t h l) := by
 unfold plan_Stocks.f stocksR
 refine Ev.bind (merged_ev hlen hl) ?_
 by_cases c : (mergedR n arcs s t h l).2 = 0
 ·have ho := mergedR_ok c
  simp only [c, if_true]
  exact Ev.bind (stocks_ev ho.net ho.hor (merged_len hlen c) ho.may) (Ev.now _)
 ·simp only [c, if_false]
  exact Ev.now _
theorem stocksQ_ev : Ev (fun k => ebbtideref14_Stocks.f k n hold arcs s t h l) (stocksR n arcs s t h l) := by
 unfold ebbtideref14_Stocks.f stocksR
 refine Ev.bind (rmerged_ev hlen hl) ?_
 by_cases c : (mergedR n arcs s t h l).2 = 0
 ·have ho := mergedR_ok c
  simp only [c, if_true]
  have h0 := rstocks_loop (b := hold) ho.net ho.hor (merged_len hlen c) ho.may (tH h) 0 (by omega)
  exact h0
 ·simp only [c, if_false]
  exact Ev.now _
open Classical in
theorem checked_ev : Ev (fun k => plan_checked.f k n hold arcs s t h l) (if (planR hold n arcs s t h l).2 = 0 then (SM n arcs h (mergedR n arcs s t h l).1, 0) else ([], (planR hold n arcs s t h l).2)) := by
 unfold plan_checked.f
 refine Ev.bind (stocksP_ev hlen hl) ?_
 unfold stocksR planR
 by_cases c : (mergedR n arcs s t h l).2 = 0
 ·have ho := mergedR_ok c
  have h1 := ho.hor
  have h2 := ho.net.lo
  have h3 := ho.net.hi
  simp only [c, if_true]
  have hord := ordinary_ev (hold := hold) (h := h) (s := s) (t := t) (H := tH h) (V := tV n) (f := stk arcs (mergedR n arcs s t h l).1) (by unfold tH; omega) (by unfold tV; omega) (by unfold tH; omega)
  refine Ev.bind hord ?_
  by_cases c2 : AllOk hold h s t (tH h) (tV n) (stk arcs (mergedR n arcs s t h l).1)
  ·simp only [c2, decide_true, if_true]; exact Ev.now _
  ·simp only [c2, decide_false, Bool.false_eq_true, if_false, show ¬ (141 : Int) = 0 by decide]; exact Ev.now _
 ·simp only [c, if_false]
  exact Ev.now _
theorem checkQ_ev : Ev (fun k => ebbtideref14_Check.f k n hold arcs s t h l) (planR hold n arcs s t h l) := by
 unfold ebbtideref14_Check.f
 refine Ev.bind (stocksQ_ev hlen hl) ?_
 unfold stocksR planR
 by_cases c : (mergedR n arcs s t h l).2 = 0
 ·have ho := mergedR_ok c
  have h1 := ho.hor
  have h2 := ho.net.lo
  have h3 := ho.net.hi
  have h4 := ho.ends
  simp only [c, if_true]
  have e : ((tV n : Nat) : Int) = n := by unfold tV; omega
  have h0 := rchk_ev (hold := hold) (h := h) (s := s) (t := t) (H := tH h) (V := tV n) (f := stk arcs (mergedR n arcs s t h l).1) (arcs := arcs) (by unfold tH; omega) (by unfold tV; omega) (by unfold tH; omega) h1.1 (by rw [e]; omega)
  rw [e] at h0
  exact h0
 ·simp only [c, if_false]
  exact Ev.now _
end
end Go.Proofs.Ytfhkkbpkajfdlaa.P
end
