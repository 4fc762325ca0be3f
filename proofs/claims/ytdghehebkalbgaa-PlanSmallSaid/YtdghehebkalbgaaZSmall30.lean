/- A part of the proof: words, contracts, plain lemmas. Conditions: none. -/
import Derived.Test.YtdghehebkalbgaaZSmall25
import Derived.Test.YtdghehebkalbgaaZSmall28
import Derived.Test.YtdghehebkalbgaaZSmall29
import Derived.Test.YtdghehebkalbgaaZSmall27
import Derived.OpenShut
import Derived.Test.YtdghehebkalbgaaZSmall4
import Derived.Test.YtdghehebkalbgaaZSmall14
import Derived.Test.YtdghehebkalbgaaZSmall15
import Derived.Test.YtdghehebkalbgaaZSmall16
import Derived.Test.YtdghehebkalbgaaZSmall23
import Derived.Test.YtdghehebkalbgaaZSmall24
import Derived.Test.YtdghehebkalbgaaRows
import Derived.WalkKit
import Derived.ProofKit
import Derived.ShutString
import Derived.ChangeOld
import Derived.Below
import Derived.SizedLaws
section
namespace Go.Proofs.Ytdghehebkalbgaa.P
open Go.RowKit Go.Proofs.Ytdghehebkalbgaa.Q Go.Proofs.YtdghehebkalbgaaW.PrintWords Go.Proofs.YtdghehebkalbgaaW.PrintLast Go.Proofs.YtdghehebkalbgaaW.PrintMore
open Go.Proofs.Ytdghehebkalbgaa.R
structure Small (n : Int) (arcs : List S47) (s t h : Int) (l : List S45) : Prop where
  two : 2 ≤ n ∧ n ≤ 5
  net : NetOk n arcs
  ends : 0 ≤ s ∧ s < n ∧ 0 ≤ t ∧ t < n ∧ s ≠ t
  hor : 0 ≤ h ∧ h ≤ 7
  len : l.length ≤ 30
  mv : ∀ m ∈ l, 0 ≤ m.f0 ∧ m.f0 < arcs.length ∧ 0 ≤ m.f1 ∧ m.f1 ≤ h ∧ 0 ≤ m.f2 ∧ m.f2 ≤ 3
theorem tm {a b : Int} (ha : 0 ≤ a) (hb : 0 < b) : 0 ≤ Int.tmod a b ∧ Int.tmod a b < b :=
  ⟨Int.tmod_nonneg b ha, Int.tmod_lt_of_pos a hb⟩
theorem wB {a : Int} (h0 : 0 ≤ a) (h1 : a ≤ 1000) : wrap64 a = a := by unfold wrap64; omega
def sE (n a3 : Int) : Int := Int.tmod (wrap64 a3) n
def tE (n a3 a4 : Int) : Int := Int.tmod (wrap64 (wrap64 (sE n a3 + 1) + Int.tmod (wrap64 a4) (wrap64 (n - 1)))) n
def hE (a5 : Int) : Int := Int.tmod (wrap64 a5) 8
theorem ends_ok {n a3 a4 : Int} (hn : 2 ≤ n ∧ n ≤ 5) (h3 : 0 ≤ a3 ∧ a3 ≤ 255) (h4 : 0 ≤ a4 ∧ a4 ≤ 255) : 0 ≤ sE n a3 ∧ sE n a3 < n ∧ 0 ≤ tE n a3 a4 ∧ tE n a3 a4 < n ∧ sE n a3 ≠ tE n a3 a4 := by
  have hs : 0 ≤ sE n a3 ∧ sE n a3 < n := by unfold sE; rw [wB h3.1 (by omega)]; exact tm h3.1 (by omega)
  have e : tE n a3 a4 = Int.tmod (sE n a3 + 1 + Int.tmod a4 (n - 1)) n := by
    unfold tE
    rw [wB h4.1 (by omega), wB (a := n - 1) (by omega) (by omega), wB (a := sE n a3 + 1) (by omega) (by omega)]
    have hq := tm (a := a4) (b := n - 1) h4.1 (by omega)
    rw [wB (by omega) (by omega)]
  have hq := tm (a := a4) (b := n - 1) h4.1 (by omega)
  rw [e]
  generalize sE n a3 = s at *
  generalize Int.tmod a4 (n - 1) = q at *
  have ht := tm (a := s + 1 + q) (b := n) (by omega) (by omega)
  refine ⟨hs.1, hs.2, ht.1, ht.2, ?_⟩
  rw [Int.tmod_eq_emod_of_nonneg (by omega)]
  have h5 : n = 2 ∨ n = 3 ∨ n = 4 ∨ n = 5 := by omega
  rcases h5 with rfl | rfl | rfl | rfl <;> omega
theorem rdB_of {l : List S70} {i : Nat} (h : i < l.length) : rd_T70 l (i : Int) = l[i] := by unfold rd_T70; simp [List.getD_eq_getElem?_getD, List.getElem?_eq_getElem h]
theorem rdC_of {l : List S63} {i : Nat} (h : i < l.length) : rd_T63 l (i : Int) = l[i] := by unfold rd_T63; simp [List.getD_eq_getElem?_getD, List.getElem?_eq_getElem h]
theorem read12_loop {n : Int} (hn : 2 ≤ n ∧ n ≤ 5) (b : Bool) (l : List S70) (hl : ∀ x ∈ l, (0 ≤ x.f0 ∧ x.f0 ≤ 255) ∧ (0 ≤ x.f1 ∧ x.f1 ≤ 255) ∧ (0 ≤ x.f2 ∧ x.f2 ≤ 255) ∧ (0 ≤ x.f3 ∧ x.f3 ≤ 255)) (a0 a3 a4 a5 : Int) (d : Nat) :
    ∀ (i : Nat) (A : List S47), i + d = 8 → A.length ≤ i → (∀ a ∈ A, ArcOk n a) → ∃ arcs : List S47, arcs.length ≤ 8 ∧ (∀ a ∈ arcs, ArcOk n a) ∧ Ev (fun k => ebbtidelaw12_Read.l0 k 8 (i : Int) a0 b l a3 a4 a5 n b A) (n, b, arcs, sE n a3, tE n a3 a4, hE a5) := by
  have hn0 : ¬ n = 0 := by omega
  have hn1 : ¬ wrap64 (n - 1) = 0 := by rw [wB (by omega) (by omega)]; omega
  induction d with
  | zero =>
    intro i A hi hA hok
    refine ⟨A, by omega, hok, ev_cst fun k => ?_⟩
    rw [ebbtidelaw12_Read.l0, if_neg (show ¬ (i : Int) < 8 by omega), if_neg hn0, if_neg hn1, ite_self]
    rfl
  | succ d ih =>
    intro i A hi hA hok
    by_cases c : i < l.length
    · have hx := hl l[i] (List.getElem_mem c)
      have e0 := tm (a := l[i].f0) (b := n) hx.1.1 (by omega)
      have e1 := tm (a := l[i].f1) (b := n) hx.2.1.1 (by omega)
      have e2 := tm (a := l[i].f2) (b := 6) hx.2.2.1.1 (by omega)
      have e3 := tm (a := l[i].f3) (b := 4) hx.2.2.2.1 (by omega)
      obtain ⟨arcs, h1, h2, h3⟩ := ih (i + 1) (A ++ [(⟨Int.tmod l[i].f0 n, Int.tmod l[i].f1 n, Int.tmod l[i].f2 6, Int.tmod l[i].f3 4⟩ : S47)]) (by omega) (by simp; omega) (fun a ha => by
        rcases List.mem_append.1 ha with ha | ha
        · exact hok a ha
        · rw [List.mem_singleton.1 ha]
          exact ⟨e0, e1, by show 0 ≤ Int.tmod _ _ ∧ Int.tmod _ _ ≤ _; omega, by show 0 ≤ Int.tmod _ _ ∧ Int.tmod _ _ ≤ _; omega⟩)
      refine ⟨arcs, h1, h2, Ev.step (fun k => ?_) h3⟩
      rw [ebbtidelaw12_Read.l0, if_pos (by omega), if_pos (by omega), if_pos (by omega), if_neg hn0, if_pos (by omega), rdB_of c, wB hx.1.1 (by omega), wB hx.2.1.1 (by omega), wB hx.2.2.1.1 (by omega), wB hx.2.2.2.1 (by omega), wrap1 (by omega)]
    · refine ⟨A, by omega, hok, ev_cst fun k => ?_⟩
      rw [ebbtidelaw12_Read.l0, if_neg (by omega), if_neg hn0, if_neg hn1]
      rfl
theorem read14_loop {n : Int} (b b' : Bool) (arcs : List S47) (s t h : Int) (hh : 0 ≤ h ∧ h ≤ 7) (ha : arcs.length ≤ 8) (lb : List S70) (l : List S63) (hl : ∀ x ∈ l, (0 ≤ x.f0 ∧ x.f0 ≤ 255) ∧ (0 ≤ x.f1 ∧ x.f1 ≤ 255) ∧ (0 ≤ x.f2 ∧ x.f2 ≤ 255)) (a0 a3 a4 a5 : Int) (d : Nat) :
    ∀ (i : Nat) (A : List S45), i + d = 30 → A.length ≤ i → (∀ m ∈ A, 0 ≤ m.f0 ∧ m.f0 < arcs.length ∧ 0 ≤ m.f1 ∧ m.f1 ≤ h ∧ 0 ≤ m.f2 ∧ m.f2 ≤ 3) →
    ∃ L : List S45, L.length ≤ 30 ∧ (∀ m ∈ L, 0 ≤ m.f0 ∧ m.f0 < arcs.length ∧ 0 ≤ m.f1 ∧ m.f1 ≤ h ∧ 0 ≤ m.f2 ∧ m.f2 ≤ 3) ∧ Ev (fun k => ebbtidelaw14_Read.l0 k s t h A (i : Int) a0 b' lb a3 a4 a5 l n b arcs) (n, b, arcs, s, t, h, L) := by
  induction d with
  | zero =>
    intro i A hi hA hok
    refine ⟨A, by omega, hok, ev_cst fun k => ?_⟩
    rw [ebbtidelaw14_Read.l0, if_neg (show ¬ (i : Int) < 30 by omega), ite_self]
  | succ d ih =>
    intro i A hi hA hok
    by_cases c : i < l.length
    · by_cases c2 : (arcs.length : Int) > 0
      · have hx := hl l[i] (List.getElem_mem c)
        have e0 := tm (a := l[i].f0) (b := (arcs.length : Int)) hx.1.1 (by omega)
        have e1 := tm (a := l[i].f1) (b := h + 1) hx.2.1.1 (by omega)
        have e2 := tm (a := l[i].f2) (b := 4) hx.2.2.1 (by omega)
        have ew : wrap64 (h + 1) = h + 1 := wB (by omega) (by omega)
        obtain ⟨L, h1, h2, h3⟩ := ih (i + 1) (A ++ [(⟨Int.tmod l[i].f0 (arcs.length : Int), Int.tmod l[i].f1 (h + 1), Int.tmod l[i].f2 4⟩ : S45)]) (by omega) (by simp; omega) (fun a ha => by
          rcases List.mem_append.1 ha with ha | ha
          · exact hok a ha
          · rw [List.mem_singleton.1 ha]
            exact ⟨e0.1, e0.2, e1.1, by show Int.tmod _ _ ≤ _; omega, e2.1, by show Int.tmod _ _ ≤ _; omega⟩)
        refine ⟨L, h1, h2, Ev.step (fun k => ?_) h3⟩
        rw [ebbtidelaw14_Read.l0, if_pos (by omega), if_pos (by omega), if_pos c2, if_pos (by omega), if_neg (by omega), ew, if_neg (by omega), if_pos (by omega), rdC_of c, wB hx.1.1 (by omega), wB hx.2.1.1 (by omega), wB hx.2.2.1 (by omega), wrap1 (by omega)]
      · refine ⟨A, by omega, hok, ev_cst fun k => ?_⟩
        rw [ebbtidelaw14_Read.l0, if_pos (by omega), if_pos (by omega), if_neg c2]
    · refine ⟨A, by omega, hok, ev_cst fun k => ?_⟩
      rw [ebbtidelaw14_Read.l0, if_neg (by omega)]
theorem read_ev {N : Nat} (x : S38) (g : g38 N x) : ∃ (n : Int) (arcs : List S47) (s t h : Int) (l : List S45), Small n arcs s t h l ∧
    Ev (fun k => ebbtidelaw14_Read.f k x.f0.f0 x.f0.f1 x.f0.f2 x.f0.f3 x.f0.f4 x.f0.f5 x.f1) (n, x.f0.f1, arcs, s, t, h, l) := by
  obtain ⟨⟨g0, _, g2, g3, g4, g5⟩, g6⟩ := g
  have b0 := Go.bounds_u8 g0
  have b3 := Go.bounds_u8 g3
  have b4 := Go.bounds_u8 g4
  have b5 := Go.bounds_u8 g5
  have e4 := tm (a := x.f0.f0) (b := 4) b0.1 (by omega)
  have en : wrap64 (2 + Int.tmod (wrap64 x.f0.f0) 4) = 2 + Int.tmod x.f0.f0 4 := by rw [wB b0.1 (by omega), wB (by omega) (by omega)]
  have hn : 2 ≤ 2 + Int.tmod x.f0.f0 4 ∧ 2 + Int.tmod x.f0.f0 4 ≤ 5 := by omega
  have hh : 0 ≤ hE x.f0.f5 ∧ hE x.f0.f5 ≤ 7 := by
    have e := tm (a := x.f0.f5) (b := 8) b5.1 (by omega)
    unfold hE
    rw [wB b5.1 (by omega)]
    omega
  obtain ⟨arcs, h1, h2, h3⟩ := read12_loop hn x.f0.f1 x.f0.f2 (fun y hy => ⟨Go.bounds_u8 (g2.2.2 y hy).1, Go.bounds_u8 (g2.2.2 y hy).2.1, Go.bounds_u8 (g2.2.2 y hy).2.2.1, Go.bounds_u8 (g2.2.2 y hy).2.2.2⟩) x.f0.f0 x.f0.f3 x.f0.f4 x.f0.f5 8 0 [] (by omega) (Nat.le_refl _) (fun a ha => by cases ha)
  obtain ⟨L, k1, k2, k3⟩ := read14_loop (n := 2 + Int.tmod x.f0.f0 4) x.f0.f1 x.f0.f1 arcs (sE (2 + Int.tmod x.f0.f0 4) x.f0.f3) (tE (2 + Int.tmod x.f0.f0 4) x.f0.f3 x.f0.f4) (hE x.f0.f5) hh h1 x.f0.f2 x.f1 (fun y hy => ⟨Go.bounds_u8 (g6.2.2 y hy).1, Go.bounds_u8 (g6.2.2 y hy).2.1, Go.bounds_u8 (g6.2.2 y hy).2.2⟩) x.f0.f0 x.f0.f3 x.f0.f4 x.f0.f5 30 0 [] (by omega) (Nat.le_refl _) (fun a ha => by cases ha)
  refine ⟨_, arcs, _, _, _, L, ⟨hn, ⟨by omega, by omega, by omega, h2⟩, ends_ok hn b3 b4, hh, k1, k2⟩, ?_⟩
  unfold ebbtidelaw14_Read.f
  refine Ev.bind (a := (2 + Int.tmod x.f0.f0 4, x.f0.f1, arcs, sE (2 + Int.tmod x.f0.f0 4) x.f0.f3, tE (2 + Int.tmod x.f0.f0 4) x.f0.f3 x.f0.f4, hE x.f0.f5)) ?_ k3
  unfold ebbtidelaw12_Read.f
  rw [en]
  exact h3
end Go.Proofs.Ytdghehebkalbgaa.P
end
section
namespace Go.Proofs.Ytdghehebkalbgaa.P
open Go.RowKit Go.Proofs.Ytdghehebkalbgaa.Q Go.Proofs.YtdghehebkalbgaaW.PrintWords Go.Proofs.YtdghehebkalbgaaW.PrintLast Go.Proofs.YtdghehebkalbgaaW.PrintMore
section
variable {n : Int} {arcs : List S47} {s t h : Int} {l : List S45} (hs : Small n arcs s t h l)
include hs
theorem small_len : l.length ≤ 1048576 := by have := hs.len; omega
theorem small_ok : ∀ x ∈ l, OkM x := fun x hx => by
  have h1 := hs.mv x hx
  have h2 := hs.net.len
  have h3 := hs.hor
  unfold OkM fits
  omega
end
section
variable {arcs : List S47} {s t h : Int} {M : List S45} (hm : ∀ m ∈ M, May arcs s t h m)
include hm
end
end Go.Proofs.Ytdghehebkalbgaa.P
end
section
namespace Go.Proofs.Ytdghehebkalbgaa.Q
open Go.RowKit Go.Proofs.YtdghehebkalbgaaW.PrintWords Go.Proofs.YtdghehebkalbgaaW.PrintLast Go.Proofs.YtdghehebkalbgaaW.PrintMore
attribute [local go_sem] max2_int min2_int max_two min_two min_four
set_option linter.unusedVariables false
set_option linter.unusedSimpArgs false
def ebbtidelaw14_PlanSmall.f (k : Nat) (a0_0 : Int) (a0_1 : Bool) (l0_2 : List (S70)) (a0_3 : Int) (a0_4 : Int) (a0_5 : Int) (l0_6 : List (S63)) : Option (Bool) := (ebbtidelaw14_Read.f k a0_0 a0_1 l0_2 a0_3 a0_4 a0_5 l0_6).bind fun bt410 => ((plan_Stocks.f k bt410.1 bt410.2.1 bt410.2.2.1 bt410.2.2.2.1 bt410.2.2.2.2.1 bt410.2.2.2.2.2.1 bt410.2.2.2.2.2.2).bind fun bt422 => ((ebbtideref14_Stocks.f k bt410.1 bt410.2.1 bt410.2.2.1 bt410.2.2.2.1 bt410.2.2.2.2.1 bt410.2.2.2.2.2.1 bt410.2.2.2.2.2.2).bind fun bt426 => ((plan_Check.f k bt410.1 bt410.2.1 bt410.2.2.1 bt410.2.2.2.1 bt410.2.2.2.2.1 bt410.2.2.2.2.2.1 bt410.2.2.2.2.2.2).bind fun bt430 => ((ebbtideref14_Check.f k bt410.1 bt410.2.1 bt410.2.2.1 bt410.2.2.2.1 bt410.2.2.2.2.1 bt410.2.2.2.2.2.1 bt410.2.2.2.2.2.2).bind fun bt432 => ((ebbtidelaw14_awake.f k).bind fun t434 => (if t434 = true then ((ebbtideref06_Same.f k bt422.1 bt426.1).bind fun t435 => (if t435 = true then (if bt422.2 = bt426.2 then (if bt430.1 = bt432.1 then (some (bt430.2 == bt432.2)) else (some false)) else (some false)) else (some false))) else (some false)))))))
set_option maxHeartbeats 8000000 in
set_option maxRecDepth 100000 in
theorem ebbtidelaw14_PlanSmall.calls (k : Nat) (a0_0 : Int) (a0_1 : Bool) (A0_2 : Option Addr) (c0_2 : Nat) (l0_2 : List (S70)) (a0_3 : Int) (a0_4 : Int) (a0_5 : Int) (A0_6 : Option Addr) (c0_6 : Nat) (l0_6 : List (S63)) (r : Bool) (w : World) (hr0_2 : Kd.C k70 w A0_2 l0_2.length l0_2) (hc0_2 : l0_2.length ≤ c0_2) (hr0_6 : Kd.C k63 w A0_6 l0_6.length l0_6) (hc0_6 : l0_6.length ≤ c0_6) (h : ebbtidelaw14_PlanSmall.f k a0_0 a0_1 l0_2 a0_3 a0_4 a0_5 l0_6 = some r) (hrt : r = true := by first | rfl | exact HRT.out | assumption) :
  Calls Try.prog 4 #[.agg #[.int .u8 a0_0, .bool a0_1, .slice A0_2 l0_2.length c0_2, .int .u8 a0_3, .int .u8 a0_4, .int .u8 a0_5, .slice A0_6 l0_6.length c0_6]] w fun e w' => e = .returned (.bool r) ∧ Below w.heap.size w w' := by
 have HRT := am_ hrt; clear hrt; have hu38 := Try.underlying38; have hu24 := Try.underlying24; have HR0_2 := am_ hr0_2; have HC0_2 := am_ hc0_2; clear hr0_2 hc0_2; have HR0_6 := am_ hr0_6; have HC0_6 := am_ hc0_6; clear hr0_6 hc0_6; have HB := am_ (Below.refl w.heap.size w); have H : ((ebbtidelaw14_Read.f k a0_0 a0_1 l0_2 a0_3 a0_4 a0_5 l0_6).bind fun bt410 => ((plan_Stocks.f k bt410.1 bt410.2.1 bt410.2.2.1 bt410.2.2.2.1 bt410.2.2.2.2.1 bt410.2.2.2.2.2.1 bt410.2.2.2.2.2.2).bind fun bt422 => ((ebbtideref14_Stocks.f k bt410.1 bt410.2.1 bt410.2.2.1 bt410.2.2.2.1 bt410.2.2.2.2.1 bt410.2.2.2.2.2.1 bt410.2.2.2.2.2.2).bind fun bt426 => ((plan_Check.f k bt410.1 bt410.2.1 bt410.2.2.1 bt410.2.2.2.1 bt410.2.2.2.2.1 bt410.2.2.2.2.2.1 bt410.2.2.2.2.2.2).bind fun bt430 => ((ebbtideref14_Check.f k bt410.1 bt410.2.1 bt410.2.2.1 bt410.2.2.2.1 bt410.2.2.2.2.1 bt410.2.2.2.2.2.1 bt410.2.2.2.2.2.2).bind fun bt432 => ((ebbtidelaw14_awake.f k).bind fun t434 => (if t434 = true then ((ebbtideref06_Same.f k bt422.1 bt426.1).bind fun t435 => (if t435 = true then (if bt422.2 = bt426.2 then (if bt430.1 = bt432.1 then (some (bt430.2 == bt432.2)) else (some false)) else (some false)) else (some false))) else (some false)))))))) = some r := h; clear h; replace H := Option.bind_eq_some_iff.mp H; obtain ⟨⟨t410, t411, t412, t415, t416, t417, t418⟩, A20, H⟩ := H; replace H : ((plan_Stocks.f k t410 t411 t412 t415 t416 t417 t418).bind fun bt422 => ((ebbtideref14_Stocks.f k t410 t411 t412 t415 t416 t417 t418).bind fun bt426 => ((plan_Check.f k t410 t411 t412 t415 t416 t417 t418).bind fun bt430 => ((ebbtideref14_Check.f k t410 t411 t412 t415 t416 t417 t418).bind fun bt432 => ((ebbtidelaw14_awake.f k).bind fun t434 => (if t434 = true then ((ebbtideref06_Same.f k bt422.1 bt426.1).bind fun t435 => (if t435 = true then (if bt422.2 = bt426.2 then (if bt430.1 = bt432.1 then (some (bt430.2 == bt432.2)) else (some false)) else (some false)) else (some false))) else (some false))))))) = some r := H; have A2 := am_ A20; clear A20; replace H := Option.bind_eq_some_iff.mp H; obtain ⟨⟨t422, t425⟩, A30, H⟩ := H; replace H : ((ebbtideref14_Stocks.f k t410 t411 t412 t415 t416 t417 t418).bind fun bt426 => ((plan_Check.f k t410 t411 t412 t415 t416 t417 t418).bind fun bt430 => ((ebbtideref14_Check.f k t410 t411 t412 t415 t416 t417 t418).bind fun bt432 => ((ebbtidelaw14_awake.f k).bind fun t434 => (if t434 = true then ((ebbtideref06_Same.f k t422 bt426.1).bind fun t435 => (if t435 = true then (if t425 = bt426.2 then (if bt430.1 = bt432.1 then (some (bt430.2 == bt432.2)) else (some false)) else (some false)) else (some false))) else (some false)))))) = some r := H; have A3 := am_ A30; clear A30; replace H := Option.bind_eq_some_iff.mp H; obtain ⟨⟨t426, t429⟩, A40, H⟩ := H; replace H : ((plan_Check.f k t410 t411 t412 t415 t416 t417 t418).bind fun bt430 => ((ebbtideref14_Check.f k t410 t411 t412 t415 t416 t417 t418).bind fun bt432 => ((ebbtidelaw14_awake.f k).bind fun t434 => (if t434 = true then ((ebbtideref06_Same.f k t422 t426).bind fun t435 => (if t435 = true then (if t425 = t429 then (if bt430.1 = bt432.1 then (some (bt430.2 == bt432.2)) else (some false)) else (some false)) else (some false))) else (some false))))) = some r := H; have A4 := am_ A40; clear A40; replace H := Option.bind_eq_some_iff.mp H; obtain ⟨⟨t430, t431⟩, A50, H⟩ := H; replace H : ((ebbtideref14_Check.f k t410 t411 t412 t415 t416 t417 t418).bind fun bt432 => ((ebbtidelaw14_awake.f k).bind fun t434 => (if t434 = true then ((ebbtideref06_Same.f k t422 t426).bind fun t435 => (if t435 = true then (if t425 = t429 then (if t430 = bt432.1 then (some (t431 == bt432.2)) else (some false)) else (some false)) else (some false))) else (some false)))) = some r := H; have A5 := am_ A50; clear A50; replace H := Option.bind_eq_some_iff.mp H; obtain ⟨⟨t432, t433⟩, A60, H⟩ := H; replace H : ((ebbtidelaw14_awake.f k).bind fun t434 => (if t434 = true then ((ebbtideref06_Same.f k t422 t426).bind fun t435 => (if t435 = true then (if t425 = t429 then (if t430 = t432 then (some (t431 == t433)) else (some false)) else (some false)) else (some false))) else (some false))) = some r := H; have A6 := am_ A60; clear A60; replace H := Option.bind_eq_some_iff.mp H; obtain ⟨t434, A70, H⟩ := H; replace H : (if t434 = true then ((ebbtideref06_Same.f k t422 t426).bind fun t435 => (if t435 = true then (if t425 = t429 then (if t430 = t432 then (some (t431 == t433)) else (some false)) else (some false)) else (some false))) else (some false)) = some r := H; have A7 := am_ A70; clear A70
 by_cases c8 : t434 = true
 ·subst c8
  have H1 : ((ebbtideref06_Same.f k t422 t426).bind fun t435 => (if t435 = true then (if t425 = t429 then (if t430 = t432 then (some (t431 == t433)) else (some false)) else (some false)) else (some false))) = some r := by rw [if_pos rfl] at H; exact H
  clear H; have H := H1; clear H1; replace H := Option.bind_eq_some_iff.mp H; obtain ⟨t435, A90, H⟩ := H; replace H : (if t435 = true then (if t425 = t429 then (if t430 = t432 then (some (t431 == t433)) else (some false)) else (some false)) else (some false)) = some r := H; have A9 := am_ A90; clear A90
  by_cases c10 : t435 = true
  ·subst c10
   have H1 : (if t425 = t429 then (if t430 = t432 then (some (t431 == t433)) else (some false)) else (some false)) = some r := by rw [if_pos rfl] at H; exact H
   clear H; have H := H1; clear H1
   by_cases c11 : t425 = t429
   ·rw [if_pos c11] at H
    have c11b0 : (t425 == t429) = true := beq_iff_eq.mpr c11; have c11b1 : (t425 != t429) = false := bne_eq_false_iff_eq.mpr c11; clear c11
    by_cases c12 : t430 = t432
    ·rw [if_pos c12] at H
     have c12b0 : (t430 == t432) = true := beq_iff_eq.mpr c12; have c12b1 : (t430 != t432) = false := bne_eq_false_iff_eq.mpr c12; clear c12; obtain rfl := Option.some.inj H
     go_enter Try.func4, Try.ntmps4
     go_wp2_with (first | ((with_reducible refine gate_dst (N := 1) rfl ?_); refine box_event ?hg (N := 1) ?hd (cs := #[.int .u8 a0_0, .bool a0_1, .slice A0_2 l0_2.length c0_2, .int .u8 a0_3, .int .u8 a0_4, .int .u8 a0_5, .slice A0_6 l0_6.length c0_6]) (t := 38) ?hr ?_; (case hd => rfl); (case hg => rfl); (case hr => first | (go_simp; done) | (go_simp; rfl)); intro gb409 hg w13 hbox hb; have BK409 := am_ (hbox); have GE409 := am_ ((by rw [hg]; exact (below_size hb_) : w.heap.size ≤ gb409)); replace HB := am_ (below_step hb_ hb); clear hb hbox hg; have hcz14_0 : w13.cell? ⟨gb409, 0, none⟩ = some (.int .u8 a0_0) := (blk_cell BK409.out 0).trans rfl; have hcz14_1 : w13.cell? ⟨gb409, 1, none⟩ = some (.bool a0_1) := (blk_cell BK409.out 1).trans rfl; have hcz14_2 : w13.cell? ⟨gb409, 2, none⟩ = some (.slice A0_2 l0_2.length c0_2) := (blk_cell BK409.out 2).trans rfl; have hcz14_3 : w13.cell? ⟨gb409, 3, none⟩ = some (.int .u8 a0_3) := (blk_cell BK409.out 3).trans rfl; have hcz14_4 : w13.cell? ⟨gb409, 4, none⟩ = some (.int .u8 a0_4) := (blk_cell BK409.out 4).trans rfl; have hcz14_5 : w13.cell? ⟨gb409, 5, none⟩ = some (.int .u8 a0_5) := (blk_cell BK409.out 5).trans rfl; have hcz14_6 : w13.cell? ⟨gb409, 6, none⟩ = some (.slice A0_6 l0_6.length c0_6) := (blk_cell BK409.out 6).trans rfl; have hfz14_0 := blk_frozen BK409.out 0; have hfz14_1 := blk_frozen BK409.out 1; have hfz14_2 := blk_frozen BK409.out 2; have hfz14_3 := blk_frozen BK409.out 3; have hfz14_4 := blk_frozen BK409.out 4; have hfz14_5 := blk_frozen BK409.out 5; have hfz14_6 := blk_frozen BK409.out 6) | ((with_reducible refine gate_callee (f := 14) rfl ?_); refine goesL_ (some 18) rfl rfl Try.func14 (by kernel_rfl) rfl #[.agg #[.int .u8 a0_0, .bool a0_1, .slice A0_2 l0_2.length c0_2, .int .u8 a0_3, .int .u8 a0_4, .int .u8 a0_5, .slice A0_6 l0_6.length c0_6]] rfl mt_ ?_; (with_reducible refine (ebbtidelaw14_Read.calls k a0_0 a0_1 _ _ l0_2 a0_3 a0_4 a0_5 _ _ l0_6 t410 t411 t412 t415 t416 t417 t418 _ ?side1 ?side2 ?side3 ?side4 A2.out).mono ?_); (case side1 => repeat (first | exact (Kd.C_below HR0_2.out HB.out) | (with_reducible refine Kd.C_alloc ?_ _) | (with_reducible refine Kd.C_drewN ?_ _) | (with_reducible refine Kd.C_drew ?_))); (case side2 => exact HC0_2.out); (case side3 => repeat (first | exact (Kd.C_below HR0_6.out HB.out) | (with_reducible refine Kd.C_alloc ?_ _) | (with_reducible refine Kd.C_drewN ?_ _) | (with_reducible refine Kd.C_drew ?_))); (case side4 => exact HC0_6.out); rintro e w15 ⟨v413, v419, rfl, ho0, ho1, hb⟩; refine ⟨_, rfl, ?_⟩; have HO414 := am_ (Kd.R_lower ho0 (below_size hb_)); have HO420 := am_ (Kd.R_lower ho1 (below_size hb_)); replace BK409 := am_ (blk_below (g := gb409) (o := .cells #[.int .u8 a0_0, .bool a0_1, .slice A0_2 l0_2.length c0_2, .int .u8 a0_3, .int .u8 a0_4, .int .u8 a0_5, .slice A0_6 l0_6.length c0_6] 38 (0, 0)) (bq_ BK409.out) hb); replace HB := am_ (below_step hb_ hb); (try clear hb); (try clear hb2); (try clear hk); (try clear hi); (try clear ho0); (try clear ho1)) | ((with_reducible refine gate_dst (N := 3) rfl ?_); refine box_event ?hg (N := 3) ?hd (cs := #[.int .i64 0, .bool false, .slice none 0 0]) (t := 24) ?hr ?_; (case hd => rfl); (case hg => rfl); (case hr => first | (go_simp; done) | (go_simp; rfl)); intro gb421 hg w16 hbox hb; replace HO414 := am_ (Kd.R_below (rq_ HO414.out) hb); replace HO420 := am_ (Kd.R_below (rq_ HO420.out) hb); have BK421 := am_ (hbox); have GE421 := am_ ((by rw [hg]; exact (below_size hb_) : w.heap.size ≤ gb421)); replace HB := am_ (below_step hb_ hb); have NB409_421 := am_ ((by rw [hg]; exact Nat.ne_of_lt (blk_lt (g := gb409) (o := .cells #[.int .u8 a0_0, .bool a0_1, .slice A0_2 l0_2.length c0_2, .int .u8 a0_3, .int .u8 a0_4, .int .u8 a0_5, .slice A0_6 l0_6.length c0_6] 38 (0, 0)) (bq_ BK409.out)) : gb409 ≠ gb421)); have NB421_409 := am_ ((by rw [hg]; exact Nat.ne_of_gt (blk_lt (g := gb409) (o := .cells #[.int .u8 a0_0, .bool a0_1, .slice A0_2 l0_2.length c0_2, .int .u8 a0_3, .int .u8 a0_4, .int .u8 a0_5, .slice A0_6 l0_6.length c0_6] 38 (0, 0)) (bq_ BK409.out)) : gb421 ≠ gb409)); replace BK409 := am_ (blk_below (g := gb409) (o := .cells #[.int .u8 a0_0, .bool a0_1, .slice A0_2 l0_2.length c0_2, .int .u8 a0_3, .int .u8 a0_4, .int .u8 a0_5, .slice A0_6 l0_6.length c0_6] 38 (0, 0)) (bq_ BK409.out) hb); clear hb hbox hg; have hnb17 := NB421_409.out; have hnc17 := NB409_421.out; have hcz18_0 : w16.cell? ⟨gb421, 0, none⟩ = some (.int .i64 0) := (blk_cell BK421.out 0).trans rfl; have hcz18_1 : w16.cell? ⟨gb421, 1, none⟩ = some (.bool false) := (blk_cell BK421.out 1).trans rfl; have hcz18_2 : w16.cell? ⟨gb421, 2, none⟩ = some (.slice none 0 0) := (blk_cell BK421.out 2).trans rfl; have hfz18_0 := blk_frozen BK421.out 0; have hfz18_1 := blk_frozen BK421.out 1; have hfz18_2 := blk_frozen BK421.out 2; obtain ⟨Ao19, co19, eo19⟩ := Kd.R_slice HO414.out; subst eo19; obtain ⟨Ao20, co20, eo20⟩ := Kd.R_slice HO420.out; subst eo20) | ((with_reducible refine gate_callee (f := 11) rfl ?_); refine goesL_ (some 30) rfl rfl Try.func11 (by kernel_rfl) rfl #[.agg #[.int .i64 t410, .bool t411, .slice Ao19 t412.length co19], .int .i64 t415, .int .i64 t416, .int .i64 t417, .slice Ao20 t418.length co20] rfl mt_ ?_; (with_reducible refine (plan_Stocks.calls k t410 t411 _ _ t412 t415 t416 t417 _ _ t418 t422 t425 _ ?side1 ?side2 ?side3 ?side4 A3.out).mono ?_); (case side1 => refine (Kd.R_reads' (e := 47) (base := w.heap.size) (ok := fun k_ => True) (n := t412.length) (c := co19) ?_).2.2; exact q23_); (case side2 => exact (Kd.R_reads' HO414.out).2.1); (case side3 => refine (Kd.R_reads' (e := 45) (base := w.heap.size) (ok := fun k_ => True) (n := t418.length) (c := co20) ?_).2.2; exact q24_); (case side4 => exact (Kd.R_reads' HO420.out).2.1); rintro e w21 ⟨v423, rfl, ho0, hb⟩; refine ⟨_, rfl, ?_⟩; replace HO414 := am_ (Kd.R_below q23_ hb); replace HO420 := am_ (Kd.R_below q24_ hb); have HO424 := am_ (Kd.S_lower ho0 (below_size hb_)); replace BK409 := am_ (blk_below (g := gb409) (o := .cells #[.int .u8 a0_0, .bool a0_1, .slice A0_2 l0_2.length c0_2, .int .u8 a0_3, .int .u8 a0_4, .int .u8 a0_5, .slice A0_6 l0_6.length c0_6] 38 (0, 0)) (by refine bq_ ?_; refine blk_far ?_ NB409_421.out _; refine bq_ ?_; refine blk_far ?_ NB409_421.out _; refine bq_ ?_; refine blk_far ?_ NB409_421.out _; refine bq_ ?_; exact BK409.out) hb); replace BK421 := am_ (blk_below (g := gb421) (o := .cells #[.int .i64 t410, .bool t411, .slice Ao19 t412.length co19] 24 (0, 0)) (by refine bq_ ?_; refine blk_put (cs := #[.int .i64 t410, .bool t411, .slice none 0 0]) ?_ 2 _ rfl; refine bq_ ?_; refine blk_put (cs := #[.int .i64 t410, .bool false, .slice none 0 0]) ?_ 1 _ rfl; refine bq_ ?_; refine blk_put (cs := #[.int .i64 0, .bool false, .slice none 0 0]) ?_ 0 _ rfl; refine bq_ ?_; exact BK421.out) hb); replace HB := am_ (below_step hb_ hb); (try clear hb); (try clear hb2); (try clear hk); (try clear hi); (try clear ho0); have hcz22_0 : w21.cell? ⟨gb421, 0, none⟩ = some (.int .i64 t410) := (blk_cell BK421.out 0).trans rfl; have hcz22_1 : w21.cell? ⟨gb421, 1, none⟩ = some (.bool t411) := (blk_cell BK421.out 1).trans rfl; have hcz22_2 : w21.cell? ⟨gb421, 2, none⟩ = some (.slice Ao19 t412.length co19) := (blk_cell BK421.out 2).trans rfl; have hfz22_0 := blk_frozen BK421.out 0; have hfz22_1 := blk_frozen BK421.out 1; have hfz22_2 := blk_frozen BK421.out 2) | ((with_reducible refine gate_callee (f := 12) rfl ?_); refine goesL_ (some 39) rfl rfl Try.func12 (by kernel_rfl) rfl #[.agg #[.int .i64 t410, .bool t411, .slice Ao19 t412.length co19], .int .i64 t415, .int .i64 t416, .int .i64 t417, .slice Ao20 t418.length co20] rfl mt_ ?_; (with_reducible refine (ebbtideref14_Stocks.calls k t410 t411 _ _ t412 t415 t416 t417 _ _ t418 t426 t429 _ ?side1 ?side2 ?side3 ?side4 A4.out).mono ?_); (case side1 => repeat (first | exact (Kd.R_reads' HO414.out).2.2 | (with_reducible refine Kd.C_alloc ?_ _) | (with_reducible refine Kd.C_drewN ?_ _) | (with_reducible refine Kd.C_drew ?_))); (case side2 => exact (Kd.R_reads' HO414.out).2.1); (case side3 => repeat (first | exact (Kd.R_reads' HO420.out).2.2 | (with_reducible refine Kd.C_alloc ?_ _) | (with_reducible refine Kd.C_drewN ?_ _) | (with_reducible refine Kd.C_drew ?_))); (case side4 => exact (Kd.R_reads' HO420.out).2.1); rintro e w23 ⟨v427, rfl, ho0, hb⟩; refine ⟨_, rfl, ?_⟩; replace HO414 := am_ (Kd.R_below (rq_ HO414.out) hb); replace HO420 := am_ (Kd.R_below (rq_ HO420.out) hb); have HO428 := am_ (Kd.S_lower (Kd.S_new' ho0 (Kd.S_lt (sq_ HO424.out))) (below_size hb_)); replace HO424 := am_ (Kd.S_elder' (sq_ HO424.out) (Kd.S_base ho0) hb); replace BK409 := am_ (blk_below (g := gb409) (o := .cells #[.int .u8 a0_0, .bool a0_1, .slice A0_2 l0_2.length c0_2, .int .u8 a0_3, .int .u8 a0_4, .int .u8 a0_5, .slice A0_6 l0_6.length c0_6] 38 (0, 0)) (bq_ BK409.out) hb); replace BK421 := am_ (blk_below (g := gb421) (o := .cells #[.int .i64 t410, .bool t411, .slice Ao19 t412.length co19] 24 (0, 0)) (bq_ BK421.out) hb); replace HB := am_ (below_step hb_ hb); (try clear hb); (try clear hb2); (try clear hk); (try clear hi); (try clear ho0); have hcz24_0 : w23.cell? ⟨gb421, 0, none⟩ = some (.int .i64 t410) := (blk_cell BK421.out 0).trans rfl; have hcz24_1 : w23.cell? ⟨gb421, 1, none⟩ = some (.bool t411) := (blk_cell BK421.out 1).trans rfl; have hcz24_2 : w23.cell? ⟨gb421, 2, none⟩ = some (.slice Ao19 t412.length co19) := (blk_cell BK421.out 2).trans rfl; have hfz24_0 := blk_frozen BK421.out 0; have hfz24_1 := blk_frozen BK421.out 1; have hfz24_2 := blk_frozen BK421.out 2) | ((with_reducible refine gate_callee (f := 15) rfl ?_); refine goesL_ (some 48) rfl rfl Try.func15 (by kernel_rfl) rfl #[.agg #[.int .i64 t410, .bool t411, .slice Ao19 t412.length co19], .int .i64 t415, .int .i64 t416, .int .i64 t417, .slice Ao20 t418.length co20] rfl mt_ ?_; (with_reducible refine (plan_Check.calls k t410 t411 _ _ t412 t415 t416 t417 _ _ t418 t430 t431 _ ?side1 ?side2 ?side3 ?side4 A5.out).mono ?_); (case side1 => repeat (first | exact (Kd.R_reads' HO414.out).2.2 | (with_reducible refine Kd.C_alloc ?_ _) | (with_reducible refine Kd.C_drewN ?_ _) | (with_reducible refine Kd.C_drew ?_))); (case side2 => exact (Kd.R_reads' HO414.out).2.1); (case side3 => repeat (first | exact (Kd.R_reads' HO420.out).2.2 | (with_reducible refine Kd.C_alloc ?_ _) | (with_reducible refine Kd.C_drewN ?_ _) | (with_reducible refine Kd.C_drew ?_))); (case side4 => exact (Kd.R_reads' HO420.out).2.1); rintro e w25 ⟨rfl, hb⟩; refine ⟨_, rfl, ?_⟩; replace HO414 := am_ (Kd.R_below (rq_ HO414.out) hb); replace HO420 := am_ (Kd.R_below (rq_ HO420.out) hb); replace HO424 := am_ (Kd.S_below (sq_ HO424.out) hb); replace HO428 := am_ (Kd.S_below (sq_ HO428.out) hb); replace BK409 := am_ (blk_below (g := gb409) (o := .cells #[.int .u8 a0_0, .bool a0_1, .slice A0_2 l0_2.length c0_2, .int .u8 a0_3, .int .u8 a0_4, .int .u8 a0_5, .slice A0_6 l0_6.length c0_6] 38 (0, 0)) (bq_ BK409.out) hb); replace BK421 := am_ (blk_below (g := gb421) (o := .cells #[.int .i64 t410, .bool t411, .slice Ao19 t412.length co19] 24 (0, 0)) (bq_ BK421.out) hb); replace HB := am_ (below_step hb_ hb); (try clear hb); (try clear hb2); (try clear hk); (try clear hi); have hcz26_0 : w25.cell? ⟨gb421, 0, none⟩ = some (.int .i64 t410) := (blk_cell BK421.out 0).trans rfl; have hcz26_1 : w25.cell? ⟨gb421, 1, none⟩ = some (.bool t411) := (blk_cell BK421.out 1).trans rfl; have hcz26_2 : w25.cell? ⟨gb421, 2, none⟩ = some (.slice Ao19 t412.length co19) := (blk_cell BK421.out 2).trans rfl; have hfz26_0 := blk_frozen BK421.out 0; have hfz26_1 := blk_frozen BK421.out 1; have hfz26_2 := blk_frozen BK421.out 2) | ((with_reducible refine gate_callee (f := 16) rfl ?_); refine goesL_ (some 57) rfl rfl Try.func16 (by kernel_rfl) rfl #[.agg #[.int .i64 t410, .bool t411, .slice Ao19 t412.length co19], .int .i64 t415, .int .i64 t416, .int .i64 t417, .slice Ao20 t418.length co20] rfl mt_ ?_; (with_reducible refine (ebbtideref14_Check.calls k t410 t411 _ _ t412 t415 t416 t417 _ _ t418 t432 t433 _ ?side1 ?side2 ?side3 ?side4 A6.out).mono ?_); (case side1 => repeat (first | exact (Kd.R_reads' HO414.out).2.2 | (with_reducible refine Kd.C_alloc ?_ _) | (with_reducible refine Kd.C_drewN ?_ _) | (with_reducible refine Kd.C_drew ?_))); (case side2 => exact (Kd.R_reads' HO414.out).2.1); (case side3 => repeat (first | exact (Kd.R_reads' HO420.out).2.2 | (with_reducible refine Kd.C_alloc ?_ _) | (with_reducible refine Kd.C_drewN ?_ _) | (with_reducible refine Kd.C_drew ?_))); (case side4 => exact (Kd.R_reads' HO420.out).2.1); rintro e w27 ⟨rfl, hb⟩; refine ⟨_, rfl, ?_⟩; replace HO414 := am_ (Kd.R_below (rq_ HO414.out) hb); replace HO420 := am_ (Kd.R_below (rq_ HO420.out) hb); replace HO424 := am_ (Kd.S_below (sq_ HO424.out) hb); replace HO428 := am_ (Kd.S_below (sq_ HO428.out) hb); replace BK409 := am_ (blk_below (g := gb409) (o := .cells #[.int .u8 a0_0, .bool a0_1, .slice A0_2 l0_2.length c0_2, .int .u8 a0_3, .int .u8 a0_4, .int .u8 a0_5, .slice A0_6 l0_6.length c0_6] 38 (0, 0)) (bq_ BK409.out) hb); replace BK421 := am_ (blk_below (g := gb421) (o := .cells #[.int .i64 t410, .bool t411, .slice Ao19 t412.length co19] 24 (0, 0)) (bq_ BK421.out) hb); replace HB := am_ (below_step hb_ hb); (try clear hb); (try clear hb2); (try clear hk); (try clear hi)) | ((with_reducible refine gate_callee (f := 10) rfl ?_); refine goesL_ (some 60) rfl rfl Try.func10 (by kernel_rfl) rfl #[] rfl mt_ ?_; (with_reducible refine (ebbtidelaw14_awake.calls k  true _ A7.out).mono ?_); rintro e w28 ⟨rfl, hb⟩; refine ⟨_, rfl, ?_⟩; replace HO414 := am_ (Kd.R_below (rq_ HO414.out) hb); replace HO420 := am_ (Kd.R_below (rq_ HO420.out) hb); replace HO424 := am_ (Kd.S_below (sq_ HO424.out) hb); replace HO428 := am_ (Kd.S_below (sq_ HO428.out) hb); replace BK409 := am_ (blk_below (g := gb409) (o := .cells #[.int .u8 a0_0, .bool a0_1, .slice A0_2 l0_2.length c0_2, .int .u8 a0_3, .int .u8 a0_4, .int .u8 a0_5, .slice A0_6 l0_6.length c0_6] 38 (0, 0)) (bq_ BK409.out) hb); replace BK421 := am_ (blk_below (g := gb421) (o := .cells #[.int .i64 t410, .bool t411, .slice Ao19 t412.length co19] 24 (0, 0)) (bq_ BK421.out) hb); replace HB := am_ (below_step hb_ hb); (try clear hb); (try clear hb2); (try clear hk); (try clear hi); obtain ⟨Ao29, co29, eo29⟩ := Kd.S_slice HO424.out; subst eo29; obtain ⟨Ao30, co30, eo30⟩ := Kd.S_slice HO428.out; subst eo30) | (go_at_call 13; (with_reducible refine (ebbtideref06_Same.calls k _ _ t422 _ _ t426 true _ ?side1 ?side2 ?side3 ?side4 A9.out).mono ?_); (case side1 => repeat (first | exact (Kd.S_reads' HO424.out).2.2 | (with_reducible refine Kd.C_alloc ?_ _) | (with_reducible refine Kd.C_drewN ?_ _) | (with_reducible refine Kd.C_drew ?_))); (case side2 => exact (Kd.S_reads' HO424.out).2.1); (case side3 => repeat (first | exact (Kd.S_reads' HO428.out).2.2 | (with_reducible refine Kd.C_alloc ?_ _) | (with_reducible refine Kd.C_drewN ?_ _) | (with_reducible refine Kd.C_drew ?_))); (case side4 => exact (Kd.S_reads' HO428.out).2.1); rintro e w' ⟨rfl, ⟨nd, rfl⟩⟩))
     go_ret
     exact ⟨by first | rfl | (simp [errW_none, errW_some] <;> rfl) | (simp [*, errW_none, errW_some] <;> rfl), by repeat (first | (with_reducible first | exact HB.out | apply below_alloc | apply pw_below_drewN | apply below_drew1 | refine below_set ?_ GE409.out | refine below_set ?_ GE421.out) | exact HB.out)⟩
    ·rw [if_neg c12] at H
     have c12b0 : (t430 == t432) = false := beq_eq_false_iff_ne.mpr c12; have c12b1 : (t430 != t432) = true := bne_iff_ne.mpr c12; exact absurd ((Option.some.inj H).trans HRT.out) (by decide)
   ·rw [if_neg c11] at H
    have c11b0 : (t425 == t429) = false := beq_eq_false_iff_ne.mpr c11; have c11b1 : (t425 != t429) = true := bne_iff_ne.mpr c11; exact absurd ((Option.some.inj H).trans HRT.out) (by decide)
  ·replace c10 := Bool.eq_false_iff.mpr c10
   subst c10
   have H1 : (some false) = some r := by rw [if_neg (show ¬ (false = true) by decide)] at H; exact H
   clear H; have H := H1; clear H1; exact absurd ((Option.some.inj H).trans HRT.out) (by decide)
 ·replace c8 := Bool.eq_false_iff.mpr c8
  subst c8
  have H1 : (some false) = some r := by rw [if_neg (show ¬ (false = true) by decide)] at H; exact H
  clear H; have H := H1; clear H1; exact absurd ((Option.some.inj H).trans HRT.out) (by decide)
end Go.Proofs.Ytdghehebkalbgaa.Q
end
section
namespace Go.Proofs.Ytdghehebkalbgaa.R
open Go.RowKit Go.Proofs.Ytdghehebkalbgaa.Q Go.Proofs.YtdghehebkalbgaaW.PrintWords Go.Proofs.YtdghehebkalbgaaW.PrintLast Go.Proofs.YtdghehebkalbgaaW.PrintMore
def PlanSmall.Pure : Prop := ∀ N0 : Nat, ∀ (x0 : S38), g38 N0 x0 → ∃ k, ebbtidelaw14_PlanSmall.f k x0.f0.f0 x0.f0.f1 x0.f0.f2 x0.f0.f3 x0.f0.f4 x0.f0.f5 x0.f1 = some true
end Go.Proofs.Ytdghehebkalbgaa.R
end
section
namespace Go.Proofs.Ytdghehebkalbgaa.Pure
open Go.RowKit Go.Proofs.Ytdghehebkalbgaa.Q Go.Proofs.Ytdghehebkalbgaa.P Go.Proofs.YtdghehebkalbgaaW.PrintWords Go.Proofs.YtdghehebkalbgaaW.PrintLast Go.Proofs.YtdghehebkalbgaaW.PrintMore
open Go.Proofs.Ytdghehebkalbgaa.R
theorem PlanSmall : PlanSmall.Pure := by
  intro N0 x0 g
  apply Ev.rounds
  obtain ⟨n, arcs, s, t, h, l, hs, hr⟩ := read_ev x0 g
  have hlen := small_len hs
  have hl := small_ok hs
  unfold ebbtidelaw14_PlanSmall.f
  refine Ev.bind hr ?_
  refine Ev.bind (stocksP_ev hlen hl) (Ev.bind (stocksQ_ev hlen hl) (Ev.bind (checkP_ev hlen hl) (Ev.bind (checkQ_ev hlen hl) (Ev.bind awake14_ev ?_))))
  simp only [if_true]
  refine Ev.bind (same_ev _ SM_small.1 SM_small.2) ?_
  simp only [if_true, beq_self_eq_true]
  exact Ev.now _
end Go.Proofs.Ytdghehebkalbgaa.Pure
end
section
namespace Go.Proofs.Ytdghehebkalbgaa
open Go Go.RowKit
def ioHead : List Char := List.map Char.ofNat [104, 97, 114, 110, 101, 115, 115, 32, 101, 102, 52, 99, 51, 53, 52, 51, 51, 100, 55, 50, 52, 53, 100, 55, 48, 55, 54, 100, 51, 99, 50, 49, 98, 54, 54, 52, 52, 56, 49, 50, 97, 99, 57, 53, 98, 55, 99, 98, 55, 51, 55, 102, 101, 49, 102, 57, 51, 99, 52, 49, 98, 97, 49, 50, 50, 102, 54, 56, 56, 97, 98, 55, 32, 99, 117, 116, 32]
def ioRest : List Char := List.map Char.ofNat [97, 116, 32, 101, 98, 98, 116, 105, 100, 101, 47, 101, 98, 98, 116, 105, 100, 101, 108, 97, 119, 49, 52, 46, 80, 108, 97, 110, 83, 116, 111, 99, 107, 115, 32, 101, 98, 98, 116, 105, 100, 101, 47, 101, 98, 98, 116, 105, 100, 101, 108, 97, 119, 49, 52, 46, 80, 108, 97, 110, 83, 109, 97, 108, 108, 32, 101, 98, 98, 116, 105, 100, 101, 47, 101, 98, 98, 116, 105, 100, 101, 108, 97, 119, 49, 52, 46, 80, 108, 97, 110, 66, 97, 108, 97, 110, 99, 101, 115, 32, 101, 98, 98, 116, 105, 100, 101, 47, 101, 98, 98, 116, 105, 100, 101, 108, 97, 119, 49, 52, 46, 80, 108, 97, 110, 82, 105, 115, 101, 115, 32, 101, 98, 98, 116, 105, 100, 101, 47, 101, 98, 98, 116, 105, 100, 101, 108, 97, 119, 49, 52, 46, 80, 108, 97, 110, 77, 101, 114, 103, 101, 115, 32, 101, 98, 98, 116, 105, 100, 101, 47, 101, 98, 98, 116, 105, 100, 101, 108, 97, 119, 49, 52, 46, 80, 108, 97, 110, 67, 104, 101, 99, 107, 115, 32, 101, 98, 98, 116, 105, 100, 101, 47, 101, 98, 98, 116, 105, 100, 101, 108, 97, 119, 49, 52, 46, 80, 108, 97, 110, 83, 116, 105, 108, 108]
set_option maxRecDepth 100000 in
theorem io_eq : Try.pinned.checked.prog.initOrder = String.ofList (ioHead ++ ioRest) := by kernel_rfl
theorem io_toList : Try.pinned.checked.prog.initOrder.toList = ioHead ++ ioRest := by rw [io_eq]; exact String.toList_ofList
def ioCut : List Char := List.map Char.ofNat [99, 117, 116]
set_option maxRecDepth 100000 in
theorem io_words (r : List Char) : behindMainWord (wordsSigns (ioHead ++ r)) = ioCut :: wordsSigns r := by kernel_rfl
theorem io_behind : ∃ X, behindMainWord (wordsSigns Try.pinned.checked.prog.initOrder.toList) = ioCut :: X := ⟨_, by rw [io_toList]; exact io_words _⟩
theorem io_cut : ioCut = "cut".toList := by decide +kernel
theorem io_strip (X : List (List Char)) : stripLifts liftWords (ioCut :: X) = ([], ioCut :: X) := by kernel_rfl
theorem headLifts_cut (P : Program) (h : ∃ X, behindMainWord (wordsSigns P.initOrder.toList) = ioCut :: X) : P.headLifts = [] := by
  obtain ⟨X, e⟩ := h
  unfold Program.headLifts
  rw [e, io_strip]
  rfl
theorem mayEnter_cut (P : Program) (h : ∃ X, behindMainWord (wordsSigns P.initOrder.toList) = ioCut :: X) (h1 : P.laysLater = false) (h2 : P.bearsReflect = false) (h3 : P.doorFits [] = true) : P.mayEnter = true := by
  obtain ⟨X, e⟩ := h
  unfold Program.mayEnter
  rw [e]
  simp only [io_strip, h1, h2, h3]
  rw [io_cut]
  simp
theorem liftsFinal_cut (P : Program) (h : ∃ X, behindMainWord (wordsSigns P.initOrder.toList) = ioCut :: X) : P.liftsFinal = false := by
  have h0 := headLifts_cut P h
  obtain ⟨X, e⟩ := h
  unfold Program.liftsFinal
  rw [e, h0]
  rw [io_cut]
  simp
theorem make_cut (P : Program) (h : ∃ X, behindMainWord (wordsSigns P.initOrder.toList) = ioCut :: X) : P.make = some .cut := by
  obtain ⟨X, e⟩ := h
  unfold Program.make
  rw [e]
  simp only [io_cut]
  rw [if_neg (by decide +kernel), if_pos (by simp)]
theorem p_mayEnter : Try.pinned.checked.prog.mayEnter = true := mayEnter_cut _ io_behind (by kernel_rfl) (by kernel_rfl) (by kernel_rfl)
theorem p_liftsFinal : Try.pinned.checked.prog.liftsFinal = false := liftsFinal_cut _ io_behind
theorem p_make : Try.pinned.checked.prog.make = some .cut := make_cut _ io_behind
theorem p_laidOut : laidOutB Try.pinned.checked.prog = true := by kernel_rfl
theorem p_mapsRowed : mapsRowed Try.pinned.checked.prog = true := by kernel_rfl
theorem p_stopsHeard : Try.pinned.checked.prog.stopsHeard = true := by kernel_rfl
theorem p_stops : Try.pinned.checked.prog.stops = [] := by kernel_rfl
theorem p_stopKnobs : Try.pinned.checked.prog.stopKnobs = [] := by kernel_rfl
end Go.Proofs.Ytdghehebkalbgaa
end
section
namespace Go.Proofs.Ytdghehebkalbgaa.planSmall
open Go.ChangeShapes Go.WideShapes Go.ChangeAt Go.RowKit
open Go.ChangeMaps (open_string shut_string)
open Go.Proofs.Ytdghehebkalbgaa.Q Go.Proofs.Ytdghehebkalbgaa.R Go.Proofs.YtdghehebkalbgaaW.PrintWords
set_option linter.unusedVariables false
theorem own : ownKnob Try.prog.godebug = none := by kernel_rfl
theorem laidOut : laidOutB Try.prog = true := by kernel_rfl
theorem open38 {w : World} {x : S38} {cs : List Value} (h : k38.K w x cs) : ∃ (A2 : Option Addr) (c2 : Nat) (A6 : Option Addr) (c6 : Nat), cs = [.int .u8 x.f0.f0, .bool x.f0.f1, .slice A2 x.f0.f2.length c2, .int .u8 x.f0.f3, .int .u8 x.f0.f4, .int .u8 x.f0.f5, .slice A6 x.f1.length c6] ∧ x.f0.f2.length ≤ c2 ∧ Kd.C k70 w A2 x.f0.f2.length x.f0.f2 ∧ x.f1.length ≤ c6 ∧ Kd.C k63 w A6 x.f1.length x.f1 := by
  obtain ⟨_, _, rfl, ⟨_, _, rfl, rfl, ⟨_, _, rfl, rfl, ⟨_, _, rfl, ⟨A2, c2, rfl, l2, g2⟩, ⟨_, _, rfl, rfl, ⟨_, _, rfl, rfl, rfl⟩⟩⟩⟩⟩, ⟨A6, c6, rfl, l6, g6⟩⟩ := h
  exact ⟨A2, c2, A6, c6, rfl, l2, g2, l6, g6⟩
set_option maxRecDepth 100000 in
theorem lifted (os : Os) (started : os.Started) (H : Type) (enc : TypeId × Value → H) :
    ReturnsInHanded {} Try.checked os 4 .any (Rows.planSmallSpec.pre6 enc Try.prog Try.f4 Rows.planSmallRow.domain false) (Rows.planSmallSpec.post enc Try.prog Try.f4 false true false false) := by
  refine returnsInHanded_of_change_sized (C := Try.checked) own started (by kernel_rfl) Try.func4
    (ChangeSpec.witness6 (enc := enc) (C := Try.checked) false ⟨#[], #[.agg #[.int .u8 0, .bool false, .slice none 0 0, .int .u8 0, .int .u8 0, .int .u8 0, .slice none 0 0]], []⟩ 8 (by kernel_rfl) (by kernel_rfl) (by kernel_rfl) (by kernel_rfl)) ?_
  intro W base args ds gs before hval0 hW hcnd hsz0 _
  have hval : ∀ (j : Nat) t v, Try.f4.params[j]? = some t → args[j]? = some v → Value.okWide Try.prog W .any base t v := hval0
  have hW' := hW
  obtain ⟨p, q, hA0, hV, rfl, hfz, hnd⟩ := hW
  have hA : DataW.TrodAll enc Try.prog W 0 (fun _ => true) true Try.f4.params.toList args.toList ds p := hA0
  rw [Try.params4] at hA hval
  obtain ⟨v0, vs0, d0, ds0, p0, q0, hargs, rfl, rfl, h0, r0⟩ := trodAll_cons hA
  obtain ⟨rfl, rfl, rfl⟩ := trodAll_nil r0
  obtain rfl : args = #[v0] := by cases args; simp_all
  obtain ⟨rfl, rfl⟩ := trodVars_none hV
  have k0 := h0
  have lt0 : ∀ x ∈ p0, x.block < W.heap.size := by obtain ⟨m, hm⟩ := k0; exact DataW.trod_lt m _ _ _ hm
  obtain ⟨fu0, hf0⟩ := h0
  obtain ⟨x0, K0, G0⟩ := reads38 enc W 0 (fun _ => true) true fu0 _ _ hf0
  obtain ⟨cs0, rfl, hsz0⟩ := okWide_struct Try.underlying38 (hval 0 38 v0 rfl rfl)
  have K0' : (k38).K W x0 cs0.toList := K0
  obtain ⟨ao0_2, co0_2, ao0_6, co0_6, es0, hc0_2, hr0_2, hc0_6, hr0_6⟩ := open38 K0'
  obtain rfl : cs0 = _ := Array.toList_inj.1 es0
  have h := Pure.PlanSmall _ x0 (G0 _ (Nat.le_refl _))
  obtain ⟨k, h⟩ := h
  refine (ebbtidelaw14_PlanSmall.calls k x0.f0.f0 x0.f0.f1 _ _ x0.f0.f2 x0.f0.f3 x0.f0.f4 x0.f0.f5 _ _ x0.f1 true W hr0_2 hc0_2 hr0_6 hc0_6 h).mono fun e W' ⟨he, bel0⟩ => ?_
  have bel : Below W.heap.size W W' := bel0
  subst he
  exact ⟨_, rfl, _, _, _, [], _, [], hW', trodAll_mk1 (shut_bool Try.underlying4 _), (trodAll_cons_mk (Below.trod laidOut (by kernel_rfl) (of_decide_eq_true (by kernel_rfl)) k0 bel lt0) trodAll_mk0), rfl, bel.frame _, fun h => by cases h⟩
theorem andI {a b : Bool} (x : a = true) (y : b = true) : (a && b) = true := by rw [x, y]; rfl
set_option maxRecDepth 100000 in
set_option maxHeartbeats 8000000 in
theorem closed : joinedFacts Try.pinned.checked.prog 4 Try.f4 Rows.planSmallSpec Rows.planSmallRow = true := by
  unfold joinedFacts
  exact (andI (andI (andI (andI (andI (andI (andI (andI (andI (andI (andI (andI (andI (andI (andI (andI (andI (andI (andI (andI (andI (andI (andI (andI (andI (andI (andI (andI (andI (andI (andI (by as_aux_lemma => kernel_rfl)
    p_laidOut)
    p_mapsRowed)
    (by as_aux_lemma => kernel_rfl))
    (by as_aux_lemma => kernel_rfl))
    (by as_aux_lemma => kernel_rfl))
    (by rw [p_stops]; rfl))
    (by as_aux_lemma => kernel_rfl))
    (by rw [p_stopKnobs]; rfl))
    (by as_aux_lemma => kernel_rfl))
    (by as_aux_lemma => kernel_rfl))
    (by as_aux_lemma => kernel_rfl))
    (by as_aux_lemma => kernel_rfl))
    (by as_aux_lemma => kernel_rfl))
    (by as_aux_lemma => kernel_rfl))
    (by as_aux_lemma => kernel_rfl))
    (by as_aux_lemma => kernel_rfl))
    (by as_aux_lemma => kernel_rfl))
    (by as_aux_lemma => kernel_rfl))
    (by as_aux_lemma => kernel_rfl))
    (by as_aux_lemma => kernel_rfl))
    (by as_aux_lemma => kernel_rfl))
    (by as_aux_lemma => kernel_rfl))
    (by as_aux_lemma => kernel_rfl))
    p_stopsHeard)
    p_mayEnter)
    (by rw [p_liftsFinal]; rfl))
    (by rw [p_make]; rfl))
    (by as_aux_lemma => kernel_rfl))
    (by as_aux_lemma => kernel_rfl))
    (by as_aux_lemma => kernel_rfl))
    (by as_aux_lemma => kernel_rfl))
theorem proved : Rows.PlanSmallSaid :=
  OpenClaim.holds_of_wide 4 Try.f4 rfl rfl rfl rfl rfl rfl rfl ⟨rfl, rfl, rfl, rfl, rfl⟩ rfl rfl rfl rfl rfl (by kernel_rfl) Try.func4 closed
    (of_decide_eq_true (by kernel_rfl)) (by unfold Func.isWrapper; first | (rw [if_pos (by decide +kernel)]; kernel_rfl) | (rw [if_neg (by decide +kernel)]; exact ⟨rfl, rfl⟩))
    (fun os started H enc _ => lifted os started H enc)
#print axioms proved
end Go.Proofs.Ytdghehebkalbgaa.planSmall
namespace Go.Proofs.Ytdghehebkalbgaa
theorem planSmall_holds : Rows.PlanSmallSaid := planSmall.proved
end Go.Proofs.Ytdghehebkalbgaa
end
