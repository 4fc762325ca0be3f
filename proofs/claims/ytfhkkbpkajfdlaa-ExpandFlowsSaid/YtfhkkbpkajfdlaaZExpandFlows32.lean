/- A part of the proof: words, contracts, plain lemmas. Conditions: none. -/
import Derived.Test.YtfhkkbpkajfdlaaZExpandFlows13
import Derived.Test.YtfhkkbpkajfdlaaZExpandFlows30
import Derived.Test.YtfhkkbpkajfdlaaZExpandFlows31
import Derived.OpenShut
import Derived.Test.YtfhkkbpkajfdlaaZExpandFlows29
section
namespace Go.Proofs.Ytfhkkbpkajfdlaa.P
open Go.RowKit Go.Proofs.Ytfhkkbpkajfdlaa.Q Go.Proofs.YtfhkkbpkajfdlaaW.PrintWords Go.Proofs.YtfhkkbpkajfdlaaW.PrintLast Go.Proofs.YtfhkkbpkajfdlaaW.PrintMore
open Go.Proofs.Ytfhkkbpkajfdlaa.R
structure Small (n : Int) (arcs : List S54) (s t h : Int) (l : List S85) : Prop where
 two : 2 ≤ n ∧ n ≤ 5
 net : NetOk n arcs
 ends : 0 ≤ s ∧ s < n ∧ 0 ≤ t ∧ t < n ∧ s ≠ t
 hor : 0 ≤ h ∧ h ≤ 7
 len : l.length ≤ 30
 mv : ∀ m ∈ l, 0 ≤ m.f0 ∧ m.f0 < arcs.length ∧ 0 ≤ m.f1 ∧ m.f1 ≤ h ∧ 0 ≤ m.f2 ∧ m.f2 ≤ 3
theorem tm {a b : Int} (ha : 0 ≤ a) (hb : 0 < b) : 0 ≤ Int.tmod a b ∧ Int.tmod a b < b :=
 ⟨Int.tmod_nonneg b ha, Int.tmod_lt_of_pos a hb⟩
theorem wB {a : Int} (h0 : 0 ≤ a) (h1 : a ≤ 1000) : wrap64 a = a := by unfold wrap64; omega
def sE (n a3 : Int) : Int := Int.tmod (wrap64 a3) n
def tE (n a3 a4 : Int) : Int := Int.tmod (wrap64 (wrap64 (sE n a3 + 1) + Int.tmod (wrap64 a4) (wrap64 (n - 1)))) n
def hE (a5 : Int) : Int := Int.tmod (wrap64 a5) 8
theorem ends_ok {n a3 a4 : Int} (hn : 2 ≤ n ∧ n ≤ 5) (h3 : 0 ≤ a3 ∧ a3 ≤ 255) (h4 : 0 ≤ a4 ∧ a4 ≤ 255) : 0 ≤ sE n a3 ∧ sE n a3 < n ∧ 0 ≤ tE n a3 a4 ∧ tE n a3 a4 < n ∧ sE n a3 ≠ tE n a3 a4 := by
 have hs : 0 ≤ sE n a3 ∧ sE n a3 < n := by unfold sE; rw [wB h3.1 (by omega)]; exact tm h3.1 (by omega)
 have e : tE n a3 a4 = Int.tmod (sE n a3 + 1 + Int.tmod a4 (n - 1)) n := by
  unfold tE
  rw [wB h4.1 (by omega), wB (a := n - 1) (by omega) (by omega), wB (a := sE n a3 + 1) (by omega) (by omega)]
  have hq := tm (a := a4) (b := n - 1) h4.1 (by omega)
  rw [wB (by omega) (by omega)]
 have hq := tm (a := a4) (b := n - 1) h4.1 (by omega)
 rw [e]
 generalize sE n a3 = s at *
 generalize Int.tmod a4 (n - 1) = q at *
 have ht := tm (a := s + 1 + q) (b := n) (by omega) (by omega)
 refine ⟨hs.1, hs.2, ht.1, ht.2, ?_⟩
 rw [Int.tmod_eq_emod_of_nonneg (by omega)]
 have h5 : n = 2 ∨ n = 3 ∨ n = 4 ∨ n = 5 := by omega
 rcases h5 with rfl | rfl | rfl | rfl <;> omega
theorem rdB_of {l : List S80} {i : Nat} (h : i < l.length) : rd_T80 l (i : Int) = l[i] := by unfold rd_T80; simp [List.getD_eq_getElem?_getD, List.getElem?_eq_getElem h]
theorem rdC_of {l : List S96} {i : Nat} (h : i < l.length) : rd_T96 l (i : Int) = l[i] := by unfold rd_T96; simp [List.getD_eq_getElem?_getD, List.getElem?_eq_getElem h]
theorem read12_loop {n : Int} (m : Nat) (hm : m ≤ 8) (hn : 2 ≤ n ∧ n ≤ 5) (b : Bool) (l : List S80) (hl : ∀ x ∈ l, (0 ≤ x.f0 ∧ x.f0 ≤ 255) ∧ (0 ≤ x.f1 ∧ x.f1 ≤ 255) ∧ (0 ≤ x.f2 ∧ x.f2 ≤ 255) ∧ (0 ≤ x.f3 ∧ x.f3 ≤ 255)) (a0 a3 a4 a5 : Int) (d : Nat) :
 ∀ (i : Nat) (A : List S54), i + d = m → A.length ≤ i → (∀ a ∈ A, ArcOk n a ∧ a.f2 ≤ 5) → ∃ arcs : List S54, arcs.length ≤ m ∧ (∀ a ∈ arcs, ArcOk n a ∧ a.f2 ≤ 5) ∧ Ev (fun k => ebbtidelaw12_Read.l0 k (m : Int) (i : Int) a0 b l a3 a4 a5 n b A) (n, b, arcs, sE n a3, tE n a3 a4, hE a5) := by
 have hn0 : ¬ n = 0 := by omega
 have hn1 : ¬ wrap64 (n - 1) = 0 := by rw [wB (by omega) (by omega)]; omega
 induction d with
 | zero =>
  intro i A hi hA hok
  refine ⟨A, by omega, hok, ev_cst fun k => ?_⟩
  rw [ebbtidelaw12_Read.l0, if_neg (show ¬ (i : Int) < (m : Int) by omega), if_neg hn0, if_neg hn1, ite_self]
  rfl
 | succ d ih =>
  intro i A hi hA hok
  by_cases c : i < l.length
  ·have hx := hl l[i] (List.getElem_mem c)
   have e0 := tm (a := l[i].f0) (b := n) hx.1.1 (by omega)
   have e1 := tm (a := l[i].f1) (b := n) hx.2.1.1 (by omega)
   have e2 := tm (a := l[i].f2) (b := 6) hx.2.2.1.1 (by omega)
   have e3 := tm (a := l[i].f3) (b := 4) hx.2.2.2.1 (by omega)
   obtain ⟨arcs, h1, h2, h3⟩ := ih (i + 1) (A ++ [(⟨Int.tmod l[i].f0 n, Int.tmod l[i].f1 n, Int.tmod l[i].f2 6, Int.tmod l[i].f3 4⟩ : S54)]) (by omega) (by simp; omega) (fun a ha => by
    rcases List.mem_append.1 ha with ha | ha
    ·exact hok a ha
    ·rw [List.mem_singleton.1 ha]
     exact ⟨⟨e0, e1, by show 0 ≤ Int.tmod _ _ ∧ Int.tmod _ _ ≤ _; omega, by show 0 ≤ Int.tmod _ _ ∧ Int.tmod _ _ ≤ _; omega⟩, by show Int.tmod _ _ ≤ 5; omega⟩)
   refine ⟨arcs, h1, h2, Ev.step (fun k => ?_) h3⟩
   rw [ebbtidelaw12_Read.l0, if_pos (by omega), if_pos (by omega), if_pos (by omega), if_neg hn0, if_pos (by omega), rdB_of c, wB hx.1.1 (by omega), wB hx.2.1.1 (by omega), wB hx.2.2.1.1 (by omega), wB hx.2.2.2.1 (by omega), wrap1 (by omega)]
  ·refine ⟨A, by omega, hok, ev_cst fun k => ?_⟩
   rw [ebbtidelaw12_Read.l0, if_neg (by omega), if_neg hn0, if_neg hn1]
   rfl
theorem read14_loop {n : Int} (b b' : Bool) (arcs : List S54) (s t h : Int) (hh : 0 ≤ h ∧ h ≤ 7) (ha : arcs.length ≤ 8) (lb : List S80) (l : List S96) (hl : ∀ x ∈ l, (0 ≤ x.f0 ∧ x.f0 ≤ 255) ∧ (0 ≤ x.f1 ∧ x.f1 ≤ 255) ∧ (0 ≤ x.f2 ∧ x.f2 ≤ 255)) (a0 a3 a4 a5 : Int) (d : Nat) :
 ∀ (i : Nat) (A : List S85), i + d = 30 → A.length ≤ i → (∀ m ∈ A, 0 ≤ m.f0 ∧ m.f0 < arcs.length ∧ 0 ≤ m.f1 ∧ m.f1 ≤ h ∧ 0 ≤ m.f2 ∧ m.f2 ≤ 3) →
 ∃ L : List S85, L.length ≤ 30 ∧ (∀ m ∈ L, 0 ≤ m.f0 ∧ m.f0 < arcs.length ∧ 0 ≤ m.f1 ∧ m.f1 ≤ h ∧ 0 ≤ m.f2 ∧ m.f2 ≤ 3) ∧ Ev (fun k => ebbtidelaw14_Read.l0 k s t h A (i : Int) a0 b' lb a3 a4 a5 l n b arcs) (n, b, arcs, s, t, h, L) := by
 induction d with
 | zero =>
  intro i A hi hA hok
  refine ⟨A, by omega, hok, ev_cst fun k => ?_⟩
  rw [ebbtidelaw14_Read.l0, if_neg (show ¬ (i : Int) < 30 by omega), ite_self]
 | succ d ih =>
  intro i A hi hA hok
  by_cases c : i < l.length
  ·by_cases c2 : (arcs.length : Int) > 0
   ·have hx := hl l[i] (List.getElem_mem c)
    have e0 := tm (a := l[i].f0) (b := (arcs.length : Int)) hx.1.1 (by omega)
    have e1 := tm (a := l[i].f1) (b := h + 1) hx.2.1.1 (by omega)
    have e2 := tm (a := l[i].f2) (b := 4) hx.2.2.1 (by omega)
    have ew : wrap64 (h + 1) = h + 1 := wB (by omega) (by omega)
    obtain ⟨L, h1, h2, h3⟩ := ih (i + 1) (A ++ [(⟨Int.tmod l[i].f0 (arcs.length : Int), Int.tmod l[i].f1 (h + 1), Int.tmod l[i].f2 4⟩ : S85)]) (by omega) (by simp; omega) (fun a ha => by
     rcases List.mem_append.1 ha with ha | ha
     ·exact hok a ha
     ·rw [List.mem_singleton.1 ha]
      exact ⟨e0.1, e0.2, e1.1, by show Int.tmod _ _ ≤ _; omega, e2.1, by show Int.tmod _ _ ≤ _; omega⟩)
    refine ⟨L, h1, h2, Ev.step (fun k => ?_) h3⟩
    rw [ebbtidelaw14_Read.l0, if_pos (by omega), if_pos (by omega), if_pos c2, if_pos (by omega), if_neg (by omega), ew, if_neg (by omega), if_pos (by omega), rdC_of c, wB hx.1.1 (by omega), wB hx.2.1.1 (by omega), wB hx.2.2.1 (by omega), wrap1 (by omega)]
   ·refine ⟨A, by omega, hok, ev_cst fun k => ?_⟩
    rw [ebbtidelaw14_Read.l0, if_pos (by omega), if_pos (by omega), if_neg c2]
  ·refine ⟨A, by omega, hok, ev_cst fun k => ?_⟩
   rw [ebbtidelaw14_Read.l0, if_neg (by omega)]
structure SmallN (m : Nat) (n : Int) (arcs : List S54) (s t h : Int) : Prop where
 two : 2 ≤ n ∧ n ≤ 5
 net : NetOk n arcs
 ends : 0 ≤ s ∧ s < n ∧ 0 ≤ t ∧ t < n ∧ s ≠ t
 hor : 0 ≤ h ∧ h ≤ 7
 len : arcs.length ≤ m
 cap : ∀ a ∈ arcs, a.f2 ≤ 5
theorem read12_ev {N : Nat} (m : Nat) (hm : m ≤ 8) (x : S41) (g : g41 N x) : ∃ (n : Int) (arcs : List S54) (s t h : Int), SmallN m n arcs s t h ∧
 Ev (fun k => ebbtidelaw12_Read.f k x.f0 x.f1 x.f2 x.f3 x.f4 x.f5 (m : Int)) (n, x.f1, arcs, s, t, h) := by
 obtain ⟨g0, _, g2, g3, g4, g5⟩ := g
 have b0 := Go.bounds_u8 g0
 have b3 := Go.bounds_u8 g3
 have b4 := Go.bounds_u8 g4
 have b5 := Go.bounds_u8 g5
 have e4 := tm (a := x.f0) (b := 4) b0.1 (by omega)
 have en : wrap64 (2 + Int.tmod (wrap64 x.f0) 4) = 2 + Int.tmod x.f0 4 := by rw [wB b0.1 (by omega), wB (by omega) (by omega)]
 have hn : 2 ≤ 2 + Int.tmod x.f0 4 ∧ 2 + Int.tmod x.f0 4 ≤ 5 := by omega
 have hh : 0 ≤ hE x.f5 ∧ hE x.f5 ≤ 7 := by
  have e := tm (a := x.f5) (b := 8) b5.1 (by omega)
  unfold hE
  rw [wB b5.1 (by omega)]
  omega
 obtain ⟨arcs, h1, h2, h3⟩ := read12_loop m hm hn x.f1 x.f2 (fun y hy => ⟨Go.bounds_u8 (g2.2.2 y hy).1, Go.bounds_u8 (g2.2.2 y hy).2.1, Go.bounds_u8 (g2.2.2 y hy).2.2.1, Go.bounds_u8 (g2.2.2 y hy).2.2.2⟩) x.f0 x.f3 x.f4 x.f5 m 0 [] (by omega) (Nat.le_refl _) (fun a ha => by cases ha)
 refine ⟨_, arcs, _, _, _, ⟨hn, ⟨by omega, by omega, by omega, fun a ha => (h2 a ha).1⟩, ends_ok hn b3 b4, hh, h1, fun a ha => (h2 a ha).2⟩, ?_⟩
 unfold ebbtidelaw12_Read.f
 rw [en]
 exact h3
theorem read_ev {N : Nat} (x : S60) (g : g60 N x) : ∃ (n : Int) (arcs : List S54) (s t h : Int) (l : List S85), Small n arcs s t h l ∧
 Ev (fun k => ebbtidelaw14_Read.f k x.f0.f0 x.f0.f1 x.f0.f2 x.f0.f3 x.f0.f4 x.f0.f5 x.f1) (n, x.f0.f1, arcs, s, t, h, l) := by
 obtain ⟨g0, g6⟩ := g
 obtain ⟨n, arcs, s, t, h, hs, hr⟩ := read12_ev 8 (Nat.le_refl _) x.f0 g0
 obtain ⟨L, k1, k2, k3⟩ := read14_loop (n := n) x.f0.f1 x.f0.f1 arcs s t h hs.hor hs.len x.f0.f2 x.f1 (fun y hy => ⟨Go.bounds_u8 (g6.2.2 y hy).1, Go.bounds_u8 (g6.2.2 y hy).2.1, Go.bounds_u8 (g6.2.2 y hy).2.2⟩) x.f0.f0 x.f0.f3 x.f0.f4 x.f0.f5 30 0 [] (by omega) (Nat.le_refl _) (fun a ha => by cases ha)
 refine ⟨n, arcs, s, t, h, L, ⟨hs.two, hs.net, hs.ends, hs.hor, k1, k2⟩, ?_⟩
 unfold ebbtidelaw14_Read.f
 exact Ev.bind (a := (n, x.f0.f1, arcs, s, t, h)) hr k3
end Go.Proofs.Ytfhkkbpkajfdlaa.P
end
section
namespace Go.Proofs.Ytfhkkbpkajfdlaa.P
open Go.RowKit Go.Proofs.Ytfhkkbpkajfdlaa.Q Go.Proofs.YtfhkkbpkajfdlaaW.PrintWords Go.Proofs.YtfhkkbpkajfdlaaW.PrintLast Go.Proofs.YtfhkkbpkajfdlaaW.PrintMore
section
variable {n : Int} {arcs : List S54} {s t h : Int} {l : List S85} (hs : Small n arcs s t h l)
include hs
theorem small_len : l.length ≤ 1048576 := by have := hs.len; omega
theorem small_ok : ∀ x ∈ l, OkM x := fun x hx => by
 have h1 := hs.mv x hx
 have h2 := hs.net.len
 have h3 := hs.hor
 unfold OkM fits
 omega
end
section
variable {arcs : List S54} {s t h : Int} {M : List S85} (hm : ∀ m ∈ M, May arcs s t h m)
include hm
end
theorem planR_ok {hold : Bool} {n : Int} {arcs : List S54} {s t h : Int} {l : List S85} (k : (planR hold n arcs s t h l).2 = 0) :
 (mergedR n arcs s t h l).2 = 0 ∧ AllOk hold h s t (tH h) (tV n) (stk arcs (mergedR n arcs s t h l).1) ∧ planR hold n arcs s t h l = (stk arcs (mergedR n arcs s t h l).1 h.toNat t.toNat, 0) := by
 unfold planR at *
 by_cases c : (mergedR n arcs s t h l).2 = 0
 ·rw [if_pos c] at *
  by_cases c2 : AllOk hold h s t (tH h) (tV n) (stk arcs (mergedR n arcs s t h l).1)
  ·rw [if_pos c2]; exact ⟨c, c2, rfl⟩
  ·rw [if_neg c2] at k; cases k
 ·rw [if_neg c] at k; exact absurd k c
end Go.Proofs.Ytfhkkbpkajfdlaa.P
end
