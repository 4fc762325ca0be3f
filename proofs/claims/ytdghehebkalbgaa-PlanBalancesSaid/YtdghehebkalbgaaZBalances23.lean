/- Parts of the proof: words, plain functions and contracts of the law's functions. Conditions: none. -/
import Derived.Test.YtdghehebkalbgaaZBalances19
import Derived.Test.YtdghehebkalbgaaZBalances21
import Derived.Test.YtdghehebkalbgaaZBalances22
import Derived.Test.YtdghehebkalbgaaZBalances20
import Derived.OpenShut
section
namespace Go.Proofs.Ytdghehebkalbgaa.P
open Go.RowKit Go.Proofs.Ytdghehebkalbgaa.Q Go.Proofs.YtdghehebkalbgaaW.PrintWords Go.Proofs.YtdghehebkalbgaaW.PrintLast Go.Proofs.YtdghehebkalbgaaW.PrintMore
open Go.Proofs.Ytdghehebkalbgaa.R
structure Small (n : Int) (arcs : List S47) (s t h : Int) (l : List S45) : Prop where
  two : 2 ≤ n ∧ n ≤ 5
  net : NetOk n arcs
  ends : 0 ≤ s ∧ s < n ∧ 0 ≤ t ∧ t < n ∧ s ≠ t
  hor : 0 ≤ h ∧ h ≤ 7
  len : l.length ≤ 30
  mv : ∀ m ∈ l, 0 ≤ m.f0 ∧ m.f0 < arcs.length ∧ 0 ≤ m.f1 ∧ m.f1 ≤ h ∧ 0 ≤ m.f2 ∧ m.f2 ≤ 3
theorem tm {a b : Int} (ha : 0 ≤ a) (hb : 0 < b) : 0 ≤ Int.tmod a b ∧ Int.tmod a b < b :=
  ⟨Int.tmod_nonneg b ha, Int.tmod_lt_of_pos a hb⟩
theorem wB {a : Int} (h0 : 0 ≤ a) (h1 : a ≤ 1000) : wrap64 a = a := by unfold wrap64; omega
def sE (n a3 : Int) : Int := Int.tmod (wrap64 a3) n
def tE (n a3 a4 : Int) : Int := Int.tmod (wrap64 (wrap64 (sE n a3 + 1) + Int.tmod (wrap64 a4) (wrap64 (n - 1)))) n
def hE (a5 : Int) : Int := Int.tmod (wrap64 a5) 8
theorem ends_ok {n a3 a4 : Int} (hn : 2 ≤ n ∧ n ≤ 5) (h3 : 0 ≤ a3 ∧ a3 ≤ 255) (h4 : 0 ≤ a4 ∧ a4 ≤ 255) : 0 ≤ sE n a3 ∧ sE n a3 < n ∧ 0 ≤ tE n a3 a4 ∧ tE n a3 a4 < n ∧ sE n a3 ≠ tE n a3 a4 := by
  have hs : 0 ≤ sE n a3 ∧ sE n a3 < n := by unfold sE; rw [wB h3.1 (by omega)]; exact tm h3.1 (by omega)
  have e : tE n a3 a4 = Int.tmod (sE n a3 + 1 + Int.tmod a4 (n - 1)) n := by
    unfold tE
    rw [wB h4.1 (by omega), wB (a := n - 1) (by omega) (by omega), wB (a := sE n a3 + 1) (by omega) (by omega)]
    have hq := tm (a := a4) (b := n - 1) h4.1 (by omega)
    rw [wB (by omega) (by omega)]
  have hq := tm (a := a4) (b := n - 1) h4.1 (by omega)
  rw [e]
  generalize sE n a3 = s at *
  generalize Int.tmod a4 (n - 1) = q at *
  have ht := tm (a := s + 1 + q) (b := n) (by omega) (by omega)
  refine ⟨hs.1, hs.2, ht.1, ht.2, ?_⟩
  rw [Int.tmod_eq_emod_of_nonneg (by omega)]
  have h5 : n = 2 ∨ n = 3 ∨ n = 4 ∨ n = 5 := by omega
  rcases h5 with rfl | rfl | rfl | rfl <;> omega
theorem rdB_of {l : List S70} {i : Nat} (h : i < l.length) : rd_T70 l (i : Int) = l[i] := by unfold rd_T70; simp [List.getD_eq_getElem?_getD, List.getElem?_eq_getElem h]
theorem rdC_of {l : List S63} {i : Nat} (h : i < l.length) : rd_T63 l (i : Int) = l[i] := by unfold rd_T63; simp [List.getD_eq_getElem?_getD, List.getElem?_eq_getElem h]
theorem read12_loop {n : Int} (hn : 2 ≤ n ∧ n ≤ 5) (b : Bool) (l : List S70) (hl : ∀ x ∈ l, (0 ≤ x.f0 ∧ x.f0 ≤ 255) ∧ (0 ≤ x.f1 ∧ x.f1 ≤ 255) ∧ (0 ≤ x.f2 ∧ x.f2 ≤ 255) ∧ (0 ≤ x.f3 ∧ x.f3 ≤ 255)) (a0 a3 a4 a5 : Int) (d : Nat) :
    ∀ (i : Nat) (A : List S47), i + d = 8 → A.length ≤ i → (∀ a ∈ A, ArcOk n a) → ∃ arcs : List S47, arcs.length ≤ 8 ∧ (∀ a ∈ arcs, ArcOk n a) ∧ Ev (fun k => ebbtidelaw12_Read.l0 k 8 (i : Int) a0 b l a3 a4 a5 n b A) (n, b, arcs, sE n a3, tE n a3 a4, hE a5) := by
  have hn0 : ¬ n = 0 := by omega
  have hn1 : ¬ wrap64 (n - 1) = 0 := by rw [wB (by omega) (by omega)]; omega
  induction d with
  | zero =>
    intro i A hi hA hok
    refine ⟨A, by omega, hok, ev_cst fun k => ?_⟩
    rw [ebbtidelaw12_Read.l0, if_neg (show ¬ (i : Int) < 8 by omega), if_neg hn0, if_neg hn1, ite_self]
    rfl
  | succ d ih =>
    intro i A hi hA hok
    by_cases c : i < l.length
    · have hx := hl l[i] (List.getElem_mem c)
      have e0 := tm (a := l[i].f0) (b := n) hx.1.1 (by omega)
      have e1 := tm (a := l[i].f1) (b := n) hx.2.1.1 (by omega)
      have e2 := tm (a := l[i].f2) (b := 6) hx.2.2.1.1 (by omega)
      have e3 := tm (a := l[i].f3) (b := 4) hx.2.2.2.1 (by omega)
      obtain ⟨arcs, h1, h2, h3⟩ := ih (i + 1) (A ++ [(⟨Int.tmod l[i].f0 n, Int.tmod l[i].f1 n, Int.tmod l[i].f2 6, Int.tmod l[i].f3 4⟩ : S47)]) (by omega) (by simp; omega) (fun a ha => by
        rcases List.mem_append.1 ha with ha | ha
        · exact hok a ha
        · rw [List.mem_singleton.1 ha]
          exact ⟨e0, e1, by show 0 ≤ Int.tmod _ _ ∧ Int.tmod _ _ ≤ _; omega, by show 0 ≤ Int.tmod _ _ ∧ Int.tmod _ _ ≤ _; omega⟩)
      refine ⟨arcs, h1, h2, Ev.step (fun k => ?_) h3⟩
      rw [ebbtidelaw12_Read.l0, if_pos (by omega), if_pos (by omega), if_pos (by omega), if_neg hn0, if_pos (by omega), rdB_of c, wB hx.1.1 (by omega), wB hx.2.1.1 (by omega), wB hx.2.2.1.1 (by omega), wB hx.2.2.2.1 (by omega), wrap1 (by omega)]
    · refine ⟨A, by omega, hok, ev_cst fun k => ?_⟩
      rw [ebbtidelaw12_Read.l0, if_neg (by omega), if_neg hn0, if_neg hn1]
      rfl
theorem read14_loop {n : Int} (b b' : Bool) (arcs : List S47) (s t h : Int) (hh : 0 ≤ h ∧ h ≤ 7) (ha : arcs.length ≤ 8) (lb : List S70) (l : List S63) (hl : ∀ x ∈ l, (0 ≤ x.f0 ∧ x.f0 ≤ 255) ∧ (0 ≤ x.f1 ∧ x.f1 ≤ 255) ∧ (0 ≤ x.f2 ∧ x.f2 ≤ 255)) (a0 a3 a4 a5 : Int) (d : Nat) :
    ∀ (i : Nat) (A : List S45), i + d = 30 → A.length ≤ i → (∀ m ∈ A, 0 ≤ m.f0 ∧ m.f0 < arcs.length ∧ 0 ≤ m.f1 ∧ m.f1 ≤ h ∧ 0 ≤ m.f2 ∧ m.f2 ≤ 3) →
    ∃ L : List S45, L.length ≤ 30 ∧ (∀ m ∈ L, 0 ≤ m.f0 ∧ m.f0 < arcs.length ∧ 0 ≤ m.f1 ∧ m.f1 ≤ h ∧ 0 ≤ m.f2 ∧ m.f2 ≤ 3) ∧ Ev (fun k => ebbtidelaw14_Read.l0 k s t h A (i : Int) a0 b' lb a3 a4 a5 l n b arcs) (n, b, arcs, s, t, h, L) := by
  induction d with
  | zero =>
    intro i A hi hA hok
    refine ⟨A, by omega, hok, ev_cst fun k => ?_⟩
    rw [ebbtidelaw14_Read.l0, if_neg (show ¬ (i : Int) < 30 by omega), ite_self]
  | succ d ih =>
    intro i A hi hA hok
    by_cases c : i < l.length
    · by_cases c2 : (arcs.length : Int) > 0
      · have hx := hl l[i] (List.getElem_mem c)
        have e0 := tm (a := l[i].f0) (b := (arcs.length : Int)) hx.1.1 (by omega)
        have e1 := tm (a := l[i].f1) (b := h + 1) hx.2.1.1 (by omega)
        have e2 := tm (a := l[i].f2) (b := 4) hx.2.2.1 (by omega)
        have ew : wrap64 (h + 1) = h + 1 := wB (by omega) (by omega)
        obtain ⟨L, h1, h2, h3⟩ := ih (i + 1) (A ++ [(⟨Int.tmod l[i].f0 (arcs.length : Int), Int.tmod l[i].f1 (h + 1), Int.tmod l[i].f2 4⟩ : S45)]) (by omega) (by simp; omega) (fun a ha => by
          rcases List.mem_append.1 ha with ha | ha
          · exact hok a ha
          · rw [List.mem_singleton.1 ha]
            exact ⟨e0.1, e0.2, e1.1, by show Int.tmod _ _ ≤ _; omega, e2.1, by show Int.tmod _ _ ≤ _; omega⟩)
        refine ⟨L, h1, h2, Ev.step (fun k => ?_) h3⟩
        rw [ebbtidelaw14_Read.l0, if_pos (by omega), if_pos (by omega), if_pos c2, if_pos (by omega), if_neg (by omega), ew, if_neg (by omega), if_pos (by omega), rdC_of c, wB hx.1.1 (by omega), wB hx.2.1.1 (by omega), wB hx.2.2.1 (by omega), wrap1 (by omega)]
      · refine ⟨A, by omega, hok, ev_cst fun k => ?_⟩
        rw [ebbtidelaw14_Read.l0, if_pos (by omega), if_pos (by omega), if_neg c2]
    · refine ⟨A, by omega, hok, ev_cst fun k => ?_⟩
      rw [ebbtidelaw14_Read.l0, if_neg (by omega)]
theorem read_ev {N : Nat} (x : S38) (g : g38 N x) : ∃ (n : Int) (arcs : List S47) (s t h : Int) (l : List S45), Small n arcs s t h l ∧
    Ev (fun k => ebbtidelaw14_Read.f k x.f0.f0 x.f0.f1 x.f0.f2 x.f0.f3 x.f0.f4 x.f0.f5 x.f1) (n, x.f0.f1, arcs, s, t, h, l) := by
  obtain ⟨⟨g0, _, g2, g3, g4, g5⟩, g6⟩ := g
  have b0 := Go.bounds_u8 g0
  have b3 := Go.bounds_u8 g3
  have b4 := Go.bounds_u8 g4
  have b5 := Go.bounds_u8 g5
  have e4 := tm (a := x.f0.f0) (b := 4) b0.1 (by omega)
  have en : wrap64 (2 + Int.tmod (wrap64 x.f0.f0) 4) = 2 + Int.tmod x.f0.f0 4 := by rw [wB b0.1 (by omega), wB (by omega) (by omega)]
  have hn : 2 ≤ 2 + Int.tmod x.f0.f0 4 ∧ 2 + Int.tmod x.f0.f0 4 ≤ 5 := by omega
  have hh : 0 ≤ hE x.f0.f5 ∧ hE x.f0.f5 ≤ 7 := by
    have e := tm (a := x.f0.f5) (b := 8) b5.1 (by omega)
    unfold hE
    rw [wB b5.1 (by omega)]
    omega
  obtain ⟨arcs, h1, h2, h3⟩ := read12_loop hn x.f0.f1 x.f0.f2 (fun y hy => ⟨Go.bounds_u8 (g2.2.2 y hy).1, Go.bounds_u8 (g2.2.2 y hy).2.1, Go.bounds_u8 (g2.2.2 y hy).2.2.1, Go.bounds_u8 (g2.2.2 y hy).2.2.2⟩) x.f0.f0 x.f0.f3 x.f0.f4 x.f0.f5 8 0 [] (by omega) (Nat.le_refl _) (fun a ha => by cases ha)
  obtain ⟨L, k1, k2, k3⟩ := read14_loop (n := 2 + Int.tmod x.f0.f0 4) x.f0.f1 x.f0.f1 arcs (sE (2 + Int.tmod x.f0.f0 4) x.f0.f3) (tE (2 + Int.tmod x.f0.f0 4) x.f0.f3 x.f0.f4) (hE x.f0.f5) hh h1 x.f0.f2 x.f1 (fun y hy => ⟨Go.bounds_u8 (g6.2.2 y hy).1, Go.bounds_u8 (g6.2.2 y hy).2.1, Go.bounds_u8 (g6.2.2 y hy).2.2⟩) x.f0.f0 x.f0.f3 x.f0.f4 x.f0.f5 30 0 [] (by omega) (Nat.le_refl _) (fun a ha => by cases ha)
  refine ⟨_, arcs, _, _, _, L, ⟨hn, ⟨by omega, by omega, by omega, h2⟩, ends_ok hn b3 b4, hh, k1, k2⟩, ?_⟩
  unfold ebbtidelaw14_Read.f
  refine Ev.bind (a := (2 + Int.tmod x.f0.f0 4, x.f0.f1, arcs, sE (2 + Int.tmod x.f0.f0 4) x.f0.f3, tE (2 + Int.tmod x.f0.f0 4) x.f0.f3 x.f0.f4, hE x.f0.f5)) ?_ k3
  unfold ebbtidelaw12_Read.f
  rw [en]
  exact h3
end Go.Proofs.Ytdghehebkalbgaa.P
end
section
namespace Go.Proofs.Ytdghehebkalbgaa.P
open Go.RowKit Go.Proofs.Ytdghehebkalbgaa.Q Go.Proofs.YtdghehebkalbgaaW.PrintWords Go.Proofs.YtdghehebkalbgaaW.PrintLast Go.Proofs.YtdghehebkalbgaaW.PrintMore
section
variable {n : Int} {arcs : List S47} {s t h : Int} {l : List S45} (hs : Small n arcs s t h l)
include hs
theorem small_len : l.length ≤ 1048576 := by have := hs.len; omega
theorem small_ok : ∀ x ∈ l, OkM x := fun x hx => by
  have h1 := hs.mv x hx
  have h2 := hs.net.len
  have h3 := hs.hor
  unfold OkM fits
  omega
end
section
variable {arcs : List S47} {s t h : Int} {M : List S45} (hm : ∀ m ∈ M, May arcs s t h m)
include hm
theorem stk_late (hh : 0 ≤ h) {n : Int} (hn : NetOk n arcs) (v : Nat) : stk arcs M (h.toNat + 1) v = stk arcs M h.toNat v := by
  refine wsum_congr fun x hx => ?_
  have h1 := hm x hx
  have h2 := (arcAt_ok hn h1.a0 h1.a1).f3
  have h3 := h1.b1
  have e1 : (keyM x).1 = x.f0 := rfl
  have e2 : (keyM x).2 = x.f1 := rfl
  unfold cStk cIn cOut
  rw [e1, e2]
  generalize (arcAt arcs x.f0).f3 = q at *
  have d1 : x.f1 + q ≤ ((h.toNat + 1 : Nat) : Int) := by omega
  have d2 : x.f1 + q ≤ ((h.toNat : Nat) : Int) := by omega
  have d3 : x.f1 ≤ ((h.toNat + 1 : Nat) : Int) := by omega
  have d4 : x.f1 ≤ ((h.toNat : Nat) : Int) := by omega
  simp only [d1, d2, d3, d4, and_true]
end
theorem planR_ok {hold : Bool} {n : Int} {arcs : List S47} {s t h : Int} {l : List S45} (k : (planR hold n arcs s t h l).2 = 0) :
    (mergedR n arcs s t h l).2 = 0 ∧ AllOk hold h s t (tH h) (tV n) (stk arcs (mergedR n arcs s t h l).1) ∧ planR hold n arcs s t h l = (stk arcs (mergedR n arcs s t h l).1 h.toNat t.toNat, 0) := by
  unfold planR at *
  by_cases c : (mergedR n arcs s t h l).2 = 0
  · rw [if_pos c] at *
    by_cases c2 : AllOk hold h s t (tH h) (tV n) (stk arcs (mergedR n arcs s t h l).1)
    · rw [if_pos c2]; exact ⟨c, c2, rfl⟩
    · rw [if_neg c2] at k; cases k
  · rw [if_neg c] at k; exact absurd k c
theorem mergedR_later {n : Int} {arcs : List S47} {s t h : Int} {l : List S45} (k : (mergedR n arcs s t h l).2 = 0) (hh : h + 1 ≤ 1024) : mergedR n arcs s t (h + 1) l = mergedR n arcs s t h l ∧ mergedR n arcs s t h l = (mergeL l, 0) := by
  have ho := mergedR_ok k
  have h1 := ho.hor
  have a0 : askErr n arcs s t h = 0 := askErr_ok.2 ⟨ho.net, ho.ends.1, ho.ends.2.1, ho.ends.2.2.1, ho.ends.2.2.2.1, ho.ends.2.2.2.2, h1.1, h1.2⟩
  have a1 : askErr n arcs s t (h + 1) = 0 := askErr_ok.2 ⟨ho.net, ho.ends.1, ho.ends.2.1, ho.ends.2.2.1, ho.ends.2.2.2.1, ho.ends.2.2.2.2, by omega, hh⟩
  have m0 : AllMay arcs s t h (mergeL l) := by have := ho.may; rw [ho.is] at this; exact this
  have m1 : AllMay arcs s t (h + 1) (mergeL l) := fun m hm => by
    have h2 := m0 m hm
    exact ⟨h2.a0, h2.a1, h2.b0, h2.c0, by have := h2.b1; omega, h2.c1, h2.e1, h2.e0⟩
  have e0 : mergedR n arcs s t h l = (mergeL l, 0) := by unfold mergedR; rw [if_pos a0, if_pos ho.fit, if_pos m0]
  have e1 : mergedR n arcs s t (h + 1) l = (mergeL l, 0) := by unfold mergedR; rw [if_pos a1, if_pos ho.fit, if_pos m1]
  exact ⟨e1.trans e0.symm, e0⟩
theorem planR_later {hold : Bool} {n : Int} {arcs : List S47} {s t h : Int} {l : List S45} (k : (planR hold n arcs s t h l).2 = 0) (hh : h + 1 ≤ 1024) : planR hold n arcs s t (h + 1) l = planR hold n arcs s t h l := by
  obtain ⟨c, c2, e⟩ := planR_ok k
  have ho := mergedR_ok c
  obtain ⟨e1, -⟩ := mergedR_later c hh
  have h1 := ho.hor
  have et : (h + 1).toNat = h.toNat + 1 := by omega
  have hl := fun v => stk_late ho.may h1.1 ho.net v
  rw [e]
  unfold planR
  rw [e1, if_pos c]
  have hok : AllOk hold (h + 1) s t (tH (h + 1)) (tV n) (stk arcs (mergedR n arcs s t h l).1) := by
    intro u hu w hw hb
    unfold tH at hu
    rw [et] at hu
    by_cases c3 : u ≤ h.toNat
    · refine c2 u (by unfold tH; omega) w hw ⟨hb.1, hb.2.1, hb.2.2.imp id (fun h2 => ⟨h2.1, ?_⟩)⟩
      rcases h2.2 with h3 | h3
      · exact .inl h3
      · omega
    · have : u = h.toNat + 1 := by omega
      subst this
      refine c2 h.toNat (by unfold tH; omega) w hw ⟨hb.1, hb.2.1, ?_⟩
      unfold Bad at hb
      rw [hl] at hb
      exact hb.2.2.imp id (fun h2 => ⟨h2.1, .inr (by omega)⟩)
  rw [if_pos hok, et, hl]
def psum (f : Nat → Int) : Nat → Int
  | 0 => 0
  | v + 1 => psum f v + f v
theorem psum_congr {f g : Nat → Int} {V : Nat} (h : ∀ v, v < V → f v = g v) : psum f V = psum g V := by
  induction V with
  | zero => rfl
  | succ V ih => rw [psum, psum, ih (fun v hv => h v (by omega)), h V (by omega)]
theorem psum_add (f g : Nat → Int) (V : Nat) : psum (fun v => f v + g v) V = psum f V + psum g V := by
  induction V with
  | zero => rfl
  | succ V ih => rw [psum, psum, psum, ih]; omega
theorem psum_none (x : Nat) (p : Int) {V : Nat} (h : V ≤ x) : psum (fun v => if x = v then p else 0) V = 0 := by
  induction V with
  | zero => rfl
  | succ V ih => rw [psum, ih (by omega), if_neg (by omega)]; rfl
theorem psum_single (x : Nat) (p : Int) {V : Nat} (h : x < V) : psum (fun v => if x = v then p else 0) V = p := by
  induction V with
  | zero => omega
  | succ V ih =>
    rw [psum]
    by_cases c : x = V
    · rw [if_pos c, psum_none x p (by omega)]; omega
    · rw [if_neg c, ih (by omega)]; omega
theorem psum_wsum (c : Nat → Int × Int → Int) (M : List S45) (V : Nat) : psum (fun v => wsum (c v) M) V = wsum (fun k => psum (fun v => c v k) V) M := by
  induction V with
  | zero => exact (wsum_zero fun _ _ => rfl).symm
  | succ V ih =>
    rw [psum, ih, ← wsum_add]
    rfl
def cWay (arcs : List S47) (a : Int) (k : Int × Int) : Int := if k.2 ≤ a ∧ k.2 + (arcAt arcs k.1).f3 > a then 1 else 0
theorem all_nothing {n : Int} {arcs : List S47} {s t h : Int} {M : List S45} (hn : NetOk n arcs) (hm : ∀ m ∈ M, May arcs s t h m) (a : Nat) : wsum (cWay arcs (a : Int)) M + psum (stk arcs M a) (tV n) = 0 := by
  have e : psum (stk arcs M a) (tV n) = wsum (fun k => psum (fun v => cStk arcs (v : Int) (a : Int) k) (tV n)) M := psum_wsum (fun v => cStk arcs (v : Int) (a : Int)) M (tV n)
  rw [e, ← wsum_add]
  refine wsum_zero fun x hx => ?_
  have h1 := hm x hx
  have ho := arcAt_ok hn h1.a0 h1.a1
  have e1 : (keyM x).1 = x.f0 := rfl
  have e2 : (keyM x).2 = x.f1 := rfl
  have l0 := ho.f0
  have l1 := ho.f1
  have l3 := ho.f3
  obtain ⟨fr, hfr⟩ := Int.eq_ofNat_of_zero_le l0.1
  obtain ⟨tn, hto⟩ := Int.eq_ofNat_of_zero_le l1.1
  have e3 : psum (fun v => cStk arcs (v : Int) (a : Int) (keyM x)) (tV n) = (if x.f1 + (arcAt arcs x.f0).f3 ≤ (a : Int) then 1 else 0) + (if x.f1 ≤ (a : Int) then -1 else 0) := by
    rw [← psum_single tn (if x.f1 + (arcAt arcs x.f0).f3 ≤ (a : Int) then 1 else 0) (V := tV n) (by unfold tV; omega), ← psum_single fr (if x.f1 ≤ (a : Int) then -1 else 0) (V := tV n) (by unfold tV; omega), ← psum_add]
    refine psum_congr fun v _ => ?_
    unfold cStk cIn cOut
    rw [e1, e2, hfr, hto]
    have q1 : ((tn : Int) = (v : Int)) ↔ tn = v := by omega
    have q2 : ((fr : Int) = (v : Int)) ↔ fr = v := by omega
    simp only [q1, q2]
    by_cases c1 : tn = v <;> by_cases c2 : fr = v <;> by_cases c3 : x.f1 + (arcAt arcs x.f0).f3 ≤ (a : Int) <;> by_cases c4 : x.f1 ≤ (a : Int) <;> simp [c1, c2, c3, c4]
  rw [e3]
  unfold cWay
  rw [e1, e2]
  generalize (arcAt arcs x.f0).f3 = q at *
  (repeat' split) <;> omega
theorem psum_two {f : Nat → Int} {V s t : Nat} (hs : s < V) (ht : t < V) (hst : s ≠ t) (h : ∀ v, v < V → v ≠ s → v ≠ t → f v = 0) : psum f V = f s + f t := by
  rw [← psum_single s (f s) hs, ← psum_single t (f t) ht, ← psum_add]
  refine psum_congr fun v hv => ?_
  by_cases c1 : s = v
  · subst c1; rw [if_pos rfl, if_neg (by omega)]; omega
  · by_cases c2 : t = v
    · subst c2; rw [if_neg c1, if_pos rfl]; omega
    · rw [if_neg c1, if_neg c2, h v hv (by omega) (by omega)]; rfl
theorem source_left {hold : Bool} {n : Int} {arcs : List S47} {s t h : Int} {l : List S45} (k : (planR hold n arcs s t h l).2 = 0) :
    stk arcs (mergedR n arcs s t h l).1 h.toNat s.toNat = -(planR hold n arcs s t h l).1 := by
  obtain ⟨c, c2, e⟩ := planR_ok k
  have ho := mergedR_ok c
  have h1 := ho.hor
  obtain ⟨s0, s1, t0, t1, st⟩ := ho.ends
  have h2 := all_nothing ho.net ho.may h.toNat
  have h3 : wsum (cWay arcs ((h.toNat : Nat) : Int)) (mergedR n arcs s t h l).1 = 0 := wsum_zero fun x hx => by
    have := (ho.may x hx).b1
    unfold cWay
    rw [if_neg]
    rintro ⟨_, h5⟩
    have e1 : (keyM x).1 = x.f0 := rfl
    have e2 : (keyM x).2 = x.f1 := rfl
    rw [e1, e2] at h5
    omega
  have h4 := psum_two (f := stk arcs (mergedR n arcs s t h l).1 h.toNat) (V := tV n) (s := s.toNat) (t := t.toNat) (by unfold tV; omega) (by unfold tV; omega) (by omega) (fun v hv hvs hvt => by
    have h5 := c2 h.toNat (by unfold tH; omega) v hv
    apply Classical.byContradiction
    intro h6
    refine h5 ⟨by omega, by omega, ?_⟩
    rcases Int.lt_or_gt_of_ne h6 with h7 | h7
    · exact .inl h7
    · exact .inr ⟨h7, .inr (by omega)⟩)
  rw [e]
  show _ = -(stk arcs _ h.toNat t.toNat)
  omega
end Go.Proofs.Ytdghehebkalbgaa.P
end
