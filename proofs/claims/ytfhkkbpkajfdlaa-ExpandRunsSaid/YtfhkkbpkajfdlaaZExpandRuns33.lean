/- A part of the proof: words, contracts, plain lemmas. Conditions: none. -/
import Derived.Test.YtfhkkbpkajfdlaaZExpandRuns32
set_option linter.unusedSectionVars false
set_option linter.unusedSimpArgs false
set_option linter.unusedVariables false
section
namespace Go.Proofs.Ytfhkkbpkajfdlaa.P
open Go.RowKit Go.Proofs.Ytfhkkbpkajfdlaa.Q Go.Proofs.YtfhkkbpkajfdlaaW.PrintWords Go.Proofs.YtfhkkbpkajfdlaaW.PrintLast Go.Proofs.YtfhkkbpkajfdlaaW.PrintMore
theorem sm_swap {α β : Type} (g : α → β → Int) (R : List α) (L : List β) : sm (fun a => sm (g a) L) R = sm (fun p => sm (fun a => g a p) R) L := by
 induction R with
 | nil => exact (sm_zero fun _ _ => rfl).symm
 | cons a R ih =>
  rw [sm, ih, ← sm_add]
  rfl
section
variable {n : Int} {hold : Bool} {arcs : List S54} {s t h : Int} {f : List Int} (hn : NetOk n arcs) (he : 0 ≤ s ∧ s < n ∧ 0 ≤ t ∧ t < n ∧ s ≠ t) (hh : 0 ≤ h ∧ h ≤ 1024) (hf : Fits (gridArcs n h hold s t arcs) f) (hz : ∀ v, v ≠ (h + 1) * n → v ≠ (h + 1) * n + 1 → bal (gridArcs n h hold s t arcs) f v = 0)
include hn he hh hf
theorem fl_len : f.length = (gridKinds n h hold s t arcs).length := by rw [hf.len, gridKinds_length]
theorem fl_pos : ∀ i (hi : i < f.length), 0 ≤ f[i] := hf.lo
theorem fl_bal (v : Int) : bal (gridArcs n h hold s t arcs) f v = sm (con n h s arcs v) ((gridKinds n h hold s t arcs).zip f) := by
 unfold bal
 rw [arcs_all he.2.2.2.2, List.zip_map_left, sm_map]
 rfl
theorem fl_mem {p : S83 × Int} (hp : p ∈ (gridKinds n h hold s t arcs).zip f) : p.1 ∈ gridKinds n h hold s t arcs ∧ 0 ≤ p.2 := by
 obtain ⟨j, hj, e⟩ := List.getElem_of_mem hp
 rw [List.length_zip] at hj
 rw [List.getElem_zip] at e
 subst e
 exact ⟨List.getElem_mem _, hf.lo j (by omega)⟩
theorem wP_zero {p : S83 × Int} {u a : Int} (hp : p ∈ (gridKinds n h hold s t arcs).zip f) (c : u = s ∨ u = t ∨ a < 0 ∨ h ≤ a ∨ hold = false) : wP u a p = 0 := by
 unfold wP
 rw [if_neg]
 rintro ⟨h1, h2, h3⟩
 rcases kind_cases hh.1 (fl_mem hn he hh hf hp).1 with ⟨h0, hm⟩ | ⟨-, hw⟩ | ⟨h0, h1', -⟩
 ·have := hm.n1
  rw [this] at h1; cases h1
 ·have a0 := hw.a0
  have a1 := hw.a1
  rcases c with c | c | c | c | c
  ·exact hw.ns (h2.trans c)
  ·exact hw.nt (h2.trans c)
  ·omega
  ·omega
  ·have := hw.ho
   rw [c] at this; cases this
 ·rw [h1'] at h1; cases h1
theorem fl_may {m : S85} (hm : m ∈ toldL f (movesK (gridKinds n h hold s t arcs))) : May arcs s t h m ∧ 0 < m.f2 ∧ m.f2 ≤ 1048576 := by
 obtain ⟨i, h1, h2, h3⟩ := told_mem.1 hm
 obtain ⟨j, k, hj, h0, e⟩ := movesK_mem.1 h1
 simp only [Prod.mk.injEq] at e
 obtain ⟨⟨e1, e2⟩, rfl⟩ := e
 obtain ⟨hjl, ek⟩ := List.getElem?_eq_some_iff.1 hj
 have hl := fl_len hn he hh hf
 have hkm : k ∈ gridKinds n h hold s t arcs := ek ▸ List.getElem_mem hjl
 have hjA : j < (gridArcs n h hold s t arcs).length := by rw [← gridKinds_length]; exact hjl
 have hhi := hf.hi j (by omega) hjA
 have e2' : gridArcs n h hold s t arcs = (gridKinds n h hold s t arcs).map (arcAll n h s arcs) := arcs_all he.2.2.2.2
 simp only [e2', List.getElem_map, ek, arcAll_mv h0] at hhi
 rw [rdI_of (by omega)] at h2 h3
 rcases kind_cases hh.1 hkm with ⟨_, hk⟩ | ⟨_, hw⟩ | ⟨h0', _⟩
 ·have ha := arcAt_ok hn hk.i0 hk.i1
  have h5 := ha.f2
  refine ⟨⟨?_, ?_, ?_, ?_, ?_, ?_, ?_, ?_⟩, by omega, by omega⟩
  ·rw [e1]; exact hk.i0
  ·rw [e1]; exact hk.i1
  ·rw [e2]; exact hk.a0
  ·omega
  ·rw [e1, e2]; exact hk.a1
  ·rw [e1, h3]; exact hhi
  ·rw [e1]; exact hk.e1
  ·rw [e1]; exact hk.e0
 ·have := hw.n0
  rw [h0] at this; cases this
 ·rw [h0] at h0'; cases h0'
theorem fl_sorted : (toldL f (movesK (gridKinds n h hold s t arcs))).Pairwise mlt := by
 have hK : movesK (gridKinds n h hold s t arcs) = movesK (kindsB n h hold s t arcs (h.toNat + 1)) := by rw [← gridMoves_eq]; unfold gridMoves; rw [log1]
 rw [hK]
 exact told_sorted (movesK_sorted (kindsB_sorted _))
theorem fl_merged : mergedR n arcs s t h (toldL f (movesK (gridKinds n h hold s t arcs))) = (toldL f (movesK (gridKinds n h hold s t arcs)), 0) := by
 have hs := fl_sorted hn he hh hf
 have hm : ∀ m ∈ toldL f (movesK (gridKinds n h hold s t arcs)), May arcs s t h m ∧ 0 < m.f2 ∧ m.f2 ≤ 1048576 := fun m hm => fl_may hn he hh hf hm
 generalize toldL f (movesK (gridKinds n h hold s t arcs)) = M at hs hm
 have e : mergeL M = M := isMerge_unique (mergeL_is M) (merge_self hs (fun m h => by have := hm m h; omega))
 unfold mergedR
 rw [if_pos (askErr_ok.2 ⟨hn, he.1, he.2.1, he.2.2.1, he.2.2.2.1, he.2.2.2.2, hh.1, hh.2⟩), if_pos, e, if_pos]
 ·exact fun m h => (hm m h).1
 ·intro k hk
  obtain ⟨x, hx, e⟩ := (mem_keysOf _ _ _).1 hk
  rw [← e, msum_nodup (sorted_keys hs) hx]
  have := hm x hx
  unfold fits
  omega
theorem fl_told (c : Int × Int → Int) : wsum c (toldL f (movesK (gridKinds n h hold s t arcs))) = sm (mvP arcs c) ((gridKinds n h hold s t arcs).zip f) := told_sum arcs c (fl_len hn he hh hf) (fl_pos hn he hh hf)
include hz
theorem fl_cell {u a : Int} (hu : 0 ≤ u ∧ u < n) (ha : 0 ≤ a ∧ a ≤ h) : wsum (cNow arcs u a) (toldL f (movesK (gridKinds n h hold s t arcs))) = sm (wP u a) ((gridKinds n h hold s t arcs).zip f) - sm (wP u (a - 1)) ((gridKinds n h hold s t arcs).zip f) - (if u = s then sm (eP s a) ((gridKinds n h hold s t arcs).zip f) else 0) + (if u = t then sm (eP t a) ((gridKinds n h hold s t arcs).zip f) else 0) := by
 have hV : 0 < n := by omega
 have hlt := cell_lt (a := a) (b := h + 1) hV hu.2 (by omega)
 have hb := hz (a * n + u) (by omega) (by omega)
 rw [fl_bal hn he hh hf] at hb
 obtain ⟨s0, s1, t0, t1, st⟩ := he
 have he : 0 ≤ s ∧ s < n ∧ 0 ≤ t ∧ t < n ∧ s ≠ t := ⟨s0, s1, t0, t1, st⟩
 have e : ∀ p ∈ (gridKinds n h hold s t arcs).zip f, con n h s arcs (a * n + u) p = ((-mvP arcs (cNow arcs u a) p + wP u a p) + -wP u (a - 1) p) + ((-(if u = s then eP s a p else 0)) + (if u = t then eP t a p else 0)) := fun p hp => by
  rw [con_cell hn ⟨s0, s1⟩ ⟨t0, t1⟩ st hh.1 ha hu (fl_mem hn he hh hf hp).1]
  omega
 rw [sm_congr e, sm_add (f := fun p => (-mvP arcs (cNow arcs u a) p + wP u a p) + -wP u (a - 1) p) (g := fun p => (-(if u = s then eP s a p else 0)) + (if u = t then eP t a p else 0)),
  sm_add (f := fun p => -mvP arcs (cNow arcs u a) p + wP u a p) (g := fun p => -wP u (a - 1) p), sm_add (f := fun p => -mvP arcs (cNow arcs u a) p) (g := fun p => wP u a p),
  sm_neg (f := fun p => mvP arcs (cNow arcs u a) p), sm_neg (f := fun p => wP u (a - 1) p), ← fl_told hn he hh hf,
  sm_add (f := fun p => -(if u = s then eP s a p else 0)) (g := fun p => if u = t then eP t a p else 0), sm_neg (f := fun p => if u = s then eP s a p else 0)] at hb
 have hS : sm (fun p => if u = s then eP s a p else 0) ((gridKinds n h hold s t arcs).zip f) = if u = s then sm (eP s a) ((gridKinds n h hold s t arcs).zip f) else 0 := by
  by_cases c : u = s
  ·rw [if_pos c]; exact sm_congr fun p _ => by rw [if_pos c]
  ·rw [if_neg c]; exact sm_zero fun p _ => by rw [if_neg c]
 have hT : sm (fun p => if u = t then eP t a p else 0) ((gridKinds n h hold s t arcs).zip f) = if u = t then sm (eP t a) ((gridKinds n h hold s t arcs).zip f) else 0 := by
  by_cases c : u = t
  ·rw [if_pos c]; exact sm_congr fun p _ => by rw [if_pos c]
  ·rw [if_neg c]; exact sm_zero fun p _ => by rw [if_neg c]
 have r1 : sm (fun p => wP u a p) ((gridKinds n h hold s t arcs).zip f) = sm (wP u a) ((gridKinds n h hold s t arcs).zip f) := rfl
 have r2 : sm (fun p => wP u (a - 1) p) ((gridKinds n h hold s t arcs).zip f) = sm (wP u (a - 1)) ((gridKinds n h hold s t arcs).zip f) := rfl
 rw [hS, hT, r1, r2] at hb
 omega
theorem fl_neg (v : Int) : wsum (cStk arcs v (-1)) (toldL f (movesK (gridKinds n h hold s t arcs))) = 0 := wsum_zero fun x hx => by
 have h1 := (fl_may hn he hh hf hx).1
 have h2 := h1.b0
 have h3 := (arcAt_ok hn h1.a0 h1.a1).f3
 have e1 : (keyM x).1 = x.f0 := rfl
 have e2 : (keyM x).2 = x.f1 := rfl
 unfold cStk cIn cOut
 rw [e1, e2, if_neg (by omega), if_neg (by omega)]
 omega
theorem fl_stk {u : Int} (hu : 0 ≤ u ∧ u < n) (hus : u ≠ s) (hut : u ≠ t) : ∀ m : Nat, (m : Int) ≤ h + 1 → wsum (cStk arcs u ((m : Int) - 1)) (toldL f (movesK (gridKinds n h hold s t arcs))) = sm (wP u ((m : Int) - 1)) ((gridKinds n h hold s t arcs).zip f) := by
 intro m
 induction m with
 | zero =>
  intro _
  rw [show ((0 : Nat) : Int) - 1 = -1 from rfl, fl_neg hn he hh hf hz, sm_zero fun p hp => wP_zero hn he hh hf hp (Or.inr (Or.inr (Or.inl (by omega))))]
 | succ m ih =>
  intro hm
  have h1 := ih (by omega)
  have h2 := now_diff arcs (toldL f (movesK (gridKinds n h hold s t arcs))) u (m : Int)
  have h3 := fl_cell hn he hh hf hz hu (a := (m : Int)) (by omega)
  rw [if_neg hus, if_neg hut] at h3
  rw [show (((m + 1 : Nat) : Int) - 1) = (m : Int) from by omega, h2, h1, h3]
  omega
theorem fl_src : ∀ m : Nat, (m : Int) ≤ h + 1 → wsum (cStk arcs s ((m : Int) - 1)) (toldL f (movesK (gridKinds n h hold s t arcs))) = -sm (fun a : Nat => sm (eP s (a : Int)) ((gridKinds n h hold s t arcs).zip f)) (List.range m) := by
 intro m
 induction m with
 | zero =>
  intro _
  rw [show ((0 : Nat) : Int) - 1 = -1 from rfl, fl_neg hn he hh hf hz]
  rfl
 | succ m ih =>
  intro hm
  have h1 := ih (by omega)
  have h2 := now_diff arcs (toldL f (movesK (gridKinds n h hold s t arcs))) s (m : Int)
  have h3 := fl_cell hn he hh hf hz ⟨he.1, he.2.1⟩ (a := (m : Int)) (by omega)
  rw [if_pos rfl, if_neg he.2.2.2.2, sm_zero fun p hp => wP_zero hn he hh hf hp (Or.inl rfl), sm_zero fun p hp => wP_zero hn he hh hf hp (Or.inl rfl)] at h3
  rw [show (((m + 1 : Nat) : Int) - 1) = (m : Int) from by omega, h2, h1, h3, List.range_succ, sm_snoc]
  omega
theorem fl_ok : AllOk hold h s t (tH h) (tV n) (stk arcs (toldL f (movesK (gridKinds n h hold s t arcs)))) := by
 intro a ha u hu ⟨hus, hut, hbad⟩
 unfold tH at ha
 unfold tV at hu
 have h1 := fl_stk hn he hh hf hz (u := (u : Int)) (by omega) hus hut (a + 1) (by omega)
 rw [show (((a + 1 : Nat) : Int) - 1) = (a : Int) from by omega] at h1
 have h2 : stk arcs (toldL f (movesK (gridKinds n h hold s t arcs))) a u = sm (wP (u : Int) (a : Int)) ((gridKinds n h hold s t arcs).zip f) := h1
 rw [h2] at hbad
 have h3 : 0 ≤ sm (wP (u : Int) (a : Int)) ((gridKinds n h hold s t arcs).zip f) := sm_nonneg fun p hp => by
  unfold wP
  split
  ·exact (fl_mem hn he hh hf hp).2
  ·exact Int.le_refl _
 rcases hbad with c | ⟨c, d⟩
 ·omega
 ·have h4 : sm (wP (u : Int) (a : Int)) ((gridKinds n h hold s t arcs).zip f) = 0 := sm_zero fun p hp => wP_zero hn he hh hf hp (by
   rcases d with d | d
   ·exact Or.inr (Or.inr (Or.inr (Or.inr d)))
   ·exact Or.inr (Or.inr (Or.inr (Or.inl (by omega)))))
  omega
theorem fl_plan : planR hold n arcs s t h (toldL f (movesK (gridKinds n h hold s t arcs))) = (sm (eA s) ((gridKinds n h hold s t arcs).zip f), 0) := by
 have hm := fl_merged hn he hh hf
 have hok := fl_ok hn he hh hf hz
 have h0 : (planR hold n arcs s t h (toldL f (movesK (gridKinds n h hold s t arcs)))).2 = 0 := by
  unfold planR
  rw [hm, if_pos rfl, if_pos hok]
 have h1 := source_left h0
 rw [hm] at h1
 have h2 := fl_src hn he hh hf hz (h.toNat + 1) (by omega)
 rw [show (((h.toNat + 1 : Nat) : Int) - 1) = h from by omega] at h2
 unfold stk at h1
 rw [show ((s.toNat : Nat) : Int) = s from by omega, show ((h.toNat : Nat) : Int) = h from by omega] at h1
 simp only at h1
 rw [h2, sm_swap (fun (a : Nat) p => eP s (a : Int) p)] at h1
 have h3 : sm (fun p => sm (fun a : Nat => eP s (a : Int) p) (List.range (h.toNat + 1))) ((gridKinds n h hold s t arcs).zip f) = sm (eA s) ((gridKinds n h hold s t arcs).zip f) := sm_congr fun p hp => by
  unfold eA
  by_cases c : p.1.f0 = false ∧ p.1.f1 = false ∧ p.1.f3 = s
  ·rw [if_pos c]
   have hr : 0 ≤ p.1.f4 ∧ p.1.f4 ≤ h := by
    rcases kind_cases hh.1 (fl_mem hn he hh hf hp).1 with ⟨h0, _⟩ | ⟨h1, _⟩ | ⟨_, _, _, q0, q1⟩
    ·rw [c.1] at h0; cases h0
    ·rw [c.2.1] at h1; cases h1
    ·exact ⟨q0, q1⟩
   have e : ∀ a ∈ List.range (h.toNat + 1), eP s (a : Int) p = (fun a : Nat => if a = p.1.f4.toNat then p.2 else 0) a := fun a _ => by
    unfold eP
    by_cases d : a = p.1.f4.toNat
    ·rw [if_pos ⟨c.1, c.2.1, c.2.2, by omega⟩]
     simp [d]
    ·rw [if_neg (fun q => d (by have := q.2.2.2; omega))]
     simp [d]
   rw [sm_congr e, sm_one List.nodup_range, if_pos (List.mem_range.2 (by omega))]
  ·rw [if_neg c]
   refine sm_zero fun a _ => ?_
   unfold eP
   rw [if_neg (fun q => c ⟨q.1, q.2.1, q.2.2.1⟩)]
 rw [h3] at h1
 exact Prod.ext (by show _ = _; simp only; omega) h0
theorem fl_first {p : S83 × Int} (hp : p.1 ∈ gridKinds n h hold s t arcs) : (if (arcAll n h s arcs p.1).f0 = (h + 1) * n then p.2 else 0) = eA s p := by
 obtain ⟨k, x⟩ := p
 replace hp : k ∈ gridKinds n h hold s t arcs := hp
 have hV : 0 < n := by omega
 have far : ∀ b u : Int, b ≤ h → u < n → b * n + u ≠ (h + 1) * n := fun b u hb hu e => by
  have := cell_lt (a := b) (b := h + 1) hV hu (by omega)
  omega
 unfold eA
 rcases kind_cases hh.1 hp with ⟨h0, hk⟩ | ⟨h1, hk⟩ | ⟨h0, h1, hk, k0, k1⟩
 ·have e : (arcAll n h s arcs k).f0 = k.f4 * n + (arcAt arcs k.f2).f0 := by
   unfold arcAll arcK
   rw [if_pos (Or.inl h0), if_pos h0]
   rfl
  have ho := arcAt_ok hn hk.i0 hk.i1
  have o3 := ho.f3
  have a1 := hk.a1
  simp only [e, h0]
  rw [if_neg (far _ _ (by omega) ho.f0.2), if_neg (fun q => by cases q.1)]
 ·have e : (arcAll n h s arcs k).f0 = k.f4 * n + k.f3 := by
   unfold arcAll arcK
   rw [if_pos (Or.inr h1), if_neg (by rw [hk.n0]; exact Bool.false_ne_true)]
  have a1 := hk.a1
  simp only [e, h1]
  rw [if_neg (far _ _ (by omega) hk.v1), if_neg (fun q => by cases q.2.1)]
 ·rcases hk with hk | hk
  ·have e : (arcAll n h s arcs k).f0 = (h + 1) * n := by
    unfold arcAll
    rw [if_neg (by rw [h0, h1]; simp), if_pos hk]
   simp only [e]
   rw [if_pos trivial, if_pos ⟨h0, h1, hk⟩]
  ·have e : (arcAll n h s arcs k).f0 = k.f4 * n + t := by
    unfold arcAll
    rw [if_neg (by rw [h0, h1]; simp), if_neg (by rw [hk]; exact fun e => he.2.2.2.2 e.symm), hk]
   simp only [e]
   rw [if_neg (far _ _ k1 he.2.2.2.1), if_neg (fun q => he.2.2.2.2 (q.2.2.symm.trans hk))]
end
end Go.Proofs.Ytfhkkbpkajfdlaa.P
end
