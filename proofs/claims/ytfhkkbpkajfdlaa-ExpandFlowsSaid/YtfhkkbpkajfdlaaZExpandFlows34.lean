/- A part of the proof: words, contracts, plain lemmas. Conditions: none. -/
import Derived.Test.YtfhkkbpkajfdlaaZExpandFlows18
import Derived.Test.YtfhkkbpkajfdlaaZExpandFlows23
import Derived.Test.YtfhkkbpkajfdlaaZExpandFlows32
import Derived.Test.YtfhkkbpkajfdlaaZExpandFlows22
import Derived.Test.YtfhkkbpkajfdlaaZExpandFlows33
import Derived.Test.YtfhkkbpkajfdlaaZExpandFlows4
import Derived.Test.YtfhkkbpkajfdlaaZExpandFlows5
import Derived.Test.YtfhkkbpkajfdlaaZExpandFlows13
import Derived.Test.YtfhkkbpkajfdlaaZExpandFlows31
import Derived.Test.YtfhkkbpkajfdlaaZExpandFlows27
import Derived.Test.YtfhkkbpkajfdlaaRows
import Derived.WalkKit
import Derived.ProofKit
import Derived.OpenShut
import Derived.ShutString
import Derived.ChangeOld
import Derived.Below
import Derived.SizedLaws
section
namespace Go.Proofs.Ytfhkkbpkajfdlaa.P
set_option linter.unusedSimpArgs false
set_option linter.unusedVariables false
open Go.RowKit Go.Proofs.Ytfhkkbpkajfdlaa.Q Go.Proofs.YtfhkkbpkajfdlaaW.PrintWords Go.Proofs.YtfhkkbpkajfdlaaW.PrintLast Go.Proofs.YtfhkkbpkajfdlaaW.PrintMore
def lookN (M : List S85) (x y : Int) (r : Int) : Int := M.foldl (fun r m => if m.f0 = x ∧ m.f1 = y then m.f2 else r) r
def valK (arcs : List S54) (M : List S85) (s : Int) (k : S83) : Int :=
 if k.f0 = true then lookN M k.f2 k.f4 0 else if k.f1 = true then wsum (cStk arcs k.f3 k.f4) M else if k.f3 = s then wrap64 (-(wrap64 (wsum (cStk arcs k.f3 k.f4) M - wsum (cStk arcs k.f3 (k.f4 - 1)) M))) else wrap64 (wsum (cStk arcs k.f3 k.f4) M - wsum (cStk arcs k.f3 (k.f4 - 1)) M)
theorem rflow_look (k0 : S83) {x19 : List Int} {i : Nat} {s n : Int} {b : Bool} {arcs : List S54} {M : List S85} {K : List S83} {R : List Int × Int} (hM : M.length ≤ 1048576) (hx : x19.length ≤ 300000)
 (hn : ∀ r, r = lookN M k0.f2 k0.f4 0 → Ev (fun k => ebbtideref15_Flow.l0 k s M K (x19 ++ [r]) (wrap64 ((i : Int) + 1)) n b arcs) R) :
 ∀ d j : Nat, j + d = M.length → Ev (fun k => ebbtideref15_Flow.l1 k s M K x19 (i : Int) (lookN (M.take j) k0.f2 k0.f4 0) (j : Int) n b arcs k0.f0 k0.f1 k0.f2 k0.f3 k0.f4) R := by
 intro d
 induction d with
 | zero =>
  intro j hj
  refine Ev.step (fun k => ?_) (hn _ rfl)
  rw [ebbtideref15_Flow.l1, if_neg (by omega), if_pos (by omega), List.take_of_length_le (by omega)]
 | succ d ih =>
  intro j hj
  have h := ih (j + 1) (by omega)
  have e : lookN (M.take (j + 1)) k0.f2 k0.f4 0 = if M[j].f0 = k0.f2 ∧ M[j].f1 = k0.f4 then M[j].f2 else lookN (M.take j) k0.f2 k0.f4 0 := by
   unfold lookN
   rw [List.take_succ_eq_append_getElem (by omega), List.foldl_append]
   rfl
  rw [e] at h
  refine Ev.step (fun k => ?_) h
  rw [ebbtideref15_Flow.l1, if_pos (by omega), if_pos (by omega), rdM_of (by omega), wrap1 (by omega)]
  by_cases c1 : M[j].f0 = k0.f2
  ·rw [if_pos c1]
   by_cases c2 : M[j].f1 = k0.f4
   ·rw [if_pos c2, if_pos ⟨c1, c2⟩]
   ·rw [if_neg c2, if_neg (fun h => c2 h.2)]
  ·rw [if_neg c1, if_neg (fun h => c1 h.1)]
section
variable {n : Int} {b : Bool} {arcs : List S54} {s t h : Int} {M : List S85} (hn : NetOk n arcs) (hh : 0 ≤ h ∧ h ≤ 1024) (hM : M.length ≤ 1048576) (hmay : ∀ m ∈ M, May arcs s t h m)
include hn hh hM hmay
theorem rflow_loop (K : List S83) (hK : K.length ≤ 300000) (hat : ∀ k ∈ K, -1000000 ≤ k.f4 ∧ k.f4 ≤ 1000000) :
 ∀ d i : Nat, i + d = K.length → Ev (fun k => ebbtideref15_Flow.l0 k s M K ((K.take i).map (valK arcs M s)) (i : Int) n b arcs) (K.map (valK arcs M s), (0 : Int)) := by
 intro d
 induction d with
 | zero =>
  intro i hi
  refine ev_cst fun k => ?_
  rw [ebbtideref15_Flow.l0, if_neg (by omega), List.take_of_length_le (by omega)]
 | succ d ih =>
  intro i hi
  have hlt : i < K.length := by omega
  have hlen : ((K.take i).map (valK arcs M s)).length ≤ 300000 := by rw [List.length_map, List.length_take]; omega
  have hnext := ih (i + 1) (by omega)
  rw [List.take_succ_eq_append_getElem hlt, List.map_append, List.map_singleton] at hnext
  have hk4 := hat K[i] (List.getElem_mem hlt)
  have hw1 : wrap64 (K[i].f4 - 1) = K[i].f4 - 1 := wrapId (by omega) (by omega)
  cases h0 : K[i].f0
  ·cases h1 : K[i].f1
   ·have e : valK arcs M s K[i] = if K[i].f3 = s then wrap64 (-(wrap64 (wsum (cStk arcs K[i].f3 K[i].f4) M - wsum (cStk arcs K[i].f3 (K[i].f4 - 1)) M))) else wrap64 (wsum (cStk arcs K[i].f3 K[i].f4) M - wsum (cStk arcs K[i].f3 (K[i].f4 - 1)) M) := by
     unfold valK; rw [if_neg (by rw [h0]; exact Bool.false_ne_true), if_neg (by rw [h1]; exact Bool.false_ne_true)]
    rw [e] at hnext
    refine Ev.step (f := fun k => (ebbtideref14_Stock.f k n b arcs M K[i].f3 K[i].f4).bind fun t704 => ((ebbtideref14_Stock.f k n b arcs M K[i].f3 (K[i].f4 - 1)).bind fun t705 => (if K[i].f3 = s then ebbtideref15_Flow.l0 k s M K ((K.take i).map (valK arcs M s) ++ [wrap64 (-(wrap64 (t704 - t705)))]) ((i + 1 : Nat) : Int) n b arcs else ebbtideref15_Flow.l0 k s M K ((K.take i).map (valK arcs M s) ++ [wrap64 (t704 - t705)]) ((i + 1 : Nat) : Int) n b arcs))) (fun k => ?_) ?_
    ·rw [ebbtideref15_Flow.l0, if_pos (by omega), if_pos (by omega), rdK_of hlt, h0, h1, if_neg Bool.false_ne_true, if_neg Bool.false_ne_true, hw1, wrap1 (by omega)]
     simp only [if_pos (show ((K.take i).map (valK arcs M s)).length < 17592186044416 by omega)]
    ·refine Ev.bind (rstock_ev hn hh hM hmay _ _) (Ev.bind (rstock_ev hn hh hM hmay _ _) ?_)
     by_cases c : K[i].f3 = s
     ·simp only [c, if_true] at hnext ⊢; exact hnext
     ·simp only [c, if_false] at hnext ⊢; exact hnext
   ·have e : valK arcs M s K[i] = wsum (cStk arcs K[i].f3 K[i].f4) M := by
     unfold valK; rw [if_neg (by rw [h0]; exact Bool.false_ne_true), if_pos h1]
    rw [e] at hnext
    refine Ev.step (f := fun k => (ebbtideref14_Stock.f k n b arcs M K[i].f3 K[i].f4).bind fun t700 => ebbtideref15_Flow.l0 k s M K ((K.take i).map (valK arcs M s) ++ [t700]) ((i + 1 : Nat) : Int) n b arcs) (fun k => ?_) ?_
    ·rw [ebbtideref15_Flow.l0, if_pos (by omega), if_pos (by omega), rdK_of hlt, h0, h1, if_neg Bool.false_ne_true, if_pos rfl, wrap1 (by omega)]
     simp only [if_pos (show ((K.take i).map (valK arcs M s)).length < 17592186044416 by omega)]
    ·exact Ev.bind (rstock_ev hn hh hM hmay _ _) hnext
  ·have e : valK arcs M s K[i] = lookN M K[i].f2 K[i].f4 0 := by unfold valK; rw [if_pos h0]
   rw [e] at hnext
   refine Ev.step (fun k => ?_) (rflow_look K[i] (K := K) (i := i) (s := s) (n := n) (b := b) (arcs := arcs) hM hlen (fun r hr => by rw [hr, wrap1 (by omega)]; exact hnext) M.length 0 (by omega))
   rw [ebbtideref15_Flow.l0, if_pos (by omega), if_pos (by omega), rdK_of hlt, if_pos h0]
   rfl
end
section
variable {xs : List (List Int)} {s t : Int} {b h1 : Nat} {o : List Int}
theorem out3_below {j : Nat} (hj : j < b) : ∀ m, (out3 xs s t b h1 o m)[j]? = o[j]?
 | 0 => rfl
 | m + 1 => by rw [out3_succ, List.getElem?_set_ne (by omega), List.getElem?_set_ne (by omega), out3_below hj m]
theorem out3_first (ho : b + h1 + h1 ≤ o.length) {a : Nat} : ∀ m, a < m → m ≤ h1 → (out3 xs s t b h1 o m)[b + a]? = some (leftN xs s a)
 | 0, h, _ => absurd h (Nat.not_lt_zero _)
 | m + 1, h, hm => by
  rw [out3_succ, List.getElem?_set_ne (by omega)]
  by_cases c : a = m
  ·subst c
   rw [List.getElem?_set_self (by rw [out3_length]; omega)]
  ·rw [List.getElem?_set_ne (by omega), out3_first ho m (by omega) (by omega)]
theorem out3_last (ho : b + h1 + h1 ≤ o.length) {a : Nat} : ∀ m, a < m → m ≤ h1 → (out3 xs s t b h1 o m)[b + h1 + a]? = some (cameN xs t a)
 | 0, h, _ => absurd h (Nat.not_lt_zero _)
 | m + 1, h, hm => by
  rw [out3_succ]
  by_cases c : a = m
  ·subst c
   rw [List.getElem?_set_self (by rw [List.length_set, out3_length]; omega)]
  ·rw [List.getElem?_set_ne (by omega), List.getElem?_set_ne (by omega), out3_last ho m (by omega) (by omega)]
end
theorem lookN_none {M : List S85} {x y : Int} (h : ∀ m ∈ M, ¬ (m.f0 = x ∧ m.f1 = y)) (r : Int) : lookN M x y r = r := by
 unfold lookN
 induction M generalizing r with
 | nil => rfl
 | cons m M ih => rw [List.foldl_cons, if_neg (h m List.mem_cons_self)]; exact ih (fun z hz => h z (List.mem_cons_of_mem _ hz)) r
theorem lookN_mem {M : List S85} (hs : M.Pairwise mlt) {m : S85} (hm : m ∈ M) (r : Int) : lookN M m.f0 m.f1 r = m.f2 := by
 unfold lookN
 induction M generalizing r with
 | nil => cases hm
 | cons x M ih =>
  rw [List.pairwise_cons] at hs
  rw [List.foldl_cons]
  rcases List.mem_cons.1 hm with rfl | hm
  ·rw [if_pos ⟨rfl, rfl⟩]
   refine lookN_none (M := M) (fun z hz e => ?_) _
   have := hs.1 z hz
   unfold mlt at this
   omega
  ·exact ih hs.2 hm _
section
variable {V H s t : Int} {hold : Bool} {l0 : List S54}
theorem arcAt_getD (i : Nat) : arcAt l0 (i : Int) = l0.getD i z54 := by unfold arcAt rd_T54; rw [Int.toNat_natCast]
theorem move_in (hn : NetOk V l0) {m : S85} (hm : May l0 s t H m) : ∃ j : Nat, (kindsB V H hold s t l0 (H.toNat + 1))[j]? = some ⟨true, false, m.f0, 0, m.f1⟩ := by
 obtain ⟨i, hi⟩ := Int.eq_ofNat_of_zero_le hm.a0
 obtain ⟨a, ha⟩ := Int.eq_ofNat_of_zero_le hm.b0
 have h1 := hm.a1
 have h2 := hm.b1
 have h3 := hm.e1
 have h4 := hm.e0
 rw [hi] at h1 h2 h3 h4
 rw [ha] at h2
 rw [arcAt_getD] at h2 h3 h4
 have hk : (⟨true, false, m.f0, 0, m.f1⟩ : S83) ∈ kindsB V H hold s t l0 (H.toNat + 1) := by
  have h7 := (arcAt_ok hn hm.a0 hm.a1).f3
  rw [hi, arcAt_getD] at h7
  refine mem_kindsB.2 ⟨a, ?_, Or.inl ⟨i, by omega, ?_⟩⟩
  ·omega
  ·rw [mvAt_some, hi, ha]
   exact ⟨⟨h2, h3, h4⟩, rfl⟩
 obtain ⟨j, hj, e⟩ := List.getElem_of_mem hk
 exact ⟨j, by rw [List.getElem?_eq_getElem hj, e]⟩
theorem idx_of (hn : NetOk V l0) {m : S85} (hm : May l0 s t H m) : ∃ j : Nat, (kindsB V H hold s t l0 (H.toNat + 1))[j]? = some ⟨true, false, m.f0, 0, m.f1⟩ ∧ idxM (gridMoves V H hold s t l0) m = (j : Int) := by
 obtain ⟨j, hj⟩ := move_in (V := V) (hold := hold) hn hm
 refine ⟨j, hj, ?_⟩
 have hmem : ((m.f0, m.f1), (j : Int)) ∈ movesK (kindsB V H hold s t l0 (H.toNat + 1)) := movesK_mem.2 ⟨j, _, hj, rfl, rfl⟩
 unfold idxM gridMoves lookM
 rw [log1, lookM_mem _ none ((m.f0, m.f1), (j : Int)) (kord_nodup (movesK_sorted (kindsB_sorted _))) hmem]
 rfl
theorem flow_all (hn : NetOk V l0) (hh : 0 ≤ H ∧ H ≤ 1024) (hs : 0 ≤ s ∧ s < V) (ht : 0 ≤ t ∧ t < V) (hst : s ≠ t) {M : List S85} (hM : M.length ≤ 1048576) (hsrt : M.Pairwise mlt) (hmay : ∀ m ∈ M, May l0 s t H m) :
 flowL V H hold s t l0 (SM V l0 H M) M = (gridKinds V H hold s t l0).map (valK l0 M s) := by
 have hok : okNet V H l0 = true := okNet_of hn hh
 have hKl : (kindsB V H hold s t l0 (H.toNat + 1)).length = (atLoop V H hold s t l0 (H.toNat + 1)).1.length := by rw [arcs1, List.length_map]
 have hN : (gridArcs V H hold s t l0).length = (kindsB V H hold s t l0 (H.toNat + 1)).length + (H.toNat + 1) + (H.toNat + 1) := by
  unfold gridArcs
  rw [List.length_append, List.length_append, firstsA_length, lastsA_length, hKl]
 have hrow : ∀ (a : Nat) (v : Int), a < tH H → 0 ≤ v → v < V → stockAt (SM V l0 H M) (a : Int) v = wsum (cStk l0 v (a : Int)) M := by
  intro a v ha h0 h1
  have e1 : rd_L3 (SM V l0 H M) (a : Int) = row (tV V) (stk l0 M a) := rdL_row ha
  unfold stockAt
  rw [e1]
  obtain ⟨u, hu⟩ := Int.eq_ofNat_of_zero_le h0
  rw [hu, rd_row (show u < tV V by unfold tV; omega)]
  rfl
 have hbd : ∀ v a : Int, -1099511627776 ≤ wsum (cStk l0 v a) M ∧ wsum (cStk l0 v a) M ≤ 1099511627776 := fun v a => stk_bd hn hM hmay (fun m hm => hm) (Nat.le_refl _) _ (cStk_bd l0 v a)
 have hneg : ∀ v : Int, wsum (cStk l0 v (-1)) M = 0 := fun v => wsum_zero fun x hx => by
  have h1 := hmay x hx
  have h2 := h1.b0
  have h3 := (arcAt_ok hn h1.a0 h1.a1).f3
  have e1 : (keyM x).1 = x.f0 := rfl
  have e2 : (keyM x).2 = x.f1 := rfl
  unfold cStk cIn cOut
  rw [e1, e2, if_neg (by omega), if_neg (by omega)]
  omega
 unfold flowL
 rw [kinds_eq, ← hKl]
 have ho2 : (out2 (SM V l0 H M) (atLoop V H hold s t l0 (H.toNat + 1)).2.2 (out1 (gridMoves V H hold s t l0) M (gridArcs V H hold s t l0).length)).length = (gridArcs V H hold s t l0).length := by rw [out2_length, out1_length]
 refine List.ext_getElem? fun j => ?_
 by_cases cA : j < (kindsB V H hold s t l0 (H.toNat + 1)).length
 ·rw [out3_below cA, List.getElem?_map, List.append_assoc, List.getElem?_append_left cA]
  have hj := List.getElem?_eq_getElem cA
  have hjk := List.getElem_mem cA
  generalize (kindsB V H hold s t l0 (H.toNat + 1))[j] = k at hj hjk
  rw [hj, Option.map_some]
  have hlog : (atLoop V H hold s t l0 (H.toNat + 1)).2.2 = waitsK (kindsB V H hold s t l0 (H.toNat + 1)) := log2 _
  have hL2 := log2_ok (hold := hold) (s := s) (t := t) hok
  unfold out2
  cases h0 : k.f0
  ·cases h1 : k.f1
   ·obtain ⟨a, ha, ⟨i, hi, hm⟩ | ⟨v, hv, hm⟩⟩ := mem_kindsB.1 hjk
    ·rw [mvAt_some] at hm; rw [hm.2] at h0; cases h0
    ·rw [wtAt_some] at hm; rw [hm.2] at h1; cases h1
   ·obtain ⟨a, v, ha, hv, hk, h2, _⟩ := kind_wait hjk h1
    have hmem : ((k.f3, k.f4), (j : Int)) ∈ (atLoop V H hold s t l0 (H.toNat + 1)).2.2 := by rw [hlog]; exact waitsK_mem.2 ⟨j, k, hj, h1, rfl⟩
    have h3 := setAll_at _ (fun p : (Int × Int) × Int => p.2.toNat) (fun p => stockAt (SM V l0 H M) p.1.2 p.1.1) (out1 (gridMoves V H hold s t l0) M (gridArcs V H hold s t l0).length) hL2.idx hmem (by
     show ((j : Int)).toNat < _
     rw [Int.toNat_natCast, out1_length]; omega)
    simp only [Int.toNat_natCast] at h3
    rw [h3]
    unfold valK
    rw [if_neg (by rw [h0]; exact Bool.false_ne_true), if_pos h1, hk]
    exact congrArg some (hrow a (v : Int) (by unfold tH; omega) (by omega) (by omega))
  ·have hno : ∀ p ∈ (atLoop V H hold s t l0 (H.toNat + 1)).2.2, p.2.toNat ≠ j := by
    intro p hp e
    rw [hlog] at hp
    obtain ⟨i, k', hi, hk', rfl⟩ := waitsK_mem.1 hp
    simp only [Int.toNat_natCast] at e
    subst e
    rw [hi] at hj
    have e2 : k' = k := Option.some.inj hj
    subst e2
    obtain ⟨a, v, ha, hv, hk, _⟩ := kind_wait hjk hk'
    rw [hk] at h0; cases h0
   rw [setAll_other _ _ _ _ hno]
   obtain ⟨a, i, ha, hi, hk, _⟩ := kind_move hjk h0
   unfold valK
   rw [if_pos h0]
   unfold out1
   have hidx : ∀ m ∈ M, (idxM (gridMoves V H hold s t l0) m).toNat = j ↔ m.f0 = k.f2 ∧ m.f1 = k.f4 := by
    intro m hm
    obtain ⟨j', hj', e⟩ := idx_of (V := V) (hold := hold) hn (hmay m hm)
    rw [e, Int.toNat_natCast]
    constructor
    ·intro e2
     subst e2
     rw [hj] at hj'
     have e3 : k = ⟨true, false, m.f0, 0, m.f1⟩ := Option.some.inj hj'
     rw [e3]
     exact ⟨rfl, rfl⟩
    ·rintro ⟨e2, e3⟩
     have hm1 : ((m.f0, m.f1), (j' : Int)) ∈ movesK (kindsB V H hold s t l0 (H.toNat + 1)) := movesK_mem.2 ⟨j', _, hj', rfl, rfl⟩
     have hm2 : ((m.f0, m.f1), (j : Int)) ∈ movesK (kindsB V H hold s t l0 (H.toNat + 1)) := movesK_mem.2 ⟨j, k, hj, h0, by rw [e2, e3]⟩
     have hnd := kord_nodup (movesK_sorted (kindsB_sorted (V := V) (H := H) (s := s) (t := t) (hold := hold) (l0 := l0) (H.toNat + 1)))
     have q1 := lookM_mem _ none _ hnd hm1
     have q2 := lookM_mem _ none _ hnd hm2
     have q3 : some (j' : Int) = some (j : Int) := q1.symm.trans q2
     have := Option.some.inj q3
     omega
   have hdist : M.Pairwise (fun x y => (idxM (gridMoves V H hold s t l0) x).toNat ≠ (idxM (gridMoves V H hold s t l0) y).toNat) := by
    refine List.Pairwise.imp_of_mem ?_ hsrt
    intro x y hx hy hxy e
    obtain ⟨j1, g1, e1⟩ := idx_of (V := V) (hold := hold) hn (hmay x hx)
    obtain ⟨j2, g2, e2⟩ := idx_of (V := V) (hold := hold) hn (hmay y hy)
    rw [e1, e2, Int.toNat_natCast, Int.toNat_natCast] at e
    subst e
    rw [g1] at g2
    have e3 := Option.some.inj g2
    have e4 : x.f0 = y.f0 := congrArg S83.f2 e3
    have e5 : x.f1 = y.f1 := congrArg S83.f4 e3
    unfold mlt at hxy
    omega
   by_cases cm : ∃ m ∈ M, m.f0 = k.f2 ∧ m.f1 = k.f4
   ·obtain ⟨m, hm, hk2⟩ := cm
    have h3 := setAll_at M (fun m => (idxM (gridMoves V H hold s t l0) m).toNat) S85.f2 (List.replicate (gridArcs V H hold s t l0).length 0) hdist hm (by
     have := (hidx m hm).2 hk2
     simp only [this, List.length_replicate]
     omega)
    have e4 := (hidx m hm).2 hk2
    simp only [e4] at h3
    rw [h3, ← hk2.1, ← hk2.2, lookN_mem hsrt hm]
   ·rw [setAll_other _ _ _ _ (fun m hm e => cm ⟨m, hm, (hidx m hm).1 e⟩), List.getElem?_replicate, if_pos (by omega), lookN_none (fun m hm e => cm ⟨m, hm, e⟩)]
 ·obtain ⟨a, ha⟩ : ∃ a, j = (kindsB V H hold s t l0 (H.toNat + 1)).length + a := ⟨j - (kindsB V H hold s t l0 (H.toNat + 1)).length, by omega⟩
  have hW := fun v b => hbd v b
  by_cases cB : a < H.toNat + 1
  ·rw [ha, out3_first (by rw [ho2, hN]; exact Nat.le_refl _) _ cB (Nat.le_refl _), List.getElem?_map, List.append_assoc, List.getElem?_append_right (by omega), Nat.add_sub_cancel_left, List.getElem?_append_left (by rw [kEnds_length]; exact cB)]
   unfold kEnds
   rw [List.getElem?_map, List.getElem?_range cB, Option.map_some, Option.map_some]
   refine congrArg some ?_
   unfold valK
   rw [if_neg Bool.false_ne_true, if_neg Bool.false_ne_true, if_pos rfl]
   show leftN (SM V l0 H M) s a = wrap64 (-(wrap64 (wsum (cStk l0 s (a : Int)) M - wsum (cStk l0 s ((a : Int) - 1)) M)))
   unfold leftN
   have h1 := hbd s (a : Int)
   have h2 := hbd s ((a : Int) - 1)
   by_cases ca : a = 0
   ·subst ca
    rw [if_pos rfl, show (0 : Int) = ((0 : Nat) : Int) from rfl, hrow 0 s (by unfold tH; omega) hs.1 hs.2, show ((0 : Nat) : Int) - 1 = -1 from rfl, hneg, Int.sub_zero, w64 (n := wsum (cStk l0 s ((0 : Nat) : Int)) M) (by omega) (by omega)]
   ·have e1 : ((a : Int) - 1) = ((a - 1 : Nat) : Int) := by omega
    rw [if_neg ca, hrow a s (by unfold tH; omega) hs.1 hs.2, hrow (a - 1) s (by unfold tH; omega) hs.1 hs.2, e1]
    rw [e1] at h2
    rw [w64 (n := -(wsum (cStk l0 s (a : Int)) M)) (by omega) (by omega), w64 (n := wsum (cStk l0 s (a : Int)) M - wsum (cStk l0 s ((a - 1 : Nat) : Int)) M) (by omega) (by omega)]
    congr 1
    omega
  ·obtain ⟨c, hc⟩ : ∃ c, a = (H.toNat + 1) + c := ⟨a - (H.toNat + 1), by omega⟩
   by_cases cC : c < H.toNat + 1
   ·rw [ha, hc, ← Nat.add_assoc, out3_last (by rw [ho2, hN]; exact Nat.le_refl _) _ cC (Nat.le_refl _), List.getElem?_map, List.append_assoc, List.getElem?_append_right (by omega), show (kindsB V H hold s t l0 (H.toNat + 1)).length + (H.toNat + 1) + c - (kindsB V H hold s t l0 (H.toNat + 1)).length = (H.toNat + 1) + c from by omega, List.getElem?_append_right (by rw [kEnds_length]; omega), kEnds_length, Nat.add_sub_cancel_left]
    unfold kEnds
    rw [List.getElem?_map, List.getElem?_range cC, Option.map_some, Option.map_some]
    refine congrArg some ?_
    unfold valK
    rw [if_neg Bool.false_ne_true, if_neg Bool.false_ne_true, if_neg (fun e => hst e.symm)]
    show cameN (SM V l0 H M) t c = wrap64 (wsum (cStk l0 t (c : Int)) M - wsum (cStk l0 t ((c : Int) - 1)) M)
    unfold cameN
    have h1 := hbd t (c : Int)
    by_cases ca : c = 0
    ·subst ca
     rw [if_pos rfl, show (0 : Int) = ((0 : Nat) : Int) from rfl, hrow 0 t (by unfold tH; omega) ht.1 ht.2, show ((0 : Nat) : Int) - 1 = -1 from rfl, hneg, Int.sub_zero, w64 (n := wsum (cStk l0 t ((0 : Nat) : Int)) M) (by omega) (by omega)]
    ·have e1 : ((c : Int) - 1) = ((c - 1 : Nat) : Int) := by omega
     rw [if_neg ca, hrow c t (by unfold tH; omega) ht.1 ht.2, hrow (c - 1) t (by unfold tH; omega) ht.1 ht.2, e1]
   ·rw [List.getElem?_eq_none (by rw [out3_length, ho2, hN]; omega), List.getElem?_eq_none (by rw [List.length_map, List.length_append, List.length_append, kEnds_length, kEnds_length]; omega)]
end
noncomputable def flowR (hold : Bool) (n : Int) (arcs : List S54) (s t h : Int) (l : List S85) : List Int × Int :=
 if expErr n arcs s t h = 0 then (if (planR hold n arcs s t h l).2 = 0 then ((gridKinds n h hold s t arcs).map (valK arcs (mergedR n arcs s t h l).1 s), 0) else ([], (planR hold n arcs s t h l).2)) else ([], expErr n arcs s t h)
section
variable {n : Int} {hold : Bool} {arcs : List S54} {s t h : Int} {l : List S85} (hlen : l.length ≤ 1048576) (hl : ∀ x ∈ l, OkM x)
include hlen hl
theorem rflow_ev : Ev (fun k => ebbtideref15_Flow.f k n hold arcs s t h l) (flowR hold n arcs s t h l) := by
 unfold ebbtideref15_Flow.f flowR
 refine Ev.bind (reasked_ev n hold arcs s t h) ?_
 by_cases c : expErr n arcs s t h = 0
 ·obtain ⟨h1, h2, h3, h4⟩ := expErr_ok c
  simp only [c, if_true]
  refine Ev.bind (checkQ_ev hlen hl) ?_
  by_cases d : (planR hold n arcs s t h l).2 = 0
  ·simp only [d, if_true]
   obtain ⟨k0, -, -⟩ := planR_ok d
   have ho := mergedR_ok k0
   refine Ev.bind (rmerged_ev hlen hl) (Ev.bind (arcs_ev h1 h4 h2 h3) ?_)
   refine rflow_loop h1 h4 (merged_len hlen k0) ho.may (gridKinds n h hold s t arcs) (by rw [gridKinds_length]; exact gridArcs_length h1 h4) ?_ (gridKinds n h hold s t arcs).length 0 (by omega)
   intro k hk
   rw [kinds_eq] at hk
   rcases List.mem_append.1 hk with hk | hk
   ·rcases List.mem_append.1 hk with hk | hk
    ·obtain ⟨a, ha, ⟨i, hi, hm⟩ | ⟨v, hv, hm⟩⟩ := mem_kindsB.1 hk
     ·rw [mvAt_some] at hm; rw [hm.2]; show -1000000 ≤ (a : Int) ∧ (a : Int) ≤ 1000000; omega
     ·rw [wtAt_some] at hm; rw [hm.2]; show -1000000 ≤ (a : Int) ∧ (a : Int) ≤ 1000000; omega
    ·unfold kEnds at hk
     obtain ⟨a, ha, rfl⟩ := List.mem_map.1 hk
     have := List.mem_range.1 ha
     show -1000000 ≤ (a : Int) ∧ (a : Int) ≤ 1000000; omega
   ·unfold kEnds at hk
    obtain ⟨a, ha, rfl⟩ := List.mem_map.1 hk
    have := List.mem_range.1 ha
    show -1000000 ≤ (a : Int) ∧ (a : Int) ≤ 1000000; omega
  ·simp only [d, if_false]; exact Ev.now _
 ·simp only [c, if_false]; exact Ev.now _
theorem pflow_ev : Ev (fun k => expand_Flow.f k n hold arcs s t h l) (flowR hold n arcs s t h l) := by
 unfold expand_Flow.f flowR
 refine Ev.bind (easked_ev n hold arcs s t h) ?_
 by_cases c : expErr n arcs s t h = 0
 ·obtain ⟨h1, h2, h3, h4⟩ := expErr_ok c
  simp only [c, if_true]
  refine Ev.bind (checkP_ev hlen hl) ?_
  by_cases d : (planR hold n arcs s t h l).2 = 0
  ·simp only [d, if_true]
   obtain ⟨k0, -, -⟩ := planR_ok d
   have ho := mergedR_ok k0
   have e1 : stocksR n arcs s t h l = (SM n arcs h (mergedR n arcs s t h l).1, 0) := by unfold stocksR; rw [if_pos k0]
   have e2 : mergeR l = ((mergedR n arcs s t h l).1, 0) := by unfold mergeR; rw [if_pos ho.fit, ho.is]
   have hS := stocksP_ev (hold := hold) (n := n) (arcs := arcs) (s := s) (t := t) (h := h) hlen hl
   have hM := moves_ev l hlen hl
   rw [e1] at hS
   rw [e2] at hM
   refine Ev.bind hS (Ev.bind hM ?_)
   have hsrt : (mergedR n arcs s t h l).1.Pairwise mlt := by rw [ho.is]; exact (mergeL_is l).sorted
   have hml := merged_len hlen k0
   have hok := okNet_of h1 h4
   have hfo : flowOk n h (gridMoves n h hold s t arcs) (gridArcs n h hold s t arcs).length (SM n arcs h (mergedR n arcs s t h l).1) (mergedR n arcs s t h l).1 = true := by
    unfold flowOk
    simp only [Bool.and_eq_true, decide_eq_true_eq]
    refine ⟨⟨mat_length _ _ _, List.all_eq_true.2 fun r hr => ?_⟩, hml, List.all_eq_true.2 fun m hm => ?_⟩
    ·unfold SM mat row at hr
     obtain ⟨a, _, rfl⟩ := List.mem_map.1 hr
     rw [List.length_map, List.length_range]
     exact decide_eq_true rfl
    ·have hy := ho.may m hm
     obtain ⟨j, hj, e⟩ := idx_of (V := n) (hold := hold) h1 hy
     have hlt := (List.getElem?_eq_some_iff.1 hj).1
     have hKg : (kindsB n h hold s t arcs (h.toNat + 1)).length ≤ (gridArcs n h hold s t arcs).length := by
      unfold gridArcs
      rw [arcs1, List.length_append, List.length_append, List.length_map]; omega
     have a0 := hy.a0
     have a1 := hy.a1
     have b0 := hy.b0
     have b1 := hy.b1
     have f3 := (arcAt_ok h1 a0 a1).f3
     have hln := h1.len
     rw [e]
     exact decide_eq_true ⟨⟨a0, by omega, b0, by omega⟩, by omega, by omega⟩
   simp only [show (okNet n h arcs = true ∧ (0 ≤ s ∧ s < n ∧ 0 ≤ t ∧ t < n)) ∧ flowOk n h (gridMoves n h hold s t arcs) (gridArcs n h hold s t arcs).length (SM n arcs h (mergedR n arcs s t h l).1) (mergedR n arcs s t h l).1 = true from ⟨⟨hok, h2.1, h2.2, h3.1, h3.2⟩, hfo⟩, and_self, if_true]
   rw [flow_all h1 h4 h2 h3 ho.ends.2.2.2.2 hml hsrt ho.may]
   exact Ev.now _
  ·simp only [d, if_false]; exact Ev.now _
 ·simp only [c, if_false]; exact Ev.now _
end
theorem flowR_length (hold : Bool) (n : Int) (arcs : List S54) (s t h : Int) (l : List S85) : (flowR hold n arcs s t h l).1.length ≤ 300000 := by
 unfold flowR
 split
 ·rename_i c
  obtain ⟨h1, h2, h3, h4⟩ := expErr_ok c
  split
  ·rw [List.length_map, gridKinds_length]; exact gridArcs_length h1 h4
  ·exact Nat.zero_le _
 ·exact Nat.zero_le _
end Go.Proofs.Ytfhkkbpkajfdlaa.P
end
section
namespace Go.Proofs.Ytfhkkbpkajfdlaa.Q
open Go.RowKit Go.Proofs.YtfhkkbpkajfdlaaW.PrintWords Go.Proofs.YtfhkkbpkajfdlaaW.PrintLast Go.Proofs.YtfhkkbpkajfdlaaW.PrintMore
set_option linter.unusedVariables false
set_option linter.unusedSimpArgs false
def ebbtidelaw15_ExpandFlows.f (k : Nat) (a0_0 : Int) (a0_1 : Bool) (l0_2 : List (S80)) (a0_3 : Int) (a0_4 : Int) (a0_5 : Int) (l0_6 : List (S96)) : Option (Bool) := (ebbtidelaw14_Read.f k a0_0 a0_1 l0_2 a0_3 a0_4 a0_5 l0_6).bind fun bt715 => ((expand_Flow.f k bt715.1 bt715.2.1 bt715.2.2.1 bt715.2.2.2.1 bt715.2.2.2.2.1 bt715.2.2.2.2.2.1 bt715.2.2.2.2.2.2).bind fun bt727 => ((ebbtideref15_Flow.f k bt715.1 bt715.2.1 bt715.2.2.1 bt715.2.2.2.1 bt715.2.2.2.2.1 bt715.2.2.2.2.2.1 bt715.2.2.2.2.2.2).bind fun bt731 => ((ebbtidelaw15_awake.f k).bind fun t735 => (if t735 = true then ((ebbtideref03_SameInts.f k bt727.1 bt731.1).bind fun t736 => (if t736 = true then (some (bt727.2 == bt731.2)) else (some false))) else (some false)))))
set_option maxHeartbeats 8000000 in
set_option maxRecDepth 100000 in
theorem ebbtidelaw15_ExpandFlows.calls (k : Nat) (a0_0 : Int) (a0_1 : Bool) (A0_2 : Option Addr) (c0_2 : Nat) (l0_2 : List (S80)) (a0_3 : Int) (a0_4 : Int) (a0_5 : Int) (A0_6 : Option Addr) (c0_6 : Nat) (l0_6 : List (S96)) (r : Bool) (w : World) (hr0_2 : Kd.C k80 w A0_2 l0_2.length l0_2) (hc0_2 : l0_2.length ≤ c0_2) (hr0_6 : Kd.C k96 w A0_6 l0_6.length l0_6) (hc0_6 : l0_6.length ≤ c0_6) (h : ebbtidelaw15_ExpandFlows.f k a0_0 a0_1 l0_2 a0_3 a0_4 a0_5 l0_6 = some r) (hrt : r = true := by first | rfl | exact HRT.out | assumption) :
  Calls Try.prog 8 #[.agg #[.int .u8 a0_0, .bool a0_1, .slice A0_2 l0_2.length c0_2, .int .u8 a0_3, .int .u8 a0_4, .int .u8 a0_5, .slice A0_6 l0_6.length c0_6]] w fun e w' => e = .returned (.bool r) ∧ Below w.heap.size w w' := by
 have HRT := am_ hrt; clear hrt; have hu60 := Try.underlying60; have hu24 := Try.underlying24; have HR0_2 := am_ hr0_2; have HC0_2 := am_ hc0_2; clear hr0_2 hc0_2; have HR0_6 := am_ hr0_6; have HC0_6 := am_ hc0_6; clear hr0_6 hc0_6; have HB := am_ (Below.refl w.heap.size w); have H : ((ebbtidelaw14_Read.f k a0_0 a0_1 l0_2 a0_3 a0_4 a0_5 l0_6).bind fun bt715 => ((expand_Flow.f k bt715.1 bt715.2.1 bt715.2.2.1 bt715.2.2.2.1 bt715.2.2.2.2.1 bt715.2.2.2.2.2.1 bt715.2.2.2.2.2.2).bind fun bt727 => ((ebbtideref15_Flow.f k bt715.1 bt715.2.1 bt715.2.2.1 bt715.2.2.2.1 bt715.2.2.2.2.1 bt715.2.2.2.2.2.1 bt715.2.2.2.2.2.2).bind fun bt731 => ((ebbtidelaw15_awake.f k).bind fun t735 => (if t735 = true then ((ebbtideref03_SameInts.f k bt727.1 bt731.1).bind fun t736 => (if t736 = true then (some (bt727.2 == bt731.2)) else (some false))) else (some false)))))) = some r := h; clear h; replace H := Option.bind_eq_some_iff.mp H; obtain ⟨⟨t715, t716, t717, t720, t721, t722, t723⟩, A20, H⟩ := H; replace H : ((expand_Flow.f k t715 t716 t717 t720 t721 t722 t723).bind fun bt727 => ((ebbtideref15_Flow.f k t715 t716 t717 t720 t721 t722 t723).bind fun bt731 => ((ebbtidelaw15_awake.f k).bind fun t735 => (if t735 = true then ((ebbtideref03_SameInts.f k bt727.1 bt731.1).bind fun t736 => (if t736 = true then (some (bt727.2 == bt731.2)) else (some false))) else (some false))))) = some r := H; have A2 := am_ A20; clear A20; replace H := Option.bind_eq_some_iff.mp H; obtain ⟨⟨t727, t730⟩, A30, H⟩ := H; replace H : ((ebbtideref15_Flow.f k t715 t716 t717 t720 t721 t722 t723).bind fun bt731 => ((ebbtidelaw15_awake.f k).bind fun t735 => (if t735 = true then ((ebbtideref03_SameInts.f k t727 bt731.1).bind fun t736 => (if t736 = true then (some (t730 == bt731.2)) else (some false))) else (some false)))) = some r := H; have A3 := am_ A30; clear A30; replace H := Option.bind_eq_some_iff.mp H; obtain ⟨⟨t731, t734⟩, A40, H⟩ := H; replace H : ((ebbtidelaw15_awake.f k).bind fun t735 => (if t735 = true then ((ebbtideref03_SameInts.f k t727 t731).bind fun t736 => (if t736 = true then (some (t730 == t734)) else (some false))) else (some false))) = some r := H; have A4 := am_ A40; clear A40; replace H := Option.bind_eq_some_iff.mp H; obtain ⟨t735, A50, H⟩ := H; replace H : (if t735 = true then ((ebbtideref03_SameInts.f k t727 t731).bind fun t736 => (if t736 = true then (some (t730 == t734)) else (some false))) else (some false)) = some r := H; have A5 := am_ A50; clear A50
 by_cases c6 : t735 = true
 ·subst c6
  have H1 : ((ebbtideref03_SameInts.f k t727 t731).bind fun t736 => (if t736 = true then (some (t730 == t734)) else (some false))) = some r := by rw [if_pos rfl] at H; exact H
  clear H; have H := H1; clear H1; replace H := Option.bind_eq_some_iff.mp H; obtain ⟨t736, A70, H⟩ := H; replace H : (if t736 = true then (some (t730 == t734)) else (some false)) = some r := H; have A7 := am_ A70; clear A70
  by_cases c8 : t736 = true
  ·subst c8
   have H1 : (some (t730 == t734)) = some r := by rw [if_pos rfl] at H; exact H
   clear H; have H := H1; clear H1; obtain rfl := Option.some.inj H
   go_enter Try.func8, Try.ntmps8
   go_wp2_with (first | ((with_reducible refine gate_dst (N := 1) rfl ?_); refine bx_ 1 #[.int .u8 a0_0, .bool a0_1, .slice A0_2 l0_2.length c0_2, .int .u8 a0_3, .int .u8 a0_4, .int .u8 a0_5, .slice A0_6 l0_6.length c0_6] 60 ?_; intro gb714 hg w9 BK714 hb; have GE714 := ge_ (w := w) hg; replace HB := hst_ hb; clear hb hg; obtain ⟨hcz10_0, hcz10_1, hcz10_2, hcz10_3, hcz10_4, hcz10_5, hcz10_6, hfz10_0, hfz10_1, hfz10_2, hfz10_3, hfz10_4, hfz10_5, hfz10_6⟩ := cf7_ BK714.out) | ((with_reducible refine gate_callee (f := 27) rfl ?_); refine cl_ 14 Try.func27 (ebbtidelaw14_Read.calls k a0_0 a0_1 _ _ l0_2 a0_3 a0_4 a0_5 _ _ l0_6 t715 t716 t717 t720 t721 t722 t723 _ (cb_ HR0_2.out) HC0_2.out (cb_ HR0_6.out) HC0_6.out A2.out) ?_; rintro e w11 ⟨v718, v724, rfl, ho0, ho1, hb⟩; refine ⟨_, rfl, ?_⟩; have HO719 := am_ (Kd.R_lower ho0 (below_size hb_)); have HO725 := am_ (Kd.R_lower ho1 (below_size hb_)); replace BK714 := am_ (bb_ BK714.out hb); replace HB := hst_ hb; (try clear hb); (try clear hb2); (try clear hk); (try clear hi); (try clear ho0); (try clear ho1)) | ((with_reducible refine gate_dst (N := 3) rfl ?_); refine bx_ 3 #[.int .i64 0, .bool false, .slice none 0 0] 24 ?_; intro gb726 hg w12 BK726 hb; replace HO719 := am_ (Kd.R_below (rq_ HO719.out) hb); replace HO725 := am_ (Kd.R_below (rq_ HO725.out) hb); have GE726 := ge_ (w := w) hg; replace HB := hst_ hb; have NB714_726 := am_ (nl_ BK714.out hg); have NB726_714 := am_ (ng_ BK714.out hg); replace BK714 := am_ (bb_ BK714.out hb); clear hb hg; have hnb13 := NB726_714.out; have hnc13 := NB714_726.out; obtain ⟨hcz14_0, hcz14_1, hcz14_2, hfz14_0, hfz14_1, hfz14_2⟩ := cf3_ BK726.out; obtain ⟨Ao15, co15, eo15⟩ := Kd.R_slice HO719.out; subst eo15; obtain ⟨Ao16, co16, eo16⟩ := Kd.R_slice HO725.out; subst eo16) | ((with_reducible refine gate_callee (f := 28) rfl ?_); refine goesL_ (some 26) rfl rfl Try.func28 (by kernel_rfl) rfl #[.agg #[.int .i64 t715, .bool t716, .slice Ao15 t717.length co15], .int .i64 t720, .int .i64 t721, .int .i64 t722, .slice Ao16 t723.length co16] rfl mt_ ?_; (with_reducible refine (expand_Flow.calls k t715 t716 _ _ t717 t720 t721 t722 _ _ t723 t727 t730 _ ?side1 ?side2 ?side3 ?side4 A3.out).mono ?_); (case side1 => refine (Kd.R_reads' (e := 54) (base := w.heap.size) (ok := fun k_ => True) (n := t717.length) (c := co15) ?_).2.2; exact q28_); (case side2 => exact (Kd.R_reads' HO719.out).2.1); (case side3 => refine (Kd.R_reads' (e := 85) (base := w.heap.size) (ok := fun k_ => True) (n := t723.length) (c := co16) ?_).2.2; exact q29_); (case side4 => exact (Kd.R_reads' HO725.out).2.1); rintro e w17 ⟨v728, rfl, ho0, hb⟩; refine ⟨_, rfl, ?_⟩; replace HO719 := am_ (Kd.R_below q28_ hb); replace HO725 := am_ (Kd.R_below q29_ hb); have HO729 := am_ (Kd.R_lower ho0 (below_size hb_)); replace BK714 := am_ (blk_below (g := gb714) (o := .cells #[.int .u8 a0_0, .bool a0_1, .slice A0_2 l0_2.length c0_2, .int .u8 a0_3, .int .u8 a0_4, .int .u8 a0_5, .slice A0_6 l0_6.length c0_6] 60 (0, 0)) (by refine bq_ ?_; refine blk_far ?_ NB714_726.out _; refine bq_ ?_; refine blk_far ?_ NB714_726.out _; refine bq_ ?_; refine blk_far ?_ NB714_726.out _; refine bq_ ?_; exact BK714.out) hb); replace BK726 := am_ (blk_below (g := gb726) (o := .cells #[.int .i64 t715, .bool t716, .slice Ao15 t717.length co15] 24 (0, 0)) (by refine bq_ ?_; refine blk_put (cs := #[.int .i64 t715, .bool t716, .slice none 0 0]) ?_ 2 _ rfl; refine bq_ ?_; refine blk_put (cs := #[.int .i64 t715, .bool false, .slice none 0 0]) ?_ 1 _ rfl; refine bq_ ?_; refine blk_put (cs := #[.int .i64 0, .bool false, .slice none 0 0]) ?_ 0 _ rfl; refine bq_ ?_; exact BK726.out) hb); replace HB := hst_ hb; (try clear hb); (try clear hb2); (try clear hk); (try clear hi); (try clear ho0); obtain ⟨hcz18_0, hcz18_1, hcz18_2, hfz18_0, hfz18_1, hfz18_2⟩ := cf3_ BK726.out) | ((with_reducible refine gate_callee (f := 29) rfl ?_); refine goesL_ (some 35) rfl rfl Try.func29 (by kernel_rfl) rfl #[.agg #[.int .i64 t715, .bool t716, .slice Ao15 t717.length co15], .int .i64 t720, .int .i64 t721, .int .i64 t722, .slice Ao16 t723.length co16] rfl mt_ ?_; (with_reducible refine (ebbtideref15_Flow.calls k t715 t716 _ _ t717 t720 t721 t722 _ _ t723 t731 t734 _ ?side1 ?side2 ?side3 ?side4 A4.out).mono ?_); (case side1 => repeat (first | exact (Kd.R_reads' HO719.out).2.2 | (with_reducible refine Kd.C_alloc ?_ _) | (with_reducible refine Kd.C_drewN ?_ _) | (with_reducible refine Kd.C_drew ?_))); (case side2 => exact (Kd.R_reads' HO719.out).2.1); (case side3 => repeat (first | exact (Kd.R_reads' HO725.out).2.2 | (with_reducible refine Kd.C_alloc ?_ _) | (with_reducible refine Kd.C_drewN ?_ _) | (with_reducible refine Kd.C_drew ?_))); (case side4 => exact (Kd.R_reads' HO725.out).2.1); rintro e w19 ⟨v732, rfl, ho0, hb⟩; refine ⟨_, rfl, ?_⟩; replace HO719 := am_ (Kd.R_below (rq_ HO719.out) hb); replace HO725 := am_ (Kd.R_below (rq_ HO725.out) hb); have HO733 := am_ (Kd.R_lower (Kd.R_new' ho0 (Kd.R_lt (rq_ HO729.out))) (below_size hb_)); replace HO729 := am_ (Kd.R_elder' (rq_ HO729.out) (Kd.R_base ho0) hb); replace BK714 := am_ (bb_ BK714.out hb); replace BK726 := am_ (bb_ BK726.out hb); replace HB := hst_ hb; (try clear hb); (try clear hb2); (try clear hk); (try clear hi); (try clear ho0)) | ((with_reducible refine gate_callee (f := 14) rfl ?_); refine cl_ 38 Try.func14 (ebbtidelaw15_awake.calls k  true _ A5.out) ?_; rintro e w20 ⟨rfl, hb⟩; refine ⟨_, rfl, ?_⟩; replace HO719 := am_ (Kd.R_below (rq_ HO719.out) hb); replace HO725 := am_ (Kd.R_below (rq_ HO725.out) hb); replace HO729 := am_ (Kd.R_below (rq_ HO729.out) hb); replace HO733 := am_ (Kd.R_below (rq_ HO733.out) hb); replace BK714 := am_ (bb_ BK714.out hb); replace BK726 := am_ (bb_ BK726.out hb); replace HB := hst_ hb; (try clear hb); (try clear hb2); (try clear hk); (try clear hi); obtain ⟨Ao21, co21, eo21⟩ := Kd.R_slice HO729.out; subst eo21; obtain ⟨Ao22, co22, eo22⟩ := Kd.R_slice HO733.out; subst eo22) | (go_at_call 30; (with_reducible refine (ebbtideref03_SameInts.calls k _ _ t727 _ _ t731 true _ ?side1 ?side2 ?side3 ?side4 A7.out).mono ?_); (case side1 => repeat (first | exact (Kd.R_reads' HO729.out).2.2 | (with_reducible refine Kd.C_alloc ?_ _) | (with_reducible refine Kd.C_drewN ?_ _) | (with_reducible refine Kd.C_drew ?_))); (case side2 => exact (Kd.R_reads' HO729.out).2.1); (case side3 => repeat (first | exact (Kd.R_reads' HO733.out).2.2 | (with_reducible refine Kd.C_alloc ?_ _) | (with_reducible refine Kd.C_drewN ?_ _) | (with_reducible refine Kd.C_drew ?_))); (case side4 => exact (Kd.R_reads' HO733.out).2.1); rintro e w' ⟨rfl, ⟨nd, rfl⟩⟩))
   go_ret
   exact ⟨er_, hb_⟩
  ·replace c8 := Bool.eq_false_iff.mpr c8
   subst c8
   have H1 : (some false) = some r := by rw [if_neg (show ¬ (false = true) by decide)] at H; exact H
   clear H; have H := H1; clear H1; exact absurd ((Option.some.inj H).trans HRT.out) (by decide)
 ·replace c6 := Bool.eq_false_iff.mpr c6
  subst c6
  have H1 : (some false) = some r := by rw [if_neg (show ¬ (false = true) by decide)] at H; exact H
  clear H; have H := H1; clear H1; exact absurd ((Option.some.inj H).trans HRT.out) (by decide)
end Go.Proofs.Ytfhkkbpkajfdlaa.Q
end
section
namespace Go.Proofs.Ytfhkkbpkajfdlaa.R
open Go.RowKit Go.Proofs.Ytfhkkbpkajfdlaa.Q Go.Proofs.YtfhkkbpkajfdlaaW.PrintWords Go.Proofs.YtfhkkbpkajfdlaaW.PrintLast Go.Proofs.YtfhkkbpkajfdlaaW.PrintMore
def ExpandFlows.Pure : Prop := ∀ N0 : Nat, ∀ (x0 : S60), g60 N0 x0 → ∃ k, ebbtidelaw15_ExpandFlows.f k x0.f0.f0 x0.f0.f1 x0.f0.f2 x0.f0.f3 x0.f0.f4 x0.f0.f5 x0.f1 = some true
end Go.Proofs.Ytfhkkbpkajfdlaa.R
end
section
namespace Go.Proofs.Ytfhkkbpkajfdlaa.Pure
open Go.RowKit Go.Proofs.Ytfhkkbpkajfdlaa.Q Go.Proofs.Ytfhkkbpkajfdlaa.P Go.Proofs.YtfhkkbpkajfdlaaW.PrintWords Go.Proofs.YtfhkkbpkajfdlaaW.PrintLast Go.Proofs.YtfhkkbpkajfdlaaW.PrintMore
open Go.Proofs.Ytfhkkbpkajfdlaa.R
theorem ExpandFlows : ExpandFlows.Pure := by
 intro N0 x0 g
 apply Ev.rounds
 obtain ⟨n, arcs, s, t, h, l, hs, hr⟩ := read_ev x0 g
 have hlen := small_len hs
 have hl := small_ok hs
 unfold ebbtidelaw15_ExpandFlows.f
 refine Ev.bind hr ?_
 refine Ev.bind (pflow_ev hlen hl) (Ev.bind (rflow_ev hlen hl) (Ev.bind awake15_ev ?_))
 simp only [if_true]
 refine Ev.bind (sameInts_ev _ (by have := flowR_length x0.f0.f1 n arcs s t h l; omega)) ?_
 simp only [if_true, beq_self_eq_true]
 exact Ev.now _
end Go.Proofs.Ytfhkkbpkajfdlaa.Pure
end
section
namespace Go.Proofs.Ytfhkkbpkajfdlaa
open Go Go.RowKit
def ioHead : List Char := List.map Char.ofNat [104, 97, 114, 110, 101, 115, 115, 32, 53, 97, 52, 98, 49, 100, 102, 98, 102, 48, 99, 51, 55, 54, 100, 49, 48, 99, 102, 101, 49, 101, 100, 101, 53, 51, 57, 51, 100, 99, 57, 100, 102, 101, 50, 57, 49, 54, 57, 99, 50, 100, 99, 49, 55, 50, 50, 101, 97, 53, 54, 56, 48, 100, 54, 51, 50, 54, 98, 49, 56, 99, 52, 52, 32, 99, 117, 116, 32]
def ioRest : List Char := List.map Char.ofNat [97, 116, 32, 101, 98, 98, 116, 105, 100, 101, 47, 101, 98, 98, 116, 105, 100, 101, 108, 97, 119, 49, 53, 46, 69, 120, 112, 97, 110, 100, 70, 105, 116, 115, 32, 101, 98, 98, 116, 105, 100, 101, 47, 101, 98, 98, 116, 105, 100, 101, 108, 97, 119, 49, 53, 46, 69, 120, 112, 97, 110, 100, 66, 117, 105, 108, 100, 115, 32, 101, 98, 98, 116, 105, 100, 101, 47, 101, 98, 98, 116, 105, 100, 101, 108, 97, 119, 49, 53, 46, 69, 120, 112, 97, 110, 100, 66, 97, 99, 107, 32, 101, 98, 98, 116, 105, 100, 101, 47, 101, 98, 98, 116, 105, 100, 101, 108, 97, 119, 49, 53, 46, 69, 120, 112, 97, 110, 100, 77, 111, 118, 101, 115, 32, 101, 98, 98, 116, 105, 100, 101, 47, 101, 98, 98, 116, 105, 100, 101, 108, 97, 119, 49, 53, 46, 69, 120, 112, 97, 110, 100, 82, 117, 110, 115, 32, 101, 98, 98, 116, 105, 100, 101, 47, 101, 98, 98, 116, 105, 100, 101, 108, 97, 119, 49, 53, 46, 69, 120, 112, 97, 110, 100, 70, 108, 111, 119, 115, 32, 101, 98, 98, 116, 105, 100, 101, 47, 101, 98, 98, 116, 105, 100, 101, 108, 97, 119, 49, 53, 46, 69, 120, 112, 97, 110, 100, 80, 108, 97, 110, 115]
set_option maxRecDepth 100000 in
theorem io_eq : Try.pinned.checked.prog.initOrder = String.ofList (ioHead ++ ioRest) := by kernel_rfl
theorem io_toList : Try.pinned.checked.prog.initOrder.toList = ioHead ++ ioRest := by rw [io_eq]; exact String.toList_ofList
def ioCut : List Char := List.map Char.ofNat [99, 117, 116]
set_option maxRecDepth 100000 in
theorem io_words (r : List Char) : behindMainWord (wordsSigns (ioHead ++ r)) = ioCut :: wordsSigns r := by kernel_rfl
theorem io_behind : ∃ X, behindMainWord (wordsSigns Try.pinned.checked.prog.initOrder.toList) = ioCut :: X := ⟨_, by rw [io_toList]; exact io_words _⟩
theorem io_cut : ioCut = "cut".toList := by decide +kernel
theorem io_strip (X : List (List Char)) : stripLifts liftWords (ioCut :: X) = ([], ioCut :: X) := by kernel_rfl
theorem headLifts_cut (P : Program) (h : ∃ X, behindMainWord (wordsSigns P.initOrder.toList) = ioCut :: X) : P.headLifts = [] := by
 obtain ⟨X, e⟩ := h
 unfold Program.headLifts
 rw [e, io_strip]
 rfl
theorem mayEnter_cut (P : Program) (h : ∃ X, behindMainWord (wordsSigns P.initOrder.toList) = ioCut :: X) (h1 : P.laysLater = false) (h2 : P.bearsReflect = false) (h3 : P.doorFits [] = true) : P.mayEnter = true := by
 obtain ⟨X, e⟩ := h
 unfold Program.mayEnter
 rw [e]
 simp only [io_strip, h1, h2, h3]
 rw [io_cut]
 simp
theorem liftsFinal_cut (P : Program) (h : ∃ X, behindMainWord (wordsSigns P.initOrder.toList) = ioCut :: X) : P.liftsFinal = false := by
 have h0 := headLifts_cut P h
 obtain ⟨X, e⟩ := h
 unfold Program.liftsFinal
 rw [e, h0]
 rw [io_cut]
 simp
theorem make_cut (P : Program) (h : ∃ X, behindMainWord (wordsSigns P.initOrder.toList) = ioCut :: X) : P.make = some .cut := by
 obtain ⟨X, e⟩ := h
 unfold Program.make
 rw [e]
 simp only [io_cut]
 rw [if_neg (by decide +kernel), if_pos (by simp)]
theorem p_mayEnter : Try.pinned.checked.prog.mayEnter = true := mayEnter_cut _ io_behind (by kernel_rfl) (by kernel_rfl) (by kernel_rfl)
theorem p_liftsFinal : Try.pinned.checked.prog.liftsFinal = false := liftsFinal_cut _ io_behind
theorem p_make : Try.pinned.checked.prog.make = some .cut := make_cut _ io_behind
theorem p_laidOut : laidOutB Try.pinned.checked.prog = true := by kernel_rfl
theorem p_mapsRowed : mapsRowed Try.pinned.checked.prog = true := by kernel_rfl
theorem p_stopsHeard : Try.pinned.checked.prog.stopsHeard = true := by kernel_rfl
theorem p_stops : Try.pinned.checked.prog.stops = [] := by kernel_rfl
theorem p_stopKnobs : Try.pinned.checked.prog.stopKnobs = [] := by kernel_rfl
end Go.Proofs.Ytfhkkbpkajfdlaa
end
section
namespace Go.Proofs.Ytfhkkbpkajfdlaa.expandFlows
open Go.ChangeShapes Go.WideShapes Go.ChangeAt Go.RowKit
open Go.ChangeMaps (open_string shut_string)
open Go.Proofs.Ytfhkkbpkajfdlaa.Q Go.Proofs.Ytfhkkbpkajfdlaa.R Go.Proofs.YtfhkkbpkajfdlaaW.PrintWords
set_option linter.unusedVariables false
theorem own : ownKnob Try.prog.godebug = none := by kernel_rfl
theorem laidOut : laidOutB Try.prog = true := by kernel_rfl
theorem open60 {w : World} {x : S60} {cs : List Value} (h : k60.K w x cs) : ∃ (A2 : Option Addr) (c2 : Nat) (A6 : Option Addr) (c6 : Nat), cs = [.int .u8 x.f0.f0, .bool x.f0.f1, .slice A2 x.f0.f2.length c2, .int .u8 x.f0.f3, .int .u8 x.f0.f4, .int .u8 x.f0.f5, .slice A6 x.f1.length c6] ∧ x.f0.f2.length ≤ c2 ∧ Kd.C k80 w A2 x.f0.f2.length x.f0.f2 ∧ x.f1.length ≤ c6 ∧ Kd.C k96 w A6 x.f1.length x.f1 := by
 obtain ⟨_, _, rfl, ⟨_, _, rfl, rfl, ⟨_, _, rfl, rfl, ⟨_, _, rfl, ⟨A2, c2, rfl, l2, g2⟩, ⟨_, _, rfl, rfl, ⟨_, _, rfl, rfl, rfl⟩⟩⟩⟩⟩, ⟨A6, c6, rfl, l6, g6⟩⟩ := h
 exact ⟨A2, c2, A6, c6, rfl, l2, g2, l6, g6⟩
set_option maxRecDepth 100000 in
theorem lifted (os : Os) (started : os.Started) (H : Type) (enc : TypeId × Value → H) :
 ReturnsInHanded {} Try.checked os 8 .any (Rows.expandFlowsSpec.pre6 enc Try.prog Try.f8 Rows.expandFlowsRow.domain false) (Rows.expandFlowsSpec.post enc Try.prog Try.f8 false true false false) := by
 refine returnsInHanded_of_change_sized (C := Try.checked) own started (by kernel_rfl) Try.func8
  (ChangeSpec.witness6 (enc := enc) (C := Try.checked) false ⟨#[], #[.agg #[.int .u8 0, .bool false, .slice none 0 0, .int .u8 0, .int .u8 0, .int .u8 0, .slice none 0 0]], []⟩ 8 (by kernel_rfl) (by kernel_rfl) (by kernel_rfl) (by kernel_rfl)) ?_
 intro W base args ds gs before hval0 hW hcnd hsz0 _
 have hval : ∀ (j : Nat) t v, Try.f8.params[j]? = some t → args[j]? = some v → Value.okWide Try.prog W .any base t v := hval0
 have hW' := hW
 obtain ⟨p, q, hA0, hV, rfl, hfz, hnd⟩ := hW
 have hA : DataW.TrodAll enc Try.prog W 0 (fun _ => true) true Try.f8.params.toList args.toList ds p := hA0
 rw [Try.params8] at hA hval
 obtain ⟨v0, vs0, d0, ds0, p0, q0, hargs, rfl, rfl, h0, r0⟩ := trodAll_cons hA
 obtain ⟨rfl, rfl, rfl⟩ := trodAll_nil r0
 obtain rfl : args = #[v0] := by cases args; simp_all
 obtain ⟨rfl, rfl⟩ := trodVars_none hV
 have k0 := h0
 have lt0 : ∀ x ∈ p0, x.block < W.heap.size := by obtain ⟨m, hm⟩ := k0; exact DataW.trod_lt m _ _ _ hm
 obtain ⟨fu0, hf0⟩ := h0
 obtain ⟨x0, K0, G0⟩ := reads60 enc W 0 (fun _ => true) true fu0 _ _ hf0
 obtain ⟨cs0, rfl, hsz0⟩ := okWide_struct Try.underlying60 (hval 0 60 v0 rfl rfl)
 have K0' : (k60).K W x0 cs0.toList := K0
 obtain ⟨ao0_2, co0_2, ao0_6, co0_6, es0, hc0_2, hr0_2, hc0_6, hr0_6⟩ := open60 K0'
 obtain rfl : cs0 = _ := Array.toList_inj.1 es0
 have h := Pure.ExpandFlows _ x0 (G0 _ (Nat.le_refl _))
 obtain ⟨k, h⟩ := h
 refine (ebbtidelaw15_ExpandFlows.calls k x0.f0.f0 x0.f0.f1 _ _ x0.f0.f2 x0.f0.f3 x0.f0.f4 x0.f0.f5 _ _ x0.f1 true W hr0_2 hc0_2 hr0_6 hc0_6 h).mono fun e W' ⟨he, bel0⟩ => ?_
 have bel : Below W.heap.size W W' := bel0
 subst he
 exact ⟨_, rfl, _, _, _, [], _, [], hW', trodAll_mk1 (shut_bool Try.underlying4 _), (trodAll_cons_mk (Below.trod laidOut (by kernel_rfl) (of_decide_eq_true (by kernel_rfl)) k0 bel lt0) trodAll_mk0), rfl, bel.frame _, fun h => by cases h⟩
theorem andI {a b : Bool} (x : a = true) (y : b = true) : (a && b) = true := by rw [x, y]; rfl
set_option maxRecDepth 100000 in
set_option maxHeartbeats 8000000 in
theorem closed : joinedFacts Try.pinned.checked.prog 8 Try.f8 Rows.expandFlowsSpec Rows.expandFlowsRow = true := by
 unfold joinedFacts
 exact (andI (andI (andI (andI (andI (andI (andI (andI (andI (andI (andI (andI (andI (andI (andI (andI (andI (andI (andI (andI (andI (andI (andI (andI (andI (andI (andI (andI (andI (andI (andI (by as_aux_lemma => kernel_rfl)
  p_laidOut)
  p_mapsRowed)
  (by as_aux_lemma => kernel_rfl))
  (by as_aux_lemma => kernel_rfl))
  (by as_aux_lemma => kernel_rfl))
  (by rw [p_stops]; rfl))
  (by as_aux_lemma => kernel_rfl))
  (by rw [p_stopKnobs]; rfl))
  (by as_aux_lemma => kernel_rfl))
  (by as_aux_lemma => kernel_rfl))
  (by as_aux_lemma => kernel_rfl))
  (by as_aux_lemma => kernel_rfl))
  (by as_aux_lemma => kernel_rfl))
  (by as_aux_lemma => kernel_rfl))
  (by as_aux_lemma => kernel_rfl))
  (by as_aux_lemma => kernel_rfl))
  (by as_aux_lemma => kernel_rfl))
  (by as_aux_lemma => kernel_rfl))
  (by as_aux_lemma => kernel_rfl))
  (by as_aux_lemma => kernel_rfl))
  (by as_aux_lemma => kernel_rfl))
  (by as_aux_lemma => kernel_rfl))
  (by as_aux_lemma => kernel_rfl))
  p_stopsHeard)
  p_mayEnter)
  (by rw [p_liftsFinal]; rfl))
  (by rw [p_make]; rfl))
  (by as_aux_lemma => kernel_rfl))
  (by as_aux_lemma => kernel_rfl))
  (by as_aux_lemma => kernel_rfl))
  (by as_aux_lemma => kernel_rfl))
theorem proved : Rows.ExpandFlowsSaid :=
 OpenClaim.holds_of_wide 8 Try.f8 rfl rfl rfl rfl rfl rfl rfl ⟨rfl, rfl, rfl, rfl, rfl⟩ rfl rfl rfl rfl rfl (by kernel_rfl) Try.func8 closed
  (of_decide_eq_true (by kernel_rfl)) (by unfold Func.isWrapper; first | (rw [if_pos (by decide +kernel)]; kernel_rfl) | (rw [if_neg (by decide +kernel)]; exact ⟨rfl, rfl⟩))
  (fun os started H enc _ => lifted os started H enc)
#print axioms proved
end Go.Proofs.Ytfhkkbpkajfdlaa.expandFlows
namespace Go.Proofs.Ytfhkkbpkajfdlaa
theorem expandFlows_holds : Rows.ExpandFlowsSaid := expandFlows.proved
end Go.Proofs.Ytfhkkbpkajfdlaa
end
