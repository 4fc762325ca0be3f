/- A part of the proof: words, contracts, plain lemmas. Conditions: none. -/
import Derived.Test.YtfhkkbpkajfdlaaZExpandFlows8
import Derived.Test.YtfhkkbpkajfdlaaZExpandFlows10
import Derived.Test.YtfhkkbpkajfdlaaZExpandFlows12
import Derived.Test.YtfhkkbpkajfdlaaZExpandFlows13
import Derived.Test.YtfhkkbpkajfdlaaZExpandFlows4
import Derived.Test.YtfhkkbpkajfdlaaZExpandFlows5
import Derived.Laws.Externs
section
namespace Go.Proofs.Ytfhkkbpkajfdlaa.P
set_option linter.unusedSimpArgs false
set_option linter.unusedVariables false
open Go.RowKit Go.Proofs.Ytfhkkbpkajfdlaa.Q Go.Proofs.YtfhkkbpkajfdlaaW.PrintWords Go.Proofs.YtfhkkbpkajfdlaaW.PrintLast Go.Proofs.YtfhkkbpkajfdlaaW.PrintMore
abbrev RS : Type := List S54 × List S83
def rArc (V H s t a : Int) (g : RS) (i : Nat) (x : S54) : RS :=
 if a + x.f3 ≤ H ∧ (x.f1 != s && x.f0 != t) = true then (g.1 ++ [⟨a * V + x.f0, (a + x.f3) * V + x.f1, x.f2, 0⟩], g.2 ++ [⟨true, false, (i : Int), 0, a⟩]) else g
def rArcs (V H s t : Int) (l0 : List S54) (a : Int) (g : RS) (n : Nat) : RS := (List.range n).foldl (fun g i => rArc V H s t a g i (l0.getD i z54)) g
def rWait (V H : Int) (hold : Bool) (s t a : Int) (g : RS) (v : Nat) : RS :=
 if a < H ∧ ((hold && (v : Int) != s) && (v : Int) != t) = true then (g.1 ++ [⟨a * V + (v : Int), (a + 1) * V + (v : Int), 1099511627776, 0⟩], g.2 ++ [⟨false, true, 0, (v : Int), a⟩]) else g
def rWaits (V H : Int) (hold : Bool) (s t a : Int) (g : RS) (n : Nat) : RS := (List.range n).foldl (fun g v => rWait V H hold s t a g v) g
def rAts (V H : Int) (hold : Bool) (s t : Int) (l0 : List S54) (n : Nat) : RS := (List.range n).foldl (fun (g : RS) (k : Nat) => rWaits V H hold s t (k : Int) (rArcs V H s t l0 (k : Int) g l0.length) V.toNat) ([], [])
def kEnds (v : Int) (n : Nat) : List S83 := (List.range n).map (fun a : Nat => (⟨false, false, 0, v, (a : Int)⟩ : S83))
theorem kEnds_succ (v : Int) (n : Nat) : kEnds v (n + 1) = kEnds v n ++ [⟨false, false, 0, v, (n : Int)⟩] := by unfold kEnds; rw [List.range_succ, List.map_append]; rfl
theorem kEnds_length (v : Int) (n : Nat) : (kEnds v n).length = n := by unfold kEnds; rw [List.length_map, List.length_range]
theorem rArcs_succ (V H s t : Int) (l0 : List S54) (a : Int) (g : RS) (n : Nat) : rArcs V H s t l0 a g (n + 1) = rArc V H s t a (rArcs V H s t l0 a g n) n (l0.getD n z54) := by
 unfold rArcs; rw [List.range_succ, List.foldl_append]; rfl
theorem rWaits_succ (V H : Int) (hold : Bool) (s t a : Int) (g : RS) (n : Nat) : rWaits V H hold s t a g (n + 1) = rWait V H hold s t a (rWaits V H hold s t a g n) n := by
 unfold rWaits; rw [List.range_succ, List.foldl_append]; rfl
theorem rAts_succ (V H : Int) (hold : Bool) (s t : Int) (l0 : List S54) (n : Nat) : rAts V H hold s t l0 (n + 1) = rWaits V H hold s t (n : Int) (rArcs V H s t l0 (n : Int) (rAts V H hold s t l0 n) l0.length) V.toNat := by
 unfold rAts; rw [List.range_succ, List.foldl_append]; rfl
theorem rArcs_fst {V H s t : Int} {l0 : List S54} {a : Int} {g : RS} {g' : GS} (h : g.1 = g'.1) : ∀ n, (rArcs V H s t l0 a g n).1 = (arcLoop V H s t l0 a g' n).1
 | 0 => h
 | n + 1 => by
  rw [rArcs_succ, arcLoop_succ]
  have ih := rArcs_fst (V := V) (H := H) (s := s) (t := t) (l0 := l0) (a := a) h n
  unfold rArc arcStep
  split
  ·simp only [ih]
  ·exact ih
theorem rWaits_fst {V H s t : Int} {hold : Bool} {a : Int} {g : RS} {g' : GS} (h : g.1 = g'.1) : ∀ n, (rWaits V H hold s t a g n).1 = (waitLoop V H hold s t a g' n).1
 | 0 => h
 | n + 1 => by
  rw [rWaits_succ, waitLoop_succ]
  have ih := rWaits_fst (V := V) (H := H) (s := s) (t := t) (hold := hold) (a := a) h n
  unfold rWait waitStep
  split
  ·simp only [ih]
  ·exact ih
theorem rAts_fst {V H s t : Int} {hold : Bool} {l0 : List S54} : ∀ n, (rAts V H hold s t l0 n).1 = (atLoop V H hold s t l0 n).1
 | 0 => rfl
 | n + 1 => by
  rw [rAts_succ, atLoop_succ]
  exact rWaits_fst (rArcs_fst (rAts_fst n) _) _
def Bal2 (g : RS) : Prop := g.2.length = g.1.length
theorem rArcs_bal {V H s t : Int} {l0 : List S54} {a : Int} {g : RS} (h : Bal2 g) : ∀ n, Bal2 (rArcs V H s t l0 a g n) ∧ (rArcs V H s t l0 a g n).1.length ≤ g.1.length + n
 | 0 => ⟨h, Nat.le_refl _⟩
 | n + 1 => by
  rw [rArcs_succ]
  obtain ⟨h1, h2⟩ := rArcs_bal (V := V) (H := H) (s := s) (t := t) (l0 := l0) (a := a) h n
  unfold rArc Bal2 at *
  split
  ·simp only [List.length_append, List.length_cons, List.length_nil]; omega
  ·exact ⟨h1, by omega⟩
theorem rWaits_bal {V H s t : Int} {hold : Bool} {a : Int} {g : RS} (h : Bal2 g) : ∀ n, Bal2 (rWaits V H hold s t a g n) ∧ (rWaits V H hold s t a g n).1.length ≤ g.1.length + n
 | 0 => ⟨h, Nat.le_refl _⟩
 | n + 1 => by
  rw [rWaits_succ]
  obtain ⟨h1, h2⟩ := rWaits_bal (V := V) (H := H) (s := s) (t := t) (hold := hold) (a := a) h n
  unfold rWait Bal2 at *
  split
  ·simp only [List.length_append, List.length_cons, List.length_nil]; omega
  ·exact ⟨h1, by omega⟩
theorem rAts_bal {V H s t : Int} {hold : Bool} {l0 : List S54} : ∀ n, Bal2 (rAts V H hold s t l0 n)
 | 0 => rfl
 | n + 1 => by
  rw [rAts_succ]
  exact (rWaits_bal (rArcs_bal (rAts_bal n) _).1 _).1
theorem rWaits_none {V H s t : Int} {hold : Bool} {a : Int} {g : RS} (h : ¬ (hold = true ∧ a < H)) : ∀ n, rWaits V H hold s t a g n = g
 | 0 => rfl
 | n + 1 => by
  rw [rWaits_succ, rWaits_none h n]
  unfold rWait
  rw [if_neg]
  rintro ⟨h1, h2⟩
  apply h
  cases hold
  ·cases h2
  ·exact ⟨rfl, h1⟩
theorem nums {V a f : Int} (hV : 0 ≤ V ∧ V ≤ 50) (ha : 0 ≤ a ∧ a ≤ 1050000) (hf : -100 ≤ f ∧ f ≤ 100) : wrap64 (wrap64 (a * V) + f) = a * V + f := by
 have h := mulB ha.1 ha.2 hV.1 hV.2
 rw [wrapId (n := a * V) (by omega) (by omega), wrapId (by omega) (by omega)]
section
variable {V H s t : Int} {hold : Bool} {l0 : List S54}
theorem l1_ev {a : Int} {g : RS} {r : RS} (hn : NetOk V l0) (ha : 0 ≤ a ∧ a ≤ 1024) (hg : Bal2 g) (hl : g.1.length ≤ 300000)
 (hk : Ev (fun k => ebbtideref15_Arcs.l2 k s t H (rArcs V H s t l0 a g l0.length).1 (rArcs V H s t l0 a g l0.length).2 V a 0 V hold l0) r) :
 ∀ d i, i + d = l0.length → Ev (fun k => ebbtideref15_Arcs.l1 k s t H (rArcs V H s t l0 a g i).1 (rArcs V H s t l0 a g i).2 V a (i : Int) V hold l0) r := by
 intro d
 induction d with
 | zero =>
  intro i hi
  have hi : i = l0.length := by omega
  subst hi
  refine Ev.step (fun k => ?_) hk
  rw [ebbtideref15_Arcs.l1, if_neg (by omega)]
 | succ d ih =>
  intro i hi
  have hlt : i < l0.length := by omega
  have hx := hn.arcs _ (List.getElem_mem hlt)
  have hr : rd_T54 l0 (i : Int) = l0[i] := rdA_of hlt
  have hd : l0.getD i z54 = l0[i] := by rw [List.getD_eq_getElem?_getD, List.getElem?_eq_getElem hlt]; rfl
  obtain ⟨h1, h2⟩ := rArcs_bal (V := V) (H := H) (s := s) (t := t) (l0 := l0) (a := a) hg i
  have hlen := hn.len
  have hlo := hn.lo
  have hhi := hn.hi
  have b1 : (rArcs V H s t l0 a g i).1.length < 4398046511104 := by omega
  have b2 : (rArcs V H s t l0 a g i).2.length < 4398046511104 := by unfold Bal2 at h1; omega
  have hs := rArcs_succ V H s t l0 a g i
  rw [hd] at hs
  unfold rArc at hs
  have x0 := hx.f0
  have x1 := hx.f1
  have x3 := hx.f3
  have w1 : wrap64 (a + l0[i].f3) = a + l0[i].f3 := wrapId (by omega) (by omega)
  have w2 := nums (V := V) (a := a) (f := l0[i].f0) ⟨by omega, hhi⟩ ⟨ha.1, by omega⟩ ⟨by omega, by omega⟩
  have w3 := nums (V := V) (a := a + l0[i].f3) (f := l0[i].f1) ⟨by omega, hhi⟩ ⟨by omega, by omega⟩ ⟨by omega, by omega⟩
  refine Ev.step (fun k => ?_) (ih (i + 1) (by omega))
  rw [ebbtideref15_Arcs.l1, if_pos (by omega), if_pos (by omega), hr, w1, w2, w3, wrap1 (by omega), hs]
  by_cases c1 : a + l0[i].f3 ≤ H
  ·rw [if_pos c1]
   by_cases c2 : l0[i].f1 = s
   ·rw [if_pos c2, if_neg (by rintro ⟨_, h⟩; rw [c2] at h; simp at h)]
   ·rw [if_neg c2]
    by_cases c3 : l0[i].f0 = t
    ·rw [if_pos c3, if_neg (by rintro ⟨_, h⟩; rw [c3] at h; simp at h)]
    ·rw [if_neg c3, if_pos b1, if_pos b2, if_pos ⟨c1, by simp [c2, c3]⟩]
  ·rw [if_neg c1, if_neg (fun h => c1 h.1)]
theorem l2_ev {a : Int} {g : RS} {r : RS} (hn : NetOk V l0) (ha : 0 ≤ a ∧ a ≤ 1024) (hg : Bal2 g) (hl : g.1.length ≤ 300000)
 (hk : Ev (fun k => ebbtideref15_Arcs.l0 k s t H (rWaits V H hold s t a g V.toNat).1 (rWaits V H hold s t a g V.toNat).2 V (a + 1) V hold l0) r) :
 Ev (fun k => ebbtideref15_Arcs.l2 k s t H g.1 g.2 V a 0 V hold l0) r := by
 have hlo := hn.lo
 have hhi := hn.hi
 have wa : wrap64 (a + 1) = a + 1 := wrapId (by omega) (by omega)
 by_cases c : hold = true ∧ a < H
 ·obtain ⟨rfl, ca⟩ := c
  have hloop : ∀ d v : Nat, v + d = V.toNat → Ev (fun k => ebbtideref15_Arcs.l2 k s t H (rWaits V H true s t a g v).1 (rWaits V H true s t a g v).2 V a (v : Int) V true l0) r := by
   intro d
   induction d with
   | zero =>
    intro v hv
    have hv : v = V.toNat := by omega
    subst hv
    refine Ev.step (f := fun k => ebbtideref15_Arcs.j3 k s t H (rWaits V H true s t a g V.toNat).1 (rWaits V H true s t a g V.toNat).2 V a (V.toNat : Int) false V true l0) (fun k => ?_) ?_
    ·rw [ebbtideref15_Arcs.l2, if_neg (by omega)]
    ·refine Ev.step (fun k => ?_) hk
     rw [ebbtideref15_Arcs.j3, if_neg (by decide), wa]
   | succ d ih =>
    intro v hv
    have hlt : (v : Int) < V := by omega
    obtain ⟨h1, h2⟩ := rWaits_bal (V := V) (H := H) (s := s) (t := t) (hold := true) (a := a) hg v
    have b1 : (rWaits V H true s t a g v).1.length < 4398046511104 := by omega
    have b2 : (rWaits V H true s t a g v).2.length < 4398046511104 := by unfold Bal2 at h1; omega
    have hs := rWaits_succ V H true s t a g v
    unfold rWait at hs
    have w2 := nums (V := V) (a := a) (f := (v : Int)) ⟨by omega, hhi⟩ ⟨ha.1, by omega⟩ ⟨by omega, by omega⟩
    have w3 := nums (V := V) (a := a + 1) (f := (v : Int)) ⟨by omega, hhi⟩ ⟨by omega, by omega⟩ ⟨by omega, by omega⟩
    refine Ev.step (f := fun k => ebbtideref15_Arcs.j3 k s t H (rWaits V H true s t a g v).1 (rWaits V H true s t a g v).2 V a (v : Int) true V true l0) (fun k => ?_) ?_
    ·rw [ebbtideref15_Arcs.l2, if_pos hlt, if_pos rfl, decide_eq_true ca]
    ·refine Ev.step (fun k => ?_) (ih (v + 1) (by omega))
     rw [ebbtideref15_Arcs.j3, if_pos rfl, wa, w2, w3, wrap1 (by omega), hs]
     by_cases c2 : (v : Int) = s
     ·rw [if_pos c2, if_neg (by rintro ⟨_, h⟩; rw [c2] at h; simp at h)]
     ·rw [if_neg c2]
      by_cases c3 : (v : Int) = t
      ·rw [if_pos c3, if_neg (by rintro ⟨_, h⟩; rw [c3] at h; simp at h)]
      ·rw [if_neg c3, if_pos b1, if_pos b2, if_pos ⟨ca, by simp [c2, c3]⟩]
  exact hloop V.toNat 0 (by omega)
 ·rw [rWaits_none c] at hk
  refine Ev.step (f := fun k => ebbtideref15_Arcs.j3 k s t H g.1 g.2 V a 0 false V hold l0) (fun k => ?_) ?_
  ·rw [ebbtideref15_Arcs.l2, if_pos (by omega)]
   cases hold
   ·rw [if_neg (by decide)]
   ·rw [if_pos rfl, decide_eq_false (fun h => c ⟨rfl, h⟩)]
  ·refine Ev.step (fun k => ?_) hk
   rw [ebbtideref15_Arcs.j3, if_neg (by decide), wa]
theorem atLoop_len (hn : NetOk V l0) (n : Nat) (hh : n ≤ 1025) : (rAts V H hold s t l0 n).1.length ≤ 256250 := by
 rw [rAts_fst]
 have := (atLoop_bal (V := V) (H := H) (s := s) (t := t) (hold := hold) (l0 := l0) hn.hi hn.len n).2
 omega
theorem l0_ev {r : RS} (hn : NetOk V l0) (hh : 0 ≤ H ∧ H ≤ 1024)
 (hk : Ev (fun k => ebbtideref15_Arcs.l3 k s t H (rAts V H hold s t l0 (H.toNat + 1)).1 (rAts V H hold s t l0 (H.toNat + 1)).2 V 0) r) :
 ∀ d a : Nat, a + d = H.toNat + 1 → Ev (fun k => ebbtideref15_Arcs.l0 k s t H (rAts V H hold s t l0 a).1 (rAts V H hold s t l0 a).2 V (a : Int) V hold l0) r := by
 intro d
 induction d with
 | zero =>
  intro a ha
  have ha : a = H.toNat + 1 := by omega
  subst ha
  refine Ev.step (fun k => ?_) hk
  rw [ebbtideref15_Arcs.l0, if_neg (by omega)]
 | succ d ih =>
  intro a ha
  have hb := rAts_bal (V := V) (H := H) (s := s) (t := t) (hold := hold) (l0 := l0) a
  have hl := atLoop_len (V := V) (H := H) (s := s) (t := t) (hold := hold) hn a (by omega)
  have hb2 := rArcs_bal (V := V) (H := H) (s := s) (t := t) (l0 := l0) (a := (a : Int)) hb l0.length
  have hlen := hn.len
  refine Ev.step (f := fun k => ebbtideref15_Arcs.l1 k s t H (rAts V H hold s t l0 a).1 (rAts V H hold s t l0 a).2 V (a : Int) 0 V hold l0) (fun k => ?_) ?_
  ·rw [ebbtideref15_Arcs.l0, if_pos (by omega)]
  ·refine l1_ev (a := (a : Int)) (g := rAts V H hold s t l0 a) hn ⟨by omega, by omega⟩ hb (by omega) ?_ l0.length 0 (by omega)
   refine l2_ev hn ⟨by omega, by omega⟩ hb2.1 (by omega) ?_
   have h2 := ih (a + 1) (by omega)
   rw [rAts_succ] at h2
   exact h2
theorem l4_ev {A : List S54} {K : List S83} (hV : 0 ≤ V ∧ V ≤ 50) (hh : 0 ≤ H ∧ H ≤ 1024) (ht : 0 ≤ t ∧ t < V) (hA : A.length ≤ 300000) (hK : K.length ≤ 300000) :
 ∀ d a : Nat, a + d = H.toNat + 1 → Ev (fun k => ebbtideref15_Arcs.l4 k t H (A ++ lastsA V H t a) (K ++ kEnds t a) V (a : Int)) (A ++ lastsA V H t (H.toNat + 1), K ++ kEnds t (H.toNat + 1)) := by
 intro d
 induction d with
 | zero =>
  intro a ha
  have ha : a = H.toNat + 1 := by omega
  subst ha
  refine ev_cst fun k => ?_
  rw [ebbtideref15_Arcs.l4, if_neg (by omega)]
 | succ d ih =>
  intro a ha
  have w1 : wrap64 (H + 1) = H + 1 := wrapId (by omega) (by omega)
  have w2 := nums (V := V) (a := (a : Int)) (f := t) hV ⟨by omega, by omega⟩ ⟨by omega, by omega⟩
  have w3 := nums (V := V) (a := H + 1) (f := 1) hV ⟨by omega, by omega⟩ ⟨by omega, by omega⟩
  refine Ev.step (fun k => ?_) (ih (a + 1) (by omega))
  rw [ebbtideref15_Arcs.l4, if_pos (by omega), if_pos (by rw [List.length_append, lastsA_length]; omega), if_pos (by rw [List.length_append, kEnds_length]; omega), w1, w2, w3, wrap1 (by omega), lastsA_succ, kEnds_succ, List.append_assoc, List.append_assoc]
theorem l3_ev {A : List S54} {K : List S83} {r : RS} (hV : 0 ≤ V ∧ V ≤ 50) (hh : 0 ≤ H ∧ H ≤ 1024) (hs : 0 ≤ s ∧ s < V) (hA : A.length ≤ 290000) (hK : K.length ≤ 290000)
 (hk : Ev (fun k => ebbtideref15_Arcs.l4 k t H (A ++ firstsA V H s (H.toNat + 1)) (K ++ kEnds s (H.toNat + 1)) V 0) r) :
 ∀ d a : Nat, a + d = H.toNat + 1 → Ev (fun k => ebbtideref15_Arcs.l3 k s t H (A ++ firstsA V H s a) (K ++ kEnds s a) V (a : Int)) r := by
 intro d
 induction d with
 | zero =>
  intro a ha
  have ha : a = H.toNat + 1 := by omega
  subst ha
  refine Ev.step (fun k => ?_) hk
  rw [ebbtideref15_Arcs.l3, if_neg (by omega)]
 | succ d ih =>
  intro a ha
  have hm := mulB (a := H + 1) (b := V) (by omega) (by omega) hV.1 hV.2
  have w1 : wrap64 (wrap64 (H + 1) * V) = (H + 1) * V := by rw [wrapId (n := H + 1) (by omega) (by omega), wrapId (by omega) (by omega)]
  have w2 := nums (V := V) (a := (a : Int)) (f := s) hV ⟨by omega, by omega⟩ ⟨by omega, by omega⟩
  refine Ev.step (fun k => ?_) (ih (a + 1) (by omega))
  rw [ebbtideref15_Arcs.l3, if_pos (by omega), if_pos (by rw [List.length_append, firstsA_length]; omega), if_pos (by rw [List.length_append, kEnds_length]; omega), w1, w2, wrap1 (by omega), firstsA_succ, kEnds_succ, List.append_assoc, List.append_assoc]
def gridKinds (V H : Int) (hold : Bool) (s t : Int) (l0 : List S54) : List S83 := (rAts V H hold s t l0 (H.toNat + 1)).2 ++ kEnds s (H.toNat + 1) ++ kEnds t (H.toNat + 1)
theorem arcs_ev (hn : NetOk V l0) (hh : 0 ≤ H ∧ H ≤ 1024) (hs : 0 ≤ s ∧ s < V) (ht : 0 ≤ t ∧ t < V) : Ev (fun k => ebbtideref15_Arcs.f k V hold l0 s t H) (gridArcs V H hold s t l0, gridKinds V H hold s t l0) := by
 have hV : 0 ≤ V ∧ V ≤ 50 := ⟨by have := hn.lo; omega, hn.hi⟩
 have hl := atLoop_len (V := V) (H := H) (s := s) (t := t) (hold := hold) hn (H.toNat + 1) (by omega)
 have hb := rAts_bal (V := V) (H := H) (s := s) (t := t) (hold := hold) (l0 := l0) (H.toNat + 1)
 unfold Bal2 at hb
 unfold gridArcs gridKinds
 rw [← rAts_fst]
 refine l0_ev hn hh ?_ (H.toNat + 1) 0 (by omega)
 have h4 := l4_ev (V := V) (H := H) (t := t) (A := (rAts V H hold s t l0 (H.toNat + 1)).1 ++ firstsA V H s (H.toNat + 1)) (K := (rAts V H hold s t l0 (H.toNat + 1)).2 ++ kEnds s (H.toNat + 1)) hV hh ht (by rw [List.length_append, firstsA_length]; omega) (by rw [List.length_append, kEnds_length]; omega) (H.toNat + 1) 0 (by omega)
 rw [show lastsA V H t 0 = [] from rfl, show kEnds t 0 = [] from rfl, List.append_nil, List.append_nil] at h4
 have h3 := l3_ev (V := V) (H := H) (s := s) (t := t) (A := (rAts V H hold s t l0 (H.toNat + 1)).1) (K := (rAts V H hold s t l0 (H.toNat + 1)).2) hV hh hs (by omega) (by omega) h4 (H.toNat + 1) 0 (by omega)
 rw [show firstsA V H s 0 = [] from rfl, show kEnds s 0 = [] from rfl, List.append_nil, List.append_nil] at h3
 exact h3
theorem gridArcs_length (hn : NetOk V l0) (hh : 0 ≤ H ∧ H ≤ 1024) : (gridArcs V H hold s t l0).length ≤ 300000 := by
 have hl := atLoop_len (V := V) (H := H) (s := s) (t := t) (hold := hold) hn (H.toNat + 1) (by omega)
 rw [rAts_fst] at hl
 unfold gridArcs
 rw [List.length_append, List.length_append, firstsA_length, lastsA_length]
 omega
end
def expErr (n : Int) (l : List S54) (s t h : Int) : Int := if askErr n l s t h = 0 then (if fitsB n l h = true then 0 else 2) else askErr n l s t h
theorem expErr_ok {n : Int} {l : List S54} {s t h : Int} (he : expErr n l s t h = 0) : NetOk n l ∧ (0 ≤ s ∧ s < n) ∧ (0 ≤ t ∧ t < n) ∧ (0 ≤ h ∧ h ≤ 1024) := by
 unfold expErr at he
 by_cases c : askErr n l s t h = 0
 ·obtain ⟨h1, h2, h3, h4, h5, h6, h7, h8⟩ := askErr_ok.1 c
  exact ⟨h1, ⟨h2, h3⟩, ⟨h4, h5⟩, ⟨h7, h8⟩⟩
 ·rw [if_neg c] at he; exact absurd he c
theorem easked_ev (n : Int) (b : Bool) (l : List S54) (s t h : Int) : Ev (fun k => expand_Asked.f k n b l s t h) (expErr n l s t h) := by
 unfold expand_Asked.f expErr
 refine Ev.bind (asked_ev n b l s t h) ?_
 by_cases c : askErr n l s t h = 0
 ·simp only [c, if_true]
  refine Ev.bind (fits_ev n b l h) ?_
  by_cases c2 : fitsB n l h = true
  ·simp only [c2, if_true]; exact Ev.now _
  ·simp only [c2, if_false]; exact Ev.now _
 ·simp only [c, if_false]; exact Ev.now _
theorem reasked_ev (n : Int) (b : Bool) (l : List S54) (s t h : Int) : Ev (fun k => ebbtideref15_Asked.f k n b l s t h) (expErr n l s t h) := by
 unfold ebbtideref15_Asked.f expErr
 refine Ev.bind (rasked_ev n b l s t h) ?_
 by_cases c : askErr n l s t h = 0
 ·simp only [c, if_true]
  refine Ev.bind (rfits_ev n b l h) ?_
  by_cases c2 : fitsB n l h = true
  ·simp only [c2, if_true]; exact Ev.now _
  ·simp only [c2, if_false]; exact Ev.now _
 ·simp only [c, if_false]; exact Ev.now _
theorem okNet_of {n h : Int} {l : List S54} (hn : NetOk n l) (hh : 0 ≤ h ∧ h ≤ 1024) : okNet n h l = true := by
 unfold okNet
 rw [Bool.and_eq_true]
 refine ⟨decide_eq_true ⟨by have := hn.lo; omega, hn.hi, hh.1, hh.2, hn.len⟩, ?_⟩
 rw [List.all_eq_true]
 intro x hx
 have ho := hn.arcs x hx
 unfold okA
 exact decide_eq_true ⟨ho.f0.1, ho.f0.2, ho.f1.1, ho.f1.2, ho.f2.1, ho.f2.2, ho.f3.1, ho.f3.2⟩
end Go.Proofs.Ytfhkkbpkajfdlaa.P
end
section
namespace Go.Proofs.Ytfhkkbpkajfdlaa.P
open Go.RowKit Go.Proofs.Ytfhkkbpkajfdlaa.Q Go.Proofs.YtfhkkbpkajfdlaaW.PrintWords Go.Proofs.YtfhkkbpkajfdlaaW.PrintLast Go.Proofs.YtfhkkbpkajfdlaaW.PrintMore
def arcAtN (l0 : List S54) (i : Int) : S54 := l0.getD i.toNat z54
def arcK (V : Int) (l0 : List S54) (k : S83) : S54 :=
 if k.f0 = true then ⟨k.f4 * V + (arcAtN l0 k.f2).f0, (k.f4 + (arcAtN l0 k.f2).f3) * V + (arcAtN l0 k.f2).f1, (arcAtN l0 k.f2).f2, 0⟩ else ⟨k.f4 * V + k.f3, (k.f4 + 1) * V + k.f3, 1099511627776, 0⟩
def mvK (p : S83 × Nat) : Option ((Int × Int) × Int) := if p.1.f0 = true then some ((p.1.f2, p.1.f4), (p.2 : Int)) else none
def wtK (p : S83 × Nat) : Option ((Int × Int) × Int) := if p.1.f1 = true then some ((p.1.f3, p.1.f4), (p.2 : Int)) else none
def movesK (K : List S83) : List ((Int × Int) × Int) := K.zipIdx.filterMap mvK
def waitsK (K : List S83) : List ((Int × Int) × Int) := K.zipIdx.filterMap wtK
theorem movesK_snoc (K : List S83) (k : S83) : movesK (K ++ [k]) = movesK K ++ (mvK (k, K.length)).toList := by
 unfold movesK
 rw [List.zipIdx_append, List.filterMap_append, Nat.zero_add]
 rfl
theorem waitsK_snoc (K : List S83) (k : S83) : waitsK (K ++ [k]) = waitsK K ++ (wtK (k, K.length)).toList := by
 unfold waitsK
 rw [List.zipIdx_append, List.filterMap_append, Nat.zero_add]
 rfl
structure Rel (V : Int) (l0 : List S54) (g : GS) (r : RS) : Prop where
 same : g.1 = r.1
 arcs : r.1 = r.2.map (arcK V l0)
 mv : g.2.1 = movesK r.2
 wt : g.2.2 = waitsK r.2
section
variable {V H s t : Int} {hold : Bool} {l0 : List S54}
theorem rel_arc {a : Int} {g : GS} {r : RS} {i : Nat} (h : Rel V l0 g r) : Rel V l0 (arcStep V H s t a g i (l0.getD i z54)) (rArc V H s t a r i (l0.getD i z54)) := by
 unfold arcStep rArc
 have hlen : g.1.length = r.2.length := by rw [h.same, h.arcs, List.length_map]
 split
 ·refine ⟨by rw [h.same], ?_, ?_, ?_⟩
  ·rw [h.arcs]
   simp only [List.map_append, List.map_cons, List.map_nil]
   rfl
  ·show g.2.1 ++ [_] = movesK (r.2 ++ [_])
   rw [movesK_snoc, h.mv, hlen]
   rfl
  ·show g.2.2 = waitsK (r.2 ++ [_])
   rw [waitsK_snoc, h.wt]
   show _ = waitsK r.2 ++ []
   rw [List.append_nil]
 ·exact h
theorem rel_wait {a : Int} {g : GS} {r : RS} {v : Nat} (h : Rel V l0 g r) : Rel V l0 (waitStep V H hold s t a g v) (rWait V H hold s t a r v) := by
 unfold waitStep rWait
 have hlen : g.1.length = r.2.length := by rw [h.same, h.arcs, List.length_map]
 split
 ·refine ⟨by rw [h.same], ?_, ?_, ?_⟩
  ·rw [h.arcs]
   simp only [List.map_append, List.map_cons, List.map_nil]
   rfl
  ·show g.2.1 = movesK (r.2 ++ [_])
   rw [movesK_snoc, h.mv]
   show _ = movesK r.2 ++ []
   rw [List.append_nil]
  ·show g.2.2 ++ [_] = waitsK (r.2 ++ [_])
   rw [waitsK_snoc, h.wt, hlen]
   rfl
 ·exact h
theorem rel_arcs {a : Int} {g : GS} {r : RS} (h : Rel V l0 g r) : ∀ n, Rel V l0 (arcLoop V H s t l0 a g n) (rArcs V H s t l0 a r n)
 | 0 => h
 | n + 1 => by rw [arcLoop_succ, rArcs_succ]; exact rel_arc (rel_arcs h n)
theorem rel_waits {a : Int} {g : GS} {r : RS} (h : Rel V l0 g r) : ∀ n, Rel V l0 (waitLoop V H hold s t a g n) (rWaits V H hold s t a r n)
 | 0 => h
 | n + 1 => by rw [waitLoop_succ, rWaits_succ]; exact rel_wait (rel_waits h n)
theorem rel_ats : ∀ n, Rel V l0 (atLoop V H hold s t l0 n) (rAts V H hold s t l0 n)
 | 0 => ⟨rfl, rfl, rfl, rfl⟩
 | n + 1 => by rw [atLoop_succ, rAts_succ]; exact rel_waits (rel_arcs (rel_ats n) _) _
def mvAt (H s t : Int) (l0 : List S54) (a : Int) (i : Nat) : Option S83 := if a + (l0.getD i z54).f3 ≤ H ∧ ((l0.getD i z54).f1 != s && (l0.getD i z54).f0 != t) = true then some ⟨true, false, (i : Int), 0, a⟩ else none
def wtAt (H : Int) (hold : Bool) (s t : Int) (a : Int) (v : Nat) : Option S83 := if a < H ∧ ((hold && (v : Int) != s) && (v : Int) != t) = true then some ⟨false, true, 0, (v : Int), a⟩ else none
def kindsAt (V H : Int) (hold : Bool) (s t : Int) (l0 : List S54) (a : Nat) : List S83 := (List.range l0.length).filterMap (mvAt H s t l0 (a : Int)) ++ (List.range V.toNat).filterMap (wtAt H hold s t (a : Int))
def kindsB (V H : Int) (hold : Bool) (s t : Int) (l0 : List S54) (n : Nat) : List S83 := (List.range n).flatMap (kindsAt V H hold s t l0)
theorem rArcs_kinds {a : Int} {r : RS} : ∀ n, (rArcs V H s t l0 a r n).2 = r.2 ++ (List.range n).filterMap (mvAt H s t l0 a)
 | 0 => by simp [rArcs]
 | n + 1 => by
  rw [rArcs_succ, List.range_succ, List.filterMap_append, ← List.append_assoc, ← rArcs_kinds n]
  unfold rArc
  by_cases h : a + (l0.getD n z54).f3 ≤ H ∧ ((l0.getD n z54).f1 != s && (l0.getD n z54).f0 != t) = true
  ·rw [if_pos h, List.filterMap_cons, show mvAt H s t l0 a n = some ⟨true, false, (n : Int), 0, a⟩ from if_pos h, List.filterMap_nil]
  ·rw [if_neg h, List.filterMap_cons, show mvAt H s t l0 a n = none from if_neg h, List.filterMap_nil, List.append_nil]
theorem rWaits_kinds {a : Int} {r : RS} : ∀ n, (rWaits V H hold s t a r n).2 = r.2 ++ (List.range n).filterMap (wtAt H hold s t a)
 | 0 => by simp [rWaits]
 | n + 1 => by
  rw [rWaits_succ, List.range_succ, List.filterMap_append, ← List.append_assoc, ← rWaits_kinds n]
  unfold rWait
  by_cases h : a < H ∧ ((hold && (n : Int) != s) && (n : Int) != t) = true
  ·rw [if_pos h, List.filterMap_cons, show wtAt H hold s t a n = some ⟨false, true, 0, (n : Int), a⟩ from if_pos h, List.filterMap_nil]
  ·rw [if_neg h, List.filterMap_cons, show wtAt H hold s t a n = none from if_neg h, List.filterMap_nil, List.append_nil]
theorem rAts_kinds : ∀ n, (rAts V H hold s t l0 n).2 = kindsB V H hold s t l0 n
 | 0 => rfl
 | n + 1 => by
  rw [rAts_succ, rWaits_kinds, rArcs_kinds, rAts_kinds n]
  unfold kindsB kindsAt
  rw [List.range_succ, List.flatMap_append, List.append_assoc]
  simp
theorem mem_kindsB {n : Nat} {k : S83} : k ∈ kindsB V H hold s t l0 n ↔ ∃ a : Nat, a < n ∧ ((∃ i : Nat, i < l0.length ∧ mvAt H s t l0 (a : Int) i = some k) ∨ (∃ v : Nat, v < V.toNat ∧ wtAt H hold s t (a : Int) v = some k)) := by
 unfold kindsB kindsAt
 simp only [List.mem_flatMap, List.mem_range, List.mem_append, List.mem_filterMap]
def klt (x y : S83) : Prop := x.f4 < y.f4 ∨ x.f4 = y.f4 ∧ (x.f0 = true ∧ y.f0 = true → x.f2 < y.f2) ∧ (x.f1 = true ∧ y.f1 = true → x.f3 < y.f3)
theorem mvAt_some {a : Int} {i : Nat} {k : S83} : mvAt H s t l0 a i = some k ↔ (a + (l0.getD i z54).f3 ≤ H ∧ (l0.getD i z54).f1 ≠ s ∧ (l0.getD i z54).f0 ≠ t) ∧ k = ⟨true, false, (i : Int), 0, a⟩ := by
 unfold mvAt
 split <;> rename_i h
 ·simp only [Bool.and_eq_true, bne_iff_ne] at h
  constructor
  ·intro e; exact ⟨h, by cases e; rfl⟩
  ·rintro ⟨_, rfl⟩; rfl
 ·simp only [Bool.and_eq_true, bne_iff_ne] at h
  exact ⟨(fun e => by cases e), fun e => absurd e.1 h⟩
theorem wtAt_some {a : Int} {v : Nat} {k : S83} : wtAt H hold s t a v = some k ↔ (a < H ∧ hold = true ∧ (v : Int) ≠ s ∧ (v : Int) ≠ t) ∧ k = ⟨false, true, 0, (v : Int), a⟩ := by
 unfold wtAt
 split <;> rename_i h
 ·simp only [Bool.and_eq_true, bne_iff_ne] at h
  constructor
  ·intro e; exact ⟨⟨h.1, h.2.1.1, h.2.1.2, h.2.2⟩, by cases e; rfl⟩
  ·rintro ⟨_, rfl⟩; rfl
 ·simp only [Bool.and_eq_true, bne_iff_ne] at h
  exact ⟨(fun e => by cases e), fun e => absurd ⟨e.1.1, ⟨e.1.2.1, e.1.2.2.1⟩, e.1.2.2.2⟩ h⟩
theorem range_lt (n : Nat) : (List.range n).Pairwise (· < ·) := List.pairwise_lt_range
theorem kindsB_sorted (n : Nat) : (kindsB V H hold s t l0 n).Pairwise klt := by
 unfold kindsB
 rw [List.pairwise_flatMap]
 refine ⟨fun a _ => ?_, (range_lt n).imp ?_⟩
 ·unfold kindsAt
  rw [List.pairwise_append, List.pairwise_filterMap, List.pairwise_filterMap]
  refine ⟨(range_lt _).imp ?_, (range_lt _).imp ?_, ?_⟩
  ·intro i j hij x hx y hy
   rw [mvAt_some] at hx hy
   rw [hx.2, hy.2]
   exact Or.inr ⟨rfl, fun _ => by show (i : Int) < (j : Int); omega, fun h => by cases h.1⟩
  ·intro i j hij x hx y hy
   rw [wtAt_some] at hx hy
   rw [hx.2, hy.2]
   exact Or.inr ⟨rfl, (fun h => by cases h.1), fun _ => by show (i : Int) < (j : Int); omega⟩
  ·intro x hx y hy
   obtain ⟨i, _, hx⟩ := List.mem_filterMap.1 hx
   obtain ⟨j, _, hy⟩ := List.mem_filterMap.1 hy
   rw [mvAt_some] at hx
   rw [wtAt_some] at hy
   rw [hx.2, hy.2]
   exact Or.inr ⟨rfl, (fun h => by cases h.2), (fun h => by cases h.1)⟩
 ·intro a b hab x hx y hy
  have ha : x.f4 = (a : Int) := by
   unfold kindsAt at hx
   rcases List.mem_append.1 hx with hx | hx
   ·obtain ⟨i, _, hx⟩ := List.mem_filterMap.1 hx
    rw [mvAt_some] at hx; rw [hx.2]
   ·obtain ⟨i, _, hx⟩ := List.mem_filterMap.1 hx
    rw [wtAt_some] at hx; rw [hx.2]
  have hb : y.f4 = (b : Int) := by
   unfold kindsAt at hy
   rcases List.mem_append.1 hy with hy | hy
   ·obtain ⟨i, _, hy⟩ := List.mem_filterMap.1 hy
    rw [mvAt_some] at hy; rw [hy.2]
   ·obtain ⟨i, _, hy⟩ := List.mem_filterMap.1 hy
    rw [wtAt_some] at hy; rw [hy.2]
  exact Or.inl (by omega)
end
end Go.Proofs.Ytfhkkbpkajfdlaa.P
end
section
namespace Go.Proofs.Ytfhkkbpkajfdlaa.Q
open Go.RowKit Go.Proofs.YtfhkkbpkajfdlaaW.PrintWords Go.Proofs.YtfhkkbpkajfdlaaW.PrintLast Go.Proofs.YtfhkkbpkajfdlaaW.PrintMore
set_option linter.unusedVariables false
set_option linter.unusedSimpArgs false
def table_Moves_2.f (a0_0 : Int) (a0_1 : Int) (a0_2 : Int) : Option (Int) := some a0_2
set_option maxHeartbeats 8000000 in
set_option maxRecDepth 100000 in
theorem table_Moves_2.calls (a0_0 : Int) (a0_1 : Int) (a0_2 : Int) (r : Int) (w : World) (h : table_Moves_2.f a0_0 a0_1 a0_2 = some r) :
  Calls Try.prog 77 #[.agg #[.int .i64 a0_0, .int .i64 a0_1, .int .i64 a0_2]] w fun e w' => e = .returned (.int .i64 r) ∧ Below w.heap.size w w' := by
 have hu85 := Try.underlying85; have HB := am_ (Below.refl w.heap.size w); have H : (some a0_2) = some r := h; clear h; obtain rfl := Option.some.inj H
 go_enter Try.func77, Try.ntmps77
 go_wp2_with (first | ((with_reducible refine gate_dst (N := 1) rfl ?_); refine bx_ 1 #[.int .i64 a0_0, .int .i64 a0_1, .int .i64 a0_2] 85 ?_; intro gb101 hg w2 BK101 hb; have GE101 := ge_ (w := w) hg; replace HB := hst_ hb; clear hb hg; obtain ⟨hcz3_0, hcz3_1, hcz3_2, hfz3_0, hfz3_1, hfz3_2⟩ := cf3_ BK101.out))
 go_ret
 exact ⟨er_, hb_⟩
end Go.Proofs.Ytfhkkbpkajfdlaa.Q
end
section
namespace Go.Proofs.Ytfhkkbpkajfdlaa.Q
open Go.RowKit Go.Proofs.YtfhkkbpkajfdlaaW.PrintWords Go.Proofs.YtfhkkbpkajfdlaaW.PrintLast Go.Proofs.YtfhkkbpkajfdlaaW.PrintMore
def sumFit (n : Int) : Int × Bool := if -9223372036854775808 ≤ n ∧ n ≤ 9223372036854775807 then (n, true) else (0, false)
def sumOk (l : List Int) : Bool := l.all (fun x => decide (-9223372036854775808 ≤ x) && decide (x ≤ 9223372036854775807)) && decide (l.length ≤ 1152921504606846976)
def checked_Sum.f (l : List Int) : Option (Int × Bool) := if sumOk l = true then some (sumFit l.sum) else none
def lowH (l : List Int) (j : Nat) : Int := (l.take j).sum % 18446744073709551616
def highH (l : List Int) (j : Nat) : Int := (l.take j).sum / 18446744073709551616
theorem sumOk_at {l : List Int} (h : sumOk l = true) (i : Nat) (hi : i < l.length) : -9223372036854775808 ≤ l[i] ∧ l[i] ≤ 9223372036854775807 := by
 simp only [sumOk, Bool.and_eq_true, List.all_eq_true, decide_eq_true_eq] at h
 exact h.1 _ (List.getElem_mem hi)
theorem take_sum (l : List Int) (j : Nat) (hj : j < l.length) : (l.take (j + 1)).sum = (l.take j).sum + l[j] := by
 rw [List.take_succ_eq_append_getElem hj, List.sum_append]; simp
theorem take_bd {l : List Int} (h : sumOk l = true) (j : Nat) : j ≤ l.length → -9223372036854775808 * (j : Int) ≤ (l.take j).sum ∧ (l.take j).sum ≤ 9223372036854775807 * (j : Int) := by
 induction j with
 | zero => simp
 | succ j ih =>
  intro hj
  have := ih (by omega)
  have := sumOk_at h j (by omega)
  rw [take_sum l j (by omega)]
  omega
theorem sumOk_len {l : List Int} (h : sumOk l = true) : l.length ≤ 1152921504606846976 := by
 simp only [sumOk, Bool.and_eq_true, decide_eq_true_eq] at h
 exact h.2
theorem high_bd {l : List Int} (h : sumOk l = true) (j : Nat) (hj : j ≤ l.length) : -1152921504606846976 ≤ highH l j ∧ highH l j ≤ 1152921504606846976 := by
 have := take_bd h j hj
 have := sumOk_len h
 unfold highH
 omega
theorem low_bd (l : List Int) (j : Nat) : 0 ≤ lowH l j ∧ lowH l j < 18446744073709551616 := by unfold lowH; omega
theorem rd_at {l : List Int} {j : Nat} (hj : j < l.length) : rd l (j : Int) = l[j] := by
 unfold rd; simp [List.getD_eq_getElem?_getD, List.getElem?_eq_getElem hj]
theorem wu64 (n : Int) : IntKind.u64.wrap n = n % 18446744073709551616 := by simp [IntKind.wrap, IntKind.bits, IntKind.signed]
theorem w64_id {n : Int} (h0 : -9223372036854775808 ≤ n) (h1 : n ≤ 9223372036854775807) : wrap64 n = n := by unfold wrap64; omega
theorem low_step {l : List Int} (j : Nat) (hj : j < l.length) : (lowH l j + IntKind.u64.wrap (rd l (j : Int))) % 18446744073709551616 = lowH l (j + 1) := by
 unfold lowH
 rw [rd_at hj, take_sum l j hj]
 rw [wu64]
 omega
theorem high_step {l : List Int} (h : sumOk l = true) (j : Nat) (hj : j < l.length) : wrap64 (highH l j + wrap64 (rd l (j : Int) / 9223372036854775808 + wrap64 ((lowH l j + IntKind.u64.wrap (rd l (j : Int))) / 18446744073709551616))) = highH l (j + 1) := by
 have h1 := high_bd h (j + 1) hj
 have h2 := high_bd h j (by omega)
 have h3 := sumOk_at h j hj
 have h0 := take_bd h j (by omega)
 unfold highH lowH at *
 rw [rd_at hj]
 rw [take_sum l j hj] at *
 rw [wu64]
 generalize (l.take j).sum = s at *
 generalize l[j] = a at *
 have k1 : 0 ≤ (s % 18446744073709551616 + a % 18446744073709551616) / 18446744073709551616 ∧ (s % 18446744073709551616 + a % 18446744073709551616) / 18446744073709551616 ≤ 1 := by omega
 have k2 : -1 ≤ a / 9223372036854775808 ∧ a / 9223372036854775808 ≤ 0 := by omega
 have k3 : s / 18446744073709551616 + (a / 9223372036854775808 + (s % 18446744073709551616 + a % 18446744073709551616) / 18446744073709551616) = (s + a) / 18446744073709551616 := by omega
 rw [← k3] at h1 ⊢
 generalize (s % 18446744073709551616 + a % 18446744073709551616) / 18446744073709551616 = c at *
 generalize a / 9223372036854775808 = b at *
 rw [w64_id (n := c) (by omega) (by omega), w64_id (n := b + c) (by omega) (by omega), w64_id (by omega) (by omega)]
theorem sum_end {l : List Int} (r : Int × Bool) (hr : sumFit l.sum = r) : (if (highH l l.length != wrap64 (lowH l l.length) / 9223372036854775808) = true then ((0 : Int), false) else (wrap64 (lowH l l.length), true)) = r := by
 rw [← hr]
 unfold highH lowH sumFit
 rw [List.take_length]
 by_cases c : -9223372036854775808 ≤ l.sum ∧ l.sum ≤ 9223372036854775807
 ·rw [if_pos c, if_neg]
  ·exact Prod.ext (by show wrap64 _ = _; unfold wrap64; omega) rfl
  ·simp only [bne_iff_ne, ne_eq, Decidable.not_not]; unfold wrap64; omega
 ·rw [if_neg c, if_pos]
  simp only [bne_iff_ne, ne_eq]; unfold wrap64; omega
theorem add64_run (x y : Int) (hx : 0 ≤ x) (hy : 0 ≤ y) (w : World) : (callFunc 93 #[.int .u64 x, .int .u64 y, .int .u64 0]).run Try.prog w =
 .ok (.value (.tuple #[.int .u64 ((x + y) % 18446744073709551616), .int .u64 ((x + y) / 18446744073709551616)])) w := by
 rw [run_callFunc_extern Try.func93 (by kernel_rfl) (by kernel_rfl) (by kernel_rfl) (e := add64Entry) (by kernel_rfl), run_add64 x y 0 hx hy (by decide) (by decide)]
 simp only [Result.andThen, Int.add_zero]
set_option maxHeartbeats 1000000 in
set_option maxRecDepth 100000 in
theorem checked_Sum.calls (A0 : Option Addr) (c0 : Nat) (l0 : List Int) (r1 : Int) (r2 : Bool) (w : World) (hr0 : Kd.C (Kd.int .i64) w A0 l0.length l0) (hc0 : l0.length ≤ c0) (h : checked_Sum.f l0 = some (r1, r2)) :
 Calls Try.prog 88 #[.slice A0 l0.length c0] w fun e w' => e = .returned (.tuple #[.int .i64 r1, .bool r2]) ∧ Drawn0 w w' := by
 have HR0 := am_ hr0
 have HC0 := am_ hc0
 clear hr0 hc0
 have hk : sumOk l0 = true := by
  unfold checked_Sum.f at h
  by_cases c : sumOk l0 = true
  ·exact c
  ·rw [if_neg c] at h; exact absurd h (by simp)
 have hv : sumFit l0.sum = (r1, r2) := by
  unfold checked_Sum.f at h
  rw [if_pos hk] at h
  exact Option.some.inj h
 have HK := am_ hk
 have HV := am_ (sum_end _ hv)
 have HLEN := am_ (sumOk_len hk)
 clear h hk hv
 go_enter Try.func88, Try.ntmps88
 go_wp2
 go_loopg [4, 5, 11] l0.length (fun kq v4 v5 v11 w' => ∃ j : Nat, v4 = .int .i64 (highH l0 j) ∧ v5 = .int .u64 (lowH l0 j) ∧ v11 = .int .i64 j ∧ Aside0 (j + kq = l0.length) ∧ Drawn0 w w')
 case atStart => exact ⟨0, rfl, rfl, rfl, ⟨by omega⟩, Drawn0.refl _⟩
 case round =>
  obtain ⟨j, rfl, rfl, rfl, HJ, ⟨m1, rfl⟩⟩ := hrel
  cases gk with
  | zero =>
   have c1 : decide ((j : Int) < (l0.length : Int)) = false := decide_eq_false (by have := HJ.out; omega)
   have c2 : decide (j < l0.length) = false := decide_eq_false (by have := HJ.out; omega)
   have hj : j = l0.length := by have := HJ.out; omega
   have HV1 := HV.out
   rw [← hj] at HV1
   have HV2 := am_ HV1
   clear HV HV1 hj
   by_cases c3 : (highH l0 j != wrap64 (lowH l0 j) / 9223372036854775808) = true
   ·have H := HV2.out
    rw [if_pos c3] at H
    simp only [Prod.mk.injEq] at H
    obtain ⟨rfl, rfl⟩ := H
    clear HV2
    go_wp2
    go_ret2
    exact ⟨rfl, by repeat (first | exact Drawn0.refl _ | apply Drawn0.step)⟩
   ·have H := HV2.out
    rw [if_neg c3] at H
    simp only [Prod.mk.injEq] at H
    obtain ⟨rfl, rfl⟩ := H
    have c4 : (highH l0 j != wrap64 (lowH l0 j) / 9223372036854775808) = false := by simpa using c3
    clear HV2 c3
    go_wp2
    go_ret2
    exact ⟨rfl, by repeat (first | exact Drawn0.refl _ | apply Drawn0.step)⟩
  | succ gk =>
   have c1 : decide ((j : Int) < (l0.length : Int)) = true := decide_eq_true (by have := HJ.out; omega)
   have c2 : decide (j < l0.length) = true := decide_eq_true (by have := HJ.out; omega)
   obtain ⟨ad, e220, hx220⟩ := Kd.at_int HR0.out (j : Int) (by omega) (by have := HJ.out; omega)
   cases e220
   have hx : w.cell? (ad.add j) = some (.int .i64 (rd l0 (j : Int))) := by simpa using hx220
   clear hx220
   have p1 := eq_true (show (0 : Int) ≤ (j : Int) by omega)
   have p2 := eq_true (show (j : Int) < (l0.length : Int) by have := HJ.out; omega)
   have HS := am_ (high_step HK.out j (by have := HJ.out; omega))
   have HT := am_ (low_step (l := l0) j (by have := HJ.out; omega))
   have hl1 := (low_bd l0 j).1
   have hl2 : 0 ≤ IntKind.u64.wrap (rd l0 (j : Int)) := by rw [wu64]; omega
   have LB := am_ hl1
   go_wp2_with (simp only [add64_run _ _ hl1 hl2])
   go_roundg gk
   case measure => omega
   case rel => exact ⟨j + 1, congrArg (Value.int .i64) HS.out, congrArg (Value.int .u64) HT.out, congrArg (Value.int .i64) (by have := HJ.out; have := HLEN.out; rw [w64_id (by omega) (by omega)]; rfl), ⟨by have := HJ.out; omega⟩, by repeat (first | exact Drawn0.refl _ | apply Drawn0.step)⟩
end Go.Proofs.Ytfhkkbpkajfdlaa.Q
end
section
namespace Go.Proofs.Ytfhkkbpkajfdlaa.Q
open Go.RowKit Go.Proofs.YtfhkkbpkajfdlaaW.PrintWords Go.Proofs.YtfhkkbpkajfdlaaW.PrintLast Go.Proofs.YtfhkkbpkajfdlaaW.PrintMore
set_option linter.unusedVariables false
set_option linter.unusedSimpArgs false
def api_Move_76.l0 : Nat → List (S85) → List Int → List Int → Int → Int → Option (Int × Bool)
 | 0, _, _, _, _, _ => none
 | k + 1, x0, x8, x14, x15, x16 => if x16 < x15 then (if 0 ≤ x16 then (if x16 < (x14.length : Int) then (if 0 ≤ (rd x14 x16) then (if (rd x14 x16) < (x0.length : Int) then ((table_Moves_2.f ((rd_T85 x0 (rd x14 x16)).f0) ((rd_T85 x0 (rd x14 x16)).f1) ((rd_T85 x0 (rd x14 x16)).f2)).bind fun t135 => (if x16 < (x8.length : Int) then (api_Move_76.l0 k x0 (x8.set (x16 : Int).toNat t135) x14 x15 (wrap64 (x16 + 1))) else (none))) else (none)) else (none)) else (none)) else (none)) else ((checked_Sum.f x8).bind fun bt137 => (some (bt137.1, bt137.2)))
def api_Move_76.f (k : Nat) (l0 : List (S85)) (l1 : List Int)  : Option (Int × Bool) := if 0 ≤ (l1.length : Int) then (if ((l1.length : Int) : Int).toNat ≤ 35184372088832 then (api_Move_76.l0 k l0 (List.replicate ((l1.length : Int) : Int).toNat 0) l1 (l1.length : Int) 0) else (none)) else (none)
set_option maxHeartbeats 8000000 in
set_option maxRecDepth 100000 in
theorem api_Move_76.calls (k : Nat) (A0 : Option Addr) (c0 : Nat) (l0 : List (S85)) (A1 : Option Addr) (c1 : Nat) (l1 : List Int)  (r1 : Int) (r2 : Bool) (w : World) (hr0 : Kd.C k85 w A0 l0.length l0) (hc0 : l0.length ≤ c0) (hr1 : Kd.C (Kd.int .i64) w A1 l1.length l1) (hc1 : l1.length ≤ c1) (h : api_Move_76.f k l0 l1 = some (r1, r2)) :
  Calls Try.prog 76 #[.slice A0 l0.length c0, .slice A1 l1.length c1, .func (.func 77) #[] #[]] w fun e w' => e = .returned (.tuple #[.int .i64 r1, .bool r2]) ∧ Below w.heap.size w w' := by
 have hu85 := Try.underlying85; have HR0 := am_ hr0; have HC0 := am_ hc0; clear hr0 hc0; have HR1 := am_ hr1; have HC1 := am_ hc1; clear hr1 hc1; have HB := am_ (Below.refl w.heap.size w); have H : (if 0 ≤ (l1.length : Int) then (if ((l1.length : Int) : Int).toNat ≤ 35184372088832 then (api_Move_76.l0 k l0 (List.replicate ((l1.length : Int) : Int).toNat 0) l1 (l1.length : Int) 0) else (none)) else (none)) = some (r1, r2) := h; clear h
 replace H := ifn_ H; obtain ⟨c4, H⟩ := H
 have c4b0 := eq_true c4; have c4b1 := decide_eq_true c4; clear c4
 replace H := ifn_ H; obtain ⟨c5, H⟩ := H
 have c5b0 := eq_true c5; have c5b1 := decide_eq_true c5; clear c5; obtain ⟨y130, hy_⟩ : ∃ y_ : List Int, y_ = (List.replicate ((l1.length : Int) : Int).toNat 0) := ⟨_, rfl⟩
 replace H : (api_Move_76.l0 k l0 y130 l1 (l1.length : Int) 0) = some (r1, r2) := hyH_
 have Ny130 := am_ hy_; clear hy_; have H' := am_ H; clear H
 go_enter Try.func76, Try.ntmps76
 go_wp2_with (first | ((with_reducible refine gate_dst (N := 13) rfl ?_); refine Kd.R_make (Kd.int .i64) _ 3 rfl (N := 13) rfl 42 _ _ rfl (l1.length : Int) rfl rfl Try.underlying42 (.int .i64 0) 8 info3 rfl (by decide) (by omega) 0 (ok := fun _ => True) (okp := fun _ => True) rfl (fun _ hk => hk) trivial (of_decide_eq_true sm_) (Nat.le_trans (Nat.mul_le_mul_right _ (of_decide_eq_true sm_ : (l1.length : Int).toNat ≤ 35184372088832)) (by omega)) (Below.refl _ _) (Nat.le_refl _) ?_; intro v131 w6 ho7 hb hg_ hnew_; clear hg_ hnew_; (first | rw [← Ny130.out] at ho7 | (simp only [Int.reduceToNat] at ho7; rw [← Ny130.out] at ho7)); have HO132 := am_ (Kd.R_lower ho7 (below_size hb_)); replace HB := hst_ hb; clear hb ho7))
 go_loopg [16] k (fun kq v16 w' => ∃ (x8_1 : List Int) (x16_1 : Int), v16 = .int .i64 x16_1 ∧ Aside0 (api_Move_76.l0 kq l0 x8_1 l1 (l1.length : Int) x16_1 = some (r1, r2)) ∧ Aside0 (kq ≤ k) ∧ Aside0 (Kd.R (Kd.int .i64) 3 w' w.heap.size (fun _ => True) v131 x8_1) ∧ Aside0 (Below w.heap.size w w'))
 case atStart => exact ⟨(y130), (0), rs_, H', ⟨Nat.le_refl _⟩, ⟨rq_ HO132.out⟩, ⟨hb_⟩⟩
 case round =>
  clear H'
  try clear c1
  try clear p2
  try clear c4
  try clear c4b0
  try clear c4b1
  try clear c5
  try clear c5b0
  try clear c5b1
  try clear c7
  obtain ⟨x8_1, x16_1, rfl, HA, HK1, HO_8, HB⟩ := hrel
  cases gk with
  | zero => exact absurd HA.out (by simp [api_Move_76.l0])
  | succ k1 =>
   have H := HA.out; clear HA; simp only [api_Move_76.l0] at H
   by_cases c8 : x16_1 < (l1.length : Int)
   ·rw [if_pos c8] at H
    have c8b0 := decide_eq_true c8; clear c8
    replace H := ifn_ H; obtain ⟨c9, H⟩ := H
    have c9b0 := decide_eq_true c9; clear c9
    replace H := ifn_ H; obtain ⟨c10, H⟩ := H
    have c10b0 := decide_eq_true c10; clear c10
    replace H := ifn_ H; obtain ⟨c11, H⟩ := H
    have c11b0 := decide_eq_true c11; clear c11
    replace H := ifn_ H; obtain ⟨c12, H⟩ := H
    have c12b0 := decide_eq_true c12; clear c12; replace H := Option.bind_eq_some_iff.mp H; obtain ⟨t135, A130, H⟩ := H; replace H : (if x16_1 < (x8_1.length : Int) then (api_Move_76.l0 k1 l0 (x8_1.set (x16_1 : Int).toNat t135) l1 (l1.length : Int) (wrap64 (x16_1 + 1))) else (none)) = some (r1, r2) := H; have A13 := am_ A130; clear A130
    replace H := ifn_ H; obtain ⟨c14, H⟩ := H
    have c14b0 := decide_eq_true c14; clear c14; obtain ⟨y136, hy_⟩ : ∃ y_ : List Int, y_ = (x8_1.set (x16_1 : Int).toNat t135) := ⟨_, rfl⟩
    replace H : (api_Move_76.l0 k1 l0 y136 l1 (l1.length : Int) (wrap64 (x16_1 + 1))) = some (r1, r2) := hyH_
    have Ny136 := am_ hy_; clear hy_; have H' := am_ H; clear H; have p133 := od_ (p := 0 ≤ (x16_1 : Int)); have q133 := od_ (p := x16_1 < (l1.length : Int)); obtain ⟨ad133, e133, hx133_0⟩ := tr1_ HB.out (Kd.at_int HR1.out x16_1 p133 q133); cases e133; replace p133 := eq_true p133; replace q133 := eq_true q133; have p134 := od_ (p := 0 ≤ ((rd l1 x16_1) : Int)); have q134 := od_ (p := (rd l1 x16_1) < (l0.length : Int)); obtain ⟨ad134, e134, hx134_0, hx134_1, hx134_2⟩ := tr3_ HB.out (at_T85 HR0.out (rd l1 x16_1) p134 q134); cases e134; replace p134 := eq_true p134; replace q134 := eq_true q134
    go_wp2_with (first | ((with_reducible refine gate_calleev (t := 23) rfl ?_); refine goesV_ (some 28) rfl rfl Try.func77 (by kernel_rfl) rfl #[.agg #[.int .i64 ((rd_T85 l0 (rd l1 x16_1)).f0), .int .i64 ((rd_T85 l0 (rd l1 x16_1)).f1), .int .i64 ((rd_T85 l0 (rd l1 x16_1)).f2)]] rfl rfl mt_ ?_; (with_reducible refine (table_Moves_2.calls ((rd_T85 l0 (rd l1 x16_1)).f0) ((rd_T85 l0 (rd l1 x16_1)).f1) ((rd_T85 l0 (rd l1 x16_1)).f2) t135 _ A13.out).mono ?_); rintro e w16 ⟨rfl, hb⟩; refine ⟨_, rfl, ?_⟩; replace HO_8 := am_ (Kd.R_below (rq_ HO_8.out) hb); replace HB := hst_ hb; (try clear hb); (try clear hb2); (try clear hk); (try clear hi); have p15 : 0 ≤ (x16_1 : Int) := of_decide_eq_true sm_; have q15 : (x16_1 : Int) < ((x8_1.length : Int) : Int) := of_decide_eq_true sm_; obtain ⟨go15, co15, eo15, gb15, gl15, cl15, HG15⟩ := Kd.R_form HO_8.out (by omega); (first | cases eo15 | (injection eo15 with ea_ en_ ec_; (first | subst ea_ | (injection ea_ with ea_; subst ea_)); subst ec_; clear en_)); have GB15 := am_ gb15; have GG15 := am_ HG15; clear gb15 gl15 HG15; obtain ⟨hx15_0, hf15_0⟩ := Kd.R_celln 0 HO_8.out (x16_1 : Int) p15 q15; replace p15 := eq_true p15; replace q15 := eq_true q15; obtain ⟨hy17_, hz17_⟩ := Kd.R_celln 0 HO_8.out (x16_1 : Int) (of_decide_eq_true sm_) (of_decide_eq_true sm_); have HP17 := Kd.R_putg HO_8.out (x16_1 : Int) t135) | ((with_reducible refine gate_store (t := 3) (p := 29) rfl ?_); refine store_event (t := 3) (p := 29) (v := ?vo_w18) (w1 := (w16.setCell ⟨go15, (x16_1 : Int).toNat, none⟩ (.int .i64 t135))) ?hg ?ho ?hn ?hr ?_; (case ho => rfl); (case hg => rfl); (case hn => rfl); (case hr => first | (go_simp; done) | (go_simp; rfl)); intro w18 hw; have hg : w16.grownBy w18 (some go15) := (by rw [hw]; exact HP17.2); have hp_ : Kd.R (Kd.int .i64) 3 w18 w.heap.size (fun _ => True) (.slice (some ⟨go15, 0, none⟩) x8_1.length co15) y136 := (by rw [hw, Ny136.out]; exact HP17.1); clear HP17; replace HO_8 := am_ (hp_); replace HB := am_ ((by rw [hw]; exact below_set (HB.out) GB15.out : Below w.heap.size w w18)); clear hg hw hp_))
    go_roundg k1
    case measure => have := HK1.out; omega
    case rel => exact ⟨(y136), (wrap64 (x16_1 + 1)), rs_, H', ⟨by have := HK1.out; omega⟩, ⟨rq_ HO_8.out⟩, ⟨hb_⟩⟩
   ·rw [if_neg c8] at H
    have c8b0 := decide_eq_false c8; clear c8; replace H := Option.bind_eq_some_iff.mp H; obtain ⟨⟨t137, t138⟩, A190, H⟩ := H; replace H : (some (t137, t138)) = some (r1, r2) := H; have A19 := am_ A190; clear A190; simp only [Option.some.injEq, Prod.mk.injEq] at H; obtain ⟨rfl, rfl⟩ := H; obtain ⟨Ao20, co20, eo20⟩ := Kd.R_slice HO_8.out; subst eo20
    go_wp2_with (first | ((with_reducible refine gate_callee (f := 88) rfl ?_); refine goesL_ (some 32) rfl rfl Try.func88 (by kernel_rfl) rfl #[.slice Ao20 x8_1.length co20] rfl mt_ ?_; (with_reducible refine (checked_Sum.calls _ _ x8_1 t137 t138 _ ?side1 ?side2 A19.out).mono ?_); (case side1 => repeat (first | exact (Kd.R_reads' HO_8.out).2.2 | (with_reducible refine Kd.C_alloc ?_ _) | (with_reducible refine Kd.C_drewN ?_ _) | (with_reducible refine Kd.C_drew ?_))); (case side2 => exact (Kd.R_reads' HO_8.out).2.1); rintro e w' ⟨rfl, ⟨nd, rfl⟩⟩; refine ⟨_, rfl, ?_⟩))
    go_ret2
    exact ⟨er_, hb_⟩
end Go.Proofs.Ytfhkkbpkajfdlaa.Q
end
