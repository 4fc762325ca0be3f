/- A part of the proof: words, contracts, plain lemmas. Conditions: none. -/
import Derived.Test.YtfhkkbpkajfdlaaZExpandBuilds19
import Derived.Test.YtfhkkbpkajfdlaaRows
import Derived.Test.YtfhkkbpkajfdlaaZExpandBuilds3
import Derived.Deep.Slices
import Derived.ProofKit
import Derived.WalkKit
import Derived.OpenShut
import Derived.ShutString
import Derived.ChangeOld
import Derived.Below
import Derived.SizedLaws
section
namespace Go.Proofs.Ytfhkkbpkajfdlaa.P
set_option linter.unusedSimpArgs false
set_option linter.unusedVariables false
open Go.RowKit Go.Proofs.Ytfhkkbpkajfdlaa.Q Go.Proofs.YtfhkkbpkajfdlaaW.PrintWords Go.Proofs.YtfhkkbpkajfdlaaW.PrintLast Go.Proofs.YtfhkkbpkajfdlaaW.PrintMore
abbrev RS : Type := List S54 × List S83
def rArc (V H s t a : Int) (g : RS) (i : Nat) (x : S54) : RS :=
  if a + x.f3 ≤ H ∧ (x.f1 != s && x.f0 != t) = true then (g.1 ++ [⟨a * V + x.f0, (a + x.f3) * V + x.f1, x.f2, 0⟩], g.2 ++ [⟨true, false, (i : Int), 0, a⟩]) else g
def rArcs (V H s t : Int) (l0 : List S54) (a : Int) (g : RS) (n : Nat) : RS := (List.range n).foldl (fun g i => rArc V H s t a g i (l0.getD i z54)) g
def rWait (V H : Int) (hold : Bool) (s t a : Int) (g : RS) (v : Nat) : RS :=
  if a < H ∧ ((hold && (v : Int) != s) && (v : Int) != t) = true then (g.1 ++ [⟨a * V + (v : Int), (a + 1) * V + (v : Int), 1099511627776, 0⟩], g.2 ++ [⟨false, true, 0, (v : Int), a⟩]) else g
def rWaits (V H : Int) (hold : Bool) (s t a : Int) (g : RS) (n : Nat) : RS := (List.range n).foldl (fun g v => rWait V H hold s t a g v) g
def rAts (V H : Int) (hold : Bool) (s t : Int) (l0 : List S54) (n : Nat) : RS := (List.range n).foldl (fun (g : RS) (k : Nat) => rWaits V H hold s t (k : Int) (rArcs V H s t l0 (k : Int) g l0.length) V.toNat) ([], [])
def kEnds (v : Int) (n : Nat) : List S83 := (List.range n).map (fun a : Nat => (⟨false, false, 0, v, (a : Int)⟩ : S83))
theorem kEnds_succ (v : Int) (n : Nat) : kEnds v (n + 1) = kEnds v n ++ [⟨false, false, 0, v, (n : Int)⟩] := by unfold kEnds; rw [List.range_succ, List.map_append]; rfl
theorem kEnds_length (v : Int) (n : Nat) : (kEnds v n).length = n := by unfold kEnds; rw [List.length_map, List.length_range]
theorem rArcs_succ (V H s t : Int) (l0 : List S54) (a : Int) (g : RS) (n : Nat) : rArcs V H s t l0 a g (n + 1) = rArc V H s t a (rArcs V H s t l0 a g n) n (l0.getD n z54) := by
  unfold rArcs; rw [List.range_succ, List.foldl_append]; rfl
theorem rWaits_succ (V H : Int) (hold : Bool) (s t a : Int) (g : RS) (n : Nat) : rWaits V H hold s t a g (n + 1) = rWait V H hold s t a (rWaits V H hold s t a g n) n := by
  unfold rWaits; rw [List.range_succ, List.foldl_append]; rfl
theorem rAts_succ (V H : Int) (hold : Bool) (s t : Int) (l0 : List S54) (n : Nat) : rAts V H hold s t l0 (n + 1) = rWaits V H hold s t (n : Int) (rArcs V H s t l0 (n : Int) (rAts V H hold s t l0 n) l0.length) V.toNat := by
  unfold rAts; rw [List.range_succ, List.foldl_append]; rfl
theorem rArcs_fst {V H s t : Int} {l0 : List S54} {a : Int} {g : RS} {g' : GS} (h : g.1 = g'.1) : ∀ n, (rArcs V H s t l0 a g n).1 = (arcLoop V H s t l0 a g' n).1
  | 0 => h
  | n + 1 => by
    rw [rArcs_succ, arcLoop_succ]
    have ih := rArcs_fst (V := V) (H := H) (s := s) (t := t) (l0 := l0) (a := a) h n
    unfold rArc arcStep
    split
    · simp only [ih]
    · exact ih
theorem rWaits_fst {V H s t : Int} {hold : Bool} {a : Int} {g : RS} {g' : GS} (h : g.1 = g'.1) : ∀ n, (rWaits V H hold s t a g n).1 = (waitLoop V H hold s t a g' n).1
  | 0 => h
  | n + 1 => by
    rw [rWaits_succ, waitLoop_succ]
    have ih := rWaits_fst (V := V) (H := H) (s := s) (t := t) (hold := hold) (a := a) h n
    unfold rWait waitStep
    split
    · simp only [ih]
    · exact ih
theorem rAts_fst {V H s t : Int} {hold : Bool} {l0 : List S54} : ∀ n, (rAts V H hold s t l0 n).1 = (atLoop V H hold s t l0 n).1
  | 0 => rfl
  | n + 1 => by
    rw [rAts_succ, atLoop_succ]
    exact rWaits_fst (rArcs_fst (rAts_fst n) _) _
def Bal2 (g : RS) : Prop := g.2.length = g.1.length
theorem rArcs_bal {V H s t : Int} {l0 : List S54} {a : Int} {g : RS} (h : Bal2 g) : ∀ n, Bal2 (rArcs V H s t l0 a g n) ∧ (rArcs V H s t l0 a g n).1.length ≤ g.1.length + n
  | 0 => ⟨h, Nat.le_refl _⟩
  | n + 1 => by
    rw [rArcs_succ]
    obtain ⟨h1, h2⟩ := rArcs_bal (V := V) (H := H) (s := s) (t := t) (l0 := l0) (a := a) h n
    unfold rArc Bal2 at *
    split
    · simp only [List.length_append, List.length_cons, List.length_nil]; omega
    · exact ⟨h1, by omega⟩
theorem rWaits_bal {V H s t : Int} {hold : Bool} {a : Int} {g : RS} (h : Bal2 g) : ∀ n, Bal2 (rWaits V H hold s t a g n) ∧ (rWaits V H hold s t a g n).1.length ≤ g.1.length + n
  | 0 => ⟨h, Nat.le_refl _⟩
  | n + 1 => by
    rw [rWaits_succ]
    obtain ⟨h1, h2⟩ := rWaits_bal (V := V) (H := H) (s := s) (t := t) (hold := hold) (a := a) h n
    unfold rWait Bal2 at *
    split
    · simp only [List.length_append, List.length_cons, List.length_nil]; omega
    · exact ⟨h1, by omega⟩
theorem rAts_bal {V H s t : Int} {hold : Bool} {l0 : List S54} : ∀ n, Bal2 (rAts V H hold s t l0 n)
  | 0 => rfl
  | n + 1 => by
    rw [rAts_succ]
    exact (rWaits_bal (rArcs_bal (rAts_bal n) _).1 _).1
theorem rWaits_none {V H s t : Int} {hold : Bool} {a : Int} {g : RS} (h : ¬ (hold = true ∧ a < H)) : ∀ n, rWaits V H hold s t a g n = g
  | 0 => rfl
  | n + 1 => by
    rw [rWaits_succ, rWaits_none h n]
    unfold rWait
    rw [if_neg]
    rintro ⟨h1, h2⟩
    apply h
    cases hold
    · cases h2
    · exact ⟨rfl, h1⟩
theorem nums {V a f : Int} (hV : 0 ≤ V ∧ V ≤ 50) (ha : 0 ≤ a ∧ a ≤ 1050000) (hf : -100 ≤ f ∧ f ≤ 100) : wrap64 (wrap64 (a * V) + f) = a * V + f := by
  have h := mulB ha.1 ha.2 hV.1 hV.2
  rw [wrapId (n := a * V) (by omega) (by omega), wrapId (by omega) (by omega)]
section
variable {V H s t : Int} {hold : Bool} {l0 : List S54}
theorem l1_ev {a : Int} {g : RS} {r : RS} (hn : NetOk V l0) (ha : 0 ≤ a ∧ a ≤ 1024) (hg : Bal2 g) (hl : g.1.length ≤ 300000)
    (hk : Ev (fun k => ebbtideref15_Arcs.l2 k s t H (rArcs V H s t l0 a g l0.length).1 (rArcs V H s t l0 a g l0.length).2 V a 0 V hold l0) r) :
    ∀ d i, i + d = l0.length → Ev (fun k => ebbtideref15_Arcs.l1 k s t H (rArcs V H s t l0 a g i).1 (rArcs V H s t l0 a g i).2 V a (i : Int) V hold l0) r := by
  intro d
  induction d with
  | zero =>
    intro i hi
    have hi : i = l0.length := by omega
    subst hi
    refine Ev.step (fun k => ?_) hk
    rw [ebbtideref15_Arcs.l1, if_neg (by omega)]
  | succ d ih =>
    intro i hi
    have hlt : i < l0.length := by omega
    have hx := hn.arcs _ (List.getElem_mem hlt)
    have hr : rd_T54 l0 (i : Int) = l0[i] := rdA_of hlt
    have hd : l0.getD i z54 = l0[i] := by rw [List.getD_eq_getElem?_getD, List.getElem?_eq_getElem hlt]; rfl
    obtain ⟨h1, h2⟩ := rArcs_bal (V := V) (H := H) (s := s) (t := t) (l0 := l0) (a := a) hg i
    have hlen := hn.len
    have hlo := hn.lo
    have hhi := hn.hi
    have b1 : (rArcs V H s t l0 a g i).1.length < 4398046511104 := by omega
    have b2 : (rArcs V H s t l0 a g i).2.length < 4398046511104 := by unfold Bal2 at h1; omega
    have hs := rArcs_succ V H s t l0 a g i
    rw [hd] at hs
    unfold rArc at hs
    have x0 := hx.f0
    have x1 := hx.f1
    have x3 := hx.f3
    have w1 : wrap64 (a + l0[i].f3) = a + l0[i].f3 := wrapId (by omega) (by omega)
    have w2 := nums (V := V) (a := a) (f := l0[i].f0) ⟨by omega, hhi⟩ ⟨ha.1, by omega⟩ ⟨by omega, by omega⟩
    have w3 := nums (V := V) (a := a + l0[i].f3) (f := l0[i].f1) ⟨by omega, hhi⟩ ⟨by omega, by omega⟩ ⟨by omega, by omega⟩
    refine Ev.step (fun k => ?_) (ih (i + 1) (by omega))
    rw [ebbtideref15_Arcs.l1, if_pos (by omega), if_pos (by omega), hr, w1, w2, w3, wrap1 (by omega), hs]
    by_cases c1 : a + l0[i].f3 ≤ H
    · rw [if_pos c1]
      by_cases c2 : l0[i].f1 = s
      · rw [if_pos c2, if_neg (by rintro ⟨_, h⟩; rw [c2] at h; simp at h)]
      · rw [if_neg c2]
        by_cases c3 : l0[i].f0 = t
        · rw [if_pos c3, if_neg (by rintro ⟨_, h⟩; rw [c3] at h; simp at h)]
        · rw [if_neg c3, if_pos b1, if_pos b2, if_pos ⟨c1, by simp [c2, c3]⟩]
    · rw [if_neg c1, if_neg (fun h => c1 h.1)]
theorem l2_ev {a : Int} {g : RS} {r : RS} (hn : NetOk V l0) (ha : 0 ≤ a ∧ a ≤ 1024) (hg : Bal2 g) (hl : g.1.length ≤ 300000)
    (hk : Ev (fun k => ebbtideref15_Arcs.l0 k s t H (rWaits V H hold s t a g V.toNat).1 (rWaits V H hold s t a g V.toNat).2 V (a + 1) V hold l0) r) :
    Ev (fun k => ebbtideref15_Arcs.l2 k s t H g.1 g.2 V a 0 V hold l0) r := by
  have hlo := hn.lo
  have hhi := hn.hi
  have wa : wrap64 (a + 1) = a + 1 := wrapId (by omega) (by omega)
  by_cases c : hold = true ∧ a < H
  · obtain ⟨rfl, ca⟩ := c
    have hloop : ∀ d v : Nat, v + d = V.toNat → Ev (fun k => ebbtideref15_Arcs.l2 k s t H (rWaits V H true s t a g v).1 (rWaits V H true s t a g v).2 V a (v : Int) V true l0) r := by
      intro d
      induction d with
      | zero =>
        intro v hv
        have hv : v = V.toNat := by omega
        subst hv
        refine Ev.step (f := fun k => ebbtideref15_Arcs.j3 k s t H (rWaits V H true s t a g V.toNat).1 (rWaits V H true s t a g V.toNat).2 V a (V.toNat : Int) false V true l0) (fun k => ?_) ?_
        · rw [ebbtideref15_Arcs.l2, if_neg (by omega)]
        · refine Ev.step (fun k => ?_) hk
          rw [ebbtideref15_Arcs.j3, if_neg (by decide), wa]
      | succ d ih =>
        intro v hv
        have hlt : (v : Int) < V := by omega
        obtain ⟨h1, h2⟩ := rWaits_bal (V := V) (H := H) (s := s) (t := t) (hold := true) (a := a) hg v
        have b1 : (rWaits V H true s t a g v).1.length < 4398046511104 := by omega
        have b2 : (rWaits V H true s t a g v).2.length < 4398046511104 := by unfold Bal2 at h1; omega
        have hs := rWaits_succ V H true s t a g v
        unfold rWait at hs
        have w2 := nums (V := V) (a := a) (f := (v : Int)) ⟨by omega, hhi⟩ ⟨ha.1, by omega⟩ ⟨by omega, by omega⟩
        have w3 := nums (V := V) (a := a + 1) (f := (v : Int)) ⟨by omega, hhi⟩ ⟨by omega, by omega⟩ ⟨by omega, by omega⟩
        refine Ev.step (f := fun k => ebbtideref15_Arcs.j3 k s t H (rWaits V H true s t a g v).1 (rWaits V H true s t a g v).2 V a (v : Int) true V true l0) (fun k => ?_) ?_
        · rw [ebbtideref15_Arcs.l2, if_pos hlt, if_pos rfl, decide_eq_true ca]
        · refine Ev.step (fun k => ?_) (ih (v + 1) (by omega))
          rw [ebbtideref15_Arcs.j3, if_pos rfl, wa, w2, w3, wrap1 (by omega), hs]
          by_cases c2 : (v : Int) = s
          · rw [if_pos c2, if_neg (by rintro ⟨_, h⟩; rw [c2] at h; simp at h)]
          · rw [if_neg c2]
            by_cases c3 : (v : Int) = t
            · rw [if_pos c3, if_neg (by rintro ⟨_, h⟩; rw [c3] at h; simp at h)]
            · rw [if_neg c3, if_pos b1, if_pos b2, if_pos ⟨ca, by simp [c2, c3]⟩]
    exact hloop V.toNat 0 (by omega)
  · rw [rWaits_none c] at hk
    refine Ev.step (f := fun k => ebbtideref15_Arcs.j3 k s t H g.1 g.2 V a 0 false V hold l0) (fun k => ?_) ?_
    · rw [ebbtideref15_Arcs.l2, if_pos (by omega)]
      cases hold
      · rw [if_neg (by decide)]
      · rw [if_pos rfl, decide_eq_false (fun h => c ⟨rfl, h⟩)]
    · refine Ev.step (fun k => ?_) hk
      rw [ebbtideref15_Arcs.j3, if_neg (by decide), wa]
theorem atLoop_len (hn : NetOk V l0) (n : Nat) (hh : n ≤ 1025) : (rAts V H hold s t l0 n).1.length ≤ 256250 := by
  rw [rAts_fst]
  have := (atLoop_bal (V := V) (H := H) (s := s) (t := t) (hold := hold) (l0 := l0) hn.hi hn.len n).2
  omega
theorem l0_ev {r : RS} (hn : NetOk V l0) (hh : 0 ≤ H ∧ H ≤ 1024)
    (hk : Ev (fun k => ebbtideref15_Arcs.l3 k s t H (rAts V H hold s t l0 (H.toNat + 1)).1 (rAts V H hold s t l0 (H.toNat + 1)).2 V 0) r) :
    ∀ d a : Nat, a + d = H.toNat + 1 → Ev (fun k => ebbtideref15_Arcs.l0 k s t H (rAts V H hold s t l0 a).1 (rAts V H hold s t l0 a).2 V (a : Int) V hold l0) r := by
  intro d
  induction d with
  | zero =>
    intro a ha
    have ha : a = H.toNat + 1 := by omega
    subst ha
    refine Ev.step (fun k => ?_) hk
    rw [ebbtideref15_Arcs.l0, if_neg (by omega)]
  | succ d ih =>
    intro a ha
    have hb := rAts_bal (V := V) (H := H) (s := s) (t := t) (hold := hold) (l0 := l0) a
    have hl := atLoop_len (V := V) (H := H) (s := s) (t := t) (hold := hold) hn a (by omega)
    have hb2 := rArcs_bal (V := V) (H := H) (s := s) (t := t) (l0 := l0) (a := (a : Int)) hb l0.length
    have hlen := hn.len
    refine Ev.step (f := fun k => ebbtideref15_Arcs.l1 k s t H (rAts V H hold s t l0 a).1 (rAts V H hold s t l0 a).2 V (a : Int) 0 V hold l0) (fun k => ?_) ?_
    · rw [ebbtideref15_Arcs.l0, if_pos (by omega)]
    · refine l1_ev (a := (a : Int)) (g := rAts V H hold s t l0 a) hn ⟨by omega, by omega⟩ hb (by omega) ?_ l0.length 0 (by omega)
      refine l2_ev hn ⟨by omega, by omega⟩ hb2.1 (by omega) ?_
      have h2 := ih (a + 1) (by omega)
      rw [rAts_succ] at h2
      exact h2
theorem l4_ev {A : List S54} {K : List S83} (hV : 0 ≤ V ∧ V ≤ 50) (hh : 0 ≤ H ∧ H ≤ 1024) (ht : 0 ≤ t ∧ t < V) (hA : A.length ≤ 300000) (hK : K.length ≤ 300000) :
    ∀ d a : Nat, a + d = H.toNat + 1 → Ev (fun k => ebbtideref15_Arcs.l4 k t H (A ++ lastsA V H t a) (K ++ kEnds t a) V (a : Int)) (A ++ lastsA V H t (H.toNat + 1), K ++ kEnds t (H.toNat + 1)) := by
  intro d
  induction d with
  | zero =>
    intro a ha
    have ha : a = H.toNat + 1 := by omega
    subst ha
    refine ev_cst fun k => ?_
    rw [ebbtideref15_Arcs.l4, if_neg (by omega)]
  | succ d ih =>
    intro a ha
    have w1 : wrap64 (H + 1) = H + 1 := wrapId (by omega) (by omega)
    have w2 := nums (V := V) (a := (a : Int)) (f := t) hV ⟨by omega, by omega⟩ ⟨by omega, by omega⟩
    have w3 := nums (V := V) (a := H + 1) (f := 1) hV ⟨by omega, by omega⟩ ⟨by omega, by omega⟩
    refine Ev.step (fun k => ?_) (ih (a + 1) (by omega))
    rw [ebbtideref15_Arcs.l4, if_pos (by omega), if_pos (by rw [List.length_append, lastsA_length]; omega), if_pos (by rw [List.length_append, kEnds_length]; omega), w1, w2, w3, wrap1 (by omega), lastsA_succ, kEnds_succ, List.append_assoc, List.append_assoc]
theorem l3_ev {A : List S54} {K : List S83} {r : RS} (hV : 0 ≤ V ∧ V ≤ 50) (hh : 0 ≤ H ∧ H ≤ 1024) (hs : 0 ≤ s ∧ s < V) (hA : A.length ≤ 290000) (hK : K.length ≤ 290000)
    (hk : Ev (fun k => ebbtideref15_Arcs.l4 k t H (A ++ firstsA V H s (H.toNat + 1)) (K ++ kEnds s (H.toNat + 1)) V 0) r) :
    ∀ d a : Nat, a + d = H.toNat + 1 → Ev (fun k => ebbtideref15_Arcs.l3 k s t H (A ++ firstsA V H s a) (K ++ kEnds s a) V (a : Int)) r := by
  intro d
  induction d with
  | zero =>
    intro a ha
    have ha : a = H.toNat + 1 := by omega
    subst ha
    refine Ev.step (fun k => ?_) hk
    rw [ebbtideref15_Arcs.l3, if_neg (by omega)]
  | succ d ih =>
    intro a ha
    have hm := mulB (a := H + 1) (b := V) (by omega) (by omega) hV.1 hV.2
    have w1 : wrap64 (wrap64 (H + 1) * V) = (H + 1) * V := by rw [wrapId (n := H + 1) (by omega) (by omega), wrapId (by omega) (by omega)]
    have w2 := nums (V := V) (a := (a : Int)) (f := s) hV ⟨by omega, by omega⟩ ⟨by omega, by omega⟩
    refine Ev.step (fun k => ?_) (ih (a + 1) (by omega))
    rw [ebbtideref15_Arcs.l3, if_pos (by omega), if_pos (by rw [List.length_append, firstsA_length]; omega), if_pos (by rw [List.length_append, kEnds_length]; omega), w1, w2, wrap1 (by omega), firstsA_succ, kEnds_succ, List.append_assoc, List.append_assoc]
def gridKinds (V H : Int) (hold : Bool) (s t : Int) (l0 : List S54) : List S83 := (rAts V H hold s t l0 (H.toNat + 1)).2 ++ kEnds s (H.toNat + 1) ++ kEnds t (H.toNat + 1)
theorem arcs_ev (hn : NetOk V l0) (hh : 0 ≤ H ∧ H ≤ 1024) (hs : 0 ≤ s ∧ s < V) (ht : 0 ≤ t ∧ t < V) : Ev (fun k => ebbtideref15_Arcs.f k V hold l0 s t H) (gridArcs V H hold s t l0, gridKinds V H hold s t l0) := by
  have hV : 0 ≤ V ∧ V ≤ 50 := ⟨by have := hn.lo; omega, hn.hi⟩
  have hl := atLoop_len (V := V) (H := H) (s := s) (t := t) (hold := hold) hn (H.toNat + 1) (by omega)
  have hb := rAts_bal (V := V) (H := H) (s := s) (t := t) (hold := hold) (l0 := l0) (H.toNat + 1)
  unfold Bal2 at hb
  unfold gridArcs gridKinds
  rw [← rAts_fst]
  refine l0_ev hn hh ?_ (H.toNat + 1) 0 (by omega)
  have h4 := l4_ev (V := V) (H := H) (t := t) (A := (rAts V H hold s t l0 (H.toNat + 1)).1 ++ firstsA V H s (H.toNat + 1)) (K := (rAts V H hold s t l0 (H.toNat + 1)).2 ++ kEnds s (H.toNat + 1)) hV hh ht (by rw [List.length_append, firstsA_length]; omega) (by rw [List.length_append, kEnds_length]; omega) (H.toNat + 1) 0 (by omega)
  rw [show lastsA V H t 0 = [] from rfl, show kEnds t 0 = [] from rfl, List.append_nil, List.append_nil] at h4
  have h3 := l3_ev (V := V) (H := H) (s := s) (t := t) (A := (rAts V H hold s t l0 (H.toNat + 1)).1) (K := (rAts V H hold s t l0 (H.toNat + 1)).2) hV hh hs (by omega) (by omega) h4 (H.toNat + 1) 0 (by omega)
  rw [show firstsA V H s 0 = [] from rfl, show kEnds s 0 = [] from rfl, List.append_nil, List.append_nil] at h3
  exact h3
theorem gridArcs_length (hn : NetOk V l0) (hh : 0 ≤ H ∧ H ≤ 1024) : (gridArcs V H hold s t l0).length ≤ 300000 := by
  have hl := atLoop_len (V := V) (H := H) (s := s) (t := t) (hold := hold) hn (H.toNat + 1) (by omega)
  rw [rAts_fst] at hl
  unfold gridArcs
  rw [List.length_append, List.length_append, firstsA_length, lastsA_length]
  omega
end
def expErr (n : Int) (l : List S54) (s t h : Int) : Int := if askErr n l s t h = 0 then (if fitsB n l h = true then 0 else 2) else askErr n l s t h
theorem expErr_ok {n : Int} {l : List S54} {s t h : Int} (he : expErr n l s t h = 0) : NetOk n l ∧ (0 ≤ s ∧ s < n) ∧ (0 ≤ t ∧ t < n) ∧ (0 ≤ h ∧ h ≤ 1024) := by
  unfold expErr at he
  by_cases c : askErr n l s t h = 0
  · obtain ⟨h1, h2, h3, h4, h5, h6, h7, h8⟩ := askErr_ok.1 c
    exact ⟨h1, ⟨h2, h3⟩, ⟨h4, h5⟩, ⟨h7, h8⟩⟩
  · rw [if_neg c] at he; exact absurd he c
theorem easked_ev (n : Int) (b : Bool) (l : List S54) (s t h : Int) : Ev (fun k => expand_Asked.f k n b l s t h) (expErr n l s t h) := by
  unfold expand_Asked.f expErr
  refine Ev.bind (asked_ev n b l s t h) ?_
  by_cases c : askErr n l s t h = 0
  · simp only [c, if_true]
    refine Ev.bind (fits_ev n b l h) ?_
    by_cases c2 : fitsB n l h = true
    · simp only [c2, if_true]; exact Ev.now _
    · simp only [c2, if_false]; exact Ev.now _
  · simp only [c, if_false]; exact Ev.now _
theorem reasked_ev (n : Int) (b : Bool) (l : List S54) (s t h : Int) : Ev (fun k => ebbtideref15_Asked.f k n b l s t h) (expErr n l s t h) := by
  unfold ebbtideref15_Asked.f expErr
  refine Ev.bind (rasked_ev n b l s t h) ?_
  by_cases c : askErr n l s t h = 0
  · simp only [c, if_true]
    refine Ev.bind (rfits_ev n b l h) ?_
    by_cases c2 : fitsB n l h = true
    · simp only [c2, if_true]; exact Ev.now _
    · simp only [c2, if_false]; exact Ev.now _
  · simp only [c, if_false]; exact Ev.now _
theorem okNet_of {n h : Int} {l : List S54} (hn : NetOk n l) (hh : 0 ≤ h ∧ h ≤ 1024) : okNet n h l = true := by
  unfold okNet
  rw [Bool.and_eq_true]
  refine ⟨decide_eq_true ⟨by have := hn.lo; omega, hn.hi, hh.1, hh.2, hn.len⟩, ?_⟩
  rw [List.all_eq_true]
  intro x hx
  have ho := hn.arcs x hx
  unfold okA
  exact decide_eq_true ⟨ho.f0.1, ho.f0.2, ho.f1.1, ho.f1.2, ho.f2.1, ho.f2.2, ho.f3.1, ho.f3.2⟩
def buildR (n : Int) (b : Bool) (l : List S54) (s t h : Int) : Int × Bool × List S54 × Int := if expErr n l s t h = 0 then ((h + 1) * n + 2, false, gridArcs n h b s t l, 0) else (0, false, [], expErr n l s t h)
theorem build_ev (n : Int) (b : Bool) (l : List S54) (s t h : Int) : Ev (fun k => expand_Build.f k n b l s t h) (buildR n b l s t h) := by
  unfold expand_Build.f buildR
  refine Ev.bind (easked_ev n b l s t h) ?_
  by_cases c : expErr n l s t h = 0
  · obtain ⟨h1, h2, h3, h4⟩ := expErr_ok c
    simp only [c, if_true]
    refine ev_cst fun _ => ?_
    rw [if_pos ⟨okNet_of h1 h4, h2.1, h2.2, h3.1, h3.2⟩]
  · simp only [c, if_false]; exact Ev.now _
theorem rbuild_ev (n : Int) (b : Bool) (l : List S54) (s t h : Int) : Ev (fun k => ebbtideref15_Build.f k n b l s t h) (buildR n b l s t h) := by
  unfold ebbtideref15_Build.f buildR
  refine Ev.bind (reasked_ev n b l s t h) ?_
  by_cases c : expErr n l s t h = 0
  · obtain ⟨h1, h2, h3, h4⟩ := expErr_ok c
    simp only [c, if_true]
    refine Ev.bind (arcs_ev h1 h4 h2 h3) ?_
    rw [wraps h4.1 h4.2 (by have := h1.lo; omega) (by have := h1.hi; omega)]
    have hm := mulB (a := h + 1) (b := n) (by omega) (by omega) (by have := h1.lo; omega) h1.hi
    rw [wrapId (n := (h + 1) * n + 2) (by omega) (by omega)]
    exact Ev.now _
  · simp only [c, if_false]; exact Ev.now _
theorem sameArcs_ev (l : List S54) (hl : l.length ≤ 4611686018427387904) : Ev (fun k => ebbtideref03_SameArcs.f k l l) true := by
  have hloop : ∀ d i, i + d = l.length → Ev (fun k => ebbtideref03_SameArcs.l0 k l l (i : Int)) true := by
    intro d
    induction d with
    | zero => intro i hi; exact ev_cst fun k => by rw [ebbtideref03_SameArcs.l0, if_neg (by omega)]
    | succ d ih =>
      intro i hi
      refine Ev.step (fun k => ?_) (ih (i + 1) (by omega))
      rw [ebbtideref03_SameArcs.l0, if_pos (by omega), if_pos (by omega), if_pos (by omega), if_neg (by simp), wrap1 (by omega)]
  refine Ev.congr (fun k => ?_) (hloop l.length 0 (by omega))
  unfold ebbtideref03_SameArcs.f
  rw [if_pos rfl]
  rfl
theorem sameNet_ev (n : Int) (b : Bool) (l : List S54) (hl : l.length ≤ 4611686018427387904) : Ev (fun k => ebbtideref15_Same.f k n b l n b l) true := by
  unfold ebbtideref15_Same.f ebbtideref05_Same.f
  simp only [if_true, beq_self_eq_true]
  exact Ev.bind (Ev.bind (sameArcs_ev l hl) (Ev.now _)) (Ev.now _)
end Go.Proofs.Ytfhkkbpkajfdlaa.P
end
section
namespace Go.Proofs.Ytfhkkbpkajfdlaa.R
open Go.RowKit Go.Proofs.Ytfhkkbpkajfdlaa.Q Go.Proofs.YtfhkkbpkajfdlaaW.PrintWords Go.Proofs.YtfhkkbpkajfdlaaW.PrintLast Go.Proofs.YtfhkkbpkajfdlaaW.PrintMore
open Go.ChangeShapes Go.WideShapes Go.Deep
def Reads (t : TypeId) {α : Type} (d : Kd α) (G : Nat → α → Prop) : Prop :=
  ∀ {H : Type} (enc : TypeId × Value → H) (w : World) (base : Nat) (spare : Nat → Bool) (held : Bool) (fuel : Nat) (cs : List Value) (x : DataW H × List MemPlace),
    DataW.trod enc Try.prog w base spare held fuel t cs = some x → ∃ a, d.K w a cs ∧ ∀ N, Rows.uptoBulk x.1 ≤ N → G N a
def gInt (k : IntKind) (_ : Nat) (n : Int) : Prop := (Lit.int k n).wf = true
def gTrue (_ : Nat) (_ : Bool) : Prop := True
def gList {α : Type} (G : Nat → α → Prop) (N : Nat) (l : List α) : Prop := l.length ≤ maxLen ∧ l.length ≤ N ∧ ∀ x ∈ l, G N x
theorem readsInt {t : TypeId} {k : IntKind} (ht : Try.prog.underlying t = some (.int k)) : Reads t (Kd.int k) (gInt k) := by
  intro H enc w base spare held fuel cs x h
  obtain ⟨n, rfl, rfl, hw⟩ := DataW.trod_int ht h
  exact ⟨n, rfl, fun _ _ => hw⟩
theorem readsBool {t : TypeId} (ht : Try.prog.underlying t = some .bool) : Reads t Kd.bool gTrue := by
  intro H enc w base spare held fuel cs x h
  obtain ⟨n, rfl, rfl⟩ := DataW.trod_bool ht h
  exact ⟨n, rfl, fun _ _ => trivial⟩
theorem one_le {H : Type} (d : DataW H) : 1 ≤ Rows.uptoBulk d := by
  cases d with
  | lit l => cases l <;> simp [Rows.uptoBulk]
  | nil => simp [Rows.uptoBulk]
  | ptr d => simp [Rows.uptoBulk]
  | slice elems spare => simp [Rows.uptoBulk]
  | agg parts => simp [Rows.uptoBulk]
  | iface t d => simp [Rows.uptoBulk]
  | map entries => simp [Rows.uptoBulk]
  | held h => simp [Rows.uptoBulk]
theorem part_le {H : Type} {d : DataW H} {l : List (DataW H)} (h : d ∈ l) : Rows.uptoBulk d ≤ Rows.uptoBulkAll l := by
  induction l with
  | nil => cases h
  | cons x r ih =>
    simp only [Rows.uptoBulkAll]
    cases List.mem_cons.1 h with
    | inl e => subst e; omega
    | inr e => have := ih e; omega
theorem length_le {H : Type} (l : List (DataW H)) : l.length ≤ Rows.uptoBulkAll l := by
  induction l with
  | nil => simp [Rows.uptoBulkAll]
  | cons x r ih => have := one_le x; simp only [Rows.uptoBulkAll, List.length_cons]; omega
theorem readsSlice {t e : TypeId} {α : Type} [Inhabited α] {d : Kd α} {G : Nat → α → Prop} (ht : Try.prog.underlying t = some (.slice e)) (hc : Try.prog.cellsOf e = d.sz) (R : Reads e d G) : Reads t (Kd.slice e d) (gList G) := by
  intro H enc w base spare held fuel cs x h
  rcases open_slice ht h with ⟨rfl, rfl⟩ | ⟨a, len, cap, m, n, D, Pl, rfl, hb, hl, hm, hmm, rfl, hx⟩
  · exact ⟨[], ⟨none, 0, rfl, Nat.le_refl _, Kd.C_nil d w⟩, fun N _ => ⟨Nat.zero_le _, Nat.zero_le _, fun x hx => by cases hx⟩⟩
  · have hlm : len ≤ m := by rw [hmm]; split <;> omega
    obtain ⟨f, hf⟩ := choose_lt (α := α) (n := m) (p := fun i y => ∃ c, c.length = d.sz ∧ d.K w y c ∧ (∀ j u, c[j]? = some u → w.cell? (a.add (i * d.sz + j)) = some u) ∧ ∀ N, Rows.uptoBulk (D i) ≤ N → G N y) (fun i hi => by
      obtain ⟨c, h1, h2⟩ := hx i hi
      obtain ⟨y, hK, hG⟩ := R enc w base spare held n c _ h2
      obtain ⟨_, hlen, hcell⟩ := World.cells?_some h1
      rw [hc] at hlen hcell
      refine ⟨y, c, hlen, hK, fun j u hu => ?_, hG⟩
      have hj : j < d.sz := by rw [← hlen]; exact (List.getElem?_eq_some_iff.1 hu).1
      have := hcell j hj
      rw [Deep.add_add] at this
      rw [this, hu])
    have hL : ((List.range len).map f).length = len := by simp
    refine ⟨(List.range len).map f, ⟨some a, cap, by rw [hL], by rw [hL]; exact hl, ?_⟩, fun N hN => ?_⟩
    · refine ⟨rfl, by rw [hL]; exact Nat.le_trans hl (Nat.le_trans hm (by decide)), fun _ => ⟨a, rfl, fun j p hj => ?_⟩⟩
      have hjl : j < len := by
        have := (List.getElem?_eq_some_iff.1 hj).1
        rwa [hL] at this
      have hp : f j = p := by
        rw [List.getElem?_map, List.getElem?_range hjl] at hj
        exact Option.some.inj hj
      obtain ⟨c, h1, h2, h3, _⟩ := hf j (by omega)
      rw [hp] at h2
      exact ⟨c, h1, h2, h3⟩
    · have hbulk : Rows.uptoBulkAll ((List.range len).map D) ≤ N := by
        simp only [Rows.uptoBulk] at hN
        omega
      refine ⟨by rw [hL]; omega, by rw [hL]; have := length_le ((List.range len).map D); simp at this; omega, fun y hy => ?_⟩
      obtain ⟨i, hi, rfl⟩ := List.mem_map.1 hy
      have hi' := List.mem_range.1 hi
      obtain ⟨c, _, _, _, hG⟩ := hf i (by omega)
      exact hG N (Nat.le_trans (part_le (List.mem_map.2 ⟨i, hi, rfl⟩)) hbulk)
instance : Inhabited S54 := ⟨z54⟩
def g54 (N : Nat) (x : S54) : Prop := gInt .i64 N x.f0 ∧ gInt .i64 N x.f1 ∧ gInt .i64 N x.f2 ∧ gInt .i64 N x.f3
set_option maxRecDepth 100000 in
theorem reads54 : Reads 54 k54 g54 := by
  intro H enc w base spare held fuel cs x h
  obtain ⟨xs, n, _, hx, hl, hlen, hf⟩ := DataW.trod_struct Try.underlying54 h
  have hl2 : cs.length = 4 := hl.trans (by kernel_rfl)
  have hlen2 : xs.length = 4 := hlen
  match xs, hlen2, cs, hl2 with
  | [y0, y1, y2, y3], _, [v0, v1, v2, v3], _ =>
    have c0 : Try.prog.cellsOf 3 = 1 := by kernel_rfl
    have e0 : DataW.trod enc Try.prog w base spare held n 3 (List.take (Try.prog.cellsOf 3) (List.drop 0 [v0, v1, v2, v3])) = some y0 := hf 0 _ rfl
    rw [c0] at e0
    obtain ⟨a0, K0, G0⟩ := (readsInt Try.underlying3) enc w base spare held n [v0] y0 e0
    have c1 : Try.prog.cellsOf 3 = 1 := by kernel_rfl
    have e1 : DataW.trod enc Try.prog w base spare held n 3 (List.take (Try.prog.cellsOf 3) (List.drop 1 [v0, v1, v2, v3])) = some y1 := hf 1 _ rfl
    rw [c1] at e1
    obtain ⟨a1, K1, G1⟩ := (readsInt Try.underlying3) enc w base spare held n [v1] y1 e1
    have c2 : Try.prog.cellsOf 3 = 1 := by kernel_rfl
    have e2 : DataW.trod enc Try.prog w base spare held n 3 (List.take (Try.prog.cellsOf 3) (List.drop 2 [v0, v1, v2, v3])) = some y2 := hf 2 _ rfl
    rw [c2] at e2
    obtain ⟨a2, K2, G2⟩ := (readsInt Try.underlying3) enc w base spare held n [v2] y2 e2
    have c3 : Try.prog.cellsOf 3 = 1 := by kernel_rfl
    have e3 : DataW.trod enc Try.prog w base spare held n 3 (List.take (Try.prog.cellsOf 3) (List.drop 3 [v0, v1, v2, v3])) = some y3 := hf 3 _ rfl
    rw [c3] at e3
    obtain ⟨a3, K3, G3⟩ := (readsInt Try.underlying3) enc w base spare held n [v3] y3 e3
    refine ⟨⟨a0, a1, a2, a3⟩, ⟨_, _, rfl, K0, ⟨_, _, rfl, K1, ⟨_, _, rfl, K2, K3⟩⟩⟩, fun N hN => ?_⟩
    rw [hx] at hN
    simp only [List.map_cons, List.map_nil, Rows.uptoBulk, Rows.uptoBulkAll] at hN
    exact ⟨G0 N (by omega), G1 N (by omega), G2 N (by omega), G3 N (by omega)⟩
structure S24 where
  f0 : Int
  f1 : Bool
  f2 : List S54
def z24 : S24 := ⟨(0 : Int), false, []⟩
def k24 : Kd S24 := Kd.iso (Kd.pair (Kd.int .i64) (Kd.pair Kd.bool (Kd.slice 54 k54))) (fun x : S24 => (x.f0, x.f1, x.f2))
instance : Inhabited S24 := ⟨z24⟩
def g24 (N : Nat) (x : S24) : Prop := gInt .i64 N x.f0 ∧ gTrue N x.f1 ∧ gList (g54) N x.f2
set_option maxRecDepth 100000 in
theorem reads24 : Reads 24 k24 g24 := by
  intro H enc w base spare held fuel cs x h
  obtain ⟨xs, n, _, hx, hl, hlen, hf⟩ := DataW.trod_struct Try.underlying24 h
  have hl2 : cs.length = 3 := hl.trans (by kernel_rfl)
  have hlen2 : xs.length = 3 := hlen
  match xs, hlen2, cs, hl2 with
  | [y0, y1, y2], _, [v0, v1, v2], _ =>
    have c0 : Try.prog.cellsOf 3 = 1 := by kernel_rfl
    have e0 : DataW.trod enc Try.prog w base spare held n 3 (List.take (Try.prog.cellsOf 3) (List.drop 0 [v0, v1, v2])) = some y0 := hf 0 _ rfl
    rw [c0] at e0
    obtain ⟨a0, K0, G0⟩ := (readsInt Try.underlying3) enc w base spare held n [v0] y0 e0
    have c1 : Try.prog.cellsOf 4 = 1 := by kernel_rfl
    have e1 : DataW.trod enc Try.prog w base spare held n 4 (List.take (Try.prog.cellsOf 4) (List.drop 1 [v0, v1, v2])) = some y1 := hf 1 _ rfl
    rw [c1] at e1
    obtain ⟨a1, K1, G1⟩ := (readsBool Try.underlying4) enc w base spare held n [v1] y1 e1
    have c2 : Try.prog.cellsOf 22 = 1 := by kernel_rfl
    have e2 : DataW.trod enc Try.prog w base spare held n 22 (List.take (Try.prog.cellsOf 22) (List.drop 2 [v0, v1, v2])) = some y2 := hf 2 _ rfl
    rw [c2] at e2
    obtain ⟨a2, K2, G2⟩ := (readsSlice Try.underlying22 (by kernel_rfl) reads54) enc w base spare held n [v2] y2 e2
    refine ⟨⟨a0, a1, a2⟩, ⟨_, _, rfl, K0, ⟨_, _, rfl, K1, K2⟩⟩, fun N hN => ?_⟩
    rw [hx] at hN
    simp only [List.map_cons, List.map_nil, Rows.uptoBulk, Rows.uptoBulkAll] at hN
    exact ⟨G0 N (by omega), G1 N (by omega), G2 N (by omega)⟩
structure S26 where
  f0 : Int
  f1 : Int
def z26 : S26 := ⟨(0 : Int), (0 : Int)⟩
instance : Inhabited S26 := ⟨z26⟩
end Go.Proofs.Ytfhkkbpkajfdlaa.R
end
section
namespace Go.Proofs.Ytfhkkbpkajfdlaa.R
open Go.RowKit Go.Proofs.Ytfhkkbpkajfdlaa.Q Go.Proofs.YtfhkkbpkajfdlaaW.PrintWords Go.Proofs.YtfhkkbpkajfdlaaW.PrintLast Go.Proofs.YtfhkkbpkajfdlaaW.PrintMore
def ExpandBuilds.Pure : Prop := ∀ N0 : Nat, ∀ N1 : Nat, ∀ N2 : Nat, ∀ N3 : Nat, ∀ (x0 : S24) (x1 : Int) (x2 : Int) (x3 : Int), g24 N0 x0 → gInt .i64 N1 x1 → gInt .i64 N2 x2 → gInt .i64 N3 x3 → ∃ k, ebbtidelaw15_ExpandBuilds.f k x0.f0 x0.f1 x0.f2 x1 x2 x3 = some true
end Go.Proofs.Ytfhkkbpkajfdlaa.R
end
section
namespace Go.Proofs.Ytfhkkbpkajfdlaa.Pure
set_option linter.unusedSimpArgs false
set_option linter.unusedVariables false
open Go.RowKit Go.Proofs.Ytfhkkbpkajfdlaa.Q Go.Proofs.Ytfhkkbpkajfdlaa.P Go.Proofs.YtfhkkbpkajfdlaaW.PrintWords Go.Proofs.YtfhkkbpkajfdlaaW.PrintLast Go.Proofs.YtfhkkbpkajfdlaaW.PrintMore
open Go.Proofs.Ytfhkkbpkajfdlaa.R
theorem builds_j1 (n : Int) (b : Bool) (l : List S54) (s t h : Int) : Ev (fun k => ebbtidelaw15_ExpandBuilds.j1 k s t h n b l) true := by
  refine Ev.step (f := fun k => (expand_Build.f k n b l s t h).bind fun bt271 => ((ebbtideref15_Build.f k n b l s t h).bind fun bt278 => ((ebbtidelaw15_awake.f k).bind fun t285 => (if t285 = true then ((ebbtideref15_Same.f k bt271.1 bt271.2.1 bt271.2.2.1 bt278.1 bt278.2.1 bt278.2.2.1).bind fun t286 => (if t286 = true then (some (bt271.2.2.2 == bt278.2.2.2)) else (some false))) else (some false))))) (fun k => ?_) ?_
  · rw [ebbtidelaw15_ExpandBuilds.j1]
  · refine Ev.bind (build_ev n b l s t h) (Ev.bind (rbuild_ev n b l s t h) (Ev.bind awake15_ev ?_))
    simp only [if_true]
    refine Ev.bind (sameNet_ev _ _ _ ?_) ?_
    · unfold buildR
      by_cases c : expErr n l s t h = 0
      · obtain ⟨h1, _, _, h4⟩ := expErr_ok c
        rw [if_pos c]
        have := gridArcs_length (V := n) (H := h) (s := s) (t := t) (hold := b) h1 h4
        show (gridArcs n h b s t l).length ≤ _
        omega
      · rw [if_neg c]; exact Nat.zero_le _
    · simp only [if_true, beq_self_eq_true]
      exact Ev.now _
theorem builds_j0 (n : Int) (b : Bool) (l : List S54) (s t h : Int) (x : Bool) : Ev (fun k => ebbtidelaw15_ExpandBuilds.j0 k s t h x n b l) true := by
  cases x
  · refine Ev.step (fun k => ?_) (builds_j1 n b l s t h)
    rw [ebbtidelaw15_ExpandBuilds.j0, if_neg (by decide)]
  · refine Ev.step (fun k => ?_) (builds_j1 n b l s t (Int.tmod h 31))
    rw [ebbtidelaw15_ExpandBuilds.j0, if_pos rfl]
theorem ExpandBuilds : ExpandBuilds.Pure := by
  intro N0 N1 N2 N3 n s t h _ _ _ _
  apply Ev.rounds
  unfold ebbtidelaw15_ExpandBuilds.f
  by_cases c : h > 30
  · simp only [c, if_true]
    exact Ev.bind (rfits_ev _ _ _ _) (builds_j0 _ _ _ _ _ _ _)
  · simp only [c, if_false]
    exact builds_j0 _ _ _ _ _ _ _
end Go.Proofs.Ytfhkkbpkajfdlaa.Pure
end
section
namespace Go.Proofs.Ytfhkkbpkajfdlaa
open Go Go.RowKit
def ioHead : List Char := List.map Char.ofNat [104, 97, 114, 110, 101, 115, 115, 32, 53, 97, 52, 98, 49, 100, 102, 98, 102, 48, 99, 51, 55, 54, 100, 49, 48, 99, 102, 101, 49, 101, 100, 101, 53, 51, 57, 51, 100, 99, 57, 100, 102, 101, 50, 57, 49, 54, 57, 99, 50, 100, 99, 49, 55, 50, 50, 101, 97, 53, 54, 56, 48, 100, 54, 51, 50, 54, 98, 49, 56, 99, 52, 52, 32, 99, 117, 116, 32]
def ioRest : List Char := List.map Char.ofNat [97, 116, 32, 101, 98, 98, 116, 105, 100, 101, 47, 101, 98, 98, 116, 105, 100, 101, 108, 97, 119, 49, 53, 46, 69, 120, 112, 97, 110, 100, 70, 105, 116, 115, 32, 101, 98, 98, 116, 105, 100, 101, 47, 101, 98, 98, 116, 105, 100, 101, 108, 97, 119, 49, 53, 46, 69, 120, 112, 97, 110, 100, 66, 117, 105, 108, 100, 115, 32, 101, 98, 98, 116, 105, 100, 101, 47, 101, 98, 98, 116, 105, 100, 101, 108, 97, 119, 49, 53, 46, 69, 120, 112, 97, 110, 100, 66, 97, 99, 107, 32, 101, 98, 98, 116, 105, 100, 101, 47, 101, 98, 98, 116, 105, 100, 101, 108, 97, 119, 49, 53, 46, 69, 120, 112, 97, 110, 100, 77, 111, 118, 101, 115, 32, 101, 98, 98, 116, 105, 100, 101, 47, 101, 98, 98, 116, 105, 100, 101, 108, 97, 119, 49, 53, 46, 69, 120, 112, 97, 110, 100, 82, 117, 110, 115, 32, 101, 98, 98, 116, 105, 100, 101, 47, 101, 98, 98, 116, 105, 100, 101, 108, 97, 119, 49, 53, 46, 69, 120, 112, 97, 110, 100, 70, 108, 111, 119, 115, 32, 101, 98, 98, 116, 105, 100, 101, 47, 101, 98, 98, 116, 105, 100, 101, 108, 97, 119, 49, 53, 46, 69, 120, 112, 97, 110, 100, 80, 108, 97, 110, 115]
set_option maxRecDepth 100000 in
theorem io_eq : Try.pinned.checked.prog.initOrder = String.ofList (ioHead ++ ioRest) := by kernel_rfl
theorem io_toList : Try.pinned.checked.prog.initOrder.toList = ioHead ++ ioRest := by rw [io_eq]; exact String.toList_ofList
def ioCut : List Char := List.map Char.ofNat [99, 117, 116]
set_option maxRecDepth 100000 in
theorem io_words (r : List Char) : behindMainWord (wordsSigns (ioHead ++ r)) = ioCut :: wordsSigns r := by kernel_rfl
theorem io_behind : ∃ X, behindMainWord (wordsSigns Try.pinned.checked.prog.initOrder.toList) = ioCut :: X := ⟨_, by rw [io_toList]; exact io_words _⟩
theorem io_cut : ioCut = "cut".toList := by decide +kernel
theorem io_strip (X : List (List Char)) : stripLifts liftWords (ioCut :: X) = ([], ioCut :: X) := by kernel_rfl
theorem headLifts_cut (P : Program) (h : ∃ X, behindMainWord (wordsSigns P.initOrder.toList) = ioCut :: X) : P.headLifts = [] := by
  obtain ⟨X, e⟩ := h
  unfold Program.headLifts
  rw [e, io_strip]
  rfl
theorem mayEnter_cut (P : Program) (h : ∃ X, behindMainWord (wordsSigns P.initOrder.toList) = ioCut :: X) (h1 : P.laysLater = false) (h2 : P.bearsReflect = false) (h3 : P.doorFits [] = true) : P.mayEnter = true := by
  obtain ⟨X, e⟩ := h
  unfold Program.mayEnter
  rw [e]
  simp only [io_strip, h1, h2, h3]
  rw [io_cut]
  simp
theorem liftsFinal_cut (P : Program) (h : ∃ X, behindMainWord (wordsSigns P.initOrder.toList) = ioCut :: X) : P.liftsFinal = false := by
  have h0 := headLifts_cut P h
  obtain ⟨X, e⟩ := h
  unfold Program.liftsFinal
  rw [e, h0]
  rw [io_cut]
  simp
theorem make_cut (P : Program) (h : ∃ X, behindMainWord (wordsSigns P.initOrder.toList) = ioCut :: X) : P.make = some .cut := by
  obtain ⟨X, e⟩ := h
  unfold Program.make
  rw [e]
  simp only [io_cut]
  rw [if_neg (by decide +kernel), if_pos (by simp)]
theorem p_mayEnter : Try.pinned.checked.prog.mayEnter = true := mayEnter_cut _ io_behind (by kernel_rfl) (by kernel_rfl) (by kernel_rfl)
theorem p_liftsFinal : Try.pinned.checked.prog.liftsFinal = false := liftsFinal_cut _ io_behind
theorem p_make : Try.pinned.checked.prog.make = some .cut := make_cut _ io_behind
theorem p_laidOut : laidOutB Try.pinned.checked.prog = true := by kernel_rfl
theorem p_mapsRowed : mapsRowed Try.pinned.checked.prog = true := by kernel_rfl
theorem p_stopsHeard : Try.pinned.checked.prog.stopsHeard = true := by kernel_rfl
theorem p_stops : Try.pinned.checked.prog.stops = [] := by kernel_rfl
theorem p_stopKnobs : Try.pinned.checked.prog.stopKnobs = [] := by kernel_rfl
end Go.Proofs.Ytfhkkbpkajfdlaa
end
section
namespace Go.Proofs.Ytfhkkbpkajfdlaa.expandBuilds
open Go.ChangeShapes Go.WideShapes Go.ChangeAt Go.RowKit
open Go.ChangeMaps (open_string shut_string)
open Go.Proofs.Ytfhkkbpkajfdlaa.Q Go.Proofs.Ytfhkkbpkajfdlaa.R Go.Proofs.YtfhkkbpkajfdlaaW.PrintWords
set_option linter.unusedVariables false
theorem own : ownKnob Try.prog.godebug = none := by kernel_rfl
theorem laidOut : laidOutB Try.prog = true := by kernel_rfl
theorem open24 {w : World} {x : S24} {cs : List Value} (h : k24.K w x cs) : ∃ (A2 : Option Addr) (c2 : Nat), cs = [.int .i64 x.f0, .bool x.f1, .slice A2 x.f2.length c2] ∧ x.f2.length ≤ c2 ∧ Kd.C k54 w A2 x.f2.length x.f2 := by
  obtain ⟨_, _, rfl, rfl, ⟨_, _, rfl, rfl, ⟨A2, c2, rfl, l2, g2⟩⟩⟩ := h
  exact ⟨A2, c2, rfl, l2, g2⟩
set_option maxRecDepth 100000 in
theorem lifted (os : Os) (started : os.Started) (H : Type) (enc : TypeId × Value → H) :
    ReturnsInHanded {} Try.checked os 4 .any (Rows.expandBuildsSpec.pre6 enc Try.prog Try.f4 Rows.expandBuildsRow.domain false) (Rows.expandBuildsSpec.post enc Try.prog Try.f4 false true false false) := by
  refine returnsInHanded_of_change_sized (C := Try.checked) own started (by kernel_rfl) Try.func4
    (ChangeSpec.witness6 (enc := enc) (C := Try.checked) false ⟨#[], #[.agg #[.int .i64 0, .bool false, .slice none 0 0], .int .i64 0, .int .i64 0, .int .i64 0], []⟩ 8 (by kernel_rfl) (by kernel_rfl) (by kernel_rfl) (by kernel_rfl)) ?_
  intro W base args ds gs before hval0 hW hcnd hsz0 _
  have hval : ∀ (j : Nat) t v, Try.f4.params[j]? = some t → args[j]? = some v → Value.okWide Try.prog W .any base t v := hval0
  have hW' := hW
  obtain ⟨p, q, hA0, hV, rfl, hfz, hnd⟩ := hW
  have hA : DataW.TrodAll enc Try.prog W 0 (fun _ => true) true Try.f4.params.toList args.toList ds p := hA0
  rw [Try.params4] at hA hval
  obtain ⟨v0, vs0, d0, ds0, p0, q0, hargs, rfl, rfl, h0, r0⟩ := trodAll_cons hA
  obtain ⟨v1, vs1, d1, ds1, p1, q1, rfl, rfl, rfl, h1, r1⟩ := trodAll_cons r0
  obtain ⟨v2, vs2, d2, ds2, p2, q2, rfl, rfl, rfl, h2, r2⟩ := trodAll_cons r1
  obtain ⟨v3, vs3, d3, ds3, p3, q3, rfl, rfl, rfl, h3, r3⟩ := trodAll_cons r2
  obtain ⟨rfl, rfl, rfl⟩ := trodAll_nil r3
  obtain rfl : args = #[v0, v1, v2, v3] := by cases args; simp_all
  obtain ⟨rfl, rfl⟩ := trodVars_none hV
  have k0 := h0
  have lt0 : ∀ x ∈ p0, x.block < W.heap.size := by obtain ⟨m, hm⟩ := k0; exact DataW.trod_lt m _ _ _ hm
  obtain ⟨fu0, hf0⟩ := h0
  obtain ⟨x0, K0, G0⟩ := reads24 enc W 0 (fun _ => true) true fu0 _ _ hf0
  obtain ⟨cs0, rfl, hsz0⟩ := okWide_struct Try.underlying24 (hval 0 24 v0 rfl rfl)
  have K0' : (k24).K W x0 cs0.toList := K0
  obtain ⟨ao0_2, co0_2, es0, hc0_2, hr0_2⟩ := open24 K0'
  obtain rfl : cs0 = _ := Array.toList_inj.1 es0
  have k1 := h1
  have lt1 : ∀ x ∈ p1, x.block < W.heap.size := by obtain ⟨m, hm⟩ := k1; exact DataW.trod_lt m _ _ _ hm
  obtain ⟨fu1, hf1⟩ := h1
  obtain ⟨x1, K1, G1⟩ := (readsInt Try.underlying3) enc W 0 (fun _ => true) true fu1 _ _ hf1
  obtain ⟨z1, rfl⟩ := okWide_int Try.underlying3 (hval 1 3 v1 rfl rfl)
  obtain rfl : x1 = z1 := Eq.symm (by simpa [Value.cells, Kd.int, Kd.scalar] using K1)
  have k2 := h2
  have lt2 : ∀ x ∈ p2, x.block < W.heap.size := by obtain ⟨m, hm⟩ := k2; exact DataW.trod_lt m _ _ _ hm
  obtain ⟨fu2, hf2⟩ := h2
  obtain ⟨x2, K2, G2⟩ := (readsInt Try.underlying3) enc W 0 (fun _ => true) true fu2 _ _ hf2
  obtain ⟨z2, rfl⟩ := okWide_int Try.underlying3 (hval 2 3 v2 rfl rfl)
  obtain rfl : x2 = z2 := Eq.symm (by simpa [Value.cells, Kd.int, Kd.scalar] using K2)
  have k3 := h3
  have lt3 : ∀ x ∈ p3, x.block < W.heap.size := by obtain ⟨m, hm⟩ := k3; exact DataW.trod_lt m _ _ _ hm
  obtain ⟨fu3, hf3⟩ := h3
  obtain ⟨x3, K3, G3⟩ := (readsInt Try.underlying3) enc W 0 (fun _ => true) true fu3 _ _ hf3
  obtain ⟨z3, rfl⟩ := okWide_int Try.underlying3 (hval 3 3 v3 rfl rfl)
  obtain rfl : x3 = z3 := Eq.symm (by simpa [Value.cells, Kd.int, Kd.scalar] using K3)
  have h := Pure.ExpandBuilds _ _ _ _ x0 x1 x2 x3 (G0 _ (Nat.le_refl _)) (G1 _ (Nat.le_refl _)) (G2 _ (Nat.le_refl _)) (G3 _ (Nat.le_refl _))
  obtain ⟨k, h⟩ := h
  refine (ebbtidelaw15_ExpandBuilds.calls k x0.f0 x0.f1 _ _ x0.f2 x1 x2 x3 true W hr0_2 hc0_2 h).mono fun e W' ⟨he, bel0⟩ => ?_
  have bel : Below W.heap.size W W' := bel0
  subst he
  exact ⟨_, rfl, _, _, _, [], _, [], hW', trodAll_mk1 (shut_bool Try.underlying4 _), (trodAll_cons_mk (Below.trod laidOut (by kernel_rfl) (of_decide_eq_true (by kernel_rfl)) k0 bel lt0) (trodAll_cons_mk (Below.trod laidOut (by kernel_rfl) (of_decide_eq_true (by kernel_rfl)) k1 bel lt1) (trodAll_cons_mk (Below.trod laidOut (by kernel_rfl) (of_decide_eq_true (by kernel_rfl)) k2 bel lt2) (trodAll_cons_mk (Below.trod laidOut (by kernel_rfl) (of_decide_eq_true (by kernel_rfl)) k3 bel lt3) trodAll_mk0)))), rfl, bel.frame _, fun h => by cases h⟩
theorem andI {a b : Bool} (x : a = true) (y : b = true) : (a && b) = true := by rw [x, y]; rfl
set_option maxRecDepth 100000 in
set_option maxHeartbeats 8000000 in
theorem closed : joinedFacts Try.pinned.checked.prog 4 Try.f4 Rows.expandBuildsSpec Rows.expandBuildsRow = true := by
  unfold joinedFacts
  exact (andI (andI (andI (andI (andI (andI (andI (andI (andI (andI (andI (andI (andI (andI (andI (andI (andI (andI (andI (andI (andI (andI (andI (andI (andI (andI (andI (andI (andI (andI (andI (by as_aux_lemma => kernel_rfl)
    p_laidOut)
    p_mapsRowed)
    (by as_aux_lemma => kernel_rfl))
    (by as_aux_lemma => kernel_rfl))
    (by as_aux_lemma => kernel_rfl))
    (by rw [p_stops]; rfl))
    (by as_aux_lemma => kernel_rfl))
    (by rw [p_stopKnobs]; rfl))
    (by as_aux_lemma => kernel_rfl))
    (by as_aux_lemma => kernel_rfl))
    (by as_aux_lemma => kernel_rfl))
    (by as_aux_lemma => kernel_rfl))
    (by as_aux_lemma => kernel_rfl))
    (by as_aux_lemma => kernel_rfl))
    (by as_aux_lemma => kernel_rfl))
    (by as_aux_lemma => kernel_rfl))
    (by as_aux_lemma => kernel_rfl))
    (by as_aux_lemma => kernel_rfl))
    (by as_aux_lemma => kernel_rfl))
    (by as_aux_lemma => kernel_rfl))
    (by as_aux_lemma => kernel_rfl))
    (by as_aux_lemma => kernel_rfl))
    (by as_aux_lemma => kernel_rfl))
    p_stopsHeard)
    p_mayEnter)
    (by rw [p_liftsFinal]; rfl))
    (by rw [p_make]; rfl))
    (by as_aux_lemma => kernel_rfl))
    (by as_aux_lemma => kernel_rfl))
    (by as_aux_lemma => kernel_rfl))
    (by as_aux_lemma => kernel_rfl))
theorem proved : Rows.ExpandBuildsSaid :=
  OpenClaim.holds_of_wide 4 Try.f4 rfl rfl rfl rfl rfl rfl rfl ⟨rfl, rfl, rfl, rfl, rfl⟩ rfl rfl rfl rfl rfl (by kernel_rfl) Try.func4 closed
    (of_decide_eq_true (by kernel_rfl)) (by unfold Func.isWrapper; first | (rw [if_pos (by decide +kernel)]; kernel_rfl) | (rw [if_neg (by decide +kernel)]; exact ⟨rfl, rfl⟩))
    (fun os started H enc _ => lifted os started H enc)
#print axioms proved
end Go.Proofs.Ytfhkkbpkajfdlaa.expandBuilds
namespace Go.Proofs.Ytfhkkbpkajfdlaa
theorem expandBuilds_holds : Rows.ExpandBuildsSaid := expandBuilds.proved
end Go.Proofs.Ytfhkkbpkajfdlaa
end
