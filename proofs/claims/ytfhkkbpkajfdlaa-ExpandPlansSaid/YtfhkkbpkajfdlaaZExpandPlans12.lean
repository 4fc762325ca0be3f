/- A part of the proof: words, contracts, plain lemmas. Conditions: none. -/
import Derived.Test.YtfhkkbpkajfdlaaZExpandPlans11
set_option linter.unusedSimpArgs false
set_option linter.unusedVariables false
section
namespace Go.Proofs.Ytfhkkbpkajfdlaa.P
open Go.Sort hiding rd
open Go.RowKit Go.Proofs.Ytfhkkbpkajfdlaa.Q Go.Proofs.YtfhkkbpkajfdlaaW.PrintWords Go.Proofs.YtfhkkbpkajfdlaaW.PrintLast Go.Proofs.YtfhkkbpkajfdlaaW.PrintMore
theorem mlt_trans {a b c : S85} (h : mlt a b) (k : mlt b c) : mlt a c := by unfold mlt at *; omega
theorem mlt_of_not {a b : S85} (h : ¬ mlt a b) (k : keyM b ≠ keyM a) : mlt b a := by
 have : ¬ (b.f0 = a.f0 ∧ b.f1 = a.f1) := fun h => k (by unfold keyM; rw [h.1, h.2])
 unfold mlt at *
 omega
theorem ins_ev (l : List S85) (x5 : Int) (R : List S85 × Int) : ∀ (n : Nat) (A B : List S85) (e : S85), A.length = n → n + B.length ≤ 4611686018427387904 → (A ++ B).Pairwise mlt → (∀ b ∈ B, mlt e b) → (∀ a ∈ A, keyM a ≠ keyM e) →
 (∀ L : List S85, L.Pairwise mlt → (∀ m, m ∈ L ↔ m = e ∨ m ∈ A ++ B) → L.length = A.length + B.length + 1 → Ev (fun k => ebbtideref03_Moves.l0 k l L (wrap64 (x5 + 1))) R) → Ev (fun k => ebbtideref03_Moves.l3 k l (A ++ e :: B) x5 (n : Int)) R := by
 intro n
 induction n with
 | zero =>
  intro A B e hA hn hs hB hne hc
  obtain rfl : A = [] := List.eq_nil_of_length_eq_zero hA
  refine Ev.step (fun k => by rw [ebbtideref03_Moves.l3, if_neg (by omega)]; rfl) (hc (e :: B) ?_ ?_ ?_)
  ·rw [List.pairwise_cons]; exact ⟨hB, hs⟩
  ·intro m; simp
  ·simp
 | succ n ih =>
  intro A B e hA hn hs hB hne hc
  obtain ⟨A', a, rfl⟩ : ∃ A' a, A = A' ++ [a] := ⟨A.dropLast, A.getLast (fun h => by rw [h] at hA; cases hA), (List.dropLast_concat_getLast _).symm⟩
  have hA' : A'.length = n := by simpa using hA
  subst hA'
  have g1 : rd_T85 (A' ++ [a] ++ e :: B) ((A'.length + 1 : Nat) : Int) = e := by
   unfold rd_T85
   rw [Int.toNat_natCast, List.getD_eq_getElem?_getD, List.getElem?_append_right (by simp)]
   simp
  have g0 : rd_T85 (A' ++ [a] ++ e :: B) (A'.length : Int) = a := by
   unfold rd_T85
   rw [Int.toNat_natCast, List.getD_eq_getElem?_getD, List.append_assoc, List.getElem?_append_right (Nat.le_refl _)]
   simp
  have hw : wrap64 (((A'.length + 1 : Nat) : Int) - 1) = (A'.length : Int) := by unfold wrap64; omega
  have hlen : (A' ++ [a] ++ e :: B).length = A'.length + 1 + (B.length + 1) := by simp; omega
  have hsw : ((A' ++ [a] ++ e :: B).set (A'.length + 1) a).set A'.length e = A' ++ e :: a :: B := by
   rw [List.set_append_right _ _ (by simp)]
   simp only [List.length_append, List.length_singleton, Nat.sub_self, List.set_cons_zero]
   rw [List.append_assoc, List.set_append_right _ _ (Nat.le_refl _)]
   simp
  have hstep : ∀ k, ebbtideref03_Moves.l3 (k + 1) l (A' ++ [a] ++ e :: B) x5 ((A'.length + 1 : Nat) : Int) = if mlt e a then ebbtideref03_Moves.l3 k l (A' ++ e :: a :: B) x5 (A'.length : Int) else ebbtideref03_Moves.l0 k l (A' ++ [a] ++ e :: B) (wrap64 (x5 + 1)) := by
   intro k
   rw [ebbtideref03_Moves.l3, if_pos (by omega), if_pos (by omega), if_pos (by omega), hw, if_pos (by omega), if_pos (by omega), g1, g0]
   simp only [Int.toNat_natCast]
   rw [show ((⟨a.f0, a.f1, a.f2⟩ : S85)) = a from rfl, show ((⟨e.f0, e.f1, e.f2⟩ : S85)) = e from rfl, hsw]
   by_cases c1 : e.f1 < a.f1
   ·rw [if_pos c1, if_pos (show mlt e a from .inl c1)]
   ·rw [if_neg c1]
    by_cases c2 : e.f1 = a.f1
    ·rw [if_pos c2]
     by_cases c3 : e.f0 < a.f0
     ·rw [if_pos c3, if_pos (show mlt e a from .inr ⟨c2, c3⟩)]
     ·rw [if_neg c3, if_neg (show ¬ mlt e a from fun h => by unfold mlt at h; omega)]
    ·rw [if_neg c2, if_neg (show ¬ mlt e a from fun h => by unfold mlt at h; omega)]
  rw [List.append_assoc, List.singleton_append] at hs
  refine Ev.step hstep ?_
  by_cases c : mlt e a
  ·simp only [c, if_true]
   refine ih A' (a :: B) e rfl (by simp at hn ⊢; omega) hs (fun b hb => ?_) (fun x hx => hne x (List.mem_append_left _ hx)) (fun L h1 h2 h3 => hc L h1 (fun m => ?_) (by simp at h3 ⊢; omega))
   ·rcases List.mem_cons.1 hb with rfl | hb
    ·exact c
    ·exact hB b hb
   ·rw [h2]; simp
  ·simp only [c, if_false]
   have hae : mlt a e := mlt_of_not c (hne a (by simp))
   rw [List.pairwise_append] at hs
   obtain ⟨hs1, hs2, hs3⟩ := hs
   rw [List.pairwise_cons] at hs2
   refine hc _ ?_ (fun m => ?_) (by simp; omega)
   ·rw [List.append_assoc, List.singleton_append, List.pairwise_append]
    refine ⟨hs1, ?_, ?_⟩
    ·rw [List.pairwise_cons, List.pairwise_cons]
     refine ⟨fun b hb => ?_, hB, hs2.2⟩
     rcases List.mem_cons.1 hb with rfl | hb
     ·exact hae
     ·exact hs2.1 b hb
    ·intro x hx b hb
     rcases List.mem_cons.1 hb with rfl | hb
     ·exact hs3 x hx _ List.mem_cons_self
     ·rcases List.mem_cons.1 hb with rfl | hb
      ·exact mlt_trans (hs3 x hx a List.mem_cons_self) hae
      ·exact hs3 x hx b (List.mem_cons_of_mem _ hb)
   ·simp only [List.mem_append, List.mem_cons, List.not_mem_nil, or_false]
    constructor
    ·rintro ((h | h) | h | h)
     ·exact .inr (.inl (.inl h))
     ·exact .inr (.inl (.inr h))
     ·exact .inl h
     ·exact .inr (.inr h)
    ·rintro (h | (h | h) | h)
     ·exact .inr (.inl h)
     ·exact .inl (.inl h)
     ·exact .inl (.inr h)
     ·exact .inr (.inr h)
section
variable (l : List S85) (hlen : l.length ≤ 1048576)
include hlen
def newAt (l : List S85) (i : Nat) (j : Nat) : Bool := decide ((keyM (l.getD i z85)) ∉ (l.take j).map keyM)
omit hlen in
theorem newAt_succ (i j : Nat) (hj : j < l.length) : newAt l i (j + 1) = (newAt l i j && decide (keyM l[j] ≠ keyM (l.getD i z85))) := by
 unfold newAt
 rw [List.take_succ_eq_append_getElem hj, List.map_append, ← Bool.decide_and, decide_eq_decide]
 simp only [List.mem_append, List.map_cons, List.map_nil, List.mem_singleton, not_or]
 constructor
 ·rintro ⟨h1, h2⟩; exact ⟨h1, fun h => h2 h.symm⟩
 ·rintro ⟨h1, h2⟩; exact ⟨h1, fun h => h2 h.symm⟩
theorem rl1_ev (x4 : List S85) (R : List S85 × Int) (i : Nat) (hi : i < l.length) (h1 : newAt l i i = true → Ev (fun k => ebbtideref03_Moves.l2 k l x4 (i : Int) [] (i : Int)) R)
 (h2 : newAt l i i = false → Ev (fun k => ebbtideref03_Moves.l0 k l x4 ((i + 1 : Nat) : Int)) R) (d : Nat) : ∀ j, j + d = i → Ev (fun k => ebbtideref03_Moves.l1 k l x4 (i : Int) (newAt l i j) (j : Int)) R := by
 induction d with
 | zero =>
  intro j hj
  obtain rfl : j = i := by omega
  by_cases c : newAt l j j = true
  ·refine Ev.step (fun k => ?_) (h1 c)
   rw [ebbtideref03_Moves.l1, if_neg (by omega), if_pos c]
  ·refine Ev.step (fun k => ?_) (h2 (by simpa using c))
   rw [ebbtideref03_Moves.l1, if_neg (by omega), if_neg c, w1 (by omega)]
 | succ d ih =>
  intro j hj
  have hjl : j < l.length := by omega
  have hn := newAt_succ l i j hjl
  refine Ev.step (fun k => ?_) (ih (j + 1) (by omega))
  rw [ebbtideref03_Moves.l1, if_pos (by omega), w1 (by omega)]
  by_cases c : newAt l i j = true
  ·rw [if_pos c, if_pos (by omega), if_pos (by omega), if_pos (by omega), if_pos (by omega), rdM_of hjl, rdM_of hi]
   rw [c, Bool.true_and] at hn
   rw [hn, List.getD_eq_getElem?_getD, List.getElem?_eq_getElem hi, Option.getD_some]
   by_cases e0 : l[j].f0 = l[i].f0
   ·rw [if_pos e0]
    congr 1
    by_cases e1 : l[j].f1 = l[i].f1
    ·have : keyM l[j] = keyM l[i] := by unfold keyM; rw [e0, e1]
     simp [e1, this]
    ·have : keyM l[j] ≠ keyM l[i] := fun h => e1 (congrArg Prod.snd h)
     simp [e1, this]
   ·rw [if_neg e0]
    have : keyM l[j] ≠ keyM l[i] := fun h => e0 (congrArg Prod.fst h)
    simp [this]
  ·rw [if_neg c]
   have c' : newAt l i j = false := by simpa using c
   rw [c', Bool.false_and] at hn
   rw [hn]
def valsAt (l : List S85) (i j : Nat) : List Int := (((l.take j).drop i).filter (fun x => decide (keyM x = keyM (l.getD i z85)))).map S85.f2
theorem valsAt_length (i j : Nat) : (valsAt l i j).length ≤ l.length := by
 unfold valsAt
 rw [List.length_map]
 refine Nat.le_trans (List.length_filter_le _ _) ?_
 rw [List.length_drop, List.length_take]
 omega
theorem rl2_ev (x4 : List S85) (R : List S85 × Int) (i : Nat) (hi : i < l.length)
 (hend : Ev (fun k => (ebbtideref01_Sum.f k (valsAt l i l.length)).bind fun bt874 => (if bt874.2 = true then (if bt874.1 = 0 then (ebbtideref03_Moves.l0 k l x4 ((i + 1 : Nat) : Int)) else (if x4.length < 5864062014805 then ((some (x4 ++ [(⟨l[i].f0, l[i].f1, bt874.1⟩ : S85)] : List (S85))).bind fun y878 => (ebbtideref03_Moves.l3 k l y878 (i : Int) (wrap64 ((y878.length : Int) - 1)))) else (none))) else (some (([] : List (S85)), 10)))) R) (d : Nat) :
 ∀ j, i ≤ j → j + d = l.length → Ev (fun k => ebbtideref03_Moves.l2 k l x4 (i : Int) (valsAt l i j) (j : Int)) R := by
 induction d with
 | zero =>
  intro j hij hj
  obtain rfl : j = l.length := by omega
  refine Ev.step (fun k => ?_) hend
  rw [ebbtideref03_Moves.l2, if_neg (by omega), w1 (by omega), rdM_of hi]
  simp only [show (0 : Int) ≤ (i : Int) from by omega, show (i : Int) < (l.length : Int) from by omega, if_true]
 | succ d ih =>
  intro j hij hj
  have hjl : j < l.length := by omega
  have hv := valsAt_length l hlen i j
  refine Ev.step (fun k => ?_) (ih (j + 1) (by omega) (by omega))
  rw [ebbtideref03_Moves.l2, if_pos (by omega), if_pos (by omega), if_pos (by omega), if_pos (by omega), rdM_of hjl, rdM_of hi, w1 (by omega)]
  have hs : valsAt l i (j + 1) = if keyM l[j] = keyM l[i] then valsAt l i j ++ [l[j].f2] else valsAt l i j := by
   unfold valsAt
   rw [List.take_succ_eq_append_getElem hjl, List.drop_append_of_le_length (by rw [List.length_take]; omega), List.filter_append, List.map_append, List.getD_eq_getElem?_getD, List.getElem?_eq_getElem hi, Option.getD_some, List.filter_cons]
   by_cases c : keyM l[j] = keyM l[i]
   ·simp [c]
   ·simp [c]
  rw [hs]
  by_cases e0 : l[j].f0 = l[i].f0
  ·rw [if_pos e0]
   by_cases e1 : l[j].f1 = l[i].f1
   ·rw [if_pos e1, if_pos (by omega), if_pos (show keyM l[j] = keyM l[i] by unfold keyM; rw [e0, e1])]
   ·rw [if_neg e1, if_neg (fun h => e1 (congrArg Prod.snd h))]
  ·rw [if_neg e0, if_neg (fun h => e0 (congrArg Prod.fst h))]
omit hlen in
theorem vals_sum (i : Nat) (hi : i < l.length) (hnew : newAt l i i = true) : (valsAt l i l.length).sum = msum l (keyM l[i]) := by
 unfold valsAt msum sumK
 rw [List.take_length, List.getD_eq_getElem?_getD, List.getElem?_eq_getElem hi, Option.getD_some]
 unfold newAt at hnew
 rw [decide_eq_true_iff, List.getD_eq_getElem?_getD, List.getElem?_eq_getElem hi, Option.getD_some] at hnew
 generalize keyM l[i] = key at *
 conv => rhs; rw [← List.take_append_drop i l]
 have e : (l.take i).filter (fun x => decide (keyM x = key)) = [] := List.filter_eq_nil_iff.2 (fun x hx => by
  simp only [decide_eq_true_eq]
  intro h
  exact hnew (List.mem_map.2 ⟨x, hx, h⟩))
 rw [List.filter_append, List.map_append, List.sum_append, e]
 simp
structure Pre (l : List S85) (i : Nat) (L : List S85) : Prop where
 sorted : L.Pairwise mlt
 mem : ∀ m, m ∈ L ↔ keyM m ∈ keysOf keyM (l.take i) ∧ m.f2 = msum l (keyM m) ∧ m.f2 ≠ 0
 len : L.length ≤ i
theorem rmoves_loop (hl : ∀ x ∈ l, OkM x) (d : Nat) : ∀ (i : Nat) (L : List S85), i + d = l.length → Pre l i L → (∀ k ∈ keysOf keyM (l.take i), fits (msum l k)) →
 Ev (fun k => ebbtideref03_Moves.l0 k l L (i : Int)) (mergeR l) := by
 induction d with
 | zero =>
  intro i L hi hp hf
  obtain rfl : i = l.length := by omega
  refine ev_const fun k => ?_
  rw [ebbtideref03_Moves.l0, if_neg (by omega)]
  rw [List.take_length] at hf
  have hpm := hp.mem
  rw [List.take_length] at hpm
  unfold mergeR
  rw [if_pos (show AllFit l from hf), isMerge_unique (⟨hp.sorted, hpm⟩ : IsMerge l L) (mergeL_is l)]
 | succ d ih =>
  intro i L hi hp hf
  have hil : i < l.length := by omega
  have hkeys1 : keyM l[i] ∈ keysOf keyM (l.take i) → keysOf keyM (l.take (i + 1)) = keysOf keyM (l.take i) := fun h => by rw [List.take_succ_eq_append_getElem hil, keysOf_snoc, if_pos h]
  have hkeys2 : keyM l[i] ∉ keysOf keyM (l.take i) → keysOf keyM (l.take (i + 1)) = keysOf keyM (l.take i) ++ [keyM l[i]] := fun h => by rw [List.take_succ_eq_append_getElem hil, keysOf_snoc, if_neg h]
  have hnew : newAt l i i = decide (keyM l[i] ∉ keysOf keyM (l.take i)) := by
   unfold newAt
   rw [List.getD_eq_getElem?_getD, List.getElem?_eq_getElem hil, Option.getD_some, decide_eq_decide, mem_keysOf, List.mem_map]
  have hn0 : newAt l i 0 = true := by unfold newAt; simp
  refine Ev.step (fun k => ?_) (rl1_ev l hlen L (mergeR l) i hil ?_ ?_ i 0 (by omega))
  ·rw [ebbtideref03_Moves.l0, if_pos (by omega), hn0]; rfl
  ·intro hnw
   have hkn : keyM l[i] ∉ keysOf keyM (l.take i) := by rw [hnew, decide_eq_true_iff] at hnw; exact hnw
   have hkeys := hkeys2 hkn
   have hv0 : valsAt l i i = [] := by unfold valsAt; rw [List.drop_eq_nil_of_le (by rw [List.length_take]; omega)]; rfl
   have hmain := rl2_ev l hlen L (mergeR l) i hil ?_ (l.length - i) i (Nat.le_refl _) (by omega)
   ·rw [hv0] at hmain
    exact hmain
   ·have hvl := valsAt_length l hlen i l.length
    have hsum := vals_sum l i hil hnw
    have hsev : Ev (fun k => ebbtideref01_Sum.f k (valsAt l i l.length)) (sumFit (msum l (keyM l[i]))) := by
     rw [← hsum]
     refine ⟨l.length + 1, fun k hk => rsum_eq (by omega) (fun x hx => ?_) (by omega)⟩
     unfold valsAt at hx
     obtain ⟨y, hy, rfl⟩ := List.mem_map.1 hx
     rw [List.take_length] at hy
     exact (hl y (List.mem_of_mem_drop (List.mem_filter.1 hy).1)).2.2
    have hkl : keyM l[i] ∈ keysOf keyM l := (mem_keysOf _ _ _).2 ⟨l[i], List.getElem_mem hil, rfl⟩
    refine Ev.bind hsev ?_
    by_cases hfit : fits (msum l (keyM l[i]))
    ·rw [sumFit_pos hfit]
     simp only [if_true]
     have hf' : ∀ k ∈ keysOf keyM (l.take (i + 1)), fits (msum l k) := by
      rw [hkeys]
      intro k hk
      rcases List.mem_append.1 hk with hk | hk
      ·exact hf k hk
      ·rw [List.mem_singleton.1 hk]; exact hfit
     by_cases hz : msum l (keyM l[i]) = 0
     ·simp only [hz, if_true]
      refine ih (i + 1) L (by omega) ⟨hp.sorted, fun m => ?_, by have := hp.len; omega⟩ hf'
      rw [hp.mem, hkeys, List.mem_append, List.mem_singleton]
      constructor
      ·rintro ⟨h1, h2, h3⟩; exact ⟨.inl h1, h2, h3⟩
      ·rintro ⟨h1 | h1, h2, h3⟩
       ·exact ⟨h1, h2, h3⟩
       ·rw [h1, hz] at h2; exact absurd h2 h3
     ·simp only [hz, if_false]
      have hLl := hp.len
      have hLl2 : L.length < 5864062014805 := by omega
      simp only [hLl2, if_true, Option.bind_some]
      have hw : wrap64 (((L ++ [(⟨l[i].f0, l[i].f1, msum l (keyM l[i])⟩ : S85)]).length : Int) - 1) = (L.length : Int) := by
       rw [List.length_append, List.length_singleton]; unfold wrap64; omega
      rw [hw]
      refine ins_ev l (i : Int) (mergeR l) L.length L [] ⟨l[i].f0, l[i].f1, msum l (keyM l[i])⟩ rfl (by simp; omega) (by simpa using hp.sorted) (fun b hb => by cases hb) (fun a ha he => ?_) (fun L' h1 h2 h3 => ?_)
      ·have := ((hp.mem a).1 ha).1
       rw [he] at this
       exact hkn this
      ·rw [w1 (by omega)]
       refine ih (i + 1) L' (by omega) ⟨h1, fun m => ?_, by simp at h3; omega⟩ hf'
       rw [h2, List.append_nil, hp.mem, hkeys, List.mem_append, List.mem_singleton]
       constructor
       ·rintro (rfl | ⟨h4, h5, h6⟩)
        ·exact ⟨.inr rfl, rfl, hz⟩
        ·exact ⟨.inl h4, h5, h6⟩
       ·rintro ⟨h4 | h4, h5, h6⟩
        ·exact .inr ⟨h4, h5, h6⟩
        ·refine .inl (s85_ext (congrArg Prod.fst h4) (congrArg Prod.snd h4) ?_)
         rw [h5, h4]
    ·rw [sumFit_neg hfit]
     have hna : ¬ AllFit l := fun h => hfit (h _ hkl)
     unfold mergeR
     rw [if_neg hna]
     exact Ev.now _
  ·intro hnw
   have hkn : keyM l[i] ∈ keysOf keyM (l.take i) := by rw [hnew, decide_eq_false_iff_not, Classical.not_not] at hnw; exact hnw
   have hkeys := hkeys1 hkn
   refine ih (i + 1) L (by omega) ⟨hp.sorted, fun m => ?_, by have := hp.len; omega⟩ (by rw [hkeys]; exact hf)
   rw [hkeys]; exact hp.mem m
theorem rmoves_ev (hl : ∀ x ∈ l, OkM x) : Ev (fun k => ebbtideref03_Moves.f k l) (mergeR l) := by
 have h := rmoves_loop l hlen hl l.length 0 [] (by omega) ⟨List.Pairwise.nil, fun m => by simp [keysOf, once], Nat.le_refl _⟩ (by simp [keysOf, once])
 exact h
end
end Go.Proofs.Ytfhkkbpkajfdlaa.P
end
section
namespace Go.Proofs.Ytfhkkbpkajfdlaa.P
open Go.RowKit Go.Proofs.Ytfhkkbpkajfdlaa.Q Go.Proofs.YtfhkkbpkajfdlaaW.PrintWords Go.Proofs.YtfhkkbpkajfdlaaW.PrintLast Go.Proofs.YtfhkkbpkajfdlaaW.PrintMore
theorem w64 {n : Int} (h0 : -4611686018427387904 ≤ n) (h1 : n ≤ 4611686018427387904) : wrap64 n = n := by unfold wrap64; omega
def arcAt (arcs : List S54) (j : Int) : S54 := rd_T54 arcs j
theorem arcAt_ok {n : Int} {arcs : List S54} (hn : NetOk n arcs) {j : Int} (h0 : 0 ≤ j) (h1 : j < arcs.length) : ArcOk n (arcAt arcs j) := by
 have hlt : j.toNat < arcs.length := by omega
 have e : arcAt arcs j = arcs[j.toNat] := by unfold arcAt rd_T54; simp [List.getD_eq_getElem?_getD, List.getElem?_eq_getElem hlt]
 rw [e]
 exact hn.arcs _ (List.getElem_mem hlt)
structure May (arcs : List S54) (s t h : Int) (m : S85) : Prop where
 a0 : 0 ≤ m.f0
 a1 : m.f0 < arcs.length
 b0 : 0 ≤ m.f1
 c0 : 0 ≤ m.f2
 b1 : m.f1 + (arcAt arcs m.f0).f3 ≤ h
 c1 : m.f2 ≤ (arcAt arcs m.f0).f2
 e1 : (arcAt arcs m.f0).f1 ≠ s
 e0 : (arcAt arcs m.f0).f0 ≠ t
noncomputable instance (arcs : List S54) (s t h : Int) (m : S85) : Decidable (May arcs s t h m) := Classical.propDecidable _
theorem may_eq {n : Int} {b : Bool} {arcs : List S54} {s t h : Int} (hn : NetOk n arcs) (hh : 0 ≤ h ∧ h ≤ 1024) (m : S85) : plan_may.f n b arcs s t h m.f0 m.f1 m.f2 = some (decide (May arcs s t h m)) := by
 unfold plan_may.f
 by_cases c1 : m.f0 < 0
 ·rw [if_pos c1, decide_eq_false (fun hm => by have := hm.a0; omega)]
 rw [if_neg c1]
 by_cases c2 : m.f0 ≥ (arcs.length : Int)
 ·rw [if_pos c2, decide_eq_false (fun hm => by have := hm.a1; omega)]
 rw [if_neg c2]
 have ha := arcAt_ok hn (show 0 ≤ m.f0 by omega) (show m.f0 < arcs.length by omega)
 have h3 := ha.f3
 by_cases c3 : m.f1 < 0
 ·rw [if_pos c3, decide_eq_false (fun hm => by have := hm.b0; omega)]
 rw [if_neg c3]
 by_cases c4 : m.f1 > h
 ·rw [if_pos c4, decide_eq_false (fun hm => by have := hm.b1; omega)]
 rw [if_neg c4]
 by_cases c5 : m.f2 < 0
 ·rw [if_pos c5, decide_eq_false (fun hm => by have := hm.c0; omega)]
 rw [if_neg c5, if_pos (by omega), if_pos (by omega)]
 have ew : wrap64 (m.f1 + (rd_T54 arcs m.f0).f3) = m.f1 + (arcAt arcs m.f0).f3 := w64 (show _ ≤ m.f1 + (arcAt arcs m.f0).f3 by omega) (show m.f1 + (arcAt arcs m.f0).f3 ≤ _ by omega)
 rw [ew]
 by_cases c6 : m.f1 + (arcAt arcs m.f0).f3 ≤ h
 ·rw [if_pos c6]
  by_cases c7 : m.f2 ≤ (arcAt arcs m.f0).f2
  ·rw [if_pos (show m.f2 ≤ (rd_T54 arcs m.f0).f2 from c7)]
   by_cases c8 : (arcAt arcs m.f0).f1 = s
   ·rw [if_pos (show (rd_T54 arcs m.f0).f1 = s from c8), decide_eq_false (fun hm => hm.e1 c8)]
   ·rw [if_neg (show ¬ (rd_T54 arcs m.f0).f1 = s from c8)]
    by_cases c9 : (arcAt arcs m.f0).f0 = t
    ·rw [decide_eq_false (fun hm => hm.e0 c9)]
     have : (rd_T54 arcs m.f0).f0 = t := c9
     simp [this]
    ·rw [decide_eq_true (⟨by omega, by omega, by omega, by omega, c6, c7, c8, c9⟩ : May arcs s t h m)]
     have : ¬ (rd_T54 arcs m.f0).f0 = t := c9
     simp [this]
  ·rw [if_neg (show ¬ m.f2 ≤ (rd_T54 arcs m.f0).f2 from c7), decide_eq_false (fun hm => c7 hm.c1)]
 ·rw [if_neg c6, decide_eq_false (fun hm => c6 hm.b1)]
theorem rmay_eq {n : Int} {b : Bool} {arcs : List S54} {s t h : Int} (hn : NetOk n arcs) (hh : 0 ≤ h ∧ h ≤ 1024) (m : S85) : ebbtideref14_Move.f n b arcs s t h m.f0 m.f1 m.f2 = some (decide (May arcs s t h m)) := by
 rw [← may_eq (b := b) hn hh m]
 unfold plan_may.f ebbtideref14_Move.f
 by_cases c1 : m.f0 < 0
 ·rw [if_pos c1, if_pos c1]
 rw [if_neg c1, if_neg c1]
 by_cases c2 : m.f0 ≥ (arcs.length : Int)
 ·rw [if_pos c2, if_pos c2]
 rw [if_neg c2, if_neg c2]
 by_cases c3 : m.f1 < 0
 ·rw [if_pos c3, if_pos c3]
 rw [if_neg c3, if_neg c3]
 by_cases c4 : m.f1 > h
 ·rw [if_pos c4, if_pos c4]
 rw [if_neg c4, if_neg c4, if_pos (show 0 ≤ m.f0 by omega), if_pos (show m.f0 < (arcs.length : Int) by omega), if_pos (show 0 ≤ m.f0 by omega), if_pos (show m.f0 < (arcs.length : Int) by omega)]
 by_cases c5 : m.f2 < 0
 ·rw [if_pos c5, if_neg (show ¬ m.f2 ≥ 0 by omega), ite_self]
 ·rw [if_neg c5, if_pos (show m.f2 ≥ 0 by omega)]
def AllMay (arcs : List S54) (s t h : Int) (L : List S85) : Prop := ∀ m ∈ L, May arcs s t h m
noncomputable instance (arcs : List S54) (s t h : Int) (L : List S85) : Decidable (AllMay arcs s t h L) := Classical.propDecidable _
noncomputable def mergedR (n : Int) (arcs : List S54) (s t h : Int) (l : List S85) : List S85 × Int :=
 if askErr n arcs s t h = 0 then (if AllFit l then (if AllMay arcs s t h (mergeL l) then (mergeL l, 0) else ([], 140)) else ([], 10)) else ([], askErr n arcs s t h)
section
variable {n : Int} {b : Bool} {arcs : List S54} {s t h : Int} {l : List S85} (hlen : l.length ≤ 1048576) (hl : ∀ x ∈ l, OkM x)
theorem merged_loop (hn : NetOk n arcs) (hh : 0 ≤ h ∧ h ≤ 1024) (M : List S85) (hM : M.length ≤ 1048576) (d : Nat) : ∀ i, i + d = M.length → Ev (fun k => plan_merged.l0 k s t h M M (M.length : Int) (i : Int) n b arcs) (if AllMay arcs s t h (M.drop i) then (M, (0 : Int)) else ([], 140)) := by
 induction d with
 | zero =>
  intro i hi
  rw [List.drop_eq_nil_of_le (by omega), if_pos (by intro m hm; cases hm)]
  exact ev_cst fun k => by rw [plan_merged.l0, if_neg (by omega)]
 | succ d ih =>
  intro i hi
  have hlt : i < M.length := by omega
  refine Ev.step (f := fun k => if May arcs s t h M[i] then plan_merged.l0 k s t h M M (M.length : Int) ((i + 1 : Nat) : Int) n b arcs else some ([], 140)) (fun k => ?_) ?_
  ·rw [plan_merged.l0, if_pos (by omega), if_pos (by omega), if_pos (by omega), rdM_of hlt, may_eq hn hh, wrap1 (by omega)]
   simp only [Option.bind_some, decide_eq_true_eq]
  ·rw [List.drop_eq_getElem_cons hlt]
   by_cases c : May arcs s t h M[i]
   ·simp only [c, if_true]
    have e : (if AllMay arcs s t h (M[i] :: M.drop (i + 1)) then (M, (0 : Int)) else ([], 140)) = (if AllMay arcs s t h (M.drop (i + 1)) then (M, (0 : Int)) else ([], 140)) := by
     by_cases c2 : AllMay arcs s t h (M.drop (i + 1))
     ·rw [if_pos c2, if_pos (by intro m hm; rcases List.mem_cons.1 hm with rfl | hm; exact c; exact c2 m hm)]
     ·rw [if_neg c2, if_neg (fun h => c2 (fun m hm => h m (List.mem_cons_of_mem _ hm)))]
    rw [e]
    exact ih (i + 1) (by omega)
   ·simp only [c, if_false]
    rw [if_neg (fun h => c (h _ List.mem_cons_self))]
    exact Ev.now _
theorem rmerged_loop (hn : NetOk n arcs) (hh : 0 ≤ h ∧ h ≤ 1024) (M : List S85) (hM : M.length ≤ 1048576) (d : Nat) : ∀ i, i + d = M.length → Ev (fun k => ebbtideref14_Merged.l0 k s t h M (i : Int) n b arcs) (if AllMay arcs s t h (M.drop i) then (M, (0 : Int)) else ([], 140)) := by
 induction d with
 | zero =>
  intro i hi
  rw [List.drop_eq_nil_of_le (by omega), if_pos (by intro m hm; cases hm)]
  exact ev_cst fun k => by rw [ebbtideref14_Merged.l0, if_neg (by omega)]
 | succ d ih =>
  intro i hi
  have hlt : i < M.length := by omega
  refine Ev.step (f := fun k => if May arcs s t h M[i] then ebbtideref14_Merged.l0 k s t h M ((i + 1 : Nat) : Int) n b arcs else some ([], 140)) (fun k => ?_) ?_
  ·rw [ebbtideref14_Merged.l0, if_pos (by omega), if_pos (by omega), rdM_of hlt, rmay_eq hn hh, wrap1 (by omega)]
   simp only [Option.bind_some, decide_eq_true_eq]
  ·rw [List.drop_eq_getElem_cons hlt]
   by_cases c : May arcs s t h M[i]
   ·simp only [c, if_true]
    have e : (if AllMay arcs s t h (M[i] :: M.drop (i + 1)) then (M, (0 : Int)) else ([], 140)) = (if AllMay arcs s t h (M.drop (i + 1)) then (M, (0 : Int)) else ([], 140)) := by
     by_cases c2 : AllMay arcs s t h (M.drop (i + 1))
     ·rw [if_pos c2, if_pos (by intro m hm; rcases List.mem_cons.1 hm with rfl | hm; exact c; exact c2 m hm)]
     ·rw [if_neg c2, if_neg (fun h => c2 (fun m hm => h m (List.mem_cons_of_mem _ hm)))]
    rw [e]
    exact ih (i + 1) (by omega)
   ·simp only [c, if_false]
    rw [if_neg (fun h => c (h _ List.mem_cons_self))]
    exact Ev.now _
include hlen hl
theorem merged_ev : Ev (fun k => plan_merged.f k n b arcs s t h l) (mergedR n arcs s t h l) := by
 unfold plan_merged.f mergedR
 refine Ev.bind (asked_ev n b arcs s t h) ?_
 by_cases c : askErr n arcs s t h = 0
 ·obtain ⟨hn, _, _, _, _, _, hh⟩ := askErr_ok.1 c
  simp only [c, if_true]
  refine Ev.bind (moves_ev l hlen hl) ?_
  unfold mergeR
  by_cases c2 : AllFit l
  ·simp only [c2, if_true]
   exact merged_loop hn hh (mergeL l) (Nat.le_trans (mergeL_length l) hlen) (mergeL l).length 0 (by omega)
  ·simp only [c2, if_false]
   exact Ev.now _
 ·simp only [c, if_false]
  exact Ev.now _
theorem rmerged_ev : Ev (fun k => ebbtideref14_Merged.f k n b arcs s t h l) (mergedR n arcs s t h l) := by
 unfold ebbtideref14_Merged.f mergedR
 refine Ev.bind (rasked_ev n b arcs s t h) ?_
 by_cases c : askErr n arcs s t h = 0
 ·obtain ⟨hn, _, _, _, _, _, hh⟩ := askErr_ok.1 c
  simp only [c, if_true]
  refine Ev.bind (rmoves_ev l hlen hl) ?_
  unfold mergeR
  by_cases c2 : AllFit l
  ·simp only [c2, if_true]
   exact rmerged_loop hn hh (mergeL l) (Nat.le_trans (mergeL_length l) hlen) (mergeL l).length 0 (by omega)
  ·simp only [c2, if_false]
   exact Ev.now _
 ·simp only [c, if_false]
  exact Ev.now _
end
def cIn (arcs : List S54) (v a : Int) (k : Int × Int) : Int := if (arcAt arcs k.1).f1 = v ∧ k.2 + (arcAt arcs k.1).f3 ≤ a then 1 else 0
def cOut (arcs : List S54) (v a : Int) (k : Int × Int) : Int := if (arcAt arcs k.1).f0 = v ∧ k.2 ≤ a then 1 else 0
def cStk (arcs : List S54) (v a : Int) (k : Int × Int) : Int := cIn arcs v a k - cOut arcs v a k
def cNow (arcs : List S54) (v a : Int) (k : Int × Int) : Int := (if (arcAt arcs k.1).f1 = v ∧ k.2 + (arcAt arcs k.1).f3 = a then 1 else 0) - (if (arcAt arcs k.1).f0 = v ∧ k.2 = a then 1 else 0)
def stk (arcs : List S54) (M : List S85) (a v : Nat) : Int := wsum (cStk arcs (v : Int) (a : Int)) M
def now (arcs : List S54) (M : List S85) (a v : Nat) : Int := wsum (cNow arcs (v : Int) (a : Int)) M
theorem cStk_bd (arcs : List S54) (v a : Int) (k : Int × Int) : -1 ≤ cStk arcs v a k ∧ cStk arcs v a k ≤ 1 := by
 unfold cStk cIn cOut; split <;> split <;> omega
theorem cNow_bd (arcs : List S54) (v a : Int) (k : Int × Int) : -1 ≤ cNow arcs v a k ∧ cNow arcs v a k ≤ 1 := by
 unfold cNow; split <;> split <;> omega
section
variable {n : Int} {b : Bool} {arcs : List S54} {s t h : Int} {M : List S85} (hn : NetOk n arcs) (hh : 0 ≤ h ∧ h ≤ 1024) (hM : M.length ≤ 1048576) (hmay : ∀ m ∈ M, May arcs s t h m)
include hn hmay
theorem may_n {m : S85} (hm : m ∈ M) : 0 ≤ m.f2 ∧ m.f2 ≤ 1048576 := by
 have h1 := hmay m hm
 have h2 := (arcAt_ok hn h1.a0 h1.a1).f2
 exact ⟨h1.c0, Int.le_trans h1.c1 h2.2⟩
include hM
theorem stk_bd {P : List S85} (hP : ∀ m ∈ P, m ∈ M) (hl : P.length ≤ M.length) (c : Int × Int → Int) (hc : ∀ k, -1 ≤ c k ∧ c k ≤ 1) : -1099511627776 ≤ wsum c P ∧ wsum c P ≤ 1099511627776 := by
 have h1 := wsum_bd (c := c) (l := P) (B := 1048576) (by decide) (fun x _ => hc _) (fun x hx => may_n hn hmay (hP x hx))
 have h2 : (1048576 : Int) * (P.length : Int) ≤ 1048576 * 1048576 := by omega
 omega
include hh
theorem rstock_loop (v a : Int) (d : Nat) : ∀ i, i + d = M.length → Ev (fun k => ebbtideref14_Stock.l0 k M v a (wsum (cStk arcs v a) (M.take i)) (i : Int) n b arcs) (wsum (cStk arcs v a) M) := by
 induction d with
 | zero =>
  intro i hi
  rw [List.take_of_length_le (by omega)]
  exact ev_cst fun k => by rw [ebbtideref14_Stock.l0, if_neg (by omega)]
 | succ d ih =>
  intro i hi
  have hlt : i < M.length := by omega
  have hm := hmay M[i] (List.getElem_mem hlt)
  have hok := arcAt_ok hn hm.a0 hm.a1
  have hN := may_n hn hmay (List.getElem_mem hlt)
  have hb0 := stk_bd hn hM hmay (P := M.take i) (fun m hm => List.mem_of_mem_take hm) (by rw [List.length_take]; omega) (cStk arcs v a) (cStk_bd arcs v a)
  have hs : wsum (cStk arcs v a) (M.take (i + 1)) = wsum (cStk arcs v a) (M.take i) + cStk arcs v a (keyM M[i]) * M[i].f2 := by
   rw [List.take_succ_eq_append_getElem hlt, wsum_append, wsum_cons, wsum_nil, Int.add_zero]
  have hi2 := ih (i + 1) (by omega)
  rw [hs] at hi2
  have hb3 := hm.b1
  have hb4 := hok.f3
  have hb5 := hm.b0
  have ew : wrap64 (M[i].f1 + (rd_T54 arcs M[i].f0).f3) = M[i].f1 + (arcAt arcs M[i].f0).f3 := w64 (show _ ≤ M[i].f1 + (arcAt arcs M[i].f0).f3 by omega) (show M[i].f1 + (arcAt arcs M[i].f0).f3 ≤ _ by omega)
  generalize wsum (cStk arcs v a) (M.take i) = x at *
  have hj : ∀ (fl : Bool), fl = decide ((arcAt arcs M[i].f0).f1 = v ∧ M[i].f1 + (arcAt arcs M[i].f0).f3 ≤ a) → Ev (fun k => ebbtideref14_Stock.j1 k M v a x (i : Int) fl n b arcs (rd_T54 arcs M[i].f0).f0 (rd_T54 arcs M[i].f0).f1 (rd_T54 arcs M[i].f0).f2 (rd_T54 arcs M[i].f0).f3) (wsum (cStk arcs v a) M) := by
   intro fl hfl
   refine Ev.step (fun k => ?_) hi2
   have hc : cStk arcs v a (keyM M[i]) = (if fl = true then 1 else 0) - (if (rd_T54 arcs M[i].f0).f0 = v ∧ M[i].f1 ≤ a then 1 else 0) := by
    unfold cStk cIn cOut keyM
    rw [hfl]
    simp only [decide_eq_true_eq]
    rfl
   rw [hc, ebbtideref14_Stock.j1, rdM_of hlt, wrap1 (by omega)]
   have hi0 : (0 : Int) ≤ (i : Int) := by omega
   have hi1 : (i : Int) < (M.length : Int) := by omega
   have e1 : wrap64 (x + M[i].f2) = x + M[i].f2 := w64 (by omega) (by omega)
   have e2 : wrap64 (x - M[i].f2) = x - M[i].f2 := w64 (by omega) (by omega)
   have e3 : wrap64 (x + M[i].f2 - M[i].f2) = x := by rw [w64 (by omega) (by omega)]; omega
   rw [e1, e2, e3]
   have key : ∀ y z : Int, y = z → ebbtideref14_Stock.l0 k M v a y ((i + 1 : Nat) : Int) n b arcs = ebbtideref14_Stock.l0 k M v a z ((i + 1 : Nat) : Int) n b arcs := fun _ _ h => by rw [h]
   cases fl with
   | true =>
    simp only [if_true]
    by_cases c1 : (rd_T54 arcs M[i].f0).f0 = v
    ·by_cases c2 : M[i].f1 ≤ a
     ·simp only [c1, c2, and_self, if_true, hi0, hi1]; exact key _ _ (by omega)
     ·simp only [c1, c2, and_false, if_true, if_false, hi0, hi1]; exact key _ _ (by omega)
    ·simp only [c1, false_and, if_false, hi0, hi1, if_true]; exact key _ _ (by omega)
   | false =>
    simp only [Bool.false_eq_true, if_false]
    by_cases c1 : (rd_T54 arcs M[i].f0).f0 = v
    ·by_cases c2 : M[i].f1 ≤ a
     ·simp only [c1, c2, and_self, if_true, hi0, hi1]; exact key _ _ (by omega)
     ·simp only [c1, c2, and_false, if_true, if_false, hi0, hi1]; exact key _ _ (by omega)
    ·simp only [c1, false_and, if_false, hi0, hi1, if_true]; exact key _ _ (by omega)
  by_cases c1 : (rd_T54 arcs M[i].f0).f1 = v
  ·refine Ev.step (fun k => ?_) (hj _ rfl)
   rw [ebbtideref14_Stock.l0, if_pos (by omega), if_pos (by omega), rdM_of hlt, if_pos hm.a0, if_pos hm.a1, if_pos c1, ew]
   congr 1
   rw [decide_eq_decide]
   exact ⟨fun h => ⟨c1, h⟩, fun h => h.2⟩
  ·refine Ev.step (fun k => ?_) (hj false (by symm; rw [decide_eq_false_iff_not]; rintro ⟨h, _⟩; exact c1 h))
   rw [ebbtideref14_Stock.l0, if_pos (by omega), if_pos (by omega), rdM_of hlt, if_pos hm.a0, if_pos hm.a1, if_neg c1]
theorem rstock_ev (v a : Int) : Ev (fun k => ebbtideref14_Stock.f k n b arcs M v a) (wsum (cStk arcs v a) M) := by
 have h0 := rstock_loop (b := b) hn hh hM hmay v a M.length 0 (by omega)
 exact h0
end
theorem rdL_row {H : Nat} {g : Nat → List Int} {i : Nat} (h : i < H) : rd_L3 (row H g) (i : Int) = g i := by unfold rd_L3; rw [Int.toNat_natCast, row_getD _ _ _ h]
def put1 (F : Nat → Nat → Int) (ia fr : Nat) (N : Int) : Nat → Nat → Int := fun u w => if u = ia ∧ w = fr then F ia fr - N else F u w
def put2 (F : Nat → Nat → Int) (ia fr ti tn : Nat) (N : Int) : Nat → Nat → Int := fun u w => if u = ia + ti ∧ w = tn then put1 F ia fr N (ia + ti) tn + N else put1 F ia fr N u w
theorem mat_put1 (H V : Nat) (F : Nat → Nat → Int) (ia fr : Nat) (N : Int) : (mat H V F).set ia ((row V (F ia)).set fr (F ia fr - N)) = mat H V (put1 F ia fr N) := mat_put H V F ia fr _
theorem mat_put2 (H V : Nat) (F : Nat → Nat → Int) (ia fr ti tn : Nat) (N : Int) : (mat H V (put1 F ia fr N)).set (ia + ti) ((row V (put1 F ia fr N (ia + ti))).set tn (put1 F ia fr N (ia + ti) tn + N)) = mat H V (put2 F ia fr ti tn N) := mat_put H V _ (ia + ti) tn _
theorem put1_eq (F : Nat → Nat → Int) (ia fr : Nat) (N : Int) (u w : Nat) : put1 F ia fr N u w = F u w - (if fr = w ∧ ia = u then N else 0) := by
 unfold put1
 by_cases c : u = ia ∧ w = fr
 ·rw [if_pos c, if_pos ⟨c.2.symm, c.1.symm⟩, c.1, c.2]
 ·rw [if_neg c, if_neg (fun h => c ⟨h.2.symm, h.1.symm⟩)]; omega
theorem put2_eq (F : Nat → Nat → Int) (ia fr ti tn : Nat) (N : Int) (u w : Nat) : put2 F ia fr ti tn N u w = F u w + ((if tn = w ∧ ia + ti = u then 1 else 0) - (if fr = w ∧ ia = u then 1 else 0)) * N := by
 unfold put2
 by_cases c1 : u = ia + ti ∧ w = tn
 ·rw [if_pos c1, if_pos (show tn = w ∧ ia + ti = u from ⟨c1.2.symm, c1.1.symm⟩), ← c1.1, ← c1.2, put1_eq]
  by_cases c2 : fr = w ∧ ia = u
  ·rw [if_pos c2, if_pos c2]; omega
  ·rw [if_neg c2, if_neg c2]; omega
 ·rw [if_neg c1, if_neg (show ¬ (tn = w ∧ ia + ti = u) from fun h => c1 ⟨h.2.symm, h.1.symm⟩), put1_eq]
  by_cases c2 : fr = w ∧ ia = u
  ·rw [if_pos c2, if_pos c2]; omega
  ·rw [if_neg c2, if_neg c2]; omega
theorem s1_eq {h n : Int} {b : Bool} {arcs : List S54} {H V : Nat} (k i : Nat) (M : List S85) (hlt : i < M.length) (hM : M.length ≤ 1048576) (F : Nat → Nat → Int) (hF : ∀ a v, -1099511627776 ≤ F a v ∧ F a v ≤ 1099511627776) (ia fr tn ti : Nat)
 (ha0 : 0 ≤ M[i].f0) (ha1 : M[i].f0 < (arcs.length : Int)) (hia : M[i].f1 = (ia : Int)) (hfr : (arcAt arcs M[i].f0).f0 = (fr : Int)) (hto : (arcAt arcs M[i].f0).f1 = (tn : Int)) (hti : (arcAt arcs M[i].f0).f3 = (ti : Int))
 (l2 : ia + ti < H) (l3 : fr < V) (l4 : tn < V) (l5 : H ≤ 2000) (hN : 0 ≤ M[i].f2 ∧ M[i].f2 ≤ 1048576) :
 plan_stocks.l1 (k + 1) h (mat H V F) M (M.length : Int) (i : Int) n b arcs = plan_stocks.l1 k h (mat H V (put2 F ia fr ti tn M[i].f2)) M (M.length : Int) ((i + 1 : Nat) : Int) n b arcs := by
 have efr : (rd_T54 arcs M[i].f0).f0 = (fr : Int) := hfr
 have eto : (rd_T54 arcs M[i].f0).f1 = (tn : Int) := hto
 have eti : (rd_T54 arcs M[i].f0).f3 = (ti : Int) := hti
 have g1 : (mat H V F).length = H := mat_length _ _ _
 have g2 : rd_L3 (mat H V F) (ia : Int) = row V (F ia) := rdL_row (by omega)
 have g3 : rd (row V (F ia)) (fr : Int) = F ia fr := rd_row l3
 have gN : (row V (F ia)).length = V := row_length _ _
 have hr := rdM_of hlt
 generalize M[i] = m at *
 have b1 : (i : Int) < (M.length : Int) := by omega
 have b2 : (0 : Int) ≤ (i : Int) := Int.natCast_nonneg _
 have b3 : (0 : Int) ≤ (ia : Int) := Int.natCast_nonneg _
 have b4 : (ia : Int) < ((mat H V F).length : Int) := by rw [g1]; omega
 have b5 : (0 : Int) ≤ (fr : Int) := Int.natCast_nonneg _
 have b6 : (fr : Int) < ((row V (F ia)).length : Int) := by rw [gN]; omega
 have b7 : (0 : Int) ≤ ((ia + ti : Nat) : Int) := Int.natCast_nonneg _
 have b8 : ((ia + ti : Nat) : Int) < ((mat H V F).length : Int) := by rw [g1]; omega
 have b9 : (0 : Int) ≤ (tn : Int) := Int.natCast_nonneg _
 have hG2 : -2199023255552 ≤ put1 F ia fr m.f2 (ia + ti) tn ∧ put1 F ia fr m.f2 (ia + ti) tn ≤ 2199023255552 := by
  rw [put1_eq]
  have h2 := hF (ia + ti) tn
  clear hF
  split <;> omega
 have g5 : rd_L3 (mat H V (put1 F ia fr m.f2)) ((ia + ti : Nat) : Int) = row V (put1 F ia fr m.f2 (ia + ti)) := rdL_row l2
 have g6 : rd (row V (put1 F ia fr m.f2 (ia + ti))) (tn : Int) = put1 F ia fr m.f2 (ia + ti) tn := rd_row l4
 have b10 : (tn : Int) < ((row V (put1 F ia fr m.f2 (ia + ti))).length : Int) := by rw [row_length]; omega
 have b11 : i ≤ 4611686018427387904 := by clear hF; omega
 have v0 := hF ia fr
 clear hF
 have v1 : -4611686018427387904 ≤ F ia fr - m.f2 ∧ F ia fr - m.f2 ≤ 4611686018427387904 := by omega
 have v2 : -4611686018427387904 ≤ put1 F ia fr m.f2 (ia + ti) tn + m.f2 ∧ put1 F ia fr m.f2 (ia + ti) tn + m.f2 ≤ 4611686018427387904 := by omega
 have v3 : -4611686018427387904 ≤ (ia : Int) + (ti : Int) ∧ (ia : Int) + (ti : Int) ≤ 4611686018427387904 := by omega
 have ew : wrap64 ((ia : Int) + (ti : Int)) = ((ia + ti : Nat) : Int) := (w64 v3.1 v3.2).trans (Int.natCast_add _ _).symm
 have e1 : wrap64 (F ia fr - m.f2) = F ia fr - m.f2 := w64 v1.1 v1.2
 have e2 : wrap64 (put1 F ia fr m.f2 (ia + ti) tn + m.f2) = put1 F ia fr m.f2 (ia + ti) tn + m.f2 := w64 v2.1 v2.2
 rw [plan_stocks.l1, if_pos b1, if_pos b2, if_pos b1, hr, if_pos ha0, if_pos ha1, hia, if_pos b3, if_pos b4, efr, eto, eti, if_pos b5, g2, if_pos b6, g3, e1, ew]
 simp only [Option.bind_some, Int.toNat_natCast]
 rw [mat_put1]
 rw [if_pos b7, if_pos b8, if_pos b9, g5, if_pos b10, g6, e2, mat_put2, wrap1 b11]
section
variable {n : Int} {b : Bool} {arcs : List S54} {s t h : Int} {M : List S85} (hn : NetOk n arcs) (hh : 0 ≤ h ∧ h ≤ 1024) (hM : M.length ≤ 1048576) (hmay : ∀ m ∈ M, May arcs s t h m)
def tH (h : Int) : Nat := h.toNat + 1
def tV (n : Int) : Nat := n.toNat
def SM (n : Int) (arcs : List S54) (h : Int) (M : List S85) : List (List Int) := mat (tH h) (tV n) (stk arcs M)
include hn hh hM hmay
theorem rstocks_row (x14 : List (List Int)) (a : Nat) (R : List (List Int) × Int) (hx : x14.length ≤ 2000) (hend : Ev (fun k => ebbtideref14_Stocks.l0 k h M (x14 ++ [row (tV n) (stk arcs M a)]) ((a + 1 : Nat) : Int) n b arcs) R) (ha : a < tH h) (d : Nat) :
 ∀ v, v + d = tV n → Ev (fun k => ebbtideref14_Stocks.l1 k h M x14 (a : Int) (row v (stk arcs M a)) (v : Int) n b arcs) R := by
 have h1 := hn.lo
 have h2 := hn.hi
 induction d with
 | zero =>
  intro v hv
  refine Ev.step (fun k => ?_) hend
  unfold tV at *
  rw [ebbtideref14_Stocks.l1, if_neg (by omega), if_pos (by omega), wrap1 (by unfold tH at ha; omega), show v = n.toNat by omega]
 | succ d ih =>
  intro v hv
  have hr := rstock_ev (b := b) hn hh hM hmay (v : Int) (a : Int)
  refine Ev.step (f := fun k => (ebbtideref14_Stock.f k n b arcs M (v : Int) (a : Int)).bind fun t1101 => if (row v (stk arcs M a)).length < 17592186044416 then ebbtideref14_Stocks.l1 k h M x14 (a : Int) (row v (stk arcs M a) ++ [t1101]) ((v + 1 : Nat) : Int) n b arcs else none) (fun k => ?_) ?_
  ·unfold tV at *
   rw [ebbtideref14_Stocks.l1, if_pos (by omega), wrap1 (by omega)]
  ·refine Ev.bind hr ?_
   have hl : (row v (stk arcs M a)).length < 17592186044416 := by rw [row_length]; unfold tV at hv; omega
   simp only [hl, if_true]
   rw [show wsum (cStk arcs (v : Int) (a : Int)) M = stk arcs M a v from rfl, row_snoc]
   exact ih (v + 1) (by omega)
theorem rstocks_loop (d : Nat) : ∀ a, a + d = tH h → Ev (fun k => ebbtideref14_Stocks.l0 k h M (mat a (tV n) (stk arcs M)) (a : Int) n b arcs) (SM n arcs h M, 0) := by
 induction d with
 | zero =>
  intro a ha
  refine ev_cst fun k => ?_
  rw [ebbtideref14_Stocks.l0, if_neg (by unfold tH at ha; omega), show a = tH h by omega]
  rfl
 | succ d ih =>
  intro a ha
  have ha2 : a < tH h := by omega
  have hl : (mat a (tV n) (stk arcs M)).length ≤ 2000 := by rw [mat_length]; unfold tH at ha2; omega
  refine Ev.step (fun k => ?_) (rstocks_row (b := b) hn hh hM hmay (mat a (tV n) (stk arcs M)) a (SM n arcs h M, 0) hl ?_ ha2 (tV n) 0 (by omega))
  ·rw [ebbtideref14_Stocks.l0, if_pos (by unfold tH at ha2; omega)]
   rfl
  ·have e : mat a (tV n) (stk arcs M) ++ [row (tV n) (stk arcs M a)] = mat (a + 1) (tV n) (stk arcs M) := by unfold mat; rw [row_snoc]
   rw [e]
   exact ih (a + 1) (by omega)
theorem s1_loop (d : Nat) : ∀ i, i + d = M.length → (Ev (fun k => plan_stocks.l2 k (mat (tH h) (tV n) (now arcs M)) h 0) (SM n arcs h M)) →
 Ev (fun k => plan_stocks.l1 k h (mat (tH h) (tV n) (now arcs (M.take i))) M (M.length : Int) (i : Int) n b arcs) (SM n arcs h M) := by
 induction d with
 | zero =>
  intro i hi hend
  refine Ev.step (fun k => ?_) hend
  rw [plan_stocks.l1, if_neg (by omega), List.take_of_length_le (by omega)]
 | succ d ih =>
  intro i hi hend
  have hlt : i < M.length := by omega
  have hm := hmay M[i] (List.getElem_mem hlt)
  have hok := arcAt_ok hn hm.a0 hm.a1
  have hN := may_n hn hmay (List.getElem_mem hlt)
  have hb1 : ∀ a v, -1099511627776 ≤ now arcs (M.take i) a v ∧ now arcs (M.take i) a v ≤ 1099511627776 := fun a v => stk_bd hn hM hmay (fun m hm => List.mem_of_mem_take hm) (by rw [List.length_take]; omega) _ (cNow_bd arcs _ _)
  have hs : ∀ a v : Nat, now arcs (M.take (i + 1)) a v = now arcs (M.take i) a v + cNow arcs (v : Int) (a : Int) (keyM M[i]) * M[i].f2 := by
   intro a v
   unfold now
   rw [List.take_succ_eq_append_getElem hlt, wsum_append, wsum_cons, wsum_nil, Int.add_zero]
  obtain ⟨ia, hia⟩ := Int.eq_ofNat_of_zero_le hm.b0
  obtain ⟨fr, hfr⟩ := Int.eq_ofNat_of_zero_le hok.f0.1
  obtain ⟨tn, hto⟩ := Int.eq_ofNat_of_zero_le hok.f1.1
  obtain ⟨ti, hti⟩ := Int.eq_ofNat_of_zero_le hok.f3.1
  have l2 : ia + ti < tH h := by have := hm.b1; unfold tH; omega
  have l3 : fr < tV n := by have := hok.f0; unfold tV; omega
  have l4 : tn < tV n := by have := hok.f1; unfold tV; omega
  have l5 : tH h ≤ 2000 := by unfold tH; omega
  have hst := fun k => s1_eq (h := h) (n := n) (b := b) (arcs := arcs) (H := tH h) (V := tV n) k i M hlt hM (now arcs (M.take i)) hb1 ia fr tn ti hm.a0 hm.a1 hia hfr hto hti l2 l3 l4 l5 hN
  refine Ev.step hst ?_
  have hi2 := ih (i + 1) (by omega) hend
  have e : mat (tH h) (tV n) (put2 (now arcs (M.take i)) ia fr ti tn M[i].f2) = mat (tH h) (tV n) (now arcs (M.take (i + 1))) := by
   refine mat_ext fun u w hu hw => ?_
   rw [hs, put2_eq]
   congr 2
   unfold cNow keyM
   simp only
   rw [hfr, hto, hti, hia]
   congr 1
   ·by_cases c : tn = w ∧ ia + ti = u
    ·rw [if_pos c, if_pos (by omega)]
    ·rw [if_neg c, if_neg (by omega)]
   ·by_cases c : fr = w ∧ ia = u
    ·rw [if_pos c, if_pos (by omega)]
    ·rw [if_neg c, if_neg (by omega)]
  rw [e]
  exact hi2
omit hn hh hM hmay in
theorem stk_succ (a v : Nat) : stk arcs M (a + 1) v = stk arcs M a v + now arcs M (a + 1) v := by
 unfold stk now
 rw [← wsum_add]
 refine wsum_congr fun x hx => ?_
 unfold cStk cIn cOut cNow
 generalize (keyM x).2 + (arcAt arcs (keyM x).1).f3 = p
 generalize (keyM x).2 = q
 by_cases c1 : (arcAt arcs (keyM x).1).f1 = (v : Int) <;> by_cases c2 : (arcAt arcs (keyM x).1).f0 = (v : Int) <;> simp only [c1, c2, true_and, false_and, if_false] <;> (repeat' split) <;> omega
omit hh hM in
theorem stk_zero (v : Nat) : stk arcs M 0 v = now arcs M 0 v := by
 unfold stk now
 refine wsum_congr fun x hx => ?_
 have hm := hmay x hx
 have hok := (arcAt_ok hn hm.a0 hm.a1).f3
 have hb := hm.b0
 have e2 : (keyM x).2 = x.f1 := rfl
 have e1 : (keyM x).1 = x.f0 := rfl
 unfold cStk cIn cOut cNow
 rw [e1, e2]
 by_cases c1 : (arcAt arcs x.f0).f1 = (v : Int) <;> by_cases c2 : (arcAt arcs x.f0).f0 = (v : Int) <;> simp only [c1, c2, true_and, false_and, if_false] <;> (repeat' split) <;> omega
def upto3 (arcs : List S54) (M : List S85) (a v0 : Nat) : Nat → Nat → Int := fun u w => if u ≤ a ∨ u = a + 1 ∧ w < v0 then stk arcs M u w else now arcs M u w
theorem s3_loop (a : Nat) (ha : a + 1 < tH h) (hend : Ev (fun k => plan_stocks.l2 k (mat (tH h) (tV n) (upto3 arcs M (a + 1) 0)) h ((a + 1 : Nat) : Int)) (SM n arcs h M)) (d : Nat) : ∀ v, v + d = tV n →
 Ev (fun k => plan_stocks.l3 k (mat (tH h) (tV n) (upto3 arcs M a v)) (a : Int) h (a : Int) (row (tV n) (stk arcs M a)) ((tV n : Nat) : Int) (v : Int)) (SM n arcs h M) := by
 have hlo := hn.lo
 have hhi := hn.hi
 have hHH : tH h = h.toNat + 1 := rfl
 have hVV : tV n = n.toNat := rfl
 induction d with
 | zero =>
  intro v hv
  refine Ev.step (fun k => ?_) hend
  rw [plan_stocks.l3, if_neg (by omega), wrap1 (by omega)]
  congr 1
  refine mat_ext fun u w hu hw => ?_
  unfold upto3
  by_cases c : u ≤ a ∨ u = a + 1 ∧ w < v
  ·rw [if_pos c, if_pos (by omega)]
  ·rw [if_neg c, if_neg (by omega)]
 | succ d ih =>
  intro v hv
  have hv2 : v < tV n := by omega
  refine Ev.step (fun k => ?_) (ih (v + 1) (by omega))
  have g2 : rd_L3 (mat (tH h) (tV n) (upto3 arcs M a v)) ((a + 1 : Nat) : Int) = row (tV n) (upto3 arcs M a v (a + 1)) := rdL_row ha
  have g3 : rd (row (tV n) (upto3 arcs M a v (a + 1))) (v : Int) = upto3 arcs M a v (a + 1) v := rd_row hv2
  have g4 : rd (row (tV n) (stk arcs M a)) (v : Int) = stk arcs M a v := rd_row hv2
  have e1 : upto3 arcs M a v (a + 1) v = now arcs M (a + 1) v := by unfold upto3; rw [if_neg (by omega)]
  have e2 := stk_succ (arcs := arcs) (M := M) a v
  have hb := stk_bd hn hM hmay (P := M) (fun _ h => h) (Nat.le_refl _) _ (cStk_bd arcs (v : Int) ((a + 1 : Nat) : Int))
  have e3 : wrap64 (now arcs M (a + 1) v + stk arcs M a v) = stk arcs M (a + 1) v := by
   rw [show now arcs M (a + 1) v + stk arcs M a v = stk arcs M (a + 1) v by omega]
   exact w64 (by unfold stk; omega) (by unfold stk; omega)
  rw [plan_stocks.l3, if_pos (by omega), if_pos (by omega), if_pos (by rw [row_length]; omega), wrap1 (by omega), if_pos (by omega), if_pos (by rw [mat_length]; omega), g2, if_pos (by rw [row_length]; omega), g3, g4, e1, e3]
  simp only [Int.toNat_natCast]
  rw [mat_put, wrap1 (by omega)]
  congr 1
  refine mat_ext fun u w hu hw => ?_
  by_cases c : u = a + 1 ∧ w = v
  ·obtain ⟨rfl, rfl⟩ := c
   rw [if_pos ⟨rfl, rfl⟩]
   unfold upto3
   rw [if_pos (by omega)]
  ·rw [if_neg c]
   unfold upto3
   by_cases c2 : u ≤ a ∨ u = a + 1 ∧ w < v
   ·rw [if_pos c2, if_pos (by omega)]
   ·rw [if_neg c2, if_neg (by omega)]
theorem s2_loop (d : Nat) : ∀ a, a + d = h.toNat → Ev (fun k => plan_stocks.l2 k (mat (tH h) (tV n) (upto3 arcs M a 0)) h (a : Int)) (SM n arcs h M) := by
 have hHH : tH h = h.toNat + 1 := rfl
 induction d with
 | zero =>
  intro a ha
  refine ev_cst fun k => ?_
  rw [plan_stocks.l2, if_neg (by omega)]
  congr 1
  refine mat_ext fun u w hu hw => ?_
  unfold upto3
  rw [if_pos (by omega)]
 | succ d ih =>
  intro a ha
  have g1 : rd_L3 (mat (tH h) (tV n) (upto3 arcs M a 0)) (a : Int) = row (tV n) (stk arcs M a) := by
   have : rd_L3 (mat (tH h) (tV n) (upto3 arcs M a 0)) (a : Int) = row (tV n) (upto3 arcs M a 0 a) := rdL_row (by omega)
   rw [this]
   refine row_ext fun w _ => ?_
   unfold upto3
   rw [if_pos (by omega)]
  refine Ev.step (fun k => ?_) (s3_loop hn hh hM hmay a (by omega) (ih (a + 1) (by omega)) (tV n) 0 (by omega))
  rw [plan_stocks.l2, if_pos (by omega), if_pos (by omega), if_pos (by rw [mat_length]; omega), g1, row_length]
  rfl
theorem s0_loop (d : Nat) : ∀ i, i + d = tH h → Ev (fun k => plan_stocks.l0 k h M (row (tH h) (fun a => if a < i then row (tV n) (fun _ => (0 : Int)) else [])) ((tH h : Nat) : Int) (i : Int) n b arcs) (SM n arcs h M) := by
 have hlo := hn.lo
 have hhi := hn.hi
 have hHH : tH h = h.toNat + 1 := rfl
 induction d with
 | zero =>
  intro i hi
  have h2 := s2_loop hn hh hM hmay h.toNat 0 (by omega)
  have e0 : mat (tH h) (tV n) (upto3 arcs M 0 0) = mat (tH h) (tV n) (now arcs M) := by
   refine mat_ext fun u w hu hw => ?_
   unfold upto3
   by_cases c : u ≤ 0 ∨ u = 0 + 1 ∧ w < 0
   ·rw [if_pos c, show u = 0 by omega]
    exact stk_zero hn hmay w
   ·rw [if_neg c]
  rw [e0] at h2
  refine Ev.step (fun k => ?_) (s1_loop (b := b) hn hh hM hmay M.length 0 (by omega) h2)
  rw [plan_stocks.l0, if_neg (by omega)]
  congr 1
  unfold mat
  refine row_ext fun u hu => ?_
  rw [if_pos (by omega)]
  refine row_ext fun w _ => ?_
  unfold now
  rw [List.take_zero, wsum_nil]
 | succ d ih =>
  intro i hi
  refine Ev.step (fun k => ?_) (ih (i + 1) (by omega))
  rw [plan_stocks.l0, if_pos (by omega), if_pos (by omega), if_pos (by omega), if_pos (by omega), if_pos (by rw [row_length]; omega), Int.toNat_natCast, row_replicate, row_set, wrap1 (by omega)]
  congr 1
  refine row_ext fun u hu => ?_
  by_cases c : u = i
  ·rw [if_pos c, if_pos (by omega)]; rfl
  ·rw [if_neg c]
   by_cases c2 : u < i
   ·rw [if_pos c2, if_pos (by omega)]
   ·rw [if_neg c2, if_neg (by omega)]
theorem stocks_ev : Ev (fun k => plan_stocks.f k n b arcs h M) (SM n arcs h M) := by
 have hHH : tH h = h.toNat + 1 := rfl
 have e1 : wrap64 (h + 1) = ((tH h : Nat) : Int) := by unfold wrap64; omega
 refine Ev.congr (fun k => ?_) (s0_loop (b := b) hn hh hM hmay (tH h) 0 (by omega))
 unfold plan_stocks.f
 rw [e1, if_pos (by omega), if_pos (by omega)]
 simp only [Option.bind_some, Int.toNat_natCast, List.length_replicate]
 congr 1
 rw [row_replicate]
 exact row_ext fun u _ => by rw [if_neg (by omega)]
end
def Bad (hold : Bool) (h s t : Int) (f : Nat → Nat → Int) (a v : Nat) : Prop := (v : Int) ≠ s ∧ (v : Int) ≠ t ∧ (f a v < 0 ∨ 0 < f a v ∧ (hold = false ∨ (a : Int) = h))
def AllOk (hold : Bool) (h s t : Int) (H V : Nat) (f : Nat → Nat → Int) : Prop := ∀ u, u < H → ∀ w, w < V → ¬ Bad hold h s t f u w
def RowOk (hold : Bool) (h s t : Int) (V : Nat) (f : Nat → Nat → Int) (a v : Nat) : Prop := ∀ w, v ≤ w → w < V → ¬ Bad hold h s t f a w
def RowsOk (hold : Bool) (h s t : Int) (H V : Nat) (f : Nat → Nat → Int) (a : Nat) : Prop := ∀ u, a ≤ u → u < H → ∀ w, w < V → ¬ Bad hold h s t f u w
def ColOk (hold : Bool) (h s t : Int) (H : Nat) (f : Nat → Nat → Int) (v a : Nat) : Prop := ∀ u, a ≤ u → u < H → ¬ Bad hold h s t f u v
def ColsOk (hold : Bool) (h s t : Int) (H V : Nat) (f : Nat → Nat → Int) (v : Nat) : Prop := ∀ w, v ≤ w → w < V → ∀ u, u < H → ¬ Bad hold h s t f u w
section
open Classical
variable {hold : Bool} {h s t : Int} {H V : Nat} {f : Nat → Nat → Int} (hH : H ≤ 4611686018427387904) (hV : V ≤ 4611686018427387904) (hhH : (H : Int) = h + 1)
theorem rowOk_step {a v : Nat} (hv : v < V) : RowOk hold h s t V f a v ↔ ¬ Bad hold h s t f a v ∧ RowOk hold h s t V f a (v + 1) := by
 unfold RowOk
 constructor
 ·intro h1; exact ⟨h1 v (Nat.le_refl _) hv, fun w hw hw2 => h1 w (by omega) hw2⟩
 ·rintro ⟨h1, h2⟩ w hw hw2
  rcases Nat.eq_or_lt_of_le hw with rfl | h3
  ·exact h1
  ·exact h2 w h3 hw2
theorem rowsOk_step {a : Nat} (ha : a < H) : RowsOk hold h s t H V f a ↔ RowOk hold h s t V f a 0 ∧ RowsOk hold h s t H V f (a + 1) := by
 unfold RowsOk RowOk
 constructor
 ·intro h1; exact ⟨fun w _ hw => h1 a (Nat.le_refl _) ha w hw, fun u hu hu2 => h1 u (by omega) hu2⟩
 ·rintro ⟨h1, h2⟩ u hu hu2 w hw
  rcases Nat.eq_or_lt_of_le hu with rfl | h3
  ·exact h1 w (by omega) hw
  ·exact h2 u h3 hu2 w hw
theorem colsOk_step {v : Nat} (hv : v < V) : ColsOk hold h s t H V f v ↔ ColOk hold h s t H f v 0 ∧ ColsOk hold h s t H V f (v + 1) := by
 unfold ColsOk ColOk
 constructor
 ·intro h1; exact ⟨fun u _ hu => h1 v (Nat.le_refl _) hv u hu, fun w hw hw2 => h1 w (by omega) hw2⟩
 ·rintro ⟨h1, h2⟩ w hw hw2 u hu
  rcases Nat.eq_or_lt_of_le hw with rfl | h3
  ·exact h1 u (by omega) hu
  ·exact h2 w h3 hw2 u hu
include hH hV hhH
theorem ord_step (k a v : Nat) (ha : a < H) (hv : v < V) : plan_ordinary.l1 (k + 1) (mat H V f) s t hold (a : Int) (mat H V f) ((H : Nat) : Int) (a : Int) (row V (f a)) ((V : Nat) : Int) (v : Int) =
 if Bad hold h s t f a v then some false else plan_ordinary.l1 k (mat H V f) s t hold (a : Int) (mat H V f) ((H : Nat) : Int) (a : Int) (row V (f a)) ((V : Nat) : Int) ((v + 1 : Nat) : Int) := by
 have g1 : rd (row V (f a)) (v : Int) = f a v := rd_row hv
 have g2 : wrap64 (((mat H V f).length : Int) - 1) = h := by rw [mat_length]; unfold wrap64; omega
 rw [plan_ordinary.l1, if_pos (by omega), if_pos (by omega), if_pos (by rw [row_length]; omega), g1, g2, wrap1 (by omega)]
 by_cases c1 : (v : Int) = s
 ·rw [if_pos c1, if_neg (fun hb : Bad hold h s t f a v => hb.1 c1)]
 rw [if_neg c1]
 by_cases c2 : (v : Int) = t
 ·rw [if_pos c2, if_neg (fun hb : Bad hold h s t f a v => hb.2.1 c2)]
 rw [if_neg c2]
 by_cases c3 : f a v < 0
 ·rw [if_pos c3, if_pos (show Bad hold h s t f a v from ⟨c1, c2, .inl c3⟩)]
 rw [if_neg c3]
 by_cases c4 : f a v > 0
 ·rw [if_pos c4]
  cases hold with
  | false => rw [if_neg (by decide), if_pos (show Bad false h s t f a v from ⟨c1, c2, .inr ⟨c4, .inl rfl⟩⟩)]
  | true =>
   rw [if_pos rfl]
   by_cases c5 : (a : Int) = h
   ·rw [if_pos c5, if_pos (show Bad true h s t f a v from ⟨c1, c2, .inr ⟨c4, .inr c5⟩⟩)]
   ·rw [if_neg c5, if_neg]
    rintro ⟨_, _, h6 | ⟨_, h7 | h7⟩⟩
    ·exact c3 h6
    ·cases h7
    ·exact c5 h7
 ·rw [if_neg c4, if_neg]
  rintro ⟨_, _, h6 | ⟨h7, _⟩⟩
  ·exact c3 h6
  ·exact c4 h7
theorem ord_l1 (a : Nat) (ha : a < H) (hnext : Ev (fun k => plan_ordinary.l0 k (mat H V f) s t hold (mat H V f) ((H : Nat) : Int) ((a + 1 : Nat) : Int)) (decide (RowsOk hold h s t H V f (a + 1)))) (d : Nat) : ∀ v, v + d = V →
 Ev (fun k => plan_ordinary.l1 k (mat H V f) s t hold (a : Int) (mat H V f) ((H : Nat) : Int) (a : Int) (row V (f a)) ((V : Nat) : Int) (v : Int)) (decide (RowOk hold h s t V f a v ∧ RowsOk hold h s t H V f (a + 1))) := by
 induction d with
 | zero =>
  intro v hv
  have e : decide (RowOk hold h s t V f a v ∧ RowsOk hold h s t H V f (a + 1)) = decide (RowsOk hold h s t H V f (a + 1)) := by
   rw [decide_eq_decide]
   exact ⟨fun h => h.2, fun h => ⟨fun w hw hw2 => by omega, h⟩⟩
  rw [e]
  exact Ev.step (fun k => by rw [plan_ordinary.l1, if_neg (by omega), wrap1 (by omega)]) hnext
 | succ d ih =>
  intro v hv
  have hv2 : v < V := by omega
  refine Ev.step (fun k => ord_step hH hV hhH k a v ha hv2) ?_
  have hr := rowOk_step (hold := hold) (h := h) (s := s) (t := t) (f := f) (a := a) hv2
  by_cases c : Bad hold h s t f a v
  ·simp only [c, if_true]
   have e : decide (RowOk hold h s t V f a v ∧ RowsOk hold h s t H V f (a + 1)) = false := by
    rw [decide_eq_false_iff_not]
    rintro ⟨h1, _⟩
    exact (hr.1 h1).1 c
   rw [e]
   exact Ev.now _
  ·simp only [c, if_false]
   have e : decide (RowOk hold h s t V f a v ∧ RowsOk hold h s t H V f (a + 1)) = decide (RowOk hold h s t V f a (v + 1) ∧ RowsOk hold h s t H V f (a + 1)) := by
    rw [decide_eq_decide, hr]
    exact ⟨fun h => ⟨h.1.2, h.2⟩, fun h => ⟨⟨c, h.1⟩, h.2⟩⟩
   rw [e]
   exact ih (v + 1) (by omega)
theorem ord_l0 (d : Nat) : ∀ a, a + d = H → Ev (fun k => plan_ordinary.l0 k (mat H V f) s t hold (mat H V f) ((H : Nat) : Int) (a : Int)) (decide (RowsOk hold h s t H V f a)) := by
 induction d with
 | zero =>
  intro a ha
  rw [decide_eq_true (show RowsOk hold h s t H V f a from fun u hu hu2 => by omega)]
  exact ev_cst fun k => by rw [plan_ordinary.l0, if_neg (by omega)]
 | succ d ih =>
  intro a ha
  have ha2 : a < H := by omega
  have g : rd_L3 (mat H V f) (a : Int) = row V (f a) := rdL_row ha2
  have e : decide (RowsOk hold h s t H V f a) = decide (RowOk hold h s t V f a 0 ∧ RowsOk hold h s t H V f (a + 1)) := by rw [decide_eq_decide, rowsOk_step ha2]
  rw [e]
  refine Ev.step (fun k => ?_) (ord_l1 hH hV hhH a ha2 (ih (a + 1) (by omega)) V 0 (by omega))
  rw [plan_ordinary.l0, if_pos (by omega), if_pos (by omega), if_pos (by rw [mat_length]; omega), g, row_length]
  rfl
theorem ordinary_ev : Ev (fun k => plan_ordinary.f k (mat H V f) s t hold) (decide (AllOk hold h s t H V f)) := by
 have h0 := ord_l0 (hold := hold) (s := s) (t := t) (f := f) hH hV hhH H 0 (by omega)
 have e : decide (RowsOk hold h s t H V f 0) = decide (AllOk hold h s t H V f) := by
  rw [decide_eq_decide]
  exact ⟨fun h u hu w hw => h u (by omega) hu w hw, fun h u _ hu w hw => h u hu w hw⟩
 rw [e] at h0
 refine Ev.congr (fun k => ?_) h0
 unfold plan_ordinary.f
 rw [mat_length]
 rfl
variable {b : Bool} {arcs : List S54} (hh : 0 ≤ h) (ht : 0 ≤ t ∧ t < (V : Int))
include hh ht
theorem rchk_l0 (d : Nat) : ∀ v, v + d = V → Ev (fun k => ebbtideref14_Check.l0 k s t h (mat H V f) (v : Int) ((V : Nat) : Int) hold arcs) (if ColsOk hold h s t H V f v then (f h.toNat t.toNat, (0 : Int)) else (0, 141)) := by
 induction d with
 | zero =>
  intro v hv
  rw [if_pos (show ColsOk hold h s t H V f v from fun w hw hw2 => by omega)]
  obtain ⟨hN, rfl⟩ := Int.eq_ofNat_of_zero_le hh
  obtain ⟨tN, htN⟩ := Int.eq_ofNat_of_zero_le ht.1
  have g : rd_L3 (mat H V f) (hN : Int) = row V (f hN) := rdL_row (by omega)
  have g2 : rd (row V (f hN)) (tN : Int) = f hN tN := rd_row (by omega)
  refine ev_cst fun k => ?_
  rw [ebbtideref14_Check.l0, if_neg (by omega), if_pos (by omega), if_pos (by rw [mat_length]; omega), if_pos ht.1, g, if_pos (by rw [row_length]; omega), htN, g2]
  simp only [Int.toNat_natCast]
 | succ d ih =>
  intro v hv
  have hv2 : v < V := by omega
  have hnext := ih (v + 1) (by omega)
  have hfalse : ∀ a : Int, ColOk hold h s t H f v 0 → Ev (fun k => ebbtideref14_Check.j2 k s t h (mat H V f) (v : Int) a false ((V : Nat) : Int) hold arcs) (if ColsOk hold h s t H V f v then (f h.toNat t.toNat, (0 : Int)) else (0, 141)) := by
   intro a hc
   have e : (if ColsOk hold h s t H V f v then (f h.toNat t.toNat, (0 : Int)) else (0, 141)) = (if ColsOk hold h s t H V f (v + 1) then (f h.toNat t.toNat, (0 : Int)) else (0, 141)) := by
    have hcs := colsOk_step (hold := hold) (h := h) (s := s) (t := t) (f := f) (H := H) hv2
    by_cases c : ColsOk hold h s t H V f (v + 1)
    ·rw [if_pos c, if_pos (hcs.2 ⟨hc, c⟩)]
    ·rw [if_neg c, if_neg (fun h => c (hcs.1 h).2)]
   rw [e]
   exact Ev.step (fun k => by rw [ebbtideref14_Check.j2, if_neg (by decide), wrap1 (by omega)]) hnext
  have hl1 : ∀ d a, a + d = H → (∀ u, u < a → ¬ Bad hold h s t f u v) → Ev (fun k => ebbtideref14_Check.l1 k s t h (mat H V f) (v : Int) (a : Int) ((V : Nat) : Int) hold arcs) (if ColsOk hold h s t H V f v then (f h.toNat t.toNat, (0 : Int)) else (0, 141)) := by
   intro d
   induction d with
   | zero =>
    intro a ha hb
    refine Ev.step (fun k => ?_) (hfalse (a : Int) (fun u _ hu => hb u (by omega)))
    rw [ebbtideref14_Check.l1, if_neg (by omega)]
   | succ d ih2 =>
    intro a ha hb
    have ha2 : a < H := by omega
    by_cases c1 : (v : Int) = s
    ·refine Ev.step (fun k => ?_) (hfalse (a : Int) (fun u _ hu hbad => hbad.1 c1))
     rw [ebbtideref14_Check.l1, if_pos (by omega), if_pos c1]
    by_cases c2 : (v : Int) = t
    ·refine Ev.step (fun k => ?_) (hfalse (a : Int) (fun u _ hu hbad => hbad.2.1 c2))
     rw [ebbtideref14_Check.l1, if_pos (by omega), if_neg c1, c2]
     simp
    have g : rd_L3 (mat H V f) (a : Int) = row V (f a) := rdL_row ha2
    have g2 : rd (row V (f a)) (v : Int) = f a v := rd_row hv2
    have hj : Ev (fun k => ebbtideref14_Check.j2 k s t h (mat H V f) (v : Int) (a : Int) true ((V : Nat) : Int) hold arcs) (if ColsOk hold h s t H V f v then (f h.toNat t.toNat, (0 : Int)) else (0, 141)) := by
     have hstep : ∀ k, ebbtideref14_Check.j2 (k + 1) s t h (mat H V f) (v : Int) (a : Int) true ((V : Nat) : Int) hold arcs = if Bad hold h s t f a v then some (0, 141) else ebbtideref14_Check.l1 k s t h (mat H V f) (v : Int) ((a + 1 : Nat) : Int) ((V : Nat) : Int) hold arcs := by
      intro k
      rw [ebbtideref14_Check.j2, if_pos rfl, if_pos (by omega), if_pos (by rw [mat_length]; omega), if_pos (by omega), g, if_pos (by rw [row_length]; omega), g2, wrap1 (by omega)]
      by_cases c3 : f a v < 0
      ·rw [if_pos c3, if_pos (show Bad hold h s t f a v from ⟨c1, c2, .inl c3⟩)]
      rw [if_neg c3]
      by_cases c4 : f a v > 0
      ·rw [if_pos c4]
       cases hold with
       | false => rw [if_neg (by decide), if_pos (show Bad false h s t f a v from ⟨c1, c2, .inr ⟨c4, .inl rfl⟩⟩)]
       | true =>
        rw [if_pos rfl]
        by_cases c5 : (a : Int) = h
        ·rw [if_pos c5, if_pos (show Bad true h s t f a v from ⟨c1, c2, .inr ⟨c4, .inr c5⟩⟩)]
        ·rw [if_neg c5, if_neg]
         rintro ⟨_, _, h6 | ⟨_, h7 | h7⟩⟩
         ·exact c3 h6
         ·cases h7
         ·exact c5 h7
      ·rw [if_neg c4, if_neg]
       rintro ⟨_, _, h6 | ⟨h7, _⟩⟩
       ·exact c3 h6
       ·exact c4 h7
     refine Ev.step hstep ?_
     by_cases c : Bad hold h s t f a v
     ·simp only [c, if_true]
      rw [if_neg (fun hc : ColsOk hold h s t H V f v => hc v (Nat.le_refl _) hv2 a ha2 c)]
      exact Ev.now _
     ·simp only [c, if_false]
      refine ih2 (a + 1) (by omega) (fun u hu => ?_)
      rcases Nat.eq_or_lt_of_le (Nat.le_of_lt_succ hu) with rfl | h3
      ·exact c
      ·exact hb u h3
    refine Ev.step (fun k => ?_) hj
    rw [ebbtideref14_Check.l1, if_pos (by omega), if_neg c1]
    congr 1
    simp [c2]
  refine Ev.step (fun k => ?_) (hl1 H 0 (by omega) (fun u hu => by omega))
  rw [ebbtideref14_Check.l0, if_pos (by omega)]
  rfl
theorem rchk_ev : Ev (fun k => ebbtideref14_Check.l0 k s t h (mat H V f) 0 ((V : Nat) : Int) hold arcs) (if AllOk hold h s t H V f then (f h.toNat t.toNat, (0 : Int)) else (0, 141)) := by
 have h0 := rchk_l0 (hold := hold) (s := s) (f := f) (arcs := arcs) hH hV hhH hh ht V 0 (by omega)
 have e : (if ColsOk hold h s t H V f 0 then (f h.toNat t.toNat, (0 : Int)) else (0, 141)) = (if AllOk hold h s t H V f then (f h.toNat t.toNat, (0 : Int)) else (0, 141)) := by
  have hi : ColsOk hold h s t H V f 0 ↔ AllOk hold h s t H V f := ⟨fun h u hu w hw => h w (by omega) hw u hu, fun h w _ hw u hu => h u hu w hw⟩
  by_cases c : AllOk hold h s t H V f
  ·rw [if_pos c, if_pos (hi.2 c)]
  ·rw [if_neg c, if_neg (fun h => c (hi.1 h))]
 rw [e] at h0
 exact h0
end
noncomputable def stocksR (n : Int) (arcs : List S54) (s t h : Int) (l : List S85) : List (List Int) × Int :=
 if (mergedR n arcs s t h l).2 = 0 then (SM n arcs h (mergedR n arcs s t h l).1, 0) else ([], (mergedR n arcs s t h l).2)
open Classical in
noncomputable def planR (hold : Bool) (n : Int) (arcs : List S54) (s t h : Int) (l : List S85) : Int × Int :=
 if (mergedR n arcs s t h l).2 = 0 then (if AllOk hold h s t (tH h) (tV n) (stk arcs (mergedR n arcs s t h l).1) then (stk arcs (mergedR n arcs s t h l).1 h.toNat t.toNat, 0) else (0, 141)) else (0, (mergedR n arcs s t h l).2)
structure MergedOk (n : Int) (arcs : List S54) (s t h : Int) (l M : List S85) : Prop where
 net : NetOk n arcs
 ends : 0 ≤ s ∧ s < n ∧ 0 ≤ t ∧ t < n ∧ s ≠ t
 hor : 0 ≤ h ∧ h ≤ 1024
 fit : AllFit l
 is : M = mergeL l
 may : ∀ m ∈ M, May arcs s t h m
theorem mergedR_ok {n : Int} {arcs : List S54} {s t h : Int} {l : List S85} (hz : (mergedR n arcs s t h l).2 = 0) : MergedOk n arcs s t h l (mergedR n arcs s t h l).1 := by
 unfold mergedR at *
 by_cases c : askErr n arcs s t h = 0
 ·rw [if_pos c] at *
  obtain ⟨h1, h2, h3, h4, h5, h6, h7⟩ := askErr_ok.1 c
  by_cases c2 : AllFit l
  ·rw [if_pos c2] at *
   by_cases c3 : AllMay arcs s t h (mergeL l)
   ·rw [if_pos c3] at *
    exact ⟨h1, ⟨h2, h3, h4, h5, h6⟩, h7, c2, rfl, c3⟩
   ·rw [if_neg c3] at hz; cases hz
  ·rw [if_neg c2] at hz; cases hz
 ·rw [if_neg c] at hz; exact absurd hz c
section
variable {n : Int} {hold : Bool} {arcs : List S54} {s t h : Int} {l : List S85} (hlen : l.length ≤ 1048576) (hl : ∀ x ∈ l, OkM x)
include hlen
theorem merged_len (hz : (mergedR n arcs s t h l).2 = 0) : (mergedR n arcs s t h l).1.length ≤ 1048576 := by
 rw [(mergedR_ok hz).is]
 exact Nat.le_trans (mergeL_length l) hlen
include hl
theorem stocksP_ev : Ev (fun k => plan_Stocks.f k n hold arcs s t h l) (stocksR n arcs s t h l) := by
 unfold plan_Stocks.f stocksR
 refine Ev.bind (merged_ev hlen hl) ?_
 by_cases c : (mergedR n arcs s t h l).2 = 0
 ·have ho := mergedR_ok c
  simp only [c, if_true]
  exact Ev.bind (stocks_ev ho.net ho.hor (merged_len hlen c) ho.may) (Ev.now _)
 ·simp only [c, if_false]
  exact Ev.now _
theorem stocksQ_ev : Ev (fun k => ebbtideref14_Stocks.f k n hold arcs s t h l) (stocksR n arcs s t h l) := by
 unfold ebbtideref14_Stocks.f stocksR
 refine Ev.bind (rmerged_ev hlen hl) ?_
 by_cases c : (mergedR n arcs s t h l).2 = 0
 ·have ho := mergedR_ok c
  simp only [c, if_true]
  have h0 := rstocks_loop (b := hold) ho.net ho.hor (merged_len hlen c) ho.may (tH h) 0 (by omega)
  exact h0
 ·simp only [c, if_false]
  exact Ev.now _
open Classical in
theorem checked_ev : Ev (fun k => plan_checked.f k n hold arcs s t h l) (if (planR hold n arcs s t h l).2 = 0 then (SM n arcs h (mergedR n arcs s t h l).1, 0) else ([], (planR hold n arcs s t h l).2)) := by
 unfold plan_checked.f
 refine Ev.bind (stocksP_ev hlen hl) ?_
 unfold stocksR planR
 by_cases c : (mergedR n arcs s t h l).2 = 0
 ·have ho := mergedR_ok c
  have h1 := ho.hor
  have h2 := ho.net.lo
  have h3 := ho.net.hi
  simp only [c, if_true]
  have hord := ordinary_ev (hold := hold) (h := h) (s := s) (t := t) (H := tH h) (V := tV n) (f := stk arcs (mergedR n arcs s t h l).1) (by unfold tH; omega) (by unfold tV; omega) (by unfold tH; omega)
  refine Ev.bind hord ?_
  by_cases c2 : AllOk hold h s t (tH h) (tV n) (stk arcs (mergedR n arcs s t h l).1)
  ·simp only [c2, decide_true, if_true]; exact Ev.now _
  ·simp only [c2, decide_false, Bool.false_eq_true, if_false, show ¬ (141 : Int) = 0 by decide]; exact Ev.now _
 ·simp only [c, if_false]
  exact Ev.now _
open Classical in
theorem checkP_ev : Ev (fun k => plan_Check.f k n hold arcs s t h l) (planR hold n arcs s t h l) := by
 unfold plan_Check.f
 refine Ev.bind (checked_ev hlen hl) ?_
 by_cases c0 : (planR hold n arcs s t h l).2 = 0
 ·simp only [c0, if_true]
  have c : (mergedR n arcs s t h l).2 = 0 := by
   apply Classical.byContradiction
   intro hc
   unfold planR at c0
   rw [if_neg hc] at c0
   exact hc c0
  have ho := mergedR_ok c
  obtain ⟨hh0, hh1⟩ := ho.hor
  obtain ⟨_, _, ht0, ht1, _⟩ := ho.ends
  have hval : planR hold n arcs s t h l = (stk arcs (mergedR n arcs s t h l).1 h.toNat t.toNat, 0) := by
   unfold planR at *
   rw [if_pos c] at *
   by_cases c2 : AllOk hold h s t (tH h) (tV n) (stk arcs (mergedR n arcs s t h l).1)
   ·rw [if_pos c2]
   ·rw [if_neg c2] at c0; cases c0
  rw [hval]
  obtain ⟨hN, rfl⟩ := Int.eq_ofNat_of_zero_le hh0
  obtain ⟨tN, rfl⟩ := Int.eq_ofNat_of_zero_le ht0
  simp only [Int.toNat_natCast]
  generalize (mergedR n arcs s (tN : Int) (hN : Int) l).1 = M
  have g : rd_L3 (SM n arcs (hN : Int) M) (hN : Int) = row (tV n) (stk arcs M hN) := rdL_row (by unfold tH; omega)
  have g2 : rd (row (tV n) (stk arcs M hN)) (tN : Int) = stk arcs M hN tN := rd_row (by unfold tV; omega)
  have g3 : (SM n arcs (hN : Int) M).length = tH (hN : Int) := mat_length _ _ _
  have p1 : (0 : Int) ≤ (hN : Int) := Int.natCast_nonneg _
  have p2 : (hN : Int) < ((SM n arcs (hN : Int) M).length : Int) := by rw [g3]; unfold tH; omega
  have p3 : (0 : Int) ≤ (tN : Int) := Int.natCast_nonneg _
  have p4 : (tN : Int) < ((row (tV n) (stk arcs M hN)).length : Int) := by rw [row_length]; unfold tV; omega
  simp only [p1, p2, p3, g, p4, g2, if_true]
  exact Ev.now _
 ·simp only [c0, if_false]
  have e : planR hold n arcs s t h l = (0, (planR hold n arcs s t h l).2) := by
   unfold planR at *
   by_cases c : (mergedR n arcs s t h l).2 = 0
   ·rw [if_pos c] at *
    by_cases c2 : AllOk hold h s t (tH h) (tV n) (stk arcs (mergedR n arcs s t h l).1)
    ·rw [if_pos c2] at c0; exact absurd rfl c0
    ·rw [if_neg c2]
   ·rw [if_neg c]
  rw [← e]
  exact Ev.now _
theorem checkQ_ev : Ev (fun k => ebbtideref14_Check.f k n hold arcs s t h l) (planR hold n arcs s t h l) := by
 unfold ebbtideref14_Check.f
 refine Ev.bind (stocksQ_ev hlen hl) ?_
 unfold stocksR planR
 by_cases c : (mergedR n arcs s t h l).2 = 0
 ·have ho := mergedR_ok c
  have h1 := ho.hor
  have h2 := ho.net.lo
  have h3 := ho.net.hi
  have h4 := ho.ends
  simp only [c, if_true]
  have e : ((tV n : Nat) : Int) = n := by unfold tV; omega
  have h0 := rchk_ev (hold := hold) (h := h) (s := s) (t := t) (H := tH h) (V := tV n) (f := stk arcs (mergedR n arcs s t h l).1) (arcs := arcs) (by unfold tH; omega) (by unfold tV; omega) (by unfold tH; omega) h1.1 (by rw [e]; omega)
  rw [e] at h0
  exact h0
 ·simp only [c, if_false]
  exact Ev.now _
end
end Go.Proofs.Ytfhkkbpkajfdlaa.P
end
section
namespace Go.Proofs.Ytfhkkbpkajfdlaa.Q
open Go.RowKit Go.Proofs.YtfhkkbpkajfdlaaW.PrintWords Go.Proofs.YtfhkkbpkajfdlaaW.PrintLast Go.Proofs.YtfhkkbpkajfdlaaW.PrintMore
def ebbtidelaw12_Read.l0 : Nat → Int → Int → Int → Bool → List (S80) → Int → Int → Int → Int → Bool → List (S54) → Option (Int × Bool × (List (S54)) × Int × Int × Int)
 | 0, _, _, _, _, _, _, _, _, _, _, _ => none
 | k + 1, x1, x9, x394000, x394001, x394002, x394003, x394004, x394005, x396000, x396001, x396002 => if x9 < (x394002.length : Int) then (if x9 < x1 then (if 0 ≤ x9 then (if x396000 = 0 then (none) else (if x396002.length < 4398046511104 then (ebbtidelaw12_Read.l0 k x1 (wrap64 (x9 + 1)) x394000 x394001 x394002 x394003 x394004 x394005 x396000 x396001 (x396002 ++ [(⟨Int.tmod (wrap64 ((rd_T80 x394002 x9).f0)) x396000, Int.tmod (wrap64 ((rd_T80 x394002 x9).f1)) x396000, Int.tmod (wrap64 ((rd_T80 x394002 x9).f2)) 6, Int.tmod (wrap64 ((rd_T80 x394002 x9).f3)) 4⟩ : S54)])) else (none))) else (none)) else (if x396000 = 0 then (none) else (if (wrap64 (x396000 - 1)) = 0 then (none) else (some (x396000, x396001, x396002, Int.tmod (wrap64 (x394003)) x396000, Int.tmod (wrap64 ((wrap64 ((Int.tmod (wrap64 (x394003)) x396000) + 1)) + (Int.tmod (wrap64 (x394004)) (wrap64 (x396000 - 1))))) x396000, Int.tmod (wrap64 (x394005)) 8))))) else (if x396000 = 0 then (none) else (if (wrap64 (x396000 - 1)) = 0 then (none) else (some (x396000, x396001, x396002, Int.tmod (wrap64 (x394003)) x396000, Int.tmod (wrap64 ((wrap64 ((Int.tmod (wrap64 (x394003)) x396000) + 1)) + (Int.tmod (wrap64 (x394004)) (wrap64 (x396000 - 1))))) x396000, Int.tmod (wrap64 (x394005)) 8))))
def ebbtidelaw12_Read.f (k : Nat) (a0_0 : Int) (a0_1 : Bool) (l0_2 : List (S80)) (a0_3 : Int) (a0_4 : Int) (a0_5 : Int) (a1 : Int) : Option (Int × Bool × (List (S54)) × Int × Int × Int) := ebbtidelaw12_Read.l0 k a1 0 a0_0 a0_1 l0_2 a0_3 a0_4 a0_5 (wrap64 (2 + (Int.tmod (wrap64 (a0_0)) 4))) a0_1 ([] : List (S54))
def ebbtidelaw12_Read.T6 : Bool × List (List Nat × List Nat) := (true, [([], []), ([0], [0]), ([], []), ([2], [2]), ([3], [3]), ([], []), ([5], [5]), ([4, 6], [4, 6]), ([], []), ([8], [8]), ([9], [9]), ([], []), ([11], [11]), ([10, 12], [10, 12]), ([], []), ([14], [14]), ([15], [15]), ([16], [16]), ([], []), ([18], [18]), ([19], [19]), ([20], [20]), ([7, 13, 17, 21], [7, 13, 17, 21]), ([22], [22]), ([1, 23], [1, 23]), ([0, 1, 2, 3, 4, 5, 6, 7, 8, 9, 10, 11, 12, 13, 14, 15, 16, 17, 18, 19, 20, 21, 22, 23, 24], []), ([25, 24, 24, 0, 1, 2, 3, 4, 5, 6, 7, 8, 9, 10, 11, 12, 13, 14, 15, 16, 17, 18, 19, 20, 21, 22, 23, 24], [24, 25])])
def ebbtidelaw12_Read.B6 : List Nat := [0, 1, 0, 4, 12, 0, 32, 124, 0, 256, 768, 0, 2048, 7936, 0, 16384, 49152, 114688, 0, 262144, 786432, 1835008, 4194300, 8388604, 16777215, 33554431, 67108863]
theorem ebbtidelaw12_Read.tab6 : rtab .any (opsOf Try.f20 6) = ebbtidelaw12_Read.T6 := by kernel_rfl
theorem ebbtidelaw12_Read.bits6 : waitsOk ebbtidelaw12_Read.T6.2 ebbtidelaw12_Read.B6 = true := by kernel_rfl
def ebbtidelaw12_Read.T9 : Bool × List (List Nat × List Nat) := (true, [([], []), ([], []), ([], []), ([], []), ([3], [3]), ([4], [4]), ([5], [5]), ([0, 0], [0]), ([1, 7, 0, 1, 7], [1]), ([2, 8, 0, 1, 2, 7, 8], [2]), ([6, 9, 0, 1, 2, 3, 4, 5, 6, 7, 8, 9], [6])])
def ebbtidelaw12_Read.B9 : List Nat := [0, 0, 0, 0, 8, 24, 56, 1, 131, 391, 1023]
theorem ebbtidelaw12_Read.tab9 : rtab .any (opsOf Try.f20 9) = ebbtidelaw12_Read.T9 := by kernel_rfl
theorem ebbtidelaw12_Read.bits9 : waitsOk ebbtidelaw12_Read.T9.2 ebbtidelaw12_Read.B9 = true := by kernel_rfl
set_option maxHeartbeats 8000000 in
set_option maxRecDepth 100000 in
theorem ebbtidelaw12_Read.calls (k : Nat) (a0_0 : Int) (a0_1 : Bool) (A0_2 : Option Addr) (c0_2 : Nat) (l0_2 : List (S80)) (a0_3 : Int) (a0_4 : Int) (a0_5 : Int) (a1 : Int) (r1 : Int) (r2 : Bool) (r3 : List (S54)) (r4 : Int) (r5 : Int) (r6 : Int) (w : World) (hr0_2 : Kd.C k80 w A0_2 l0_2.length l0_2) (hc0_2 : l0_2.length ≤ c0_2) (h : ebbtidelaw12_Read.f k a0_0 a0_1 l0_2 a0_3 a0_4 a0_5 a1 = some (r1, r2, r3, r4, r5, r6)) :
  Calls Try.prog 20 #[.agg #[.int .u8 a0_0, .bool a0_1, .slice A0_2 l0_2.length c0_2, .int .u8 a0_3, .int .u8 a0_4, .int .u8 a0_5], .int .i64 a1] w fun e w' => ∃ v2_ : Value, e = .returned (.tuple #[.agg #[.int .i64 r1, .bool r2, v2_], .int .i64 r4, .int .i64 r5, .int .i64 r6]) ∧ Kd.R k54 54 w' w.heap.size (fun _ => True) v2_ r3 ∧ Below w.heap.size w w' := by
 have hu41 := Try.underlying41; have hu24 := Try.underlying24; have hu80 := Try.underlying80; have hu54 := Try.underlying54; have HR0_2 := am_ hr0_2; have HC0_2 := am_ hc0_2; clear hr0_2 hc0_2; have HB := am_ (Below.refl w.heap.size w); have H : (ebbtidelaw12_Read.l0 k a1 0 a0_0 a0_1 l0_2 a0_3 a0_4 a0_5 (wrap64 (2 + (Int.tmod (wrap64 (a0_0)) 4))) a0_1 ([] : List (S54))) = some (r1, r2, r3, r4, r5, r6) := h; clear h; have H' := am_ H; clear H
 go_enter Try.func20, Try.ntmps20
 go_wp2_with (first | ((with_reducible refine gate_dst (N := 2) rfl ?_); refine bx_ 2 #[.int .u8 a0_0, .bool a0_1, .slice A0_2 l0_2.length c0_2, .int .u8 a0_3, .int .u8 a0_4, .int .u8 a0_5] 41 ?_; intro gb393 hg w3 BK393 hb; have GE393 := ge_ (w := w) hg; replace HB := hst_ hb; clear hb hg) | ((with_reducible refine gate_dst (N := 4) rfl ?_); refine bx_ 4 #[.int .i64 0, .bool false, .slice none 0 0] 24 ?_; intro gb394 hg w4 BK394 hb; have GE394 := ge_ (w := w) hg; replace HB := hst_ hb; have NB393_394 := am_ (nl_ BK393.out hg); have NB394_393 := am_ (ng_ BK393.out hg); replace BK393 := am_ (bb_ BK393.out hb); clear hb hg; have hnb5 := NB393_394.out; have hnc5 := NB394_393.out; obtain ⟨hcz6_0, hcz6_1, hcz6_2, hcz6_3, hcz6_4, hcz6_5, hfz6_0, hfz6_1, hfz6_2, hfz6_3, hfz6_4, hfz6_5⟩ := cf6_ BK393.out) | ((with_reducible refine gate_dst (N := 8) rfl ?_); refine bx_ 8 #[.int .i64 0, .bool false, .slice none 0 0] 24 ?_; intro gb395 hg w7 BK395 hb; have GE395 := ge_ (w := w) hg; replace HB := hst_ hb; have NB393_395 := am_ (nl_ BK393.out hg); have NB395_393 := am_ (ng_ BK393.out hg); replace BK393 := am_ (bb_ BK393.out hb); have NB394_395 := am_ (nl_ BK394.out hg); have NB395_394 := am_ (ng_ BK394.out hg); replace BK394 := am_ (bb_ BK394.out hb); clear hb hg; have hnb8 := NB395_393.out; have hnc8 := NB393_395.out; have hnb9 := NB395_394.out; have hnc9 := NB394_395.out; obtain ⟨hcz10_0, hcz10_1, hcz10_2, hfz10_0, hfz10_1, hfz10_2⟩ := cf3_ BK395.out))
 go_loopg [9] k (fun kq v9 w' => ∃ (x9_1 : Int) (x396002_1 : List (S54)) (u396002 : Value), v9 = .int .i64 x9_1 ∧ Aside0 (ebbtidelaw12_Read.l0 kq a1 x9_1 a0_0 a0_1 l0_2 a0_3 a0_4 a0_5 (wrap64 (2 + (Int.tmod (wrap64 (a0_0)) 4))) a0_1 x396002_1 = some (r1, r2, r3, r4, r5, r6)) ∧ Aside0 (kq ≤ k) ∧ Aside0 (Kd.R k54 54 w' w.heap.size (fun _ => True) u396002 x396002_1) ∧ Aside0 (w'.heap[gb393]? = some (.cells #[.int .u8 a0_0, .bool a0_1, (.slice A0_2 l0_2.length c0_2), .int .u8 a0_3, .int .u8 a0_4, .int .u8 a0_5] 41 (0, 0))) ∧ Aside0 (w'.heap[gb394]? = some (.cells #[.int .i64 0, .bool false, (.slice none 0 0)] 24 (0, 0))) ∧ Aside0 (w'.heap[gb395]? = some (.cells #[.int .i64 (wrap64 (2 + (Int.tmod (wrap64 (a0_0)) 4))), .bool a0_1, u396002] 24 (0, 0))) ∧ Aside0 (Below w.heap.size w w'))
 case atStart => exact ⟨(0), (([] : List (S54))), (.slice none 0 0), rs_, H', ⟨Nat.le_refl _⟩, ⟨ni_⟩, ⟨by refine bq_ ?_; refine blk_far ?_ NB393_395.out _; refine bq_ ?_; refine blk_far ?_ NB393_395.out _; refine bq_ ?_; refine blk_far ?_ NB393_395.out _; refine bq_ ?_; exact BK393.out⟩, ⟨by refine bq_ ?_; refine blk_far ?_ NB394_395.out _; refine bq_ ?_; refine blk_far ?_ NB394_395.out _; refine bq_ ?_; refine blk_far ?_ NB394_395.out _; refine bq_ ?_; exact BK394.out⟩, ⟨by refine bq_ ?_; refine blk_put (cs := #[.int .i64 (wrap64 (2 + (Int.tmod (wrap64 (a0_0)) 4))), .bool a0_1, .slice none 0 0]) ?_ 2 _ rfl; refine bq_ ?_; refine blk_put (cs := #[.int .i64 (wrap64 (2 + (Int.tmod (wrap64 (a0_0)) 4))), .bool false, .slice none 0 0]) ?_ 1 _ rfl; refine bq_ ?_; refine blk_put (cs := #[.int .i64 0, .bool false, .slice none 0 0]) ?_ 0 _ rfl; refine bq_ ?_; exact BK395.out⟩, ⟨hb_⟩⟩
 case round =>
  clear H'
  try clear c2
  try clear p2
  try clear c5
  try clear p6
  try clear c8
  try clear c9
  try clear hcz10_0 hcz10_1 hcz10_2
  try clear hcz6_0 hcz6_1 hcz6_2 hcz6_3 hcz6_4 hcz6_5
  try clear hfz10_0 hfz10_1 hfz10_2
  try clear hfz6_0 hfz6_1 hfz6_2 hfz6_3 hfz6_4 hfz6_5
  obtain ⟨x9_1, x396002_1, u396002, rfl, HA, HK1, HO_396002, BK393, BK394, BK395, HB⟩ := hrel
  cases gk with
  | zero => exact absurd HA.out (by simp [ebbtidelaw12_Read.l0])
  | succ k1 =>
   have H := HA.out; clear HA; simp only [ebbtidelaw12_Read.l0] at H
   by_cases c11 : x9_1 < (l0_2.length : Int)
   ·rw [if_pos c11] at H
    have c11b0 := decide_eq_true c11; clear c11
    by_cases c12 : x9_1 < a1
    ·rw [if_pos c12] at H
     have c12b0 := decide_eq_true c12; clear c12
     replace H := ifn_ H; obtain ⟨c13, H⟩ := H
     have c13b0 := decide_eq_true c13; clear c13
     by_cases c14 : (wrap64 (2 + (Int.tmod (wrap64 (a0_0)) 4))) = 0
     ·rw [if_pos c14] at H
      exact absurd H (by simp)
     ·rw [if_neg c14] at H
      obtain ⟨c14b0, c14b1⟩ := neb_ c14
      replace H := ifn_ H; obtain ⟨c15, H⟩ := H
      have LMc15 := am_ c15; clear c15; obtain ⟨y398, hy_⟩ : ∃ y_ : List (S54), y_ = (x396002_1 ++ [(⟨Int.tmod (wrap64 ((rd_T80 l0_2 x9_1).f0)) (wrap64 (2 + (Int.tmod (wrap64 (a0_0)) 4))), Int.tmod (wrap64 ((rd_T80 l0_2 x9_1).f1)) (wrap64 (2 + (Int.tmod (wrap64 (a0_0)) 4))), Int.tmod (wrap64 ((rd_T80 l0_2 x9_1).f2)) 6, Int.tmod (wrap64 ((rd_T80 l0_2 x9_1).f3)) 4⟩ : S54)]) := ⟨_, rfl⟩
      replace H : (ebbtidelaw12_Read.l0 k1 a1 (wrap64 (x9_1 + 1)) a0_0 a0_1 l0_2 a0_3 a0_4 a0_5 (wrap64 (2 + (Int.tmod (wrap64 (a0_0)) 4))) a0_1 y398) = some (r1, r2, r3, r4, r5, r6) := hyH_
      have Ny398 := am_ hy_; clear hy_; have H' := am_ H; clear H; have hnb16 := NB393_394.out; have hnc16 := NB394_393.out; have hnb17 := NB393_395.out; have hnc17 := NB395_393.out; obtain ⟨hcz18_0, hcz18_1, hcz18_2, hcz18_3, hcz18_4, hcz18_5, hfz18_0, hfz18_1, hfz18_2, hfz18_3, hfz18_4, hfz18_5⟩ := cf6_ BK393.out; have p396 := od_ (p := 0 ≤ (x9_1 : Int)); have q396 := od_ (p := x9_1 < (l0_2.length : Int)); obtain ⟨ad396, e396, hx396_0, hx396_1, hx396_2, hx396_3⟩ := tr4_ HB.out (at_T80 HR0_2.out x9_1 p396 q396); cases e396; replace p396 := eq_true p396; replace q396 := eq_true q396
      try go_wp2_with (first | ((with_reducible refine gate_dst (N := 10) rfl ?_); refine bx_ 10 #[.int .u8 0, .int .u8 0, .int .u8 0, .int .u8 0] 80 ?_; intro gb397 hg w19 BK397 hb; replace HO_396002 := am_ (Kd.R_below (rq_ HO_396002.out) hb); have GE397 := ge_ (w := w) hg; replace HB := hst_ hb; have NB393_397 := am_ (nl_ BK393.out hg); have NB397_393 := am_ (ng_ BK393.out hg); replace BK393 := am_ (bb_ BK393.out hb); have NB394_397 := am_ (nl_ BK394.out hg); have NB397_394 := am_ (ng_ BK394.out hg); replace BK394 := am_ (bb_ BK394.out hb); have NB395_397 := am_ (nl_ BK395.out hg); have NB397_395 := am_ (ng_ BK395.out hg); replace BK395 := am_ (bb_ BK395.out hb); clear hb hg; have hnb20 := NB397_393.out; have hnc20 := NB393_397.out; have hnb21 := NB397_394.out; have hnc21 := NB394_397.out; have hnb22 := NB397_395.out; have hnc22 := NB395_397.out; obtain ⟨hcz23_0, hcz23_1, hcz23_2, hcz23_3, hfz23_0, hfz23_1, hfz23_2, hfz23_3⟩ := cf4_ BK397.out))
      have n0_ : Aside0 (Kd.R k54 54 ((((w19.setCell ⟨gb397, 0, none⟩ (.int .u8 ((rd_T80 l0_2 x9_1).f0))).setCell ⟨gb397, 1, none⟩ (.int .u8 ((rd_T80 l0_2 x9_1).f1))).setCell ⟨gb397, 2, none⟩ (.int .u8 ((rd_T80 l0_2 x9_1).f2))).setCell ⟨gb397, 3, none⟩ (.int .u8 ((rd_T80 l0_2 x9_1).f3))) w.heap.size (fun _ => True) u396002 x396002_1) := ⟨by refine rq_ ?_; exact Kd.R_mono (rf4_ (Kd.R_types HO_396002.out BK397.out (by decide))) (fun _ hk => trivial)⟩; have n1_ : Aside0 (((((w19.setCell ⟨gb397, 0, none⟩ (.int .u8 ((rd_T80 l0_2 x9_1).f0))).setCell ⟨gb397, 1, none⟩ (.int .u8 ((rd_T80 l0_2 x9_1).f1))).setCell ⟨gb397, 2, none⟩ (.int .u8 ((rd_T80 l0_2 x9_1).f2))).setCell ⟨gb397, 3, none⟩ (.int .u8 ((rd_T80 l0_2 x9_1).f3))).heap[gb393]? = some (.cells #[.int .u8 a0_0, .bool a0_1, .slice (some ad396) l0_2.length c0_2, .int .u8 a0_3, .int .u8 a0_4, .int .u8 a0_5] 41 (0, 0))) := ⟨by refine bq_ ?_; refine blk_far ?_ NB393_397.out _; refine bq_ ?_; refine blk_far ?_ NB393_397.out _; refine bq_ ?_; refine blk_far ?_ NB393_397.out _; refine bq_ ?_; refine blk_far ?_ NB393_397.out _; refine bq_ ?_; exact BK393.out⟩; have n2_ : Aside0 (((((w19.setCell ⟨gb397, 0, none⟩ (.int .u8 ((rd_T80 l0_2 x9_1).f0))).setCell ⟨gb397, 1, none⟩ (.int .u8 ((rd_T80 l0_2 x9_1).f1))).setCell ⟨gb397, 2, none⟩ (.int .u8 ((rd_T80 l0_2 x9_1).f2))).setCell ⟨gb397, 3, none⟩ (.int .u8 ((rd_T80 l0_2 x9_1).f3))).heap[gb394]? = some (.cells #[.int .i64 0, .bool false, .slice none 0 0] 24 (0, 0))) := ⟨by refine bq_ ?_; refine blk_far ?_ NB394_397.out _; refine bq_ ?_; refine blk_far ?_ NB394_397.out _; refine bq_ ?_; refine blk_far ?_ NB394_397.out _; refine bq_ ?_; refine blk_far ?_ NB394_397.out _; refine bq_ ?_; exact BK394.out⟩; have n3_ : Aside0 (((((w19.setCell ⟨gb397, 0, none⟩ (.int .u8 ((rd_T80 l0_2 x9_1).f0))).setCell ⟨gb397, 1, none⟩ (.int .u8 ((rd_T80 l0_2 x9_1).f1))).setCell ⟨gb397, 2, none⟩ (.int .u8 ((rd_T80 l0_2 x9_1).f2))).setCell ⟨gb397, 3, none⟩ (.int .u8 ((rd_T80 l0_2 x9_1).f3))).heap[gb395]? = some (.cells #[.int .i64 (wrap64 (2 + (Int.tmod (wrap64 (a0_0)) 4))), .bool a0_1, u396002] 24 (0, 0))) := ⟨by refine bq_ ?_; refine blk_far ?_ NB395_397.out _; refine bq_ ?_; refine blk_far ?_ NB395_397.out _; refine bq_ ?_; refine blk_far ?_ NB395_397.out _; refine bq_ ?_; refine blk_far ?_ NB395_397.out _; refine bq_ ?_; exact BK395.out⟩; have n4_ : Aside0 (((((w19.setCell ⟨gb397, 0, none⟩ (.int .u8 ((rd_T80 l0_2 x9_1).f0))).setCell ⟨gb397, 1, none⟩ (.int .u8 ((rd_T80 l0_2 x9_1).f1))).setCell ⟨gb397, 2, none⟩ (.int .u8 ((rd_T80 l0_2 x9_1).f2))).setCell ⟨gb397, 3, none⟩ (.int .u8 ((rd_T80 l0_2 x9_1).f3))).heap[gb397]? = some (.cells #[.int .u8 ((rd_T80 l0_2 x9_1).f0), .int .u8 ((rd_T80 l0_2 x9_1).f1), .int .u8 ((rd_T80 l0_2 x9_1).f2), .int .u8 ((rd_T80 l0_2 x9_1).f3)] 80 (0, 0))) := ⟨by refine bq_ ?_; refine blk_put (cs := #[.int .u8 ((rd_T80 l0_2 x9_1).f0), .int .u8 ((rd_T80 l0_2 x9_1).f1), .int .u8 ((rd_T80 l0_2 x9_1).f2), .int .u8 0]) ?_ 3 _ rfl; refine bq_ ?_; refine blk_put (cs := #[.int .u8 ((rd_T80 l0_2 x9_1).f0), .int .u8 ((rd_T80 l0_2 x9_1).f1), .int .u8 0, .int .u8 0]) ?_ 2 _ rfl; refine bq_ ?_; refine blk_put (cs := #[.int .u8 ((rd_T80 l0_2 x9_1).f0), .int .u8 0, .int .u8 0, .int .u8 0]) ?_ 1 _ rfl; refine bq_ ?_; refine blk_put (cs := #[.int .u8 0, .int .u8 0, .int .u8 0, .int .u8 0]) ?_ 0 _ rfl; refine bq_ ?_; exact BK397.out⟩; have n5_ : Aside0 (Below w.heap.size w ((((w19.setCell ⟨gb397, 0, none⟩ (.int .u8 ((rd_T80 l0_2 x9_1).f0))).setCell ⟨gb397, 1, none⟩ (.int .u8 ((rd_T80 l0_2 x9_1).f1))).setCell ⟨gb397, 2, none⟩ (.int .u8 ((rd_T80 l0_2 x9_1).f2))).setCell ⟨gb397, 3, none⟩ (.int .u8 ((rd_T80 l0_2 x9_1).f3)))) := ⟨hb_⟩
      (try clear HO_396002)
      (try clear BK393)
      (try clear BK394)
      (try clear BK395)
      (try clear BK397)
      (try clear HB)
      generalize ((((w19.setCell ⟨gb397, 0, none⟩ (.int .u8 ((rd_T80 l0_2 x9_1).f0))).setCell ⟨gb397, 1, none⟩ (.int .u8 ((rd_T80 l0_2 x9_1).f1))).setCell ⟨gb397, 2, none⟩ (.int .u8 ((rd_T80 l0_2 x9_1).f2))).setCell ⟨gb397, 3, none⟩ (.int .u8 ((rd_T80 l0_2 x9_1).f3))) = w24 at n0_ n1_ n2_ n3_ n4_ n5_ ⊢; have HO_396002 := n0_; have BK393 := n1_; have BK394 := n2_; have BK395 := n3_; have BK397 := n4_; have HB := n5_; clear n0_ n1_ n2_ n3_ n4_ n5_; replace HO_396002 := am_ (Kd.R_drew HO_396002.out); replace BK393 := am_ (blk_drew BK393.out); replace BK394 := am_ (blk_drew BK394.out); replace BK395 := am_ (blk_drew BK395.out); replace BK397 := am_ (blk_drew BK397.out); replace HB := am_ (below_drew1 HB.out); refine start_ (n := 27) (S := fun w' => w'.cell? ⟨gb395, 0, none⟩ = some (.int .i64 (wrap64 (2 + (Int.tmod (wrap64 (a0_0)) 4)))) ∧ w'.cell? ⟨gb395, 1, none⟩ = some (.bool a0_1) ∧ w'.cell? ⟨gb395, 2, none⟩ = some (u396002) ∧ w'.cell? ⟨gb397, 0, none⟩ = some (.int .u8 ((rd_T80 l0_2 x9_1).f0)) ∧ w'.cell? ⟨gb397, 1, none⟩ = some (.int .u8 ((rd_T80 l0_2 x9_1).f1)) ∧ w'.cell? ⟨gb397, 2, none⟩ = some (.int .u8 ((rd_T80 l0_2 x9_1).f2)) ∧ w'.cell? ⟨gb397, 3, none⟩ = some (.int .u8 ((rd_T80 l0_2 x9_1).f3))) (ds := [26]) #[Ff,Ff,Ff,Ff,Ff,Ff,Ff,Ff,Ff,Ff,Ff,Ff,Ff,Ff,Ff,Ff,Ff,Ff,Ff,Ff,Ff,Ff,Ff,Ff,Ff,Ff,Ff] (by kernel_rfl) rfl rfl ⟨(blk_cell BK395.out 0).trans rfl, (blk_cell BK395.out 1).trans rfl, (blk_cell BK395.out 2).trans rfl, (blk_cell BK397.out 0).trans rfl, (blk_cell BK397.out 1).trans rfl, (blk_cell BK397.out 2).trans rfl, (blk_cell BK397.out 3).trans rfl⟩ (fun hHeld => ?_); refine with_tabW ebbtidelaw12_Read.tab6 ebbtidelaw12_Read.bits6 (fun HT_ HW_ => ?_); generalize w24.drew = w25 at HO_396002 BK393 BK394 BK395 BK397 HB hHeld ⊢; refine pw_ 0 38 ?_; refine pw_ 2 40 ?_; refine pw_ 5 43 ?_; refine pw_ 8 46 ?_; refine pw_ 11 49 ?_; refine pw_ 14 52 ?_; refine pw_ 18 56 ?_; refine tk_ 1 39 ?_; refine tk_ 3 41 ?_; refine pw_ 4 42 ?_; refine tk_ 6 44 ?_; refine pw_ 7 45 ?_; refine tk_ 9 47 ?_; refine pw_ 10 48 ?_; refine tk_ 12 50 ?_; refine pw_ 13 51 ?_; refine tk_ 15 53 ?_; refine pw_ 16 54 ?_; refine pw_ 17 55 ?_; refine tk_ 19 57 ?_; refine pw_ 20 58 ?_; refine pw_ 21 59 ?_; refine pw_ 22 60 ?_; refine one_ (i := 23) (N := some 61) #[Tt,Tt,Tt,Tt,Tt,Tt,Tt,Tt,Tt,Tt,Tt,Tt,Tt,Tt,Tt,Tt,Tt,Tt,Tt,Tt,Tt,Tt,Tt,Tt,Ff,Ff,Ff] rfl rfl (one_of HT_.out (by kernel_rfl)) (by decide) (fun K hK => ?_); refine value_ (w1 := ?_) (v := ?_) (by rfl) rfl ?_ ?_; rotate_left 2
      ·go_simp
       constructor
       ·rfl
       ·rfl
      refine hK.out _ _ ⟨(blk_cell (blk_alloc BK395.out _) 0).trans rfl, (blk_cell (blk_alloc BK395.out _) 1).trans rfl, (blk_cell (blk_alloc BK395.out _) 2).trans rfl, (blk_cell (blk_alloc BK397.out _) 0).trans rfl, (blk_cell (blk_alloc BK397.out _) 1).trans rfl, (blk_cell (blk_alloc BK397.out _) 2).trans rfl, (blk_cell (blk_alloc BK397.out _) 3).trans rfl⟩ (fun hHeld => ?_); clear hK K; refine norm_ (a' := ?_) ?_ ?_; rotate_left
      ·show Act.put _ (some 61) _ = _
       simp only [Act.put, List.setIfInBounds_toArray, List.set_cons_zero, List.set_cons_succ, i64_w, i32_w]; rfl
      refine one_ (i := 24) (N := some 62) #[Tt,Tt,Tt,Tt,Tt,Tt,Tt,Tt,Tt,Tt,Tt,Tt,Tt,Tt,Tt,Tt,Tt,Tt,Tt,Tt,Tt,Tt,Tt,Tt,Tt,Ff,Ff] rfl rfl (one_of HT_.out (by kernel_rfl)) (by decide) (fun K hK => ?_); refine Kd.R_append_step k54 (w0 := w) w.heap.size (by rfl) (.tmp 39) (.tmp 61) 22 54 (.agg #[(.int .i64 0), (.int .i64 0), (.int .i64 0), (.int .i64 0)]) 32 rfl Try.underlying22 info54 rfl (by decide) (by omega) u396002 x396002_1 (⟨Int.tmod (wrap64 ((rd_T80 l0_2 x9_1).f0)) (wrap64 (2 + (Int.tmod (wrap64 (a0_0)) 4))), Int.tmod (wrap64 ((rd_T80 l0_2 x9_1).f1)) (wrap64 (2 + (Int.tmod (wrap64 (a0_0)) 4))), Int.tmod (wrap64 ((rd_T80 l0_2 x9_1).f2)) 6, Int.tmod (wrap64 ((rd_T80 l0_2 x9_1).f3)) 4⟩ : S54) [.int .i64 (Int.tmod (wrap64 ((rd_T80 l0_2 x9_1).f0)) (wrap64 (2 + (Int.tmod (wrap64 (a0_0)) 4)))), .int .i64 (Int.tmod (wrap64 ((rd_T80 l0_2 x9_1).f1)) (wrap64 (2 + (Int.tmod (wrap64 (a0_0)) 4)))), .int .i64 (Int.tmod (wrap64 ((rd_T80 l0_2 x9_1).f2)) 6), .int .i64 (Int.tmod (wrap64 ((rd_T80 l0_2 x9_1).f3)) 4)] (fun _ => True) (fun _ => False) rfl rfl ?aP (fun _ hk => hk.elim) ?aF ?aO ?aB ?aS ?aL ?_
      (case aP => exact k54_mkM _ _ _ (⟨Int.tmod (wrap64 ((rd_T80 l0_2 x9_1).f0)) (wrap64 (2 + (Int.tmod (wrap64 (a0_0)) 4))), Int.tmod (wrap64 ((rd_T80 l0_2 x9_1).f1)) (wrap64 (2 + (Int.tmod (wrap64 (a0_0)) 4))), Int.tmod (wrap64 ((rd_T80 l0_2 x9_1).f2)) 6, Int.tmod (wrap64 ((rd_T80 l0_2 x9_1).f3)) 4⟩ : S54))
      (case aB => exact hb_)
      (case aF => exact (fun _ _ => trivial))
      (case aO => exact (rq_ HO_396002.out))
      (case aS => exact (below_size hb_))
      (case aL => have := LMc15.out; omega)
      intro v399 w26 ho hb hg hat; rw [← Ny398.out] at ho; replace BK393 := am_ (bg_ BK393.out hg (Kd.R_ne HO_396002.out BK393.out (by decide))); replace BK394 := am_ (bg_ BK394.out hg (Kd.R_ne HO_396002.out BK394.out (by decide))); replace BK395 := am_ (bg_ BK395.out hg (Kd.R_ne HO_396002.out BK395.out (by decide))); replace BK397 := am_ (bg_ BK397.out hg (Kd.R_ne HO_396002.out BK397.out (by decide))); replace HB := am_ (hb); have HO400 := am_ (ho); clear HO_396002; clear ho hb hg hat; obtain ⟨Ao27, co27, eo27⟩ := Kd.R_slice HO400.out
      (first | subst eo27 | (injection eo27 with f1_ f2_ f3_; have f4_ := f1_.symm; have f5_ := f3_.symm; clear f1_ f2_ f3_; subst f4_; subst f5_))
      refine hK.out _ _ ⟨(blk_cell BK395.out 0).trans rfl, (blk_cell BK395.out 1).trans rfl, (blk_cell BK395.out 2).trans rfl, (blk_cell BK397.out 0).trans rfl, (blk_cell BK397.out 1).trans rfl, (blk_cell BK397.out 2).trans rfl, (blk_cell BK397.out 3).trans rfl⟩ (fun hHeld => ?_); clear hK K; refine norm_ (a' := ?_) ?_ ?_; rotate_left
      ·show Act.put _ (some 62) _ = _
       simp only [Act.put, List.setIfInBounds_toArray, List.set_cons_zero, List.set_cons_succ, i64_w, i32_w]; rfl
      refine pw_ 25 63 ?_; refine last_ (i := 26) (N := none) #[Tt,Tt,Tt,Tt,Tt,Tt,Tt,Tt,Tt,Tt,Tt,Tt,Tt,Tt,Tt,Tt,Tt,Tt,Tt,Tt,Tt,Tt,Tt,Tt,Tt,Tt,Tt] rfl rfl (one_of HT_.out (by kernel_rfl)) (by decide) (fun K hK => ?_); have hs28 : w26.cell? ⟨gb395, 2, none⟩ = some (u396002) := (blk_cell BK395.out 2).trans rfl; have hfs28 := blk_frozen BK395.out 2; have hns28_0 := NB393_395.out; have hns28_1 := NB394_395.out; have hns28_3 := NB397_395.out; have hms28_0 := NB395_393.out; have hms28_1 := NB395_394.out; have hms28_3 := NB395_397.out; refine skip_ (w1 := ?_) (by rfl) rfl ?_ ?_; rotate_left; (· go_simp; rfl); refine hK.out _ _ ?_; clear hK K; refine done_ (done_of HT_.out (by kernel_rfl)) ?_
      try go_wp2
      go_roundg k1
      case measure => have := HK1.out; omega
      case rel => exact ⟨(wrap64 (x9_1 + 1)), (y398), (.slice Ao27 y398.length co27), rs_, H', ⟨by have := HK1.out; omega⟩, ⟨by refine rq_ ?_; exact Kd.R_mono (Kd.R_far (p := ⟨gb395, 2, none⟩) (Kd.R_types HO400.out BK395.out (by decide)) (fun _ hk => hk.2) (.slice Ao27 y398.length co27)) (fun _ hk => trivial)⟩, ⟨by refine bq_ ?_; refine blk_far ?_ NB393_395.out _; refine bq_ ?_; exact BK393.out⟩, ⟨by refine bq_ ?_; refine blk_far ?_ NB394_395.out _; refine bq_ ?_; exact BK394.out⟩, ⟨by refine bq_ ?_; refine blk_put (cs := #[.int .i64 (wrap64 (2 + (Int.tmod (wrap64 (a0_0)) 4))), .bool a0_1, u396002]) ?_ 2 _ rfl; refine bq_ ?_; exact BK395.out⟩, ⟨hb_⟩⟩
    ·rw [if_neg c12] at H
     have c12b0 := decide_eq_false c12; clear c12
     by_cases c29 : (wrap64 (2 + (Int.tmod (wrap64 (a0_0)) 4))) = 0
     ·rw [if_pos c29] at H
      exact absurd H (by simp)
     ·rw [if_neg c29] at H
      obtain ⟨c29b0, c29b1⟩ := neb_ c29
      by_cases c30 : (wrap64 ((wrap64 (2 + (Int.tmod (wrap64 (a0_0)) 4))) - 1)) = 0
      ·rw [if_pos c30] at H
       exact absurd H (by simp)
      ·rw [if_neg c30] at H
       obtain ⟨c30b0, c30b1⟩ := neb_ c30; simp only [Option.some.injEq, Prod.mk.injEq] at H; obtain ⟨rfl, rfl, rfl, rfl, rfl, rfl⟩ := H; have hnb31 := NB393_394.out; have hnc31 := NB394_393.out; have hnb32 := NB393_395.out; have hnc32 := NB395_393.out; obtain ⟨hcz33_0, hcz33_1, hcz33_2, hcz33_3, hcz33_4, hcz33_5, hfz33_0, hfz33_1, hfz33_2, hfz33_3, hfz33_4, hfz33_5⟩ := cf6_ BK393.out; have hnb34 := NB395_394.out; have hnc34 := NB394_395.out; obtain ⟨hcz35_0, hcz35_1, hcz35_2, hfz35_0, hfz35_1, hfz35_2⟩ := cf3_ BK395.out
       try go_wp2
       have hq0_ : wr.cell? ⟨gb393, 0, none⟩ = some (.int .u8 a0_0) := (blk_cell BK393.out 0).trans rfl; have hq1_ : wr.cell? ⟨gb393, 1, none⟩ = some (.bool a0_1) := (blk_cell BK393.out 1).trans rfl; have hq2_ : wr.cell? ⟨gb393, 2, none⟩ = some (.slice A0_2 l0_2.length c0_2) := (blk_cell BK393.out 2).trans rfl; have hq3_ : wr.cell? ⟨gb393, 3, none⟩ = some (.int .u8 a0_3) := (blk_cell BK393.out 3).trans rfl; have hq4_ : wr.cell? ⟨gb393, 4, none⟩ = some (.int .u8 a0_4) := (blk_cell BK393.out 4).trans rfl; have hq5_ : wr.cell? ⟨gb393, 5, none⟩ = some (.int .u8 a0_5) := (blk_cell BK393.out 5).trans rfl; have hq6_ : wr.cell? ⟨gb395, 0, none⟩ = some (.int .i64 (wrap64 (2 + (Int.tmod (wrap64 (a0_0)) 4)))) := (blk_cell BK395.out 0).trans rfl; have hq7_ : wr.cell? ⟨gb395, 1, none⟩ = some (.bool a0_1) := (blk_cell BK395.out 1).trans rfl; have hq8_ : wr.cell? ⟨gb395, 2, none⟩ = some (u396002) := (blk_cell BK395.out 2).trans rfl; go_quiet (fail); replace HO_396002 := am_ (Kd.R_drewN HO_396002.out nq); replace BK393 := am_ (blk_drewN BK393.out nq); replace BK394 := am_ (blk_drewN BK394.out nq); replace BK395 := am_ (blk_drewN BK395.out nq); replace HB := am_ (pw_below_drewN HB.out nq); generalize wr.drewN nq = w36 at HO_396002 BK393 BK394 BK395 HB ⊢
       try go_wp2
       replace HO_396002 := am_ (Kd.R_drew HO_396002.out); replace BK393 := am_ (blk_drew BK393.out); replace BK394 := am_ (blk_drew BK394.out); replace BK395 := am_ (blk_drew BK395.out); replace HB := am_ (below_drew1 HB.out); obtain ⟨Ao40, co40, eo40⟩ := Kd.R_slice HO_396002.out
       (first | subst eo40 | (injection eo40 with f1_ f2_ f3_; have f4_ := f1_.symm; have f5_ := f3_.symm; clear f1_ f2_ f3_; subst f4_; subst f5_))
       refine start_ (n := 11) (S := fun w' => w'.cell? ⟨gb395, 0, none⟩ = some (.int .i64 (wrap64 (2 + (Int.tmod (wrap64 (a0_0)) 4)))) ∧ w'.cell? ⟨gb395, 1, none⟩ = some (.bool a0_1) ∧ w'.cell? ⟨gb395, 2, none⟩ = some (.slice Ao40 x396002_1.length co40) ∧ w'.cell? ⟨gb393, 0, none⟩ = some (.int .u8 a0_0) ∧ w'.cell? ⟨gb393, 1, none⟩ = some (.bool a0_1) ∧ w'.cell? ⟨gb393, 2, none⟩ = some (.slice A0_2 l0_2.length c0_2) ∧ w'.cell? ⟨gb393, 3, none⟩ = some (.int .u8 a0_3) ∧ w'.cell? ⟨gb393, 4, none⟩ = some (.int .u8 a0_4) ∧ w'.cell? ⟨gb393, 5, none⟩ = some (.int .u8 a0_5)) (ds := []) #[Ff,Ff,Ff,Ff,Ff,Ff,Ff,Ff,Ff,Ff,Ff] (by kernel_rfl) rfl rfl ⟨(blk_cell BK395.out 0).trans rfl, (blk_cell BK395.out 1).trans rfl, (blk_cell BK395.out 2).trans rfl, (blk_cell BK393.out 0).trans rfl, (blk_cell BK393.out 1).trans rfl, (blk_cell BK393.out 2).trans rfl, (blk_cell BK393.out 3).trans rfl, (blk_cell BK393.out 4).trans rfl, (blk_cell BK393.out 5).trans rfl⟩ (fun hHeld => ?_); refine with_tabW ebbtidelaw12_Read.tab9 ebbtidelaw12_Read.bits9 (fun HT_ HW_ => ?_); generalize w36.drew = w37 at HO_396002 BK393 BK394 BK395 HB hHeld ⊢; refine pw_ 1 84 ?_; refine pw_ 2 85 ?_; refine pw_ 3 86 ?_; refine tk_ 0 83 ?_; refine tk_ 4 87 ?_; refine pw_ 5 88 ?_; refine pw_ 6 89 ?_; refine one_ (i := 7) (N := none) #[Tt,Tt,Tt,Tt,Tt,Tt,Tt,Tt,Ff,Ff,Ff] rfl rfl (one_of HT_.out (by kernel_rfl)) (by decide) (fun K hK => ?_); have hs38 : w37.cell? ⟨gb394, 0, none⟩ = some (.int .i64 0) := (blk_cell BK394.out 0).trans rfl; have hfs38 := blk_frozen BK394.out 0; have hns38_0 := NB393_394.out; have hns38_2 := NB395_394.out; have hms38_0 := NB394_393.out; have hms38_2 := NB394_395.out; have hs39 : w37.cell? ⟨gb394, 1, none⟩ = some (.bool false) := (blk_cell BK394.out 1).trans rfl; have hfs39 := blk_frozen BK394.out 1; have hns39_0 := NB393_394.out; have hns39_2 := NB395_394.out; have hms39_0 := NB394_393.out; have hms39_2 := NB394_395.out; have hs41 : w37.cell? ⟨gb394, 2, none⟩ = some (.slice none 0 0) := (blk_cell BK394.out 2).trans rfl; have hfs41 := blk_frozen BK394.out 2; have hns41_0 := NB393_394.out; have hns41_2 := NB395_394.out; have hms41_0 := NB394_393.out; have hms41_2 := NB394_395.out; refine skip_ (w1 := ?_) (by rfl) rfl ?_ ?_; rotate_left; (· go_simp; rfl); refine hK.out _ _ ⟨((cell_far (p := ⟨gb394, _, none⟩) NB395_394.out _).trans (((cell_far (p := ⟨gb394, _, none⟩) NB395_394.out _).trans (((cell_far (p := ⟨gb394, _, none⟩) NB395_394.out _).trans (hHeld.1)))))), ((cell_far (p := ⟨gb394, _, none⟩) NB395_394.out _).trans (((cell_far (p := ⟨gb394, _, none⟩) NB395_394.out _).trans (((cell_far (p := ⟨gb394, _, none⟩) NB395_394.out _).trans (hHeld.2.1)))))), ((cell_far (p := ⟨gb394, _, none⟩) NB395_394.out _).trans (((cell_far (p := ⟨gb394, _, none⟩) NB395_394.out _).trans (((cell_far (p := ⟨gb394, _, none⟩) NB395_394.out _).trans (hHeld.2.2.1)))))), ((cell_far (p := ⟨gb394, _, none⟩) NB393_394.out _).trans (((cell_far (p := ⟨gb394, _, none⟩) NB393_394.out _).trans (((cell_far (p := ⟨gb394, _, none⟩) NB393_394.out _).trans (hHeld.2.2.2.1)))))), ((cell_far (p := ⟨gb394, _, none⟩) NB393_394.out _).trans (((cell_far (p := ⟨gb394, _, none⟩) NB393_394.out _).trans (((cell_far (p := ⟨gb394, _, none⟩) NB393_394.out _).trans (hHeld.2.2.2.2.1)))))), ((cell_far (p := ⟨gb394, _, none⟩) NB393_394.out _).trans (((cell_far (p := ⟨gb394, _, none⟩) NB393_394.out _).trans (((cell_far (p := ⟨gb394, _, none⟩) NB393_394.out _).trans (hHeld.2.2.2.2.2.1)))))), ((cell_far (p := ⟨gb394, _, none⟩) NB393_394.out _).trans (((cell_far (p := ⟨gb394, _, none⟩) NB393_394.out _).trans (((cell_far (p := ⟨gb394, _, none⟩) NB393_394.out _).trans (hHeld.2.2.2.2.2.2.1)))))), ((cell_far (p := ⟨gb394, _, none⟩) NB393_394.out _).trans (((cell_far (p := ⟨gb394, _, none⟩) NB393_394.out _).trans (((cell_far (p := ⟨gb394, _, none⟩) NB393_394.out _).trans (hHeld.2.2.2.2.2.2.2.1)))))), ((cell_far (p := ⟨gb394, _, none⟩) NB393_394.out _).trans (((cell_far (p := ⟨gb394, _, none⟩) NB393_394.out _).trans (((cell_far (p := ⟨gb394, _, none⟩) NB393_394.out _).trans (hHeld.2.2.2.2.2.2.2.2))))))⟩ (fun hHeld => ?_); clear hK K; refine pw_ 8 5 ?_; refine pw_ 9 6 ?_; refine pw_ 10 7 ?_; refine done_ (done_of HT_.out (by kernel_rfl)) ?_
       try go_wp2
       refine bodyPost_ret (results_list (rs := [.cell 4 24, .tmp 5, .tmp 6, .tmp 7]) rfl (by simp) (.cell gb394 24 #[.int .i64 (wrap64 (2 + (Int.tmod (wrap64 (a0_0)) 4))), .bool a0_1, .slice Ao40 x396002_1.length co40] (0, 0) _ rfl q14_ Try.underlying24 rfl (by kernel_rfl) (.tmp (.tmp (.tmp .nil))))) rfl ?_; exact ⟨_, er_, by refine rq_ ?_; exact Kd.R_mono (rf3_ (Kd.R_types HO_396002.out BK394.out (by decide))) (fun _ hk => trivial), hb_⟩
   ·rw [if_neg c11] at H
    have c11b0 := decide_eq_false c11; clear c11
    by_cases c42 : (wrap64 (2 + (Int.tmod (wrap64 (a0_0)) 4))) = 0
    ·rw [if_pos c42] at H
     exact absurd H (by simp)
    ·rw [if_neg c42] at H
     obtain ⟨c42b0, c42b1⟩ := neb_ c42
     by_cases c43 : (wrap64 ((wrap64 (2 + (Int.tmod (wrap64 (a0_0)) 4))) - 1)) = 0
     ·rw [if_pos c43] at H
      exact absurd H (by simp)
     ·rw [if_neg c43] at H
      obtain ⟨c43b0, c43b1⟩ := neb_ c43; simp only [Option.some.injEq, Prod.mk.injEq] at H; obtain ⟨rfl, rfl, rfl, rfl, rfl, rfl⟩ := H; have hnb44 := NB393_394.out; have hnc44 := NB394_393.out; have hnb45 := NB393_395.out; have hnc45 := NB395_393.out; obtain ⟨hcz46_0, hcz46_1, hcz46_2, hcz46_3, hcz46_4, hcz46_5, hfz46_0, hfz46_1, hfz46_2, hfz46_3, hfz46_4, hfz46_5⟩ := cf6_ BK393.out; have hnb47 := NB395_394.out; have hnc47 := NB394_395.out; obtain ⟨hcz48_0, hcz48_1, hcz48_2, hfz48_0, hfz48_1, hfz48_2⟩ := cf3_ BK395.out
      try go_wp2
      have hq0_ : wr.cell? ⟨gb393, 0, none⟩ = some (.int .u8 a0_0) := (blk_cell BK393.out 0).trans rfl; have hq1_ : wr.cell? ⟨gb393, 1, none⟩ = some (.bool a0_1) := (blk_cell BK393.out 1).trans rfl; have hq2_ : wr.cell? ⟨gb393, 2, none⟩ = some (.slice A0_2 l0_2.length c0_2) := (blk_cell BK393.out 2).trans rfl; have hq3_ : wr.cell? ⟨gb393, 3, none⟩ = some (.int .u8 a0_3) := (blk_cell BK393.out 3).trans rfl; have hq4_ : wr.cell? ⟨gb393, 4, none⟩ = some (.int .u8 a0_4) := (blk_cell BK393.out 4).trans rfl; have hq5_ : wr.cell? ⟨gb393, 5, none⟩ = some (.int .u8 a0_5) := (blk_cell BK393.out 5).trans rfl; have hq6_ : wr.cell? ⟨gb395, 0, none⟩ = some (.int .i64 (wrap64 (2 + (Int.tmod (wrap64 (a0_0)) 4)))) := (blk_cell BK395.out 0).trans rfl; have hq7_ : wr.cell? ⟨gb395, 1, none⟩ = some (.bool a0_1) := (blk_cell BK395.out 1).trans rfl; have hq8_ : wr.cell? ⟨gb395, 2, none⟩ = some (u396002) := (blk_cell BK395.out 2).trans rfl; go_quiet (fail); replace HO_396002 := am_ (Kd.R_drewN HO_396002.out nq); replace BK393 := am_ (blk_drewN BK393.out nq); replace BK394 := am_ (blk_drewN BK394.out nq); replace BK395 := am_ (blk_drewN BK395.out nq); replace HB := am_ (pw_below_drewN HB.out nq); generalize wr.drewN nq = w49 at HO_396002 BK393 BK394 BK395 HB ⊢
      try go_wp2
      replace HO_396002 := am_ (Kd.R_drew HO_396002.out); replace BK393 := am_ (blk_drew BK393.out); replace BK394 := am_ (blk_drew BK394.out); replace BK395 := am_ (blk_drew BK395.out); replace HB := am_ (below_drew1 HB.out); obtain ⟨Ao53, co53, eo53⟩ := Kd.R_slice HO_396002.out
      (first | subst eo53 | (injection eo53 with f1_ f2_ f3_; have f4_ := f1_.symm; have f5_ := f3_.symm; clear f1_ f2_ f3_; subst f4_; subst f5_))
      refine start_ (n := 11) (S := fun w' => w'.cell? ⟨gb395, 0, none⟩ = some (.int .i64 (wrap64 (2 + (Int.tmod (wrap64 (a0_0)) 4)))) ∧ w'.cell? ⟨gb395, 1, none⟩ = some (.bool a0_1) ∧ w'.cell? ⟨gb395, 2, none⟩ = some (.slice Ao53 x396002_1.length co53) ∧ w'.cell? ⟨gb393, 0, none⟩ = some (.int .u8 a0_0) ∧ w'.cell? ⟨gb393, 1, none⟩ = some (.bool a0_1) ∧ w'.cell? ⟨gb393, 2, none⟩ = some (.slice A0_2 l0_2.length c0_2) ∧ w'.cell? ⟨gb393, 3, none⟩ = some (.int .u8 a0_3) ∧ w'.cell? ⟨gb393, 4, none⟩ = some (.int .u8 a0_4) ∧ w'.cell? ⟨gb393, 5, none⟩ = some (.int .u8 a0_5)) (ds := []) #[Ff,Ff,Ff,Ff,Ff,Ff,Ff,Ff,Ff,Ff,Ff] (by kernel_rfl) rfl rfl ⟨(blk_cell BK395.out 0).trans rfl, (blk_cell BK395.out 1).trans rfl, (blk_cell BK395.out 2).trans rfl, (blk_cell BK393.out 0).trans rfl, (blk_cell BK393.out 1).trans rfl, (blk_cell BK393.out 2).trans rfl, (blk_cell BK393.out 3).trans rfl, (blk_cell BK393.out 4).trans rfl, (blk_cell BK393.out 5).trans rfl⟩ (fun hHeld => ?_); refine with_tabW ebbtidelaw12_Read.tab9 ebbtidelaw12_Read.bits9 (fun HT_ HW_ => ?_); generalize w49.drew = w50 at HO_396002 BK393 BK394 BK395 HB hHeld ⊢; refine pw_ 1 84 ?_; refine pw_ 2 85 ?_; refine pw_ 3 86 ?_; refine tk_ 0 83 ?_; refine tk_ 4 87 ?_; refine pw_ 5 88 ?_; refine pw_ 6 89 ?_; refine one_ (i := 7) (N := none) #[Tt,Tt,Tt,Tt,Tt,Tt,Tt,Tt,Ff,Ff,Ff] rfl rfl (one_of HT_.out (by kernel_rfl)) (by decide) (fun K hK => ?_); have hs51 : w50.cell? ⟨gb394, 0, none⟩ = some (.int .i64 0) := (blk_cell BK394.out 0).trans rfl; have hfs51 := blk_frozen BK394.out 0; have hns51_0 := NB393_394.out; have hns51_2 := NB395_394.out; have hms51_0 := NB394_393.out; have hms51_2 := NB394_395.out; have hs52 : w50.cell? ⟨gb394, 1, none⟩ = some (.bool false) := (blk_cell BK394.out 1).trans rfl; have hfs52 := blk_frozen BK394.out 1; have hns52_0 := NB393_394.out; have hns52_2 := NB395_394.out; have hms52_0 := NB394_393.out; have hms52_2 := NB394_395.out; have hs54 : w50.cell? ⟨gb394, 2, none⟩ = some (.slice none 0 0) := (blk_cell BK394.out 2).trans rfl; have hfs54 := blk_frozen BK394.out 2; have hns54_0 := NB393_394.out; have hns54_2 := NB395_394.out; have hms54_0 := NB394_393.out; have hms54_2 := NB394_395.out; refine skip_ (w1 := ?_) (by rfl) rfl ?_ ?_; rotate_left; (· go_simp; rfl); refine hK.out _ _ ⟨((cell_far (p := ⟨gb394, _, none⟩) NB395_394.out _).trans (((cell_far (p := ⟨gb394, _, none⟩) NB395_394.out _).trans (((cell_far (p := ⟨gb394, _, none⟩) NB395_394.out _).trans (hHeld.1)))))), ((cell_far (p := ⟨gb394, _, none⟩) NB395_394.out _).trans (((cell_far (p := ⟨gb394, _, none⟩) NB395_394.out _).trans (((cell_far (p := ⟨gb394, _, none⟩) NB395_394.out _).trans (hHeld.2.1)))))), ((cell_far (p := ⟨gb394, _, none⟩) NB395_394.out _).trans (((cell_far (p := ⟨gb394, _, none⟩) NB395_394.out _).trans (((cell_far (p := ⟨gb394, _, none⟩) NB395_394.out _).trans (hHeld.2.2.1)))))), ((cell_far (p := ⟨gb394, _, none⟩) NB393_394.out _).trans (((cell_far (p := ⟨gb394, _, none⟩) NB393_394.out _).trans (((cell_far (p := ⟨gb394, _, none⟩) NB393_394.out _).trans (hHeld.2.2.2.1)))))), ((cell_far (p := ⟨gb394, _, none⟩) NB393_394.out _).trans (((cell_far (p := ⟨gb394, _, none⟩) NB393_394.out _).trans (((cell_far (p := ⟨gb394, _, none⟩) NB393_394.out _).trans (hHeld.2.2.2.2.1)))))), ((cell_far (p := ⟨gb394, _, none⟩) NB393_394.out _).trans (((cell_far (p := ⟨gb394, _, none⟩) NB393_394.out _).trans (((cell_far (p := ⟨gb394, _, none⟩) NB393_394.out _).trans (hHeld.2.2.2.2.2.1)))))), ((cell_far (p := ⟨gb394, _, none⟩) NB393_394.out _).trans (((cell_far (p := ⟨gb394, _, none⟩) NB393_394.out _).trans (((cell_far (p := ⟨gb394, _, none⟩) NB393_394.out _).trans (hHeld.2.2.2.2.2.2.1)))))), ((cell_far (p := ⟨gb394, _, none⟩) NB393_394.out _).trans (((cell_far (p := ⟨gb394, _, none⟩) NB393_394.out _).trans (((cell_far (p := ⟨gb394, _, none⟩) NB393_394.out _).trans (hHeld.2.2.2.2.2.2.2.1)))))), ((cell_far (p := ⟨gb394, _, none⟩) NB393_394.out _).trans (((cell_far (p := ⟨gb394, _, none⟩) NB393_394.out _).trans (((cell_far (p := ⟨gb394, _, none⟩) NB393_394.out _).trans (hHeld.2.2.2.2.2.2.2.2))))))⟩ (fun hHeld => ?_); clear hK K; refine pw_ 8 5 ?_; refine pw_ 9 6 ?_; refine pw_ 10 7 ?_; refine done_ (done_of HT_.out (by kernel_rfl)) ?_
      try go_wp2
      refine bodyPost_ret (results_list (rs := [.cell 4 24, .tmp 5, .tmp 6, .tmp 7]) rfl (by simp) (.cell gb394 24 #[.int .i64 (wrap64 (2 + (Int.tmod (wrap64 (a0_0)) 4))), .bool a0_1, .slice Ao53 x396002_1.length co53] (0, 0) _ rfl q14_ Try.underlying24 rfl (by kernel_rfl) (.tmp (.tmp (.tmp .nil))))) rfl ?_; exact ⟨_, er_, by refine rq_ ?_; exact Kd.R_mono (rf3_ (Kd.R_types HO_396002.out BK394.out (by decide))) (fun _ hk => trivial), hb_⟩
def ebbtidelaw14_Read.l0 : Nat → Int → Int → Int → List (S85) → Int → Int → Bool → List (S80) → Int → Int → Int → List (S96) → Int → Bool → List (S54) → Option (Int × Bool × (List (S54)) × Int × Int × Int × (List (S85)))
 | 0, _, _, _, _, _, _, _, _, _, _, _, _, _, _, _ => none
 | k + 1, x8, x9, x10, x11, x12, x662000, x662001, x662002, x662003, x662004, x662005, x662006, x672000, x672001, x672002 => if x12 < (x662006.length : Int) then (if x12 < 30 then (if (x672002.length : Int) > 0 then (if 0 ≤ x12 then (if (x672002.length : Int) = 0 then (none) else (if (wrap64 (x10 + 1)) = 0 then (none) else (if x11.length < 5864062014805 then (ebbtidelaw14_Read.l0 k x8 x9 x10 (x11 ++ [(⟨Int.tmod (wrap64 ((rd_T96 x662006 x12).f0)) (x672002.length : Int), Int.tmod (wrap64 ((rd_T96 x662006 x12).f1)) (wrap64 (x10 + 1)), Int.tmod (wrap64 ((rd_T96 x662006 x12).f2)) 4⟩ : S85)]) (wrap64 (x12 + 1)) x662000 x662001 x662002 x662003 x662004 x662005 x662006 x672000 x672001 x672002) else (none)))) else (none)) else (some (x672000, x672001, x672002, x8, x9, x10, x11))) else (some (x672000, x672001, x672002, x8, x9, x10, x11))) else (some (x672000, x672001, x672002, x8, x9, x10, x11))
def ebbtidelaw14_Read.f (k : Nat) (a0_0 : Int) (a0_1 : Bool) (l0_2 : List (S80)) (a0_3 : Int) (a0_4 : Int) (a0_5 : Int) (l0_6 : List (S96)) : Option (Int × Bool × (List (S54)) × Int × Int × Int × (List (S85))) := (ebbtidelaw12_Read.f k a0_0 a0_1 l0_2 a0_3 a0_4 a0_5 8).bind fun bt663 => (ebbtidelaw14_Read.l0 k bt663.2.2.2.1 bt663.2.2.2.2.1 bt663.2.2.2.2.2 ([] : List (S85)) 0 a0_0 a0_1 l0_2 a0_3 a0_4 a0_5 l0_6 bt663.1 bt663.2.1 bt663.2.2.1)
def ebbtidelaw14_Read.T6 : Bool × List (List Nat × List Nat) := (true, [([], []), ([], []), ([1], [1]), ([], []), ([2, 3], [2, 3]), ([4], [4]), ([5], [5]), ([6], [6]), ([], []), ([8], [8]), ([9], [9]), ([7, 10], [7, 10]), ([], []), ([12], [12]), ([], []), ([13, 14], [13, 14]), ([15], [15]), ([16], [16]), ([17], [17]), ([], []), ([19], [19]), ([18, 20], [18, 20]), ([], []), ([22], [22]), ([], []), ([23, 24], [23, 24]), ([25], [25]), ([26], [26]), ([27], [27]), ([28], [28]), ([11, 21, 29], [11, 21, 29]), ([30], [30]), ([0, 31], [0, 31]), ([32, 32, 0, 1, 2, 3, 4, 5, 6, 7, 8, 9, 10, 11, 12, 13, 14, 15, 16, 17, 18, 19, 20, 21, 22, 23, 24, 25, 26, 27, 28, 29, 30, 31, 32], [0, 32])])
def ebbtidelaw14_Read.B6 : List Nat := [0, 0, 2, 0, 14, 30, 62, 126, 0, 256, 768, 2046, 0, 4096, 0, 28672, 61440, 126976, 258048, 0, 524288, 2093056, 0, 4194304, 0, 29360128, 62914560, 130023424, 264241152, 532676608, 1073741822, 2147483646, 4294967295, 8589934591]
theorem ebbtidelaw14_Read.tab6 : rtab .any (opsOf Try.f27 6) = ebbtidelaw14_Read.T6 := by kernel_rfl
theorem ebbtidelaw14_Read.bits6 : waitsOk ebbtidelaw14_Read.T6.2 ebbtidelaw14_Read.B6 = true := by kernel_rfl
set_option maxHeartbeats 8000000 in
set_option maxRecDepth 100000 in
theorem ebbtidelaw14_Read.calls (k : Nat) (a0_0 : Int) (a0_1 : Bool) (A0_2 : Option Addr) (c0_2 : Nat) (l0_2 : List (S80)) (a0_3 : Int) (a0_4 : Int) (a0_5 : Int) (A0_6 : Option Addr) (c0_6 : Nat) (l0_6 : List (S96)) (r1 : Int) (r2 : Bool) (r3 : List (S54)) (r4 : Int) (r5 : Int) (r6 : Int) (r7 : List (S85)) (w : World) (hr0_2 : Kd.C k80 w A0_2 l0_2.length l0_2) (hc0_2 : l0_2.length ≤ c0_2) (hr0_6 : Kd.C k96 w A0_6 l0_6.length l0_6) (hc0_6 : l0_6.length ≤ c0_6) (h : ebbtidelaw14_Read.f k a0_0 a0_1 l0_2 a0_3 a0_4 a0_5 l0_6 = some (r1, r2, r3, r4, r5, r6, r7)) :
  Calls Try.prog 27 #[.agg #[.int .u8 a0_0, .bool a0_1, .slice A0_2 l0_2.length c0_2, .int .u8 a0_3, .int .u8 a0_4, .int .u8 a0_5, .slice A0_6 l0_6.length c0_6]] w fun e w' => ∃ v2_ v6_ : Value, e = .returned (.tuple #[.agg #[.int .i64 r1, .bool r2, v2_], .int .i64 r4, .int .i64 r5, .int .i64 r6, v6_]) ∧ Kd.R k54 54 w' w.heap.size (fun _ => True) v2_ r3 ∧ Kd.R k85 85 w' w.heap.size (fun _ => True) v6_ r7 ∧ Below w.heap.size w w' := by
 have hu60 := Try.underlying60; have hu24 := Try.underlying24; have hu41 := Try.underlying41; have hu85 := Try.underlying85; have HR0_2 := am_ hr0_2; have HC0_2 := am_ hc0_2; clear hr0_2 hc0_2; have HR0_6 := am_ hr0_6; have HC0_6 := am_ hc0_6; clear hr0_6 hc0_6; have HB := am_ (Below.refl w.heap.size w); have H : ((ebbtidelaw12_Read.f k a0_0 a0_1 l0_2 a0_3 a0_4 a0_5 8).bind fun bt663 => (ebbtidelaw14_Read.l0 k bt663.2.2.2.1 bt663.2.2.2.2.1 bt663.2.2.2.2.2 ([] : List (S85)) 0 a0_0 a0_1 l0_2 a0_3 a0_4 a0_5 l0_6 bt663.1 bt663.2.1 bt663.2.2.1)) = some (r1, r2, r3, r4, r5, r6, r7) := h; clear h; replace H := Option.bind_eq_some_iff.mp H; obtain ⟨⟨t663, t664, t665, t668, t669, t670⟩, A20, H⟩ := H; replace H : (ebbtidelaw14_Read.l0 k t668 t669 t670 ([] : List (S85)) 0 a0_0 a0_1 l0_2 a0_3 a0_4 a0_5 l0_6 t663 t664 t665) = some (r1, r2, r3, r4, r5, r6, r7) := H; have A2 := am_ A20; clear A20; have H' := am_ H; clear H
 go_enter Try.func27, Try.ntmps27
 go_wp2_with (first | ((with_reducible refine gate_dst (N := 1) rfl ?_); (try (refine gate_guard (by rfl) ?_; dsimp only)); refine bx_ 1 #[.int .u8 a0_0, .bool a0_1, .slice A0_2 l0_2.length c0_2, .int .u8 a0_3, .int .u8 a0_4, .int .u8 a0_5, .slice A0_6 l0_6.length c0_6] 60 ?_; intro gb661 hg w3 BK661 hb; have GE661 := ge_ (w := w) hg; replace HB := hst_ hb; clear hb hg) | ((with_reducible refine gate_dst (N := 2) rfl ?_); (try (refine gate_guard (by rfl) ?_; dsimp only)); refine bx_ 2 #[.int .i64 0, .bool false, .slice none 0 0] 24 ?_; intro gb662 hg w4 BK662 hb; have GE662 := ge_ (w := w) hg; replace HB := hst_ hb; have NB661_662 := am_ (nl_ BK661.out hg); have NB662_661 := am_ (ng_ BK661.out hg); replace BK661 := am_ (bb_ BK661.out hb); clear hb hg; have hnb5 := NB661_662.out; have hnc5 := NB662_661.out; obtain ⟨hcz6_0, hcz6_1, hcz6_2, hcz6_3, hcz6_4, hcz6_5, hcz6_6, hfz6_0, hfz6_1, hfz6_2, hfz6_3, hfz6_4, hfz6_5, hfz6_6⟩ := cf7_ BK661.out) | ((with_reducible refine gate_callee (f := 20) rfl ?_); refine cl_ 16 Try.func20 (ebbtidelaw12_Read.calls k a0_0 a0_1 _ _ l0_2 a0_3 a0_4 a0_5 8 t663 t664 t665 t668 t669 t670 _ (cb_ HR0_2.out) HC0_2.out A2.out) ?_; rintro e w7 ⟨v666, rfl, ho0, hb⟩; refine ⟨_, rfl, ?_⟩; have HO667 := am_ (Kd.R_lower ho0 (below_size hb_)); replace BK661 := am_ (bb_ BK661.out hb); replace BK662 := am_ (bb_ BK662.out hb); replace HB := hst_ hb; (try clear hb); (try clear hb2); (try clear hk); (try clear hi); (try clear ho0)) | ((with_reducible refine gate_dst (N := 7) rfl ?_); (try (refine gate_guard (by rfl) ?_; dsimp only)); refine bx_ 7 #[.int .i64 0, .bool false, .slice none 0 0] 24 ?_; intro gb671 hg w8 BK671 hb; replace HO667 := am_ (Kd.R_below (rq_ HO667.out) hb); have GE671 := ge_ (w := w) hg; replace HB := hst_ hb; have NB661_671 := am_ (nl_ BK661.out hg); have NB671_661 := am_ (ng_ BK661.out hg); replace BK661 := am_ (bb_ BK661.out hb); have NB662_671 := am_ (nl_ BK662.out hg); have NB671_662 := am_ (ng_ BK662.out hg); replace BK662 := am_ (bb_ BK662.out hb); clear hb hg; have hnb9 := NB671_661.out; have hnc9 := NB661_671.out; have hnb10 := NB671_662.out; have hnc10 := NB662_671.out; obtain ⟨hcz11_0, hcz11_1, hcz11_2, hfz11_0, hfz11_1, hfz11_2⟩ := cf3_ BK671.out; obtain ⟨Ao12, co12, eo12⟩ := Kd.R_slice HO667.out; subst eo12))
 go_loopg [11, 12] k (fun kq v11 v12 w' => ∃ (x11_1 : List (S85)) (x12_1 : Int), v12 = .int .i64 x12_1 ∧ Aside0 (ebbtidelaw14_Read.l0 kq t668 t669 t670 x11_1 x12_1 a0_0 a0_1 l0_2 a0_3 a0_4 a0_5 l0_6 t663 t664 t665 = some (r1, r2, r3, r4, r5, r6, r7)) ∧ Aside0 (kq ≤ k) ∧ Aside0 (Kd.R k85 85 w' w.heap.size (fun _ => True) v11 x11_1) ∧ Aside0 (Kd.R k54 54 w' w.heap.size (fun _ => True) (.slice Ao12 t665.length co12) t665) ∧ Aside0 (w'.heap[gb661]? = some (.cells #[.int .u8 a0_0, .bool a0_1, (.slice A0_2 l0_2.length c0_2), .int .u8 a0_3, .int .u8 a0_4, .int .u8 a0_5, (.slice A0_6 l0_6.length c0_6)] 60 (0, 0))) ∧ Aside0 (w'.heap[gb662]? = some (.cells #[.int .i64 0, .bool false, (.slice none 0 0)] 24 (0, 0))) ∧ Aside0 (w'.heap[gb671]? = some (.cells #[.int .i64 t663, .bool t664, (.slice Ao12 t665.length co12)] 24 (0, 0))) ∧ Aside0 (Below w.heap.size w w'))
 case atStart => exact ⟨(([] : List (S85))), (0), rs_, H', ⟨Nat.le_refl _⟩, ⟨ni_⟩, ⟨by refine rq_ ?_; exact Kd.R_mono (rf3_ (Kd.R_types HO667.out BK671.out (by decide))) (fun _ hk => trivial)⟩, ⟨by refine bq_ ?_; refine blk_far ?_ NB661_671.out _; refine bq_ ?_; refine blk_far ?_ NB661_671.out _; refine bq_ ?_; refine blk_far ?_ NB661_671.out _; refine bq_ ?_; exact BK661.out⟩, ⟨by refine bq_ ?_; refine blk_far ?_ NB662_671.out _; refine bq_ ?_; refine blk_far ?_ NB662_671.out _; refine bq_ ?_; refine blk_far ?_ NB662_671.out _; refine bq_ ?_; exact BK662.out⟩, ⟨by refine bq_ ?_; refine blk_put (cs := #[.int .i64 t663, .bool t664, .slice none 0 0]) ?_ 2 _ rfl; refine bq_ ?_; refine blk_put (cs := #[.int .i64 t663, .bool false, .slice none 0 0]) ?_ 1 _ rfl; refine bq_ ?_; refine blk_put (cs := #[.int .i64 0, .bool false, .slice none 0 0]) ?_ 0 _ rfl; refine bq_ ?_; exact BK671.out⟩, ⟨hb_⟩⟩
 case round =>
  clear H'
  try clear c1
  try clear c2
  try clear p2
  try clear c5
  try clear c9
  try clear c10
  try clear hcz11_0 hcz11_1 hcz11_2
  try clear hcz6_0 hcz6_1 hcz6_2 hcz6_3 hcz6_4 hcz6_5 hcz6_6
  try clear hfz11_0 hfz11_1 hfz11_2
  try clear hfz6_0 hfz6_1 hfz6_2 hfz6_3 hfz6_4 hfz6_5 hfz6_6
  obtain ⟨x11_1, x12_1, rfl, HA, HK1, HO_11, HO_672002, BK661, BK662, BK671, HB⟩ := hrel
  cases gk with
  | zero => exact absurd HA.out (by simp [ebbtidelaw14_Read.l0])
  | succ k1 =>
   have H := HA.out; clear HA; simp only [ebbtidelaw14_Read.l0] at H
   by_cases c13 : x12_1 < (l0_6.length : Int)
   ·rw [if_pos c13] at H
    have c13b0 := decide_eq_true c13; clear c13
    by_cases c14 : x12_1 < 30
    ·rw [if_pos c14] at H
     have c14b0 := decide_eq_true c14; clear c14
     by_cases c15 : (t665.length : Int) > 0
     ·rw [if_pos c15] at H
      have c15b0 := decide_eq_true c15; have c15b1 : decide (0 < t665.length) = true := decide_eq_true (by omega); clear c15
      replace H := ifn_ H; obtain ⟨c16, H⟩ := H
      have c16b0 := decide_eq_true c16; clear c16
      by_cases c17 : (t665.length : Int) = 0
      ·rw [if_pos c17] at H
       exact absurd H (by simp)
      ·rw [if_neg c17] at H
       obtain ⟨c17b0, c17b1⟩ := neb_ c17
       have c17b2 : ¬ (t665 = []) := fun h_ => c17 (by rw [h_]; rfl)
       by_cases c18 : (wrap64 (t670 + 1)) = 0
       ·rw [if_pos c18] at H
        exact absurd H (by simp)
       ·rw [if_neg c18] at H
        obtain ⟨c18b0, c18b1⟩ := neb_ c18
        replace H := ifn_ H; obtain ⟨c19, H⟩ := H
        have LMc19 := am_ c19; clear c19; obtain ⟨y675, hy_⟩ : ∃ y_ : List (S85), y_ = (x11_1 ++ [(⟨Int.tmod (wrap64 ((rd_T96 l0_6 x12_1).f0)) (t665.length : Int), Int.tmod (wrap64 ((rd_T96 l0_6 x12_1).f1)) (wrap64 (t670 + 1)), Int.tmod (wrap64 ((rd_T96 l0_6 x12_1).f2)) 4⟩ : S85)]) := ⟨_, rfl⟩
        replace H : (ebbtidelaw14_Read.l0 k1 t668 t669 t670 y675 (wrap64 (x12_1 + 1)) a0_0 a0_1 l0_2 a0_3 a0_4 a0_5 l0_6 t663 t664 t665) = some (r1, r2, r3, r4, r5, r6, r7) := hyH_
        have Ny675 := am_ hy_; clear hy_; have H' := am_ H; clear H; have hnb20 := NB661_662.out; have hnc20 := NB662_661.out; have hnb21 := NB661_671.out; have hnc21 := NB671_661.out; obtain ⟨hcz22_0, hcz22_1, hcz22_2, hcz22_3, hcz22_4, hcz22_5, hcz22_6, hfz22_0, hfz22_1, hfz22_2, hfz22_3, hfz22_4, hfz22_5, hfz22_6⟩ := cf7_ BK661.out; have hnb23 := NB671_662.out; have hnc23 := NB662_671.out; obtain ⟨hcz24_0, hcz24_1, hcz24_2, hfz24_0, hfz24_1, hfz24_2⟩ := cf3_ BK671.out
        try go_wp2
        replace HO_11 := am_ (Kd.R_drew HO_11.out); replace HO_672002 := am_ (Kd.R_drew HO_672002.out); replace BK661 := am_ (blk_drew BK661.out); replace BK662 := am_ (blk_drew BK662.out); replace BK671 := am_ (blk_drew BK671.out); replace HB := am_ (below_drew1 HB.out); have p672 : 0 ≤ (x12_1 : Int) := of_decide_eq_true sm_; have q672 : x12_1 < (l0_6.length : Int) := of_decide_eq_true sm_; obtain ⟨ad672, e672, hx672_0, hx672_1, hx672_2⟩ := at_T96 HR0_6.out x12_1 p672 q672; have hw672_2 := hx672_2; have hw672_1 := hx672_1; have hw672_0 := hx672_0; cases e672; replace hx672_0 := (HB.out.cell (World.block_lt_of_cell? w _ hx672_0)).trans hx672_0; replace hx672_1 := (HB.out.cell (World.block_lt_of_cell? w _ hx672_1)).trans hx672_1; replace hx672_2 := (HB.out.cell (World.block_lt_of_cell? w _ hx672_2)).trans hx672_2; replace p672 := eq_true p672; replace q672 := eq_true q672; have p673 : 0 ≤ (x12_1 : Int) := of_decide_eq_true sm_; have q673 : x12_1 < (l0_6.length : Int) := of_decide_eq_true sm_; obtain ⟨ad673, e673, hx673_0, hx673_1, hx673_2⟩ := at_T96 HR0_6.out x12_1 p673 q673; have hw673_2 := hx673_2; have hw673_1 := hx673_1; have hw673_0 := hx673_0; obtain rfl : ad672 = ad673 := (by injection e673); replace hx673_0 := (HB.out.cell (World.block_lt_of_cell? w _ hx673_0)).trans hx673_0; replace hx673_1 := (HB.out.cell (World.block_lt_of_cell? w _ hx673_1)).trans hx673_1; replace hx673_2 := (HB.out.cell (World.block_lt_of_cell? w _ hx673_2)).trans hx673_2; replace p673 := eq_true p673; replace q673 := eq_true q673; refine start_ (n := 34) (S := fun w' => w'.cell? ⟨gb661, 0, none⟩ = some (.int .u8 a0_0) ∧ w'.cell? ⟨gb661, 1, none⟩ = some (.bool a0_1) ∧ w'.cell? ⟨gb661, 2, none⟩ = some (.slice A0_2 l0_2.length c0_2) ∧ w'.cell? ⟨gb661, 3, none⟩ = some (.int .u8 a0_3) ∧ w'.cell? ⟨gb661, 4, none⟩ = some (.int .u8 a0_4) ∧ w'.cell? ⟨gb661, 5, none⟩ = some (.int .u8 a0_5) ∧ w'.cell? ⟨gb661, 6, none⟩ = some (.slice (some ad672) l0_6.length c0_6) ∧ w'.cell? ⟨gb671, 0, none⟩ = some (.int .i64 t663) ∧ w'.cell? ⟨gb671, 1, none⟩ = some (.bool t664) ∧ w'.cell? ⟨gb671, 2, none⟩ = some (.slice Ao12 t665.length co12) ∧ w'.cell? (ad672.add ((x12_1).toNat * 3)) = some (.int .u8 ((rd_T96 l0_6 x12_1).f0)) ∧ w'.cell? ⟨(ad672.add ((x12_1).toNat * 3)).block, (ad672.add ((x12_1).toNat * 3)).off + 1, none⟩ = some (.int .u8 ((rd_T96 l0_6 x12_1).f1)) ∧ w'.cell? ⟨(ad672.add ((x12_1).toNat * 3)).block, (ad672.add ((x12_1).toNat * 3)).off + 2, none⟩ = some (.int .u8 ((rd_T96 l0_6 x12_1).f2)) ∧ w'.cell? (ad672.add ((x12_1).toNat * 3)) = some (.int .u8 ((rd_T96 l0_6 x12_1).f0)) ∧ w'.cell? ⟨(ad672.add ((x12_1).toNat * 3)).block, (ad672.add ((x12_1).toNat * 3)).off + 1, none⟩ = some (.int .u8 ((rd_T96 l0_6 x12_1).f1)) ∧ w'.cell? ⟨(ad672.add ((x12_1).toNat * 3)).block, (ad672.add ((x12_1).toNat * 3)).off + 2, none⟩ = some (.int .u8 ((rd_T96 l0_6 x12_1).f2)) ∧ w'.cell? (ad672.add ((x12_1).toNat * 3)) = some (.int .u8 ((rd_T96 l0_6 x12_1).f0)) ∧ w'.cell? ⟨(ad672.add ((x12_1).toNat * 3)).block, (ad672.add ((x12_1).toNat * 3)).off + 1, none⟩ = some (.int .u8 ((rd_T96 l0_6 x12_1).f1)) ∧ w'.cell? ⟨(ad672.add ((x12_1).toNat * 3)).block, (ad672.add ((x12_1).toNat * 3)).off + 2, none⟩ = some (.int .u8 ((rd_T96 l0_6 x12_1).f2))) (ds := []) #[Ff,Ff,Ff,Ff,Ff,Ff,Ff,Ff,Ff,Ff,Ff,Ff,Ff,Ff,Ff,Ff,Ff,Ff,Ff,Ff,Ff,Ff,Ff,Ff,Ff,Ff,Ff,Ff,Ff,Ff,Ff,Ff,Ff,Ff] (by kernel_rfl) rfl rfl ⟨(blk_cell BK661.out 0).trans rfl, (blk_cell BK661.out 1).trans rfl, (blk_cell BK661.out 2).trans rfl, (blk_cell BK661.out 3).trans rfl, (blk_cell BK661.out 4).trans rfl, (blk_cell BK661.out 5).trans rfl, (blk_cell BK661.out 6).trans rfl, (blk_cell BK671.out 0).trans rfl, (blk_cell BK671.out 1).trans rfl, (blk_cell BK671.out 2).trans rfl, ((HB.out.cell (World.block_lt_of_cell? w _ hw672_0)).trans hw672_0), ((HB.out.cell (World.block_lt_of_cell? w _ hw672_1)).trans hw672_1), ((HB.out.cell (World.block_lt_of_cell? w _ hw672_2)).trans hw672_2), ((HB.out.cell (World.block_lt_of_cell? w _ hw673_0)).trans hw673_0), ((HB.out.cell (World.block_lt_of_cell? w _ hw673_1)).trans hw673_1), ((HB.out.cell (World.block_lt_of_cell? w _ hw673_2)).trans hw673_2), ((HB.out.cell (World.block_lt_of_cell? w _ hw673_0)).trans hw673_0), ((HB.out.cell (World.block_lt_of_cell? w _ hw673_1)).trans hw673_1), ((HB.out.cell (World.block_lt_of_cell? w _ hw673_2)).trans hw673_2)⟩ (fun hHeld => ?_); refine with_tabW ebbtidelaw14_Read.tab6 ebbtidelaw14_Read.bits6 (fun HT_ HW_ => ?_); generalize wr.drew = w25 at HO_11 HO_672002 BK661 BK662 BK671 HB hx672_0 hx672_1 hx672_2 hx673_0 hx673_1 hx673_2 hx673_0 hx673_1 hx673_2 hHeld ⊢; refine pw_ 0 38 ?_; refine pw_ 1 39 ?_; refine pw_ 3 41 ?_; refine pw_ 8 46 ?_; refine pw_ 12 50 ?_; refine pw_ 14 52 ?_; refine pw_ 19 57 ?_; refine pw_ 20 58 ?_; refine pw_ 22 60 ?_; refine pw_ 24 62 ?_; refine tk_ 2 40 ?_; refine pw_ 4 42 ?_; refine pw_ 5 43 ?_; refine tk_ 6 44 ?_; refine pw_ 7 45 ?_; refine tk_ 9 47 ?_; refine pw_ 10 48 ?_; refine pw_ 11 49 ?_; refine tk_ 13 51 ?_; refine pw_ 15 53 ?_; refine pw_ 16 54 ?_; refine tk_ 17 55 ?_; refine pw_ 18 56 ?_; refine pw_ 21 59 ?_; refine tk_ 23 61 ?_; refine pw_ 25 63 ?_; refine pw_ 26 64 ?_; refine tk_ 27 65 ?_; refine pw_ 28 66 ?_; refine pw_ 29 67 ?_; refine pw_ 30 68 ?_; refine one_ (i := 31) (N := some 69) #[Tt,Tt,Tt,Tt,Tt,Tt,Tt,Tt,Tt,Tt,Tt,Tt,Tt,Tt,Tt,Tt,Tt,Tt,Tt,Tt,Tt,Tt,Tt,Tt,Tt,Tt,Tt,Tt,Tt,Tt,Tt,Tt,Ff,Ff] rfl rfl (one_of HT_.out (by kernel_rfl)) (by decide) (fun K hK => ?_); refine value_ (w1 := ?_) (v := ?_) (by rfl) rfl ?_ ?_; rotate_left 2
        ·go_simp
         constructor
         ·rfl
         ·rfl
        refine hK.out _ _ ⟨(blk_cell (blk_alloc BK661.out _) 0).trans rfl, (blk_cell (blk_alloc BK661.out _) 1).trans rfl, (blk_cell (blk_alloc BK661.out _) 2).trans rfl, (blk_cell (blk_alloc BK661.out _) 3).trans rfl, (blk_cell (blk_alloc BK661.out _) 4).trans rfl, (blk_cell (blk_alloc BK661.out _) 5).trans rfl, (blk_cell (blk_alloc BK661.out _) 6).trans rfl, (blk_cell (blk_alloc BK671.out _) 0).trans rfl, (blk_cell (blk_alloc BK671.out _) 1).trans rfl, (blk_cell (blk_alloc BK671.out _) 2).trans rfl, (World.cell?_alloc_lt _ _ _ (World.block_lt_of_cell? _ _ (((HB.out.cell (World.block_lt_of_cell? w _ hw672_0)).trans hw672_0)))).trans (((HB.out.cell (World.block_lt_of_cell? w _ hw672_0)).trans hw672_0)), (World.cell?_alloc_lt _ _ _ (World.block_lt_of_cell? _ _ (((HB.out.cell (World.block_lt_of_cell? w _ hw672_1)).trans hw672_1)))).trans (((HB.out.cell (World.block_lt_of_cell? w _ hw672_1)).trans hw672_1)), (World.cell?_alloc_lt _ _ _ (World.block_lt_of_cell? _ _ (((HB.out.cell (World.block_lt_of_cell? w _ hw672_2)).trans hw672_2)))).trans (((HB.out.cell (World.block_lt_of_cell? w _ hw672_2)).trans hw672_2)), (World.cell?_alloc_lt _ _ _ (World.block_lt_of_cell? _ _ (((HB.out.cell (World.block_lt_of_cell? w _ hw673_0)).trans hw673_0)))).trans (((HB.out.cell (World.block_lt_of_cell? w _ hw673_0)).trans hw673_0)), (World.cell?_alloc_lt _ _ _ (World.block_lt_of_cell? _ _ (((HB.out.cell (World.block_lt_of_cell? w _ hw673_1)).trans hw673_1)))).trans (((HB.out.cell (World.block_lt_of_cell? w _ hw673_1)).trans hw673_1)), (World.cell?_alloc_lt _ _ _ (World.block_lt_of_cell? _ _ (((HB.out.cell (World.block_lt_of_cell? w _ hw673_2)).trans hw673_2)))).trans (((HB.out.cell (World.block_lt_of_cell? w _ hw673_2)).trans hw673_2)), (World.cell?_alloc_lt _ _ _ (World.block_lt_of_cell? _ _ (((HB.out.cell (World.block_lt_of_cell? w _ hw673_0)).trans hw673_0)))).trans (((HB.out.cell (World.block_lt_of_cell? w _ hw673_0)).trans hw673_0)), (World.cell?_alloc_lt _ _ _ (World.block_lt_of_cell? _ _ (((HB.out.cell (World.block_lt_of_cell? w _ hw673_1)).trans hw673_1)))).trans (((HB.out.cell (World.block_lt_of_cell? w _ hw673_1)).trans hw673_1)), (World.cell?_alloc_lt _ _ _ (World.block_lt_of_cell? _ _ (((HB.out.cell (World.block_lt_of_cell? w _ hw673_2)).trans hw673_2)))).trans (((HB.out.cell (World.block_lt_of_cell? w _ hw673_2)).trans hw673_2))⟩ (fun hHeld => ?_); clear hK K; refine norm_ (a' := ?_) ?_ ?_; rotate_left
        ·show Act.put _ (some 69) _ = _
         simp only [Act.put, List.setIfInBounds_toArray, List.set_cons_zero, List.set_cons_succ, i64_w, i32_w]; rfl
        refine one_ (i := 32) (N := some 70) #[Tt,Tt,Tt,Tt,Tt,Tt,Tt,Tt,Tt,Tt,Tt,Tt,Tt,Tt,Tt,Tt,Tt,Tt,Tt,Tt,Tt,Tt,Tt,Tt,Tt,Tt,Tt,Tt,Tt,Tt,Tt,Tt,Tt,Ff] rfl rfl (one_of HT_.out (by kernel_rfl)) (by decide) (fun K hK => ?_); refine Kd.R_append_step k85 (w0 := w) w.heap.size (by rfl) (.tmp 38) (.tmp 69) 45 85 (.agg #[(.int .i64 0), (.int .i64 0), (.int .i64 0)]) 24 rfl Try.underlying45 info85 rfl (by decide) (by omega) u11 x11_1 (⟨Int.tmod (wrap64 ((rd_T96 l0_6 x12_1).f0)) (t665.length : Int), Int.tmod (wrap64 ((rd_T96 l0_6 x12_1).f1)) (wrap64 (t670 + 1)), Int.tmod (wrap64 ((rd_T96 l0_6 x12_1).f2)) 4⟩ : S85) [.int .i64 (Int.tmod (wrap64 ((rd_T96 l0_6 x12_1).f0)) (t665.length : Int)), .int .i64 (Int.tmod (wrap64 ((rd_T96 l0_6 x12_1).f1)) (wrap64 (t670 + 1))), .int .i64 (Int.tmod (wrap64 ((rd_T96 l0_6 x12_1).f2)) 4)] (fun _ => True) (fun _ => False) rfl rfl ?aP (fun _ hk => hk.elim) ?aF ?aO ?aB ?aS ?aL ?_
        (case aP => exact k85_mkM _ _ _ (⟨Int.tmod (wrap64 ((rd_T96 l0_6 x12_1).f0)) (t665.length : Int), Int.tmod (wrap64 ((rd_T96 l0_6 x12_1).f1)) (wrap64 (t670 + 1)), Int.tmod (wrap64 ((rd_T96 l0_6 x12_1).f2)) 4⟩ : S85))
        (case aB => exact hb_)
        (case aF => exact (fun _ _ => trivial))
        (case aO => exact (rq_ HO_11.out))
        (case aS => exact (below_size hb_))
        (case aL => have := LMc19.out; omega)
        intro v676 w26 ho hb hg hat; rw [← Ny675.out] at ho; replace HO_672002 := am_ (Kd.R_over' (rq_ HO_672002.out) (Kd.R_typed (rq_ HO_11.out)) (by decide) hg); replace BK661 := am_ (bg_ BK661.out hg (Kd.R_ne HO_11.out BK661.out (by decide))); replace BK662 := am_ (bg_ BK662.out hg (Kd.R_ne HO_11.out BK662.out (by decide))); replace BK671 := am_ (bg_ BK671.out hg (Kd.R_ne HO_11.out BK671.out (by decide))); replace HB := am_ (hb); have HO677 := am_ (ho); clear HO_11; clear ho hb hg hat; refine hK.out _ _ ⟨(blk_cell BK661.out 0).trans rfl, (blk_cell BK661.out 1).trans rfl, (blk_cell BK661.out 2).trans rfl, (blk_cell BK661.out 3).trans rfl, (blk_cell BK661.out 4).trans rfl, (blk_cell BK661.out 5).trans rfl, (blk_cell BK661.out 6).trans rfl, (blk_cell BK671.out 0).trans rfl, (blk_cell BK671.out 1).trans rfl, (blk_cell BK671.out 2).trans rfl, ((HB.out.cell (World.block_lt_of_cell? w _ hw672_0)).trans hw672_0), ((HB.out.cell (World.block_lt_of_cell? w _ hw672_1)).trans hw672_1), ((HB.out.cell (World.block_lt_of_cell? w _ hw672_2)).trans hw672_2), ((HB.out.cell (World.block_lt_of_cell? w _ hw673_0)).trans hw673_0), ((HB.out.cell (World.block_lt_of_cell? w _ hw673_1)).trans hw673_1), ((HB.out.cell (World.block_lt_of_cell? w _ hw673_2)).trans hw673_2), ((HB.out.cell (World.block_lt_of_cell? w _ hw673_0)).trans hw673_0), ((HB.out.cell (World.block_lt_of_cell? w _ hw673_1)).trans hw673_1), ((HB.out.cell (World.block_lt_of_cell? w _ hw673_2)).trans hw673_2)⟩ (fun hHeld => ?_); clear hK K; refine norm_ (a' := ?_) ?_ ?_; rotate_left
        ·show Act.put _ (some 70) _ = _
         simp only [Act.put, List.setIfInBounds_toArray, List.set_cons_zero, List.set_cons_succ, i64_w, i32_w]; rfl
        refine pw_ 33 11 ?_; refine done_ (done_of HT_.out (by kernel_rfl)) ?_
        try go_wp2
        go_roundg k1
        case measure => have := HK1.out; omega
        case rel => exact ⟨(y675), (wrap64 (x12_1 + 1)), rs_, H', ⟨by have := HK1.out; omega⟩, ⟨rq_ HO677.out⟩, ⟨rq_ HO_672002.out⟩, ⟨bq_ BK661.out⟩, ⟨bq_ BK662.out⟩, ⟨bq_ BK671.out⟩, ⟨hb_⟩⟩
     ·rw [if_neg c15] at H
      have c15b0 := decide_eq_false c15; have c15b1 : decide (0 < t665.length) = false := decide_eq_false (by omega); clear c15; simp only [Option.some.injEq, Prod.mk.injEq] at H; obtain ⟨rfl, rfl, rfl, rfl, rfl, rfl, rfl⟩ := H; have hnb27 := NB661_662.out; have hnc27 := NB662_661.out; have hnb28 := NB661_671.out; have hnc28 := NB671_661.out; obtain ⟨hcz29_0, hcz29_1, hcz29_2, hcz29_3, hcz29_4, hcz29_5, hcz29_6, hfz29_0, hfz29_1, hfz29_2, hfz29_3, hfz29_4, hfz29_5, hfz29_6⟩ := cf7_ BK661.out; have hnb30 := NB671_662.out; have hnc30 := NB662_671.out; obtain ⟨hcz31_0, hcz31_1, hcz31_2, hfz31_0, hfz31_1, hfz31_2⟩ := cf3_ BK671.out; obtain ⟨hcz32_0, hcz32_1, hcz32_2, hfz32_0, hfz32_1, hfz32_2⟩ := cf3_ BK662.out
      go_wp2
      refine bodyPost_ret (results_list (rs := [.cell 2 24, .tmp 3, .tmp 4, .tmp 5, .tmp 6]) rfl (by simp) (.cell gb662 24 #[.int .i64 t663, .bool t664, .slice Ao12 t665.length co12] (0, 0) _ rfl q9_ Try.underlying24 rfl (by kernel_rfl) (.tmp (.tmp (.tmp (.tmp .nil)))))) rfl ?_; exact ⟨_, _, er_, by refine rq_ ?_; exact Kd.R_mono (rf3_ (Kd.R_types HO_672002.out BK662.out (by decide))) (fun _ hk => trivial), by refine rq_ ?_; exact Kd.R_mono (rf3_ (Kd.R_types HO_11.out BK662.out (by decide))) (fun _ hk => trivial), hb_⟩
    ·rw [if_neg c14] at H
     have c14b0 := decide_eq_false c14; clear c14; simp only [Option.some.injEq, Prod.mk.injEq] at H; obtain ⟨rfl, rfl, rfl, rfl, rfl, rfl, rfl⟩ := H; have hnb33 := NB661_662.out; have hnc33 := NB662_661.out; have hnb34 := NB661_671.out; have hnc34 := NB671_661.out; obtain ⟨hcz35_0, hcz35_1, hcz35_2, hcz35_3, hcz35_4, hcz35_5, hcz35_6, hfz35_0, hfz35_1, hfz35_2, hfz35_3, hfz35_4, hfz35_5, hfz35_6⟩ := cf7_ BK661.out; have hnb36 := NB671_662.out; have hnc36 := NB662_671.out; obtain ⟨hcz37_0, hcz37_1, hcz37_2, hfz37_0, hfz37_1, hfz37_2⟩ := cf3_ BK671.out; obtain ⟨hcz38_0, hcz38_1, hcz38_2, hfz38_0, hfz38_1, hfz38_2⟩ := cf3_ BK662.out
     go_wp2
     refine bodyPost_ret (results_list (rs := [.cell 2 24, .tmp 3, .tmp 4, .tmp 5, .tmp 6]) rfl (by simp) (.cell gb662 24 #[.int .i64 t663, .bool t664, .slice Ao12 t665.length co12] (0, 0) _ rfl q9_ Try.underlying24 rfl (by kernel_rfl) (.tmp (.tmp (.tmp (.tmp .nil)))))) rfl ?_; exact ⟨_, _, er_, by refine rq_ ?_; exact Kd.R_mono (rf3_ (Kd.R_types HO_672002.out BK662.out (by decide))) (fun _ hk => trivial), by refine rq_ ?_; exact Kd.R_mono (rf3_ (Kd.R_types HO_11.out BK662.out (by decide))) (fun _ hk => trivial), hb_⟩
   ·rw [if_neg c13] at H
    have c13b0 := decide_eq_false c13; clear c13; simp only [Option.some.injEq, Prod.mk.injEq] at H; obtain ⟨rfl, rfl, rfl, rfl, rfl, rfl, rfl⟩ := H; have hnb39 := NB661_662.out; have hnc39 := NB662_661.out; have hnb40 := NB661_671.out; have hnc40 := NB671_661.out; obtain ⟨hcz41_0, hcz41_1, hcz41_2, hcz41_3, hcz41_4, hcz41_5, hcz41_6, hfz41_0, hfz41_1, hfz41_2, hfz41_3, hfz41_4, hfz41_5, hfz41_6⟩ := cf7_ BK661.out; have hnb42 := NB671_662.out; have hnc42 := NB662_671.out; obtain ⟨hcz43_0, hcz43_1, hcz43_2, hfz43_0, hfz43_1, hfz43_2⟩ := cf3_ BK671.out; obtain ⟨hcz44_0, hcz44_1, hcz44_2, hfz44_0, hfz44_1, hfz44_2⟩ := cf3_ BK662.out
    go_wp2
    refine bodyPost_ret (results_list (rs := [.cell 2 24, .tmp 3, .tmp 4, .tmp 5, .tmp 6]) rfl (by simp) (.cell gb662 24 #[.int .i64 t663, .bool t664, .slice Ao12 t665.length co12] (0, 0) _ rfl q9_ Try.underlying24 rfl (by kernel_rfl) (.tmp (.tmp (.tmp (.tmp .nil)))))) rfl ?_; exact ⟨_, _, er_, by refine rq_ ?_; exact Kd.R_mono (rf3_ (Kd.R_types HO_672002.out BK662.out (by decide))) (fun _ hk => trivial), by refine rq_ ?_; exact Kd.R_mono (rf3_ (Kd.R_types HO_11.out BK662.out (by decide))) (fun _ hk => trivial), hb_⟩
end Go.Proofs.Ytfhkkbpkajfdlaa.Q
end
