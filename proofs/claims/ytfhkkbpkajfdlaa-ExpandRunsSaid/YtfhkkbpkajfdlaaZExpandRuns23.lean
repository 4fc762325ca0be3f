/- A part of the proof: words, contracts, plain lemmas. Conditions: none. -/
import Derived.Test.YtfhkkbpkajfdlaaZExpandRuns18
import Derived.Test.YtfhkkbpkajfdlaaZExpandRuns22
section
namespace Go.Proofs.Ytfhkkbpkajfdlaa.P
open Go.Sort hiding rd
open Go.RowKit Go.Proofs.Ytfhkkbpkajfdlaa.Q Go.Proofs.YtfhkkbpkajfdlaaW.PrintWords Go.Proofs.YtfhkkbpkajfdlaaW.PrintLast Go.Proofs.YtfhkkbpkajfdlaaW.PrintMore
theorem mlt_trans {a b c : S85} (h : mlt a b) (k : mlt b c) : mlt a c := by unfold mlt at *; omega
theorem mlt_of_not {a b : S85} (h : ¬ mlt a b) (k : keyM b ≠ keyM a) : mlt b a := by
 have : ¬ (b.f0 = a.f0 ∧ b.f1 = a.f1) := fun h => k (by unfold keyM; rw [h.1, h.2])
 unfold mlt at *
 omega
theorem ins_ev (l : List S85) (x5 : Int) (R : List S85 × Int) : ∀ (n : Nat) (A B : List S85) (e : S85), A.length = n → n + B.length ≤ 4611686018427387904 → (A ++ B).Pairwise mlt → (∀ b ∈ B, mlt e b) → (∀ a ∈ A, keyM a ≠ keyM e) →
 (∀ L : List S85, L.Pairwise mlt → (∀ m, m ∈ L ↔ m = e ∨ m ∈ A ++ B) → L.length = A.length + B.length + 1 → Ev (fun k => ebbtideref03_Moves.l0 k l L (wrap64 (x5 + 1))) R) → Ev (fun k => ebbtideref03_Moves.l3 k l (A ++ e :: B) x5 (n : Int)) R := by
 intro n
 induction n with
 | zero =>
  intro A B e hA hn hs hB hne hc
  obtain rfl : A = [] := List.eq_nil_of_length_eq_zero hA
  refine Ev.step (fun k => by rw [ebbtideref03_Moves.l3, if_neg (by omega)]; rfl) (hc (e :: B) ?_ ?_ ?_)
  ·rw [List.pairwise_cons]; exact ⟨hB, hs⟩
  ·intro m; simp
  ·simp
 | succ n ih =>
  intro A B e hA hn hs hB hne hc
  obtain ⟨A', a, rfl⟩ : ∃ A' a, A = A' ++ [a] := ⟨A.dropLast, A.getLast (fun h => by rw [h] at hA; cases hA), (List.dropLast_concat_getLast _).symm⟩
  have hA' : A'.length = n := by simpa using hA
  subst hA'
  have g1 : rd_T85 (A' ++ [a] ++ e :: B) ((A'.length + 1 : Nat) : Int) = e := by
   unfold rd_T85
   rw [Int.toNat_natCast, List.getD_eq_getElem?_getD, List.getElem?_append_right (by simp)]
   simp
  have g0 : rd_T85 (A' ++ [a] ++ e :: B) (A'.length : Int) = a := by
   unfold rd_T85
   rw [Int.toNat_natCast, List.getD_eq_getElem?_getD, List.append_assoc, List.getElem?_append_right (Nat.le_refl _)]
   simp
  have hw : wrap64 (((A'.length + 1 : Nat) : Int) - 1) = (A'.length : Int) := by unfold wrap64; omega
  have hlen : (A' ++ [a] ++ e :: B).length = A'.length + 1 + (B.length + 1) := by simp; omega
  have hsw : ((A' ++ [a] ++ e :: B).set (A'.length + 1) a).set A'.length e = A' ++ e :: a :: B := by
   rw [List.set_append_right _ _ (by simp)]
   simp only [List.length_append, List.length_singleton, Nat.sub_self, List.set_cons_zero]
   rw [List.append_assoc, List.set_append_right _ _ (Nat.le_refl _)]
   simp
  have hstep : ∀ k, ebbtideref03_Moves.l3 (k + 1) l (A' ++ [a] ++ e :: B) x5 ((A'.length + 1 : Nat) : Int) = if mlt e a then ebbtideref03_Moves.l3 k l (A' ++ e :: a :: B) x5 (A'.length : Int) else ebbtideref03_Moves.l0 k l (A' ++ [a] ++ e :: B) (wrap64 (x5 + 1)) := by
   intro k
   rw [ebbtideref03_Moves.l3, if_pos (by omega), if_pos (by omega), if_pos (by omega), hw, if_pos (by omega), if_pos (by omega), g1, g0]
   simp only [Int.toNat_natCast]
   rw [show ((⟨a.f0, a.f1, a.f2⟩ : S85)) = a from rfl, show ((⟨e.f0, e.f1, e.f2⟩ : S85)) = e from rfl, hsw]
   by_cases c1 : e.f1 < a.f1
   ·rw [if_pos c1, if_pos (show mlt e a from .inl c1)]
   ·rw [if_neg c1]
    by_cases c2 : e.f1 = a.f1
    ·rw [if_pos c2]
     by_cases c3 : e.f0 < a.f0
     ·rw [if_pos c3, if_pos (show mlt e a from .inr ⟨c2, c3⟩)]
     ·rw [if_neg c3, if_neg (show ¬ mlt e a from fun h => by unfold mlt at h; omega)]
    ·rw [if_neg c2, if_neg (show ¬ mlt e a from fun h => by unfold mlt at h; omega)]
  rw [List.append_assoc, List.singleton_append] at hs
  refine Ev.step hstep ?_
  by_cases c : mlt e a
  ·simp only [c, if_true]
   refine ih A' (a :: B) e rfl (by simp at hn ⊢; omega) hs (fun b hb => ?_) (fun x hx => hne x (List.mem_append_left _ hx)) (fun L h1 h2 h3 => hc L h1 (fun m => ?_) (by simp at h3 ⊢; omega))
   ·rcases List.mem_cons.1 hb with rfl | hb
    ·exact c
    ·exact hB b hb
   ·rw [h2]; simp
  ·simp only [c, if_false]
   have hae : mlt a e := mlt_of_not c (hne a (by simp))
   rw [List.pairwise_append] at hs
   obtain ⟨hs1, hs2, hs3⟩ := hs
   rw [List.pairwise_cons] at hs2
   refine hc _ ?_ (fun m => ?_) (by simp; omega)
   ·rw [List.append_assoc, List.singleton_append, List.pairwise_append]
    refine ⟨hs1, ?_, ?_⟩
    ·rw [List.pairwise_cons, List.pairwise_cons]
     refine ⟨fun b hb => ?_, hB, hs2.2⟩
     rcases List.mem_cons.1 hb with rfl | hb
     ·exact hae
     ·exact hs2.1 b hb
    ·intro x hx b hb
     rcases List.mem_cons.1 hb with rfl | hb
     ·exact hs3 x hx _ List.mem_cons_self
     ·rcases List.mem_cons.1 hb with rfl | hb
      ·exact mlt_trans (hs3 x hx a List.mem_cons_self) hae
      ·exact hs3 x hx b (List.mem_cons_of_mem _ hb)
   ·simp only [List.mem_append, List.mem_cons, List.not_mem_nil, or_false]
    constructor
    ·rintro ((h | h) | h | h)
     ·exact .inr (.inl (.inl h))
     ·exact .inr (.inl (.inr h))
     ·exact .inl h
     ·exact .inr (.inr h)
    ·rintro (h | (h | h) | h)
     ·exact .inr (.inl h)
     ·exact .inl (.inl h)
     ·exact .inl (.inr h)
     ·exact .inr (.inr h)
section
variable (l : List S85) (hlen : l.length ≤ 1048576)
include hlen
def newAt (l : List S85) (i : Nat) (j : Nat) : Bool := decide ((keyM (l.getD i z85)) ∉ (l.take j).map keyM)
omit hlen in
theorem newAt_succ (i j : Nat) (hj : j < l.length) : newAt l i (j + 1) = (newAt l i j && decide (keyM l[j] ≠ keyM (l.getD i z85))) := by
 unfold newAt
 rw [List.take_succ_eq_append_getElem hj, List.map_append, ← Bool.decide_and, decide_eq_decide]
 simp only [List.mem_append, List.map_cons, List.map_nil, List.mem_singleton, not_or]
 constructor
 ·rintro ⟨h1, h2⟩; exact ⟨h1, fun h => h2 h.symm⟩
 ·rintro ⟨h1, h2⟩; exact ⟨h1, fun h => h2 h.symm⟩
theorem rl1_ev (x4 : List S85) (R : List S85 × Int) (i : Nat) (hi : i < l.length) (h1 : newAt l i i = true → Ev (fun k => ebbtideref03_Moves.l2 k l x4 (i : Int) [] (i : Int)) R)
 (h2 : newAt l i i = false → Ev (fun k => ebbtideref03_Moves.l0 k l x4 ((i + 1 : Nat) : Int)) R) (d : Nat) : ∀ j, j + d = i → Ev (fun k => ebbtideref03_Moves.l1 k l x4 (i : Int) (newAt l i j) (j : Int)) R := by
 induction d with
 | zero =>
  intro j hj
  obtain rfl : j = i := by omega
  by_cases c : newAt l j j = true
  ·refine Ev.step (fun k => ?_) (h1 c)
   rw [ebbtideref03_Moves.l1, if_neg (by omega), if_pos c]
  ·refine Ev.step (fun k => ?_) (h2 (by simpa using c))
   rw [ebbtideref03_Moves.l1, if_neg (by omega), if_neg c, w1 (by omega)]
 | succ d ih =>
  intro j hj
  have hjl : j < l.length := by omega
  have hn := newAt_succ l i j hjl
  refine Ev.step (fun k => ?_) (ih (j + 1) (by omega))
  rw [ebbtideref03_Moves.l1, if_pos (by omega), w1 (by omega)]
  by_cases c : newAt l i j = true
  ·rw [if_pos c, if_pos (by omega), if_pos (by omega), if_pos (by omega), if_pos (by omega), rdM_of hjl, rdM_of hi]
   rw [c, Bool.true_and] at hn
   rw [hn, List.getD_eq_getElem?_getD, List.getElem?_eq_getElem hi, Option.getD_some]
   by_cases e0 : l[j].f0 = l[i].f0
   ·rw [if_pos e0]
    congr 1
    by_cases e1 : l[j].f1 = l[i].f1
    ·have : keyM l[j] = keyM l[i] := by unfold keyM; rw [e0, e1]
     simp [e1, this]
    ·have : keyM l[j] ≠ keyM l[i] := fun h => e1 (congrArg Prod.snd h)
     simp [e1, this]
   ·rw [if_neg e0]
    have : keyM l[j] ≠ keyM l[i] := fun h => e0 (congrArg Prod.fst h)
    simp [this]
  ·rw [if_neg c]
   have c' : newAt l i j = false := by simpa using c
   rw [c', Bool.false_and] at hn
   rw [hn]
def valsAt (l : List S85) (i j : Nat) : List Int := (((l.take j).drop i).filter (fun x => decide (keyM x = keyM (l.getD i z85)))).map S85.f2
theorem valsAt_length (i j : Nat) : (valsAt l i j).length ≤ l.length := by
 unfold valsAt
 rw [List.length_map]
 refine Nat.le_trans (List.length_filter_le _ _) ?_
 rw [List.length_drop, List.length_take]
 omega
theorem rl2_ev (x4 : List S85) (R : List S85 × Int) (i : Nat) (hi : i < l.length)
 (hend : Ev (fun k => (ebbtideref01_Sum.f k (valsAt l i l.length)).bind fun bt874 => (if bt874.2 = true then (if bt874.1 = 0 then (ebbtideref03_Moves.l0 k l x4 ((i + 1 : Nat) : Int)) else (if x4.length < 5864062014805 then ((some (x4 ++ [(⟨l[i].f0, l[i].f1, bt874.1⟩ : S85)] : List (S85))).bind fun y878 => (ebbtideref03_Moves.l3 k l y878 (i : Int) (wrap64 ((y878.length : Int) - 1)))) else (none))) else (some (([] : List (S85)), 10)))) R) (d : Nat) :
 ∀ j, i ≤ j → j + d = l.length → Ev (fun k => ebbtideref03_Moves.l2 k l x4 (i : Int) (valsAt l i j) (j : Int)) R := by
 induction d with
 | zero =>
  intro j hij hj
  obtain rfl : j = l.length := by omega
  refine Ev.step (fun k => ?_) hend
  rw [ebbtideref03_Moves.l2, if_neg (by omega), w1 (by omega), rdM_of hi]
  simp only [show (0 : Int) ≤ (i : Int) from by omega, show (i : Int) < (l.length : Int) from by omega, if_true]
 | succ d ih =>
  intro j hij hj
  have hjl : j < l.length := by omega
  have hv := valsAt_length l hlen i j
  refine Ev.step (fun k => ?_) (ih (j + 1) (by omega) (by omega))
  rw [ebbtideref03_Moves.l2, if_pos (by omega), if_pos (by omega), if_pos (by omega), if_pos (by omega), rdM_of hjl, rdM_of hi, w1 (by omega)]
  have hs : valsAt l i (j + 1) = if keyM l[j] = keyM l[i] then valsAt l i j ++ [l[j].f2] else valsAt l i j := by
   unfold valsAt
   rw [List.take_succ_eq_append_getElem hjl, List.drop_append_of_le_length (by rw [List.length_take]; omega), List.filter_append, List.map_append, List.getD_eq_getElem?_getD, List.getElem?_eq_getElem hi, Option.getD_some, List.filter_cons]
   by_cases c : keyM l[j] = keyM l[i]
   ·simp [c]
   ·simp [c]
  rw [hs]
  by_cases e0 : l[j].f0 = l[i].f0
  ·rw [if_pos e0]
   by_cases e1 : l[j].f1 = l[i].f1
   ·rw [if_pos e1, if_pos (by omega), if_pos (show keyM l[j] = keyM l[i] by unfold keyM; rw [e0, e1])]
   ·rw [if_neg e1, if_neg (fun h => e1 (congrArg Prod.snd h))]
  ·rw [if_neg e0, if_neg (fun h => e0 (congrArg Prod.fst h))]
omit hlen in
theorem vals_sum (i : Nat) (hi : i < l.length) (hnew : newAt l i i = true) : (valsAt l i l.length).sum = msum l (keyM l[i]) := by
 unfold valsAt msum sumK
 rw [List.take_length, List.getD_eq_getElem?_getD, List.getElem?_eq_getElem hi, Option.getD_some]
 unfold newAt at hnew
 rw [decide_eq_true_iff, List.getD_eq_getElem?_getD, List.getElem?_eq_getElem hi, Option.getD_some] at hnew
 generalize keyM l[i] = key at *
 conv => rhs; rw [← List.take_append_drop i l]
 have e : (l.take i).filter (fun x => decide (keyM x = key)) = [] := List.filter_eq_nil_iff.2 (fun x hx => by
  simp only [decide_eq_true_eq]
  intro h
  exact hnew (List.mem_map.2 ⟨x, hx, h⟩))
 rw [List.filter_append, List.map_append, List.sum_append, e]
 simp
structure Pre (l : List S85) (i : Nat) (L : List S85) : Prop where
 sorted : L.Pairwise mlt
 mem : ∀ m, m ∈ L ↔ keyM m ∈ keysOf keyM (l.take i) ∧ m.f2 = msum l (keyM m) ∧ m.f2 ≠ 0
 len : L.length ≤ i
theorem rmoves_loop (hl : ∀ x ∈ l, OkM x) (d : Nat) : ∀ (i : Nat) (L : List S85), i + d = l.length → Pre l i L → (∀ k ∈ keysOf keyM (l.take i), fits (msum l k)) →
 Ev (fun k => ebbtideref03_Moves.l0 k l L (i : Int)) (mergeR l) := by
 induction d with
 | zero =>
  intro i L hi hp hf
  obtain rfl : i = l.length := by omega
  refine ev_const fun k => ?_
  rw [ebbtideref03_Moves.l0, if_neg (by omega)]
  rw [List.take_length] at hf
  have hpm := hp.mem
  rw [List.take_length] at hpm
  unfold mergeR
  rw [if_pos (show AllFit l from hf), isMerge_unique (⟨hp.sorted, hpm⟩ : IsMerge l L) (mergeL_is l)]
 | succ d ih =>
  intro i L hi hp hf
  have hil : i < l.length := by omega
  have hkeys1 : keyM l[i] ∈ keysOf keyM (l.take i) → keysOf keyM (l.take (i + 1)) = keysOf keyM (l.take i) := fun h => by rw [List.take_succ_eq_append_getElem hil, keysOf_snoc, if_pos h]
  have hkeys2 : keyM l[i] ∉ keysOf keyM (l.take i) → keysOf keyM (l.take (i + 1)) = keysOf keyM (l.take i) ++ [keyM l[i]] := fun h => by rw [List.take_succ_eq_append_getElem hil, keysOf_snoc, if_neg h]
  have hnew : newAt l i i = decide (keyM l[i] ∉ keysOf keyM (l.take i)) := by
   unfold newAt
   rw [List.getD_eq_getElem?_getD, List.getElem?_eq_getElem hil, Option.getD_some, decide_eq_decide, mem_keysOf, List.mem_map]
  have hn0 : newAt l i 0 = true := by unfold newAt; simp
  refine Ev.step (fun k => ?_) (rl1_ev l hlen L (mergeR l) i hil ?_ ?_ i 0 (by omega))
  ·rw [ebbtideref03_Moves.l0, if_pos (by omega), hn0]; rfl
  ·intro hnw
   have hkn : keyM l[i] ∉ keysOf keyM (l.take i) := by rw [hnew, decide_eq_true_iff] at hnw; exact hnw
   have hkeys := hkeys2 hkn
   have hv0 : valsAt l i i = [] := by unfold valsAt; rw [List.drop_eq_nil_of_le (by rw [List.length_take]; omega)]; rfl
   have hmain := rl2_ev l hlen L (mergeR l) i hil ?_ (l.length - i) i (Nat.le_refl _) (by omega)
   ·rw [hv0] at hmain
    exact hmain
   ·have hvl := valsAt_length l hlen i l.length
    have hsum := vals_sum l i hil hnw
    have hsev : Ev (fun k => ebbtideref01_Sum.f k (valsAt l i l.length)) (sumFit (msum l (keyM l[i]))) := by
     rw [← hsum]
     refine ⟨l.length + 1, fun k hk => rsum_eq (by omega) (fun x hx => ?_) (by omega)⟩
     unfold valsAt at hx
     obtain ⟨y, hy, rfl⟩ := List.mem_map.1 hx
     rw [List.take_length] at hy
     exact (hl y (List.mem_of_mem_drop (List.mem_filter.1 hy).1)).2.2
    have hkl : keyM l[i] ∈ keysOf keyM l := (mem_keysOf _ _ _).2 ⟨l[i], List.getElem_mem hil, rfl⟩
    refine Ev.bind hsev ?_
    by_cases hfit : fits (msum l (keyM l[i]))
    ·rw [sumFit_pos hfit]
     simp only [if_true]
     have hf' : ∀ k ∈ keysOf keyM (l.take (i + 1)), fits (msum l k) := by
      rw [hkeys]
      intro k hk
      rcases List.mem_append.1 hk with hk | hk
      ·exact hf k hk
      ·rw [List.mem_singleton.1 hk]; exact hfit
     by_cases hz : msum l (keyM l[i]) = 0
     ·simp only [hz, if_true]
      refine ih (i + 1) L (by omega) ⟨hp.sorted, fun m => ?_, by have := hp.len; omega⟩ hf'
      rw [hp.mem, hkeys, List.mem_append, List.mem_singleton]
      constructor
      ·rintro ⟨h1, h2, h3⟩; exact ⟨.inl h1, h2, h3⟩
      ·rintro ⟨h1 | h1, h2, h3⟩
       ·exact ⟨h1, h2, h3⟩
       ·rw [h1, hz] at h2; exact absurd h2 h3
     ·simp only [hz, if_false]
      have hLl := hp.len
      have hLl2 : L.length < 5864062014805 := by omega
      simp only [hLl2, if_true, Option.bind_some]
      have hw : wrap64 (((L ++ [(⟨l[i].f0, l[i].f1, msum l (keyM l[i])⟩ : S85)]).length : Int) - 1) = (L.length : Int) := by
       rw [List.length_append, List.length_singleton]; unfold wrap64; omega
      rw [hw]
      refine ins_ev l (i : Int) (mergeR l) L.length L [] ⟨l[i].f0, l[i].f1, msum l (keyM l[i])⟩ rfl (by simp; omega) (by simpa using hp.sorted) (fun b hb => by cases hb) (fun a ha he => ?_) (fun L' h1 h2 h3 => ?_)
      ·have := ((hp.mem a).1 ha).1
       rw [he] at this
       exact hkn this
      ·rw [w1 (by omega)]
       refine ih (i + 1) L' (by omega) ⟨h1, fun m => ?_, by simp at h3; omega⟩ hf'
       rw [h2, List.append_nil, hp.mem, hkeys, List.mem_append, List.mem_singleton]
       constructor
       ·rintro (rfl | ⟨h4, h5, h6⟩)
        ·exact ⟨.inr rfl, rfl, hz⟩
        ·exact ⟨.inl h4, h5, h6⟩
       ·rintro ⟨h4 | h4, h5, h6⟩
        ·exact .inr ⟨h4, h5, h6⟩
        ·refine .inl (s85_ext (congrArg Prod.fst h4) (congrArg Prod.snd h4) ?_)
         rw [h5, h4]
    ·rw [sumFit_neg hfit]
     have hna : ¬ AllFit l := fun h => hfit (h _ hkl)
     unfold mergeR
     rw [if_neg hna]
     exact Ev.now _
  ·intro hnw
   have hkn : keyM l[i] ∈ keysOf keyM (l.take i) := by rw [hnew, decide_eq_false_iff_not, Classical.not_not] at hnw; exact hnw
   have hkeys := hkeys1 hkn
   refine ih (i + 1) L (by omega) ⟨hp.sorted, fun m => ?_, by have := hp.len; omega⟩ (by rw [hkeys]; exact hf)
   rw [hkeys]; exact hp.mem m
theorem rmoves_ev (hl : ∀ x ∈ l, OkM x) : Ev (fun k => ebbtideref03_Moves.f k l) (mergeR l) := by
 have h := rmoves_loop l hlen hl l.length 0 [] (by omega) ⟨List.Pairwise.nil, fun m => by simp [keysOf, once], Nat.le_refl _⟩ (by simp [keysOf, once])
 exact h
end
end Go.Proofs.Ytfhkkbpkajfdlaa.P
end
section
namespace Go.Proofs.Ytfhkkbpkajfdlaa.P
open Go.RowKit Go.Proofs.Ytfhkkbpkajfdlaa.Q Go.Proofs.YtfhkkbpkajfdlaaW.PrintWords Go.Proofs.YtfhkkbpkajfdlaaW.PrintLast Go.Proofs.YtfhkkbpkajfdlaaW.PrintMore
theorem w64 {n : Int} (h0 : -4611686018427387904 ≤ n) (h1 : n ≤ 4611686018427387904) : wrap64 n = n := by unfold wrap64; omega
def arcAt (arcs : List S54) (j : Int) : S54 := rd_T54 arcs j
theorem arcAt_ok {n : Int} {arcs : List S54} (hn : NetOk n arcs) {j : Int} (h0 : 0 ≤ j) (h1 : j < arcs.length) : ArcOk n (arcAt arcs j) := by
 have hlt : j.toNat < arcs.length := by omega
 have e : arcAt arcs j = arcs[j.toNat] := by unfold arcAt rd_T54; simp [List.getD_eq_getElem?_getD, List.getElem?_eq_getElem hlt]
 rw [e]
 exact hn.arcs _ (List.getElem_mem hlt)
structure May (arcs : List S54) (s t h : Int) (m : S85) : Prop where
 a0 : 0 ≤ m.f0
 a1 : m.f0 < arcs.length
 b0 : 0 ≤ m.f1
 c0 : 0 ≤ m.f2
 b1 : m.f1 + (arcAt arcs m.f0).f3 ≤ h
 c1 : m.f2 ≤ (arcAt arcs m.f0).f2
 e1 : (arcAt arcs m.f0).f1 ≠ s
 e0 : (arcAt arcs m.f0).f0 ≠ t
noncomputable instance (arcs : List S54) (s t h : Int) (m : S85) : Decidable (May arcs s t h m) := Classical.propDecidable _
theorem may_eq {n : Int} {b : Bool} {arcs : List S54} {s t h : Int} (hn : NetOk n arcs) (hh : 0 ≤ h ∧ h ≤ 1024) (m : S85) : plan_may.f n b arcs s t h m.f0 m.f1 m.f2 = some (decide (May arcs s t h m)) := by
 unfold plan_may.f
 by_cases c1 : m.f0 < 0
 ·rw [if_pos c1, decide_eq_false (fun hm => by have := hm.a0; omega)]
 rw [if_neg c1]
 by_cases c2 : m.f0 ≥ (arcs.length : Int)
 ·rw [if_pos c2, decide_eq_false (fun hm => by have := hm.a1; omega)]
 rw [if_neg c2]
 have ha := arcAt_ok hn (show 0 ≤ m.f0 by omega) (show m.f0 < arcs.length by omega)
 have h3 := ha.f3
 by_cases c3 : m.f1 < 0
 ·rw [if_pos c3, decide_eq_false (fun hm => by have := hm.b0; omega)]
 rw [if_neg c3]
 by_cases c4 : m.f1 > h
 ·rw [if_pos c4, decide_eq_false (fun hm => by have := hm.b1; omega)]
 rw [if_neg c4]
 by_cases c5 : m.f2 < 0
 ·rw [if_pos c5, decide_eq_false (fun hm => by have := hm.c0; omega)]
 rw [if_neg c5, if_pos (by omega), if_pos (by omega)]
 have ew : wrap64 (m.f1 + (rd_T54 arcs m.f0).f3) = m.f1 + (arcAt arcs m.f0).f3 := w64 (show _ ≤ m.f1 + (arcAt arcs m.f0).f3 by omega) (show m.f1 + (arcAt arcs m.f0).f3 ≤ _ by omega)
 rw [ew]
 by_cases c6 : m.f1 + (arcAt arcs m.f0).f3 ≤ h
 ·rw [if_pos c6]
  by_cases c7 : m.f2 ≤ (arcAt arcs m.f0).f2
  ·rw [if_pos (show m.f2 ≤ (rd_T54 arcs m.f0).f2 from c7)]
   by_cases c8 : (arcAt arcs m.f0).f1 = s
   ·rw [if_pos (show (rd_T54 arcs m.f0).f1 = s from c8), decide_eq_false (fun hm => hm.e1 c8)]
   ·rw [if_neg (show ¬ (rd_T54 arcs m.f0).f1 = s from c8)]
    by_cases c9 : (arcAt arcs m.f0).f0 = t
    ·rw [decide_eq_false (fun hm => hm.e0 c9)]
     have : (rd_T54 arcs m.f0).f0 = t := c9
     simp [this]
    ·rw [decide_eq_true (⟨by omega, by omega, by omega, by omega, c6, c7, c8, c9⟩ : May arcs s t h m)]
     have : ¬ (rd_T54 arcs m.f0).f0 = t := c9
     simp [this]
  ·rw [if_neg (show ¬ m.f2 ≤ (rd_T54 arcs m.f0).f2 from c7), decide_eq_false (fun hm => c7 hm.c1)]
 ·rw [if_neg c6, decide_eq_false (fun hm => c6 hm.b1)]
theorem rmay_eq {n : Int} {b : Bool} {arcs : List S54} {s t h : Int} (hn : NetOk n arcs) (hh : 0 ≤ h ∧ h ≤ 1024) (m : S85) : ebbtideref14_Move.f n b arcs s t h m.f0 m.f1 m.f2 = some (decide (May arcs s t h m)) := by
 rw [← may_eq (b := b) hn hh m]
 unfold plan_may.f ebbtideref14_Move.f
 by_cases c1 : m.f0 < 0
 ·rw [if_pos c1, if_pos c1]
 rw [if_neg c1, if_neg c1]
 by_cases c2 : m.f0 ≥ (arcs.length : Int)
 ·rw [if_pos c2, if_pos c2]
 rw [if_neg c2, if_neg c2]
 by_cases c3 : m.f1 < 0
 ·rw [if_pos c3, if_pos c3]
 rw [if_neg c3, if_neg c3]
 by_cases c4 : m.f1 > h
 ·rw [if_pos c4, if_pos c4]
 rw [if_neg c4, if_neg c4, if_pos (show 0 ≤ m.f0 by omega), if_pos (show m.f0 < (arcs.length : Int) by omega), if_pos (show 0 ≤ m.f0 by omega), if_pos (show m.f0 < (arcs.length : Int) by omega)]
 by_cases c5 : m.f2 < 0
 ·rw [if_pos c5, if_neg (show ¬ m.f2 ≥ 0 by omega), ite_self]
 ·rw [if_neg c5, if_pos (show m.f2 ≥ 0 by omega)]
def AllMay (arcs : List S54) (s t h : Int) (L : List S85) : Prop := ∀ m ∈ L, May arcs s t h m
noncomputable instance (arcs : List S54) (s t h : Int) (L : List S85) : Decidable (AllMay arcs s t h L) := Classical.propDecidable _
noncomputable def mergedR (n : Int) (arcs : List S54) (s t h : Int) (l : List S85) : List S85 × Int :=
 if askErr n arcs s t h = 0 then (if AllFit l then (if AllMay arcs s t h (mergeL l) then (mergeL l, 0) else ([], 140)) else ([], 10)) else ([], askErr n arcs s t h)
section
variable {n : Int} {b : Bool} {arcs : List S54} {s t h : Int} {l : List S85} (hlen : l.length ≤ 1048576) (hl : ∀ x ∈ l, OkM x)
theorem merged_loop (hn : NetOk n arcs) (hh : 0 ≤ h ∧ h ≤ 1024) (M : List S85) (hM : M.length ≤ 1048576) (d : Nat) : ∀ i, i + d = M.length → Ev (fun k => plan_merged.l0 k s t h M M (M.length : Int) (i : Int) n b arcs) (if AllMay arcs s t h (M.drop i) then (M, (0 : Int)) else ([], 140)) := by
 induction d with
 | zero =>
  intro i hi
  rw [List.drop_eq_nil_of_le (by omega), if_pos (by intro m hm; cases hm)]
  exact ev_cst fun k => by rw [plan_merged.l0, if_neg (by omega)]
 | succ d ih =>
  intro i hi
  have hlt : i < M.length := by omega
  refine Ev.step (f := fun k => if May arcs s t h M[i] then plan_merged.l0 k s t h M M (M.length : Int) ((i + 1 : Nat) : Int) n b arcs else some ([], 140)) (fun k => ?_) ?_
  ·rw [plan_merged.l0, if_pos (by omega), if_pos (by omega), if_pos (by omega), rdM_of hlt, may_eq hn hh, wrap1 (by omega)]
   simp only [Option.bind_some, decide_eq_true_eq]
  ·rw [List.drop_eq_getElem_cons hlt]
   by_cases c : May arcs s t h M[i]
   ·simp only [c, if_true]
    have e : (if AllMay arcs s t h (M[i] :: M.drop (i + 1)) then (M, (0 : Int)) else ([], 140)) = (if AllMay arcs s t h (M.drop (i + 1)) then (M, (0 : Int)) else ([], 140)) := by
     by_cases c2 : AllMay arcs s t h (M.drop (i + 1))
     ·rw [if_pos c2, if_pos (by intro m hm; rcases List.mem_cons.1 hm with rfl | hm; exact c; exact c2 m hm)]
     ·rw [if_neg c2, if_neg (fun h => c2 (fun m hm => h m (List.mem_cons_of_mem _ hm)))]
    rw [e]
    exact ih (i + 1) (by omega)
   ·simp only [c, if_false]
    rw [if_neg (fun h => c (h _ List.mem_cons_self))]
    exact Ev.now _
theorem rmerged_loop (hn : NetOk n arcs) (hh : 0 ≤ h ∧ h ≤ 1024) (M : List S85) (hM : M.length ≤ 1048576) (d : Nat) : ∀ i, i + d = M.length → Ev (fun k => ebbtideref14_Merged.l0 k s t h M (i : Int) n b arcs) (if AllMay arcs s t h (M.drop i) then (M, (0 : Int)) else ([], 140)) := by
 induction d with
 | zero =>
  intro i hi
  rw [List.drop_eq_nil_of_le (by omega), if_pos (by intro m hm; cases hm)]
  exact ev_cst fun k => by rw [ebbtideref14_Merged.l0, if_neg (by omega)]
 | succ d ih =>
  intro i hi
  have hlt : i < M.length := by omega
  refine Ev.step (f := fun k => if May arcs s t h M[i] then ebbtideref14_Merged.l0 k s t h M ((i + 1 : Nat) : Int) n b arcs else some ([], 140)) (fun k => ?_) ?_
  ·rw [ebbtideref14_Merged.l0, if_pos (by omega), if_pos (by omega), rdM_of hlt, rmay_eq hn hh, wrap1 (by omega)]
   simp only [Option.bind_some, decide_eq_true_eq]
  ·rw [List.drop_eq_getElem_cons hlt]
   by_cases c : May arcs s t h M[i]
   ·simp only [c, if_true]
    have e : (if AllMay arcs s t h (M[i] :: M.drop (i + 1)) then (M, (0 : Int)) else ([], 140)) = (if AllMay arcs s t h (M.drop (i + 1)) then (M, (0 : Int)) else ([], 140)) := by
     by_cases c2 : AllMay arcs s t h (M.drop (i + 1))
     ·rw [if_pos c2, if_pos (by intro m hm; rcases List.mem_cons.1 hm with rfl | hm; exact c; exact c2 m hm)]
     ·rw [if_neg c2, if_neg (fun h => c2 (fun m hm => h m (List.mem_cons_of_mem _ hm)))]
    rw [e]
    exact ih (i + 1) (by omega)
   ·simp only [c, if_false]
    rw [if_neg (fun h => c (h _ List.mem_cons_self))]
    exact Ev.now _
include hlen hl
theorem merged_ev : Ev (fun k => plan_merged.f k n b arcs s t h l) (mergedR n arcs s t h l) := by
 unfold plan_merged.f mergedR
 refine Ev.bind (asked_ev n b arcs s t h) ?_
 by_cases c : askErr n arcs s t h = 0
 ·obtain ⟨hn, _, _, _, _, _, hh⟩ := askErr_ok.1 c
  simp only [c, if_true]
  refine Ev.bind (moves_ev l hlen hl) ?_
  unfold mergeR
  by_cases c2 : AllFit l
  ·simp only [c2, if_true]
   exact merged_loop hn hh (mergeL l) (Nat.le_trans (mergeL_length l) hlen) (mergeL l).length 0 (by omega)
  ·simp only [c2, if_false]
   exact Ev.now _
 ·simp only [c, if_false]
  exact Ev.now _
theorem rmerged_ev : Ev (fun k => ebbtideref14_Merged.f k n b arcs s t h l) (mergedR n arcs s t h l) := by
 unfold ebbtideref14_Merged.f mergedR
 refine Ev.bind (rasked_ev n b arcs s t h) ?_
 by_cases c : askErr n arcs s t h = 0
 ·obtain ⟨hn, _, _, _, _, _, hh⟩ := askErr_ok.1 c
  simp only [c, if_true]
  refine Ev.bind (rmoves_ev l hlen hl) ?_
  unfold mergeR
  by_cases c2 : AllFit l
  ·simp only [c2, if_true]
   exact rmerged_loop hn hh (mergeL l) (Nat.le_trans (mergeL_length l) hlen) (mergeL l).length 0 (by omega)
  ·simp only [c2, if_false]
   exact Ev.now _
 ·simp only [c, if_false]
  exact Ev.now _
end
def cIn (arcs : List S54) (v a : Int) (k : Int × Int) : Int := if (arcAt arcs k.1).f1 = v ∧ k.2 + (arcAt arcs k.1).f3 ≤ a then 1 else 0
def cOut (arcs : List S54) (v a : Int) (k : Int × Int) : Int := if (arcAt arcs k.1).f0 = v ∧ k.2 ≤ a then 1 else 0
def cStk (arcs : List S54) (v a : Int) (k : Int × Int) : Int := cIn arcs v a k - cOut arcs v a k
def cNow (arcs : List S54) (v a : Int) (k : Int × Int) : Int := (if (arcAt arcs k.1).f1 = v ∧ k.2 + (arcAt arcs k.1).f3 = a then 1 else 0) - (if (arcAt arcs k.1).f0 = v ∧ k.2 = a then 1 else 0)
def stk (arcs : List S54) (M : List S85) (a v : Nat) : Int := wsum (cStk arcs (v : Int) (a : Int)) M
def now (arcs : List S54) (M : List S85) (a v : Nat) : Int := wsum (cNow arcs (v : Int) (a : Int)) M
theorem cStk_bd (arcs : List S54) (v a : Int) (k : Int × Int) : -1 ≤ cStk arcs v a k ∧ cStk arcs v a k ≤ 1 := by
 unfold cStk cIn cOut; split <;> split <;> omega
theorem cNow_bd (arcs : List S54) (v a : Int) (k : Int × Int) : -1 ≤ cNow arcs v a k ∧ cNow arcs v a k ≤ 1 := by
 unfold cNow; split <;> split <;> omega
section
variable {n : Int} {b : Bool} {arcs : List S54} {s t h : Int} {M : List S85} (hn : NetOk n arcs) (hh : 0 ≤ h ∧ h ≤ 1024) (hM : M.length ≤ 1048576) (hmay : ∀ m ∈ M, May arcs s t h m)
include hn hmay
theorem may_n {m : S85} (hm : m ∈ M) : 0 ≤ m.f2 ∧ m.f2 ≤ 1048576 := by
 have h1 := hmay m hm
 have h2 := (arcAt_ok hn h1.a0 h1.a1).f2
 exact ⟨h1.c0, Int.le_trans h1.c1 h2.2⟩
include hM
theorem stk_bd {P : List S85} (hP : ∀ m ∈ P, m ∈ M) (hl : P.length ≤ M.length) (c : Int × Int → Int) (hc : ∀ k, -1 ≤ c k ∧ c k ≤ 1) : -1099511627776 ≤ wsum c P ∧ wsum c P ≤ 1099511627776 := by
 have h1 := wsum_bd (c := c) (l := P) (B := 1048576) (by decide) (fun x _ => hc _) (fun x hx => may_n hn hmay (hP x hx))
 have h2 : (1048576 : Int) * (P.length : Int) ≤ 1048576 * 1048576 := by omega
 omega
include hh
theorem rstock_loop (v a : Int) (d : Nat) : ∀ i, i + d = M.length → Ev (fun k => ebbtideref14_Stock.l0 k M v a (wsum (cStk arcs v a) (M.take i)) (i : Int) n b arcs) (wsum (cStk arcs v a) M) := by
 induction d with
 | zero =>
  intro i hi
  rw [List.take_of_length_le (by omega)]
  exact ev_cst fun k => by rw [ebbtideref14_Stock.l0, if_neg (by omega)]
 | succ d ih =>
  intro i hi
  have hlt : i < M.length := by omega
  have hm := hmay M[i] (List.getElem_mem hlt)
  have hok := arcAt_ok hn hm.a0 hm.a1
  have hN := may_n hn hmay (List.getElem_mem hlt)
  have hb0 := stk_bd hn hM hmay (P := M.take i) (fun m hm => List.mem_of_mem_take hm) (by rw [List.length_take]; omega) (cStk arcs v a) (cStk_bd arcs v a)
  have hs : wsum (cStk arcs v a) (M.take (i + 1)) = wsum (cStk arcs v a) (M.take i) + cStk arcs v a (keyM M[i]) * M[i].f2 := by
   rw [List.take_succ_eq_append_getElem hlt, wsum_append, wsum_cons, wsum_nil, Int.add_zero]
  have hi2 := ih (i + 1) (by omega)
  rw [hs] at hi2
  have hb3 := hm.b1
  have hb4 := hok.f3
  have hb5 := hm.b0
  have ew : wrap64 (M[i].f1 + (rd_T54 arcs M[i].f0).f3) = M[i].f1 + (arcAt arcs M[i].f0).f3 := w64 (show _ ≤ M[i].f1 + (arcAt arcs M[i].f0).f3 by omega) (show M[i].f1 + (arcAt arcs M[i].f0).f3 ≤ _ by omega)
  generalize wsum (cStk arcs v a) (M.take i) = x at *
  have hj : ∀ (fl : Bool), fl = decide ((arcAt arcs M[i].f0).f1 = v ∧ M[i].f1 + (arcAt arcs M[i].f0).f3 ≤ a) → Ev (fun k => ebbtideref14_Stock.j1 k M v a x (i : Int) fl n b arcs (rd_T54 arcs M[i].f0).f0 (rd_T54 arcs M[i].f0).f1 (rd_T54 arcs M[i].f0).f2 (rd_T54 arcs M[i].f0).f3) (wsum (cStk arcs v a) M) := by
   intro fl hfl
   refine Ev.step (fun k => ?_) hi2
   have hc : cStk arcs v a (keyM M[i]) = (if fl = true then 1 else 0) - (if (rd_T54 arcs M[i].f0).f0 = v ∧ M[i].f1 ≤ a then 1 else 0) := by
    unfold cStk cIn cOut keyM
    rw [hfl]
    simp only [decide_eq_true_eq]
    rfl
   rw [hc, ebbtideref14_Stock.j1, rdM_of hlt, wrap1 (by omega)]
   have hi0 : (0 : Int) ≤ (i : Int) := by omega
   have hi1 : (i : Int) < (M.length : Int) := by omega
   have e1 : wrap64 (x + M[i].f2) = x + M[i].f2 := w64 (by omega) (by omega)
   have e2 : wrap64 (x - M[i].f2) = x - M[i].f2 := w64 (by omega) (by omega)
   have e3 : wrap64 (x + M[i].f2 - M[i].f2) = x := by rw [w64 (by omega) (by omega)]; omega
   rw [e1, e2, e3]
   have key : ∀ y z : Int, y = z → ebbtideref14_Stock.l0 k M v a y ((i + 1 : Nat) : Int) n b arcs = ebbtideref14_Stock.l0 k M v a z ((i + 1 : Nat) : Int) n b arcs := fun _ _ h => by rw [h]
   cases fl with
   | true =>
    simp only [if_true]
    by_cases c1 : (rd_T54 arcs M[i].f0).f0 = v
    ·by_cases c2 : M[i].f1 ≤ a
     ·simp only [c1, c2, and_self, if_true, hi0, hi1]; exact key _ _ (by omega)
     ·simp only [c1, c2, and_false, if_true, if_false, hi0, hi1]; exact key _ _ (by omega)
    ·simp only [c1, false_and, if_false, hi0, hi1, if_true]; exact key _ _ (by omega)
   | false =>
    simp only [Bool.false_eq_true, if_false]
    by_cases c1 : (rd_T54 arcs M[i].f0).f0 = v
    ·by_cases c2 : M[i].f1 ≤ a
     ·simp only [c1, c2, and_self, if_true, hi0, hi1]; exact key _ _ (by omega)
     ·simp only [c1, c2, and_false, if_true, if_false, hi0, hi1]; exact key _ _ (by omega)
    ·simp only [c1, false_and, if_false, hi0, hi1, if_true]; exact key _ _ (by omega)
  by_cases c1 : (rd_T54 arcs M[i].f0).f1 = v
  ·refine Ev.step (fun k => ?_) (hj _ rfl)
   rw [ebbtideref14_Stock.l0, if_pos (by omega), if_pos (by omega), rdM_of hlt, if_pos hm.a0, if_pos hm.a1, if_pos c1, ew]
   congr 1
   rw [decide_eq_decide]
   exact ⟨fun h => ⟨c1, h⟩, fun h => h.2⟩
  ·refine Ev.step (fun k => ?_) (hj false (by symm; rw [decide_eq_false_iff_not]; rintro ⟨h, _⟩; exact c1 h))
   rw [ebbtideref14_Stock.l0, if_pos (by omega), if_pos (by omega), rdM_of hlt, if_pos hm.a0, if_pos hm.a1, if_neg c1]
theorem rstock_ev (v a : Int) : Ev (fun k => ebbtideref14_Stock.f k n b arcs M v a) (wsum (cStk arcs v a) M) := by
 have h0 := rstock_loop (b := b) hn hh hM hmay v a M.length 0 (by omega)
 exact h0
end
theorem rdL_row {H : Nat} {g : Nat → List Int} {i : Nat} (h : i < H) : rd_L3 (row H g) (i : Int) = g i := by unfold rd_L3; rw [Int.toNat_natCast, row_getD _ _ _ h]
def put1 (F : Nat → Nat → Int) (ia fr : Nat) (N : Int) : Nat → Nat → Int := fun u w => if u = ia ∧ w = fr then F ia fr - N else F u w
def put2 (F : Nat → Nat → Int) (ia fr ti tn : Nat) (N : Int) : Nat → Nat → Int := fun u w => if u = ia + ti ∧ w = tn then put1 F ia fr N (ia + ti) tn + N else put1 F ia fr N u w
theorem mat_put1 (H V : Nat) (F : Nat → Nat → Int) (ia fr : Nat) (N : Int) : (mat H V F).set ia ((row V (F ia)).set fr (F ia fr - N)) = mat H V (put1 F ia fr N) := mat_put H V F ia fr _
theorem mat_put2 (H V : Nat) (F : Nat → Nat → Int) (ia fr ti tn : Nat) (N : Int) : (mat H V (put1 F ia fr N)).set (ia + ti) ((row V (put1 F ia fr N (ia + ti))).set tn (put1 F ia fr N (ia + ti) tn + N)) = mat H V (put2 F ia fr ti tn N) := mat_put H V _ (ia + ti) tn _
theorem put1_eq (F : Nat → Nat → Int) (ia fr : Nat) (N : Int) (u w : Nat) : put1 F ia fr N u w = F u w - (if fr = w ∧ ia = u then N else 0) := by
 unfold put1
 by_cases c : u = ia ∧ w = fr
 ·rw [if_pos c, if_pos ⟨c.2.symm, c.1.symm⟩, c.1, c.2]
 ·rw [if_neg c, if_neg (fun h => c ⟨h.2.symm, h.1.symm⟩)]; omega
theorem put2_eq (F : Nat → Nat → Int) (ia fr ti tn : Nat) (N : Int) (u w : Nat) : put2 F ia fr ti tn N u w = F u w + ((if tn = w ∧ ia + ti = u then 1 else 0) - (if fr = w ∧ ia = u then 1 else 0)) * N := by
 unfold put2
 by_cases c1 : u = ia + ti ∧ w = tn
 ·rw [if_pos c1, if_pos (show tn = w ∧ ia + ti = u from ⟨c1.2.symm, c1.1.symm⟩), ← c1.1, ← c1.2, put1_eq]
  by_cases c2 : fr = w ∧ ia = u
  ·rw [if_pos c2, if_pos c2]; omega
  ·rw [if_neg c2, if_neg c2]; omega
 ·rw [if_neg c1, if_neg (show ¬ (tn = w ∧ ia + ti = u) from fun h => c1 ⟨h.2.symm, h.1.symm⟩), put1_eq]
  by_cases c2 : fr = w ∧ ia = u
  ·rw [if_pos c2, if_pos c2]; omega
  ·rw [if_neg c2, if_neg c2]; omega
theorem s1_eq {h n : Int} {b : Bool} {arcs : List S54} {H V : Nat} (k i : Nat) (M : List S85) (hlt : i < M.length) (hM : M.length ≤ 1048576) (F : Nat → Nat → Int) (hF : ∀ a v, -1099511627776 ≤ F a v ∧ F a v ≤ 1099511627776) (ia fr tn ti : Nat)
 (ha0 : 0 ≤ M[i].f0) (ha1 : M[i].f0 < (arcs.length : Int)) (hia : M[i].f1 = (ia : Int)) (hfr : (arcAt arcs M[i].f0).f0 = (fr : Int)) (hto : (arcAt arcs M[i].f0).f1 = (tn : Int)) (hti : (arcAt arcs M[i].f0).f3 = (ti : Int))
 (l2 : ia + ti < H) (l3 : fr < V) (l4 : tn < V) (l5 : H ≤ 2000) (hN : 0 ≤ M[i].f2 ∧ M[i].f2 ≤ 1048576) :
 plan_stocks.l1 (k + 1) h (mat H V F) M (M.length : Int) (i : Int) n b arcs = plan_stocks.l1 k h (mat H V (put2 F ia fr ti tn M[i].f2)) M (M.length : Int) ((i + 1 : Nat) : Int) n b arcs := by
 have efr : (rd_T54 arcs M[i].f0).f0 = (fr : Int) := hfr
 have eto : (rd_T54 arcs M[i].f0).f1 = (tn : Int) := hto
 have eti : (rd_T54 arcs M[i].f0).f3 = (ti : Int) := hti
 have g1 : (mat H V F).length = H := mat_length _ _ _
 have g2 : rd_L3 (mat H V F) (ia : Int) = row V (F ia) := rdL_row (by omega)
 have g3 : rd (row V (F ia)) (fr : Int) = F ia fr := rd_row l3
 have gN : (row V (F ia)).length = V := row_length _ _
 have hr := rdM_of hlt
 generalize M[i] = m at *
 have b1 : (i : Int) < (M.length : Int) := by omega
 have b2 : (0 : Int) ≤ (i : Int) := Int.natCast_nonneg _
 have b3 : (0 : Int) ≤ (ia : Int) := Int.natCast_nonneg _
 have b4 : (ia : Int) < ((mat H V F).length : Int) := by rw [g1]; omega
 have b5 : (0 : Int) ≤ (fr : Int) := Int.natCast_nonneg _
 have b6 : (fr : Int) < ((row V (F ia)).length : Int) := by rw [gN]; omega
 have b7 : (0 : Int) ≤ ((ia + ti : Nat) : Int) := Int.natCast_nonneg _
 have b8 : ((ia + ti : Nat) : Int) < ((mat H V F).length : Int) := by rw [g1]; omega
 have b9 : (0 : Int) ≤ (tn : Int) := Int.natCast_nonneg _
 have hG2 : -2199023255552 ≤ put1 F ia fr m.f2 (ia + ti) tn ∧ put1 F ia fr m.f2 (ia + ti) tn ≤ 2199023255552 := by
  rw [put1_eq]
  have h2 := hF (ia + ti) tn
  clear hF
  split <;> omega
 have g5 : rd_L3 (mat H V (put1 F ia fr m.f2)) ((ia + ti : Nat) : Int) = row V (put1 F ia fr m.f2 (ia + ti)) := rdL_row l2
 have g6 : rd (row V (put1 F ia fr m.f2 (ia + ti))) (tn : Int) = put1 F ia fr m.f2 (ia + ti) tn := rd_row l4
 have b10 : (tn : Int) < ((row V (put1 F ia fr m.f2 (ia + ti))).length : Int) := by rw [row_length]; omega
 have b11 : i ≤ 4611686018427387904 := by clear hF; omega
 have v0 := hF ia fr
 clear hF
 have v1 : -4611686018427387904 ≤ F ia fr - m.f2 ∧ F ia fr - m.f2 ≤ 4611686018427387904 := by omega
 have v2 : -4611686018427387904 ≤ put1 F ia fr m.f2 (ia + ti) tn + m.f2 ∧ put1 F ia fr m.f2 (ia + ti) tn + m.f2 ≤ 4611686018427387904 := by omega
 have v3 : -4611686018427387904 ≤ (ia : Int) + (ti : Int) ∧ (ia : Int) + (ti : Int) ≤ 4611686018427387904 := by omega
 have ew : wrap64 ((ia : Int) + (ti : Int)) = ((ia + ti : Nat) : Int) := (w64 v3.1 v3.2).trans (Int.natCast_add _ _).symm
 have e1 : wrap64 (F ia fr - m.f2) = F ia fr - m.f2 := w64 v1.1 v1.2
 have e2 : wrap64 (put1 F ia fr m.f2 (ia + ti) tn + m.f2) = put1 F ia fr m.f2 (ia + ti) tn + m.f2 := w64 v2.1 v2.2
 rw [plan_stocks.l1, if_pos b1, if_pos b2, if_pos b1, hr, if_pos ha0, if_pos ha1, hia, if_pos b3, if_pos b4, efr, eto, eti, if_pos b5, g2, if_pos b6, g3, e1, ew]
 simp only [Option.bind_some, Int.toNat_natCast]
 rw [mat_put1]
 rw [if_pos b7, if_pos b8, if_pos b9, g5, if_pos b10, g6, e2, mat_put2, wrap1 b11]
section
variable {n : Int} {b : Bool} {arcs : List S54} {s t h : Int} {M : List S85} (hn : NetOk n arcs) (hh : 0 ≤ h ∧ h ≤ 1024) (hM : M.length ≤ 1048576) (hmay : ∀ m ∈ M, May arcs s t h m)
def tH (h : Int) : Nat := h.toNat + 1
def tV (n : Int) : Nat := n.toNat
def SM (n : Int) (arcs : List S54) (h : Int) (M : List S85) : List (List Int) := mat (tH h) (tV n) (stk arcs M)
include hn hh hM hmay
theorem rstocks_row (x14 : List (List Int)) (a : Nat) (R : List (List Int) × Int) (hx : x14.length ≤ 2000) (hend : Ev (fun k => ebbtideref14_Stocks.l0 k h M (x14 ++ [row (tV n) (stk arcs M a)]) ((a + 1 : Nat) : Int) n b arcs) R) (ha : a < tH h) (d : Nat) :
 ∀ v, v + d = tV n → Ev (fun k => ebbtideref14_Stocks.l1 k h M x14 (a : Int) (row v (stk arcs M a)) (v : Int) n b arcs) R := by
 have h1 := hn.lo
 have h2 := hn.hi
 induction d with
 | zero =>
  intro v hv
  refine Ev.step (fun k => ?_) hend
  unfold tV at *
  rw [ebbtideref14_Stocks.l1, if_neg (by omega), if_pos (by omega), wrap1 (by unfold tH at ha; omega), show v = n.toNat by omega]
 | succ d ih =>
  intro v hv
  have hr := rstock_ev (b := b) hn hh hM hmay (v : Int) (a : Int)
  refine Ev.step (f := fun k => (ebbtideref14_Stock.f k n b arcs M (v : Int) (a : Int)).bind fun t1101 => if (row v (stk arcs M a)).length < 17592186044416 then ebbtideref14_Stocks.l1 k h M x14 (a : Int) (row v (stk arcs M a) ++ [t1101]) ((v + 1 : Nat) : Int) n b arcs else none) (fun k => ?_) ?_
  ·unfold tV at *
   rw [ebbtideref14_Stocks.l1, if_pos (by omega), wrap1 (by omega)]
  ·refine Ev.bind hr ?_
   have hl : (row v (stk arcs M a)).length < 17592186044416 := by rw [row_length]; unfold tV at hv; omega
   simp only [hl, if_true]
   rw [show wsum (cStk arcs (v : Int) (a : Int)) M = stk arcs M a v from rfl, row_snoc]
   exact ih (v + 1) (by omega)
theorem rstocks_loop (d : Nat) : ∀ a, a + d = tH h → Ev (fun k => ebbtideref14_Stocks.l0 k h M (mat a (tV n) (stk arcs M)) (a : Int) n b arcs) (SM n arcs h M, 0) := by
 induction d with
 | zero =>
  intro a ha
  refine ev_cst fun k => ?_
  rw [ebbtideref14_Stocks.l0, if_neg (by unfold tH at ha; omega), show a = tH h by omega]
  rfl
 | succ d ih =>
  intro a ha
  have ha2 : a < tH h := by omega
  have hl : (mat a (tV n) (stk arcs M)).length ≤ 2000 := by rw [mat_length]; unfold tH at ha2; omega
  refine Ev.step (fun k => ?_) (rstocks_row (b := b) hn hh hM hmay (mat a (tV n) (stk arcs M)) a (SM n arcs h M, 0) hl ?_ ha2 (tV n) 0 (by omega))
  ·rw [ebbtideref14_Stocks.l0, if_pos (by unfold tH at ha2; omega)]
   rfl
  ·have e : mat a (tV n) (stk arcs M) ++ [row (tV n) (stk arcs M a)] = mat (a + 1) (tV n) (stk arcs M) := by unfold mat; rw [row_snoc]
   rw [e]
   exact ih (a + 1) (by omega)
theorem s1_loop (d : Nat) : ∀ i, i + d = M.length → (Ev (fun k => plan_stocks.l2 k (mat (tH h) (tV n) (now arcs M)) h 0) (SM n arcs h M)) →
 Ev (fun k => plan_stocks.l1 k h (mat (tH h) (tV n) (now arcs (M.take i))) M (M.length : Int) (i : Int) n b arcs) (SM n arcs h M) := by
 induction d with
 | zero =>
  intro i hi hend
  refine Ev.step (fun k => ?_) hend
  rw [plan_stocks.l1, if_neg (by omega), List.take_of_length_le (by omega)]
 | succ d ih =>
  intro i hi hend
  have hlt : i < M.length := by omega
  have hm := hmay M[i] (List.getElem_mem hlt)
  have hok := arcAt_ok hn hm.a0 hm.a1
  have hN := may_n hn hmay (List.getElem_mem hlt)
  have hb1 : ∀ a v, -1099511627776 ≤ now arcs (M.take i) a v ∧ now arcs (M.take i) a v ≤ 1099511627776 := fun a v => stk_bd hn hM hmay (fun m hm => List.mem_of_mem_take hm) (by rw [List.length_take]; omega) _ (cNow_bd arcs _ _)
  have hs : ∀ a v : Nat, now arcs (M.take (i + 1)) a v = now arcs (M.take i) a v + cNow arcs (v : Int) (a : Int) (keyM M[i]) * M[i].f2 := by
   intro a v
   unfold now
   rw [List.take_succ_eq_append_getElem hlt, wsum_append, wsum_cons, wsum_nil, Int.add_zero]
  obtain ⟨ia, hia⟩ := Int.eq_ofNat_of_zero_le hm.b0
  obtain ⟨fr, hfr⟩ := Int.eq_ofNat_of_zero_le hok.f0.1
  obtain ⟨tn, hto⟩ := Int.eq_ofNat_of_zero_le hok.f1.1
  obtain ⟨ti, hti⟩ := Int.eq_ofNat_of_zero_le hok.f3.1
  have l2 : ia + ti < tH h := by have := hm.b1; unfold tH; omega
  have l3 : fr < tV n := by have := hok.f0; unfold tV; omega
  have l4 : tn < tV n := by have := hok.f1; unfold tV; omega
  have l5 : tH h ≤ 2000 := by unfold tH; omega
  have hst := fun k => s1_eq (h := h) (n := n) (b := b) (arcs := arcs) (H := tH h) (V := tV n) k i M hlt hM (now arcs (M.take i)) hb1 ia fr tn ti hm.a0 hm.a1 hia hfr hto hti l2 l3 l4 l5 hN
  refine Ev.step hst ?_
  have hi2 := ih (i + 1) (by omega) hend
  have e : mat (tH h) (tV n) (put2 (now arcs (M.take i)) ia fr ti tn M[i].f2) = mat (tH h) (tV n) (now arcs (M.take (i + 1))) := by
   refine mat_ext fun u w hu hw => ?_
   rw [hs, put2_eq]
   congr 2
   unfold cNow keyM
   simp only
   rw [hfr, hto, hti, hia]
   congr 1
   ·by_cases c : tn = w ∧ ia + ti = u
    ·rw [if_pos c, if_pos (by omega)]
    ·rw [if_neg c, if_neg (by omega)]
   ·by_cases c : fr = w ∧ ia = u
    ·rw [if_pos c, if_pos (by omega)]
    ·rw [if_neg c, if_neg (by omega)]
  rw [e]
  exact hi2
omit hn hh hM hmay in
theorem stk_succ (a v : Nat) : stk arcs M (a + 1) v = stk arcs M a v + now arcs M (a + 1) v := by
 unfold stk now
 rw [← wsum_add]
 refine wsum_congr fun x hx => ?_
 unfold cStk cIn cOut cNow
 generalize (keyM x).2 + (arcAt arcs (keyM x).1).f3 = p
 generalize (keyM x).2 = q
 by_cases c1 : (arcAt arcs (keyM x).1).f1 = (v : Int) <;> by_cases c2 : (arcAt arcs (keyM x).1).f0 = (v : Int) <;> simp only [c1, c2, true_and, false_and, if_false] <;> (repeat' split) <;> omega
omit hh hM in
theorem stk_zero (v : Nat) : stk arcs M 0 v = now arcs M 0 v := by
 unfold stk now
 refine wsum_congr fun x hx => ?_
 have hm := hmay x hx
 have hok := (arcAt_ok hn hm.a0 hm.a1).f3
 have hb := hm.b0
 have e2 : (keyM x).2 = x.f1 := rfl
 have e1 : (keyM x).1 = x.f0 := rfl
 unfold cStk cIn cOut cNow
 rw [e1, e2]
 by_cases c1 : (arcAt arcs x.f0).f1 = (v : Int) <;> by_cases c2 : (arcAt arcs x.f0).f0 = (v : Int) <;> simp only [c1, c2, true_and, false_and, if_false] <;> (repeat' split) <;> omega
def upto3 (arcs : List S54) (M : List S85) (a v0 : Nat) : Nat → Nat → Int := fun u w => if u ≤ a ∨ u = a + 1 ∧ w < v0 then stk arcs M u w else now arcs M u w
theorem s3_loop (a : Nat) (ha : a + 1 < tH h) (hend : Ev (fun k => plan_stocks.l2 k (mat (tH h) (tV n) (upto3 arcs M (a + 1) 0)) h ((a + 1 : Nat) : Int)) (SM n arcs h M)) (d : Nat) : ∀ v, v + d = tV n →
 Ev (fun k => plan_stocks.l3 k (mat (tH h) (tV n) (upto3 arcs M a v)) (a : Int) h (a : Int) (row (tV n) (stk arcs M a)) ((tV n : Nat) : Int) (v : Int)) (SM n arcs h M) := by
 have hlo := hn.lo
 have hhi := hn.hi
 have hHH : tH h = h.toNat + 1 := rfl
 have hVV : tV n = n.toNat := rfl
 induction d with
 | zero =>
  intro v hv
  refine Ev.step (fun k => ?_) hend
  rw [plan_stocks.l3, if_neg (by omega), wrap1 (by omega)]
  congr 1
  refine mat_ext fun u w hu hw => ?_
  unfold upto3
  by_cases c : u ≤ a ∨ u = a + 1 ∧ w < v
  ·rw [if_pos c, if_pos (by omega)]
  ·rw [if_neg c, if_neg (by omega)]
 | succ d ih =>
  intro v hv
  have hv2 : v < tV n := by omega
  refine Ev.step (fun k => ?_) (ih (v + 1) (by omega))
  have g2 : rd_L3 (mat (tH h) (tV n) (upto3 arcs M a v)) ((a + 1 : Nat) : Int) = row (tV n) (upto3 arcs M a v (a + 1)) := rdL_row ha
  have g3 : rd (row (tV n) (upto3 arcs M a v (a + 1))) (v : Int) = upto3 arcs M a v (a + 1) v := rd_row hv2
  have g4 : rd (row (tV n) (stk arcs M a)) (v : Int) = stk arcs M a v := rd_row hv2
  have e1 : upto3 arcs M a v (a + 1) v = now arcs M (a + 1) v := by unfold upto3; rw [if_neg (by omega)]
  have e2 := stk_succ (arcs := arcs) (M := M) a v
  have hb := stk_bd hn hM hmay (P := M) (fun _ h => h) (Nat.le_refl _) _ (cStk_bd arcs (v : Int) ((a + 1 : Nat) : Int))
  have e3 : wrap64 (now arcs M (a + 1) v + stk arcs M a v) = stk arcs M (a + 1) v := by
   rw [show now arcs M (a + 1) v + stk arcs M a v = stk arcs M (a + 1) v by omega]
   exact w64 (by unfold stk; omega) (by unfold stk; omega)
  rw [plan_stocks.l3, if_pos (by omega), if_pos (by omega), if_pos (by rw [row_length]; omega), wrap1 (by omega), if_pos (by omega), if_pos (by rw [mat_length]; omega), g2, if_pos (by rw [row_length]; omega), g3, g4, e1, e3]
  simp only [Int.toNat_natCast]
  rw [mat_put, wrap1 (by omega)]
  congr 1
  refine mat_ext fun u w hu hw => ?_
  by_cases c : u = a + 1 ∧ w = v
  ·obtain ⟨rfl, rfl⟩ := c
   rw [if_pos ⟨rfl, rfl⟩]
   unfold upto3
   rw [if_pos (by omega)]
  ·rw [if_neg c]
   unfold upto3
   by_cases c2 : u ≤ a ∨ u = a + 1 ∧ w < v
   ·rw [if_pos c2, if_pos (by omega)]
   ·rw [if_neg c2, if_neg (by omega)]
theorem s2_loop (d : Nat) : ∀ a, a + d = h.toNat → Ev (fun k => plan_stocks.l2 k (mat (tH h) (tV n) (upto3 arcs M a 0)) h (a : Int)) (SM n arcs h M) := by
 have hHH : tH h = h.toNat + 1 := rfl
 induction d with
 | zero =>
  intro a ha
  refine ev_cst fun k => ?_
  rw [plan_stocks.l2, if_neg (by omega)]
  congr 1
  refine mat_ext fun u w hu hw => ?_
  unfold upto3
  rw [if_pos (by omega)]
 | succ d ih =>
  intro a ha
  have g1 : rd_L3 (mat (tH h) (tV n) (upto3 arcs M a 0)) (a : Int) = row (tV n) (stk arcs M a) := by
   have : rd_L3 (mat (tH h) (tV n) (upto3 arcs M a 0)) (a : Int) = row (tV n) (upto3 arcs M a 0 a) := rdL_row (by omega)
   rw [this]
   refine row_ext fun w _ => ?_
   unfold upto3
   rw [if_pos (by omega)]
  refine Ev.step (fun k => ?_) (s3_loop hn hh hM hmay a (by omega) (ih (a + 1) (by omega)) (tV n) 0 (by omega))
  rw [plan_stocks.l2, if_pos (by omega), if_pos (by omega), if_pos (by rw [mat_length]; omega), g1, row_length]
  rfl
theorem s0_loop (d : Nat) : ∀ i, i + d = tH h → Ev (fun k => plan_stocks.l0 k h M (row (tH h) (fun a => if a < i then row (tV n) (fun _ => (0 : Int)) else [])) ((tH h : Nat) : Int) (i : Int) n b arcs) (SM n arcs h M) := by
 have hlo := hn.lo
 have hhi := hn.hi
 have hHH : tH h = h.toNat + 1 := rfl
 induction d with
 | zero =>
  intro i hi
  have h2 := s2_loop hn hh hM hmay h.toNat 0 (by omega)
  have e0 : mat (tH h) (tV n) (upto3 arcs M 0 0) = mat (tH h) (tV n) (now arcs M) := by
   refine mat_ext fun u w hu hw => ?_
   unfold upto3
   by_cases c : u ≤ 0 ∨ u = 0 + 1 ∧ w < 0
   ·rw [if_pos c, show u = 0 by omega]
    exact stk_zero hn hmay w
   ·rw [if_neg c]
  rw [e0] at h2
  refine Ev.step (fun k => ?_) (s1_loop (b := b) hn hh hM hmay M.length 0 (by omega) h2)
  rw [plan_stocks.l0, if_neg (by omega)]
  congr 1
  unfold mat
  refine row_ext fun u hu => ?_
  rw [if_pos (by omega)]
  refine row_ext fun w _ => ?_
  unfold now
  rw [List.take_zero, wsum_nil]
 | succ d ih =>
  intro i hi
  refine Ev.step (fun k => ?_) (ih (i + 1) (by omega))
  rw [plan_stocks.l0, if_pos (by omega), if_pos (by omega), if_pos (by omega), if_pos (by omega), if_pos (by rw [row_length]; omega), Int.toNat_natCast, row_replicate, row_set, wrap1 (by omega)]
  congr 1
  refine row_ext fun u hu => ?_
  by_cases c : u = i
  ·rw [if_pos c, if_pos (by omega)]; rfl
  ·rw [if_neg c]
   by_cases c2 : u < i
   ·rw [if_pos c2, if_pos (by omega)]
   ·rw [if_neg c2, if_neg (by omega)]
theorem stocks_ev : Ev (fun k => plan_stocks.f k n b arcs h M) (SM n arcs h M) := by
 have hHH : tH h = h.toNat + 1 := rfl
 have e1 : wrap64 (h + 1) = ((tH h : Nat) : Int) := by unfold wrap64; omega
 refine Ev.congr (fun k => ?_) (s0_loop (b := b) hn hh hM hmay (tH h) 0 (by omega))
 unfold plan_stocks.f
 rw [e1, if_pos (by omega), if_pos (by omega)]
 simp only [Option.bind_some, Int.toNat_natCast, List.length_replicate]
 congr 1
 rw [row_replicate]
 exact row_ext fun u _ => by rw [if_neg (by omega)]
end
end Go.Proofs.Ytfhkkbpkajfdlaa.P
end
