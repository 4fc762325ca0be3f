/- A part of the proof: words, contracts, plain lemmas. Conditions: none. -/
import Derived.Test.YtlcbpaenjjeenaaZTableMoves3
import Derived.Test.YtlcbpaenjjeenaaZTableMoves15
import Derived.Test.YtlcbpaenjjeenaaZTableMoves16
import Derived.Test.YtlcbpaenjjeenaaRows
import Derived.Deep.Slices
import Derived.ProofKit
import Derived.Test.YtlcbpaenjjeenaaZTableMoves14
import Derived.Test.YtlcbpaenjjeenaaZTableMoves12
import Derived.OpenShut
section
namespace Go.Proofs.Ytlcbpaenjjeenaa.P
open Go.Sort hiding rd
open Go.RowKit Go.Proofs.Ytlcbpaenjjeenaa.Q Go.Proofs.YtlcbpaenjjeenaaW.PrintWords Go.Proofs.YtlcbpaenjjeenaaW.PrintLast Go.Proofs.YtlcbpaenjjeenaaW.PrintMore
theorem mlt_trans {a b c : S56} (h : mlt a b) (k : mlt b c) : mlt a c := by unfold mlt at *; omega
theorem mlt_of_not {a b : S56} (h : ¬ mlt a b) (k : keyM b ≠ keyM a) : mlt b a := by
  have : ¬ (b.f0 = a.f0 ∧ b.f1 = a.f1) := fun h => k (by unfold keyM; rw [h.1, h.2])
  unfold mlt at *
  omega
theorem ins_ev (l : List S56) (x5 : Int) (R : List S56 × Int) : ∀ (n : Nat) (A B : List S56) (e : S56), A.length = n → n + B.length ≤ 4611686018427387904 → (A ++ B).Pairwise mlt → (∀ b ∈ B, mlt e b) → (∀ a ∈ A, keyM a ≠ keyM e) →
    (∀ L : List S56, L.Pairwise mlt → (∀ m, m ∈ L ↔ m = e ∨ m ∈ A ++ B) → L.length = A.length + B.length + 1 → Ev (fun k => ebbtideref03_Moves.l0 k l L (wrap64 (x5 + 1))) R) → Ev (fun k => ebbtideref03_Moves.l3 k l (A ++ e :: B) x5 (n : Int)) R := by
  intro n
  induction n with
  | zero =>
    intro A B e hA hn hs hB hne hc
    obtain rfl : A = [] := List.eq_nil_of_length_eq_zero hA
    refine Ev.step (fun k => by rw [ebbtideref03_Moves.l3, if_neg (by omega)]; rfl) (hc (e :: B) ?_ ?_ ?_)
    · rw [List.pairwise_cons]; exact ⟨hB, hs⟩
    · intro m; simp
    · simp
  | succ n ih =>
    intro A B e hA hn hs hB hne hc
    obtain ⟨A', a, rfl⟩ : ∃ A' a, A = A' ++ [a] := ⟨A.dropLast, A.getLast (fun h => by rw [h] at hA; cases hA), (List.dropLast_concat_getLast _).symm⟩
    have hA' : A'.length = n := by simpa using hA
    subst hA'
    have g1 : rd_T56 (A' ++ [a] ++ e :: B) ((A'.length + 1 : Nat) : Int) = e := by
      unfold rd_T56
      rw [Int.toNat_natCast, List.getD_eq_getElem?_getD, List.getElem?_append_right (by simp)]
      simp
    have g0 : rd_T56 (A' ++ [a] ++ e :: B) (A'.length : Int) = a := by
      unfold rd_T56
      rw [Int.toNat_natCast, List.getD_eq_getElem?_getD, List.append_assoc, List.getElem?_append_right (Nat.le_refl _)]
      simp
    have hw : wrap64 (((A'.length + 1 : Nat) : Int) - 1) = (A'.length : Int) := by unfold wrap64; omega
    have hlen : (A' ++ [a] ++ e :: B).length = A'.length + 1 + (B.length + 1) := by simp; omega
    have hsw : ((A' ++ [a] ++ e :: B).set (A'.length + 1) a).set A'.length e = A' ++ e :: a :: B := by
      rw [List.set_append_right _ _ (by simp)]
      simp only [List.length_append, List.length_singleton, Nat.sub_self, List.set_cons_zero]
      rw [List.append_assoc, List.set_append_right _ _ (Nat.le_refl _)]
      simp
    have hstep : ∀ k, ebbtideref03_Moves.l3 (k + 1) l (A' ++ [a] ++ e :: B) x5 ((A'.length + 1 : Nat) : Int) = if mlt e a then ebbtideref03_Moves.l3 k l (A' ++ e :: a :: B) x5 (A'.length : Int) else ebbtideref03_Moves.l0 k l (A' ++ [a] ++ e :: B) (wrap64 (x5 + 1)) := by
      intro k
      rw [ebbtideref03_Moves.l3, if_pos (by omega), if_pos (by omega), if_pos (by omega), hw, if_pos (by omega), if_pos (by omega), g1, g0]
      simp only [Int.toNat_natCast]
      rw [show ((⟨a.f0, a.f1, a.f2⟩ : S56)) = a from rfl, show ((⟨e.f0, e.f1, e.f2⟩ : S56)) = e from rfl, hsw]
      by_cases c1 : e.f1 < a.f1
      · rw [if_pos c1, if_pos (show mlt e a from .inl c1)]
      · rw [if_neg c1]
        by_cases c2 : e.f1 = a.f1
        · rw [if_pos c2]
          by_cases c3 : e.f0 < a.f0
          · rw [if_pos c3, if_pos (show mlt e a from .inr ⟨c2, c3⟩)]
          · rw [if_neg c3, if_neg (show ¬ mlt e a from fun h => by unfold mlt at h; omega)]
        · rw [if_neg c2, if_neg (show ¬ mlt e a from fun h => by unfold mlt at h; omega)]
    rw [List.append_assoc, List.singleton_append] at hs
    refine Ev.step hstep ?_
    by_cases c : mlt e a
    · simp only [c, if_true]
      refine ih A' (a :: B) e rfl (by simp at hn ⊢; omega) hs (fun b hb => ?_) (fun x hx => hne x (List.mem_append_left _ hx)) (fun L h1 h2 h3 => hc L h1 (fun m => ?_) (by simp at h3 ⊢; omega))
      · rcases List.mem_cons.1 hb with rfl | hb
        · exact c
        · exact hB b hb
      · rw [h2]; simp
    · simp only [c, if_false]
      have hae : mlt a e := mlt_of_not c (hne a (by simp))
      rw [List.pairwise_append] at hs
      obtain ⟨hs1, hs2, hs3⟩ := hs
      rw [List.pairwise_cons] at hs2
      refine hc _ ?_ (fun m => ?_) (by simp; omega)
      · rw [List.append_assoc, List.singleton_append, List.pairwise_append]
        refine ⟨hs1, ?_, ?_⟩
        · rw [List.pairwise_cons, List.pairwise_cons]
          refine ⟨fun b hb => ?_, hB, hs2.2⟩
          rcases List.mem_cons.1 hb with rfl | hb
          · exact hae
          · exact hs2.1 b hb
        · intro x hx b hb
          rcases List.mem_cons.1 hb with rfl | hb
          · exact hs3 x hx _ List.mem_cons_self
          · rcases List.mem_cons.1 hb with rfl | hb
            · exact mlt_trans (hs3 x hx a List.mem_cons_self) hae
            · exact hs3 x hx b (List.mem_cons_of_mem _ hb)
      · simp only [List.mem_append, List.mem_cons, List.not_mem_nil, or_false]
        constructor
        · rintro ((h | h) | h | h)
          · exact .inr (.inl (.inl h))
          · exact .inr (.inl (.inr h))
          · exact .inl h
          · exact .inr (.inr h)
        · rintro (h | (h | h) | h)
          · exact .inr (.inl h)
          · exact .inl (.inl h)
          · exact .inl (.inr h)
          · exact .inr (.inr h)
section
variable (l : List S56) (hlen : l.length ≤ 1048576)
include hlen
def newAt (l : List S56) (i : Nat) (j : Nat) : Bool := decide ((keyM (l.getD i z56)) ∉ (l.take j).map keyM)
omit hlen in
theorem newAt_succ (i j : Nat) (hj : j < l.length) : newAt l i (j + 1) = (newAt l i j && decide (keyM l[j] ≠ keyM (l.getD i z56))) := by
  unfold newAt
  rw [List.take_succ_eq_append_getElem hj, List.map_append, ← Bool.decide_and, decide_eq_decide]
  simp only [List.mem_append, List.map_cons, List.map_nil, List.mem_singleton, not_or]
  constructor
  · rintro ⟨h1, h2⟩; exact ⟨h1, fun h => h2 h.symm⟩
  · rintro ⟨h1, h2⟩; exact ⟨h1, fun h => h2 h.symm⟩
theorem rl1_ev (x4 : List S56) (R : List S56 × Int) (i : Nat) (hi : i < l.length) (h1 : newAt l i i = true → Ev (fun k => ebbtideref03_Moves.l2 k l x4 (i : Int) [] (i : Int)) R)
    (h2 : newAt l i i = false → Ev (fun k => ebbtideref03_Moves.l0 k l x4 ((i + 1 : Nat) : Int)) R) (d : Nat) : ∀ j, j + d = i → Ev (fun k => ebbtideref03_Moves.l1 k l x4 (i : Int) (newAt l i j) (j : Int)) R := by
  induction d with
  | zero =>
    intro j hj
    obtain rfl : j = i := by omega
    by_cases c : newAt l j j = true
    · refine Ev.step (fun k => ?_) (h1 c)
      rw [ebbtideref03_Moves.l1, if_neg (by omega), if_pos c]
    · refine Ev.step (fun k => ?_) (h2 (by simpa using c))
      rw [ebbtideref03_Moves.l1, if_neg (by omega), if_neg c, w1 (by omega)]
  | succ d ih =>
    intro j hj
    have hjl : j < l.length := by omega
    have hn := newAt_succ l i j hjl
    refine Ev.step (fun k => ?_) (ih (j + 1) (by omega))
    rw [ebbtideref03_Moves.l1, if_pos (by omega), w1 (by omega)]
    by_cases c : newAt l i j = true
    · rw [if_pos c, if_pos (by omega), if_pos (by omega), if_pos (by omega), if_pos (by omega), rdM_of hjl, rdM_of hi]
      rw [c, Bool.true_and] at hn
      rw [hn, List.getD_eq_getElem?_getD, List.getElem?_eq_getElem hi, Option.getD_some]
      by_cases e0 : l[j].f0 = l[i].f0
      · rw [if_pos e0]
        congr 1
        by_cases e1 : l[j].f1 = l[i].f1
        · have : keyM l[j] = keyM l[i] := by unfold keyM; rw [e0, e1]
          simp [e1, this]
        · have : keyM l[j] ≠ keyM l[i] := fun h => e1 (congrArg Prod.snd h)
          simp [e1, this]
      · rw [if_neg e0]
        have : keyM l[j] ≠ keyM l[i] := fun h => e0 (congrArg Prod.fst h)
        simp [this]
    · rw [if_neg c]
      have c' : newAt l i j = false := by simpa using c
      rw [c', Bool.false_and] at hn
      rw [hn]
def valsAt (l : List S56) (i j : Nat) : List Int := (((l.take j).drop i).filter (fun x => decide (keyM x = keyM (l.getD i z56)))).map S56.f2
theorem valsAt_length (i j : Nat) : (valsAt l i j).length ≤ l.length := by
  unfold valsAt
  rw [List.length_map]
  refine Nat.le_trans (List.length_filter_le _ _) ?_
  rw [List.length_drop, List.length_take]
  omega
theorem rl2_ev (x4 : List S56) (R : List S56 × Int) (i : Nat) (hi : i < l.length)
    (hend : Ev (fun k => (ebbtideref01_Sum.f k (valsAt l i l.length)).bind fun bt874 => (if bt874.2 = true then (if bt874.1 = 0 then (ebbtideref03_Moves.l0 k l x4 ((i + 1 : Nat) : Int)) else (if x4.length < 5864062014805 then ((some (x4 ++ [(⟨l[i].f0, l[i].f1, bt874.1⟩ : S56)] : List (S56))).bind fun y878 => (ebbtideref03_Moves.l3 k l y878 (i : Int) (wrap64 ((y878.length : Int) - 1)))) else (none))) else (some (([] : List (S56)), 10)))) R) (d : Nat) :
    ∀ j, i ≤ j → j + d = l.length → Ev (fun k => ebbtideref03_Moves.l2 k l x4 (i : Int) (valsAt l i j) (j : Int)) R := by
  induction d with
  | zero =>
    intro j hij hj
    obtain rfl : j = l.length := by omega
    refine Ev.step (fun k => ?_) hend
    rw [ebbtideref03_Moves.l2, if_neg (by omega), w1 (by omega), rdM_of hi]
    simp only [show (0 : Int) ≤ (i : Int) from by omega, show (i : Int) < (l.length : Int) from by omega, if_true]
  | succ d ih =>
    intro j hij hj
    have hjl : j < l.length := by omega
    have hv := valsAt_length l hlen i j
    refine Ev.step (fun k => ?_) (ih (j + 1) (by omega) (by omega))
    rw [ebbtideref03_Moves.l2, if_pos (by omega), if_pos (by omega), if_pos (by omega), if_pos (by omega), rdM_of hjl, rdM_of hi, w1 (by omega)]
    have hs : valsAt l i (j + 1) = if keyM l[j] = keyM l[i] then valsAt l i j ++ [l[j].f2] else valsAt l i j := by
      unfold valsAt
      rw [List.take_succ_eq_append_getElem hjl, List.drop_append_of_le_length (by rw [List.length_take]; omega), List.filter_append, List.map_append, List.getD_eq_getElem?_getD, List.getElem?_eq_getElem hi, Option.getD_some, List.filter_cons]
      by_cases c : keyM l[j] = keyM l[i]
      · simp [c]
      · simp [c]
    rw [hs]
    by_cases e0 : l[j].f0 = l[i].f0
    · rw [if_pos e0]
      by_cases e1 : l[j].f1 = l[i].f1
      · rw [if_pos e1, if_pos (by omega), if_pos (show keyM l[j] = keyM l[i] by unfold keyM; rw [e0, e1])]
      · rw [if_neg e1, if_neg (fun h => e1 (congrArg Prod.snd h))]
    · rw [if_neg e0, if_neg (fun h => e0 (congrArg Prod.fst h))]
omit hlen in
theorem vals_sum (i : Nat) (hi : i < l.length) (hnew : newAt l i i = true) : (valsAt l i l.length).sum = msum l (keyM l[i]) := by
  unfold valsAt msum sumK
  rw [List.take_length, List.getD_eq_getElem?_getD, List.getElem?_eq_getElem hi, Option.getD_some]
  unfold newAt at hnew
  rw [decide_eq_true_iff, List.getD_eq_getElem?_getD, List.getElem?_eq_getElem hi, Option.getD_some] at hnew
  generalize keyM l[i] = key at *
  conv => rhs; rw [← List.take_append_drop i l]
  have e : (l.take i).filter (fun x => decide (keyM x = key)) = [] := List.filter_eq_nil_iff.2 (fun x hx => by
    simp only [decide_eq_true_eq]
    intro h
    exact hnew (List.mem_map.2 ⟨x, hx, h⟩))
  rw [List.filter_append, List.map_append, List.sum_append, e]
  simp
structure Pre (l : List S56) (i : Nat) (L : List S56) : Prop where
  sorted : L.Pairwise mlt
  mem : ∀ m, m ∈ L ↔ keyM m ∈ keysOf keyM (l.take i) ∧ m.f2 = msum l (keyM m) ∧ m.f2 ≠ 0
  len : L.length ≤ i
theorem rmoves_loop (hl : ∀ x ∈ l, OkM x) (d : Nat) : ∀ (i : Nat) (L : List S56), i + d = l.length → Pre l i L → (∀ k ∈ keysOf keyM (l.take i), fits (msum l k)) →
    Ev (fun k => ebbtideref03_Moves.l0 k l L (i : Int)) (mergeR l) := by
  induction d with
  | zero =>
    intro i L hi hp hf
    obtain rfl : i = l.length := by omega
    refine ev_const fun k => ?_
    rw [ebbtideref03_Moves.l0, if_neg (by omega)]
    rw [List.take_length] at hf
    have hpm := hp.mem
    rw [List.take_length] at hpm
    unfold mergeR
    rw [if_pos (show AllFit l from hf), isMerge_unique (⟨hp.sorted, hpm⟩ : IsMerge l L) (mergeL_is l)]
  | succ d ih =>
    intro i L hi hp hf
    have hil : i < l.length := by omega
    have hkeys1 : keyM l[i] ∈ keysOf keyM (l.take i) → keysOf keyM (l.take (i + 1)) = keysOf keyM (l.take i) := fun h => by rw [List.take_succ_eq_append_getElem hil, keysOf_snoc, if_pos h]
    have hkeys2 : keyM l[i] ∉ keysOf keyM (l.take i) → keysOf keyM (l.take (i + 1)) = keysOf keyM (l.take i) ++ [keyM l[i]] := fun h => by rw [List.take_succ_eq_append_getElem hil, keysOf_snoc, if_neg h]
    have hnew : newAt l i i = decide (keyM l[i] ∉ keysOf keyM (l.take i)) := by
      unfold newAt
      rw [List.getD_eq_getElem?_getD, List.getElem?_eq_getElem hil, Option.getD_some, decide_eq_decide, mem_keysOf, List.mem_map]
    have hn0 : newAt l i 0 = true := by unfold newAt; simp
    refine Ev.step (fun k => ?_) (rl1_ev l hlen L (mergeR l) i hil ?_ ?_ i 0 (by omega))
    · rw [ebbtideref03_Moves.l0, if_pos (by omega), hn0]; rfl
    · intro hnw
      have hkn : keyM l[i] ∉ keysOf keyM (l.take i) := by rw [hnew, decide_eq_true_iff] at hnw; exact hnw
      have hkeys := hkeys2 hkn
      have hv0 : valsAt l i i = [] := by unfold valsAt; rw [List.drop_eq_nil_of_le (by rw [List.length_take]; omega)]; rfl
      have hmain := rl2_ev l hlen L (mergeR l) i hil ?_ (l.length - i) i (Nat.le_refl _) (by omega)
      · rw [hv0] at hmain
        exact hmain
      · have hvl := valsAt_length l hlen i l.length
        have hsum := vals_sum l i hil hnw
        have hsev : Ev (fun k => ebbtideref01_Sum.f k (valsAt l i l.length)) (sumFit (msum l (keyM l[i]))) := by
          rw [← hsum]
          refine ⟨l.length + 1, fun k hk => rsum_eq (by omega) (fun x hx => ?_) (by omega)⟩
          unfold valsAt at hx
          obtain ⟨y, hy, rfl⟩ := List.mem_map.1 hx
          rw [List.take_length] at hy
          exact (hl y (List.mem_of_mem_drop (List.mem_filter.1 hy).1)).2.2
        have hkl : keyM l[i] ∈ keysOf keyM l := (mem_keysOf _ _ _).2 ⟨l[i], List.getElem_mem hil, rfl⟩
        refine Ev.bind hsev ?_
        by_cases hfit : fits (msum l (keyM l[i]))
        · rw [sumFit_pos hfit]
          simp only [if_true]
          have hf' : ∀ k ∈ keysOf keyM (l.take (i + 1)), fits (msum l k) := by
            rw [hkeys]
            intro k hk
            rcases List.mem_append.1 hk with hk | hk
            · exact hf k hk
            · rw [List.mem_singleton.1 hk]; exact hfit
          by_cases hz : msum l (keyM l[i]) = 0
          · simp only [hz, if_true]
            refine ih (i + 1) L (by omega) ⟨hp.sorted, fun m => ?_, by have := hp.len; omega⟩ hf'
            rw [hp.mem, hkeys, List.mem_append, List.mem_singleton]
            constructor
            · rintro ⟨h1, h2, h3⟩; exact ⟨.inl h1, h2, h3⟩
            · rintro ⟨h1 | h1, h2, h3⟩
              · exact ⟨h1, h2, h3⟩
              · rw [h1, hz] at h2; exact absurd h2 h3
          · simp only [hz, if_false]
            have hLl := hp.len
            have hLl2 : L.length < 5864062014805 := by omega
            simp only [hLl2, if_true, Option.bind_some]
            have hw : wrap64 (((L ++ [(⟨l[i].f0, l[i].f1, msum l (keyM l[i])⟩ : S56)]).length : Int) - 1) = (L.length : Int) := by
              rw [List.length_append, List.length_singleton]; unfold wrap64; omega
            rw [hw]
            refine ins_ev l (i : Int) (mergeR l) L.length L [] ⟨l[i].f0, l[i].f1, msum l (keyM l[i])⟩ rfl (by simp; omega) (by simpa using hp.sorted) (fun b hb => by cases hb) (fun a ha he => ?_) (fun L' h1 h2 h3 => ?_)
            · have := ((hp.mem a).1 ha).1
              rw [he] at this
              exact hkn this
            · rw [w1 (by omega)]
              refine ih (i + 1) L' (by omega) ⟨h1, fun m => ?_, by simp at h3; omega⟩ hf'
              rw [h2, List.append_nil, hp.mem, hkeys, List.mem_append, List.mem_singleton]
              constructor
              · rintro (rfl | ⟨h4, h5, h6⟩)
                · exact ⟨.inr rfl, rfl, hz⟩
                · exact ⟨.inl h4, h5, h6⟩
              · rintro ⟨h4 | h4, h5, h6⟩
                · exact .inr ⟨h4, h5, h6⟩
                · refine .inl (s56_ext (congrArg Prod.fst h4) (congrArg Prod.snd h4) ?_)
                  rw [h5, h4]
        · rw [sumFit_neg hfit]
          have hna : ¬ AllFit l := fun h => hfit (h _ hkl)
          unfold mergeR
          rw [if_neg hna]
          exact Ev.now _
    · intro hnw
      have hkn : keyM l[i] ∈ keysOf keyM (l.take i) := by rw [hnew, decide_eq_false_iff_not, Classical.not_not] at hnw; exact hnw
      have hkeys := hkeys1 hkn
      refine ih (i + 1) L (by omega) ⟨hp.sorted, fun m => ?_, by have := hp.len; omega⟩ (by rw [hkeys]; exact hf)
      rw [hkeys]; exact hp.mem m
theorem rmoves_ev (hl : ∀ x ∈ l, OkM x) : Ev (fun k => ebbtideref03_Moves.f k l) (mergeR l) := by
  have h := rmoves_loop l hlen hl l.length 0 [] (by omega) ⟨List.Pairwise.nil, fun m => by simp [keysOf, once], Nat.le_refl _⟩ (by simp [keysOf, once])
  exact h
end
end Go.Proofs.Ytlcbpaenjjeenaa.P
end
section
namespace Go.Proofs.Ytlcbpaenjjeenaa.R
open Go.RowKit Go.Proofs.Ytlcbpaenjjeenaa.Q Go.Proofs.YtlcbpaenjjeenaaW.PrintWords Go.Proofs.YtlcbpaenjjeenaaW.PrintLast Go.Proofs.YtlcbpaenjjeenaaW.PrintMore
open Go.ChangeShapes Go.WideShapes Go.Deep
def Reads (t : TypeId) {α : Type} (d : Kd α) (G : Nat → α → Prop) : Prop :=
  ∀ {H : Type} (enc : TypeId × Value → H) (w : World) (base : Nat) (spare : Nat → Bool) (held : Bool) (fuel : Nat) (cs : List Value) (x : DataW H × List MemPlace),
    DataW.trod enc Try.prog w base spare held fuel t cs = some x → ∃ a, d.K w a cs ∧ ∀ N, Rows.uptoBulk x.1 ≤ N → G N a
def gInt (k : IntKind) (_ : Nat) (n : Int) : Prop := (Lit.int k n).wf = true
def gList {α : Type} (G : Nat → α → Prop) (N : Nat) (l : List α) : Prop := l.length ≤ maxLen ∧ l.length ≤ N ∧ ∀ x ∈ l, G N x
theorem readsInt {t : TypeId} {k : IntKind} (ht : Try.prog.underlying t = some (.int k)) : Reads t (Kd.int k) (gInt k) := by
  intro H enc w base spare held fuel cs x h
  obtain ⟨n, rfl, rfl, hw⟩ := DataW.trod_int ht h
  exact ⟨n, rfl, fun _ _ => hw⟩
theorem one_le {H : Type} (d : DataW H) : 1 ≤ Rows.uptoBulk d := by
  cases d with
  | lit l => cases l <;> simp [Rows.uptoBulk]
  | nil => simp [Rows.uptoBulk]
  | ptr d => simp [Rows.uptoBulk]
  | slice elems spare => simp [Rows.uptoBulk]
  | agg parts => simp [Rows.uptoBulk]
  | iface t d => simp [Rows.uptoBulk]
  | map entries => simp [Rows.uptoBulk]
  | held h => simp [Rows.uptoBulk]
theorem part_le {H : Type} {d : DataW H} {l : List (DataW H)} (h : d ∈ l) : Rows.uptoBulk d ≤ Rows.uptoBulkAll l := by
  induction l with
  | nil => cases h
  | cons x r ih =>
    simp only [Rows.uptoBulkAll]
    cases List.mem_cons.1 h with
    | inl e => subst e; omega
    | inr e => have := ih e; omega
theorem length_le {H : Type} (l : List (DataW H)) : l.length ≤ Rows.uptoBulkAll l := by
  induction l with
  | nil => simp [Rows.uptoBulkAll]
  | cons x r ih => have := one_le x; simp only [Rows.uptoBulkAll, List.length_cons]; omega
theorem readsSlice {t e : TypeId} {α : Type} [Inhabited α] {d : Kd α} {G : Nat → α → Prop} (ht : Try.prog.underlying t = some (.slice e)) (hc : Try.prog.cellsOf e = d.sz) (R : Reads e d G) : Reads t (Kd.slice e d) (gList G) := by
  intro H enc w base spare held fuel cs x h
  rcases open_slice ht h with ⟨rfl, rfl⟩ | ⟨a, len, cap, m, n, D, Pl, rfl, hb, hl, hm, hmm, rfl, hx⟩
  · exact ⟨[], ⟨none, 0, rfl, Nat.le_refl _, Kd.C_nil d w⟩, fun N _ => ⟨Nat.zero_le _, Nat.zero_le _, fun x hx => by cases hx⟩⟩
  · have hlm : len ≤ m := by rw [hmm]; split <;> omega
    obtain ⟨f, hf⟩ := choose_lt (α := α) (n := m) (p := fun i y => ∃ c, c.length = d.sz ∧ d.K w y c ∧ (∀ j u, c[j]? = some u → w.cell? (a.add (i * d.sz + j)) = some u) ∧ ∀ N, Rows.uptoBulk (D i) ≤ N → G N y) (fun i hi => by
      obtain ⟨c, h1, h2⟩ := hx i hi
      obtain ⟨y, hK, hG⟩ := R enc w base spare held n c _ h2
      obtain ⟨_, hlen, hcell⟩ := World.cells?_some h1
      rw [hc] at hlen hcell
      refine ⟨y, c, hlen, hK, fun j u hu => ?_, hG⟩
      have hj : j < d.sz := by rw [← hlen]; exact (List.getElem?_eq_some_iff.1 hu).1
      have := hcell j hj
      rw [Deep.add_add] at this
      rw [this, hu])
    have hL : ((List.range len).map f).length = len := by simp
    refine ⟨(List.range len).map f, ⟨some a, cap, by rw [hL], by rw [hL]; exact hl, ?_⟩, fun N hN => ?_⟩
    · refine ⟨rfl, by rw [hL]; exact Nat.le_trans hl (Nat.le_trans hm (by decide)), fun _ => ⟨a, rfl, fun j p hj => ?_⟩⟩
      have hjl : j < len := by
        have := (List.getElem?_eq_some_iff.1 hj).1
        rwa [hL] at this
      have hp : f j = p := by
        rw [List.getElem?_map, List.getElem?_range hjl] at hj
        exact Option.some.inj hj
      obtain ⟨c, h1, h2, h3, _⟩ := hf j (by omega)
      rw [hp] at h2
      exact ⟨c, h1, h2, h3⟩
    · have hbulk : Rows.uptoBulkAll ((List.range len).map D) ≤ N := by
        simp only [Rows.uptoBulk] at hN
        omega
      refine ⟨by rw [hL]; omega, by rw [hL]; have := length_le ((List.range len).map D); simp at this; omega, fun y hy => ?_⟩
      obtain ⟨i, hi, rfl⟩ := List.mem_map.1 hy
      have hi' := List.mem_range.1 hi
      obtain ⟨c, _, _, _, hG⟩ := hf i (by omega)
      exact hG N (Nat.le_trans (part_le (List.mem_map.2 ⟨i, hi, rfl⟩)) hbulk)
instance : Inhabited S42 := ⟨z42⟩
structure S24 where
  f0 : Int
  f1 : Int
  f2 : Int
def z24 : S24 := ⟨(0 : Int), (0 : Int), (0 : Int)⟩
def k24 : Kd S24 := Kd.iso (Kd.pair (Kd.int .i64) (Kd.pair (Kd.int .i64) (Kd.int .i64))) (fun x : S24 => (x.f0, x.f1, x.f2))
instance : Inhabited S24 := ⟨z24⟩
def g24 (N : Nat) (x : S24) : Prop := gInt .i64 N x.f0 ∧ gInt .i64 N x.f1 ∧ gInt .i64 N x.f2
set_option maxRecDepth 100000 in
theorem reads24 : Reads 24 k24 g24 := by
  intro H enc w base spare held fuel cs x h
  obtain ⟨xs, n, _, hx, hl, hlen, hf⟩ := DataW.trod_struct Try.underlying24 h
  have hl2 : cs.length = 3 := hl.trans (by kernel_rfl)
  have hlen2 : xs.length = 3 := hlen
  match xs, hlen2, cs, hl2 with
  | [y0, y1, y2], _, [v0, v1, v2], _ =>
    have c0 : Try.prog.cellsOf 3 = 1 := by kernel_rfl
    have e0 : DataW.trod enc Try.prog w base spare held n 3 (List.take (Try.prog.cellsOf 3) (List.drop 0 [v0, v1, v2])) = some y0 := hf 0 _ rfl
    rw [c0] at e0
    obtain ⟨a0, K0, G0⟩ := (readsInt Try.underlying3) enc w base spare held n [v0] y0 e0
    have c1 : Try.prog.cellsOf 3 = 1 := by kernel_rfl
    have e1 : DataW.trod enc Try.prog w base spare held n 3 (List.take (Try.prog.cellsOf 3) (List.drop 1 [v0, v1, v2])) = some y1 := hf 1 _ rfl
    rw [c1] at e1
    obtain ⟨a1, K1, G1⟩ := (readsInt Try.underlying3) enc w base spare held n [v1] y1 e1
    have c2 : Try.prog.cellsOf 3 = 1 := by kernel_rfl
    have e2 : DataW.trod enc Try.prog w base spare held n 3 (List.take (Try.prog.cellsOf 3) (List.drop 2 [v0, v1, v2])) = some y2 := hf 2 _ rfl
    rw [c2] at e2
    obtain ⟨a2, K2, G2⟩ := (readsInt Try.underlying3) enc w base spare held n [v2] y2 e2
    refine ⟨⟨a0, a1, a2⟩, ⟨_, _, rfl, K0, ⟨_, _, rfl, K1, K2⟩⟩, fun N hN => ?_⟩
    rw [hx] at hN
    simp only [List.map_cons, List.map_nil, Rows.uptoBulk, Rows.uptoBulkAll] at hN
    exact ⟨G0 N (by omega), G1 N (by omega), G2 N (by omega)⟩
instance : Inhabited S70 := ⟨z70⟩
instance : Inhabited S56 := ⟨z56⟩
def g56 (N : Nat) (x : S56) : Prop := gInt .i64 N x.f0 ∧ gInt .i64 N x.f1 ∧ gInt .i64 N x.f2
set_option maxRecDepth 100000 in
theorem reads56 : Reads 56 k56 g56 := by
  intro H enc w base spare held fuel cs x h
  obtain ⟨xs, n, _, hx, hl, hlen, hf⟩ := DataW.trod_struct Try.underlying56 h
  have hl2 : cs.length = 3 := hl.trans (by kernel_rfl)
  have hlen2 : xs.length = 3 := hlen
  match xs, hlen2, cs, hl2 with
  | [y0, y1, y2], _, [v0, v1, v2], _ =>
    have c0 : Try.prog.cellsOf 3 = 1 := by kernel_rfl
    have e0 : DataW.trod enc Try.prog w base spare held n 3 (List.take (Try.prog.cellsOf 3) (List.drop 0 [v0, v1, v2])) = some y0 := hf 0 _ rfl
    rw [c0] at e0
    obtain ⟨a0, K0, G0⟩ := (readsInt Try.underlying3) enc w base spare held n [v0] y0 e0
    have c1 : Try.prog.cellsOf 3 = 1 := by kernel_rfl
    have e1 : DataW.trod enc Try.prog w base spare held n 3 (List.take (Try.prog.cellsOf 3) (List.drop 1 [v0, v1, v2])) = some y1 := hf 1 _ rfl
    rw [c1] at e1
    obtain ⟨a1, K1, G1⟩ := (readsInt Try.underlying3) enc w base spare held n [v1] y1 e1
    have c2 : Try.prog.cellsOf 3 = 1 := by kernel_rfl
    have e2 : DataW.trod enc Try.prog w base spare held n 3 (List.take (Try.prog.cellsOf 3) (List.drop 2 [v0, v1, v2])) = some y2 := hf 2 _ rfl
    rw [c2] at e2
    obtain ⟨a2, K2, G2⟩ := (readsInt Try.underlying3) enc w base spare held n [v2] y2 e2
    refine ⟨⟨a0, a1, a2⟩, ⟨_, _, rfl, K0, ⟨_, _, rfl, K1, K2⟩⟩, fun N hN => ?_⟩
    rw [hx] at hN
    simp only [List.map_cons, List.map_nil, Rows.uptoBulk, Rows.uptoBulkAll] at hN
    exact ⟨G0 N (by omega), G1 N (by omega), G2 N (by omega)⟩
end Go.Proofs.Ytlcbpaenjjeenaa.R
end
section
namespace Go.Proofs.Ytlcbpaenjjeenaa.Q
open Go.RowKit Go.Proofs.YtlcbpaenjjeenaaW.PrintWords Go.Proofs.YtlcbpaenjjeenaaW.PrintLast Go.Proofs.YtlcbpaenjjeenaaW.PrintMore
set_option linter.unusedVariables false
set_option linter.unusedSimpArgs false
theorem eqA56 (d : Nat) (w : World) (x0 y0 : Int) (x1 y1 : Int) (x2 y2 : Int) :
  (Op.equalIn (d + 2) 56 (.agg #[.int .i64 x0, .int .i64 x1, .int .i64 x2]) (.agg #[.int .i64 y0, .int .i64 y1, .int .i64 y2])).run Try.prog w = .ok (x0 == y0 && (x1 == y1 && (x2 == y2))) w := by
 refine eqA_of Try.underlying56 (by kernel_rfl) ?_; refine eqf_cons (by rfl) (by go_simp; rfl) (by go_simp; rfl) (by go_simp) ?_; refine eqf_cons (by rfl) (by go_simp; rfl) (by go_simp; rfl) (by go_simp) ?_; exact eqf_last (by rfl) (by go_simp; rfl) (by go_simp; rfl) (by go_simp)
attribute [local go_sem high] eqA56
def ebbtideref03_SameMoves.l0 : Nat → List (S56) → List (S56) → Int → Option (Bool)
 | 0, _, _, _ => none
 | k + 1, x0, x1, x5 => if x5 < (x0.length : Int) then (if 0 ≤ x5 then (if x5 < (x1.length : Int) then (if (!(((rd_T56 x0 x5).f0) == ((rd_T56 x1 x5).f0)) || (!(((rd_T56 x0 x5).f1) == ((rd_T56 x1 x5).f1)) || (!(((rd_T56 x0 x5).f2) == ((rd_T56 x1 x5).f2))))) = true then (some false) else (ebbtideref03_SameMoves.l0 k x0 x1 (wrap64 (x5 + 1)))) else (none)) else (none)) else (some true)
def ebbtideref03_SameMoves.f (k : Nat) (l0 : List (S56)) (l1 : List (S56)) : Option (Bool) := if (l0.length : Int) = (l1.length : Int) then (ebbtideref03_SameMoves.l0 k l0 l1 0) else (some false)
set_option maxHeartbeats 8000000 in
set_option maxRecDepth 100000 in
theorem ebbtideref03_SameMoves.calls (k : Nat) (A0 : Option Addr) (c0 : Nat) (l0 : List (S56)) (A1 : Option Addr) (c1 : Nat) (l1 : List (S56)) (r : Bool) (w : World) (hr0 : Kd.C k56 w A0 l0.length l0) (hc0 : l0.length ≤ c0) (hr1 : Kd.C k56 w A1 l1.length l1) (hc1 : l1.length ≤ c1) (h : ebbtideref03_SameMoves.f k l0 l1 = some r) :
  Calls Try.prog 33 #[.slice A0 l0.length c0, .slice A1 l1.length c1] w fun e w' => e = .returned (.bool r) ∧ Drawn0 w w' := by
 have hu56 := Try.underlying56; have HR0 := Aside0.mk hr0; have HC0 := Aside0.mk hc0; clear hr0 hc0; have HR1 := Aside0.mk hr1; have HC1 := Aside0.mk hc1; clear hr1 hc1; have H : (if (l0.length : Int) = (l1.length : Int) then (ebbtideref03_SameMoves.l0 k l0 l1 0) else (some false)) = some r := h; clear h
 by_cases c3 : (l0.length : Int) = (l1.length : Int)
 ·rw [if_pos c3] at H
  have c3b0 : ((l0.length : Int) == (l1.length : Int)) = true := beq_iff_eq.mpr c3; have c3b1 : ((l0.length : Int) != (l1.length : Int)) = false := bne_eq_false_iff_eq.mpr c3
  have c3b2 : (l0.length == l1.length) = true := by first | simpa using c3 | (simp at c3 ⊢; omega)
  clear c3; have H' := Aside0.mk H; clear H
  go_enter Try.func33, Try.ntmps33
  go_wp2
  repeat (go_quiet (fail); try go_wp2)
  go_loopg [5] k (fun kq v5 w' => ∃ (x5_1 : Int), v5 = .int .i64 x5_1 ∧ Aside0 (ebbtideref03_SameMoves.l0 kq l0 l1 x5_1 = some r) ∧ Aside0 (kq ≤ k) ∧ Drawn0 w w')
  case atStart => exact ⟨(0), (by first | rfl | (simp; done) | (simp [*]; done)), H', ⟨Nat.le_refl _⟩, by repeat (first | exact Drawn0.refl _ | apply Drawn0.step)⟩
  case round =>
   clear H'
   try clear c1
   try clear p2
   try clear c3
   try clear c3b0
   try clear c3b1
   try clear c3b2
   obtain ⟨x5_1, rfl, HA, HK1, ⟨m1, rfl⟩⟩ := hrel
   cases gk with
   | zero => exact absurd HA.out (by simp [ebbtideref03_SameMoves.l0])
   | succ k1 =>
    have H := HA.out; clear HA; simp only [ebbtideref03_SameMoves.l0] at H
    by_cases c4 : x5_1 < (l0.length : Int)
    ·rw [if_pos c4] at H
     have c4b0 : decide (x5_1 < (l0.length : Int)) = true := decide_eq_true c4; clear c4
     by_cases c5 : 0 ≤ x5_1
     ·rw [if_pos c5] at H
      have c5b0 : decide (0 ≤ x5_1) = true := decide_eq_true c5; clear c5
      by_cases c6 : x5_1 < (l1.length : Int)
      ·rw [if_pos c6] at H
       have c6b0 : decide (x5_1 < (l1.length : Int)) = true := decide_eq_true c6; clear c6
       by_cases c7 : (!(((rd_T56 l0 x5_1).f0) == ((rd_T56 l1 x5_1).f0)) || (!(((rd_T56 l0 x5_1).f1) == ((rd_T56 l1 x5_1).f1)) || (!(((rd_T56 l0 x5_1).f2) == ((rd_T56 l1 x5_1).f2))))) = true
       ·rw [if_pos c7] at H
        have c7b0 : (!(((rd_T56 l0 x5_1).f0) == ((rd_T56 l1 x5_1).f0)) || (!(((rd_T56 l0 x5_1).f1) == ((rd_T56 l1 x5_1).f1)) || (!(((rd_T56 l0 x5_1).f2) == ((rd_T56 l1 x5_1).f2))))) = true := c7; clear c7; obtain rfl := Option.some.inj H; have p422 : 0 ≤ (x5_1 : Int) := of_decide_eq_true (by first | (with_reducible assumption) | assumption); have q422 : x5_1 < (l0.length : Int) := of_decide_eq_true (by first | (with_reducible assumption) | assumption); obtain ⟨ad422, e422, hx422_0, hx422_1, hx422_2⟩ := at_T56 HR0.out x5_1 p422 q422; cases e422; replace p422 := eq_true p422; replace q422 := eq_true q422; have p423 : 0 ≤ (x5_1 : Int) := of_decide_eq_true (by first | (with_reducible assumption) | assumption); have q423 : x5_1 < (l1.length : Int) := of_decide_eq_true (by first | (with_reducible assumption) | assumption); obtain ⟨ad423, e423, hx423_0, hx423_1, hx423_2⟩ := at_T56 HR1.out x5_1 p423 q423; cases e423; replace p423 := eq_true p423; replace q423 := eq_true q423
        go_wp2
        repeat (go_quiet (fail); try go_wp2)
        go_ret
        exact ⟨by first | rfl | (simp; done) | (simp [*]; done), by repeat (first | exact Drawn0.refl _ | apply Drawn0.step)⟩
       ·rw [if_neg c7] at H
        have c7b0 : (!(((rd_T56 l0 x5_1).f0) == ((rd_T56 l1 x5_1).f0)) || (!(((rd_T56 l0 x5_1).f1) == ((rd_T56 l1 x5_1).f1)) || (!(((rd_T56 l0 x5_1).f2) == ((rd_T56 l1 x5_1).f2))))) = false := by simpa using c7
        clear c7; have H' := Aside0.mk H; clear H; have p422 : 0 ≤ (x5_1 : Int) := of_decide_eq_true (by first | (with_reducible assumption) | assumption); have q422 : x5_1 < (l0.length : Int) := of_decide_eq_true (by first | (with_reducible assumption) | assumption); obtain ⟨ad422, e422, hx422_0, hx422_1, hx422_2⟩ := at_T56 HR0.out x5_1 p422 q422; cases e422; replace p422 := eq_true p422; replace q422 := eq_true q422; have p423 : 0 ≤ (x5_1 : Int) := of_decide_eq_true (by first | (with_reducible assumption) | assumption); have q423 : x5_1 < (l1.length : Int) := of_decide_eq_true (by first | (with_reducible assumption) | assumption); obtain ⟨ad423, e423, hx423_0, hx423_1, hx423_2⟩ := at_T56 HR1.out x5_1 p423 q423; cases e423; replace p423 := eq_true p423; replace q423 := eq_true q423
        go_wp2
        repeat (go_quiet (fail); try go_wp2)
        go_roundg k1
        case measure => have := HK1.out; omega
        case rel => exact ⟨(wrap64 (x5_1 + 1)), (by first | rfl | (simp; done) | (simp [*]; done)), H', ⟨by have := HK1.out; omega⟩, by repeat (first | exact Drawn0.refl _ | apply Drawn0.step)⟩
      ·rw [if_neg c6] at H
       exact absurd H (by simp)
     ·rw [if_neg c5] at H
      exact absurd H (by simp)
    ·rw [if_neg c4] at H
     have c4b0 : decide (x5_1 < (l0.length : Int)) = false := decide_eq_false c4; clear c4; obtain rfl := Option.some.inj H
     go_wp2
     repeat (go_quiet (fail); try go_wp2)
     go_ret
     exact ⟨by first | rfl | (simp; done) | (simp [*]; done), by repeat (first | exact Drawn0.refl _ | apply Drawn0.step)⟩
 ·rw [if_neg c3] at H
  have c3b0 : ((l0.length : Int) == (l1.length : Int)) = false := beq_eq_false_iff_ne.mpr c3; have c3b1 : ((l0.length : Int) != (l1.length : Int)) = true := bne_iff_ne.mpr c3
  have c3b2 : (l0.length == l1.length) = false := by first | simpa using c3 | (simp at c3 ⊢; omega)
  obtain rfl := Option.some.inj H
  go_enter Try.func33, Try.ntmps33
  go_wp2
  repeat (go_quiet (fail); try go_wp2)
  go_ret
  exact ⟨by first | rfl | (simp; done) | (simp [*]; done), by repeat (first | exact Drawn0.refl _ | apply Drawn0.step)⟩
def ebbtidelaw03_TableMoves.f (k : Nat) (l0 : List (S56)) : Option (Bool) := if (l0.length : Int) > 200 then ((ebbtidelaw03_awake.f k).bind fun t424 => (some t424)) else ((table_Moves.f k l0).bind fun bt425 => ((ebbtideref03_Moves.f k l0).bind fun bt429 => ((ebbtidelaw03_awake.f k).bind fun t433 => (if t433 = true then ((ebbtideref03_SameMoves.f k bt425.1 bt429.1).bind fun t434 => (if t434 = true then (some (bt425.2 == bt429.2)) else (some false))) else (some false)))))
set_option maxHeartbeats 8000000 in
set_option maxRecDepth 100000 in
theorem ebbtidelaw03_TableMoves.calls (k : Nat) (A0 : Option Addr) (c0 : Nat) (l0 : List (S56)) (r : Bool) (w : World) (hr0 : Kd.C k56 w A0 l0.length l0) (hc0 : l0.length ≤ c0) (h : ebbtidelaw03_TableMoves.f k l0 = some r) (hrt : r = true := by first | rfl | exact HRT.out | assumption) :
  Calls Try.prog 11 #[.slice A0 l0.length c0] w fun e w' => e = .returned (.bool r) ∧ Below w.heap.size w w' := by
 have HRT := Aside0.mk hrt; clear hrt; have HR0 := Aside0.mk hr0; have HC0 := Aside0.mk hc0; clear hr0 hc0; have HB := Aside0.mk (Below.refl w.heap.size w); have H : (if (l0.length : Int) > 200 then ((ebbtidelaw03_awake.f k).bind fun t424 => (some t424)) else ((table_Moves.f k l0).bind fun bt425 => ((ebbtideref03_Moves.f k l0).bind fun bt429 => ((ebbtidelaw03_awake.f k).bind fun t433 => (if t433 = true then ((ebbtideref03_SameMoves.f k bt425.1 bt429.1).bind fun t434 => (if t434 = true then (some (bt425.2 == bt429.2)) else (some false))) else (some false)))))) = some r := h; clear h
 by_cases c2 : (l0.length : Int) > 200
 ·rw [if_pos c2] at H
  have c2b0 : decide (200 < (l0.length : Int)) = true := decide_eq_true c2; have c2b1 : decide (200 < l0.length) = true := decide_eq_true (by omega); clear c2; replace H := Option.bind_eq_some_iff.mp H; obtain ⟨t424, A30, H⟩ := H; replace H : (some t424) = some r := H; have A3 := Aside0.mk A30; clear A30; obtain rfl := Option.some.inj H
  go_enter Try.func11, Try.ntmps11
  go_wp2_with (first | ((with_reducible refine gate_callee (f := 13) rfl ?_); refine goesL_ (some 10) rfl rfl Try.func13 (by kernel_rfl) rfl #[] rfl (by (try simp only [List.map_toArray, List.map_cons, List.map_nil]); first | done | rfl | (simp only [List.length_drop, List.length_take]; rfl)) ?_; (with_reducible refine (ebbtidelaw03_awake.calls k  t424 _ A3.out).mono ?_); rintro e w4 ⟨rfl, hb⟩; refine ⟨_, rfl, ?_⟩; have n0_ := Aside0.mk (below_step (by repeat (first | (with_reducible first | exact HB.out | apply below_alloc | apply pw_below_drewN | apply below_drew1) | exact HB.out)) hb); clear HB; have HB := n0_; clear n0_; (try clear hb); (try clear hb2); (try clear hk); (try clear hi)))
  go_ret
  exact ⟨by first | rfl | (simp [errW_none, errW_some] <;> rfl) | (simp [*, errW_none, errW_some] <;> rfl), by repeat (first | (with_reducible first | exact HB.out | apply below_alloc | apply pw_below_drewN | apply below_drew1) | exact HB.out)⟩
 ·rw [if_neg c2] at H
  have c2b0 : decide (200 < (l0.length : Int)) = false := decide_eq_false c2; have c2b1 : decide (200 < l0.length) = false := decide_eq_false (by omega); clear c2; replace H := Option.bind_eq_some_iff.mp H; obtain ⟨⟨t425, t426⟩, A50, H⟩ := H; replace H : ((ebbtideref03_Moves.f k l0).bind fun bt429 => ((ebbtidelaw03_awake.f k).bind fun t433 => (if t433 = true then ((ebbtideref03_SameMoves.f k t425 bt429.1).bind fun t434 => (if t434 = true then (some (t426 == bt429.2)) else (some false))) else (some false)))) = some r := H; have A5 := Aside0.mk A50; clear A50; replace H := Option.bind_eq_some_iff.mp H; obtain ⟨⟨t429, t430⟩, A60, H⟩ := H; replace H : ((ebbtidelaw03_awake.f k).bind fun t433 => (if t433 = true then ((ebbtideref03_SameMoves.f k t425 t429).bind fun t434 => (if t434 = true then (some (t426 == t430)) else (some false))) else (some false))) = some r := H; have A6 := Aside0.mk A60; clear A60; replace H := Option.bind_eq_some_iff.mp H; obtain ⟨t433, A70, H⟩ := H; replace H : (if t433 = true then ((ebbtideref03_SameMoves.f k t425 t429).bind fun t434 => (if t434 = true then (some (t426 == t430)) else (some false))) else (some false)) = some r := H; have A7 := Aside0.mk A70; clear A70
  by_cases c8 : t433 = true
  ·subst c8
   have H1 : ((ebbtideref03_SameMoves.f k t425 t429).bind fun t434 => (if t434 = true then (some (t426 == t430)) else (some false))) = some r := by rw [if_pos rfl] at H; exact H
   clear H; have H := H1; clear H1; replace H := Option.bind_eq_some_iff.mp H; obtain ⟨t434, A90, H⟩ := H; replace H : (if t434 = true then (some (t426 == t430)) else (some false)) = some r := H; have A9 := Aside0.mk A90; clear A90
   by_cases c10 : t434 = true
   ·subst c10
    have H1 : (some (t426 == t430)) = some r := by rw [if_pos rfl] at H; exact H
    clear H; have H := H1; clear H1; obtain rfl := Option.some.inj H
    go_enter Try.func11, Try.ntmps11
    go_wp2_with (first | ((with_reducible refine gate_callee (f := 31) rfl ?_); refine goesL_ (some 13) rfl rfl Try.func31 (by kernel_rfl) rfl #[.slice A0 l0.length c0] rfl (by (try simp only [List.map_toArray, List.map_cons, List.map_nil]); first | done | rfl | (simp only [List.length_drop, List.length_take]; rfl)) ?_; (with_reducible refine (table_Moves.calls k _ _ l0 t425 t426 _ ?side1 ?side2 A5.out).mono ?_); (case side1 => repeat (first | exact HR0.out | (with_reducible refine Kd.C_alloc ?_ _) | (with_reducible refine Kd.C_drewN ?_ _) | (with_reducible refine Kd.C_drew ?_))); (case side2 => exact HC0.out); rintro e w11 ⟨v427, rfl, ho0, hb⟩; refine ⟨_, rfl, ?_⟩; have n0_ := Aside0.mk (Kd.R_lower ho0 (below_size (by repeat (first | (with_reducible first | exact HB.out | apply below_alloc | apply pw_below_drewN | apply below_drew1) | exact HB.out)))); have n1_ := Aside0.mk (below_step (by repeat (first | (with_reducible first | exact HB.out | apply below_alloc | apply pw_below_drewN | apply below_drew1) | exact HB.out)) hb); clear HB; have HO428 := n0_; have HB := n1_; clear n0_ n1_; (try clear hb); (try clear hb2); (try clear hk); (try clear hi); (try clear ho0)) | ((with_reducible refine gate_callee (f := 32) rfl ?_); refine goesL_ (some 18) rfl rfl Try.func32 (by kernel_rfl) rfl #[.slice A0 l0.length c0] rfl (by (try simp only [List.map_toArray, List.map_cons, List.map_nil]); first | done | rfl | (simp only [List.length_drop, List.length_take]; rfl)) ?_; (with_reducible refine (ebbtideref03_Moves.calls k _ _ l0 t429 t430 _ ?side1 ?side2 A6.out).mono ?_); (case side1 => repeat (first | exact (Kd.C_below HR0.out HB.out) | (with_reducible refine Kd.C_alloc ?_ _) | (with_reducible refine Kd.C_drewN ?_ _) | (with_reducible refine Kd.C_drew ?_))); (case side2 => exact HC0.out); rintro e w12 ⟨v431, rfl, ho0, hb⟩; refine ⟨_, rfl, ?_⟩; have n0_ := Aside0.mk (Kd.R_elder' (by (with_reducible repeat (first | apply Kd.R_alloc | apply Kd.R_drewN | apply Kd.R_drew)); exact HO428.out) (Kd.R_base ho0) hb); have n1_ := Aside0.mk (Kd.R_lower (Kd.R_new' ho0 (Kd.R_lt (by (with_reducible repeat (first | apply Kd.R_alloc | apply Kd.R_drewN | apply Kd.R_drew)); exact HO428.out))) (below_size (by repeat (first | (with_reducible first | exact HB.out | apply below_alloc | apply pw_below_drewN | apply below_drew1) | exact HB.out)))); have n2_ := Aside0.mk (below_step (by repeat (first | (with_reducible first | exact HB.out | apply below_alloc | apply pw_below_drewN | apply below_drew1) | exact HB.out)) hb); clear HO428; clear HB; have HO428 := n0_; have HO432 := n1_; have HB := n2_; clear n0_ n1_ n2_; (try clear hb); (try clear hb2); (try clear hk); (try clear hi); (try clear ho0)) | ((with_reducible refine gate_callee (f := 13) rfl ?_); refine goesL_ (some 21) rfl rfl Try.func13 (by kernel_rfl) rfl #[] rfl (by (try simp only [List.map_toArray, List.map_cons, List.map_nil]); first | done | rfl | (simp only [List.length_drop, List.length_take]; rfl)) ?_; (with_reducible refine (ebbtidelaw03_awake.calls k  true _ A7.out).mono ?_); rintro e w13 ⟨rfl, hb⟩; refine ⟨_, rfl, ?_⟩; have n0_ := Aside0.mk (Kd.R_below (by (with_reducible repeat (first | apply Kd.R_alloc | apply Kd.R_drewN | apply Kd.R_drew)); exact HO428.out) hb); have n1_ := Aside0.mk (Kd.R_below (by (with_reducible repeat (first | apply Kd.R_alloc | apply Kd.R_drewN | apply Kd.R_drew)); exact HO432.out) hb); have n2_ := Aside0.mk (below_step (by repeat (first | (with_reducible first | exact HB.out | apply below_alloc | apply pw_below_drewN | apply below_drew1) | exact HB.out)) hb); clear HO428; clear HO432; clear HB; have HO428 := n0_; have HO432 := n1_; have HB := n2_; clear n0_ n1_ n2_; (try clear hb); (try clear hb2); (try clear hk); (try clear hi); obtain ⟨Ao14, co14, eo14⟩ := Kd.R_slice HO428.out; subst eo14; obtain ⟨Ao15, co15, eo15⟩ := Kd.R_slice HO432.out; subst eo15) | (go_at_call 33; (with_reducible refine (ebbtideref03_SameMoves.calls k _ _ t425 _ _ t429 true _ ?side1 ?side2 ?side3 ?side4 A9.out).mono ?_); (case side1 => repeat (first | exact (Kd.R_reads' HO428.out).2.2 | (with_reducible refine Kd.C_alloc ?_ _) | (with_reducible refine Kd.C_drewN ?_ _) | (with_reducible refine Kd.C_drew ?_))); (case side2 => exact (Kd.R_reads' HO428.out).2.1); (case side3 => repeat (first | exact (Kd.R_reads' HO432.out).2.2 | (with_reducible refine Kd.C_alloc ?_ _) | (with_reducible refine Kd.C_drewN ?_ _) | (with_reducible refine Kd.C_drew ?_))); (case side4 => exact (Kd.R_reads' HO432.out).2.1); rintro e w' ⟨rfl, ⟨nd, rfl⟩⟩))
    go_ret
    exact ⟨by first | rfl | (simp [errW_none, errW_some] <;> rfl) | (simp [*, errW_none, errW_some] <;> rfl), by repeat (first | (with_reducible first | exact HB.out | apply below_alloc | apply pw_below_drewN | apply below_drew1) | exact HB.out)⟩
   ·replace c10 := Bool.eq_false_iff.mpr c10
    subst c10
    have H1 : (some false) = some r := by rw [if_neg (show ¬ (false = true) by decide)] at H; exact H
    clear H; have H := H1; clear H1; exact absurd ((Option.some.inj H).trans HRT.out) (by decide)
  ·replace c8 := Bool.eq_false_iff.mpr c8
   subst c8
   have H1 : (some false) = some r := by rw [if_neg (show ¬ (false = true) by decide)] at H; exact H
   clear H; have H := H1; clear H1; exact absurd ((Option.some.inj H).trans HRT.out) (by decide)
end Go.Proofs.Ytlcbpaenjjeenaa.Q
end
section
namespace Go.Proofs.Ytlcbpaenjjeenaa.R
open Go.RowKit Go.Proofs.Ytlcbpaenjjeenaa.Q Go.Proofs.YtlcbpaenjjeenaaW.PrintWords Go.Proofs.YtlcbpaenjjeenaaW.PrintLast Go.Proofs.YtlcbpaenjjeenaaW.PrintMore
def TableMoves.Pure : Prop := ∀ N0 : Nat, ∀ (x0 : List S56), gList (g56) N0 x0 → ∃ k, ebbtidelaw03_TableMoves.f k x0 = some true
end Go.Proofs.Ytlcbpaenjjeenaa.R
end
section
namespace Go.Proofs.Ytlcbpaenjjeenaa.Pure
open Go.RowKit Go.Proofs.Ytlcbpaenjjeenaa.Q Go.Proofs.Ytlcbpaenjjeenaa.P Go.Proofs.YtlcbpaenjjeenaaW.PrintWords Go.Proofs.YtlcbpaenjjeenaaW.PrintLast Go.Proofs.YtlcbpaenjjeenaaW.PrintMore
open Go.Proofs.Ytlcbpaenjjeenaa.R
theorem sameMoves_ev (l : List S56) (hl : l.length ≤ 4611686018427387904) : Ev (fun k => ebbtideref03_SameMoves.f k l l) true := by
  have hloop : ∀ d i, i + d = l.length → Ev (fun k => ebbtideref03_SameMoves.l0 k l l (i : Int)) true := by
    intro d
    induction d with
    | zero => intro i hi; exact ev_cst fun k => by rw [ebbtideref03_SameMoves.l0, if_neg (by omega)]
    | succ d ih =>
      intro i hi
      refine Ev.step (fun k => ?_) (ih (i + 1) (by omega))
      rw [ebbtideref03_SameMoves.l0, if_pos (by omega), if_pos (by omega), if_pos (by omega), if_neg (by simp), wrap1 (by omega)]
  refine Ev.congr (fun k => ?_) (hloop l.length 0 (by omega))
  unfold ebbtideref03_SameMoves.f
  rw [if_pos rfl]
  rfl
theorem TableMoves : TableMoves.Pure := by
  intro N0 l g
  apply Ev.rounds
  unfold ebbtidelaw03_TableMoves.f ebbtidelaw03_awake.f
  by_cases c : (l.length : Int) > 200
  · simp only [c, if_true, Option.bind_some]; exact Ev.now _
  · have hlen : l.length ≤ 1048576 := by omega
    have hl : ∀ x ∈ l, OkM x := fun x hx => ⟨Go.bounds_i64 (g.2.2 x hx).1, Go.bounds_i64 (g.2.2 x hx).2.1, Go.bounds_i64 (g.2.2 x hx).2.2⟩
    simp only [c, if_false, if_true, Option.bind_some]
    refine Ev.bind (moves_ev l hlen hl) (Ev.bind (rmoves_ev l hlen hl) ?_)
    refine Ev.bind (sameMoves_ev _ ?_) ?_
    · unfold mergeR
      split
      · exact Nat.le_trans (mergeL_length l) (by omega)
      · exact Nat.zero_le _
    · simp only [if_true, beq_self_eq_true]
      exact Ev.now _
end Go.Proofs.Ytlcbpaenjjeenaa.Pure
end
