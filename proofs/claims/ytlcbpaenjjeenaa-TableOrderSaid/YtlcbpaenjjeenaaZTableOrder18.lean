/- A part of the proof: words, contracts, plain lemmas. Conditions: none. -/
import Derived.Test.YtlcbpaenjjeenaaZTableOrder16
import Derived.Test.YtlcbpaenjjeenaaZTableOrder17
import Derived.Test.YtlcbpaenjjeenaaZTableOrder3
import Derived.Test.YtlcbpaenjjeenaaZTableOrder12
import Derived.Test.YtlcbpaenjjeenaaZTableOrder13
import Derived.OpenShut
import Derived.Test.YtlcbpaenjjeenaaRows
import Derived.WalkKit
import Derived.ProofKit
import Derived.ShutString
import Derived.ChangeOld
import Derived.Below
import Derived.SizedLaws
section
namespace Go.Proofs.Ytlcbpaenjjeenaa.R
open Go.RowKit Go.Proofs.Ytlcbpaenjjeenaa.Q Go.Proofs.YtlcbpaenjjeenaaW.PrintWords Go.Proofs.YtlcbpaenjjeenaaW.PrintLast Go.Proofs.YtlcbpaenjjeenaaW.PrintMore
def TableOrder.Pure : Prop := ∀ N0 : Nat, ∀ N1 : Nat, ∀ (x0 : List S56) (x1 : List S70), gList (g56) N0 x0 → gList (g70) N1 x1 → ∃ k, ebbtidelaw03_TableOrder.f k x0 x1 = some true
end Go.Proofs.Ytlcbpaenjjeenaa.R
end
section
namespace Go.Proofs.Ytlcbpaenjjeenaa.Q
open Go.RowKit Go.Proofs.YtlcbpaenjjeenaaW.PrintWords Go.Proofs.YtlcbpaenjjeenaaW.PrintLast Go.Proofs.YtlcbpaenjjeenaaW.PrintMore
set_option linter.unusedVariables false
set_option linter.unusedSimpArgs false
attribute [local go_sem high] eqA70
mutual
def ebbtideref03_Slots.l0 : Nat → List (S70) → List (S70) → Int → Option ((List (S70)))
 | 0, _, _, _ => none
 | k + 1, x0, x3, x4 => if x4 < (x0.length : Int) then (ebbtideref03_Slots.l1 k x0 x3 x4 false 0) else (some x3)
def ebbtideref03_Slots.l1 : Nat → List (S70) → List (S70) → Int → Bool → Int → Option ((List (S70)))
 | 0, _, _, _, _, _ => none
 | k + 1, x0, x3, x4, x5, x6 => if x6 < (x3.length : Int) then (if x5 = true then (ebbtideref03_Slots.l1 k x0 x3 x4 true (wrap64 (x6 + 1))) else (if 0 ≤ x6 then (if 0 ≤ x4 then (if x4 < (x0.length : Int) then (ebbtideref03_Slots.l1 k x0 x3 x4 (((rd_T70 x3 x6).f0) == ((rd_T70 x0 x4).f0) && (((rd_T70 x3 x6).f1) == ((rd_T70 x0 x4).f1))) (wrap64 (x6 + 1))) else (none)) else (none)) else (none))) else (if x5 = true then (ebbtideref03_Slots.l0 k x0 x3 (wrap64 (x4 + 1))) else (if 0 ≤ x4 then (if x4 < (x0.length : Int) then (if x3.length < 8796093022208 then ((some (x3 ++ [(⟨(rd_T70 x0 x4).f0, (rd_T70 x0 x4).f1⟩ : S70)] : List (S70))).bind fun y320 => (ebbtideref03_Slots.l2 k x0 y320 x4 (wrap64 ((y320.length : Int) - 1)))) else (none)) else (none)) else (none)))
def ebbtideref03_Slots.l2 : Nat → List (S70) → List (S70) → Int → Int → Option ((List (S70)))
 | 0, _, _, _, _ => none
 | k + 1, x0, x3, x4, x7 => if x7 > 0 then (if 0 ≤ x7 then (if x7 < (x3.length : Int) then (if 0 ≤ (wrap64 (x7 - 1)) then (if (wrap64 (x7 - 1)) < (x3.length : Int) then (if ((rd_T70 x3 x7).f1) < ((rd_T70 x3 (wrap64 (x7 - 1))).f1) then (ebbtideref03_Slots.l2 k x0 ((x3.set (x7 : Int).toNat (⟨(rd_T70 x3 (wrap64 (x7 - 1))).f0, (rd_T70 x3 (wrap64 (x7 - 1))).f1⟩ : S70)).set ((wrap64 (x7 - 1)) : Int).toNat (⟨(rd_T70 x3 x7).f0, (rd_T70 x3 x7).f1⟩ : S70)) x4 (wrap64 (x7 - 1))) else (if ((rd_T70 x3 x7).f1) = ((rd_T70 x3 (wrap64 (x7 - 1))).f1) then (if ((rd_T70 x3 x7).f0) < ((rd_T70 x3 (wrap64 (x7 - 1))).f0) then (ebbtideref03_Slots.l2 k x0 ((x3.set (x7 : Int).toNat (⟨(rd_T70 x3 (wrap64 (x7 - 1))).f0, (rd_T70 x3 (wrap64 (x7 - 1))).f1⟩ : S70)).set ((wrap64 (x7 - 1)) : Int).toNat (⟨(rd_T70 x3 x7).f0, (rd_T70 x3 x7).f1⟩ : S70)) x4 (wrap64 (x7 - 1))) else (ebbtideref03_Slots.l0 k x0 x3 (wrap64 (x4 + 1)))) else (ebbtideref03_Slots.l0 k x0 x3 (wrap64 (x4 + 1))))) else (none)) else (none)) else (none)) else (none)) else (ebbtideref03_Slots.l0 k x0 x3 (wrap64 (x4 + 1)))
end
def ebbtideref03_Slots.f (k : Nat) (l0 : List (S70)) : Option ((List (S70))) := ebbtideref03_Slots.l0 k l0 ([] : List (S70)) 0
end Go.Proofs.Ytlcbpaenjjeenaa.Q
end
section
namespace Go.Proofs.Ytlcbpaenjjeenaa.Pure
open Go.Sort hiding rd
open Go.RowKit Go.Proofs.Ytlcbpaenjjeenaa.Q Go.Proofs.Ytlcbpaenjjeenaa.P Go.Proofs.YtlcbpaenjjeenaaW.PrintWords Go.Proofs.YtlcbpaenjjeenaaW.PrintLast Go.Proofs.YtlcbpaenjjeenaaW.PrintMore
open Go.Proofs.Ytlcbpaenjjeenaa.R
instance (a b : S70) : Decidable (ltSlot a b) := by unfold ltSlot; exact inferInstance
theorem ls_irrefl (x : S70) : ¬ ltSlot x x := by unfold ltSlot; omega
theorem ls_asym (x y : S70) (h : ltSlot x y) : ¬ ltSlot y x := by unfold ltSlot at *; omega
theorem ls_trans {a b c : S70} (h : ltSlot a b) (k : ltSlot b c) : ltSlot a c := by unfold ltSlot at *; omega
theorem s70_ext {x y : S70} (h0 : x.f0 = y.f0) (h1 : x.f1 = y.f1) : x = y := by cases x; cases y; simp_all
theorem ls_of_not {a b : S70} (h : ¬ ltSlot a b) (k : b ≠ a) : ltSlot b a := by
  have : ¬ (b.f0 = a.f0 ∧ b.f1 = a.f1) := fun h => k (s70_ext h.1 h.2)
  unfold ltSlot at *
  omega
theorem rdS_of {l : List S70} {i : Nat} (h : i < l.length) : rd_T70 l (i : Int) = l[i] := by unfold rd_T70; simp [List.getD_eq_getElem?_getD, List.getElem?_eq_getElem h]
theorem insS_ev (l : List S70) (x4 : Int) (R : List S70) : ∀ (n : Nat) (A B : List S70) (e : S70), A.length = n → n + B.length ≤ 4611686018427387904 → (A ++ B).Pairwise ltSlot → (∀ b ∈ B, ltSlot e b) → (∀ a ∈ A, a ≠ e) →
    (∀ L : List S70, L.Pairwise ltSlot → (∀ m, m ∈ L ↔ m = e ∨ m ∈ A ++ B) → L.length = A.length + B.length + 1 → Ev (fun k => ebbtideref03_Slots.l0 k l L (wrap64 (x4 + 1))) R) → Ev (fun k => ebbtideref03_Slots.l2 k l (A ++ e :: B) x4 (n : Int)) R := by
  intro n
  induction n with
  | zero =>
    intro A B e hA hn hs hB hne hc
    obtain rfl : A = [] := List.eq_nil_of_length_eq_zero hA
    refine Ev.step (fun k => by rw [ebbtideref03_Slots.l2, if_neg (by omega)]; rfl) (hc (e :: B) ?_ ?_ ?_)
    · rw [List.pairwise_cons]; exact ⟨hB, hs⟩
    · intro m; simp
    · simp
  | succ n ih =>
    intro A B e hA hn hs hB hne hc
    obtain ⟨A', a, rfl⟩ : ∃ A' a, A = A' ++ [a] := ⟨A.dropLast, A.getLast (fun h => by rw [h] at hA; cases hA), (List.dropLast_concat_getLast _).symm⟩
    have hA' : A'.length = n := by simpa using hA
    subst hA'
    have g1 : rd_T70 (A' ++ [a] ++ e :: B) ((A'.length + 1 : Nat) : Int) = e := by
      unfold rd_T70
      rw [Int.toNat_natCast, List.getD_eq_getElem?_getD, List.getElem?_append_right (by simp)]
      simp
    have g0 : rd_T70 (A' ++ [a] ++ e :: B) (A'.length : Int) = a := by
      unfold rd_T70
      rw [Int.toNat_natCast, List.getD_eq_getElem?_getD, List.append_assoc, List.getElem?_append_right (Nat.le_refl _)]
      simp
    have hw : wrap64 (((A'.length + 1 : Nat) : Int) - 1) = (A'.length : Int) := by unfold wrap64; omega
    have hlen : (A' ++ [a] ++ e :: B).length = A'.length + 1 + (B.length + 1) := by simp; omega
    have hsw : ((A' ++ [a] ++ e :: B).set (A'.length + 1) a).set A'.length e = A' ++ e :: a :: B := by
      rw [List.set_append_right _ _ (by simp)]
      simp only [List.length_append, List.length_singleton, Nat.sub_self, List.set_cons_zero]
      rw [List.append_assoc, List.set_append_right _ _ (Nat.le_refl _)]
      simp
    have hstep : ∀ k, ebbtideref03_Slots.l2 (k + 1) l (A' ++ [a] ++ e :: B) x4 ((A'.length + 1 : Nat) : Int) = if ltSlot e a then ebbtideref03_Slots.l2 k l (A' ++ e :: a :: B) x4 (A'.length : Int) else ebbtideref03_Slots.l0 k l (A' ++ [a] ++ e :: B) (wrap64 (x4 + 1)) := by
      intro k
      rw [ebbtideref03_Slots.l2, if_pos (by omega), if_pos (by omega), if_pos (by omega), hw, if_pos (by omega), if_pos (by omega), g1, g0]
      simp only [Int.toNat_natCast]
      rw [show ((⟨a.f0, a.f1⟩ : S70)) = a from rfl, show ((⟨e.f0, e.f1⟩ : S70)) = e from rfl, hsw]
      by_cases c1 : e.f1 < a.f1
      · rw [if_pos c1, if_pos (show ltSlot e a from .inl c1)]
      · rw [if_neg c1]
        by_cases c2 : e.f1 = a.f1
        · rw [if_pos c2]
          by_cases c3 : e.f0 < a.f0
          · rw [if_pos c3, if_pos (show ltSlot e a from .inr ⟨c2, c3⟩)]
          · rw [if_neg c3, if_neg (show ¬ ltSlot e a by unfold ltSlot; omega)]
        · rw [if_neg c2, if_neg (show ¬ ltSlot e a by unfold ltSlot; omega)]
    rw [List.append_assoc, List.singleton_append] at hs
    refine Ev.step hstep ?_
    by_cases c : ltSlot e a
    · simp only [c, if_true]
      refine ih A' (a :: B) e rfl (by simp at hn ⊢; omega) hs (fun b hb => ?_) (fun x hx => hne x (List.mem_append_left _ hx)) (fun L h1 h2 h3 => hc L h1 (fun m => ?_) (by simp at h3 ⊢; omega))
      · rcases List.mem_cons.1 hb with rfl | hb
        · exact c
        · exact hB b hb
      · rw [h2]; simp
    · simp only [c, if_false]
      have hae : ltSlot a e := ls_of_not c (hne a (by simp))
      rw [List.pairwise_append] at hs
      obtain ⟨hs1, hs2, hs3⟩ := hs
      rw [List.pairwise_cons] at hs2
      refine hc _ ?_ (fun m => ?_) (by simp; omega)
      · rw [List.append_assoc, List.singleton_append, List.pairwise_append]
        refine ⟨hs1, ?_, ?_⟩
        · rw [List.pairwise_cons, List.pairwise_cons]
          refine ⟨fun b hb => ?_, hB, hs2.2⟩
          rcases List.mem_cons.1 hb with rfl | hb
          · exact hae
          · exact hs2.1 b hb
        · intro x hx b hb
          rcases List.mem_cons.1 hb with rfl | hb
          · exact hs3 x hx _ List.mem_cons_self
          · rcases List.mem_cons.1 hb with rfl | hb
            · exact ls_trans (hs3 x hx a List.mem_cons_self) hae
            · exact hs3 x hx b (List.mem_cons_of_mem _ hb)
      · simp only [List.mem_append, List.mem_cons, List.not_mem_nil, or_false]
        constructor
        · rintro ((h | h) | h | h)
          · exact .inr (.inl (.inl h))
          · exact .inr (.inl (.inr h))
          · exact .inl h
          · exact .inr (.inr h)
        · rintro (h | (h | h) | h)
          · exact .inr (.inl h)
          · exact .inl (.inl h)
          · exact .inl (.inr h)
          · exact .inr (.inr h)
def eqS (e y : S70) : Bool := y.f0 == e.f0 && (y.f1 == e.f1)
theorem eqS_iff (e y : S70) : eqS e y = true ↔ y = e := by
  unfold eqS
  simp only [Bool.and_eq_true, beq_iff_eq]
  exact ⟨fun h => s70_ext h.1 h.2, fun h => by rw [h]; exact ⟨rfl, rfl⟩⟩
theorem rslots_l1 (l : List S70) (hl : l.length ≤ 1048576) (L : List S70) (hL : L.length ≤ 1048576) (i : Nat) (hi : i < l.length) (R : List S70)
    (h1 : L.any (eqS l[i]) = true → Ev (fun k => ebbtideref03_Slots.l0 k l L ((i + 1 : Nat) : Int)) R)
    (h2 : L.any (eqS l[i]) = false → Ev (fun k => ebbtideref03_Slots.l2 k l (L ++ [l[i]]) (i : Int) (L.length : Int)) R) :
    ∀ d j, j + d = L.length → Ev (fun k => ebbtideref03_Slots.l1 k l L (i : Int) ((L.take j).any (eqS l[i])) (j : Int)) R := by
  intro d
  induction d with
  | zero =>
    intro j hj
    have e : L.take j = L := List.take_of_length_le (by omega)
    rw [e]
    cases c : L.any (eqS l[i]) with
    | true =>
      refine Ev.step (fun k => ?_) (h1 c)
      rw [ebbtideref03_Slots.l1, if_neg (by omega), if_pos rfl, wrap1 (by omega)]
    | false =>
      refine Ev.step (fun k => ?_) (h2 c)
      rw [ebbtideref03_Slots.l1, if_neg (by omega), if_neg (by simp), if_pos (by omega), if_pos (by omega), if_pos (by omega), rdS_of hi]
      simp only [Option.bind_some]
      have e2 : wrap64 (((L ++ [l[i]]).length : Int) - 1) = (L.length : Int) := by rw [List.length_append]; simp; unfold wrap64; omega
      rw [show ((⟨l[i].f0, l[i].f1⟩ : S70)) = l[i] from rfl, e2]
  | succ d ih =>
    intro j hj
    have hlt : j < L.length := by omega
    refine Ev.step (fun k => ?_) (ih (j + 1) (by omega))
    have e : (L.take (j + 1)).any (eqS l[i]) = ((L.take j).any (eqS l[i]) || eqS l[i] L[j]) := by
      rw [List.take_succ_eq_append_getElem hlt, List.any_append, List.any_cons, List.any_nil, Bool.or_false]
    rw [e, ebbtideref03_Slots.l1, if_pos (by omega), wrap1 (by omega)]
    cases c : (L.take j).any (eqS l[i]) with
    | true => rw [if_pos rfl, Bool.true_or]
    | false =>
      rw [if_neg (by simp), if_pos (by omega), if_pos (by omega), if_pos (by omega), Bool.false_or, rdS_of hlt, rdS_of hi]
      rfl
theorem rslots_ev (l : List S70) (hl : l.length ≤ 1048576) (T : List S70) (hT : T.Pairwise ltSlot) (hM : ∀ m, m ∈ T ↔ m ∈ l) : Ev (fun k => ebbtideref03_Slots.f k l) T := by
  have hloop : ∀ d i (L : List S70), i + d = l.length → L.Pairwise ltSlot → (∀ m, m ∈ L ↔ m ∈ l.take i) → L.length ≤ i → Ev (fun k => ebbtideref03_Slots.l0 k l L (i : Int)) T := by
    intro d
    induction d with
    | zero =>
      intro i L hi hs hm hlen
      rw [List.take_of_length_le (by omega)] at hm
      have e : L = T := sorted_ext ls_irrefl ls_asym hs hT (fun x => by rw [hm, hM])
      rw [← e]
      exact ev_cst fun k => by rw [ebbtideref03_Slots.l0, if_neg (by omega)]
    | succ d ih =>
      intro i L hi hs hm hlen
      have hlt : i < l.length := by omega
      have h1 := rslots_l1 l hl L (by omega) i hlt T
        (fun c => ih (i + 1) L (by omega) hs (fun m => by
          rw [hm, List.take_succ_eq_append_getElem hlt, List.mem_append, List.mem_singleton]
          refine ⟨.inl, fun h => ?_⟩
          rcases h with h | h
          · exact h
          · obtain ⟨y, hy, hk⟩ := List.any_eq_true.1 c
            rw [eqS_iff] at hk
            rw [h, ← hk]
            exact (hm y).1 hy) (by omega))
        (fun c => by
          have hne : ∀ a ∈ L, a ≠ l[i] := fun a ha e => by
            have h3 := List.any_eq_false.1 c a ha
            exact h3 ((eqS_iff _ _).2 e)
          refine insS_ev l (i : Int) T L.length L [] l[i] rfl (by simp; omega) (by rw [List.append_nil]; exact hs) (fun b hb => by cases hb) hne (fun L' g1 g2 g3 => ?_)
          rw [wrap1 (by omega)]
          refine ih (i + 1) L' (by omega) g1 (fun m => ?_) (by simp at g3; omega)
          rw [g2, List.append_nil, hm, List.take_succ_eq_append_getElem hlt, List.mem_append, List.mem_singleton]
          exact Or.comm)
        L.length 0 (by omega)
      refine Ev.step (fun k => ?_) h1
      rw [ebbtideref03_Slots.l0, if_pos (by omega)]
      rfl
  exact hloop l.length 0 [] (by omega) List.Pairwise.nil (fun m => by simp) (Nat.zero_le _)
theorem keptS_mem (l : List S70) (m : S70) : m ∈ keptS l ↔ m ∈ l := by
  unfold keptS
  rw [List.mem_map]
  constructor
  · rintro ⟨p, hp, rfl⟩
    obtain ⟨x, hx, rfl⟩ := (mem_keysOf _ _ _).1 hp
    exact hx
  · intro h
    exact ⟨keyS m, (mem_keysOf _ _ _).2 ⟨m, h, rfl⟩, rfl⟩
theorem slotsT (l : List S70) : (srtL cfSlot (keptS l)).Pairwise ltSlot ∧ ∀ m, m ∈ srtL cfSlot (keptS l) ↔ m ∈ l := by
  obtain ⟨hp, hs⟩ := srtL_spec swoSlot (keptS l)
  refine ⟨?_, fun m => by rw [hp.mem_iff, keptS_mem]⟩
  have hnd : (keptS l).Nodup := by
    unfold keptS
    rw [List.Nodup, List.pairwise_map]
    refine (nodup_keysOf keyS l).imp ?_
    intro a b h e
    unfold mkS at e
    injection e with e0 e1
    exact h (Prod.ext e0 e1)
  have hnd2 : (srtL cfSlot (keptS l)).Nodup := (hp.nodup_iff).2 hnd
  have hpair := List.pairwise_and_iff.2 ⟨hs, hnd2⟩
  refine hpair.imp ?_
  rintro x y ⟨h1, h2⟩
  rw [← Bool.not_eq_true, ltSlot_eq] at h1
  exact ls_of_not h1 h2
theorem sameSlots_ev (l : List S70) (hl : l.length ≤ 4611686018427387904) : Ev (fun k => ebbtideref03_SameSlots.f k l l) true := by
  have hloop : ∀ d i, i + d = l.length → Ev (fun k => ebbtideref03_SameSlots.l0 k l l (i : Int)) true := by
    intro d
    induction d with
    | zero => intro i hi; exact ev_cst fun k => by rw [ebbtideref03_SameSlots.l0, if_neg (by omega)]
    | succ d ih =>
      intro i hi
      refine Ev.step (fun k => ?_) (ih (i + 1) (by omega))
      rw [ebbtideref03_SameSlots.l0, if_pos (by omega), if_pos (by omega), if_pos (by omega), if_neg (by simp), wrap1 (by omega)]
  refine Ev.congr (fun k => ?_) (hloop l.length 0 (by omega))
  unfold ebbtideref03_SameSlots.f
  rw [if_pos rfl]
  rfl
theorem rev_keys (l : List S56) (k : Int × Int) : k ∈ keysOf keyM l.reverse ↔ k ∈ keysOf keyM l := by
  rw [mem_keysOf, mem_keysOf]
  simp only [List.mem_reverse]
theorem rev_sum (l : List S56) (k : Int × Int) : msum l.reverse k = msum l k := by
  unfold msum sumK
  exact sum_perm (((List.reverse_perm l).filter _).map _)
theorem mergeR_rev (l : List S56) : mergeR l.reverse = mergeR l := by
  have hL : mergeL l.reverse = mergeL l := isMerge_unique (isMerge_congr (rev_keys l) (fun k _ => rev_sum l k) (mergeL_is l.reverse)) (mergeL_is l)
  have hF : AllFit l.reverse ↔ AllFit l := by
    unfold AllFit
    constructor
    · intro h k hk
      rw [← rev_sum]
      exact h k ((rev_keys l k).2 hk)
    · intro h k hk
      rw [rev_sum]
      exact h k ((rev_keys l k).1 hk)
  unfold mergeR
  by_cases c : AllFit l
  · rw [if_pos c, if_pos (hF.2 c), hL]
  · rw [if_neg c, if_neg (fun h => c (hF.1 h))]
theorem mergeR_twice (l : List S56) (cf : AllFit l) : mergeR (mergeL l) = (mergeL l, 0) := by
  unfold mergeR
  rw [if_pos (isMerge_fit cf (mergeL_is l)), isMerge_unique (mergeL_is (mergeL l)) (isMerge_idem (mergeL_is l))]
theorem mergeL_ok (l : List S56) (cf : AllFit l) (hl : ∀ x ∈ l, OkM x) : ∀ x ∈ mergeL l, OkM x := by
  intro x hx
  have hm := ((mergeL_is l).mem x).1 hx
  obtain ⟨y, hy, hk⟩ := (mem_keysOf _ _ _).1 hm.1
  obtain ⟨a0, a1, _⟩ := hl y hy
  unfold keyM at hk
  simp only [Prod.mk.injEq] at hk
  refine ⟨hk.1 ▸ a0, hk.2 ▸ a1, ?_⟩
  rw [hm.2.1]
  exact cf _ hm.1
theorem slots_is (l : List S70) (hl : l.length ≤ 1048576) (hg : ∀ x ∈ l, good2 (keyS x) = true) (k : Nat) : table_Slots.f k l = some (srtL cfSlot (keptS l)) := by
  have hk : (keptS l).length ≤ l.length := by unfold keptS; rw [List.length_map]; exact keysOf_length_le _ _
  unfold table_Slots.f api_Slot_44.f
  rw [if_pos ⟨hl, List.all_eq_true.2 hg⟩, if_pos (by omega)]
theorem slots_len (l : List S70) : (srtL cfSlot (keptS l)).length ≤ l.length := by
  rw [srtL_length swoSlot]
  unfold keptS
  rw [List.length_map]
  exact keysOf_length_le _ _
theorem slots_same (l l' : List S70) (h : ∀ m, m ∈ l ↔ m ∈ l') : srtL cfSlot (keptS l) = srtL cfSlot (keptS l') :=
  sorted_ext ls_irrefl ls_asym (slotsT l).1 (slotsT l').1 (fun m => by rw [(slotsT l).2, (slotsT l').2, h])
theorem order_j2 (l : List S56) (hlen : l.length ≤ 1048576) (hl : ∀ x ∈ l, OkM x) (s : List S70) (hs : s.length ≤ 100) (hg : ∀ x ∈ s, good2 (keyS x) = true) :
    Ev (fun k => ebbtidelaw03_TableOrder.j2 k s true (mergeR l).1 (mergeR l).2 false) true := by
  obtain ⟨T, hT⟩ : ∃ T, T = srtL cfSlot (keptS s) := ⟨_, rfl⟩
  have hTl : T.length ≤ 100 := by rw [hT]; exact Nat.le_trans (slots_len s) hs
  have hTm : ∀ m, m ∈ T ↔ m ∈ s := by rw [hT]; exact (slotsT s).2
  have e1 : ∀ k, table_Slots.f k s = some T := fun k => by rw [hT]; exact slots_is s (by omega) hg k
  have e2 : ∀ k, table_Slots.f k (s ++ s) = some T := fun k => by
    rw [slots_is (s ++ s) (by rw [List.length_append]; omega) (fun x hx => hg x (by simpa using hx)) k, hT]
    exact congrArg some (slots_same _ _ (fun m => by simp))
  have e3 : ∀ k, table_Slots.f k T = some T := fun k => by
    rw [slots_is T (by omega) (fun x hx => hg x ((hTm x).1 hx)) k]
    have h := slots_same T s hTm
    rw [h, ← hT]
  have hml := mergeL_length l
  have b1 : ([] : List S70).length + s.length < 8796093022208 := by simp; omega
  have b2 : s.length + s.length < 8796093022208 := by omega
  refine Ev.step (fun k => by rw [ebbtidelaw03_TableOrder.j2, if_neg (by simp)]) ?_
  by_cases cf : AllFit l
  · have e : mergeR l = (mergeL l, 0) := by unfold mergeR; rw [if_pos cf]
    rw [e]
    refine Ev.bind (moves_ev (mergeL l) (by omega) (mergeL_ok l cf hl)) ?_
    rw [mergeR_twice l cf]
    simp only [b1, b2, if_true, List.nil_append, Option.bind_some, e1, e2, e3]
    refine Ev.bind (sameMoves_ev _ (by omega)) ?_
    simp only [if_true]
    refine Ev.bind (sameSlots_ev _ (by omega)) ?_
    simp only [if_true]
    exact Ev.bind (sameSlots_ev _ (by omega)) (Ev.now _)
  · have e : mergeR l = ([], 10) := by unfold mergeR; rw [if_neg cf]
    rw [e]
    refine Ev.bind (moves_ev [] (Nat.zero_le _) (fun x hx => by cases hx)) ?_
    simp only [b1, b2, if_true, List.nil_append, Option.bind_some, e1, e2, e3, show ¬ (10 : Int) = 0 by decide, if_false]
    refine Ev.bind (sameSlots_ev _ (by omega)) ?_
    simp only [if_true]
    exact Ev.bind (sameSlots_ev _ (by omega)) (Ev.now _)
theorem order_l0 (l : List S56) (hlen : l.length ≤ 100) (hl : ∀ x ∈ l, OkM x) (s : List S70) (hs : s.length ≤ 100) (hg : ∀ x ∈ s, good2 (keyS x) = true) :
    ∀ n, n ≤ l.length → Ev (fun k => ebbtidelaw03_TableOrder.l0 k l s true ((l.drop n).reverse) ((n : Int) - 1)) true := by
  intro n
  induction n with
  | zero =>
    intro _
    refine Ev.step (fun k => by rw [ebbtidelaw03_TableOrder.l0, if_neg (by omega)]) ?_
    rw [List.drop_zero]
    refine Ev.bind (moves_ev l (by omega) hl) (Ev.bind (moves_ev l.reverse (by rw [List.length_reverse]; omega) (fun x hx => hl x (List.mem_reverse.1 hx))) ?_)
    rw [mergeR_rev]
    simp only [if_true]
    have hml := mergeL_length l
    have hle : (mergeR l).1.length ≤ 4611686018427387904 := by
      unfold mergeR
      split
      · show (mergeL l).length ≤ _
        omega
      · exact Nat.zero_le _
    refine Ev.bind (sameMoves_ev _ hle) ?_
    simp only [Bool.not_true]
    exact order_j2 l (by omega) hl s hs hg
  | succ n ih =>
    intro hn
    have hlt : n < l.length := by omega
    have e0 : (((n + 1 : Nat) : Int) - 1) = (n : Int) := by omega
    have e1 : rd_T56 l (n : Int) = l[n] := by unfold rd_T56; simp [List.getD_eq_getElem?_getD, List.getElem?_eq_getElem hlt]
    have e2 : wrap64 ((n : Int) - 1) = (n : Int) - 1 := by unfold wrap64; omega
    have h2 := ih (by omega)
    rw [List.drop_eq_getElem_cons hlt, List.reverse_cons] at h2
    refine Ev.step (fun k => ?_) h2
    rw [ebbtidelaw03_TableOrder.l0, e0, if_pos (by omega), if_pos (by omega), if_pos (by omega), if_pos (by rw [List.length_reverse, List.length_drop]; omega), e1, e2]
theorem TableOrder : TableOrder.Pure := by
  intro N0 N1 l s g g1
  apply Ev.rounds
  unfold ebbtidelaw03_TableOrder.f ebbtidelaw03_awake.f
  simp only [Option.bind_some, if_true]
  by_cases c : (l.length : Int) > 100
  · simp only [c, if_true]
    exact ev_cst fun k => by rw [ebbtidelaw03_TableOrder.j0, if_pos rfl]
  · simp only [c, if_false]
    by_cases c2 : (s.length : Int) > 100
    · simp only [c2, decide_true]
      exact ev_cst fun k => by rw [ebbtidelaw03_TableOrder.j0, if_pos rfl]
    · simp only [c2, decide_false]
      have hl : ∀ x ∈ l, OkM x := fun x hx => ⟨Go.bounds_i64 (g.2.2 x hx).1, Go.bounds_i64 (g.2.2 x hx).2.1, Go.bounds_i64 (g.2.2 x hx).2.2⟩
      have hg : ∀ x ∈ s, good2 (keyS x) = true := by
        intro x hx
        have h0 := Go.bounds_i64 (g1.2.2 x hx).1
        have h1 := Go.bounds_i64 (g1.2.2 x hx).2
        unfold good2 keyS
        rw [wf_i64 h0.1 h0.2, wf_i64 h1.1 h1.2]
        rfl
      have h := order_l0 l (by omega) hl s (by omega) hg l.length (Nat.le_refl _)
      rw [List.drop_length, List.reverse_nil] at h
      refine Ev.step (fun k => ?_) h
      have e : wrap64 ((l.length : Int) - 1) = (l.length : Int) - 1 := by unfold wrap64; omega
      rw [ebbtidelaw03_TableOrder.j0, if_neg (by simp), e]
end Go.Proofs.Ytlcbpaenjjeenaa.Pure
end
section
namespace Go.Proofs.Ytlcbpaenjjeenaa
open Go Go.RowKit
def ioHead : List Char := List.map Char.ofNat [104, 97, 114, 110, 101, 115, 115, 32, 53, 52, 50, 101, 57, 98, 48, 48, 99, 102, 51, 53, 100, 102, 100, 102, 55, 101, 50, 51, 97, 101, 52, 102, 97, 49, 54, 100, 102, 57, 52, 52, 53, 56, 57, 56, 97, 101, 52, 55, 97, 102, 51, 52, 102, 99, 52, 48, 55, 56, 53, 49, 101, 52, 49, 50, 102, 57, 51, 55, 102, 98, 53, 102, 32, 99, 117, 116, 32]
def ioRest : List Char := List.map Char.ofNat [97, 116, 32, 101, 98, 98, 116, 105, 100, 101, 47, 101, 98, 98, 116, 105, 100, 101, 108, 97, 119, 48, 51, 46, 84, 97, 98, 108, 101, 70, 105, 110, 100, 115, 32, 101, 98, 98, 116, 105, 100, 101, 47, 101, 98, 98, 116, 105, 100, 101, 108, 97, 119, 48, 51, 46, 84, 97, 98, 108, 101, 71, 114, 111, 117, 112, 115, 32, 101, 98, 98, 116, 105, 100, 101, 47, 101, 98, 98, 116, 105, 100, 101, 108, 97, 119, 48, 51, 46, 84, 97, 98, 108, 101, 77, 101, 114, 103, 101, 115, 32, 101, 98, 98, 116, 105, 100, 101, 47, 101, 98, 98, 116, 105, 100, 101, 108, 97, 119, 48, 51, 46, 84, 97, 98, 108, 101, 66, 117, 115, 121, 32, 101, 98, 98, 116, 105, 100, 101, 47, 101, 98, 98, 116, 105, 100, 101, 108, 97, 119, 48, 51, 46, 84, 97, 98, 108, 101, 87, 104, 111, 108, 101, 32, 101, 98, 98, 116, 105, 100, 101, 47, 101, 98, 98, 116, 105, 100, 101, 108, 97, 119, 48, 51, 46, 84, 97, 98, 108, 101, 83, 117, 109, 115, 32, 101, 98, 98, 116, 105, 100, 101, 47, 101, 98, 98, 116, 105, 100, 101, 108, 97, 119, 48, 51, 46, 84, 97, 98, 108, 101, 83, 108, 111, 116, 115, 32, 101, 98, 98, 116, 105, 100, 101, 47, 101, 98, 98, 116, 105, 100, 101, 108, 97, 119, 48, 51, 46, 84, 97, 98, 108, 101, 84, 117, 114, 110, 115, 32, 101, 98, 98, 116, 105, 100, 101, 47, 101, 98, 98, 116, 105, 100, 101, 108, 97, 119, 48, 51, 46, 84, 97, 98, 108, 101, 77, 111, 118, 101, 115, 32, 101, 98, 98, 116, 105, 100, 101, 47, 101, 98, 98, 116, 105, 100, 101, 108, 97, 119, 48, 51, 46, 84, 97, 98, 108, 101, 79, 114, 100, 101, 114]
set_option maxRecDepth 100000 in
theorem io_eq : Try.pinned.checked.prog.initOrder = String.ofList (ioHead ++ ioRest) := by kernel_rfl
theorem io_toList : Try.pinned.checked.prog.initOrder.toList = ioHead ++ ioRest := by rw [io_eq]; exact String.toList_ofList
def ioCut : List Char := List.map Char.ofNat [99, 117, 116]
set_option maxRecDepth 100000 in
theorem io_words (r : List Char) : behindMainWord (wordsSigns (ioHead ++ r)) = ioCut :: wordsSigns r := by kernel_rfl
theorem io_behind : ∃ X, behindMainWord (wordsSigns Try.pinned.checked.prog.initOrder.toList) = ioCut :: X := ⟨_, by rw [io_toList]; exact io_words _⟩
theorem io_cut : ioCut = "cut".toList := by decide +kernel
theorem io_strip (X : List (List Char)) : stripLifts liftWords (ioCut :: X) = ([], ioCut :: X) := by kernel_rfl
theorem headLifts_cut (P : Program) (h : ∃ X, behindMainWord (wordsSigns P.initOrder.toList) = ioCut :: X) : P.headLifts = [] := by
  obtain ⟨X, e⟩ := h
  unfold Program.headLifts
  rw [e, io_strip]
  rfl
theorem mayEnter_cut (P : Program) (h : ∃ X, behindMainWord (wordsSigns P.initOrder.toList) = ioCut :: X) (h1 : P.laysLater = false) (h2 : P.bearsReflect = false) (h3 : P.doorFits [] = true) : P.mayEnter = true := by
  obtain ⟨X, e⟩ := h
  unfold Program.mayEnter
  rw [e]
  simp only [io_strip, h1, h2, h3]
  rw [io_cut]
  simp
theorem liftsFinal_cut (P : Program) (h : ∃ X, behindMainWord (wordsSigns P.initOrder.toList) = ioCut :: X) : P.liftsFinal = false := by
  have h0 := headLifts_cut P h
  obtain ⟨X, e⟩ := h
  unfold Program.liftsFinal
  rw [e, h0]
  rw [io_cut]
  simp
theorem make_cut (P : Program) (h : ∃ X, behindMainWord (wordsSigns P.initOrder.toList) = ioCut :: X) : P.make = some .cut := by
  obtain ⟨X, e⟩ := h
  unfold Program.make
  rw [e]
  simp only [io_cut]
  rw [if_neg (by decide +kernel), if_pos (by simp)]
theorem p_mayEnter : Try.pinned.checked.prog.mayEnter = true := mayEnter_cut _ io_behind (by kernel_rfl) (by kernel_rfl) (by kernel_rfl)
theorem p_liftsFinal : Try.pinned.checked.prog.liftsFinal = false := liftsFinal_cut _ io_behind
theorem p_make : Try.pinned.checked.prog.make = some .cut := make_cut _ io_behind
theorem p_laidOut : laidOutB Try.pinned.checked.prog = true := by kernel_rfl
theorem p_mapsRowed : mapsRowed Try.pinned.checked.prog = true := by kernel_rfl
theorem p_stopsHeard : Try.pinned.checked.prog.stopsHeard = true := by kernel_rfl
theorem p_stops : Try.pinned.checked.prog.stops = [] := by kernel_rfl
theorem p_stopKnobs : Try.pinned.checked.prog.stopKnobs = [] := by kernel_rfl
end Go.Proofs.Ytlcbpaenjjeenaa
end
section
namespace Go.Proofs.Ytlcbpaenjjeenaa.tableOrder
open Go.ChangeShapes Go.WideShapes Go.ChangeAt Go.RowKit
open Go.ChangeMaps (open_string shut_string)
open Go.Proofs.Ytlcbpaenjjeenaa.Q Go.Proofs.Ytlcbpaenjjeenaa.R Go.Proofs.YtlcbpaenjjeenaaW.PrintWords
set_option linter.unusedVariables false
theorem own : ownKnob Try.prog.godebug = none := by kernel_rfl
theorem laidOut : laidOutB Try.prog = true := by kernel_rfl
set_option maxRecDepth 100000 in
theorem lifted (os : Os) (started : os.Started) (H : Type) (enc : TypeId × Value → H) :
    ReturnsInHanded {} Try.checked os 12 .any (Rows.tableOrderSpec.pre6 enc Try.prog Try.f12 Rows.tableOrderRow.domain false) (Rows.tableOrderSpec.post enc Try.prog Try.f12 false true false false) := by
  refine returnsInHanded_of_change_sized (C := Try.checked) own started (by kernel_rfl) Try.func12
    (ChangeSpec.witness6 (enc := enc) (C := Try.checked) false ⟨#[], #[.slice none 0 0, .slice none 0 0], []⟩ 8 (by kernel_rfl) (by kernel_rfl) (by kernel_rfl) (by kernel_rfl)) ?_
  intro W base args ds gs before hval0 hW hcnd hsz0 _
  have hval : ∀ (j : Nat) t v, Try.f12.params[j]? = some t → args[j]? = some v → Value.okWide Try.prog W .any base t v := hval0
  have hW' := hW
  obtain ⟨p, q, hA0, hV, rfl, hfz, hnd⟩ := hW
  have hA : DataW.TrodAll enc Try.prog W 0 (fun _ => true) true Try.f12.params.toList args.toList ds p := hA0
  rw [Try.params12] at hA hval
  obtain ⟨v0, vs0, d0, ds0, p0, q0, hargs, rfl, rfl, h0, r0⟩ := trodAll_cons hA
  obtain ⟨v1, vs1, d1, ds1, p1, q1, rfl, rfl, rfl, h1, r1⟩ := trodAll_cons r0
  obtain ⟨rfl, rfl, rfl⟩ := trodAll_nil r1
  obtain rfl : args = #[v0, v1] := by cases args; simp_all
  obtain ⟨rfl, rfl⟩ := trodVars_none hV
  have k0 := h0
  have lt0 : ∀ x ∈ p0, x.block < W.heap.size := by obtain ⟨m, hm⟩ := k0; exact DataW.trod_lt m _ _ _ hm
  obtain ⟨fu0, hf0⟩ := h0
  obtain ⟨x0, K0, G0⟩ := (readsSlice Try.underlying50 (by kernel_rfl) reads56) enc W 0 (fun _ => true) true fu0 _ _ hf0
  obtain ⟨a0, len0, cap0, rfl⟩ := okWide_slice Try.underlying50 (hval 0 50 v0 rfl rfl)
  obtain ⟨A0, c0, ek0, hc0, hr0⟩ := K0
  simp only [Value.cells, List.cons.injEq, and_true] at ek0
  injection ek0 with ea0 el0 ec0
  subst ea0 el0 ec0
  have k1 := h1
  have lt1 : ∀ x ∈ p1, x.block < W.heap.size := by obtain ⟨m, hm⟩ := k1; exact DataW.trod_lt m _ _ _ hm
  obtain ⟨fu1, hf1⟩ := h1
  obtain ⟨x1, K1, G1⟩ := (readsSlice Try.underlying45 (by kernel_rfl) reads70) enc W 0 (fun _ => true) true fu1 _ _ hf1
  obtain ⟨a1, len1, cap1, rfl⟩ := okWide_slice Try.underlying45 (hval 1 45 v1 rfl rfl)
  obtain ⟨A1, c1, ek1, hc1, hr1⟩ := K1
  simp only [Value.cells, List.cons.injEq, and_true] at ek1
  injection ek1 with ea1 el1 ec1
  subst ea1 el1 ec1
  have h := Pure.TableOrder _ _ x0 x1 (G0 _ (Nat.le_refl _)) (G1 _ (Nat.le_refl _))
  obtain ⟨k, h⟩ := h
  refine (ebbtidelaw03_TableOrder.calls k _ _ x0 _ _ x1 true W hr0 hc0 hr1 hc1 h).mono fun e W' ⟨he, bel0⟩ => ?_
  have bel : Below W.heap.size W W' := bel0
  subst he
  exact ⟨_, rfl, _, _, _, [], _, [], hW', trodAll_mk1 (shut_bool Try.underlying4 _), (trodAll_cons_mk (Below.trod laidOut (by kernel_rfl) (of_decide_eq_true (by kernel_rfl)) k0 bel lt0) (trodAll_cons_mk (Below.trod laidOut (by kernel_rfl) (of_decide_eq_true (by kernel_rfl)) k1 bel lt1) trodAll_mk0)), rfl, bel.frame _, fun h => by cases h⟩
theorem andI {a b : Bool} (x : a = true) (y : b = true) : (a && b) = true := by rw [x, y]; rfl
set_option maxRecDepth 100000 in
set_option maxHeartbeats 8000000 in
theorem closed : joinedFacts Try.pinned.checked.prog 12 Try.f12 Rows.tableOrderSpec Rows.tableOrderRow = true := by
  unfold joinedFacts
  exact (andI (andI (andI (andI (andI (andI (andI (andI (andI (andI (andI (andI (andI (andI (andI (andI (andI (andI (andI (andI (andI (andI (andI (andI (andI (andI (andI (andI (andI (andI (andI (by as_aux_lemma => kernel_rfl)
    p_laidOut)
    p_mapsRowed)
    (by as_aux_lemma => kernel_rfl))
    (by as_aux_lemma => kernel_rfl))
    (by as_aux_lemma => kernel_rfl))
    (by rw [p_stops]; rfl))
    (by as_aux_lemma => kernel_rfl))
    (by rw [p_stopKnobs]; rfl))
    (by as_aux_lemma => kernel_rfl))
    (by as_aux_lemma => kernel_rfl))
    (by as_aux_lemma => kernel_rfl))
    (by as_aux_lemma => kernel_rfl))
    (by as_aux_lemma => kernel_rfl))
    (by as_aux_lemma => kernel_rfl))
    (by as_aux_lemma => kernel_rfl))
    (by as_aux_lemma => kernel_rfl))
    (by as_aux_lemma => kernel_rfl))
    (by as_aux_lemma => kernel_rfl))
    (by as_aux_lemma => kernel_rfl))
    (by as_aux_lemma => kernel_rfl))
    (by as_aux_lemma => kernel_rfl))
    (by as_aux_lemma => kernel_rfl))
    (by as_aux_lemma => kernel_rfl))
    p_stopsHeard)
    p_mayEnter)
    (by rw [p_liftsFinal]; rfl))
    (by rw [p_make]; rfl))
    (by as_aux_lemma => kernel_rfl))
    (by as_aux_lemma => kernel_rfl))
    (by as_aux_lemma => kernel_rfl))
    (by as_aux_lemma => kernel_rfl))
theorem proved : Rows.TableOrderSaid :=
  OpenClaim.holds_of_wide 12 Try.f12 rfl rfl rfl rfl rfl rfl rfl ⟨rfl, rfl, rfl, rfl, rfl⟩ rfl rfl rfl rfl rfl (by kernel_rfl) Try.func12 closed
    (of_decide_eq_true (by kernel_rfl)) (by unfold Func.isWrapper; first | (rw [if_pos (by decide +kernel)]; kernel_rfl) | (rw [if_neg (by decide +kernel)]; exact ⟨rfl, rfl⟩))
    (fun os started H enc _ => lifted os started H enc)
#print axioms proved
end Go.Proofs.Ytlcbpaenjjeenaa.tableOrder
namespace Go.Proofs.Ytlcbpaenjjeenaa
theorem tableOrder_holds : Rows.TableOrderSaid := tableOrder.proved
end Go.Proofs.Ytlcbpaenjjeenaa
end
