/- A part of the proof: words, contracts, plain lemmas. Conditions: none. -/
import Derived.Test.YtlcbpaenjjeenaaZTableSlots3
import Derived.Test.YtlcbpaenjjeenaaZTableSlots13
import Derived.Test.YtlcbpaenjjeenaaZTableSlots14
import Derived.Test.YtlcbpaenjjeenaaZTableSlots12
import Derived.OpenShut
import Derived.Test.YtlcbpaenjjeenaaRows
import Derived.WalkKit
import Derived.ProofKit
import Derived.ShutString
import Derived.ChangeOld
import Derived.Below
import Derived.SizedLaws
section
namespace Go.Proofs.Ytlcbpaenjjeenaa.Q
open Go.RowKit Go.Proofs.YtlcbpaenjjeenaaW.PrintWords Go.Proofs.YtlcbpaenjjeenaaW.PrintLast Go.Proofs.YtlcbpaenjjeenaaW.PrintMore
set_option linter.unusedVariables false
set_option linter.unusedSimpArgs false
def ebbtidelaw03_TableSlots.f (k : Nat) (l0 : List (S70)) : Option (Bool) := if (l0.length : Int) > 200 then ((ebbtidelaw03_awake.f k).bind fun t337 => (some t337)) else ((ebbtidelaw03_awake.f k).bind fun t338 => (if t338 = true then ((table_Slots.f k l0).bind fun t339 => ((ebbtideref03_Slots.f k l0).bind fun t342 => ((ebbtideref03_SameSlots.f k t339 t342).bind fun t345 => (some t345)))) else (some false)))
set_option maxHeartbeats 8000000 in
set_option maxRecDepth 100000 in
theorem ebbtidelaw03_TableSlots.calls (k : Nat) (A0 : Option Addr) (c0 : Nat) (l0 : List (S70)) (r : Bool) (w : World) (hr0 : Kd.C k70 w A0 l0.length l0) (hc0 : l0.length ≤ c0) (h : ebbtidelaw03_TableSlots.f k l0 = some r) (hrt : r = true := by first | rfl | exact HRT.out | assumption) :
  Calls Try.prog 9 #[.slice A0 l0.length c0] w fun e w' => e = .returned (.bool r) ∧ Below w.heap.size w w' := by
 have HRT := Aside0.mk hrt; clear hrt; have HR0 := Aside0.mk hr0; have HC0 := Aside0.mk hc0; clear hr0 hc0; have HB := Aside0.mk (Below.refl w.heap.size w); have H : (if (l0.length : Int) > 200 then ((ebbtidelaw03_awake.f k).bind fun t337 => (some t337)) else ((ebbtidelaw03_awake.f k).bind fun t338 => (if t338 = true then ((table_Slots.f k l0).bind fun t339 => ((ebbtideref03_Slots.f k l0).bind fun t342 => ((ebbtideref03_SameSlots.f k t339 t342).bind fun t345 => (some t345)))) else (some false)))) = some r := h; clear h
 by_cases c2 : (l0.length : Int) > 200
 ·rw [if_pos c2] at H
  have c2b0 : decide (200 < (l0.length : Int)) = true := decide_eq_true c2; have c2b1 : decide (200 < l0.length) = true := decide_eq_true (by omega); clear c2; replace H := Option.bind_eq_some_iff.mp H; obtain ⟨t337, A30, H⟩ := H; replace H : (some t337) = some r := H; have A3 := Aside0.mk A30; clear A30; obtain rfl := Option.some.inj H
  go_enter Try.func9, Try.ntmps9
  go_wp2_with (first | ((with_reducible refine gate_callee (f := 13) rfl ?_); refine goesL_ (some 6) rfl rfl Try.func13 (by kernel_rfl) rfl #[] rfl (by (try simp only [List.map_toArray, List.map_cons, List.map_nil]); first | done | rfl | (simp only [List.length_drop, List.length_take]; rfl)) ?_; (with_reducible refine (ebbtidelaw03_awake.calls k  t337 _ A3.out).mono ?_); rintro e w4 ⟨rfl, hb⟩; refine ⟨_, rfl, ?_⟩; have n0_ := Aside0.mk (below_step (by repeat (first | (with_reducible first | exact HB.out | apply below_alloc | apply pw_below_drewN | apply below_drew1) | exact HB.out)) hb); clear HB; have HB := n0_; clear n0_; (try clear hb); (try clear hb2); (try clear hk); (try clear hi)))
  go_ret
  exact ⟨by first | rfl | (simp [errW_none, errW_some] <;> rfl) | (simp [*, errW_none, errW_some] <;> rfl), by repeat (first | (with_reducible first | exact HB.out | apply below_alloc | apply pw_below_drewN | apply below_drew1) | exact HB.out)⟩
 ·rw [if_neg c2] at H
  have c2b0 : decide (200 < (l0.length : Int)) = false := decide_eq_false c2; have c2b1 : decide (200 < l0.length) = false := decide_eq_false (by omega); clear c2; replace H := Option.bind_eq_some_iff.mp H; obtain ⟨t338, A50, H⟩ := H; replace H : (if t338 = true then ((table_Slots.f k l0).bind fun t339 => ((ebbtideref03_Slots.f k l0).bind fun t342 => ((ebbtideref03_SameSlots.f k t339 t342).bind fun t345 => (some t345)))) else (some false)) = some r := H; have A5 := Aside0.mk A50; clear A50
  by_cases c6 : t338 = true
  ·subst c6
   have H1 : ((table_Slots.f k l0).bind fun t339 => ((ebbtideref03_Slots.f k l0).bind fun t342 => ((ebbtideref03_SameSlots.f k t339 t342).bind fun t345 => (some t345)))) = some r := by rw [if_pos rfl] at H; exact H
   clear H; have H := H1; clear H1; replace H := Option.bind_eq_some_iff.mp H; obtain ⟨t339, A70, H⟩ := H; replace H : ((ebbtideref03_Slots.f k l0).bind fun t342 => ((ebbtideref03_SameSlots.f k t339 t342).bind fun t345 => (some t345))) = some r := H; have A7 := Aside0.mk A70; clear A70; replace H := Option.bind_eq_some_iff.mp H; obtain ⟨t342, A80, H⟩ := H; replace H : ((ebbtideref03_SameSlots.f k t339 t342).bind fun t345 => (some t345)) = some r := H; have A8 := Aside0.mk A80; clear A80; replace H := Option.bind_eq_some_iff.mp H; obtain ⟨t345, A90, H⟩ := H; replace H : (some t345) = some r := H; have A9 := Aside0.mk A90; clear A90; obtain rfl := Option.some.inj H
   go_enter Try.func9, Try.ntmps9
   go_wp2_with (first | ((with_reducible refine gate_callee (f := 13) rfl ?_); refine goesL_ (some 7) rfl rfl Try.func13 (by kernel_rfl) rfl #[] rfl (by (try simp only [List.map_toArray, List.map_cons, List.map_nil]); first | done | rfl | (simp only [List.length_drop, List.length_take]; rfl)) ?_; (with_reducible refine (ebbtidelaw03_awake.calls k  true _ A5.out).mono ?_); rintro e w10 ⟨rfl, hb⟩; refine ⟨_, rfl, ?_⟩; have n0_ := Aside0.mk (below_step (by repeat (first | (with_reducible first | exact HB.out | apply below_alloc | apply pw_below_drewN | apply below_drew1) | exact HB.out)) hb); clear HB; have HB := n0_; clear n0_; (try clear hb); (try clear hb2); (try clear hk); (try clear hi)) | (go_at_call 27; (with_reducible refine (table_Slots.calls k _ _ l0 t339 _ ?side1 ?side2 A7.out).mono ?_); (case side1 => repeat (first | exact (Kd.C_below HR0.out HB.out) | (with_reducible refine Kd.C_alloc ?_ _) | (with_reducible refine Kd.C_drewN ?_ _) | (with_reducible refine Kd.C_drew ?_))); (case side2 => exact HC0.out); rintro e w11 ⟨v340, rfl, ho0, hb⟩; have n0_ := Aside0.mk (Kd.R_lower ho0 (below_size (by repeat (first | (with_reducible first | exact HB.out | apply below_alloc | apply pw_below_drewN | apply below_drew1) | exact HB.out)))); have n1_ := Aside0.mk (below_step (by repeat (first | (with_reducible first | exact HB.out | apply below_alloc | apply pw_below_drewN | apply below_drew1) | exact HB.out)) hb); clear HB; have HO341 := n0_; have HB := n1_; clear n0_ n1_; (try clear hb); (try clear hb2); (try clear hk); (try clear hi); (try clear ho0)) | (go_at_call 28; (with_reducible refine (ebbtideref03_Slots.calls k _ _ l0 t342 _ ?side1 ?side2 A8.out).mono ?_); (case side1 => repeat (first | exact (Kd.C_below HR0.out HB.out) | (with_reducible refine Kd.C_alloc ?_ _) | (with_reducible refine Kd.C_drewN ?_ _) | (with_reducible refine Kd.C_drew ?_))); (case side2 => exact HC0.out); rintro e w12 ⟨v343, rfl, ho0, hb⟩; have n0_ := Aside0.mk (Kd.R_elder' (by (with_reducible repeat (first | apply Kd.R_alloc | apply Kd.R_drewN | apply Kd.R_drew)); exact HO341.out) (Kd.R_base ho0) hb); have n1_ := Aside0.mk (Kd.R_lower (Kd.R_new' ho0 (Kd.R_lt (by (with_reducible repeat (first | apply Kd.R_alloc | apply Kd.R_drewN | apply Kd.R_drew)); exact HO341.out))) (below_size (by repeat (first | (with_reducible first | exact HB.out | apply below_alloc | apply pw_below_drewN | apply below_drew1) | exact HB.out)))); have n2_ := Aside0.mk (below_step (by repeat (first | (with_reducible first | exact HB.out | apply below_alloc | apply pw_below_drewN | apply below_drew1) | exact HB.out)) hb); clear HO341; clear HB; have HO341 := n0_; have HO344 := n1_; have HB := n2_; clear n0_ n1_ n2_; (try clear hb); (try clear hb2); (try clear hk); (try clear hi); (try clear ho0); obtain ⟨Ao13, co13, eo13⟩ := Kd.R_slice HO341.out; subst eo13; obtain ⟨Ao14, co14, eo14⟩ := Kd.R_slice HO344.out; subst eo14) | (go_at_call 26; (with_reducible refine (ebbtideref03_SameSlots.calls k _ _ t339 _ _ t342 t345 _ ?side1 ?side2 ?side3 ?side4 A9.out).mono ?_); (case side1 => repeat (first | exact (Kd.R_reads' HO341.out).2.2 | (with_reducible refine Kd.C_alloc ?_ _) | (with_reducible refine Kd.C_drewN ?_ _) | (with_reducible refine Kd.C_drew ?_))); (case side2 => exact (Kd.R_reads' HO341.out).2.1); (case side3 => repeat (first | exact (Kd.R_reads' HO344.out).2.2 | (with_reducible refine Kd.C_alloc ?_ _) | (with_reducible refine Kd.C_drewN ?_ _) | (with_reducible refine Kd.C_drew ?_))); (case side4 => exact (Kd.R_reads' HO344.out).2.1); rintro e w' ⟨rfl, ⟨nd, rfl⟩⟩))
   go_ret
   exact ⟨by first | rfl | (simp [errW_none, errW_some] <;> rfl) | (simp [*, errW_none, errW_some] <;> rfl), by repeat (first | (with_reducible first | exact HB.out | apply below_alloc | apply pw_below_drewN | apply below_drew1) | exact HB.out)⟩
  ·replace c6 := Bool.eq_false_iff.mpr c6
   subst c6
   have H1 : (some false) = some r := by rw [if_neg (show ¬ (false = true) by decide)] at H; exact H
   clear H; have H := H1; clear H1; exact absurd ((Option.some.inj H).trans HRT.out) (by decide)
end Go.Proofs.Ytlcbpaenjjeenaa.Q
end
section
namespace Go.Proofs.Ytlcbpaenjjeenaa.R
open Go.RowKit Go.Proofs.Ytlcbpaenjjeenaa.Q Go.Proofs.YtlcbpaenjjeenaaW.PrintWords Go.Proofs.YtlcbpaenjjeenaaW.PrintLast Go.Proofs.YtlcbpaenjjeenaaW.PrintMore
def TableSlots.Pure : Prop := ∀ N0 : Nat, ∀ (x0 : List S70), gList (g70) N0 x0 → ∃ k, ebbtidelaw03_TableSlots.f k x0 = some true
end Go.Proofs.Ytlcbpaenjjeenaa.R
end
section
namespace Go.Proofs.Ytlcbpaenjjeenaa.Pure
open Go.Sort hiding rd
open Go.RowKit Go.Proofs.Ytlcbpaenjjeenaa.Q Go.Proofs.Ytlcbpaenjjeenaa.P Go.Proofs.YtlcbpaenjjeenaaW.PrintWords Go.Proofs.YtlcbpaenjjeenaaW.PrintLast Go.Proofs.YtlcbpaenjjeenaaW.PrintMore
open Go.Proofs.Ytlcbpaenjjeenaa.R
instance (a b : S70) : Decidable (ltSlot a b) := by unfold ltSlot; exact inferInstance
theorem ls_irrefl (x : S70) : ¬ ltSlot x x := by unfold ltSlot; omega
theorem ls_asym (x y : S70) (h : ltSlot x y) : ¬ ltSlot y x := by unfold ltSlot at *; omega
theorem ls_trans {a b c : S70} (h : ltSlot a b) (k : ltSlot b c) : ltSlot a c := by unfold ltSlot at *; omega
theorem s70_ext {x y : S70} (h0 : x.f0 = y.f0) (h1 : x.f1 = y.f1) : x = y := by cases x; cases y; simp_all
theorem ls_of_not {a b : S70} (h : ¬ ltSlot a b) (k : b ≠ a) : ltSlot b a := by
  have : ¬ (b.f0 = a.f0 ∧ b.f1 = a.f1) := fun h => k (s70_ext h.1 h.2)
  unfold ltSlot at *
  omega
theorem rdS_of {l : List S70} {i : Nat} (h : i < l.length) : rd_T70 l (i : Int) = l[i] := by unfold rd_T70; simp [List.getD_eq_getElem?_getD, List.getElem?_eq_getElem h]
theorem insS_ev (l : List S70) (x4 : Int) (R : List S70) : ∀ (n : Nat) (A B : List S70) (e : S70), A.length = n → n + B.length ≤ 4611686018427387904 → (A ++ B).Pairwise ltSlot → (∀ b ∈ B, ltSlot e b) → (∀ a ∈ A, a ≠ e) →
    (∀ L : List S70, L.Pairwise ltSlot → (∀ m, m ∈ L ↔ m = e ∨ m ∈ A ++ B) → L.length = A.length + B.length + 1 → Ev (fun k => ebbtideref03_Slots.l0 k l L (wrap64 (x4 + 1))) R) → Ev (fun k => ebbtideref03_Slots.l2 k l (A ++ e :: B) x4 (n : Int)) R := by
  intro n
  induction n with
  | zero =>
    intro A B e hA hn hs hB hne hc
    obtain rfl : A = [] := List.eq_nil_of_length_eq_zero hA
    refine Ev.step (fun k => by rw [ebbtideref03_Slots.l2, if_neg (by omega)]; rfl) (hc (e :: B) ?_ ?_ ?_)
    · rw [List.pairwise_cons]; exact ⟨hB, hs⟩
    · intro m; simp
    · simp
  | succ n ih =>
    intro A B e hA hn hs hB hne hc
    obtain ⟨A', a, rfl⟩ : ∃ A' a, A = A' ++ [a] := ⟨A.dropLast, A.getLast (fun h => by rw [h] at hA; cases hA), (List.dropLast_concat_getLast _).symm⟩
    have hA' : A'.length = n := by simpa using hA
    subst hA'
    have g1 : rd_T70 (A' ++ [a] ++ e :: B) ((A'.length + 1 : Nat) : Int) = e := by
      unfold rd_T70
      rw [Int.toNat_natCast, List.getD_eq_getElem?_getD, List.getElem?_append_right (by simp)]
      simp
    have g0 : rd_T70 (A' ++ [a] ++ e :: B) (A'.length : Int) = a := by
      unfold rd_T70
      rw [Int.toNat_natCast, List.getD_eq_getElem?_getD, List.append_assoc, List.getElem?_append_right (Nat.le_refl _)]
      simp
    have hw : wrap64 (((A'.length + 1 : Nat) : Int) - 1) = (A'.length : Int) := by unfold wrap64; omega
    have hlen : (A' ++ [a] ++ e :: B).length = A'.length + 1 + (B.length + 1) := by simp; omega
    have hsw : ((A' ++ [a] ++ e :: B).set (A'.length + 1) a).set A'.length e = A' ++ e :: a :: B := by
      rw [List.set_append_right _ _ (by simp)]
      simp only [List.length_append, List.length_singleton, Nat.sub_self, List.set_cons_zero]
      rw [List.append_assoc, List.set_append_right _ _ (Nat.le_refl _)]
      simp
    have hstep : ∀ k, ebbtideref03_Slots.l2 (k + 1) l (A' ++ [a] ++ e :: B) x4 ((A'.length + 1 : Nat) : Int) = if ltSlot e a then ebbtideref03_Slots.l2 k l (A' ++ e :: a :: B) x4 (A'.length : Int) else ebbtideref03_Slots.l0 k l (A' ++ [a] ++ e :: B) (wrap64 (x4 + 1)) := by
      intro k
      rw [ebbtideref03_Slots.l2, if_pos (by omega), if_pos (by omega), if_pos (by omega), hw, if_pos (by omega), if_pos (by omega), g1, g0]
      simp only [Int.toNat_natCast]
      rw [show ((⟨a.f0, a.f1⟩ : S70)) = a from rfl, show ((⟨e.f0, e.f1⟩ : S70)) = e from rfl, hsw]
      by_cases c1 : e.f1 < a.f1
      · rw [if_pos c1, if_pos (show ltSlot e a from .inl c1)]
      · rw [if_neg c1]
        by_cases c2 : e.f1 = a.f1
        · rw [if_pos c2]
          by_cases c3 : e.f0 < a.f0
          · rw [if_pos c3, if_pos (show ltSlot e a from .inr ⟨c2, c3⟩)]
          · rw [if_neg c3, if_neg (show ¬ ltSlot e a by unfold ltSlot; omega)]
        · rw [if_neg c2, if_neg (show ¬ ltSlot e a by unfold ltSlot; omega)]
    rw [List.append_assoc, List.singleton_append] at hs
    refine Ev.step hstep ?_
    by_cases c : ltSlot e a
    · simp only [c, if_true]
      refine ih A' (a :: B) e rfl (by simp at hn ⊢; omega) hs (fun b hb => ?_) (fun x hx => hne x (List.mem_append_left _ hx)) (fun L h1 h2 h3 => hc L h1 (fun m => ?_) (by simp at h3 ⊢; omega))
      · rcases List.mem_cons.1 hb with rfl | hb
        · exact c
        · exact hB b hb
      · rw [h2]; simp
    · simp only [c, if_false]
      have hae : ltSlot a e := ls_of_not c (hne a (by simp))
      rw [List.pairwise_append] at hs
      obtain ⟨hs1, hs2, hs3⟩ := hs
      rw [List.pairwise_cons] at hs2
      refine hc _ ?_ (fun m => ?_) (by simp; omega)
      · rw [List.append_assoc, List.singleton_append, List.pairwise_append]
        refine ⟨hs1, ?_, ?_⟩
        · rw [List.pairwise_cons, List.pairwise_cons]
          refine ⟨fun b hb => ?_, hB, hs2.2⟩
          rcases List.mem_cons.1 hb with rfl | hb
          · exact hae
          · exact hs2.1 b hb
        · intro x hx b hb
          rcases List.mem_cons.1 hb with rfl | hb
          · exact hs3 x hx _ List.mem_cons_self
          · rcases List.mem_cons.1 hb with rfl | hb
            · exact ls_trans (hs3 x hx a List.mem_cons_self) hae
            · exact hs3 x hx b (List.mem_cons_of_mem _ hb)
      · simp only [List.mem_append, List.mem_cons, List.not_mem_nil, or_false]
        constructor
        · rintro ((h | h) | h | h)
          · exact .inr (.inl (.inl h))
          · exact .inr (.inl (.inr h))
          · exact .inl h
          · exact .inr (.inr h)
        · rintro (h | (h | h) | h)
          · exact .inr (.inl h)
          · exact .inl (.inl h)
          · exact .inl (.inr h)
          · exact .inr (.inr h)
def eqS (e y : S70) : Bool := y.f0 == e.f0 && (y.f1 == e.f1)
theorem eqS_iff (e y : S70) : eqS e y = true ↔ y = e := by
  unfold eqS
  simp only [Bool.and_eq_true, beq_iff_eq]
  exact ⟨fun h => s70_ext h.1 h.2, fun h => by rw [h]; exact ⟨rfl, rfl⟩⟩
theorem rslots_l1 (l : List S70) (hl : l.length ≤ 1048576) (L : List S70) (hL : L.length ≤ 1048576) (i : Nat) (hi : i < l.length) (R : List S70)
    (h1 : L.any (eqS l[i]) = true → Ev (fun k => ebbtideref03_Slots.l0 k l L ((i + 1 : Nat) : Int)) R)
    (h2 : L.any (eqS l[i]) = false → Ev (fun k => ebbtideref03_Slots.l2 k l (L ++ [l[i]]) (i : Int) (L.length : Int)) R) :
    ∀ d j, j + d = L.length → Ev (fun k => ebbtideref03_Slots.l1 k l L (i : Int) ((L.take j).any (eqS l[i])) (j : Int)) R := by
  intro d
  induction d with
  | zero =>
    intro j hj
    have e : L.take j = L := List.take_of_length_le (by omega)
    rw [e]
    cases c : L.any (eqS l[i]) with
    | true =>
      refine Ev.step (fun k => ?_) (h1 c)
      rw [ebbtideref03_Slots.l1, if_neg (by omega), if_pos rfl, wrap1 (by omega)]
    | false =>
      refine Ev.step (fun k => ?_) (h2 c)
      rw [ebbtideref03_Slots.l1, if_neg (by omega), if_neg (by simp), if_pos (by omega), if_pos (by omega), if_pos (by omega), rdS_of hi]
      simp only [Option.bind_some]
      have e2 : wrap64 (((L ++ [l[i]]).length : Int) - 1) = (L.length : Int) := by rw [List.length_append]; simp; unfold wrap64; omega
      rw [show ((⟨l[i].f0, l[i].f1⟩ : S70)) = l[i] from rfl, e2]
  | succ d ih =>
    intro j hj
    have hlt : j < L.length := by omega
    refine Ev.step (fun k => ?_) (ih (j + 1) (by omega))
    have e : (L.take (j + 1)).any (eqS l[i]) = ((L.take j).any (eqS l[i]) || eqS l[i] L[j]) := by
      rw [List.take_succ_eq_append_getElem hlt, List.any_append, List.any_cons, List.any_nil, Bool.or_false]
    rw [e, ebbtideref03_Slots.l1, if_pos (by omega), wrap1 (by omega)]
    cases c : (L.take j).any (eqS l[i]) with
    | true => rw [if_pos rfl, Bool.true_or]
    | false =>
      rw [if_neg (by simp), if_pos (by omega), if_pos (by omega), if_pos (by omega), Bool.false_or, rdS_of hlt, rdS_of hi]
      rfl
theorem rslots_ev (l : List S70) (hl : l.length ≤ 1048576) (T : List S70) (hT : T.Pairwise ltSlot) (hM : ∀ m, m ∈ T ↔ m ∈ l) : Ev (fun k => ebbtideref03_Slots.f k l) T := by
  have hloop : ∀ d i (L : List S70), i + d = l.length → L.Pairwise ltSlot → (∀ m, m ∈ L ↔ m ∈ l.take i) → L.length ≤ i → Ev (fun k => ebbtideref03_Slots.l0 k l L (i : Int)) T := by
    intro d
    induction d with
    | zero =>
      intro i L hi hs hm hlen
      rw [List.take_of_length_le (by omega)] at hm
      have e : L = T := sorted_ext ls_irrefl ls_asym hs hT (fun x => by rw [hm, hM])
      rw [← e]
      exact ev_cst fun k => by rw [ebbtideref03_Slots.l0, if_neg (by omega)]
    | succ d ih =>
      intro i L hi hs hm hlen
      have hlt : i < l.length := by omega
      have h1 := rslots_l1 l hl L (by omega) i hlt T
        (fun c => ih (i + 1) L (by omega) hs (fun m => by
          rw [hm, List.take_succ_eq_append_getElem hlt, List.mem_append, List.mem_singleton]
          refine ⟨.inl, fun h => ?_⟩
          rcases h with h | h
          · exact h
          · obtain ⟨y, hy, hk⟩ := List.any_eq_true.1 c
            rw [eqS_iff] at hk
            rw [h, ← hk]
            exact (hm y).1 hy) (by omega))
        (fun c => by
          have hne : ∀ a ∈ L, a ≠ l[i] := fun a ha e => by
            have h3 := List.any_eq_false.1 c a ha
            exact h3 ((eqS_iff _ _).2 e)
          refine insS_ev l (i : Int) T L.length L [] l[i] rfl (by simp; omega) (by rw [List.append_nil]; exact hs) (fun b hb => by cases hb) hne (fun L' g1 g2 g3 => ?_)
          rw [wrap1 (by omega)]
          refine ih (i + 1) L' (by omega) g1 (fun m => ?_) (by simp at g3; omega)
          rw [g2, List.append_nil, hm, List.take_succ_eq_append_getElem hlt, List.mem_append, List.mem_singleton]
          exact Or.comm)
        L.length 0 (by omega)
      refine Ev.step (fun k => ?_) h1
      rw [ebbtideref03_Slots.l0, if_pos (by omega)]
      rfl
  exact hloop l.length 0 [] (by omega) List.Pairwise.nil (fun m => by simp) (Nat.zero_le _)
theorem keptS_mem (l : List S70) (m : S70) : m ∈ keptS l ↔ m ∈ l := by
  unfold keptS
  rw [List.mem_map]
  constructor
  · rintro ⟨p, hp, rfl⟩
    obtain ⟨x, hx, rfl⟩ := (mem_keysOf _ _ _).1 hp
    exact hx
  · intro h
    exact ⟨keyS m, (mem_keysOf _ _ _).2 ⟨m, h, rfl⟩, rfl⟩
theorem slotsT (l : List S70) : (srtL cfSlot (keptS l)).Pairwise ltSlot ∧ ∀ m, m ∈ srtL cfSlot (keptS l) ↔ m ∈ l := by
  obtain ⟨hp, hs⟩ := srtL_spec swoSlot (keptS l)
  refine ⟨?_, fun m => by rw [hp.mem_iff, keptS_mem]⟩
  have hnd : (keptS l).Nodup := by
    unfold keptS
    rw [List.Nodup, List.pairwise_map]
    refine (nodup_keysOf keyS l).imp ?_
    intro a b h e
    unfold mkS at e
    injection e with e0 e1
    exact h (Prod.ext e0 e1)
  have hnd2 : (srtL cfSlot (keptS l)).Nodup := (hp.nodup_iff).2 hnd
  have hpair := List.pairwise_and_iff.2 ⟨hs, hnd2⟩
  refine hpair.imp ?_
  rintro x y ⟨h1, h2⟩
  rw [← Bool.not_eq_true, ltSlot_eq] at h1
  exact ls_of_not h1 h2
theorem sameSlots_ev (l : List S70) (hl : l.length ≤ 4611686018427387904) : Ev (fun k => ebbtideref03_SameSlots.f k l l) true := by
  have hloop : ∀ d i, i + d = l.length → Ev (fun k => ebbtideref03_SameSlots.l0 k l l (i : Int)) true := by
    intro d
    induction d with
    | zero => intro i hi; exact ev_cst fun k => by rw [ebbtideref03_SameSlots.l0, if_neg (by omega)]
    | succ d ih =>
      intro i hi
      refine Ev.step (fun k => ?_) (ih (i + 1) (by omega))
      rw [ebbtideref03_SameSlots.l0, if_pos (by omega), if_pos (by omega), if_pos (by omega), if_neg (by simp), wrap1 (by omega)]
  refine Ev.congr (fun k => ?_) (hloop l.length 0 (by omega))
  unfold ebbtideref03_SameSlots.f
  rw [if_pos rfl]
  rfl
theorem TableSlots : TableSlots.Pure := by
  intro N0 l g
  apply Ev.rounds
  unfold ebbtidelaw03_TableSlots.f ebbtidelaw03_awake.f
  by_cases c : (l.length : Int) > 200
  · simp only [c, if_true, Option.bind_some]; exact Ev.now _
  · have hl : l.length ≤ 1048576 := by omega
    have hk : (keptS l).length ≤ l.length := by unfold keptS; rw [List.length_map]; exact keysOf_length_le _ _
    have hgood : l.all (fun x => good2 (keyS x)) = true := by
      rw [List.all_eq_true]
      intro x hx
      have h0 := Go.bounds_i64 (g.2.2 x hx).1
      have h1 := Go.bounds_i64 (g.2.2 x hx).2
      unfold good2 keyS
      rw [wf_i64 h0.1 h0.2, wf_i64 h1.1 h1.2]
      rfl
    have e1 : ∀ k, table_Slots.f k l = some (srtL cfSlot (keptS l)) := by
      intro k
      unfold table_Slots.f api_Slot_44.f
      rw [if_pos ⟨hl, hgood⟩, if_pos (by omega)]
    simp only [c, if_false, if_true, e1, Option.bind_some]
    obtain ⟨hT, hM⟩ := slotsT l
    refine Ev.bind (rslots_ev l hl _ hT hM) ?_
    refine Ev.bind (sameSlots_ev _ ?_) (Ev.now _)
    rw [srtL_length swoSlot]
    omega
end Go.Proofs.Ytlcbpaenjjeenaa.Pure
end
section
namespace Go.Proofs.Ytlcbpaenjjeenaa
open Go Go.RowKit
def ioHead : List Char := List.map Char.ofNat [104, 97, 114, 110, 101, 115, 115, 32, 53, 52, 50, 101, 57, 98, 48, 48, 99, 102, 51, 53, 100, 102, 100, 102, 55, 101, 50, 51, 97, 101, 52, 102, 97, 49, 54, 100, 102, 57, 52, 52, 53, 56, 57, 56, 97, 101, 52, 55, 97, 102, 51, 52, 102, 99, 52, 48, 55, 56, 53, 49, 101, 52, 49, 50, 102, 57, 51, 55, 102, 98, 53, 102, 32, 99, 117, 116, 32]
def ioRest : List Char := List.map Char.ofNat [97, 116, 32, 101, 98, 98, 116, 105, 100, 101, 47, 101, 98, 98, 116, 105, 100, 101, 108, 97, 119, 48, 51, 46, 84, 97, 98, 108, 101, 70, 105, 110, 100, 115, 32, 101, 98, 98, 116, 105, 100, 101, 47, 101, 98, 98, 116, 105, 100, 101, 108, 97, 119, 48, 51, 46, 84, 97, 98, 108, 101, 71, 114, 111, 117, 112, 115, 32, 101, 98, 98, 116, 105, 100, 101, 47, 101, 98, 98, 116, 105, 100, 101, 108, 97, 119, 48, 51, 46, 84, 97, 98, 108, 101, 77, 101, 114, 103, 101, 115, 32, 101, 98, 98, 116, 105, 100, 101, 47, 101, 98, 98, 116, 105, 100, 101, 108, 97, 119, 48, 51, 46, 84, 97, 98, 108, 101, 66, 117, 115, 121, 32, 101, 98, 98, 116, 105, 100, 101, 47, 101, 98, 98, 116, 105, 100, 101, 108, 97, 119, 48, 51, 46, 84, 97, 98, 108, 101, 87, 104, 111, 108, 101, 32, 101, 98, 98, 116, 105, 100, 101, 47, 101, 98, 98, 116, 105, 100, 101, 108, 97, 119, 48, 51, 46, 84, 97, 98, 108, 101, 83, 117, 109, 115, 32, 101, 98, 98, 116, 105, 100, 101, 47, 101, 98, 98, 116, 105, 100, 101, 108, 97, 119, 48, 51, 46, 84, 97, 98, 108, 101, 83, 108, 111, 116, 115, 32, 101, 98, 98, 116, 105, 100, 101, 47, 101, 98, 98, 116, 105, 100, 101, 108, 97, 119, 48, 51, 46, 84, 97, 98, 108, 101, 84, 117, 114, 110, 115, 32, 101, 98, 98, 116, 105, 100, 101, 47, 101, 98, 98, 116, 105, 100, 101, 108, 97, 119, 48, 51, 46, 84, 97, 98, 108, 101, 77, 111, 118, 101, 115, 32, 101, 98, 98, 116, 105, 100, 101, 47, 101, 98, 98, 116, 105, 100, 101, 108, 97, 119, 48, 51, 46, 84, 97, 98, 108, 101, 79, 114, 100, 101, 114]
set_option maxRecDepth 100000 in
theorem io_eq : Try.pinned.checked.prog.initOrder = String.ofList (ioHead ++ ioRest) := by kernel_rfl
theorem io_toList : Try.pinned.checked.prog.initOrder.toList = ioHead ++ ioRest := by rw [io_eq]; exact String.toList_ofList
def ioCut : List Char := List.map Char.ofNat [99, 117, 116]
set_option maxRecDepth 100000 in
theorem io_words (r : List Char) : behindMainWord (wordsSigns (ioHead ++ r)) = ioCut :: wordsSigns r := by kernel_rfl
theorem io_behind : ∃ X, behindMainWord (wordsSigns Try.pinned.checked.prog.initOrder.toList) = ioCut :: X := ⟨_, by rw [io_toList]; exact io_words _⟩
theorem io_cut : ioCut = "cut".toList := by decide +kernel
theorem io_strip (X : List (List Char)) : stripLifts liftWords (ioCut :: X) = ([], ioCut :: X) := by kernel_rfl
theorem headLifts_cut (P : Program) (h : ∃ X, behindMainWord (wordsSigns P.initOrder.toList) = ioCut :: X) : P.headLifts = [] := by
  obtain ⟨X, e⟩ := h
  unfold Program.headLifts
  rw [e, io_strip]
  rfl
theorem mayEnter_cut (P : Program) (h : ∃ X, behindMainWord (wordsSigns P.initOrder.toList) = ioCut :: X) (h1 : P.laysLater = false) (h2 : P.bearsReflect = false) (h3 : P.doorFits [] = true) : P.mayEnter = true := by
  obtain ⟨X, e⟩ := h
  unfold Program.mayEnter
  rw [e]
  simp only [io_strip, h1, h2, h3]
  rw [io_cut]
  simp
theorem liftsFinal_cut (P : Program) (h : ∃ X, behindMainWord (wordsSigns P.initOrder.toList) = ioCut :: X) : P.liftsFinal = false := by
  have h0 := headLifts_cut P h
  obtain ⟨X, e⟩ := h
  unfold Program.liftsFinal
  rw [e, h0]
  rw [io_cut]
  simp
theorem make_cut (P : Program) (h : ∃ X, behindMainWord (wordsSigns P.initOrder.toList) = ioCut :: X) : P.make = some .cut := by
  obtain ⟨X, e⟩ := h
  unfold Program.make
  rw [e]
  simp only [io_cut]
  rw [if_neg (by decide +kernel), if_pos (by simp)]
theorem p_mayEnter : Try.pinned.checked.prog.mayEnter = true := mayEnter_cut _ io_behind (by kernel_rfl) (by kernel_rfl) (by kernel_rfl)
theorem p_liftsFinal : Try.pinned.checked.prog.liftsFinal = false := liftsFinal_cut _ io_behind
theorem p_make : Try.pinned.checked.prog.make = some .cut := make_cut _ io_behind
theorem p_laidOut : laidOutB Try.pinned.checked.prog = true := by kernel_rfl
theorem p_mapsRowed : mapsRowed Try.pinned.checked.prog = true := by kernel_rfl
theorem p_stopsHeard : Try.pinned.checked.prog.stopsHeard = true := by kernel_rfl
theorem p_stops : Try.pinned.checked.prog.stops = [] := by kernel_rfl
theorem p_stopKnobs : Try.pinned.checked.prog.stopKnobs = [] := by kernel_rfl
end Go.Proofs.Ytlcbpaenjjeenaa
end
section
namespace Go.Proofs.Ytlcbpaenjjeenaa.tableSlots
open Go.ChangeShapes Go.WideShapes Go.ChangeAt Go.RowKit
open Go.ChangeMaps (open_string shut_string)
open Go.Proofs.Ytlcbpaenjjeenaa.Q Go.Proofs.Ytlcbpaenjjeenaa.R Go.Proofs.YtlcbpaenjjeenaaW.PrintWords
set_option linter.unusedVariables false
theorem own : ownKnob Try.prog.godebug = none := by kernel_rfl
theorem laidOut : laidOutB Try.prog = true := by kernel_rfl
set_option maxRecDepth 100000 in
theorem lifted (os : Os) (started : os.Started) (H : Type) (enc : TypeId × Value → H) :
    ReturnsInHanded {} Try.checked os 9 .any (Rows.tableSlotsSpec.pre6 enc Try.prog Try.f9 Rows.tableSlotsRow.domain false) (Rows.tableSlotsSpec.post enc Try.prog Try.f9 false true false false) := by
  refine returnsInHanded_of_change_sized (C := Try.checked) own started (by kernel_rfl) Try.func9
    (ChangeSpec.witness6 (enc := enc) (C := Try.checked) false ⟨#[], #[.slice none 0 0], []⟩ 8 (by kernel_rfl) (by kernel_rfl) (by kernel_rfl) (by kernel_rfl)) ?_
  intro W base args ds gs before hval0 hW hcnd hsz0 _
  have hval : ∀ (j : Nat) t v, Try.f9.params[j]? = some t → args[j]? = some v → Value.okWide Try.prog W .any base t v := hval0
  have hW' := hW
  obtain ⟨p, q, hA0, hV, rfl, hfz, hnd⟩ := hW
  have hA : DataW.TrodAll enc Try.prog W 0 (fun _ => true) true Try.f9.params.toList args.toList ds p := hA0
  rw [Try.params9] at hA hval
  obtain ⟨v0, vs0, d0, ds0, p0, q0, hargs, rfl, rfl, h0, r0⟩ := trodAll_cons hA
  obtain ⟨rfl, rfl, rfl⟩ := trodAll_nil r0
  obtain rfl : args = #[v0] := by cases args; simp_all
  obtain ⟨rfl, rfl⟩ := trodVars_none hV
  have k0 := h0
  have lt0 : ∀ x ∈ p0, x.block < W.heap.size := by obtain ⟨m, hm⟩ := k0; exact DataW.trod_lt m _ _ _ hm
  obtain ⟨fu0, hf0⟩ := h0
  obtain ⟨x0, K0, G0⟩ := (readsSlice Try.underlying45 (by kernel_rfl) reads70) enc W 0 (fun _ => true) true fu0 _ _ hf0
  obtain ⟨a0, len0, cap0, rfl⟩ := okWide_slice Try.underlying45 (hval 0 45 v0 rfl rfl)
  obtain ⟨A0, c0, ek0, hc0, hr0⟩ := K0
  simp only [Value.cells, List.cons.injEq, and_true] at ek0
  injection ek0 with ea0 el0 ec0
  subst ea0 el0 ec0
  have h := Pure.TableSlots _ x0 (G0 _ (Nat.le_refl _))
  obtain ⟨k, h⟩ := h
  refine (ebbtidelaw03_TableSlots.calls k _ _ x0 true W hr0 hc0 h).mono fun e W' ⟨he, bel0⟩ => ?_
  have bel : Below W.heap.size W W' := bel0
  subst he
  exact ⟨_, rfl, _, _, _, [], _, [], hW', trodAll_mk1 (shut_bool Try.underlying4 _), (trodAll_cons_mk (Below.trod laidOut (by kernel_rfl) (of_decide_eq_true (by kernel_rfl)) k0 bel lt0) trodAll_mk0), rfl, bel.frame _, fun h => by cases h⟩
theorem andI {a b : Bool} (x : a = true) (y : b = true) : (a && b) = true := by rw [x, y]; rfl
set_option maxRecDepth 100000 in
set_option maxHeartbeats 8000000 in
theorem closed : joinedFacts Try.pinned.checked.prog 9 Try.f9 Rows.tableSlotsSpec Rows.tableSlotsRow = true := by
  unfold joinedFacts
  exact (andI (andI (andI (andI (andI (andI (andI (andI (andI (andI (andI (andI (andI (andI (andI (andI (andI (andI (andI (andI (andI (andI (andI (andI (andI (andI (andI (andI (andI (andI (andI (by as_aux_lemma => kernel_rfl)
    p_laidOut)
    p_mapsRowed)
    (by as_aux_lemma => kernel_rfl))
    (by as_aux_lemma => kernel_rfl))
    (by as_aux_lemma => kernel_rfl))
    (by rw [p_stops]; rfl))
    (by as_aux_lemma => kernel_rfl))
    (by rw [p_stopKnobs]; rfl))
    (by as_aux_lemma => kernel_rfl))
    (by as_aux_lemma => kernel_rfl))
    (by as_aux_lemma => kernel_rfl))
    (by as_aux_lemma => kernel_rfl))
    (by as_aux_lemma => kernel_rfl))
    (by as_aux_lemma => kernel_rfl))
    (by as_aux_lemma => kernel_rfl))
    (by as_aux_lemma => kernel_rfl))
    (by as_aux_lemma => kernel_rfl))
    (by as_aux_lemma => kernel_rfl))
    (by as_aux_lemma => kernel_rfl))
    (by as_aux_lemma => kernel_rfl))
    (by as_aux_lemma => kernel_rfl))
    (by as_aux_lemma => kernel_rfl))
    (by as_aux_lemma => kernel_rfl))
    p_stopsHeard)
    p_mayEnter)
    (by rw [p_liftsFinal]; rfl))
    (by rw [p_make]; rfl))
    (by as_aux_lemma => kernel_rfl))
    (by as_aux_lemma => kernel_rfl))
    (by as_aux_lemma => kernel_rfl))
    (by as_aux_lemma => kernel_rfl))
theorem proved : Rows.TableSlotsSaid :=
  OpenClaim.holds_of_wide 9 Try.f9 rfl rfl rfl rfl rfl rfl rfl ⟨rfl, rfl, rfl, rfl, rfl⟩ rfl rfl rfl rfl rfl (by kernel_rfl) Try.func9 closed
    (of_decide_eq_true (by kernel_rfl)) (by unfold Func.isWrapper; first | (rw [if_pos (by decide +kernel)]; kernel_rfl) | (rw [if_neg (by decide +kernel)]; exact ⟨rfl, rfl⟩))
    (fun os started H enc _ => lifted os started H enc)
#print axioms proved
end Go.Proofs.Ytlcbpaenjjeenaa.tableSlots
namespace Go.Proofs.Ytlcbpaenjjeenaa
theorem tableSlots_holds : Rows.TableSlotsSaid := tableSlots.proved
end Go.Proofs.Ytlcbpaenjjeenaa
end
