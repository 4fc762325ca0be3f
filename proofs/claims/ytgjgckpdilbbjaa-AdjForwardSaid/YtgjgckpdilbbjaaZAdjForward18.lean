/- A part of the proof: words, contracts, plain lemmas. Conditions: none. -/
import Derived.Test.YtgjgckpdilbbjaaZAdjForward17
import Derived.Test.YtgjgckpdilbbjaaRows
import Derived.Test.YtgjgckpdilbbjaaZAdjForward3
import Derived.Deep.Slices
import Derived.ProofKit
section
namespace Go.Proofs.Ytgjgckpdilbbjaa.P
set_option linter.unusedSimpArgs false
set_option linter.unusedVariables false
open Go.RowKit Go.Proofs.Ytgjgckpdilbbjaa.Q Go.Proofs.YtgjgckpdilbbjaaW.PrintWords Go.Proofs.YtgjgckpdilbbjaaW.PrintLast Go.Proofs.YtgjgckpdilbbjaaW.PrintMore
def waitOf (l : List S37) (out : List Int) (v : Int) (rest : List Int) (u : Int) : Nat := (List.range l.length).countP (fun (i : Nat) => decide ((rd_T37 l (i : Int)).f1 = u ∧ ((rd_T37 l (i : Int)).f0 ∉ out ∨ ((rd_T37 l (i : Int)).f0 = v ∧ (i : Int) ∈ rest))))
def Fw (l : List S37) (out : List Int) : Prop := ∀ a ∈ l, ∀ p : Nat, out[p]? = some a.f1 → ∃ p', p' < p ∧ out[p']? = some a.f0
structure OIn (l : List S37) (n : Nat) (d : List Int) (q : List (Int × Int)) (out : List Int) (v : Int) (rest : List Int) : Prop where
  len : d.length = n
  nod : out.Nodup
  rng : ∀ x ∈ out, 0 ≤ x ∧ x < (n : Int)
  cl : ∀ a ∈ l, a.f1 ∈ out → a.f0 ∈ out
  fw : Fw l out
  wt : ∀ u : Nat, u < n → rd d (u : Int) = (waitOf l out v rest (u : Int) : Int)
  sorted : Sorted2 q
  qnod : q.Nodup
  mem : ∀ x, x ∈ q ↔ ∃ u : Nat, u < n ∧ x = ((u : Int), (0 : Int)) ∧ (u : Int) ∉ out ∧ rd d (u : Int) = 0
theorem oins_mem {x y : Int × Int} {s : List (Int × Int)} : y ∈ ins x s ↔ y = x ∨ y ∈ s := by rw [(ins_perm x s).mem_iff, List.mem_cons]
theorem oins_nodup {x : Int × Int} {s : List (Int × Int)} (h : s.Nodup) (hx : x ∉ s) : (ins x s).Nodup := (ins_perm x s).nodup_iff.2 (List.nodup_cons.2 ⟨hx, h⟩)
theorem pile_short {n : Nat} {q : List (Int × Int)} (hn : q.Nodup) (h : ∀ x ∈ q, ∃ u : Nat, u < n ∧ x = ((u : Int), (0 : Int))) : q.length ≤ n := by
  have h1 : (q.map Prod.fst).Nodup := by
    refine List.pairwise_map.2 (List.Pairwise.imp_of_mem ?_ hn)
    intro a b ha hb hab e
    obtain ⟨u, _, rfl⟩ := h a ha
    obtain ⟨w, _, rfl⟩ := h b hb
    exact hab (by rw [show (u : Int) = (w : Int) from e])
  have := nodup_ints (n := n) h1 (fun x hx => by
    obtain ⟨y, hy, rfl⟩ := List.mem_map.1 hx
    obtain ⟨u, hu, rfl⟩ := h y hy
    simp only
    omega)
  rw [List.length_map] at this
  exact this
theorem waitOf_le (l : List S37) (out : List Int) (v : Int) (rest : List Int) (u : Int) : waitOf l out v rest u ≤ l.length := by
  have := List.countP_le_length (p := fun (i : Nat) => decide ((rd_T37 l (i : Int)).f1 = u ∧ ((rd_T37 l (i : Int)).f0 ∉ out ∨ ((rd_T37 l (i : Int)).f0 = v ∧ (i : Int) ∈ rest)))) (l := List.range l.length)
  rw [List.length_range] at this
  exact this
theorem countP_less {p q : Nat → Bool} {j : Nat} : ∀ {m : Nat}, j < m → p j = true → q j = false → (∀ i, i < m → i ≠ j → p i = q i) → (List.range m).countP p = (List.range m).countP q + 1
  | 0, h, _, _, _ => absurd h (Nat.not_lt_zero _)
  | m + 1, h, hp, hq, he => by
    rw [List.range_succ, List.countP_append, List.countP_append]
    by_cases c : j = m
    · subst c
      have : (List.range j).countP p = (List.range j).countP q := List.countP_congr (fun i hi => by rw [he i (by have := List.mem_range.1 hi; omega) (by have := List.mem_range.1 hi; omega)])
      rw [this]
      simp [hp, hq]
    · have ih := countP_less (m := m) (by omega) hp hq (fun i hi hne => he i (by omega) hne)
      rw [ih]
      have := he m (by omega) (fun e => c e.symm)
      simp [this]
      omega
theorem orderIn_ok {l : List S37} {n : Nat} (hfl : ∀ a ∈ l, (0 ≤ a.f0 ∧ a.f0 < (n : Int)) ∧ (0 ≤ a.f1 ∧ a.f1 < (n : Int))) (hn : n ≤ 50) (hl : l.length ≤ 200) (out : List Int) (v : Int) (hv : v ∈ out) (hvo : ∀ a ∈ l, a.f0 = v → a.f1 ∉ out) :
    ∀ (rest d : List Int) (q : List (Int × Int)), rest.Nodup → (∀ x ∈ rest, ∃ j : Nat, j < l.length ∧ (rd_T37 l (j : Int)).f0 = v ∧ x = (j : Int)) → OIn l n d q out v rest →
    ∃ d' q', orderIn l (n : Int) rest d q = some (d', q') ∧ OIn l n d' q' out v []
  | [], d, q, _, _, h => ⟨d, q, rfl, h⟩
  | x :: rest, d, q, hnd, hr, h => by
    obtain ⟨j, hj, hjv, rfl⟩ := hr x List.mem_cons_self
    have hr' : ∀ x ∈ rest, ∃ j : Nat, j < l.length ∧ (rd_T37 l (j : Int)).f0 = v ∧ x = (j : Int) := fun x hx => hr x (List.mem_cons_of_mem _ hx)
    obtain ⟨hj1, hj2⟩ := List.nodup_cons.1 hnd
    have hmem := rdT_mem hj
    obtain ⟨hw0, hw1⟩ := hfl _ hmem
    have hwo := hvo _ hmem hjv
    obtain ⟨w, hw⟩ : ∃ w : Nat, (rd_T37 l (j : Int)).f1 = (w : Int) := ⟨(rd_T37 l (j : Int)).f1.toNat, by omega⟩
    rw [hw] at hwo
    have hwn : w < n := by omega
    have hwl : w < d.length := by rw [h.len]; exact hwn
    have hless : waitOf l out v ((j : Int) :: rest) (w : Int) = waitOf l out v rest (w : Int) + 1 := by
      unfold waitOf
      refine countP_less hj ?_ ?_ (fun i hi hne => ?_)
      · simp only [decide_eq_true_eq]; exact ⟨hw, Or.inr ⟨hjv, List.mem_cons_self⟩⟩
      · simp only [decide_eq_false_iff_not]; rintro ⟨_, g | ⟨_, g⟩⟩
        · exact g (hjv ▸ hv)
        · exact hj1 g
      · refine decide_eq_decide.2 ⟨?_, ?_⟩
        · rintro ⟨g1, g2 | ⟨g2, g3⟩⟩
          · exact ⟨g1, Or.inl g2⟩
          · rcases List.mem_cons.1 g3 with g3 | g3
            · exact absurd (Int.ofNat_inj.1 g3) hne
            · exact ⟨g1, Or.inr ⟨g2, g3⟩⟩
        · rintro ⟨g1, g2 | ⟨g2, g3⟩⟩
          · exact ⟨g1, Or.inl g2⟩
          · exact ⟨g1, Or.inr ⟨g2, List.mem_cons_of_mem _ g3⟩⟩
    have hsame : ∀ u : Nat, u ≠ w → waitOf l out v ((j : Int) :: rest) (u : Int) = waitOf l out v rest (u : Int) := by
      intro u hu
      unfold waitOf
      refine List.countP_congr (fun i hi => ?_)
      simp only [decide_eq_true_eq]
      constructor
      · rintro ⟨g1, g2 | ⟨g2, g3⟩⟩
        · exact ⟨g1, Or.inl g2⟩
        · rcases List.mem_cons.1 g3 with g3 | g3
          · rw [g3, hw] at g1; exact absurd (Int.ofNat_inj.1 g1).symm hu
          · exact ⟨g1, Or.inr ⟨g2, g3⟩⟩
      · rintro ⟨g1, g2 | ⟨g2, g3⟩⟩
        · exact ⟨g1, Or.inl g2⟩
        · exact ⟨g1, Or.inr ⟨g2, List.mem_cons_of_mem _ g3⟩⟩
    have hdw := h.wt w hwn
    rw [hless] at hdw
    have hle := waitOf_le l out v rest (w : Int)
    obtain ⟨c, hc⟩ : ∃ c : Nat, waitOf l out v rest (w : Int) = c := ⟨_, rfl⟩
    rw [hc] at hdw hle
    have hwrap : wrap64 (rd d (w : Int) - 1) = (c : Int) := by rw [hdw]; unfold wrap64; omega
    have hst : ∀ u : Nat, rd (d.set w (c : Int)) (u : Int) = if u = w then (c : Int) else rd d (u : Int) := fun u => rd_set hwl u
    have hqs : q.length ≤ n := pile_short h.qnod (fun x hx => by obtain ⟨u, g1, g2, _⟩ := (h.mem x).1 hx; exact ⟨u, g1, g2⟩)
    have hwq : ((w : Int), (0 : Int)) ∉ q := fun e => by
      obtain ⟨u, g1, g2, g3, g4⟩ := (h.mem _).1 e
      injection g2 with g5 _
      have : w = u := Int.ofNat_inj.1 g5
      subst this
      omega
    have hmono : ∀ (q' : List (Int × Int)), Sorted2 q' → q'.Nodup → (∀ x, x ∈ q' ↔ ∃ u : Nat, u < n ∧ x = ((u : Int), (0 : Int)) ∧ (u : Int) ∉ out ∧ rd (d.set w (c : Int)) (u : Int) = 0) → OIn l n (d.set w (c : Int)) q' out v rest := fun q' g1 g2 g3 => {
      len := by rw [List.length_set]; exact h.len
      nod := h.nod, rng := h.rng, cl := h.cl, fw := h.fw
      wt := fun u hu => by
        rw [hst]
        by_cases e : u = w
        · subst e; rw [if_pos rfl, hc]
        · rw [if_neg e, h.wt u hu, hsame u e]
      sorted := g1, qnod := g2, mem := g3 }
    unfold orderIn
    rw [if_pos ⟨by omega, by omega, by omega, by rw [h.len]; omega, by omega⟩, hw, hwrap, Int.toNat_natCast]
    by_cases c0 : (c : Int) = 0
    · rw [if_pos c0]
      have hq1 : (ins ((w : Int), (0 : Int)) q).length ≤ n := pile_short (oins_nodup h.qnod hwq) (fun x hx => by
        rcases oins_mem.1 hx with rfl | hx
        · exact ⟨w, hwn, rfl⟩
        · obtain ⟨u, g1, g2, _⟩ := (h.mem x).1 hx; exact ⟨u, g1, g2⟩)
      rw [ins_length] at hq1
      rw [if_neg (by omega)]
      refine orderIn_ok hfl hn hl out v hv hvo rest _ _ hj2 hr' (hmono _ (ins_sorted _ _ h.sorted) (oins_nodup h.qnod hwq) (fun x => ?_))
      rw [oins_mem, h.mem]
      constructor
      · rintro (rfl | ⟨u, g1, g2, g3, g4⟩)
        · exact ⟨w, hwn, rfl, hwo, by rw [hst, if_pos rfl]; exact c0⟩
        · have : u ≠ w := fun e => by subst e; omega
          exact ⟨u, g1, g2, g3, by rw [hst, if_neg this]; exact g4⟩
      · rintro ⟨u, g1, g2, g3, g4⟩
        by_cases e : u = w
        · subst e; exact Or.inl g2
        · rw [hst, if_neg e] at g4; exact Or.inr ⟨u, g1, g2, g3, g4⟩
    · rw [if_neg c0]
      refine orderIn_ok hfl hn hl out v hv hvo rest _ _ hj2 hr' (hmono _ h.sorted h.qnod (fun x => ?_))
      rw [h.mem]
      constructor
      · rintro ⟨u, g1, g2, g3, g4⟩
        have : u ≠ w := fun e => by subst e; omega
        exact ⟨u, g1, g2, g3, by rw [hst, if_neg this]; exact g4⟩
      · rintro ⟨u, g1, g2, g3, g4⟩
        by_cases e : u = w
        · subst e; rw [hst, if_pos rfl] at g4; exact absurd g4 c0
        · rw [hst, if_neg e] at g4; exact ⟨u, g1, g2, g3, g4⟩
def Free (l : List S37) (out : List Int) (u : Int) : Prop := u ∉ out ∧ ∀ a ∈ l, a.f1 = u → a.f0 ∈ out
theorem wait_zero {l : List S37} {out : List Int} {v u : Int} : waitOf l out v [] u = 0 ↔ ∀ a ∈ l, a.f1 = u → a.f0 ∈ out := by
  unfold waitOf
  rw [List.countP_eq_zero]
  constructor
  · intro h a ha hu
    obtain ⟨j, hj, e⟩ := mem_rdT ha
    have := h j (List.mem_range.2 hj)
    simp only [decide_eq_true_eq] at this
    rw [e] at this
    exact Classical.byContradiction (fun g => this ⟨hu, Or.inl g⟩)
  · intro h i hi
    simp only [decide_eq_true_eq]
    rintro ⟨g1, g2 | ⟨_, g⟩⟩
    · exact g2 (h _ (rdT_mem (List.mem_range.1 hi)) g1)
    · cases g
theorem OIn.head {l : List S37} {n : Nat} {d : List Int} {x : Int × Int} {q : List (Int × Int)} {out : List Int} {v : Int} (h : OIn l n d (x :: q) out v []) : ∃ u : Nat, u < n ∧ x = ((u : Int), (0 : Int)) ∧ Free l out (u : Int) ∧ ∀ w : Nat, w < n → Free l out (w : Int) → u ≤ w := by
  obtain ⟨u, g1, g2, g3, g4⟩ := (h.mem x).1 List.mem_cons_self
  have h0 := h.wt u g1
  refine ⟨u, g1, g2, ⟨g3, (wait_zero (v := v)).1 (by omega)⟩, fun w hw hfr => ?_⟩
  have hw0 := h.wt w hw
  have hz := (wait_zero (v := v)).2 hfr.2
  have hm := (h.mem ((w : Int), (0 : Int))).2 ⟨w, hw, rfl, hfr.1, by omega⟩
  rcases List.mem_cons.1 hm with e | hm
  · rw [g2] at e; injection e with e _; have := Int.ofNat_inj.1 e; omega
  · have := (List.pairwise_cons.1 h.sorted).1 _ hm
    rw [g2] at this
    unfold plt at this
    simp only at this
    omega
theorem OIn.none {l : List S37} {n : Nat} {d : List Int} {out : List Int} {v : Int} (h : OIn l n d [] out v []) (w : Nat) (hw : w < n) : ¬ Free l out (w : Int) := fun hfr => by
  have hw0 := h.wt w hw
  have hz := (wait_zero (v := v)).2 hfr.2
  have hm := (h.mem ((w : Int), (0 : Int))).2 ⟨w, hw, rfl, hfr.1, by omega⟩
  cases hm
theorem order_step {l : List S37} {n : Nat} (hfl : ∀ a ∈ l, (0 ≤ a.f0 ∧ a.f0 < (n : Int)) ∧ (0 ≤ a.f1 ∧ a.f1 < (n : Int))) (hn : n ≤ 50) (hl : l.length ≤ 200) {d : List Int} {x : Int × Int} {q : List (Int × Int)} {out : List Int} {v : Int} (h : OIn l n d (x :: q) out v []) (hol : out.length ≤ n) :
    ∃ d' q', OIn l n d' q' (out ++ [x.1]) x.1 [] ∧ ∀ k, orderLoop l (rowsAt S37.f0 l n l.length) (n : Int) (k + 1) d (x :: q) out = orderLoop l (rowsAt S37.f0 l n l.length) (n : Int) k d' q' (out ++ [x.1]) := by
  obtain ⟨u, hu, rfl, ⟨hfr1, hfr2⟩, hmin⟩ := h.head
  obtain ⟨hq1, hq2⟩ := List.nodup_cons.1 h.qnod
  obtain ⟨hs1, hs2⟩ := List.pairwise_cons.1 h.sorted
  have hqs : (((u : Int), (0 : Int)) :: q).length ≤ n := pile_short h.qnod (fun x hx => by obtain ⟨u, g1, g2, _⟩ := (h.mem x).1 hx; exact ⟨u, g1, g2⟩)
  have hrow : (placesAt S37.f0 l l.length (u : Int)).Nodup := by
    unfold placesAt
    refine List.Pairwise.map _ (fun a b h => ?_) (List.Pairwise.filter _ List.nodup_range)
    intro e; exact h (Int.ofNat_inj.1 e)
  obtain ⟨d', q', h1, h2⟩ := orderIn_ok hfl hn hl (out ++ [(u : Int)]) (u : Int) (List.mem_append.2 (Or.inr List.mem_cons_self)) (fun a ha e g => by
      rcases List.mem_append.1 g with g | g
      · exact hfr1 (e ▸ h.cl a ha g)
      · rw [List.mem_singleton] at g
        exact hfr1 (e ▸ hfr2 a ha g)) (placesAt S37.f0 l l.length (u : Int)) d q hrow (fun y hy => plc_mem.1 hy) {
    len := h.len
    nod := List.nodup_append.2 ⟨h.nod, List.nodup_cons.2 ⟨List.not_mem_nil, List.nodup_nil⟩, fun a ha b hb e => by rw [List.mem_singleton] at hb; subst hb; subst e; exact hfr1 ha⟩
    rng := fun y hy => by
      rcases List.mem_append.1 hy with hy | hy
      · exact h.rng y hy
      · rw [List.mem_singleton] at hy; subst hy; omega
    cl := fun a ha g => by
      rcases List.mem_append.1 g with g | g
      · exact List.mem_append.2 (Or.inl (h.cl a ha g))
      · rw [List.mem_singleton] at g
        exact List.mem_append.2 (Or.inl (hfr2 a ha g))
    fw := fun a ha p hp => by
      rcases Nat.lt_or_ge p out.length with c | c
      · rw [List.getElem?_append_left c] at hp
        obtain ⟨p', g1, g2⟩ := h.fw a ha p hp
        exact ⟨p', g1, by rw [List.getElem?_append_left (by omega)]; exact g2⟩
      · have hp2 : p = out.length := by
          rcases Nat.lt_or_ge p (out ++ [(u : Int)]).length with c2 | c2
          · simp at c2; omega
          · rw [List.getElem?_eq_none c2] at hp; cases hp
        subst hp2
        rw [List.getElem?_append_right (Nat.le_refl _), Nat.sub_self] at hp
        have e : (u : Int) = a.f1 := by simpa using hp
        have hin := hfr2 a ha e.symm
        obtain ⟨p', hp', g⟩ := List.mem_iff_getElem.1 hin
        exact ⟨p', hp', by rw [List.getElem?_append_left hp', List.getElem?_eq_getElem hp', g]⟩
    wt := fun z hz => by
      rw [h.wt z hz]
      congr 1
      unfold waitOf
      refine List.countP_congr (fun i hi => ?_)
      have hi := List.mem_range.1 hi
      simp only [decide_eq_true_eq]
      constructor
      · rintro ⟨g1, g2 | ⟨_, g⟩⟩
        · refine ⟨g1, ?_⟩
          by_cases e : (rd_T37 l (i : Int)).f0 = (u : Int)
          · exact Or.inr ⟨e, plc_mem.2 ⟨i, hi, e, rfl⟩⟩
          · exact Or.inl (fun g => (List.mem_append.1 g).elim g2 (fun g => e (List.mem_singleton.1 g)))
        · cases g
      · rintro ⟨g1, g2 | ⟨g2, _⟩⟩
        · exact ⟨g1, Or.inl (fun g => g2 (List.mem_append.2 (Or.inl g)))⟩
        · exact ⟨g1, Or.inl (g2 ▸ hfr1)⟩
    sorted := hs2
    qnod := hq2
    mem := fun y => by
      constructor
      · intro hy
        obtain ⟨z, g1, g2, g3, g4⟩ := (h.mem y).1 (List.mem_cons_of_mem _ hy)
        refine ⟨z, g1, g2, fun g => (List.mem_append.1 g).elim g3 (fun g => ?_), g4⟩
        rw [List.mem_singleton] at g
        rw [g2, g] at hy
        exact hq1 hy
      · rintro ⟨z, g1, g2, g3, g4⟩
        have := (h.mem y).2 ⟨z, g1, g2, fun g => g3 (List.mem_append.2 (Or.inl g)), g4⟩
        rcases List.mem_cons.1 this with e | e
        · rw [g2] at e; injection e with e _
          exact absurd (List.mem_append.2 (Or.inr (by rw [e]; exact List.mem_cons_self))) g3
        · exact e }
  refine ⟨d', q', h2, fun k => ?_⟩
  conv => lhs; unfold orderLoop
  rw [if_pos ⟨by show (0 : Int) ≤ (u : Int); omega, by rw [rowsAt_length]; show (u : Int) < (n : Int); omega, by omega, by omega⟩]
  simp only
  rw [rowsAt_rd _ _ _ _ _ (by omega) (by omega), h1]
  rfl
def cntTo (l : List S37) (j : Nat) (u : Int) : Nat := (List.range j).countP (fun (i : Nat) => decide ((rd_T37 l (i : Int)).f1 = u))
theorem cntTo_succ (l : List S37) (j : Nat) (u : Int) : cntTo l (j + 1) u = cntTo l j u + if (rd_T37 l (j : Int)).f1 = u then 1 else 0 := by
  unfold cntTo
  rw [List.range_succ, List.countP_append]
  simp
theorem cntTo_le (l : List S37) (j : Nat) (u : Int) : cntTo l j u ≤ j := by
  have := List.countP_le_length (p := fun (i : Nat) => decide ((rd_T37 l (i : Int)).f1 = u)) (l := List.range j)
  rw [List.length_range] at this
  exact this
theorem orderWait_ok {l : List S37} {n : Nat} (hfl : ∀ a ∈ l, (0 ≤ a.f0 ∧ a.f0 < (n : Int)) ∧ (0 ≤ a.f1 ∧ a.f1 < (n : Int))) (hl : l.length ≤ 200) (e : Nat) : ∀ (j : Nat) (d : List Int), j + e = l.length → d.length = n → (∀ u : Nat, u < n → rd d (u : Int) = (cntTo l j (u : Int) : Int)) →
    ∃ dW, orderWait (l.drop j) d = some dW ∧ dW.length = n ∧ ∀ u : Nat, u < n → rd dW (u : Int) = (cntTo l l.length (u : Int) : Int) := by
  induction e with
  | zero =>
    intro j d hj hd h
    have e : j = l.length := by omega
    subst e
    exact ⟨d, by rw [List.drop_length]; rfl, hd, h⟩
  | succ e ih =>
    intro j d hj hd h
    have hm := rdT_mem (l := l) (i := j) (by omega)
    obtain ⟨_, h1⟩ := hfl _ hm
    obtain ⟨w, hw⟩ : ∃ w : Nat, (rd_T37 l (j : Int)).f1 = (w : Int) := ⟨(rd_T37 l (j : Int)).f1.toNat, by omega⟩
    have hwn : w < n := by omega
    have hc := cntTo_le l j (w : Int)
    have hwrap : wrap64 (rd d (w : Int) + 1) = rd d (w : Int) + 1 := by rw [h w hwn]; unfold wrap64; omega
    obtain ⟨dW, g1, g2, g3⟩ := ih (j + 1) (d.set w (rd d (w : Int) + 1)) (by omega) (by rw [List.length_set]; exact hd) (fun u hu => by
      rw [rd_set (by rw [hd]; exact hwn), cntTo_succ, hw]
      by_cases c : u = w
      · subst c; rw [if_pos rfl, if_pos rfl, h u hu]; push_cast; rfl
      · rw [if_neg c, if_neg (fun e => c (Int.ofNat_inj.1 e).symm), h u hu]; rfl)
    refine ⟨dW, ?_, g2, g3⟩
    rw [drop_T37 (by omega)]
    unfold orderWait
    rw [hw, if_pos ⟨by omega, by rw [hd]; omega⟩, hwrap, Int.toNat_natCast]
    exact g1
theorem orderFree_ok {n : Nat} (hn : n ≤ 50) {d : List Int} (hd : d.length = n) (e : Nat) : ∀ (v : Nat) (q : List (Int × Int)), v + e = n → Sorted2 q → q.Nodup → (∀ x, x ∈ q ↔ ∃ u : Nat, u < v ∧ x = ((u : Int), (0 : Int)) ∧ rd d (u : Int) = 0) →
    ∃ q', orderFree (n : Int) v (d.drop v) q = some q' ∧ Sorted2 q' ∧ q'.Nodup ∧ (∀ x, x ∈ q' ↔ ∃ u : Nat, u < n ∧ x = ((u : Int), (0 : Int)) ∧ rd d (u : Int) = 0) := by
  induction e with
  | zero =>
    intro v q hv h1 h2 h3
    have e : v = n := by omega
    subst e
    exact ⟨q, by rw [List.drop_of_length_le (by omega)]; rfl, h1, h2, h3⟩
  | succ e ih =>
    intro v q hv h1 h2 h3
    have hql : q.length ≤ v := pile_short h2 (fun x hx => by obtain ⟨u, g1, g2, _⟩ := (h3 x).1 hx; exact ⟨u, g1, g2⟩)
    rw [drop_rd (by omega)]
    unfold orderFree
    rw [if_pos (by omega)]
    by_cases c : rd d (v : Int) = 0
    · rw [if_pos c, if_neg (by omega)]
      have hvq : ((v : Int), (0 : Int)) ∉ q := fun g => by
        obtain ⟨u, g1, g2, _⟩ := (h3 _).1 g
        injection g2 with g2 _
        have := Int.ofNat_inj.1 g2
        omega
      refine ih (v + 1) _ (by omega) (ins_sorted _ _ h1) (oins_nodup h2 hvq) (fun x => ?_)
      rw [oins_mem, h3]
      constructor
      · rintro (rfl | ⟨u, g1, g2, g3⟩)
        · exact ⟨v, by omega, rfl, c⟩
        · exact ⟨u, by omega, g2, g3⟩
      · rintro ⟨u, g1, g2, g3⟩
        by_cases e : u = v
        · subst e; exact Or.inl g2
        · exact Or.inr ⟨u, by omega, g2, g3⟩
    · rw [if_neg c]
      refine ih (v + 1) _ (by omega) h1 h2 (fun x => ?_)
      rw [h3]
      constructor
      · rintro ⟨u, g1, g2, g3⟩; exact ⟨u, by omega, g2, g3⟩
      · rintro ⟨u, g1, g2, g3⟩
        by_cases e : u = v
        · subst e; exact absurd g3 c
        · exact ⟨u, by omega, g2, g3⟩
structure Good (l : List S37) (n : Nat) (out : List Int) : Prop where
  nod : out.Nodup
  rng : ∀ x ∈ out, 0 ≤ x ∧ x < (n : Int)
  fw : Fw l out
theorem orderLoop_ok {l : List S37} {n : Nat} (hfl : ∀ a ∈ l, (0 ≤ a.f0 ∧ a.f0 < (n : Int)) ∧ (0 ≤ a.f1 ∧ a.f1 < (n : Int))) (hn : n ≤ 50) (hl : l.length ≤ 200) (C : List Int → List Int → Prop)
    (hend : ∀ out, (∀ w : Nat, w < n → ¬ Free l out (w : Int)) → out.length ≤ n → C out out)
    (hround : ∀ out u lr, u < n → Free l out ((u : Nat) : Int) → (∀ w : Nat, w < n → Free l out (w : Int) → u ≤ w) → out.length < n → C (out ++ [(u : Int)]) lr → C out lr) :
    ∀ (m : Nat) (d : List Int) (q : List (Int × Int)) (out : List Int) (v : Int), OIn l n d q out v [] → out.length + m = n → ∃ lr, (∀ k, m + 1 ≤ k → orderLoop l (rowsAt S37.f0 l n l.length) (n : Int) k d q out = some lr) ∧ Good l n lr ∧ C out lr := by
  intro m
  induction m with
  | zero =>
    intro d q out v h hm
    cases q with
    | nil => exact ⟨out, fun k hk => by obtain ⟨k, rfl⟩ : ∃ k', k = k' + 1 := ⟨k - 1, by omega⟩; rfl, ⟨h.nod, h.rng, h.fw⟩, hend out (h.none) (by omega)⟩
    | cons x q =>
      obtain ⟨u, g1, rfl, ⟨g2, _⟩, _⟩ := h.head
      have := nodup_ints (n := n) (q := out ++ [(u : Int)]) (List.nodup_append.2 ⟨h.nod, List.nodup_cons.2 ⟨List.not_mem_nil, List.nodup_nil⟩, fun a ha b hb e => by rw [List.mem_singleton] at hb; subst hb; subst e; exact g2 ha⟩) (fun y hy => by
        rcases List.mem_append.1 hy with hy | hy
        · exact h.rng y hy
        · rw [List.mem_singleton] at hy; subst hy; omega)
      simp at this
      omega
  | succ m ih =>
    intro d q out v h hm
    cases q with
    | nil => exact ⟨out, fun k hk => by obtain ⟨k, rfl⟩ : ∃ k', k = k' + 1 := ⟨k - 1, by omega⟩; rfl, ⟨h.nod, h.rng, h.fw⟩, hend out (h.none) (by omega)⟩
    | cons x q =>
      obtain ⟨u, g1, hx, g2, g3⟩ := h.head
      obtain ⟨d', q', h1, h2⟩ := order_step hfl hn hl h (by omega)
      obtain ⟨lr, e1, e2, e3⟩ := ih d' q' (out ++ [x.1]) x.1 h1 (by simp; omega)
      refine ⟨lr, fun k hk => ?_, e2, hround out u lr g1 g2 g3 (by omega) (by rw [hx] at e3; exact e3)⟩
      obtain ⟨k, rfl⟩ : ∃ k', k = k' + 1 := ⟨k - 1, by omega⟩
      rw [h2 k]
      exact e1 k (by omega)
theorem order_both {n : Int} {l : List S37} (b : Bool) (h : NetOk n l) (C : List Int → List Int → Prop)
    (hend : ∀ out, (∀ w : Nat, w < n.toNat → ¬ Free l out (w : Int)) → out.length ≤ n.toNat → C out out)
    (hround : ∀ out u lr, u < n.toNat → Free l out ((u : Nat) : Int) → (∀ w : Nat, w < n.toNat → Free l out (w : Int) → u ≤ w) → out.length < n.toNat → C (out ++ [(u : Int)]) lr → C out lr) :
    ∃ lr, Good l n.toNat lr ∧ C [] lr ∧ Ev (fun k => adj_Order.f k n b l) (if (lr.length : Int) < n then ([], false, 0) else (lr, true, 0)) := by
  have hnn : (n.toNat : Int) = n := by have := h.lo; omega
  have hlo := h.lo
  have hhi := h.hi
  have hll := h.len
  have hfl : ∀ a ∈ l, (0 ≤ a.f0 ∧ a.f0 < (n.toNat : Int)) ∧ (0 ≤ a.f1 ∧ a.f1 < (n.toNat : Int)) := fun a ha => by
    have := h.arcs a ha
    have h0 := this.f0; have h1 := this.f1
    omega
  obtain ⟨dW, w1, w2, w3⟩ := orderWait_ok hfl hll l.length 0 (List.replicate n.toNat 0) (by omega) (by simp) (fun u hu => by rw [rd_replicate hu]; rfl)
  rw [List.drop_zero] at w1
  obtain ⟨q0, q1, q2, q3, q4⟩ := orderFree_ok (n := n.toNat) (by omega) w2 n.toNat 0 [] (by omega) sorted2_nil List.nodup_nil (fun x => ⟨fun g => by (cases g), fun ⟨u, g, _⟩ => absurd g (Nat.not_lt_zero u)⟩)
  rw [List.drop_zero, hnn] at q1
  have hO : OIn l n.toNat dW q0 [] 0 [] := {
    len := w2
    nod := List.nodup_nil
    rng := fun x hx => absurd hx List.not_mem_nil
    cl := fun a _ g => absurd g List.not_mem_nil
    fw := fun a _ p hp => by simp at hp
    wt := fun u hu => by
      rw [w3 u hu]
      congr 1
      unfold cntTo waitOf
      refine List.countP_congr (fun i hi => ?_)
      simp
    sorted := q2, qnod := q3
    mem := fun x => by
      rw [q4]
      constructor
      · rintro ⟨u, g1, g2, g3⟩; exact ⟨u, g1, g2, List.not_mem_nil, g3⟩
      · rintro ⟨u, g1, g2, _, g3⟩; exact ⟨u, g1, g2, g3⟩ }
  obtain ⟨lr, e1, e2, e3⟩ := orderLoop_ok hfl (by omega) hll C hend hround n.toNat dW q0 [] 0 hO (by simp)
  refine ⟨lr, e2, e3, ?_⟩
  unfold adj_Order.f
  refine Ev.bind (by have := check_ev n b l; rw [checkErr_ok.2 h] at this; exact this) ?_
  have hg : 1 ≤ n ∧ n ≤ 50 := ⟨hlo, hhi⟩
  simp only [if_true, if_pos hg]
  refine Ev.bind (leaving_ev b h) (Ev.bind (a := dW) ?_ (Ev.bind (a := q0) ?_ (Ev.bind (a := lr) ?_ ?_)))
  · exact Ev.congr (fun k => w1) (Ev.now _)
  · exact Ev.congr (fun k => q1) (Ev.now _)
  · have : Ev (fun k => orderLoop l (rowsAt S37.f0 l n.toNat l.length) (n.toNat : Int) k dW q0 []) lr := ⟨_, e1⟩
    rw [hnn] at this
    exact this
  · by_cases c : (lr.length : Int) < n
    · simp only [if_pos c]; exact Ev.now _
    · simp only [if_neg c]; exact Ev.now _
end Go.Proofs.Ytgjgckpdilbbjaa.P
end
section
namespace Go.Proofs.Ytgjgckpdilbbjaa.R
open Go.RowKit Go.Proofs.Ytgjgckpdilbbjaa.Q Go.Proofs.YtgjgckpdilbbjaaW.PrintWords Go.Proofs.YtgjgckpdilbbjaaW.PrintLast Go.Proofs.YtgjgckpdilbbjaaW.PrintMore
open Go.ChangeShapes Go.WideShapes Go.Deep
def Reads (t : TypeId) {α : Type} (d : Kd α) (G : Nat → α → Prop) : Prop :=
  ∀ {H : Type} (enc : TypeId × Value → H) (w : World) (base : Nat) (spare : Nat → Bool) (held : Bool) (fuel : Nat) (cs : List Value) (x : DataW H × List MemPlace),
    DataW.trod enc Try.prog w base spare held fuel t cs = some x → ∃ a, d.K w a cs ∧ ∀ N, Rows.uptoBulk x.1 ≤ N → G N a
def gInt (k : IntKind) (_ : Nat) (n : Int) : Prop := (Lit.int k n).wf = true
def gTrue (_ : Nat) (_ : Bool) : Prop := True
def gList {α : Type} (G : Nat → α → Prop) (N : Nat) (l : List α) : Prop := l.length ≤ maxLen ∧ l.length ≤ N ∧ ∀ x ∈ l, G N x
theorem readsInt {t : TypeId} {k : IntKind} (ht : Try.prog.underlying t = some (.int k)) : Reads t (Kd.int k) (gInt k) := by
  intro H enc w base spare held fuel cs x h
  obtain ⟨n, rfl, rfl, hw⟩ := DataW.trod_int ht h
  exact ⟨n, rfl, fun _ _ => hw⟩
theorem readsBool {t : TypeId} (ht : Try.prog.underlying t = some .bool) : Reads t Kd.bool gTrue := by
  intro H enc w base spare held fuel cs x h
  obtain ⟨n, rfl, rfl⟩ := DataW.trod_bool ht h
  exact ⟨n, rfl, fun _ _ => trivial⟩
theorem one_le {H : Type} (d : DataW H) : 1 ≤ Rows.uptoBulk d := by
  cases d with
  | lit l => cases l <;> simp [Rows.uptoBulk]
  | nil => simp [Rows.uptoBulk]
  | ptr d => simp [Rows.uptoBulk]
  | slice elems spare => simp [Rows.uptoBulk]
  | agg parts => simp [Rows.uptoBulk]
  | iface t d => simp [Rows.uptoBulk]
  | map entries => simp [Rows.uptoBulk]
  | held h => simp [Rows.uptoBulk]
theorem part_le {H : Type} {d : DataW H} {l : List (DataW H)} (h : d ∈ l) : Rows.uptoBulk d ≤ Rows.uptoBulkAll l := by
  induction l with
  | nil => cases h
  | cons x r ih =>
    simp only [Rows.uptoBulkAll]
    cases List.mem_cons.1 h with
    | inl e => subst e; omega
    | inr e => have := ih e; omega
theorem length_le {H : Type} (l : List (DataW H)) : l.length ≤ Rows.uptoBulkAll l := by
  induction l with
  | nil => simp [Rows.uptoBulkAll]
  | cons x r ih => have := one_le x; simp only [Rows.uptoBulkAll, List.length_cons]; omega
theorem readsSlice {t e : TypeId} {α : Type} [Inhabited α] {d : Kd α} {G : Nat → α → Prop} (ht : Try.prog.underlying t = some (.slice e)) (hc : Try.prog.cellsOf e = d.sz) (R : Reads e d G) : Reads t (Kd.slice e d) (gList G) := by
  intro H enc w base spare held fuel cs x h
  rcases open_slice ht h with ⟨rfl, rfl⟩ | ⟨a, len, cap, m, n, D, Pl, rfl, hb, hl, hm, hmm, rfl, hx⟩
  · exact ⟨[], ⟨none, 0, rfl, Nat.le_refl _, Kd.C_nil d w⟩, fun N _ => ⟨Nat.zero_le _, Nat.zero_le _, fun x hx => by cases hx⟩⟩
  · have hlm : len ≤ m := by rw [hmm]; split <;> omega
    obtain ⟨f, hf⟩ := choose_lt (α := α) (n := m) (p := fun i y => ∃ c, c.length = d.sz ∧ d.K w y c ∧ (∀ j u, c[j]? = some u → w.cell? (a.add (i * d.sz + j)) = some u) ∧ ∀ N, Rows.uptoBulk (D i) ≤ N → G N y) (fun i hi => by
      obtain ⟨c, h1, h2⟩ := hx i hi
      obtain ⟨y, hK, hG⟩ := R enc w base spare held n c _ h2
      obtain ⟨_, hlen, hcell⟩ := World.cells?_some h1
      rw [hc] at hlen hcell
      refine ⟨y, c, hlen, hK, fun j u hu => ?_, hG⟩
      have hj : j < d.sz := by rw [← hlen]; exact (List.getElem?_eq_some_iff.1 hu).1
      have := hcell j hj
      rw [Deep.add_add] at this
      rw [this, hu])
    have hL : ((List.range len).map f).length = len := by simp
    refine ⟨(List.range len).map f, ⟨some a, cap, by rw [hL], by rw [hL]; exact hl, ?_⟩, fun N hN => ?_⟩
    · refine ⟨rfl, by rw [hL]; exact Nat.le_trans hl (Nat.le_trans hm (by decide)), fun _ => ⟨a, rfl, fun j p hj => ?_⟩⟩
      have hjl : j < len := by
        have := (List.getElem?_eq_some_iff.1 hj).1
        rwa [hL] at this
      have hp : f j = p := by
        rw [List.getElem?_map, List.getElem?_range hjl] at hj
        exact Option.some.inj hj
      obtain ⟨c, h1, h2, h3, _⟩ := hf j (by omega)
      rw [hp] at h2
      exact ⟨c, h1, h2, h3⟩
    · have hbulk : Rows.uptoBulkAll ((List.range len).map D) ≤ N := by
        simp only [Rows.uptoBulk] at hN
        omega
      refine ⟨by rw [hL]; omega, by rw [hL]; have := length_le ((List.range len).map D); simp at this; omega, fun y hy => ?_⟩
      obtain ⟨i, hi, rfl⟩ := List.mem_map.1 hy
      have hi' := List.mem_range.1 hi
      obtain ⟨c, _, _, _, hG⟩ := hf i (by omega)
      exact hG N (Nat.le_trans (part_le (List.mem_map.2 ⟨i, hi, rfl⟩)) hbulk)
instance : Inhabited S37 := ⟨z37⟩
def g37 (N : Nat) (x : S37) : Prop := gInt .i64 N x.f0 ∧ gInt .i64 N x.f1 ∧ gInt .i64 N x.f2 ∧ gInt .i64 N x.f3
set_option maxRecDepth 100000 in
theorem reads37 : Reads 37 k37 g37 := by
  intro H enc w base spare held fuel cs x h
  obtain ⟨xs, n, _, hx, hl, hlen, hf⟩ := DataW.trod_struct Try.underlying37 h
  have hl2 : cs.length = 4 := hl.trans (by kernel_rfl)
  have hlen2 : xs.length = 4 := hlen
  match xs, hlen2, cs, hl2 with
  | [y0, y1, y2, y3], _, [v0, v1, v2, v3], _ =>
    have c0 : Try.prog.cellsOf 3 = 1 := by kernel_rfl
    have e0 : DataW.trod enc Try.prog w base spare held n 3 (List.take (Try.prog.cellsOf 3) (List.drop 0 [v0, v1, v2, v3])) = some y0 := hf 0 _ rfl
    rw [c0] at e0
    obtain ⟨a0, K0, G0⟩ := (readsInt Try.underlying3) enc w base spare held n [v0] y0 e0
    have c1 : Try.prog.cellsOf 3 = 1 := by kernel_rfl
    have e1 : DataW.trod enc Try.prog w base spare held n 3 (List.take (Try.prog.cellsOf 3) (List.drop 1 [v0, v1, v2, v3])) = some y1 := hf 1 _ rfl
    rw [c1] at e1
    obtain ⟨a1, K1, G1⟩ := (readsInt Try.underlying3) enc w base spare held n [v1] y1 e1
    have c2 : Try.prog.cellsOf 3 = 1 := by kernel_rfl
    have e2 : DataW.trod enc Try.prog w base spare held n 3 (List.take (Try.prog.cellsOf 3) (List.drop 2 [v0, v1, v2, v3])) = some y2 := hf 2 _ rfl
    rw [c2] at e2
    obtain ⟨a2, K2, G2⟩ := (readsInt Try.underlying3) enc w base spare held n [v2] y2 e2
    have c3 : Try.prog.cellsOf 3 = 1 := by kernel_rfl
    have e3 : DataW.trod enc Try.prog w base spare held n 3 (List.take (Try.prog.cellsOf 3) (List.drop 3 [v0, v1, v2, v3])) = some y3 := hf 3 _ rfl
    rw [c3] at e3
    obtain ⟨a3, K3, G3⟩ := (readsInt Try.underlying3) enc w base spare held n [v3] y3 e3
    refine ⟨⟨a0, a1, a2, a3⟩, ⟨_, _, rfl, K0, ⟨_, _, rfl, K1, ⟨_, _, rfl, K2, K3⟩⟩⟩, fun N hN => ?_⟩
    rw [hx] at hN
    simp only [List.map_cons, List.map_nil, Rows.uptoBulk, Rows.uptoBulkAll] at hN
    exact ⟨G0 N (by omega), G1 N (by omega), G2 N (by omega), G3 N (by omega)⟩
structure S24 where
  f0 : Int
  f1 : Bool
  f2 : List S37
def z24 : S24 := ⟨(0 : Int), false, []⟩
def k24 : Kd S24 := Kd.iso (Kd.pair (Kd.int .i64) (Kd.pair Kd.bool (Kd.slice 37 k37))) (fun x : S24 => (x.f0, x.f1, x.f2))
instance : Inhabited S24 := ⟨z24⟩
def g24 (N : Nat) (x : S24) : Prop := gInt .i64 N x.f0 ∧ gTrue N x.f1 ∧ gList (g37) N x.f2
set_option maxRecDepth 100000 in
theorem reads24 : Reads 24 k24 g24 := by
  intro H enc w base spare held fuel cs x h
  obtain ⟨xs, n, _, hx, hl, hlen, hf⟩ := DataW.trod_struct Try.underlying24 h
  have hl2 : cs.length = 3 := hl.trans (by kernel_rfl)
  have hlen2 : xs.length = 3 := hlen
  match xs, hlen2, cs, hl2 with
  | [y0, y1, y2], _, [v0, v1, v2], _ =>
    have c0 : Try.prog.cellsOf 3 = 1 := by kernel_rfl
    have e0 : DataW.trod enc Try.prog w base spare held n 3 (List.take (Try.prog.cellsOf 3) (List.drop 0 [v0, v1, v2])) = some y0 := hf 0 _ rfl
    rw [c0] at e0
    obtain ⟨a0, K0, G0⟩ := (readsInt Try.underlying3) enc w base spare held n [v0] y0 e0
    have c1 : Try.prog.cellsOf 4 = 1 := by kernel_rfl
    have e1 : DataW.trod enc Try.prog w base spare held n 4 (List.take (Try.prog.cellsOf 4) (List.drop 1 [v0, v1, v2])) = some y1 := hf 1 _ rfl
    rw [c1] at e1
    obtain ⟨a1, K1, G1⟩ := (readsBool Try.underlying4) enc w base spare held n [v1] y1 e1
    have c2 : Try.prog.cellsOf 22 = 1 := by kernel_rfl
    have e2 : DataW.trod enc Try.prog w base spare held n 22 (List.take (Try.prog.cellsOf 22) (List.drop 2 [v0, v1, v2])) = some y2 := hf 2 _ rfl
    rw [c2] at e2
    obtain ⟨a2, K2, G2⟩ := (readsSlice Try.underlying22 (by kernel_rfl) reads37) enc w base spare held n [v2] y2 e2
    refine ⟨⟨a0, a1, a2⟩, ⟨_, _, rfl, K0, ⟨_, _, rfl, K1, K2⟩⟩, fun N hN => ?_⟩
    rw [hx] at hN
    simp only [List.map_cons, List.map_nil, Rows.uptoBulk, Rows.uptoBulkAll] at hN
    exact ⟨G0 N (by omega), G1 N (by omega), G2 N (by omega)⟩
end Go.Proofs.Ytgjgckpdilbbjaa.R
end
