/- A part of the proof: words, contracts, plain lemmas. Conditions: none. -/
import Derived.Test.YtgjgckpdilbbjaaZAdjFastest19
import Derived.Test.YtgjgckpdilbbjaaZAdjFastest20
import Derived.Test.YtgjgckpdilbbjaaRows
import Derived.Test.YtgjgckpdilbbjaaZAdjFastest3
import Derived.Deep.Slices
import Derived.ProofKit
section
namespace Go.Proofs.Ytgjgckpdilbbjaa.P
set_option linter.unusedSimpArgs false
set_option linter.unusedVariables false
open Go.RowKit Go.Proofs.Ytgjgckpdilbbjaa.Q Go.Proofs.YtgjgckpdilbbjaaW.PrintWords Go.Proofs.YtgjgckpdilbbjaaW.PrintLast Go.Proofs.YtgjgckpdilbbjaaW.PrintMore
theorem countP_split {α : Type} {p q r : α → Bool} : ∀ (l : List α), (∀ x ∈ l, (r x = (p x || q x)) ∧ ¬ (p x = true ∧ q x = true)) → l.countP r = l.countP p + l.countP q
  | [], _ => rfl
  | x :: l, h => by
    have ih := countP_split l (fun y hy => h y (List.mem_cons_of_mem _ hy))
    obtain ⟨h1, h2⟩ := h x List.mem_cons_self
    rw [List.countP_cons, List.countP_cons, List.countP_cons, ih, h1]
    cases hp : p x <;> cases hq : q x <;> simp [hp, hq] at h2 ⊢ <;> omega
def outE (l : List S37) (E : List Int) : Nat := (List.range l.length).countP (fun (i : Nat) => decide ((rd_T37 l (i : Int)).f0 ∈ E))
theorem outE_le (l : List S37) (E : List Int) : outE l E ≤ l.length := by
  have := List.countP_le_length (p := fun (i : Nat) => decide ((rd_T37 l (i : Int)).f0 ∈ E)) (l := List.range l.length)
  rw [List.length_range] at this
  exact this
theorem outE_cons {l : List S37} {E : List Int} {v : Int} (h : v ∉ E) : outE l (v :: E) = outE l E + (placesAt S37.f0 l l.length v).length := by
  unfold outE placesAt
  rw [List.length_map, ← List.countP_eq_length_filter]
  refine countP_split _ (fun i _ => ⟨?_, ?_⟩)
  · rw [Bool.eq_iff_iff]
    simp [Bool.or_eq_true]
    exact Or.comm
  · simp only [decide_eq_true_eq, beq_iff_eq]
    rintro ⟨h1, h2⟩
    exact h (h2 ▸ h1)
theorem ins_mem {x y : Int × Int} {s : List (Int × Int)} : y ∈ ins x s ↔ y = x ∨ y ∈ s := by rw [(ins_perm x s).mem_iff, List.mem_cons]
theorem ins_nodup {x : Int × Int} {s : List (Int × Int)} (h : s.Nodup) (hx : x ∉ s) : (ins x s).Nodup := (ins_perm x s).nodup_iff.2 (List.nodup_cons.2 ⟨hx, h⟩)
structure DIn (l : List S37) (s n : Nat) (d : List Int) (q : List (Int × Int)) (E : List Int) (v : Nat) (rest : List Int) : Prop where
  len : d.length = n
  src : rd d (s : Int) = 0
  sound : ∀ u : Nat, u < n → rd d (u : Int) = -1 ∨ (0 ≤ rd d (u : Int) ∧ Wk l S37.f3 (s : Int) (rd d (u : Int)) (u : Int))
  ent : ∀ x ∈ q, (0 ≤ x.2 ∧ x.2 < (n : Int)) ∧ 0 ≤ rd d x.2 ∧ rd d x.2 ≤ x.1
  nod : q.Nodup
  sorted : Sorted2 q
  vr : v < n
  v0 : 0 ≤ rd d (v : Int)
  low : ∀ x ∈ q, rd d (v : Int) ≤ x.1
  exp : ∀ u ∈ E, (0 ≤ u ∧ u < (n : Int)) ∧ 0 ≤ rd d u ∧ rd d u ≤ rd d (v : Int) ∧ ∀ x ∈ q, x.2 = u → rd d u < x.1
  edn : E.Nodup
  vE : (v : Int) ∈ E
  pend : ∀ u : Nat, u < n → 0 ≤ rd d (u : Int) → (rd d (u : Int), (u : Int)) ∈ q ∨ (u : Int) ∈ E
  done : ∀ i : Nat, i < l.length → (rd_T37 l (i : Int)).f0 ∈ E → ((rd_T37 l (i : Int)).f0 = (v : Int) ∧ (i : Int) ∈ rest) ∨ Shut S37.f3 d (rd_T37 l (i : Int))
  bnd : ∀ x ∈ q, x.1 ≤ (E.length : Int) * 1048576
  bv : rd d (v : Int) + 1048576 ≤ (E.length : Int) * 1048576
  cnt : q.length + rest.length ≤ outE l E
structure Fast (l : List S37) : Prop where
  len : l.length ≤ 200
  times : ∀ a ∈ l, a.f3 ≤ 1048576
theorem fastIn_ok {l : List S37} {s n : Nat} (hf : Fine l S37.f3 s n) (hF : Fast l) (hn : n ≤ 50) (E : List Int) (v : Nat) (key : Int) : ∀ (rest d : List Int) (q : List (Int × Int)), rd d (v : Int) = key → (∀ x ∈ rest, ∃ j : Nat, j < l.length ∧ (rd_T37 l (j : Int)).f0 = (v : Int) ∧ x = (j : Int)) → DIn l s n d q E v rest →
    ∃ d' q', fastIn l (((l.length + 1 : Nat)) : Int) key rest d q = some (d', q') ∧ DIn l s n d' q' E v [] ∧ q'.length ≤ q.length + rest.length
  | [], d, q, _, _, h => ⟨d, q, rfl, h, Nat.le_refl _⟩
  | x :: rest, d, q, hkey, hr, h => by
    obtain ⟨j, hj, hjv, rfl⟩ := hr x List.mem_cons_self
    have hr' : ∀ x ∈ rest, ∃ j : Nat, j < l.length ∧ (rd_T37 l (j : Int)).f0 = (v : Int) ∧ x = (j : Int) := fun x hx => hr x (List.mem_cons_of_mem _ hx)
    have hmem := rdT_mem hj
    obtain ⟨hw0, hw1, hw2⟩ := hf.arcs _ hmem
    have ht := hF.times _ hmem
    generalize hA : rd_T37 l (j : Int) = A at hjv hmem hw0 hw1 hw2 ht
    obtain ⟨w, hw⟩ : ∃ w : Nat, A.f1 = (w : Int) := ⟨A.f1.toNat, by omega⟩
    have hwn : w < n := by omega
    have hwl : w < d.length := by rw [h.len]; exact hwn
    have hEl : E.length ≤ n := nodup_ints h.edn (fun x hx => (h.exp x hx).1)
    have hbv := h.bv
    have hv0 := h.v0
    have hcnt := h.cnt
    have hle := outE_le l E
    have hLl := hF.len
    rw [List.length_cons] at hcnt
    have hwrap : wrap64 (key + A.f3) = key + A.f3 := wrapId (by omega) (by omega)
    obtain ⟨t, htt⟩ : ∃ t, key + A.f3 = t := ⟨_, rfl⟩
    unfold fastIn
    rw [hA, hw, if_pos ⟨by omega, by omega, by omega, by rw [h.len]; omega, by omega⟩, hwrap, htt]
    by_cases c : rd d (w : Int) < 0 ∨ t < rd d (w : Int)
    · rw [if_pos c, Int.toNat_natCast, if_neg (by omega)]
      have hwE : (w : Int) ∉ E := fun e => by have := h.exp _ e; omega
      have hwq : (t, (w : Int)) ∉ q := fun e => by have := h.ent _ e; simp only at this; omega
      have hst : ∀ u : Nat, rd (d.set w t) (u : Int) = if u = w then t else rd d (u : Int) := fun u => rd_set hwl u
      have hne : ∀ x : Int, 0 ≤ x → x ≠ (w : Int) → rd (d.set w t) x = rd d x := by
        intro x hx h0
        have e : x = ((x.toNat : Nat) : Int) := by omega
        rw [e, hst, if_neg (fun e2 => h0 (by omega))]
      have hnE : ∀ x ∈ E, rd (d.set w t) x = rd d x := fun x hx => hne x (h.exp x hx).1.1 (fun e => hwE (e ▸ hx))
      have hv' := hnE _ h.vE
      have hss : s ≠ w := fun e => by subst e; have := h.src; omega
      obtain ⟨d', q', h1, h2, h3⟩ := fastIn_ok hf hF hn E v key rest (d.set w t) (ins (t, (w : Int)) q) (by rw [hv']; exact hkey) hr' {
        len := by rw [List.length_set]; exact h.len
        src := by rw [hst, if_neg hss]; exact h.src
        sound := fun u hu => by
          rw [hst]
          by_cases e : u = w
          · rw [if_pos e, e]
            right
            have hwk := (h.sound v h.vr).elim (fun e => by omega) (fun e => e.2)
            have := Wk.step (l := l) (wt := S37.f3) A hwk hmem hjv
            rw [hw, hkey, htt] at this
            exact ⟨by omega, this⟩
          · rw [if_neg e]; exact h.sound u hu
        ent := fun y hy => by
          rcases ins_mem.1 hy with rfl | hy
          · simp only
            rw [hst, if_pos rfl]
            exact ⟨⟨by omega, by omega⟩, by omega, Int.le_refl _⟩
          · have g := h.ent y hy
            by_cases e : y.2 = (w : Int)
            · rw [e, hst, if_pos rfl]
              rw [e] at g
              exact ⟨by omega, by omega, by omega⟩
            · rw [hne y.2 g.1.1 e]; exact g
        nod := ins_nodup h.nod hwq
        sorted := ins_sorted _ _ h.sorted
        vr := h.vr
        v0 := by rw [hv']; exact h.v0
        low := fun y hy => by
          rw [hv']
          rcases ins_mem.1 hy with rfl | hy
          · simp only; omega
          · exact h.low y hy
        exp := fun u hu => by
          have g := h.exp u hu
          rw [hnE u hu, hv']
          refine ⟨g.1, g.2.1, g.2.2.1, fun y hy e => ?_⟩
          rcases ins_mem.1 hy with rfl | hy
          · simp only at e; exact absurd (e ▸ hu) hwE
          · exact g.2.2.2 y hy e
        edn := h.edn
        vE := h.vE
        pend := fun u hu h0 => by
          rw [hst] at h0 ⊢
          by_cases e : u = w
          · rw [if_pos e, e]; exact Or.inl (ins_mem.2 (Or.inl rfl))
          · rw [if_neg e] at h0 ⊢
            exact (h.pend u hu h0).imp (fun g => ins_mem.2 (Or.inr g)) id
        done := fun i hi h0 => by
          have hai := hf.arcs _ (rdT_mem hi)
          have hshut : Shut S37.f3 d (rd_T37 l (i : Int)) → Shut S37.f3 (d.set w t) (rd_T37 l (i : Int)) := by
            rintro ⟨g1, g2⟩
            unfold Shut
            rw [hnE _ h0]
            by_cases e : (rd_T37 l (i : Int)).f1 = (w : Int)
            · rw [e] at g1 g2
              rw [e, hst, if_pos rfl]
              exact ⟨by omega, by omega⟩
            · rw [hne _ hai.2.1.1 e]; exact ⟨g1, g2⟩
          rcases h.done i hi h0 with ⟨g1, g2⟩ | g
          · rcases List.mem_cons.1 g2 with g3 | g3
            · have : i = j := Int.ofNat_inj.1 g3
              subst this
              refine Or.inr ?_
              rw [hA]
              unfold Shut
              rw [hw, hst, if_pos rfl, hjv, hv', hkey]
              exact ⟨by omega, by omega⟩
            · exact Or.inl ⟨g1, g3⟩
          · exact Or.inr (hshut g)
        bnd := fun y hy => by
          rcases ins_mem.1 hy with rfl | hy
          · simp only; omega
          · exact h.bnd y hy
        bv := by rw [hv']; exact h.bv
        cnt := by rw [ins_length]; omega }
      exact ⟨d', q', h1, h2, by rw [ins_length] at h3; rw [List.length_cons]; omega⟩
    · rw [if_neg c]
      obtain ⟨d', q', h1, h2, h3⟩ := fastIn_ok hf hF hn E v key rest d q hkey hr' { h with
        cnt := by omega
        done := fun i hi h0 => by
          rcases h.done i hi h0 with ⟨g1, g2⟩ | g
          · rcases List.mem_cons.1 g2 with g3 | g3
            · have : i = j := Int.ofNat_inj.1 g3
              subst this
              refine Or.inr ?_
              rw [hA]
              unfold Shut
              rw [hw, hjv, hkey]
              exact ⟨by omega, by omega⟩
            · exact Or.inl ⟨g1, g3⟩
          · exact Or.inr g }
      exact ⟨d', q', h1, h2, by rw [List.length_cons]; omega⟩
structure DI (l : List S37) (s n : Nat) (d : List Int) (q : List (Int × Int)) (E : List Int) (m : Int) : Prop where
  len : d.length = n
  src : rd d (s : Int) = 0
  sound : ∀ u : Nat, u < n → rd d (u : Int) = -1 ∨ (0 ≤ rd d (u : Int) ∧ Wk l S37.f3 (s : Int) (rd d (u : Int)) (u : Int))
  ent : ∀ x ∈ q, (0 ≤ x.2 ∧ x.2 < (n : Int)) ∧ 0 ≤ rd d x.2 ∧ rd d x.2 ≤ x.1
  nod : q.Nodup
  sorted : Sorted2 q
  low : ∀ x ∈ q, m ≤ x.1
  exp : ∀ u ∈ E, (0 ≤ u ∧ u < (n : Int)) ∧ 0 ≤ rd d u ∧ rd d u ≤ m ∧ ∀ x ∈ q, x.2 = u → rd d u < x.1
  edn : E.Nodup
  pend : ∀ u : Nat, u < n → 0 ≤ rd d (u : Int) → (rd d (u : Int), (u : Int)) ∈ q ∨ (u : Int) ∈ E
  done : ∀ i : Nat, i < l.length → (rd_T37 l (i : Int)).f0 ∈ E → Shut S37.f3 d (rd_T37 l (i : Int))
  bnd : ∀ x ∈ q, x.1 ≤ (E.length : Int) * 1048576
  cnt : q.length ≤ 1 + outE l E
  mb : m ≤ (E.length : Int) * 1048576
theorem fastLoop_ok {l : List S37} {s n : Nat} (hf : Fine l S37.f3 s n) (hF : Fast l) (hn : n ≤ 50) : ∀ (M : Nat) (d : List Int) (q : List (Int × Int)) (E : List Int) (m : Int), DI l s n d q E m → q.length + (l.length - outE l E) ≤ M →
    ∃ r, Dist l S37.f3 (s : Int) n r ∧ (∀ u : Nat, u < n → rd r (u : Int) ≤ 52428800) ∧ ∀ k, M + 1 ≤ k → fastLoop l (rowsAt S37.f0 l n l.length) (((l.length + 1 : Nat)) : Int) k d q = some r := by
  intro M
  induction M with
  | zero =>
    intro d q E m h hM
    cases q with
    | nil =>
      refine ⟨d, dist_of hf h.len h.src h.sound (fun a ha h0 => ?_), fun u hu => ?_, fun k hk => ?_⟩
      · obtain ⟨j, hj, e⟩ := mem_rdT ha
        have hn0 := (hf.arcs a ha).1
        have := h.pend a.f0.toNat (by omega) (by rw [show ((a.f0.toNat : Nat) : Int) = a.f0 by omega]; exact h0)
        rw [show ((a.f0.toNat : Nat) : Int) = a.f0 by omega] at this
        have hE := this.elim (fun g => by cases g) id
        have g := h.done j hj (by rw [e]; exact hE)
        rw [e] at g
        exact g
      · have hEl := nodup_ints h.edn (fun x hx => (h.exp x hx).1)
        have hmb := h.mb
        rcases h.sound u hu with g | ⟨g, _⟩
        · omega
        · have hE := (h.pend u hu g).elim (fun g => by cases g) id
          have := (h.exp _ hE).2.2.1
          omega
      · obtain ⟨k, rfl⟩ : ∃ k', k = k' + 1 := ⟨k - 1, by omega⟩
        rfl
    | cons x q => simp at hM
  | succ M ih =>
    intro d q E m h hM
    cases q with
    | nil =>
      refine ⟨d, dist_of hf h.len h.src h.sound (fun a ha h0 => ?_), fun u hu => ?_, fun k hk => ?_⟩
      · obtain ⟨j, hj, e⟩ := mem_rdT ha
        have hn0 := (hf.arcs a ha).1
        have := h.pend a.f0.toNat (by omega) (by rw [show ((a.f0.toNat : Nat) : Int) = a.f0 by omega]; exact h0)
        rw [show ((a.f0.toNat : Nat) : Int) = a.f0 by omega] at this
        have hE := this.elim (fun g => by cases g) id
        have g := h.done j hj (by rw [e]; exact hE)
        rw [e] at g
        exact g
      · have hEl := nodup_ints h.edn (fun x hx => (h.exp x hx).1)
        have hmb := h.mb
        rcases h.sound u hu with g | ⟨g, _⟩
        · omega
        · have hE := (h.pend u hu g).elim (fun g => by cases g) id
          have := (h.exp _ hE).2.2.1
          omega
      · obtain ⟨k, rfl⟩ : ∃ k', k = k' + 1 := ⟨k - 1, by omega⟩
        rfl
    | cons x q =>
      obtain ⟨key, item⟩ := x
      have hx := h.ent _ List.mem_cons_self
      simp only at hx
      obtain ⟨v, rfl⟩ : ∃ v : Nat, item = (v : Int) := ⟨item.toNat, by omega⟩
      have hvn : v < n := by omega
      obtain ⟨hq1, hq2⟩ := List.nodup_cons.1 h.nod
      obtain ⟨hs1, hs2⟩ := List.pairwise_cons.1 h.sorted
      have hcnt := h.cnt
      have hLl := hF.len
      have hle := outE_le l E
      rw [List.length_cons] at hcnt hM
      have hlow : ∀ y ∈ q, key ≤ y.1 := fun y hy => by
        have g := hs1 y hy
        unfold plt at g
        simp only at g
        omega
      have hguard : 0 ≤ (v : Int) ∧ (v : Int) < ((rowsAt S37.f0 l n l.length).length : Int) ∧ (v : Int) < (d.length : Int) ∧ ((key, (v : Int)) :: q).length ≤ 65536 := ⟨by omega, by rw [rowsAt_length]; omega, by rw [h.len]; omega, by rw [List.length_cons]; omega⟩
      by_cases c : key > rd d (v : Int)
      · obtain ⟨r, h1, h2, h3⟩ := ih d q E key {
          len := h.len, src := h.src, sound := h.sound, ent := fun y hy => h.ent y (List.mem_cons_of_mem _ hy), nod := hq2, sorted := hs2, low := hlow
          exp := fun u hu => by
            have g := h.exp u hu
            have := h.low _ List.mem_cons_self
            simp only at this
            exact ⟨g.1, g.2.1, by omega, fun y hy => g.2.2.2 y (List.mem_cons_of_mem _ hy)⟩
          edn := h.edn
          pend := fun u hu h0 => by
            rcases h.pend u hu h0 with g | g
            · rcases List.mem_cons.1 g with g | g
              · injection g with g1 g2
                have : u = v := Int.ofNat_inj.1 g2
                subst this
                omega
              · exact Or.inl g
            · exact Or.inr g
          done := h.done, bnd := fun y hy => h.bnd y (List.mem_cons_of_mem _ hy), cnt := by omega, mb := by have := h.bnd _ List.mem_cons_self; simp only at this; exact this } (by omega)
        refine ⟨r, h1, h2, fun k hk => ?_⟩
        obtain ⟨k, rfl⟩ : ∃ k', k = k' + 1 := ⟨k - 1, by omega⟩
        unfold fastLoop
        rw [if_pos hguard, if_pos c]
        exact h3 k (by omega)
      · have hkey : rd d (v : Int) = key := by omega
        have hvE : (v : Int) ∉ E := fun e => by
          have g := (h.exp _ e).2.2.2 _ List.mem_cons_self rfl
          simp only at g
          omega
        have hout := outE_cons (l := l) hvE
        have hle2 := outE_le l ((v : Int) :: E)
        have hb := h.bnd _ List.mem_cons_self
        simp only at hb
        have hlm := h.low _ List.mem_cons_self
        simp only at hlm
        have hEl : (((v : Int) :: E).length : Int) = (E.length : Int) + 1 := by simp
        obtain ⟨d', q', h1, h2, h3⟩ := fastIn_ok hf hF hn ((v : Int) :: E) v key (placesAt S37.f0 l l.length (v : Int)) d q hkey (fun y hy => plc_mem.1 hy) {
          len := h.len, src := h.src, sound := h.sound, ent := fun y hy => h.ent y (List.mem_cons_of_mem _ hy), nod := hq2, sorted := hs2, vr := hvn, v0 := hx.2.1
          low := fun y hy => by rw [hkey]; exact hlow y hy
          exp := fun u hu => by
            rcases List.mem_cons.1 hu with rfl | hu
            · refine ⟨hx.1, hx.2.1, Int.le_refl _, fun y hy e => ?_⟩
              have g1 := hlow y hy
              rw [hkey]
              rcases Int.lt_or_le key y.1 with g | g
              · exact g
              · have : y = (key, (v : Int)) := Prod.ext (by simp only; omega) e
                exact absurd (this ▸ hy) hq1
            · have g := h.exp u hu
              exact ⟨g.1, g.2.1, by omega, fun y hy => g.2.2.2 y (List.mem_cons_of_mem _ hy)⟩
          edn := List.nodup_cons.2 ⟨hvE, h.edn⟩
          vE := List.mem_cons_self
          pend := fun u hu h0 => by
            rcases h.pend u hu h0 with g | g
            · rcases List.mem_cons.1 g with g | g
              · injection g with g1 g2
                exact Or.inr (by rw [g2]; exact List.mem_cons_self)
              · exact Or.inl g
            · exact Or.inr (List.mem_cons_of_mem _ g)
          done := fun i hi h0 => by
            rcases List.mem_cons.1 h0 with g | g
            · exact Or.inl ⟨g, plc_mem.2 ⟨i, hi, g, rfl⟩⟩
            · exact Or.inr (h.done i hi g)
          bnd := fun y hy => by have := h.bnd y (List.mem_cons_of_mem _ hy); omega
          bv := by omega
          cnt := by omega }
        obtain ⟨r, g1, g2, g3⟩ := ih d' q' ((v : Int) :: E) (rd d' (v : Int)) {
          len := h2.len, src := h2.src, sound := h2.sound, ent := h2.ent, nod := h2.nod, sorted := h2.sorted, low := h2.low, exp := h2.exp, edn := h2.edn, pend := h2.pend
          done := fun i hi h0 => (h2.done i hi h0).elim (fun g => by cases g.2) id
          bnd := h2.bnd
          cnt := by have := h2.cnt; simp only [List.length_nil] at this; omega
          mb := by have := h2.bv; omega } (by omega)
        refine ⟨r, g1, g2, fun k hk => ?_⟩
        obtain ⟨k, rfl⟩ : ∃ k', k = k' + 1 := ⟨k - 1, by omega⟩
        unfold fastLoop
        rw [if_pos hguard, if_neg c, rowsAt_rd _ _ _ _ _ (by omega) (by omega)]
        simp only
        rw [h1]
        exact g3 k (by omega)
theorem fast_dist {l : List S37} {s n : Nat} (hf : Fine l S37.f3 s n) (hF : Fast l) (hn : n ≤ 50) : ∃ r, Dist l S37.f3 (s : Int) n r ∧ (∀ u : Nat, u < n → rd r (u : Int) ≤ 52428800) ∧ Ev (fun k => fastLoop l (rowsAt S37.f0 l n l.length) (((l.length + 1 : Nat)) : Int) k ((List.replicate n (-1)).set s 0) [((0 : Int), (s : Int))]) r := by
  have hs := hf.src
  obtain ⟨r, h1, h2, h3⟩ := fastLoop_ok hf hF hn (1 + l.length) ((List.replicate n (-1)).set s 0) [((0 : Int), (s : Int))] [] 0 {
    len := by simp
    src := by rw [rd_first hs s hs, if_pos rfl]
    sound := fun u hu => by
      rw [rd_first hs u hu]
      by_cases e : u = s
      · subst e; rw [if_pos rfl]; exact Or.inr ⟨Int.le_refl _, Wk.zero⟩
      · rw [if_neg e]; exact Or.inl rfl
    ent := fun x hx => by rw [List.mem_singleton] at hx; subst hx; simp only; rw [rd_first hs s hs, if_pos rfl]; omega
    nod := List.nodup_cons.2 ⟨List.not_mem_nil, List.nodup_nil⟩
    sorted := List.pairwise_singleton _ _
    low := fun x hx => by rw [List.mem_singleton] at hx; subst hx; exact Int.le_refl _
    exp := fun u hu => by cases hu
    edn := List.nodup_nil
    pend := fun u hu h0 => by
      rw [rd_first hs u hu] at h0 ⊢
      by_cases e : u = s
      · subst e; rw [if_pos rfl]; exact Or.inl List.mem_cons_self
      · rw [if_neg e] at h0; exact absurd h0 (by decide)
    done := fun i hi h0 => by cases h0
    bnd := fun x hx => by rw [List.mem_singleton] at hx; subst hx; simp
    cnt := by simp
    mb := by simp } (by simp)
  exact ⟨r, h1, h2, ⟨_, h3⟩⟩
def right_ (D d : List Int) (n : Nat) : Nat := (List.range n).countP (fun (v : Nat) => decide (0 ≤ rd D (v : Int) ∧ rd d (v : Int) = rd D (v : Int)))
structure BF (l : List S37) (s n : Nat) (D d : List Int) (B : Int) : Prop where
  len : d.length = n
  src : rd d (s : Int) = 0
  over : ∀ v : Nat, v < n → rd d (v : Int) = -1 ∨ (0 ≤ rd D (v : Int) ∧ rd D (v : Int) ≤ rd d (v : Int))
  bnd : ∀ v : Nat, v < n → rd d (v : Int) ≤ B * 1048576
def Whole (D d : List Int) (n : Nat) : Prop := ∀ v : Nat, v < n → rd d (v : Int) = rd D (v : Int)
structure BM (l : List S37) (s n : Nat) (D d0 d : List Int) (i : Nat) (B : Int) : Prop where
  bf : BF l s n D d B
  keep : ∀ v : Nat, v < n → rd d0 (v : Int) = rd D (v : Int) → rd d (v : Int) = rd D (v : Int)
  did : ∀ j : Nat, j < i → rd d0 (rd_T37 l (j : Int)).f0 = rd D (rd_T37 l (j : Int)).f0 → 0 ≤ rd D (rd_T37 l (j : Int)).f0 → rd D (rd_T37 l (j : Int)).f1 = rd D (rd_T37 l (j : Int)).f0 + (rd_T37 l (j : Int)).f3 → rd d (rd_T37 l (j : Int)).f1 = rd D (rd_T37 l (j : Int)).f1
theorem right_grows {l : List S37} {s n : Nat} (hf : Fine l S37.f3 s n) {D d0 d : List Int} {B : Int} (hD : Dist l S37.f3 (s : Int) n D) (h0 : BF l s n D d0 B) (hM : BM l s n D d0 d l.length B) (k : Nat) (hk : Whole D d0 n ∨ k + 1 ≤ right_ D d0 n) : Whole D d n ∨ k + 1 + 1 ≤ right_ D d n := by
  by_cases c : Whole D d0 n
  · exact Or.inl (fun v hv => hM.keep v hv (c v hv))
  · right
    have hk := hk.elim (fun g => absurd g c) id
    obtain ⟨v, hv, hne⟩ : ∃ v : Nat, v < n ∧ rd d0 (v : Int) ≠ rd D (v : Int) := by
      refine Classical.byContradiction (fun g => c (fun v hv => Classical.byContradiction (fun e => g ⟨v, hv, e⟩)))
    have hDv : 0 ≤ rd D (v : Int) := by
      rcases hD.spec v hv with ⟨g1, _⟩ | ⟨g1, _⟩
      · rcases h0.over v hv with g | ⟨g, _⟩
        · exact absurd (g.trans g1.symm) hne
        · exact g
      · exact g1
    obtain ⟨a, ha, h1, h2, h3, h4⟩ := hD.leaves hf (fun x => rd d0 x = rd D x) (by rw [h0.src, hD.src hf]) (hD.get hv hDv) rfl hne
    obtain ⟨j, hj, ej⟩ := mem_rdT ha
    have hn := (hf.arcs a ha).2.1
    have hd := hM.did j hj (by rw [ej]; exact h1) (by rw [ej]; exact h3) (by rw [ej]; exact h4)
    rw [ej] at hd
    have e : a.f1 = ((a.f1.toNat : Nat) : Int) := by omega
    have hw := (hf.arcs a ha).2.2
    have : right_ D d0 n + 1 ≤ right_ D d n := by
      unfold right_
      refine countP_step (fun x hx g => ?_) ⟨a.f1.toNat, List.mem_range.2 (by omega), ?_, ?_⟩
      · simp only [decide_eq_true_eq] at g ⊢
        exact ⟨g.1, hM.keep x (List.mem_range.1 hx) g.2⟩
      · rw [← e]; simp only [decide_eq_true_eq]; exact ⟨by omega, hd⟩
      · rw [← e]; simp only [decide_eq_false_iff_not]; exact fun g => h2 g.2
    omega
theorem rfast_l2 {l : List S37} {s n : Nat} (hf : Fine l S37.f3 s n) (hF : Fast l) (hn : n ≤ 50) (b : Bool) {D d0 : List Int} (hD : Dist l S37.f3 (s : Int) n D) (k : Nat) (hk : k < n) (h0 : BF l s n D d0 (200 * k)) (hw : Whole D d0 n ∨ k + 1 ≤ right_ D d0 n) {R : List Int × Int}
    (next : ∀ d, BF l s n D d (200 * (k + 1 : Nat)) → (Whole D d n ∨ k + 1 + 1 ≤ right_ D d n) → Ev (fun f => ebbtideref06_Fastest.l1 f d ((k : Int) + 1) (n : Int) b l) R) (e : Nat) : ∀ i d, i + e = l.length → BM l s n D d0 d i (200 * k + i) → Ev (fun f => ebbtideref06_Fastest.l2 f d (k : Int) (i : Int) (n : Int) b l) R := by
  have hLl := hF.len
  induction e with
  | zero =>
    intro i d hi hM
    have hil : i = l.length := by omega
    subst hil
    have hup : BF l s n D d (200 * (k + 1 : Nat)) := ⟨hM.bf.len, hM.bf.src, hM.bf.over, fun v hv => by have := hM.bf.bnd v hv; push_cast; omega⟩
    have hM2 : BM l s n D d0 d l.length (200 * (k + 1 : Nat)) := ⟨hup, hM.keep, hM.did⟩
    refine Ev.step (fun f => ?_) (next d hup (right_grows hf hD ⟨h0.len, h0.src, h0.over, fun v hv => by have := h0.bnd v hv; push_cast; omega⟩ hM2 k hw))
    rw [ebbtideref06_Fastest.l2, if_neg (by omega), wrap1 (by omega)]; rfl
  | succ e ih =>
    intro i d hi hM
    have hi' : i < l.length := by omega
    have hmem := rdT_mem hi'
    obtain ⟨⟨a0, a1⟩, ⟨b0, b1⟩, c0⟩ := hf.arcs _ hmem
    have hti := hF.times _ hmem
    generalize hA : rd_T37 l (i : Int) = A at hmem a0 a1 b0 b1 c0 hti
    obtain ⟨u, hu⟩ : ∃ u : Nat, A.f0 = (u : Int) := ⟨A.f0.toNat, by omega⟩
    obtain ⟨w, hw2⟩ : ∃ w : Nat, A.f1 = (w : Int) := ⟨A.f1.toNat, by omega⟩
    have hun : u < n := by omega
    have hwn : w < n := by omega
    have hbu := hM.bf.bnd u hun
    have keep : (rd d0 (u : Int) = rd D (u : Int) → 0 ≤ rd D (u : Int) → rd D (w : Int) = rd D (u : Int) + A.f3 → rd d (w : Int) = rd D (w : Int)) → BM l s n D d0 d (i + 1) (200 * k + (i + 1 : Nat)) := fun h => ⟨⟨hM.bf.len, hM.bf.src, hM.bf.over, fun v hv => by have := hM.bf.bnd v hv; push_cast; omega⟩, hM.keep, fun j hj g1 g2 g3 => by
      by_cases c : j = i
      · subst c
        rw [hA, hu] at g1 g2
        rw [hA, hu, hw2] at g3
        rw [hA, hw2]
        exact h g1 g2 g3
      · exact hM.did j (by omega) g1 g2 g3⟩
    by_cases c1 : rd d (u : Int) ≥ 0
    · have hov := (hM.bf.over u hun).elim (fun g => by omega) id
      have hcl := hD.closed hf A hmem (by rw [hu]; exact hov.1)
      rw [hu, hw2] at hcl
      have hwrap : wrap64 (rd d (u : Int) + A.f3) = rd d (u : Int) + A.f3 := wrapId (by omega) (by omega)
      obtain ⟨t, ht⟩ : ∃ t, rd d (u : Int) + A.f3 = t := ⟨_, rfl⟩
      rw [ht] at hwrap
      by_cases c : rd d (w : Int) < 0 ∨ t < rd d (w : Int)
      · have hst : ∀ v : Nat, rd (d.set w t) (v : Int) = if v = w then t else rd d (v : Int) := fun v => rd_set (by rw [hM.bf.len]; exact hwn) v
        have hws : s ≠ w := fun e => by subst e; have := hM.bf.src; omega
        refine Ev.step (fun f => ?_) (ih (i + 1) (d.set w t) (by omega) ?_)
        · have hstep : ebbtideref06_Fastest.l2 (f + 1) d (k : Int) (i : Int) (n : Int) b l = (if rd d (w : Int) < 0 then ebbtideref06_Fastest.l2 f (d.set w t) (k : Int) (wrap64 ((i : Int) + 1)) (n : Int) b l else if t < rd d (w : Int) then ebbtideref06_Fastest.l2 f (d.set w t) (k : Int) (wrap64 ((i : Int) + 1)) (n : Int) b l else ebbtideref06_Fastest.l2 f d (k : Int) (wrap64 ((i : Int) + 1)) (n : Int) b l) := by
            rw [ebbtideref06_Fastest.l2, if_pos (by omega), if_pos (by omega), hA, hu, hw2, if_pos (by omega), if_pos (by rw [hM.bf.len]; omega), if_pos c1, if_pos (by omega), if_pos (by rw [hM.bf.len]; omega), ht, hwrap, Int.toNat_natCast]
          rw [hstep, wrap1 (by omega)]
          by_cases c2 : rd d (w : Int) < 0
          · rw [if_pos c2]
          · rw [if_neg c2, if_pos (c.elim (fun g => absurd g c2) id)]
        · refine ⟨⟨by rw [List.length_set]; exact hM.bf.len, by rw [hst, if_neg hws]; exact hM.bf.src, fun v hv => ?_, fun v hv => ?_⟩, fun v hv g => ?_, fun j hj g1 g2 g3 => ?_⟩
          · rw [hst]
            by_cases e : v = w
            · subst e; rw [if_pos rfl]; exact Or.inr ⟨hcl.1, by omega⟩
            · rw [if_neg e]; exact hM.bf.over v hv
          · rw [hst]
            have := hM.bf.bnd v hv
            split <;> (push_cast; omega)
          · have g2 := hM.keep v hv g
            rw [hst]
            by_cases e : v = w
            · subst e; omega
            · rw [if_neg e]; exact g2
          · have hnj : ∀ z : Int, 0 ≤ z → z < (n : Int) → rd d z = rd D z → rd (d.set w t) z = rd D z := by
              intro z z0 z1 hz
              rw [show z = ((z.toNat : Nat) : Int) by omega] at hz ⊢
              rw [hst]
              by_cases e : z.toNat = w
              · rw [if_pos e]; rw [e] at hz ⊢; omega
              · rw [if_neg e]; exact hz
            by_cases e : j = i
            · subst e
              rw [hA, hu] at g1 g2
              rw [hA, hu, hw2] at g3
              rw [hA, hw2, hst, if_pos rfl]
              have := hM.keep u hun g1
              omega
            · have hj2 := hf.arcs _ (rdT_mem (l := l) (i := j) (by omega))
              exact hnj _ hj2.2.1.1 hj2.2.1.2 (hM.did j (by omega) g1 g2 g3)
      · refine Ev.step (fun f => ?_) (ih (i + 1) d (by omega) (keep (fun g1 g2 g3 => ?_)))
        · rw [ebbtideref06_Fastest.l2, if_pos (by omega), if_pos (by omega), hA, hu, hw2, if_pos (by omega), if_pos (by rw [hM.bf.len]; omega), if_pos c1, if_pos (by omega), if_pos (by rw [hM.bf.len]; omega), ht, hwrap, if_neg (by omega), if_neg (by omega), wrap1 (by omega)]
        · have h1 := hM.keep u hun g1
          have h2 := (hM.bf.over w hwn).elim (fun g => by omega) id
          omega
    · refine Ev.step (fun f => ?_) (ih (i + 1) d (by omega) (keep (fun g1 g2 _ => ?_)))
      · rw [ebbtideref06_Fastest.l2, if_pos (by omega), if_pos (by omega), hA, hu, if_pos (by omega), if_pos (by rw [hM.bf.len]; omega), if_neg c1, wrap1 (by omega)]
      · have h1 := hM.keep u hun g1
        omega
theorem rfast_l1 {l : List S37} {s n : Nat} (hf : Fine l S37.f3 s n) (hF : Fast l) (hn : n ≤ 50) (b : Bool) {D : List Int} (hD : Dist l S37.f3 (s : Int) n D) (e : Nat) : ∀ k d, k + e = n → BF l s n D d (200 * k) → (Whole D d n ∨ k + 1 ≤ right_ D d n) → Ev (fun f => ebbtideref06_Fastest.l1 f d (k : Int) (n : Int) b l) (D, 0) := by
  induction e with
  | zero =>
    intro k d hk h hw
    have hW : Whole D d n := hw.elim id (fun g => by
      have : right_ D d n ≤ n := by
        have := List.countP_le_length (p := fun (v : Nat) => decide (0 ≤ rd D (v : Int) ∧ rd d (v : Int) = rd D (v : Int))) (l := List.range n)
        rw [List.length_range] at this
        exact this
      omega)
    have : d = D := rd_ext (by rw [h.len, hD.len]) (fun v hv => hW v (by rw [h.len] at hv; exact hv))
    subst this
    exact ev_cst fun f => by rw [ebbtideref06_Fastest.l1, if_neg (by omega)]
  | succ e ih =>
    intro k d hk h hw
    refine Ev.step (fun f => ?_) (rfast_l2 hf hF hn b hD k (by omega) h hw (fun d' h' w' => ih (k + 1) d' (by omega) h' w') l.length 0 d (by omega) ⟨⟨h.len, h.src, h.over, fun v hv => by have := h.bnd v hv; simpa using this⟩, fun _ _ g => g, fun j hj => absurd hj (Nat.not_lt_zero j)⟩)
    rw [ebbtideref06_Fastest.l1, if_pos (by omega)]; rfl
theorem rfast_l0 {l : List S37} {s n : Nat} (hf : Fine l S37.f3 s n) (hF : Fast l) (hn : n ≤ 50) (b : Bool) {D : List Int} (hD : Dist l S37.f3 (s : Int) n D) (e : Nat) : ∀ v : Nat, v + e = n → Ev (fun f => ebbtideref06_Fastest.l0 f (s : Int) (List.replicate v (-1)) (v : Int) (n : Int) b l) (D, 0) := by
  induction e with
  | zero =>
    intro v hv
    have hs := hf.src
    have e : v = n := by omega
    subst e
    have hsrc := hD.src hf
    refine Ev.step (fun f => ?_) (rfast_l1 hf hF hn b hD v 0 ((List.replicate v (-1)).set s 0) (by omega) ⟨by simp, by rw [rd_first hs s hs, if_pos rfl], fun u hu => ?_, fun u hu => ?_⟩ (Or.inr ?_))
    · rw [ebbtideref06_Fastest.l0, if_neg (by omega), if_pos (by omega), if_pos (by rw [List.length_replicate]; omega), Int.toNat_natCast]; rfl
    · rw [rd_first hs u hu]
      by_cases c : u = s
      · subst c; rw [if_pos rfl]; exact Or.inr ⟨by omega, by omega⟩
      · rw [if_neg c]; exact Or.inl rfl
    · rw [rd_first hs u hu]; split <;> simp
    · refine Nat.succ_le_of_lt (List.countP_pos_iff.2 ⟨s, List.mem_range.2 hs, ?_⟩)
      rw [rd_first hs s hs, if_pos rfl, hsrc]; decide
  | succ e ih =>
    intro v hv
    refine Ev.step (fun f => ?_) (ih (v + 1) (by omega))
    rw [ebbtideref06_Fastest.l0, if_pos (by omega), if_pos (by rw [List.length_replicate]; omega), wrap1 (by omega), List.replicate_succ']
theorem fine_time {n : Int} {l : List S37} {v : Int} (h : NetOk n l ∧ 0 ≤ v ∧ v < n) : Fine l S37.f3 v.toNat n.toNat := ⟨by omega, fun a ha => by
  have := h.1.arcs a ha
  have h0 := this.f0; have h1 := this.f1
  exact ⟨by omega, by omega, this.f3.1⟩⟩
theorem fast_both (n : Int) (b : Bool) (l : List S37) (v : Int) : ∃ r : List Int, r.length ≤ 50 ∧ (nodeErr n l v = 0 → Dist l S37.f3 v n.toNat r ∧ ∀ u : Nat, u < n.toNat → rd r (u : Int) ≤ 52428800) ∧ (nodeErr n l v ≠ 0 → r = []) ∧ Ev (fun k => adj_Fastest.f k n b l v) (r, nodeErr n l v) ∧ Ev (fun k => ebbtideref06_Fastest.f k n b l v) (r, nodeErr n l v) := by
  by_cases c : nodeErr n l v = 0
  · have hk := nodeErr_ok.1 c
    have hN := hk.1
    obtain ⟨h0, h1⟩ := hk.2
    have hf := fine_time hk
    have hF : Fast l := ⟨hN.len, fun a ha => (hN.arcs a ha).f3.2⟩
    have hnn : (n.toNat : Int) = n := by omega
    have hvv : (v.toNat : Int) = v := by omega
    have hhi := hN.hi
    have hlo := hN.lo
    have hll := hN.len
    obtain ⟨r, hr, hbd, he⟩ := fast_dist hf hF (by omega)
    rw [hvv] at hr
    rw [hvv] at he
    have hmost : wrap64 ((l.length : Int) + 1) = ((l.length + 1 : Nat) : Int) := wrap1 (by omega)
    refine ⟨r, by rw [hr.len]; omega, fun _ => ⟨hr, hbd⟩, fun h => absurd c h, ?_, ?_⟩
    · unfold adj_Fastest.f
      rw [c]
      refine Ev.bind (by have := asked_ev n b l v; rw [c] at this; exact this) ?_
      have hg : (1 ≤ n ∧ n ≤ 50 ∧ l.length ≤ 60000) ∧ 0 ≤ v ∧ v < n := ⟨⟨hlo, hhi, by omega⟩, h0, h1⟩
      simp only [if_true, if_pos hg]
      refine Ev.bind (leaving_ev b hN) (Ev.bind ?_ (Ev.now _))
      rw [hmost]
      exact he
    · unfold ebbtideref06_Fastest.f
      rw [c]
      refine Ev.bind (rcheck_ev n b l) ?_
      rw [checkErr_ok.2 hN]
      simp only [if_true]
      refine Ev.bind (node_ev n b l v) ?_
      rw [decide_eq_true (show 0 ≤ v ∧ v < n from ⟨h0, h1⟩)]
      simp only [if_true]
      have := rfast_l0 hf hF (by omega) b (D := r) (by rw [hvv]; exact hr) n.toNat 0 (by omega)
      rw [hnn, hvv] at this
      exact this
  · refine ⟨[], Nat.zero_le _, fun h => absurd h c, fun _ => rfl, ?_, ?_⟩
    · unfold adj_Fastest.f
      refine Ev.bind (asked_ev n b l v) ?_
      simp only [c, if_false]
      exact Ev.now _
    · unfold ebbtideref06_Fastest.f
      refine Ev.bind (rcheck_ev n b l) ?_
      unfold nodeErr at c ⊢
      by_cases c1 : checkErr n l = 0
      · simp only [c1, if_true] at c ⊢
        have hbad : ¬ (0 ≤ v ∧ v < n) := fun h => c (by rw [if_neg (by omega), if_neg (by omega)])
        have e1 : (if v < 0 then (1 : Int) else if v ≥ n then 1 else 0) = 1 := by
          by_cases c2 : v < 0
          · rw [if_pos c2]
          · rw [if_neg c2, if_pos (by omega)]
        rw [e1]
        refine Ev.bind (node_ev n b l v) ?_
        rw [decide_eq_false hbad]
        exact Ev.now _
      · simp only [c1, if_false]
        exact Ev.now _
end Go.Proofs.Ytgjgckpdilbbjaa.P
end
section
namespace Go.Proofs.Ytgjgckpdilbbjaa.R
open Go.RowKit Go.Proofs.Ytgjgckpdilbbjaa.Q Go.Proofs.YtgjgckpdilbbjaaW.PrintWords Go.Proofs.YtgjgckpdilbbjaaW.PrintLast Go.Proofs.YtgjgckpdilbbjaaW.PrintMore
open Go.ChangeShapes Go.WideShapes Go.Deep
def Reads (t : TypeId) {α : Type} (d : Kd α) (G : Nat → α → Prop) : Prop :=
  ∀ {H : Type} (enc : TypeId × Value → H) (w : World) (base : Nat) (spare : Nat → Bool) (held : Bool) (fuel : Nat) (cs : List Value) (x : DataW H × List MemPlace),
    DataW.trod enc Try.prog w base spare held fuel t cs = some x → ∃ a, d.K w a cs ∧ ∀ N, Rows.uptoBulk x.1 ≤ N → G N a
def gInt (k : IntKind) (_ : Nat) (n : Int) : Prop := (Lit.int k n).wf = true
def gTrue (_ : Nat) (_ : Bool) : Prop := True
def gList {α : Type} (G : Nat → α → Prop) (N : Nat) (l : List α) : Prop := l.length ≤ maxLen ∧ l.length ≤ N ∧ ∀ x ∈ l, G N x
theorem readsInt {t : TypeId} {k : IntKind} (ht : Try.prog.underlying t = some (.int k)) : Reads t (Kd.int k) (gInt k) := by
  intro H enc w base spare held fuel cs x h
  obtain ⟨n, rfl, rfl, hw⟩ := DataW.trod_int ht h
  exact ⟨n, rfl, fun _ _ => hw⟩
theorem readsBool {t : TypeId} (ht : Try.prog.underlying t = some .bool) : Reads t Kd.bool gTrue := by
  intro H enc w base spare held fuel cs x h
  obtain ⟨n, rfl, rfl⟩ := DataW.trod_bool ht h
  exact ⟨n, rfl, fun _ _ => trivial⟩
theorem one_le {H : Type} (d : DataW H) : 1 ≤ Rows.uptoBulk d := by
  cases d with
  | lit l => cases l <;> simp [Rows.uptoBulk]
  | nil => simp [Rows.uptoBulk]
  | ptr d => simp [Rows.uptoBulk]
  | slice elems spare => simp [Rows.uptoBulk]
  | agg parts => simp [Rows.uptoBulk]
  | iface t d => simp [Rows.uptoBulk]
  | map entries => simp [Rows.uptoBulk]
  | held h => simp [Rows.uptoBulk]
theorem part_le {H : Type} {d : DataW H} {l : List (DataW H)} (h : d ∈ l) : Rows.uptoBulk d ≤ Rows.uptoBulkAll l := by
  induction l with
  | nil => cases h
  | cons x r ih =>
    simp only [Rows.uptoBulkAll]
    cases List.mem_cons.1 h with
    | inl e => subst e; omega
    | inr e => have := ih e; omega
theorem length_le {H : Type} (l : List (DataW H)) : l.length ≤ Rows.uptoBulkAll l := by
  induction l with
  | nil => simp [Rows.uptoBulkAll]
  | cons x r ih => have := one_le x; simp only [Rows.uptoBulkAll, List.length_cons]; omega
theorem readsSlice {t e : TypeId} {α : Type} [Inhabited α] {d : Kd α} {G : Nat → α → Prop} (ht : Try.prog.underlying t = some (.slice e)) (hc : Try.prog.cellsOf e = d.sz) (R : Reads e d G) : Reads t (Kd.slice e d) (gList G) := by
  intro H enc w base spare held fuel cs x h
  rcases open_slice ht h with ⟨rfl, rfl⟩ | ⟨a, len, cap, m, n, D, Pl, rfl, hb, hl, hm, hmm, rfl, hx⟩
  · exact ⟨[], ⟨none, 0, rfl, Nat.le_refl _, Kd.C_nil d w⟩, fun N _ => ⟨Nat.zero_le _, Nat.zero_le _, fun x hx => by cases hx⟩⟩
  · have hlm : len ≤ m := by rw [hmm]; split <;> omega
    obtain ⟨f, hf⟩ := choose_lt (α := α) (n := m) (p := fun i y => ∃ c, c.length = d.sz ∧ d.K w y c ∧ (∀ j u, c[j]? = some u → w.cell? (a.add (i * d.sz + j)) = some u) ∧ ∀ N, Rows.uptoBulk (D i) ≤ N → G N y) (fun i hi => by
      obtain ⟨c, h1, h2⟩ := hx i hi
      obtain ⟨y, hK, hG⟩ := R enc w base spare held n c _ h2
      obtain ⟨_, hlen, hcell⟩ := World.cells?_some h1
      rw [hc] at hlen hcell
      refine ⟨y, c, hlen, hK, fun j u hu => ?_, hG⟩
      have hj : j < d.sz := by rw [← hlen]; exact (List.getElem?_eq_some_iff.1 hu).1
      have := hcell j hj
      rw [Deep.add_add] at this
      rw [this, hu])
    have hL : ((List.range len).map f).length = len := by simp
    refine ⟨(List.range len).map f, ⟨some a, cap, by rw [hL], by rw [hL]; exact hl, ?_⟩, fun N hN => ?_⟩
    · refine ⟨rfl, by rw [hL]; exact Nat.le_trans hl (Nat.le_trans hm (by decide)), fun _ => ⟨a, rfl, fun j p hj => ?_⟩⟩
      have hjl : j < len := by
        have := (List.getElem?_eq_some_iff.1 hj).1
        rwa [hL] at this
      have hp : f j = p := by
        rw [List.getElem?_map, List.getElem?_range hjl] at hj
        exact Option.some.inj hj
      obtain ⟨c, h1, h2, h3, _⟩ := hf j (by omega)
      rw [hp] at h2
      exact ⟨c, h1, h2, h3⟩
    · have hbulk : Rows.uptoBulkAll ((List.range len).map D) ≤ N := by
        simp only [Rows.uptoBulk] at hN
        omega
      refine ⟨by rw [hL]; omega, by rw [hL]; have := length_le ((List.range len).map D); simp at this; omega, fun y hy => ?_⟩
      obtain ⟨i, hi, rfl⟩ := List.mem_map.1 hy
      have hi' := List.mem_range.1 hi
      obtain ⟨c, _, _, _, hG⟩ := hf i (by omega)
      exact hG N (Nat.le_trans (part_le (List.mem_map.2 ⟨i, hi, rfl⟩)) hbulk)
instance : Inhabited S37 := ⟨z37⟩
def g37 (N : Nat) (x : S37) : Prop := gInt .i64 N x.f0 ∧ gInt .i64 N x.f1 ∧ gInt .i64 N x.f2 ∧ gInt .i64 N x.f3
set_option maxRecDepth 100000 in
theorem reads37 : Reads 37 k37 g37 := by
  intro H enc w base spare held fuel cs x h
  obtain ⟨xs, n, _, hx, hl, hlen, hf⟩ := DataW.trod_struct Try.underlying37 h
  have hl2 : cs.length = 4 := hl.trans (by kernel_rfl)
  have hlen2 : xs.length = 4 := hlen
  match xs, hlen2, cs, hl2 with
  | [y0, y1, y2, y3], _, [v0, v1, v2, v3], _ =>
    have c0 : Try.prog.cellsOf 3 = 1 := by kernel_rfl
    have e0 : DataW.trod enc Try.prog w base spare held n 3 (List.take (Try.prog.cellsOf 3) (List.drop 0 [v0, v1, v2, v3])) = some y0 := hf 0 _ rfl
    rw [c0] at e0
    obtain ⟨a0, K0, G0⟩ := (readsInt Try.underlying3) enc w base spare held n [v0] y0 e0
    have c1 : Try.prog.cellsOf 3 = 1 := by kernel_rfl
    have e1 : DataW.trod enc Try.prog w base spare held n 3 (List.take (Try.prog.cellsOf 3) (List.drop 1 [v0, v1, v2, v3])) = some y1 := hf 1 _ rfl
    rw [c1] at e1
    obtain ⟨a1, K1, G1⟩ := (readsInt Try.underlying3) enc w base spare held n [v1] y1 e1
    have c2 : Try.prog.cellsOf 3 = 1 := by kernel_rfl
    have e2 : DataW.trod enc Try.prog w base spare held n 3 (List.take (Try.prog.cellsOf 3) (List.drop 2 [v0, v1, v2, v3])) = some y2 := hf 2 _ rfl
    rw [c2] at e2
    obtain ⟨a2, K2, G2⟩ := (readsInt Try.underlying3) enc w base spare held n [v2] y2 e2
    have c3 : Try.prog.cellsOf 3 = 1 := by kernel_rfl
    have e3 : DataW.trod enc Try.prog w base spare held n 3 (List.take (Try.prog.cellsOf 3) (List.drop 3 [v0, v1, v2, v3])) = some y3 := hf 3 _ rfl
    rw [c3] at e3
    obtain ⟨a3, K3, G3⟩ := (readsInt Try.underlying3) enc w base spare held n [v3] y3 e3
    refine ⟨⟨a0, a1, a2, a3⟩, ⟨_, _, rfl, K0, ⟨_, _, rfl, K1, ⟨_, _, rfl, K2, K3⟩⟩⟩, fun N hN => ?_⟩
    rw [hx] at hN
    simp only [List.map_cons, List.map_nil, Rows.uptoBulk, Rows.uptoBulkAll] at hN
    exact ⟨G0 N (by omega), G1 N (by omega), G2 N (by omega), G3 N (by omega)⟩
structure S24 where
  f0 : Int
  f1 : Bool
  f2 : List S37
def z24 : S24 := ⟨(0 : Int), false, []⟩
def k24 : Kd S24 := Kd.iso (Kd.pair (Kd.int .i64) (Kd.pair Kd.bool (Kd.slice 37 k37))) (fun x : S24 => (x.f0, x.f1, x.f2))
instance : Inhabited S24 := ⟨z24⟩
def g24 (N : Nat) (x : S24) : Prop := gInt .i64 N x.f0 ∧ gTrue N x.f1 ∧ gList (g37) N x.f2
set_option maxRecDepth 100000 in
theorem reads24 : Reads 24 k24 g24 := by
  intro H enc w base spare held fuel cs x h
  obtain ⟨xs, n, _, hx, hl, hlen, hf⟩ := DataW.trod_struct Try.underlying24 h
  have hl2 : cs.length = 3 := hl.trans (by kernel_rfl)
  have hlen2 : xs.length = 3 := hlen
  match xs, hlen2, cs, hl2 with
  | [y0, y1, y2], _, [v0, v1, v2], _ =>
    have c0 : Try.prog.cellsOf 3 = 1 := by kernel_rfl
    have e0 : DataW.trod enc Try.prog w base spare held n 3 (List.take (Try.prog.cellsOf 3) (List.drop 0 [v0, v1, v2])) = some y0 := hf 0 _ rfl
    rw [c0] at e0
    obtain ⟨a0, K0, G0⟩ := (readsInt Try.underlying3) enc w base spare held n [v0] y0 e0
    have c1 : Try.prog.cellsOf 4 = 1 := by kernel_rfl
    have e1 : DataW.trod enc Try.prog w base spare held n 4 (List.take (Try.prog.cellsOf 4) (List.drop 1 [v0, v1, v2])) = some y1 := hf 1 _ rfl
    rw [c1] at e1
    obtain ⟨a1, K1, G1⟩ := (readsBool Try.underlying4) enc w base spare held n [v1] y1 e1
    have c2 : Try.prog.cellsOf 22 = 1 := by kernel_rfl
    have e2 : DataW.trod enc Try.prog w base spare held n 22 (List.take (Try.prog.cellsOf 22) (List.drop 2 [v0, v1, v2])) = some y2 := hf 2 _ rfl
    rw [c2] at e2
    obtain ⟨a2, K2, G2⟩ := (readsSlice Try.underlying22 (by kernel_rfl) reads37) enc w base spare held n [v2] y2 e2
    refine ⟨⟨a0, a1, a2⟩, ⟨_, _, rfl, K0, ⟨_, _, rfl, K1, K2⟩⟩, fun N hN => ?_⟩
    rw [hx] at hN
    simp only [List.map_cons, List.map_nil, Rows.uptoBulk, Rows.uptoBulkAll] at hN
    exact ⟨G0 N (by omega), G1 N (by omega), G2 N (by omega)⟩
end Go.Proofs.Ytgjgckpdilbbjaa.R
end
