/- A part of the proof: words, contracts, plain lemmas. Conditions: none. -/
import Derived.Test.YtgjgckpdilbbjaaZAdjHops19
import Derived.Test.YtgjgckpdilbbjaaZAdjHops20
import Derived.Test.YtgjgckpdilbbjaaRows
import Derived.Test.YtgjgckpdilbbjaaZAdjHops3
import Derived.Deep.Slices
import Derived.ProofKit
section
namespace Go.Proofs.Ytgjgckpdilbbjaa.P
set_option linter.unusedSimpArgs false
set_option linter.unusedVariables false
open Go.RowKit Go.Proofs.Ytgjgckpdilbbjaa.Q Go.Proofs.YtgjgckpdilbbjaaW.PrintWords Go.Proofs.YtgjgckpdilbbjaaW.PrintLast Go.Proofs.YtgjgckpdilbbjaaW.PrintMore
abbrev one1 : S37 → Int := fun _ => 1
theorem nodup_ints {n : Nat} {q : List Int} (hn : q.Nodup) (h : ∀ x ∈ q, 0 ≤ x ∧ x < (n : Int)) : q.length ≤ n := by
  have h1 : (q.map Int.toNat).Nodup := by
    refine List.pairwise_map.2 (List.Pairwise.imp_of_mem ?_ hn)
    intro a b ha hb hab e
    have h1 := h a ha
    have h2 := h b hb
    have e' : a.toNat = b.toNat := e
    have e3 : a = b := by omega
    exact hab e3
  have := nodup_short (n := n) h1 (fun x hx => by
    obtain ⟨y, hy, rfl⟩ := List.mem_map.1 hx
    have := h y hy
    omega)
  rw [List.length_map] at this
  exact this
theorem plc_mem {e : S37 → Int} {l : List S37} {v x : Int} : x ∈ placesAt e l l.length v ↔ ∃ j : Nat, j < l.length ∧ e (rd_T37 l (j : Int)) = v ∧ x = (j : Int) := by
  unfold placesAt
  rw [List.mem_map]
  constructor
  · rintro ⟨j, hj, rfl⟩
    rw [List.mem_filter, List.mem_range] at hj
    exact ⟨j, hj.1, by simpa using hj.2, rfl⟩
  · rintro ⟨j, h1, h2, rfl⟩
    exact ⟨j, List.mem_filter.2 ⟨List.mem_range.2 h1, by simpa using h2⟩, rfl⟩
theorem mem_rdT {l : List S37} {a : S37} (h : a ∈ l) : ∃ j : Nat, j < l.length ∧ rd_T37 l (j : Int) = a := by
  obtain ⟨j, hj, e⟩ := List.mem_iff_getElem.1 h
  exact ⟨j, hj, by rw [rdA_of hj]; exact e⟩
def Shut (wt : S37 → Int) (d : List Int) (a : S37) : Prop := 0 ≤ rd d a.f1 ∧ rd d a.f1 ≤ rd d a.f0 + wt a
def negs (d : List Int) : Nat := d.countP (fun x => decide (x < 0))
theorem negs_set {d : List Int} {i : Nat} {x : Int} (hi : i < d.length) (h0 : rd d (i : Int) < 0) (h1 : 0 ≤ x) : negs (d.set i x) + 1 = negs d := by
  unfold negs
  have e : rd d (i : Int) = d[i] := by unfold rd; rw [Int.toNat_natCast, List.getD_eq_getElem?_getD, List.getElem?_eq_getElem hi]; rfl
  rw [e] at h0
  have hp : 0 < d.countP (fun x => decide (x < 0)) := List.countP_pos_iff.2 ⟨d[i], List.getElem_mem hi, by simpa using h0⟩
  rw [List.countP_set hi]
  have : ¬ x < 0 := by omega
  simp [h0, this]
  omega
structure BIn (l : List S37) (s n : Nat) (d q : List Int) (v : Nat) (rest : List Int) : Prop where
  len : d.length = n
  src : rd d (s : Int) = 0
  sound : ∀ u : Nat, u < n → rd d (u : Int) = -1 ∨ (0 ≤ rd d (u : Int) ∧ Wk l one1 (s : Int) (rd d (u : Int)) (u : Int))
  qn : q.Nodup
  qr : ∀ x ∈ q, 0 ≤ x ∧ x < (n : Int) ∧ 0 ≤ rd d x
  vr : v < n
  v0 : 0 ≤ rd d (v : Int)
  lo : ∀ x ∈ q, rd d (v : Int) ≤ rd d x
  hi : ∀ u : Nat, u < n → rd d (u : Int) ≤ rd d (v : Int) + 1
  sorted : q.Pairwise (fun a b => rd d a ≤ rd d b)
  bnd : ∀ u : Nat, u < n → rd d (u : Int) + (negs d : Int) ≤ (n : Int)
  done : ∀ i : Nat, i < l.length → 0 ≤ rd d (rd_T37 l (i : Int)).f0 → (rd_T37 l (i : Int)).f0 ∈ q ∨ ((rd_T37 l (i : Int)).f0 = (v : Int) ∧ (i : Int) ∈ rest) ∨ Shut one1 d (rd_T37 l (i : Int))
theorem hopsIn_ok {l : List S37} {s n : Nat} (hf : Fine l one1 s n) (hn : n ≤ 50) (v : Nat) : ∀ (rest d q : List Int), (∀ x ∈ rest, ∃ j : Nat, j < l.length ∧ (rd_T37 l (j : Int)).f0 = (v : Int) ∧ x = (j : Int)) → BIn l s n d q v rest →
    ∃ d' q', hopsIn l (n : Int) (v : Int) rest d q = some (d', q') ∧ BIn l s n d' q' v [] ∧ negs d' + q'.length = negs d + q.length
  | [], d, q, _, h => ⟨d, q, rfl, h, rfl⟩
  | x :: rest, d, q, hr, h => by
    obtain ⟨j, hj, hjv, rfl⟩ := hr x List.mem_cons_self
    have hr' : ∀ x ∈ rest, ∃ j : Nat, j < l.length ∧ (rd_T37 l (j : Int)).f0 = (v : Int) ∧ x = (j : Int) := fun x hx => hr x (List.mem_cons_of_mem _ hx)
    have hmem := rdT_mem hj
    obtain ⟨hw0, hw1, _⟩ := hf.arcs _ hmem
    generalize hA : rd_T37 l (j : Int) = A at hjv hmem hw0 hw1
    obtain ⟨w, hw⟩ : ∃ w : Nat, A.f1 = (w : Int) := ⟨A.f1.toNat, by omega⟩
    have hwn : w < n := by omega
    have hwl : w < d.length := by rw [h.len]; exact hwn
    have hv1 := h.hi v h.vr
    have hvb : rd d (v : Int) + 1 < 1000000000 := by
      have := h.bnd v h.vr
      omega
    unfold hopsIn
    rw [hA, hw, if_pos ⟨by omega, by omega, by omega, by rw [h.len]; omega⟩]
    by_cases c : rd d (w : Int) < 0
    · rw [if_pos c, Int.toNat_natCast, wrapId (by have := h.v0; omega) (by omega)]
      have hwq : (w : Int) ∉ q := fun e => by have := (h.qr _ e).2.2; omega
      have hqn : (q ++ [(w : Int)]).Nodup := List.nodup_append.2 ⟨h.qn, List.nodup_cons.2 ⟨List.not_mem_nil, List.nodup_nil⟩, fun a ha b hb e => by rw [List.mem_singleton] at hb; subst hb; subst e; exact hwq ha⟩
      have hql : q.length + 1 ≤ n := by
        have := nodup_ints (n := n) hqn (fun x hx => by
          rcases List.mem_append.1 hx with hx | hx
          · have := h.qr x hx; omega
          · rw [List.mem_singleton] at hx; subst hx; omega)
        simpa using this
      rw [if_neg (by omega)]
      have hst : ∀ u : Nat, rd (d.set w (rd d (v : Int) + 1)) (u : Int) = if u = w then rd d (v : Int) + 1 else rd d (u : Int) := fun u => rd_set hwl u
      have hne : ∀ x : Int, 0 ≤ x → 0 ≤ rd d x → rd (d.set w (rd d (v : Int) + 1)) x = rd d x := by
        intro x hx h0
        have e : x = ((x.toNat : Nat) : Int) := by omega
        rw [e, hst, if_neg (fun e2 => by rw [e, e2] at h0; omega)]
      have hv' := hne (v : Int) (by omega) h.v0
      obtain ⟨d', q', h1, h2, h3⟩ := hopsIn_ok hf hn v rest (d.set w (rd d (v : Int) + 1)) (q ++ [(w : Int)]) hr' {
        len := by rw [List.length_set]; exact h.len
        src := by rw [hne _ (by omega) (by rw [h.src]; exact Int.le_refl _)]; exact h.src
        sound := fun u hu => by
          rw [hst]
          by_cases e : u = w
          · rw [if_pos e, e]
            right
            have hwk := (h.sound v h.vr).elim (fun e => by have := h.v0; omega) (fun e => e.2)
            have := Wk.step (l := l) (wt := one1) A hwk hmem hjv
            rw [hw] at this
            exact ⟨by have := h.v0; omega, this⟩
          · rw [if_neg e]; exact h.sound u hu
        qn := hqn
        qr := fun x hx => by
          rcases List.mem_append.1 hx with hx | hx
          · have := h.qr x hx
            rw [hne x this.1 this.2.2]; exact this
          · rw [List.mem_singleton] at hx; subst hx
            rw [hst, if_pos rfl]
            have := h.v0
            omega
        vr := h.vr
        v0 := by rw [hv']; exact h.v0
        lo := fun x hx => by
          rw [hv']
          rcases List.mem_append.1 hx with hx | hx
          · have := h.qr x hx
            rw [hne x this.1 this.2.2]; exact h.lo x hx
          · rw [List.mem_singleton] at hx; subst hx
            rw [hst, if_pos rfl]; omega
        hi := fun u hu => by
          rw [hv', hst]
          split
          · omega
          · exact h.hi u hu
        sorted := by
          refine List.pairwise_append.2 ⟨List.Pairwise.imp_of_mem ?_ h.sorted, List.pairwise_singleton _ _, ?_⟩
          · intro a b ha hb hab
            have h1 := h.qr a ha; have h2 := h.qr b hb
            rw [hne a h1.1 h1.2.2, hne b h2.1 h2.2.2]; exact hab
          · intro a ha b hb
            rw [List.mem_singleton] at hb; subst hb
            have h1 := h.qr a ha
            rw [hne a h1.1 h1.2.2, hst, if_pos rfl]
            have := h.hi a.toNat (by omega)
            rw [show ((a.toNat : Nat) : Int) = a by omega] at this
            exact this
        bnd := fun u hu => by
          have hng := negs_set (x := rd d (v : Int) + 1) hwl c (by have := h.v0; omega)
          rw [hst]
          have g1 := h.bnd v h.vr
          have g2 := h.bnd u hu
          split <;> omega
        done := fun i hi h0 => by
          have hai := hf.arcs _ (rdT_mem hi)
          generalize hB : rd_T37 l (i : Int) = B at h0 hai
          by_cases e : B.f0 = (w : Int)
          · exact Or.inl (by rw [e]; exact List.mem_append.2 (Or.inr List.mem_cons_self))
          · have e0 : rd (d.set w (rd d (v : Int) + 1)) B.f0 = rd d B.f0 := by
              rw [show B.f0 = ((B.f0.toNat : Nat) : Int) by omega, hst, if_neg (by omega)]
            rw [e0] at h0
            have hshut : Shut one1 d B → Shut one1 (d.set w (rd d (v : Int) + 1)) B := by
              rintro ⟨g1, g2⟩
              unfold Shut
              rw [hne B.f1 (by omega) g1, e0]
              exact ⟨g1, g2⟩
            rcases h.done i hi (by rw [hB]; exact h0) with g | ⟨g1, g2⟩ | g
            · rw [hB] at g; exact Or.inl (List.mem_append.2 (Or.inl g))
            · rcases List.mem_cons.1 g2 with g3 | g3
              · have : i = j := Int.ofNat_inj.1 g3
                subst this
                rw [hA] at hB
                subst hB
                refine Or.inr (Or.inr ?_)
                unfold Shut
                rw [e0, hw, hst, if_pos rfl, hjv]
                have := h.v0
                exact ⟨by omega, Int.le_refl _⟩
              · rw [hB] at g1; exact Or.inr (Or.inl ⟨g1, g3⟩)
            · rw [hB] at g; exact Or.inr (Or.inr (hshut g)) }
      refine ⟨d', q', h1, h2, ?_⟩
      have := negs_set (x := rd d (v : Int) + 1) hwl c (by have := h.v0; omega)
      rw [h3, List.length_append, List.length_cons, List.length_nil]
      omega
    · rw [if_neg c]
      refine hopsIn_ok hf hn v rest d q hr' { h with done := fun i hi h0 => ?_ }
      rcases h.done i hi h0 with g | ⟨g1, g2⟩ | g
      · exact Or.inl g
      · rcases List.mem_cons.1 g2 with g3 | g3
        · have : i = j := Int.ofNat_inj.1 g3
          subst this
          rw [hA] at h0 ⊢
          refine Or.inr (Or.inr ⟨by rw [hw]; omega, ?_⟩)
          rw [hw, hjv]
          exact h.hi w hwn
        · exact Or.inr (Or.inl ⟨g1, g3⟩)
      · exact Or.inr (Or.inr g)
structure BI (l : List S37) (s n : Nat) (d q : List Int) : Prop where
  len : d.length = n
  src : rd d (s : Int) = 0
  sound : ∀ u : Nat, u < n → rd d (u : Int) = -1 ∨ (0 ≤ rd d (u : Int) ∧ Wk l one1 (s : Int) (rd d (u : Int)) (u : Int))
  qn : q.Nodup
  qr : ∀ x ∈ q, 0 ≤ x ∧ x < (n : Int) ∧ 0 ≤ rd d x
  hi : ∀ u : Nat, u < n → ∀ x ∈ q, rd d (u : Int) ≤ rd d x + 1
  sorted : q.Pairwise (fun a b => rd d a ≤ rd d b)
  bnd : ∀ u : Nat, u < n → rd d (u : Int) + (negs d : Int) ≤ (n : Int)
  done : ∀ i : Nat, i < l.length → 0 ≤ rd d (rd_T37 l (i : Int)).f0 → (rd_T37 l (i : Int)).f0 ∈ q ∨ Shut one1 d (rd_T37 l (i : Int))
theorem hopsLoop_ok {l : List S37} {s n : Nat} (hf : Fine l one1 s n) (hn : n ≤ 50) : ∀ (m : Nat) (d q : List Int), BI l s n d q → negs d + q.length = m →
    ∃ r, Dist l one1 (s : Int) n r ∧ ∀ k, m + 1 ≤ k → hopsLoop l (rowsAt S37.f0 l n l.length) (n : Int) k d q = some r := by
  intro m
  induction m with
  | zero =>
    intro d q h hm
    cases q with
    | nil => exact ⟨d, dist_of hf h.len h.src h.sound (fun a ha h0 => by
        obtain ⟨j, hj, e⟩ := mem_rdT ha
        have := h.done j hj (by rw [e]; exact h0)
        rw [e] at this
        exact this.elim (fun g => by cases g) id), fun k hk => by
        obtain ⟨k, rfl⟩ : ∃ k', k = k' + 1 := ⟨k - 1, by omega⟩
        rfl⟩
    | cons v q => simp at hm
  | succ m ih =>
    intro d q h hm
    cases q with
    | nil => exact ⟨d, dist_of hf h.len h.src h.sound (fun a ha h0 => by
        obtain ⟨j, hj, e⟩ := mem_rdT ha
        have := h.done j hj (by rw [e]; exact h0)
        rw [e] at this
        exact this.elim (fun g => by cases g) id), fun k hk => by
        obtain ⟨k, rfl⟩ : ∃ k', k = k' + 1 := ⟨k - 1, by omega⟩
        rfl⟩
    | cons x q =>
      have hx := h.qr x List.mem_cons_self
      obtain ⟨v, rfl⟩ : ∃ v : Nat, x = (v : Int) := ⟨x.toNat, by omega⟩
      have hvn : v < n := by omega
      obtain ⟨hq1, hq2⟩ := List.nodup_cons.1 h.qn
      obtain ⟨hs1, hs2⟩ := List.pairwise_cons.1 h.sorted
      have hB : BIn l s n d q v (placesAt S37.f0 l l.length (v : Int)) := {
        len := h.len, src := h.src, sound := h.sound, qn := hq2, qr := fun y hy => h.qr y (List.mem_cons_of_mem _ hy), vr := hvn, v0 := hx.2.2
        lo := hs1, hi := fun u hu => h.hi u hu _ List.mem_cons_self, sorted := hs2, bnd := h.bnd
        done := fun i hi h0 => by
          rcases h.done i hi h0 with g | g
          · rcases List.mem_cons.1 g with g | g
            · exact Or.inr (Or.inl ⟨g, plc_mem.2 ⟨i, hi, g, rfl⟩⟩)
            · exact Or.inl g
          · exact Or.inr (Or.inr g) }
      obtain ⟨d', q', h1, h2, h3⟩ := hopsIn_ok hf hn v _ d q (fun y hy => plc_mem.1 hy) hB
      obtain ⟨r, hr1, hr2⟩ := ih d' q' {
        len := h2.len, src := h2.src, sound := h2.sound, qn := h2.qn, qr := h2.qr
        hi := fun u hu y hy => by have := h2.hi u hu; have := h2.lo y hy; omega
        sorted := h2.sorted, bnd := h2.bnd
        done := fun i hi h0 => (h2.done i hi h0).elim Or.inl (fun g => g.elim (fun g => by cases g.2) Or.inr) } (by simp at hm; omega)
      refine ⟨r, hr1, fun k hk => ?_⟩
      obtain ⟨k, rfl⟩ : ∃ k', k = k' + 1 := ⟨k - 1, by omega⟩
      unfold hopsLoop
      rw [if_pos ⟨by omega, by rw [rowsAt_length]; omega, by rw [h.len]; omega⟩, rowsAt_rd _ _ _ _ _ (by omega) (by omega), h1]
      exact hr2 k (by omega)
theorem negs_first {n s : Nat} (h : s < n) : negs ((List.replicate n (-1 : Int)).set s 0) + 1 = n := by
  have := negs_set (d := List.replicate n (-1 : Int)) (i := s) (x := 0) (by simpa using h) (by rw [rd_replicate h]; decide) (Int.le_refl _)
  rw [this]
  unfold negs
  rw [List.countP_replicate]
  simp
theorem rd_first {n s : Nat} (h : s < n) (u : Nat) (hu : u < n) : rd ((List.replicate n (-1 : Int)).set s 0) (u : Int) = if u = s then 0 else -1 := by
  rw [rd_set (by simpa using h), rd_replicate hu]
theorem hops_dist {l : List S37} {s n : Nat} (hf : Fine l one1 s n) (hn : n ≤ 50) : ∃ r, Dist l one1 (s : Int) n r ∧ Ev (fun k => hopsLoop l (rowsAt S37.f0 l n l.length) (n : Int) k ((List.replicate n (-1)).set s 0) [(s : Int)]) r := by
  have hs := hf.src
  obtain ⟨r, h1, h2⟩ := hopsLoop_ok hf hn _ ((List.replicate n (-1)).set s 0) [(s : Int)] {
    len := by simp
    src := by rw [rd_first hs s hs, if_pos rfl]
    sound := fun u hu => by
      rw [rd_first hs u hu]
      by_cases e : u = s
      · subst e; rw [if_pos rfl]; exact Or.inr ⟨Int.le_refl _, Wk.zero⟩
      · rw [if_neg e]; exact Or.inl rfl
    qn := List.nodup_cons.2 ⟨List.not_mem_nil, List.nodup_nil⟩
    qr := fun x hx => by rw [List.mem_singleton] at hx; subst hx; rw [rd_first hs s hs, if_pos rfl]; omega
    hi := fun u hu x hx => by rw [List.mem_singleton] at hx; subst hx; rw [rd_first hs s hs, if_pos rfl, rd_first hs u hu]; split <;> omega
    sorted := List.pairwise_singleton _ _
    bnd := fun u hu => by
      have := negs_first hs
      rw [rd_first hs u hu]; split <;> omega
    done := fun i hi h0 => by
      have hai := (hf.arcs _ (rdT_mem hi)).1
      rw [show (rd_T37 l (i : Int)).f0 = (((rd_T37 l (i : Int)).f0.toNat : Nat) : Int) by omega, rd_first hs _ (by omega)] at h0
      by_cases e : (rd_T37 l (i : Int)).f0.toNat = s
      · exact Or.inl (by rw [List.mem_singleton]; omega)
      · rw [if_neg e] at h0; exact absurd h0 (by decide) } rfl
  exact ⟨r, h1, ⟨_, h2⟩⟩
theorem rd_mem {d : List Int} {v : Nat} (h : v < d.length) : rd d (v : Int) ∈ d := by
  unfold rd; rw [Int.toNat_natCast, List.getD_eq_getElem?_getD, List.getElem?_eq_getElem h]; exact List.getElem_mem h
def near (D : List Int) (k : Nat) : Nat := D.countP (fun x => decide (0 ≤ x ∧ x ≤ (k : Int)))
theorem near_grows {l : List S37} {s n : Nat} (hf : Fine l one1 s n) {D : List Int} (hD : Dist l one1 (s : Int) n D) : ∀ k : Nat, (∃ v : Nat, v < n ∧ (k : Int) < rd D (v : Int)) → k + 1 ≤ near D k
  | 0, _ => by
    unfold near
    refine Nat.succ_le_of_lt (List.countP_pos_iff.2 ⟨rd D (s : Int), rd_mem (by rw [hD.len]; exact hf.src), ?_⟩)
    rw [hD.src hf]; decide
  | k + 1, ⟨v, hv, hk⟩ => by
    have ih := near_grows hf hD k ⟨v, hv, by omega⟩
    obtain ⟨a, ha, h1, h2, h3, h4⟩ := hD.leaves hf (fun x => rd D x ≤ (k : Int)) (by rw [hD.src hf]; omega) (hD.get hv (by omega)) rfl (by omega)
    have hn := (hf.arcs a ha).2.1
    have e : a.f1 = ((a.f1.toNat : Nat) : Int) := by omega
    have : near D k + 1 ≤ near D (k + 1) := by
      unfold near
      refine countP_step (fun x _ hx => ?_) ⟨rd D a.f1, by rw [e]; exact rd_mem (by rw [hD.len]; omega), ?_, ?_⟩
      · simp only [decide_eq_true_eq] at hx ⊢; omega
      · have : one1 a = 1 := rfl
        simp only [decide_eq_true_eq]; omega
      · simp only [decide_eq_false_iff_not]; omega
    omega
theorem far_none {l : List S37} {s n : Nat} (hf : Fine l one1 s n) {D : List Int} (hD : Dist l one1 (s : Int) n D) (v : Nat) (hv : v < n) : rd D (v : Int) ≤ (n : Int) := by
  rcases Int.lt_or_le (n : Int) (rd D (v : Int)) with c | c
  · have h1 := near_grows hf hD n ⟨v, hv, c⟩
    have h2 : near D n ≤ D.length := List.countP_le_length
    rw [hD.len] at h2
    omega
  · exact c
def Lvl (D d : List Int) (n k : Nat) : Prop := d.length = n ∧ ∀ v : Nat, v < n → (rd D (v : Int) ≤ (k : Int) → rd d (v : Int) = rd D (v : Int)) ∧ ((k : Int) < rd D (v : Int) → rd d (v : Int) = -1)
def Mid (l : List S37) (D d : List Int) (n k i : Nat) : Prop := d.length = n ∧ ∀ v : Nat, v < n → (rd D (v : Int) ≤ (k : Int) → rd d (v : Int) = rd D (v : Int)) ∧ ((k : Int) < rd D (v : Int) → rd d (v : Int) = -1 ∨ (rd d (v : Int) = (k : Int) + 1 ∧ rd D (v : Int) = (k : Int) + 1)) ∧ (∀ j : Nat, j < i → (rd_T37 l (j : Int)).f1 = (v : Int) → rd D (rd_T37 l (j : Int)).f0 = (k : Int) → rd D (v : Int) = (k : Int) + 1 → rd d (v : Int) = (k : Int) + 1)
theorem Dist.ge {l : List S37} {wt : S37 → Int} {s : Int} {n : Nat} {D : List Int} (h : Dist l wt s n D) {v : Nat} (hv : v < n) : -1 ≤ rd D (v : Int) := by
  rcases h.spec v hv with ⟨h1, _⟩ | ⟨h1, _⟩ <;> omega
theorem rhops_l2 {l : List S37} {s n : Nat} (hf : Fine l one1 s n) (hn : n ≤ 50) (hl : l.length ≤ 200) (b : Bool) {D : List Int} (hD : Dist l one1 (s : Int) n D) (k : Nat) (hk : k < n) {R : List Int × Int}
    (next : ∀ d, Lvl D d n (k + 1) → Ev (fun f => ebbtideref06_Hops.l1 f d ((k : Int) + 1) (n : Int) b l) R) (e : Nat) : ∀ i d, i + e = l.length → Mid l D d n k i → Ev (fun f => ebbtideref06_Hops.l2 f d (k : Int) (i : Int) (n : Int) b l) R := by
  induction e with
  | zero =>
    intro i d hi hM
    refine Ev.step (fun f => ?_) (next d ⟨hM.1, fun v hv => ⟨fun h => ?_, fun h => ?_⟩⟩)
    · rw [ebbtideref06_Hops.l2, if_neg (by omega), wrap1 (by omega)]; rfl
    · obtain ⟨g1, g2, g3⟩ := hM.2 v hv
      rcases Int.lt_or_le (k : Int) (rd D (v : Int)) with c | c
      · have hne : v ≠ s := fun e => by subst e; rw [hD.src hf] at c; omega
        obtain ⟨a, ha, h1, h2, h3⟩ := hD.tight hf hv (by omega) hne
        obtain ⟨j, hj, ej⟩ := mem_rdT ha
        have : one1 a = 1 := rfl
        have := g3 j (by omega) (by rw [ej]; exact h1) (by rw [ej]; omega) (by omega)
        omega
      · exact g1 c
    · obtain ⟨g1, g2, g3⟩ := hM.2 v hv
      rcases g2 (by omega) with g | ⟨_, g⟩
      · exact g
      · omega
  | succ e ih =>
    intro i d hi hM
    have hi' : i < l.length := by omega
    have hmem := rdT_mem hi'
    obtain ⟨⟨a0, a1⟩, ⟨b0, b1⟩, _⟩ := hf.arcs _ hmem
    generalize hA : rd_T37 l (i : Int) = A at hmem a0 a1 b0 b1
    obtain ⟨u, hu⟩ : ∃ u : Nat, A.f0 = (u : Int) := ⟨A.f0.toNat, by omega⟩
    obtain ⟨w, hw⟩ : ∃ w : Nat, A.f1 = (w : Int) := ⟨A.f1.toNat, by omega⟩
    have hun : u < n := by omega
    have hwn : w < n := by omega
    have hone : one1 A = 1 := rfl
    have hbeg : rd d (u : Int) = (k : Int) ↔ rd D (u : Int) = (k : Int) := by
      obtain ⟨g1, g2, _⟩ := hM.2 u hun
      constructor
      · intro h
        rcases Int.lt_or_le (k : Int) (rd D (u : Int)) with c | c
        · rcases g2 c with g | ⟨g, _⟩ <;> omega
        · rw [g1 c] at h; exact h
      · intro h
        rw [g1 (by omega)]; exact h
    have keep : (rd D (u : Int) = (k : Int) → rd D (w : Int) = (k : Int) + 1 → rd d (w : Int) = (k : Int) + 1) → Mid l D d n k (i + 1) := fun h => ⟨hM.1, fun v hv => ⟨(hM.2 v hv).1, (hM.2 v hv).2.1, fun j hj h1 h2 h3 => by
      by_cases c : j = i
      · subst c
        rw [hA] at h1 h2
        have : v = w := by omega
        subst this
        rw [hu] at h2
        exact h h2 h3
      · exact (hM.2 v hv).2.2 j (by omega) h1 h2 h3⟩⟩
    by_cases c : rd d (u : Int) = (k : Int)
    · have hDu := hbeg.1 c
      have hcl := hD.closed hf A hmem (by rw [hu]; omega)
      rw [hu, hw] at hcl
      by_cases c2 : rd d (w : Int) < 0
      · refine Ev.step (fun f => ?_) (ih (i + 1) (d.set w ((k : Int) + 1)) (by omega) ?_)
        · rw [ebbtideref06_Hops.l2, if_pos (by omega), if_pos (by omega), hA, hu, hw, if_pos (by omega), if_pos (by rw [hM.1]; omega), if_pos c, if_pos (by omega), if_pos (by rw [hM.1]; omega), if_pos c2, Int.toNat_natCast, wrap1 (by omega), wrap1 (by omega)]; rfl
        · have hst : ∀ v : Nat, rd (d.set w ((k : Int) + 1)) (v : Int) = if v = w then (k : Int) + 1 else rd d (v : Int) := fun v => rd_set (by rw [hM.1]; exact hwn) v
          have hDw : rd D (w : Int) = (k : Int) + 1 := by
            obtain ⟨g1, g2, _⟩ := hM.2 w hwn
            rcases Int.lt_or_le (k : Int) (rd D (w : Int)) with c3 | c3
            · omega
            · have := g1 c3; omega
          refine ⟨by rw [List.length_set]; exact hM.1, fun v hv => ?_⟩
          obtain ⟨g1, g2, g3⟩ := hM.2 v hv
          rw [hst]
          by_cases e1 : v = w
          · subst e1
            rw [if_pos rfl]
            exact ⟨fun h => by omega, fun _ => Or.inr ⟨rfl, hDw⟩, fun _ _ _ _ _ => rfl⟩
          · rw [if_neg e1]
            refine ⟨g1, g2, fun j hj h1 h2 h3 => ?_⟩
            by_cases c4 : j = i
            · subst c4; rw [hA] at h1; omega
            · exact g3 j (by omega) h1 h2 h3
      · refine Ev.step (fun f => ?_) (ih (i + 1) d (by omega) (keep (fun _ h3 => ?_)))
        · rw [ebbtideref06_Hops.l2, if_pos (by omega), if_pos (by omega), hA, hu, hw, if_pos (by omega), if_pos (by rw [hM.1]; omega), if_pos c, if_pos (by omega), if_pos (by rw [hM.1]; omega), if_neg c2, wrap1 (by omega)]
        · rcases (hM.2 w hwn).2.1 (by omega) with g | ⟨g, _⟩
          · omega
          · exact g
    · refine Ev.step (fun f => ?_) (ih (i + 1) d (by omega) (keep (fun h _ => absurd (hbeg.2 h) c)))
      rw [ebbtideref06_Hops.l2, if_pos (by omega), if_pos (by omega), hA, hu, if_pos (by omega), if_pos (by rw [hM.1]; omega), if_neg c, wrap1 (by omega)]
theorem rhops_l1 {l : List S37} {s n : Nat} (hf : Fine l one1 s n) (hn : n ≤ 50) (hl : l.length ≤ 200) (b : Bool) {D : List Int} (hD : Dist l one1 (s : Int) n D) (e : Nat) : ∀ k d, k + e = n → Lvl D d n k → Ev (fun f => ebbtideref06_Hops.l1 f d (k : Int) (n : Int) b l) (D, 0) := by
  induction e with
  | zero =>
    intro k d hk h
    have : d = D := rd_ext (by rw [h.1, hD.len]) (fun v hv => by
      rw [h.1] at hv
      exact (h.2 v hv).1 (by have := far_none hf hD v hv; omega))
    subst this
    exact ev_cst fun f => by rw [ebbtideref06_Hops.l1, if_neg (by omega)]
  | succ e ih =>
    intro k d hk h
    refine Ev.step (fun f => ?_) (rhops_l2 hf hn hl b hD k (by omega) (fun d' h' => ih (k + 1) d' (by omega) h') l.length 0 d (by omega) ⟨h.1, fun v hv => ⟨(h.2 v hv).1, fun c => Or.inl ((h.2 v hv).2 c), fun j hj => absurd hj (Nat.not_lt_zero j)⟩⟩)
    rw [ebbtideref06_Hops.l1, if_pos (by omega)]; rfl
theorem rhops_l0 {l : List S37} {s n : Nat} (hf : Fine l one1 s n) (hn : n ≤ 50) (hl : l.length ≤ 200) (b : Bool) {D : List Int} (hD : Dist l one1 (s : Int) n D) (e : Nat) : ∀ v : Nat, v + e = n → Ev (fun f => ebbtideref06_Hops.l0 f (s : Int) (List.replicate v (-1)) (v : Int) (n : Int) b l) (D, 0) := by
  induction e with
  | zero =>
    intro v hv
    have hs := hf.src
    have e : v = n := by omega
    subst e
    refine Ev.step (fun f => ?_) (rhops_l1 hf hn hl b hD v 0 ((List.replicate v (-1)).set s 0) (by omega) ⟨by simp, fun u hu => ?_⟩)
    · rw [ebbtideref06_Hops.l0, if_neg (by omega), if_pos (by omega), if_pos (by rw [List.length_replicate]; omega), Int.toNat_natCast]; rfl
    · rw [rd_first hs u hu]
      by_cases c : u = s
      · subst c
        rw [if_pos rfl, hD.src hf]; exact ⟨fun _ => rfl, fun h => by omega⟩
      · rw [if_neg c]
        refine ⟨fun h => ?_, fun _ => rfl⟩
        have hge := hD.ge hu
        rcases Int.lt_or_le (rd D (u : Int)) 0 with g | g
        · omega
        · obtain ⟨a, ha, h1, h2, h3⟩ := hD.tight hf hu g c
          have : one1 a = 1 := rfl
          omega
  | succ e ih =>
    intro v hv
    refine Ev.step (fun f => ?_) (ih (v + 1) (by omega))
    rw [ebbtideref06_Hops.l0, if_pos (by omega), if_pos (by rw [List.length_replicate]; omega), wrap1 (by omega), List.replicate_succ']
def nodeErr (n : Int) (l : List S37) (v : Int) : Int := if checkErr n l = 0 then (if v < 0 then 1 else if v ≥ n then 1 else 0) else checkErr n l
theorem asked_ev (n : Int) (b : Bool) (l : List S37) (v : Int) : Ev (fun k => adj_asked.f k n b l v) (nodeErr n l v) := by
  unfold adj_asked.f nodeErr
  refine Ev.bind (check_ev n b l) ?_
  by_cases c : checkErr n l = 0
  · simp only [c, if_true]
    by_cases c1 : v < 0
    · simp only [c1, if_true]; exact Ev.now _
    · by_cases c2 : v ≥ n
      · simp only [c1, c2, if_true, if_false]; exact Ev.now _
      · simp only [c1, c2, if_false]; exact Ev.now _
  · simp only [c, if_false]; exact Ev.now _
theorem node_ev (n : Int) (b : Bool) (l : List S37) (v : Int) : Ev (fun k => ebbtideref06_Node.f n b l v) (decide (0 ≤ v ∧ v < n)) := by
  unfold ebbtideref06_Node.f
  by_cases c : v ≥ 0
  · simp only [if_pos c]
    refine Ev.congr (fun k => ?_) (Ev.now _)
    congr 1
    exact decide_eq_decide.2 ⟨fun h => ⟨c, h⟩, fun h => h.2⟩
  · simp only [if_neg c]
    refine Ev.congr (fun k => ?_) (Ev.now _)
    rw [decide_eq_false (by omega)]
theorem nodeErr_ok {n : Int} {l : List S37} {v : Int} : nodeErr n l v = 0 ↔ NetOk n l ∧ 0 ≤ v ∧ v < n := by
  unfold nodeErr
  constructor
  · intro h
    by_cases c : checkErr n l = 0
    · rw [if_pos c] at h
      refine ⟨checkErr_ok.1 c, ?_⟩
      by_cases c1 : v < 0
      · rw [if_pos c1] at h; cases h
      · rw [if_neg c1] at h
        by_cases c2 : v ≥ n
        · rw [if_pos c2] at h; cases h
        · omega
    · rw [if_neg c] at h; exact absurd h c
  · rintro ⟨h, h1, h2⟩
    rw [if_pos (checkErr_ok.2 h), if_neg (by omega), if_neg (by omega)]
theorem fine_one {n : Int} {l : List S37} {v : Int} (h : NetOk n l ∧ 0 ≤ v ∧ v < n) : Fine l one1 v.toNat n.toNat := ⟨by omega, fun a ha => by
  have := h.1.arcs a ha
  have h0 := this.f0; have h1 := this.f1
  exact ⟨by omega, by omega, (by decide : (0 : Int) ≤ 1)⟩⟩
theorem hops_both (n : Int) (b : Bool) (l : List S37) (v : Int) : ∃ r : List Int, r.length ≤ 50 ∧ (nodeErr n l v = 0 → Dist l one1 v n.toNat r) ∧ (nodeErr n l v ≠ 0 → r = []) ∧ Ev (fun k => adj_Hops.f k n b l v) (r, nodeErr n l v) ∧ Ev (fun k => ebbtideref06_Hops.f k n b l v) (r, nodeErr n l v) := by
  by_cases c : nodeErr n l v = 0
  · have hk := nodeErr_ok.1 c
    have hN := hk.1
    obtain ⟨h0, h1⟩ := hk.2
    have hf := fine_one hk
    have hnn : (n.toNat : Int) = n := by omega
    have hvv : (v.toNat : Int) = v := by omega
    have hhi := hN.hi
    have hlo := hN.lo
    obtain ⟨r, hr, he⟩ := hops_dist hf (by omega)
    rw [hvv] at hr
    rw [hnn, hvv] at he
    refine ⟨r, by rw [hr.len]; omega, fun _ => hr, fun h => absurd c h, ?_, ?_⟩
    · unfold adj_Hops.f
      rw [c]
      refine Ev.bind (by have := asked_ev n b l v; rw [c] at this; exact this) ?_
      simp only [if_true]
      have hg : (1 ≤ n ∧ n ≤ 50) ∧ 0 ≤ v ∧ v < n := ⟨⟨hlo, hhi⟩, h0, h1⟩
      simp only [if_pos hg]
      exact Ev.bind (leaving_ev b hN) (Ev.bind he (Ev.now _))
    · unfold ebbtideref06_Hops.f
      rw [c]
      refine Ev.bind (rcheck_ev n b l) ?_
      rw [checkErr_ok.2 hN]
      simp only [if_true]
      refine Ev.bind (node_ev n b l v) ?_
      rw [decide_eq_true (show 0 ≤ v ∧ v < n from ⟨h0, h1⟩)]
      simp only [if_true]
      have := rhops_l0 hf (by omega) hN.len b (D := r) (by rw [hvv]; exact hr) n.toNat 0 (by omega)
      rw [hnn, hvv] at this
      exact this
  · refine ⟨[], Nat.zero_le _, fun h => absurd h c, fun _ => rfl, ?_, ?_⟩
    · unfold adj_Hops.f
      refine Ev.bind (asked_ev n b l v) ?_
      simp only [c, if_false]
      exact Ev.now _
    · unfold ebbtideref06_Hops.f
      refine Ev.bind (rcheck_ev n b l) ?_
      unfold nodeErr at c ⊢
      by_cases c1 : checkErr n l = 0
      · simp only [c1, if_true] at c ⊢
        have hbad : ¬ (0 ≤ v ∧ v < n) := fun h => c (by rw [if_neg (by omega), if_neg (by omega)])
        have e1 : (if v < 0 then (1 : Int) else if v ≥ n then 1 else 0) = 1 := by
          by_cases c2 : v < 0
          · rw [if_pos c2]
          · rw [if_neg c2, if_pos (by omega)]
        rw [e1]
        refine Ev.bind (node_ev n b l v) ?_
        rw [decide_eq_false hbad]
        exact Ev.now _
      · simp only [c1, if_false]
        exact Ev.now _
end Go.Proofs.Ytgjgckpdilbbjaa.P
end
section
namespace Go.Proofs.Ytgjgckpdilbbjaa.R
open Go.RowKit Go.Proofs.Ytgjgckpdilbbjaa.Q Go.Proofs.YtgjgckpdilbbjaaW.PrintWords Go.Proofs.YtgjgckpdilbbjaaW.PrintLast Go.Proofs.YtgjgckpdilbbjaaW.PrintMore
open Go.ChangeShapes Go.WideShapes Go.Deep
def Reads (t : TypeId) {α : Type} (d : Kd α) (G : Nat → α → Prop) : Prop :=
  ∀ {H : Type} (enc : TypeId × Value → H) (w : World) (base : Nat) (spare : Nat → Bool) (held : Bool) (fuel : Nat) (cs : List Value) (x : DataW H × List MemPlace),
    DataW.trod enc Try.prog w base spare held fuel t cs = some x → ∃ a, d.K w a cs ∧ ∀ N, Rows.uptoBulk x.1 ≤ N → G N a
def gInt (k : IntKind) (_ : Nat) (n : Int) : Prop := (Lit.int k n).wf = true
def gTrue (_ : Nat) (_ : Bool) : Prop := True
def gList {α : Type} (G : Nat → α → Prop) (N : Nat) (l : List α) : Prop := l.length ≤ maxLen ∧ l.length ≤ N ∧ ∀ x ∈ l, G N x
theorem readsInt {t : TypeId} {k : IntKind} (ht : Try.prog.underlying t = some (.int k)) : Reads t (Kd.int k) (gInt k) := by
  intro H enc w base spare held fuel cs x h
  obtain ⟨n, rfl, rfl, hw⟩ := DataW.trod_int ht h
  exact ⟨n, rfl, fun _ _ => hw⟩
theorem readsBool {t : TypeId} (ht : Try.prog.underlying t = some .bool) : Reads t Kd.bool gTrue := by
  intro H enc w base spare held fuel cs x h
  obtain ⟨n, rfl, rfl⟩ := DataW.trod_bool ht h
  exact ⟨n, rfl, fun _ _ => trivial⟩
theorem one_le {H : Type} (d : DataW H) : 1 ≤ Rows.uptoBulk d := by
  cases d with
  | lit l => cases l <;> simp [Rows.uptoBulk]
  | nil => simp [Rows.uptoBulk]
  | ptr d => simp [Rows.uptoBulk]
  | slice elems spare => simp [Rows.uptoBulk]
  | agg parts => simp [Rows.uptoBulk]
  | iface t d => simp [Rows.uptoBulk]
  | map entries => simp [Rows.uptoBulk]
  | held h => simp [Rows.uptoBulk]
theorem part_le {H : Type} {d : DataW H} {l : List (DataW H)} (h : d ∈ l) : Rows.uptoBulk d ≤ Rows.uptoBulkAll l := by
  induction l with
  | nil => cases h
  | cons x r ih =>
    simp only [Rows.uptoBulkAll]
    cases List.mem_cons.1 h with
    | inl e => subst e; omega
    | inr e => have := ih e; omega
theorem length_le {H : Type} (l : List (DataW H)) : l.length ≤ Rows.uptoBulkAll l := by
  induction l with
  | nil => simp [Rows.uptoBulkAll]
  | cons x r ih => have := one_le x; simp only [Rows.uptoBulkAll, List.length_cons]; omega
theorem readsSlice {t e : TypeId} {α : Type} [Inhabited α] {d : Kd α} {G : Nat → α → Prop} (ht : Try.prog.underlying t = some (.slice e)) (hc : Try.prog.cellsOf e = d.sz) (R : Reads e d G) : Reads t (Kd.slice e d) (gList G) := by
  intro H enc w base spare held fuel cs x h
  rcases open_slice ht h with ⟨rfl, rfl⟩ | ⟨a, len, cap, m, n, D, Pl, rfl, hb, hl, hm, hmm, rfl, hx⟩
  · exact ⟨[], ⟨none, 0, rfl, Nat.le_refl _, Kd.C_nil d w⟩, fun N _ => ⟨Nat.zero_le _, Nat.zero_le _, fun x hx => by cases hx⟩⟩
  · have hlm : len ≤ m := by rw [hmm]; split <;> omega
    obtain ⟨f, hf⟩ := choose_lt (α := α) (n := m) (p := fun i y => ∃ c, c.length = d.sz ∧ d.K w y c ∧ (∀ j u, c[j]? = some u → w.cell? (a.add (i * d.sz + j)) = some u) ∧ ∀ N, Rows.uptoBulk (D i) ≤ N → G N y) (fun i hi => by
      obtain ⟨c, h1, h2⟩ := hx i hi
      obtain ⟨y, hK, hG⟩ := R enc w base spare held n c _ h2
      obtain ⟨_, hlen, hcell⟩ := World.cells?_some h1
      rw [hc] at hlen hcell
      refine ⟨y, c, hlen, hK, fun j u hu => ?_, hG⟩
      have hj : j < d.sz := by rw [← hlen]; exact (List.getElem?_eq_some_iff.1 hu).1
      have := hcell j hj
      rw [Deep.add_add] at this
      rw [this, hu])
    have hL : ((List.range len).map f).length = len := by simp
    refine ⟨(List.range len).map f, ⟨some a, cap, by rw [hL], by rw [hL]; exact hl, ?_⟩, fun N hN => ?_⟩
    · refine ⟨rfl, by rw [hL]; exact Nat.le_trans hl (Nat.le_trans hm (by decide)), fun _ => ⟨a, rfl, fun j p hj => ?_⟩⟩
      have hjl : j < len := by
        have := (List.getElem?_eq_some_iff.1 hj).1
        rwa [hL] at this
      have hp : f j = p := by
        rw [List.getElem?_map, List.getElem?_range hjl] at hj
        exact Option.some.inj hj
      obtain ⟨c, h1, h2, h3, _⟩ := hf j (by omega)
      rw [hp] at h2
      exact ⟨c, h1, h2, h3⟩
    · have hbulk : Rows.uptoBulkAll ((List.range len).map D) ≤ N := by
        simp only [Rows.uptoBulk] at hN
        omega
      refine ⟨by rw [hL]; omega, by rw [hL]; have := length_le ((List.range len).map D); simp at this; omega, fun y hy => ?_⟩
      obtain ⟨i, hi, rfl⟩ := List.mem_map.1 hy
      have hi' := List.mem_range.1 hi
      obtain ⟨c, _, _, _, hG⟩ := hf i (by omega)
      exact hG N (Nat.le_trans (part_le (List.mem_map.2 ⟨i, hi, rfl⟩)) hbulk)
instance : Inhabited S37 := ⟨z37⟩
def g37 (N : Nat) (x : S37) : Prop := gInt .i64 N x.f0 ∧ gInt .i64 N x.f1 ∧ gInt .i64 N x.f2 ∧ gInt .i64 N x.f3
set_option maxRecDepth 100000 in
theorem reads37 : Reads 37 k37 g37 := by
  intro H enc w base spare held fuel cs x h
  obtain ⟨xs, n, _, hx, hl, hlen, hf⟩ := DataW.trod_struct Try.underlying37 h
  have hl2 : cs.length = 4 := hl.trans (by kernel_rfl)
  have hlen2 : xs.length = 4 := hlen
  match xs, hlen2, cs, hl2 with
  | [y0, y1, y2, y3], _, [v0, v1, v2, v3], _ =>
    have c0 : Try.prog.cellsOf 3 = 1 := by kernel_rfl
    have e0 : DataW.trod enc Try.prog w base spare held n 3 (List.take (Try.prog.cellsOf 3) (List.drop 0 [v0, v1, v2, v3])) = some y0 := hf 0 _ rfl
    rw [c0] at e0
    obtain ⟨a0, K0, G0⟩ := (readsInt Try.underlying3) enc w base spare held n [v0] y0 e0
    have c1 : Try.prog.cellsOf 3 = 1 := by kernel_rfl
    have e1 : DataW.trod enc Try.prog w base spare held n 3 (List.take (Try.prog.cellsOf 3) (List.drop 1 [v0, v1, v2, v3])) = some y1 := hf 1 _ rfl
    rw [c1] at e1
    obtain ⟨a1, K1, G1⟩ := (readsInt Try.underlying3) enc w base spare held n [v1] y1 e1
    have c2 : Try.prog.cellsOf 3 = 1 := by kernel_rfl
    have e2 : DataW.trod enc Try.prog w base spare held n 3 (List.take (Try.prog.cellsOf 3) (List.drop 2 [v0, v1, v2, v3])) = some y2 := hf 2 _ rfl
    rw [c2] at e2
    obtain ⟨a2, K2, G2⟩ := (readsInt Try.underlying3) enc w base spare held n [v2] y2 e2
    have c3 : Try.prog.cellsOf 3 = 1 := by kernel_rfl
    have e3 : DataW.trod enc Try.prog w base spare held n 3 (List.take (Try.prog.cellsOf 3) (List.drop 3 [v0, v1, v2, v3])) = some y3 := hf 3 _ rfl
    rw [c3] at e3
    obtain ⟨a3, K3, G3⟩ := (readsInt Try.underlying3) enc w base spare held n [v3] y3 e3
    refine ⟨⟨a0, a1, a2, a3⟩, ⟨_, _, rfl, K0, ⟨_, _, rfl, K1, ⟨_, _, rfl, K2, K3⟩⟩⟩, fun N hN => ?_⟩
    rw [hx] at hN
    simp only [List.map_cons, List.map_nil, Rows.uptoBulk, Rows.uptoBulkAll] at hN
    exact ⟨G0 N (by omega), G1 N (by omega), G2 N (by omega), G3 N (by omega)⟩
structure S24 where
  f0 : Int
  f1 : Bool
  f2 : List S37
def z24 : S24 := ⟨(0 : Int), false, []⟩
def k24 : Kd S24 := Kd.iso (Kd.pair (Kd.int .i64) (Kd.pair Kd.bool (Kd.slice 37 k37))) (fun x : S24 => (x.f0, x.f1, x.f2))
instance : Inhabited S24 := ⟨z24⟩
def g24 (N : Nat) (x : S24) : Prop := gInt .i64 N x.f0 ∧ gTrue N x.f1 ∧ gList (g37) N x.f2
set_option maxRecDepth 100000 in
theorem reads24 : Reads 24 k24 g24 := by
  intro H enc w base spare held fuel cs x h
  obtain ⟨xs, n, _, hx, hl, hlen, hf⟩ := DataW.trod_struct Try.underlying24 h
  have hl2 : cs.length = 3 := hl.trans (by kernel_rfl)
  have hlen2 : xs.length = 3 := hlen
  match xs, hlen2, cs, hl2 with
  | [y0, y1, y2], _, [v0, v1, v2], _ =>
    have c0 : Try.prog.cellsOf 3 = 1 := by kernel_rfl
    have e0 : DataW.trod enc Try.prog w base spare held n 3 (List.take (Try.prog.cellsOf 3) (List.drop 0 [v0, v1, v2])) = some y0 := hf 0 _ rfl
    rw [c0] at e0
    obtain ⟨a0, K0, G0⟩ := (readsInt Try.underlying3) enc w base spare held n [v0] y0 e0
    have c1 : Try.prog.cellsOf 4 = 1 := by kernel_rfl
    have e1 : DataW.trod enc Try.prog w base spare held n 4 (List.take (Try.prog.cellsOf 4) (List.drop 1 [v0, v1, v2])) = some y1 := hf 1 _ rfl
    rw [c1] at e1
    obtain ⟨a1, K1, G1⟩ := (readsBool Try.underlying4) enc w base spare held n [v1] y1 e1
    have c2 : Try.prog.cellsOf 22 = 1 := by kernel_rfl
    have e2 : DataW.trod enc Try.prog w base spare held n 22 (List.take (Try.prog.cellsOf 22) (List.drop 2 [v0, v1, v2])) = some y2 := hf 2 _ rfl
    rw [c2] at e2
    obtain ⟨a2, K2, G2⟩ := (readsSlice Try.underlying22 (by kernel_rfl) reads37) enc w base spare held n [v2] y2 e2
    refine ⟨⟨a0, a1, a2⟩, ⟨_, _, rfl, K0, ⟨_, _, rfl, K1, K2⟩⟩, fun N hN => ?_⟩
    rw [hx] at hN
    simp only [List.map_cons, List.map_nil, Rows.uptoBulk, Rows.uptoBulkAll] at hN
    exact ⟨G0 N (by omega), G1 N (by omega), G2 N (by omega)⟩
end Go.Proofs.Ytgjgckpdilbbjaa.R
end
