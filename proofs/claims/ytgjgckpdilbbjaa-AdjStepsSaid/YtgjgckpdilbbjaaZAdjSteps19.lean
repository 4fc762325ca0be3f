/- A part of the proof: words, contracts, plain lemmas. Conditions: none. -/
import Derived.Test.YtgjgckpdilbbjaaZAdjSteps18
import Derived.Test.YtgjgckpdilbbjaaZAdjSteps3
section
namespace Go.Proofs.Ytgjgckpdilbbjaa.P
set_option linter.unusedSimpArgs false
set_option linter.unusedVariables false
open Go.RowKit Go.Proofs.Ytgjgckpdilbbjaa.Q Go.Proofs.YtgjgckpdilbbjaaW.PrintWords Go.Proofs.YtgjgckpdilbbjaaW.PrintLast Go.Proofs.YtgjgckpdilbbjaaW.PrintMore
theorem rd_mem {d : List Int} {v : Nat} (h : v < d.length) : rd d (v : Int) ∈ d := by
  unfold rd; rw [Int.toNat_natCast, List.getD_eq_getElem?_getD, List.getElem?_eq_getElem h]; exact List.getElem_mem h
def near (D : List Int) (k : Nat) : Nat := D.countP (fun x => decide (0 ≤ x ∧ x ≤ (k : Int)))
theorem near_grows {l : List S37} {s n : Nat} (hf : Fine l one1 s n) {D : List Int} (hD : Dist l one1 (s : Int) n D) : ∀ k : Nat, (∃ v : Nat, v < n ∧ (k : Int) < rd D (v : Int)) → k + 1 ≤ near D k
  | 0, _ => by
    unfold near
    refine Nat.succ_le_of_lt (List.countP_pos_iff.2 ⟨rd D (s : Int), rd_mem (by rw [hD.len]; exact hf.src), ?_⟩)
    rw [hD.src hf]; decide
  | k + 1, ⟨v, hv, hk⟩ => by
    have ih := near_grows hf hD k ⟨v, hv, by omega⟩
    obtain ⟨a, ha, h1, h2, h3, h4⟩ := hD.leaves hf (fun x => rd D x ≤ (k : Int)) (by rw [hD.src hf]; omega) (hD.get hv (by omega)) rfl (by omega)
    have hn := (hf.arcs a ha).2.1
    have e : a.f1 = ((a.f1.toNat : Nat) : Int) := by omega
    have : near D k + 1 ≤ near D (k + 1) := by
      unfold near
      refine countP_step (fun x _ hx => ?_) ⟨rd D a.f1, by rw [e]; exact rd_mem (by rw [hD.len]; omega), ?_, ?_⟩
      · simp only [decide_eq_true_eq] at hx ⊢; omega
      · have : one1 a = 1 := rfl
        simp only [decide_eq_true_eq]; omega
      · simp only [decide_eq_false_iff_not]; omega
    omega
theorem far_none {l : List S37} {s n : Nat} (hf : Fine l one1 s n) {D : List Int} (hD : Dist l one1 (s : Int) n D) (v : Nat) (hv : v < n) : rd D (v : Int) ≤ (n : Int) := by
  rcases Int.lt_or_le (n : Int) (rd D (v : Int)) with c | c
  · have h1 := near_grows hf hD n ⟨v, hv, c⟩
    have h2 : near D n ≤ D.length := List.countP_le_length
    rw [hD.len] at h2
    omega
  · exact c
def Lvl (D d : List Int) (n k : Nat) : Prop := d.length = n ∧ ∀ v : Nat, v < n → (rd D (v : Int) ≤ (k : Int) → rd d (v : Int) = rd D (v : Int)) ∧ ((k : Int) < rd D (v : Int) → rd d (v : Int) = -1)
def Mid (l : List S37) (D d : List Int) (n k i : Nat) : Prop := d.length = n ∧ ∀ v : Nat, v < n → (rd D (v : Int) ≤ (k : Int) → rd d (v : Int) = rd D (v : Int)) ∧ ((k : Int) < rd D (v : Int) → rd d (v : Int) = -1 ∨ (rd d (v : Int) = (k : Int) + 1 ∧ rd D (v : Int) = (k : Int) + 1)) ∧ (∀ j : Nat, j < i → (rd_T37 l (j : Int)).f1 = (v : Int) → rd D (rd_T37 l (j : Int)).f0 = (k : Int) → rd D (v : Int) = (k : Int) + 1 → rd d (v : Int) = (k : Int) + 1)
theorem Dist.ge {l : List S37} {wt : S37 → Int} {s : Int} {n : Nat} {D : List Int} (h : Dist l wt s n D) {v : Nat} (hv : v < n) : -1 ≤ rd D (v : Int) := by
  rcases h.spec v hv with ⟨h1, _⟩ | ⟨h1, _⟩ <;> omega
theorem rhops_l2 {l : List S37} {s n : Nat} (hf : Fine l one1 s n) (hn : n ≤ 50) (hl : l.length ≤ 200) (b : Bool) {D : List Int} (hD : Dist l one1 (s : Int) n D) (k : Nat) (hk : k < n) {R : List Int × Int}
    (next : ∀ d, Lvl D d n (k + 1) → Ev (fun f => ebbtideref06_Hops.l1 f d ((k : Int) + 1) (n : Int) b l) R) (e : Nat) : ∀ i d, i + e = l.length → Mid l D d n k i → Ev (fun f => ebbtideref06_Hops.l2 f d (k : Int) (i : Int) (n : Int) b l) R := by
  induction e with
  | zero =>
    intro i d hi hM
    refine Ev.step (fun f => ?_) (next d ⟨hM.1, fun v hv => ⟨fun h => ?_, fun h => ?_⟩⟩)
    · rw [ebbtideref06_Hops.l2, if_neg (by omega), wrap1 (by omega)]; rfl
    · obtain ⟨g1, g2, g3⟩ := hM.2 v hv
      rcases Int.lt_or_le (k : Int) (rd D (v : Int)) with c | c
      · have hne : v ≠ s := fun e => by subst e; rw [hD.src hf] at c; omega
        obtain ⟨a, ha, h1, h2, h3⟩ := hD.tight hf hv (by omega) hne
        obtain ⟨j, hj, ej⟩ := mem_rdT ha
        have : one1 a = 1 := rfl
        have := g3 j (by omega) (by rw [ej]; exact h1) (by rw [ej]; omega) (by omega)
        omega
      · exact g1 c
    · obtain ⟨g1, g2, g3⟩ := hM.2 v hv
      rcases g2 (by omega) with g | ⟨_, g⟩
      · exact g
      · omega
  | succ e ih =>
    intro i d hi hM
    have hi' : i < l.length := by omega
    have hmem := rdT_mem hi'
    obtain ⟨⟨a0, a1⟩, ⟨b0, b1⟩, _⟩ := hf.arcs _ hmem
    generalize hA : rd_T37 l (i : Int) = A at hmem a0 a1 b0 b1
    obtain ⟨u, hu⟩ : ∃ u : Nat, A.f0 = (u : Int) := ⟨A.f0.toNat, by omega⟩
    obtain ⟨w, hw⟩ : ∃ w : Nat, A.f1 = (w : Int) := ⟨A.f1.toNat, by omega⟩
    have hun : u < n := by omega
    have hwn : w < n := by omega
    have hone : one1 A = 1 := rfl
    have hbeg : rd d (u : Int) = (k : Int) ↔ rd D (u : Int) = (k : Int) := by
      obtain ⟨g1, g2, _⟩ := hM.2 u hun
      constructor
      · intro h
        rcases Int.lt_or_le (k : Int) (rd D (u : Int)) with c | c
        · rcases g2 c with g | ⟨g, _⟩ <;> omega
        · rw [g1 c] at h; exact h
      · intro h
        rw [g1 (by omega)]; exact h
    have keep : (rd D (u : Int) = (k : Int) → rd D (w : Int) = (k : Int) + 1 → rd d (w : Int) = (k : Int) + 1) → Mid l D d n k (i + 1) := fun h => ⟨hM.1, fun v hv => ⟨(hM.2 v hv).1, (hM.2 v hv).2.1, fun j hj h1 h2 h3 => by
      by_cases c : j = i
      · subst c
        rw [hA] at h1 h2
        have : v = w := by omega
        subst this
        rw [hu] at h2
        exact h h2 h3
      · exact (hM.2 v hv).2.2 j (by omega) h1 h2 h3⟩⟩
    by_cases c : rd d (u : Int) = (k : Int)
    · have hDu := hbeg.1 c
      have hcl := hD.closed hf A hmem (by rw [hu]; omega)
      rw [hu, hw] at hcl
      by_cases c2 : rd d (w : Int) < 0
      · refine Ev.step (fun f => ?_) (ih (i + 1) (d.set w ((k : Int) + 1)) (by omega) ?_)
        · rw [ebbtideref06_Hops.l2, if_pos (by omega), if_pos (by omega), hA, hu, hw, if_pos (by omega), if_pos (by rw [hM.1]; omega), if_pos c, if_pos (by omega), if_pos (by rw [hM.1]; omega), if_pos c2, Int.toNat_natCast, wrap1 (by omega), wrap1 (by omega)]; rfl
        · have hst : ∀ v : Nat, rd (d.set w ((k : Int) + 1)) (v : Int) = if v = w then (k : Int) + 1 else rd d (v : Int) := fun v => rd_set (by rw [hM.1]; exact hwn) v
          have hDw : rd D (w : Int) = (k : Int) + 1 := by
            obtain ⟨g1, g2, _⟩ := hM.2 w hwn
            rcases Int.lt_or_le (k : Int) (rd D (w : Int)) with c3 | c3
            · omega
            · have := g1 c3; omega
          refine ⟨by rw [List.length_set]; exact hM.1, fun v hv => ?_⟩
          obtain ⟨g1, g2, g3⟩ := hM.2 v hv
          rw [hst]
          by_cases e1 : v = w
          · subst e1
            rw [if_pos rfl]
            exact ⟨fun h => by omega, fun _ => Or.inr ⟨rfl, hDw⟩, fun _ _ _ _ _ => rfl⟩
          · rw [if_neg e1]
            refine ⟨g1, g2, fun j hj h1 h2 h3 => ?_⟩
            by_cases c4 : j = i
            · subst c4; rw [hA] at h1; omega
            · exact g3 j (by omega) h1 h2 h3
      · refine Ev.step (fun f => ?_) (ih (i + 1) d (by omega) (keep (fun _ h3 => ?_)))
        · rw [ebbtideref06_Hops.l2, if_pos (by omega), if_pos (by omega), hA, hu, hw, if_pos (by omega), if_pos (by rw [hM.1]; omega), if_pos c, if_pos (by omega), if_pos (by rw [hM.1]; omega), if_neg c2, wrap1 (by omega)]
        · rcases (hM.2 w hwn).2.1 (by omega) with g | ⟨g, _⟩
          · omega
          · exact g
    · refine Ev.step (fun f => ?_) (ih (i + 1) d (by omega) (keep (fun h _ => absurd (hbeg.2 h) c)))
      rw [ebbtideref06_Hops.l2, if_pos (by omega), if_pos (by omega), hA, hu, if_pos (by omega), if_pos (by rw [hM.1]; omega), if_neg c, wrap1 (by omega)]
theorem rhops_l1 {l : List S37} {s n : Nat} (hf : Fine l one1 s n) (hn : n ≤ 50) (hl : l.length ≤ 200) (b : Bool) {D : List Int} (hD : Dist l one1 (s : Int) n D) (e : Nat) : ∀ k d, k + e = n → Lvl D d n k → Ev (fun f => ebbtideref06_Hops.l1 f d (k : Int) (n : Int) b l) (D, 0) := by
  induction e with
  | zero =>
    intro k d hk h
    have : d = D := rd_ext (by rw [h.1, hD.len]) (fun v hv => by
      rw [h.1] at hv
      exact (h.2 v hv).1 (by have := far_none hf hD v hv; omega))
    subst this
    exact ev_cst fun f => by rw [ebbtideref06_Hops.l1, if_neg (by omega)]
  | succ e ih =>
    intro k d hk h
    refine Ev.step (fun f => ?_) (rhops_l2 hf hn hl b hD k (by omega) (fun d' h' => ih (k + 1) d' (by omega) h') l.length 0 d (by omega) ⟨h.1, fun v hv => ⟨(h.2 v hv).1, fun c => Or.inl ((h.2 v hv).2 c), fun j hj => absurd hj (Nat.not_lt_zero j)⟩⟩)
    rw [ebbtideref06_Hops.l1, if_pos (by omega)]; rfl
theorem rhops_l0 {l : List S37} {s n : Nat} (hf : Fine l one1 s n) (hn : n ≤ 50) (hl : l.length ≤ 200) (b : Bool) {D : List Int} (hD : Dist l one1 (s : Int) n D) (e : Nat) : ∀ v : Nat, v + e = n → Ev (fun f => ebbtideref06_Hops.l0 f (s : Int) (List.replicate v (-1)) (v : Int) (n : Int) b l) (D, 0) := by
  induction e with
  | zero =>
    intro v hv
    have hs := hf.src
    have e : v = n := by omega
    subst e
    refine Ev.step (fun f => ?_) (rhops_l1 hf hn hl b hD v 0 ((List.replicate v (-1)).set s 0) (by omega) ⟨by simp, fun u hu => ?_⟩)
    · rw [ebbtideref06_Hops.l0, if_neg (by omega), if_pos (by omega), if_pos (by rw [List.length_replicate]; omega), Int.toNat_natCast]; rfl
    · rw [rd_first hs u hu]
      by_cases c : u = s
      · subst c
        rw [if_pos rfl, hD.src hf]; exact ⟨fun _ => rfl, fun h => by omega⟩
      · rw [if_neg c]
        refine ⟨fun h => ?_, fun _ => rfl⟩
        have hge := hD.ge hu
        rcases Int.lt_or_le (rd D (u : Int)) 0 with g | g
        · omega
        · obtain ⟨a, ha, h1, h2, h3⟩ := hD.tight hf hu g c
          have : one1 a = 1 := rfl
          omega
  | succ e ih =>
    intro v hv
    refine Ev.step (fun f => ?_) (ih (v + 1) (by omega))
    rw [ebbtideref06_Hops.l0, if_pos (by omega), if_pos (by rw [List.length_replicate]; omega), wrap1 (by omega), List.replicate_succ']
def nodeErr (n : Int) (l : List S37) (v : Int) : Int := if checkErr n l = 0 then (if v < 0 then 1 else if v ≥ n then 1 else 0) else checkErr n l
theorem asked_ev (n : Int) (b : Bool) (l : List S37) (v : Int) : Ev (fun k => adj_asked.f k n b l v) (nodeErr n l v) := by
  unfold adj_asked.f nodeErr
  refine Ev.bind (check_ev n b l) ?_
  by_cases c : checkErr n l = 0
  · simp only [c, if_true]
    by_cases c1 : v < 0
    · simp only [c1, if_true]; exact Ev.now _
    · by_cases c2 : v ≥ n
      · simp only [c1, c2, if_true, if_false]; exact Ev.now _
      · simp only [c1, c2, if_false]; exact Ev.now _
  · simp only [c, if_false]; exact Ev.now _
theorem node_ev (n : Int) (b : Bool) (l : List S37) (v : Int) : Ev (fun k => ebbtideref06_Node.f n b l v) (decide (0 ≤ v ∧ v < n)) := by
  unfold ebbtideref06_Node.f
  by_cases c : v ≥ 0
  · simp only [if_pos c]
    refine Ev.congr (fun k => ?_) (Ev.now _)
    congr 1
    exact decide_eq_decide.2 ⟨fun h => ⟨c, h⟩, fun h => h.2⟩
  · simp only [if_neg c]
    refine Ev.congr (fun k => ?_) (Ev.now _)
    rw [decide_eq_false (by omega)]
theorem nodeErr_ok {n : Int} {l : List S37} {v : Int} : nodeErr n l v = 0 ↔ NetOk n l ∧ 0 ≤ v ∧ v < n := by
  unfold nodeErr
  constructor
  · intro h
    by_cases c : checkErr n l = 0
    · rw [if_pos c] at h
      refine ⟨checkErr_ok.1 c, ?_⟩
      by_cases c1 : v < 0
      · rw [if_pos c1] at h; cases h
      · rw [if_neg c1] at h
        by_cases c2 : v ≥ n
        · rw [if_pos c2] at h; cases h
        · omega
    · rw [if_neg c] at h; exact absurd h c
  · rintro ⟨h, h1, h2⟩
    rw [if_pos (checkErr_ok.2 h), if_neg (by omega), if_neg (by omega)]
theorem fine_one {n : Int} {l : List S37} {v : Int} (h : NetOk n l ∧ 0 ≤ v ∧ v < n) : Fine l one1 v.toNat n.toNat := ⟨by omega, fun a ha => by
  have := h.1.arcs a ha
  have h0 := this.f0; have h1 := this.f1
  exact ⟨by omega, by omega, (by decide : (0 : Int) ≤ 1)⟩⟩
theorem hops_both (n : Int) (b : Bool) (l : List S37) (v : Int) : ∃ r : List Int, r.length ≤ 50 ∧ (nodeErr n l v = 0 → Dist l one1 v n.toNat r) ∧ (nodeErr n l v ≠ 0 → r = []) ∧ Ev (fun k => adj_Hops.f k n b l v) (r, nodeErr n l v) ∧ Ev (fun k => ebbtideref06_Hops.f k n b l v) (r, nodeErr n l v) := by
  by_cases c : nodeErr n l v = 0
  · have hk := nodeErr_ok.1 c
    have hN := hk.1
    obtain ⟨h0, h1⟩ := hk.2
    have hf := fine_one hk
    have hnn : (n.toNat : Int) = n := by omega
    have hvv : (v.toNat : Int) = v := by omega
    have hhi := hN.hi
    have hlo := hN.lo
    obtain ⟨r, hr, he⟩ := hops_dist hf (by omega)
    rw [hvv] at hr
    rw [hnn, hvv] at he
    refine ⟨r, by rw [hr.len]; omega, fun _ => hr, fun h => absurd c h, ?_, ?_⟩
    · unfold adj_Hops.f
      rw [c]
      refine Ev.bind (by have := asked_ev n b l v; rw [c] at this; exact this) ?_
      simp only [if_true]
      have hg : (1 ≤ n ∧ n ≤ 50) ∧ 0 ≤ v ∧ v < n := ⟨⟨hlo, hhi⟩, h0, h1⟩
      simp only [if_pos hg]
      exact Ev.bind (leaving_ev b hN) (Ev.bind he (Ev.now _))
    · unfold ebbtideref06_Hops.f
      rw [c]
      refine Ev.bind (rcheck_ev n b l) ?_
      rw [checkErr_ok.2 hN]
      simp only [if_true]
      refine Ev.bind (node_ev n b l v) ?_
      rw [decide_eq_true (show 0 ≤ v ∧ v < n from ⟨h0, h1⟩)]
      simp only [if_true]
      have := rhops_l0 hf (by omega) hN.len b (D := r) (by rw [hvv]; exact hr) n.toNat 0 (by omega)
      rw [hnn, hvv] at this
      exact this
  · refine ⟨[], Nat.zero_le _, fun h => absurd h c, fun _ => rfl, ?_, ?_⟩
    · unfold adj_Hops.f
      refine Ev.bind (asked_ev n b l v) ?_
      simp only [c, if_false]
      exact Ev.now _
    · unfold ebbtideref06_Hops.f
      refine Ev.bind (rcheck_ev n b l) ?_
      unfold nodeErr at c ⊢
      by_cases c1 : checkErr n l = 0
      · simp only [c1, if_true] at c ⊢
        have hbad : ¬ (0 ≤ v ∧ v < n) := fun h => c (by rw [if_neg (by omega), if_neg (by omega)])
        have e1 : (if v < 0 then (1 : Int) else if v ≥ n then 1 else 0) = 1 := by
          by_cases c2 : v < 0
          · rw [if_pos c2]
          · rw [if_neg c2, if_pos (by omega)]
        rw [e1]
        refine Ev.bind (node_ev n b l v) ?_
        rw [decide_eq_false hbad]
        exact Ev.now _
      · simp only [c1, if_false]
        exact Ev.now _
end Go.Proofs.Ytgjgckpdilbbjaa.P
end
section
namespace Go.Proofs.Ytgjgckpdilbbjaa.Q
open Go.RowKit Go.Proofs.YtgjgckpdilbbjaaW.PrintWords Go.Proofs.YtgjgckpdilbbjaaW.PrintLast Go.Proofs.YtgjgckpdilbbjaaW.PrintMore
attribute [local go_sem] max2_int min2_int max_two min_four
set_option linter.unusedVariables false
set_option linter.unusedSimpArgs false
mutual
def ebbtideref06_Fastest.l0 : Nat → Int → List Int → Int → Int → Bool → List (S37) → Option (List Int × Int)
 | 0, _, _, _, _, _, _ => none
 | k + 1, x1, x7, x8, x207000, x207001, x207002 => if x8 < x207000 then (if x7.length < 17592186044416 then (ebbtideref06_Fastest.l0 k x1 (x7 ++ [(-1)]) (wrap64 (x8 + 1)) x207000 x207001 x207002) else (none)) else (if 0 ≤ x1 then (if x1 < (x7.length : Int) then (ebbtideref06_Fastest.l1 k (x7.set (x1 : Int).toNat 0) 0 x207000 x207001 x207002) else (none)) else (none))
def ebbtideref06_Fastest.l1 : Nat → List Int → Int → Int → Bool → List (S37) → Option (List Int × Int)
 | 0, _, _, _, _, _ => none
 | k + 1, x7, x9, x207000, x207001, x207002 => if x9 < x207000 then (ebbtideref06_Fastest.l2 k x7 x9 0 x207000 x207001 x207002) else (some (x7, 0))
def ebbtideref06_Fastest.l2 : Nat → List Int → Int → Int → Int → Bool → List (S37) → Option (List Int × Int)
 | 0, _, _, _, _, _, _ => none
 | k + 1, x7, x9, x10, x207000, x207001, x207002 => if x10 < (x207002.length : Int) then (if 0 ≤ x10 then (if 0 ≤ ((rd_T37 x207002 x10).f0) then (if ((rd_T37 x207002 x10).f0) < (x7.length : Int) then (if (rd x7 ((rd_T37 x207002 x10).f0)) ≥ 0 then (if 0 ≤ ((rd_T37 x207002 x10).f1) then (if ((rd_T37 x207002 x10).f1) < (x7.length : Int) then (if (rd x7 ((rd_T37 x207002 x10).f1)) < 0 then (ebbtideref06_Fastest.l2 k (x7.set (((rd_T37 x207002 x10).f1) : Int).toNat (wrap64 ((rd x7 ((rd_T37 x207002 x10).f0)) + ((rd_T37 x207002 x10).f3)))) x9 (wrap64 (x10 + 1)) x207000 x207001 x207002) else (if (wrap64 ((rd x7 ((rd_T37 x207002 x10).f0)) + ((rd_T37 x207002 x10).f3))) < (rd x7 ((rd_T37 x207002 x10).f1)) then (ebbtideref06_Fastest.l2 k (x7.set (((rd_T37 x207002 x10).f1) : Int).toNat (wrap64 ((rd x7 ((rd_T37 x207002 x10).f0)) + ((rd_T37 x207002 x10).f3)))) x9 (wrap64 (x10 + 1)) x207000 x207001 x207002) else (ebbtideref06_Fastest.l2 k x7 x9 (wrap64 (x10 + 1)) x207000 x207001 x207002))) else (none)) else (none)) else (ebbtideref06_Fastest.l2 k x7 x9 (wrap64 (x10 + 1)) x207000 x207001 x207002)) else (none)) else (none)) else (none)) else (ebbtideref06_Fastest.l1 k x7 (wrap64 (x9 + 1)) x207000 x207001 x207002)
end
def ebbtideref06_Fastest.f (k : Nat) (a0_0 : Int) (a0_1 : Bool) (l0_2 : List (S37)) (a1 : Int) : Option (List Int × Int) := (ebbtideref05_Check.f k a0_0 a0_1 l0_2).bind fun t207 => (if t207 = 0 then ((ebbtideref06_Node.f a0_0 a0_1 l0_2 a1).bind fun t208 => (if t208 = true then (ebbtideref06_Fastest.l0 k a1 ([] : List Int) 0 a0_0 a0_1 l0_2) else (some (([] : List Int), 1)))) else (some (([] : List Int), t207)))
end Go.Proofs.Ytgjgckpdilbbjaa.Q
end
section
namespace Go.Proofs.Ytgjgckpdilbbjaa.P
set_option linter.unusedSimpArgs false
set_option linter.unusedVariables false
open Go.RowKit Go.Proofs.Ytgjgckpdilbbjaa.Q Go.Proofs.YtgjgckpdilbbjaaW.PrintWords Go.Proofs.YtgjgckpdilbbjaaW.PrintLast Go.Proofs.YtgjgckpdilbbjaaW.PrintMore
theorem countP_split {α : Type} {p q r : α → Bool} : ∀ (l : List α), (∀ x ∈ l, (r x = (p x || q x)) ∧ ¬ (p x = true ∧ q x = true)) → l.countP r = l.countP p + l.countP q
  | [], _ => rfl
  | x :: l, h => by
    have ih := countP_split l (fun y hy => h y (List.mem_cons_of_mem _ hy))
    obtain ⟨h1, h2⟩ := h x List.mem_cons_self
    rw [List.countP_cons, List.countP_cons, List.countP_cons, ih, h1]
    cases hp : p x <;> cases hq : q x <;> simp [hp, hq] at h2 ⊢ <;> omega
def outE (l : List S37) (E : List Int) : Nat := (List.range l.length).countP (fun (i : Nat) => decide ((rd_T37 l (i : Int)).f0 ∈ E))
theorem outE_le (l : List S37) (E : List Int) : outE l E ≤ l.length := by
  have := List.countP_le_length (p := fun (i : Nat) => decide ((rd_T37 l (i : Int)).f0 ∈ E)) (l := List.range l.length)
  rw [List.length_range] at this
  exact this
theorem outE_cons {l : List S37} {E : List Int} {v : Int} (h : v ∉ E) : outE l (v :: E) = outE l E + (placesAt S37.f0 l l.length v).length := by
  unfold outE placesAt
  rw [List.length_map, ← List.countP_eq_length_filter]
  refine countP_split _ (fun i _ => ⟨?_, ?_⟩)
  · rw [Bool.eq_iff_iff]
    simp [Bool.or_eq_true]
    exact Or.comm
  · simp only [decide_eq_true_eq, beq_iff_eq]
    rintro ⟨h1, h2⟩
    exact h (h2 ▸ h1)
theorem ins_mem {x y : Int × Int} {s : List (Int × Int)} : y ∈ ins x s ↔ y = x ∨ y ∈ s := by rw [(ins_perm x s).mem_iff, List.mem_cons]
theorem ins_nodup {x : Int × Int} {s : List (Int × Int)} (h : s.Nodup) (hx : x ∉ s) : (ins x s).Nodup := (ins_perm x s).nodup_iff.2 (List.nodup_cons.2 ⟨hx, h⟩)
structure DIn (l : List S37) (s n : Nat) (d : List Int) (q : List (Int × Int)) (E : List Int) (v : Nat) (rest : List Int) : Prop where
  len : d.length = n
  src : rd d (s : Int) = 0
  sound : ∀ u : Nat, u < n → rd d (u : Int) = -1 ∨ (0 ≤ rd d (u : Int) ∧ Wk l S37.f3 (s : Int) (rd d (u : Int)) (u : Int))
  ent : ∀ x ∈ q, (0 ≤ x.2 ∧ x.2 < (n : Int)) ∧ 0 ≤ rd d x.2 ∧ rd d x.2 ≤ x.1
  nod : q.Nodup
  sorted : Sorted2 q
  vr : v < n
  v0 : 0 ≤ rd d (v : Int)
  low : ∀ x ∈ q, rd d (v : Int) ≤ x.1
  exp : ∀ u ∈ E, (0 ≤ u ∧ u < (n : Int)) ∧ 0 ≤ rd d u ∧ rd d u ≤ rd d (v : Int) ∧ ∀ x ∈ q, x.2 = u → rd d u < x.1
  edn : E.Nodup
  vE : (v : Int) ∈ E
  pend : ∀ u : Nat, u < n → 0 ≤ rd d (u : Int) → (rd d (u : Int), (u : Int)) ∈ q ∨ (u : Int) ∈ E
  done : ∀ i : Nat, i < l.length → (rd_T37 l (i : Int)).f0 ∈ E → ((rd_T37 l (i : Int)).f0 = (v : Int) ∧ (i : Int) ∈ rest) ∨ Shut S37.f3 d (rd_T37 l (i : Int))
  bnd : ∀ x ∈ q, x.1 ≤ (E.length : Int) * 1048576
  bv : rd d (v : Int) + 1048576 ≤ (E.length : Int) * 1048576
  cnt : q.length + rest.length ≤ outE l E
structure Fast (l : List S37) : Prop where
  len : l.length ≤ 200
  times : ∀ a ∈ l, a.f3 ≤ 1048576
theorem fastIn_ok {l : List S37} {s n : Nat} (hf : Fine l S37.f3 s n) (hF : Fast l) (hn : n ≤ 50) (E : List Int) (v : Nat) (key : Int) : ∀ (rest d : List Int) (q : List (Int × Int)), rd d (v : Int) = key → (∀ x ∈ rest, ∃ j : Nat, j < l.length ∧ (rd_T37 l (j : Int)).f0 = (v : Int) ∧ x = (j : Int)) → DIn l s n d q E v rest →
    ∃ d' q', fastIn l (((l.length + 1 : Nat)) : Int) key rest d q = some (d', q') ∧ DIn l s n d' q' E v [] ∧ q'.length ≤ q.length + rest.length
  | [], d, q, _, _, h => ⟨d, q, rfl, h, Nat.le_refl _⟩
  | x :: rest, d, q, hkey, hr, h => by
    obtain ⟨j, hj, hjv, rfl⟩ := hr x List.mem_cons_self
    have hr' : ∀ x ∈ rest, ∃ j : Nat, j < l.length ∧ (rd_T37 l (j : Int)).f0 = (v : Int) ∧ x = (j : Int) := fun x hx => hr x (List.mem_cons_of_mem _ hx)
    have hmem := rdT_mem hj
    obtain ⟨hw0, hw1, hw2⟩ := hf.arcs _ hmem
    have ht := hF.times _ hmem
    generalize hA : rd_T37 l (j : Int) = A at hjv hmem hw0 hw1 hw2 ht
    obtain ⟨w, hw⟩ : ∃ w : Nat, A.f1 = (w : Int) := ⟨A.f1.toNat, by omega⟩
    have hwn : w < n := by omega
    have hwl : w < d.length := by rw [h.len]; exact hwn
    have hEl : E.length ≤ n := nodup_ints h.edn (fun x hx => (h.exp x hx).1)
    have hbv := h.bv
    have hv0 := h.v0
    have hcnt := h.cnt
    have hle := outE_le l E
    have hLl := hF.len
    rw [List.length_cons] at hcnt
    have hwrap : wrap64 (key + A.f3) = key + A.f3 := wrapId (by omega) (by omega)
    obtain ⟨t, htt⟩ : ∃ t, key + A.f3 = t := ⟨_, rfl⟩
    unfold fastIn
    rw [hA, hw, if_pos ⟨by omega, by omega, by omega, by rw [h.len]; omega, by omega⟩, hwrap, htt]
    by_cases c : rd d (w : Int) < 0 ∨ t < rd d (w : Int)
    · rw [if_pos c, Int.toNat_natCast, if_neg (by omega)]
      have hwE : (w : Int) ∉ E := fun e => by have := h.exp _ e; omega
      have hwq : (t, (w : Int)) ∉ q := fun e => by have := h.ent _ e; simp only at this; omega
      have hst : ∀ u : Nat, rd (d.set w t) (u : Int) = if u = w then t else rd d (u : Int) := fun u => rd_set hwl u
      have hne : ∀ x : Int, 0 ≤ x → x ≠ (w : Int) → rd (d.set w t) x = rd d x := by
        intro x hx h0
        have e : x = ((x.toNat : Nat) : Int) := by omega
        rw [e, hst, if_neg (fun e2 => h0 (by omega))]
      have hnE : ∀ x ∈ E, rd (d.set w t) x = rd d x := fun x hx => hne x (h.exp x hx).1.1 (fun e => hwE (e ▸ hx))
      have hv' := hnE _ h.vE
      have hss : s ≠ w := fun e => by subst e; have := h.src; omega
      obtain ⟨d', q', h1, h2, h3⟩ := fastIn_ok hf hF hn E v key rest (d.set w t) (ins (t, (w : Int)) q) (by rw [hv']; exact hkey) hr' {
        len := by rw [List.length_set]; exact h.len
        src := by rw [hst, if_neg hss]; exact h.src
        sound := fun u hu => by
          rw [hst]
          by_cases e : u = w
          · rw [if_pos e, e]
            right
            have hwk := (h.sound v h.vr).elim (fun e => by omega) (fun e => e.2)
            have := Wk.step (l := l) (wt := S37.f3) A hwk hmem hjv
            rw [hw, hkey, htt] at this
            exact ⟨by omega, this⟩
          · rw [if_neg e]; exact h.sound u hu
        ent := fun y hy => by
          rcases ins_mem.1 hy with rfl | hy
          · simp only
            rw [hst, if_pos rfl]
            exact ⟨⟨by omega, by omega⟩, by omega, Int.le_refl _⟩
          · have g := h.ent y hy
            by_cases e : y.2 = (w : Int)
            · rw [e, hst, if_pos rfl]
              rw [e] at g
              exact ⟨by omega, by omega, by omega⟩
            · rw [hne y.2 g.1.1 e]; exact g
        nod := ins_nodup h.nod hwq
        sorted := ins_sorted _ _ h.sorted
        vr := h.vr
        v0 := by rw [hv']; exact h.v0
        low := fun y hy => by
          rw [hv']
          rcases ins_mem.1 hy with rfl | hy
          · simp only; omega
          · exact h.low y hy
        exp := fun u hu => by
          have g := h.exp u hu
          rw [hnE u hu, hv']
          refine ⟨g.1, g.2.1, g.2.2.1, fun y hy e => ?_⟩
          rcases ins_mem.1 hy with rfl | hy
          · simp only at e; exact absurd (e ▸ hu) hwE
          · exact g.2.2.2 y hy e
        edn := h.edn
        vE := h.vE
        pend := fun u hu h0 => by
          rw [hst] at h0 ⊢
          by_cases e : u = w
          · rw [if_pos e, e]; exact Or.inl (ins_mem.2 (Or.inl rfl))
          · rw [if_neg e] at h0 ⊢
            exact (h.pend u hu h0).imp (fun g => ins_mem.2 (Or.inr g)) id
        done := fun i hi h0 => by
          have hai := hf.arcs _ (rdT_mem hi)
          have hshut : Shut S37.f3 d (rd_T37 l (i : Int)) → Shut S37.f3 (d.set w t) (rd_T37 l (i : Int)) := by
            rintro ⟨g1, g2⟩
            unfold Shut
            rw [hnE _ h0]
            by_cases e : (rd_T37 l (i : Int)).f1 = (w : Int)
            · rw [e] at g1 g2
              rw [e, hst, if_pos rfl]
              exact ⟨by omega, by omega⟩
            · rw [hne _ hai.2.1.1 e]; exact ⟨g1, g2⟩
          rcases h.done i hi h0 with ⟨g1, g2⟩ | g
          · rcases List.mem_cons.1 g2 with g3 | g3
            · have : i = j := Int.ofNat_inj.1 g3
              subst this
              refine Or.inr ?_
              rw [hA]
              unfold Shut
              rw [hw, hst, if_pos rfl, hjv, hv', hkey]
              exact ⟨by omega, by omega⟩
            · exact Or.inl ⟨g1, g3⟩
          · exact Or.inr (hshut g)
        bnd := fun y hy => by
          rcases ins_mem.1 hy with rfl | hy
          · simp only; omega
          · exact h.bnd y hy
        bv := by rw [hv']; exact h.bv
        cnt := by rw [ins_length]; omega }
      exact ⟨d', q', h1, h2, by rw [ins_length] at h3; rw [List.length_cons]; omega⟩
    · rw [if_neg c]
      obtain ⟨d', q', h1, h2, h3⟩ := fastIn_ok hf hF hn E v key rest d q hkey hr' { h with
        cnt := by omega
        done := fun i hi h0 => by
          rcases h.done i hi h0 with ⟨g1, g2⟩ | g
          · rcases List.mem_cons.1 g2 with g3 | g3
            · have : i = j := Int.ofNat_inj.1 g3
              subst this
              refine Or.inr ?_
              rw [hA]
              unfold Shut
              rw [hw, hjv, hkey]
              exact ⟨by omega, by omega⟩
            · exact Or.inl ⟨g1, g3⟩
          · exact Or.inr g }
      exact ⟨d', q', h1, h2, by rw [List.length_cons]; omega⟩
structure DI (l : List S37) (s n : Nat) (d : List Int) (q : List (Int × Int)) (E : List Int) (m : Int) : Prop where
  len : d.length = n
  src : rd d (s : Int) = 0
  sound : ∀ u : Nat, u < n → rd d (u : Int) = -1 ∨ (0 ≤ rd d (u : Int) ∧ Wk l S37.f3 (s : Int) (rd d (u : Int)) (u : Int))
  ent : ∀ x ∈ q, (0 ≤ x.2 ∧ x.2 < (n : Int)) ∧ 0 ≤ rd d x.2 ∧ rd d x.2 ≤ x.1
  nod : q.Nodup
  sorted : Sorted2 q
  low : ∀ x ∈ q, m ≤ x.1
  exp : ∀ u ∈ E, (0 ≤ u ∧ u < (n : Int)) ∧ 0 ≤ rd d u ∧ rd d u ≤ m ∧ ∀ x ∈ q, x.2 = u → rd d u < x.1
  edn : E.Nodup
  pend : ∀ u : Nat, u < n → 0 ≤ rd d (u : Int) → (rd d (u : Int), (u : Int)) ∈ q ∨ (u : Int) ∈ E
  done : ∀ i : Nat, i < l.length → (rd_T37 l (i : Int)).f0 ∈ E → Shut S37.f3 d (rd_T37 l (i : Int))
  bnd : ∀ x ∈ q, x.1 ≤ (E.length : Int) * 1048576
  cnt : q.length ≤ 1 + outE l E
  mb : m ≤ (E.length : Int) * 1048576
theorem fastLoop_ok {l : List S37} {s n : Nat} (hf : Fine l S37.f3 s n) (hF : Fast l) (hn : n ≤ 50) : ∀ (M : Nat) (d : List Int) (q : List (Int × Int)) (E : List Int) (m : Int), DI l s n d q E m → q.length + (l.length - outE l E) ≤ M →
    ∃ r, Dist l S37.f3 (s : Int) n r ∧ (∀ u : Nat, u < n → rd r (u : Int) ≤ 52428800) ∧ ∀ k, M + 1 ≤ k → fastLoop l (rowsAt S37.f0 l n l.length) (((l.length + 1 : Nat)) : Int) k d q = some r := by
  intro M
  induction M with
  | zero =>
    intro d q E m h hM
    cases q with
    | nil =>
      refine ⟨d, dist_of hf h.len h.src h.sound (fun a ha h0 => ?_), fun u hu => ?_, fun k hk => ?_⟩
      · obtain ⟨j, hj, e⟩ := mem_rdT ha
        have hn0 := (hf.arcs a ha).1
        have := h.pend a.f0.toNat (by omega) (by rw [show ((a.f0.toNat : Nat) : Int) = a.f0 by omega]; exact h0)
        rw [show ((a.f0.toNat : Nat) : Int) = a.f0 by omega] at this
        have hE := this.elim (fun g => by cases g) id
        have g := h.done j hj (by rw [e]; exact hE)
        rw [e] at g
        exact g
      · have hEl := nodup_ints h.edn (fun x hx => (h.exp x hx).1)
        have hmb := h.mb
        rcases h.sound u hu with g | ⟨g, _⟩
        · omega
        · have hE := (h.pend u hu g).elim (fun g => by cases g) id
          have := (h.exp _ hE).2.2.1
          omega
      · obtain ⟨k, rfl⟩ : ∃ k', k = k' + 1 := ⟨k - 1, by omega⟩
        rfl
    | cons x q => simp at hM
  | succ M ih =>
    intro d q E m h hM
    cases q with
    | nil =>
      refine ⟨d, dist_of hf h.len h.src h.sound (fun a ha h0 => ?_), fun u hu => ?_, fun k hk => ?_⟩
      · obtain ⟨j, hj, e⟩ := mem_rdT ha
        have hn0 := (hf.arcs a ha).1
        have := h.pend a.f0.toNat (by omega) (by rw [show ((a.f0.toNat : Nat) : Int) = a.f0 by omega]; exact h0)
        rw [show ((a.f0.toNat : Nat) : Int) = a.f0 by omega] at this
        have hE := this.elim (fun g => by cases g) id
        have g := h.done j hj (by rw [e]; exact hE)
        rw [e] at g
        exact g
      · have hEl := nodup_ints h.edn (fun x hx => (h.exp x hx).1)
        have hmb := h.mb
        rcases h.sound u hu with g | ⟨g, _⟩
        · omega
        · have hE := (h.pend u hu g).elim (fun g => by cases g) id
          have := (h.exp _ hE).2.2.1
          omega
      · obtain ⟨k, rfl⟩ : ∃ k', k = k' + 1 := ⟨k - 1, by omega⟩
        rfl
    | cons x q =>
      obtain ⟨key, item⟩ := x
      have hx := h.ent _ List.mem_cons_self
      simp only at hx
      obtain ⟨v, rfl⟩ : ∃ v : Nat, item = (v : Int) := ⟨item.toNat, by omega⟩
      have hvn : v < n := by omega
      obtain ⟨hq1, hq2⟩ := List.nodup_cons.1 h.nod
      obtain ⟨hs1, hs2⟩ := List.pairwise_cons.1 h.sorted
      have hcnt := h.cnt
      have hLl := hF.len
      have hle := outE_le l E
      rw [List.length_cons] at hcnt hM
      have hlow : ∀ y ∈ q, key ≤ y.1 := fun y hy => by
        have g := hs1 y hy
        unfold plt at g
        simp only at g
        omega
      have hguard : 0 ≤ (v : Int) ∧ (v : Int) < ((rowsAt S37.f0 l n l.length).length : Int) ∧ (v : Int) < (d.length : Int) ∧ ((key, (v : Int)) :: q).length ≤ 65536 := ⟨by omega, by rw [rowsAt_length]; omega, by rw [h.len]; omega, by rw [List.length_cons]; omega⟩
      by_cases c : key > rd d (v : Int)
      · obtain ⟨r, h1, h2, h3⟩ := ih d q E key {
          len := h.len, src := h.src, sound := h.sound, ent := fun y hy => h.ent y (List.mem_cons_of_mem _ hy), nod := hq2, sorted := hs2, low := hlow
          exp := fun u hu => by
            have g := h.exp u hu
            have := h.low _ List.mem_cons_self
            simp only at this
            exact ⟨g.1, g.2.1, by omega, fun y hy => g.2.2.2 y (List.mem_cons_of_mem _ hy)⟩
          edn := h.edn
          pend := fun u hu h0 => by
            rcases h.pend u hu h0 with g | g
            · rcases List.mem_cons.1 g with g | g
              · injection g with g1 g2
                have : u = v := Int.ofNat_inj.1 g2
                subst this
                omega
              · exact Or.inl g
            · exact Or.inr g
          done := h.done, bnd := fun y hy => h.bnd y (List.mem_cons_of_mem _ hy), cnt := by omega, mb := by have := h.bnd _ List.mem_cons_self; simp only at this; exact this } (by omega)
        refine ⟨r, h1, h2, fun k hk => ?_⟩
        obtain ⟨k, rfl⟩ : ∃ k', k = k' + 1 := ⟨k - 1, by omega⟩
        unfold fastLoop
        rw [if_pos hguard, if_pos c]
        exact h3 k (by omega)
      · have hkey : rd d (v : Int) = key := by omega
        have hvE : (v : Int) ∉ E := fun e => by
          have g := (h.exp _ e).2.2.2 _ List.mem_cons_self rfl
          simp only at g
          omega
        have hout := outE_cons (l := l) hvE
        have hle2 := outE_le l ((v : Int) :: E)
        have hb := h.bnd _ List.mem_cons_self
        simp only at hb
        have hlm := h.low _ List.mem_cons_self
        simp only at hlm
        have hEl : (((v : Int) :: E).length : Int) = (E.length : Int) + 1 := by simp
        obtain ⟨d', q', h1, h2, h3⟩ := fastIn_ok hf hF hn ((v : Int) :: E) v key (placesAt S37.f0 l l.length (v : Int)) d q hkey (fun y hy => plc_mem.1 hy) {
          len := h.len, src := h.src, sound := h.sound, ent := fun y hy => h.ent y (List.mem_cons_of_mem _ hy), nod := hq2, sorted := hs2, vr := hvn, v0 := hx.2.1
          low := fun y hy => by rw [hkey]; exact hlow y hy
          exp := fun u hu => by
            rcases List.mem_cons.1 hu with rfl | hu
            · refine ⟨hx.1, hx.2.1, Int.le_refl _, fun y hy e => ?_⟩
              have g1 := hlow y hy
              rw [hkey]
              rcases Int.lt_or_le key y.1 with g | g
              · exact g
              · have : y = (key, (v : Int)) := Prod.ext (by simp only; omega) e
                exact absurd (this ▸ hy) hq1
            · have g := h.exp u hu
              exact ⟨g.1, g.2.1, by omega, fun y hy => g.2.2.2 y (List.mem_cons_of_mem _ hy)⟩
          edn := List.nodup_cons.2 ⟨hvE, h.edn⟩
          vE := List.mem_cons_self
          pend := fun u hu h0 => by
            rcases h.pend u hu h0 with g | g
            · rcases List.mem_cons.1 g with g | g
              · injection g with g1 g2
                exact Or.inr (by rw [g2]; exact List.mem_cons_self)
              · exact Or.inl g
            · exact Or.inr (List.mem_cons_of_mem _ g)
          done := fun i hi h0 => by
            rcases List.mem_cons.1 h0 with g | g
            · exact Or.inl ⟨g, plc_mem.2 ⟨i, hi, g, rfl⟩⟩
            · exact Or.inr (h.done i hi g)
          bnd := fun y hy => by have := h.bnd y (List.mem_cons_of_mem _ hy); omega
          bv := by omega
          cnt := by omega }
        obtain ⟨r, g1, g2, g3⟩ := ih d' q' ((v : Int) :: E) (rd d' (v : Int)) {
          len := h2.len, src := h2.src, sound := h2.sound, ent := h2.ent, nod := h2.nod, sorted := h2.sorted, low := h2.low, exp := h2.exp, edn := h2.edn, pend := h2.pend
          done := fun i hi h0 => (h2.done i hi h0).elim (fun g => by cases g.2) id
          bnd := h2.bnd
          cnt := by have := h2.cnt; simp only [List.length_nil] at this; omega
          mb := by have := h2.bv; omega } (by omega)
        refine ⟨r, g1, g2, fun k hk => ?_⟩
        obtain ⟨k, rfl⟩ : ∃ k', k = k' + 1 := ⟨k - 1, by omega⟩
        unfold fastLoop
        rw [if_pos hguard, if_neg c, rowsAt_rd _ _ _ _ _ (by omega) (by omega)]
        simp only
        rw [h1]
        exact g3 k (by omega)
end Go.Proofs.Ytgjgckpdilbbjaa.P
end
