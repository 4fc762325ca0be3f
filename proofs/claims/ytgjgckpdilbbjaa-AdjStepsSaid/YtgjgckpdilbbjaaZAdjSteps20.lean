/- A part of the proof: words, contracts, plain lemmas. Conditions: none. -/
import Derived.Test.YtgjgckpdilbbjaaZAdjSteps19
import Derived.Test.YtgjgckpdilbbjaaRows
import Derived.Test.YtgjgckpdilbbjaaZAdjSteps3
import Derived.Deep.Slices
import Derived.ProofKit
import Derived.Test.YtgjgckpdilbbjaaZAdjSteps17
import Derived.WalkKit
import Derived.OpenShut
import Derived.ShutString
import Derived.ChangeOld
import Derived.Below
import Derived.SizedLaws
section
namespace Go.Proofs.Ytgjgckpdilbbjaa.P
set_option linter.unusedSimpArgs false
set_option linter.unusedVariables false
open Go.RowKit Go.Proofs.Ytgjgckpdilbbjaa.Q Go.Proofs.YtgjgckpdilbbjaaW.PrintWords Go.Proofs.YtgjgckpdilbbjaaW.PrintLast Go.Proofs.YtgjgckpdilbbjaaW.PrintMore
theorem fast_dist {l : List S37} {s n : Nat} (hf : Fine l S37.f3 s n) (hF : Fast l) (hn : n ≤ 50) : ∃ r, Dist l S37.f3 (s : Int) n r ∧ (∀ u : Nat, u < n → rd r (u : Int) ≤ 52428800) ∧ Ev (fun k => fastLoop l (rowsAt S37.f0 l n l.length) (((l.length + 1 : Nat)) : Int) k ((List.replicate n (-1)).set s 0) [((0 : Int), (s : Int))]) r := by
  have hs := hf.src
  obtain ⟨r, h1, h2, h3⟩ := fastLoop_ok hf hF hn (1 + l.length) ((List.replicate n (-1)).set s 0) [((0 : Int), (s : Int))] [] 0 {
    len := by simp
    src := by rw [rd_first hs s hs, if_pos rfl]
    sound := fun u hu => by
      rw [rd_first hs u hu]
      by_cases e : u = s
      · subst e; rw [if_pos rfl]; exact Or.inr ⟨Int.le_refl _, Wk.zero⟩
      · rw [if_neg e]; exact Or.inl rfl
    ent := fun x hx => by rw [List.mem_singleton] at hx; subst hx; simp only; rw [rd_first hs s hs, if_pos rfl]; omega
    nod := List.nodup_cons.2 ⟨List.not_mem_nil, List.nodup_nil⟩
    sorted := List.pairwise_singleton _ _
    low := fun x hx => by rw [List.mem_singleton] at hx; subst hx; exact Int.le_refl _
    exp := fun u hu => by cases hu
    edn := List.nodup_nil
    pend := fun u hu h0 => by
      rw [rd_first hs u hu] at h0 ⊢
      by_cases e : u = s
      · subst e; rw [if_pos rfl]; exact Or.inl List.mem_cons_self
      · rw [if_neg e] at h0; exact absurd h0 (by decide)
    done := fun i hi h0 => by cases h0
    bnd := fun x hx => by rw [List.mem_singleton] at hx; subst hx; simp
    cnt := by simp
    mb := by simp } (by simp)
  exact ⟨r, h1, h2, ⟨_, h3⟩⟩
def right_ (D d : List Int) (n : Nat) : Nat := (List.range n).countP (fun (v : Nat) => decide (0 ≤ rd D (v : Int) ∧ rd d (v : Int) = rd D (v : Int)))
structure BF (l : List S37) (s n : Nat) (D d : List Int) (B : Int) : Prop where
  len : d.length = n
  src : rd d (s : Int) = 0
  over : ∀ v : Nat, v < n → rd d (v : Int) = -1 ∨ (0 ≤ rd D (v : Int) ∧ rd D (v : Int) ≤ rd d (v : Int))
  bnd : ∀ v : Nat, v < n → rd d (v : Int) ≤ B * 1048576
def Whole (D d : List Int) (n : Nat) : Prop := ∀ v : Nat, v < n → rd d (v : Int) = rd D (v : Int)
structure BM (l : List S37) (s n : Nat) (D d0 d : List Int) (i : Nat) (B : Int) : Prop where
  bf : BF l s n D d B
  keep : ∀ v : Nat, v < n → rd d0 (v : Int) = rd D (v : Int) → rd d (v : Int) = rd D (v : Int)
  did : ∀ j : Nat, j < i → rd d0 (rd_T37 l (j : Int)).f0 = rd D (rd_T37 l (j : Int)).f0 → 0 ≤ rd D (rd_T37 l (j : Int)).f0 → rd D (rd_T37 l (j : Int)).f1 = rd D (rd_T37 l (j : Int)).f0 + (rd_T37 l (j : Int)).f3 → rd d (rd_T37 l (j : Int)).f1 = rd D (rd_T37 l (j : Int)).f1
theorem right_grows {l : List S37} {s n : Nat} (hf : Fine l S37.f3 s n) {D d0 d : List Int} {B : Int} (hD : Dist l S37.f3 (s : Int) n D) (h0 : BF l s n D d0 B) (hM : BM l s n D d0 d l.length B) (k : Nat) (hk : Whole D d0 n ∨ k + 1 ≤ right_ D d0 n) : Whole D d n ∨ k + 1 + 1 ≤ right_ D d n := by
  by_cases c : Whole D d0 n
  · exact Or.inl (fun v hv => hM.keep v hv (c v hv))
  · right
    have hk := hk.elim (fun g => absurd g c) id
    obtain ⟨v, hv, hne⟩ : ∃ v : Nat, v < n ∧ rd d0 (v : Int) ≠ rd D (v : Int) := by
      refine Classical.byContradiction (fun g => c (fun v hv => Classical.byContradiction (fun e => g ⟨v, hv, e⟩)))
    have hDv : 0 ≤ rd D (v : Int) := by
      rcases hD.spec v hv with ⟨g1, _⟩ | ⟨g1, _⟩
      · rcases h0.over v hv with g | ⟨g, _⟩
        · exact absurd (g.trans g1.symm) hne
        · exact g
      · exact g1
    obtain ⟨a, ha, h1, h2, h3, h4⟩ := hD.leaves hf (fun x => rd d0 x = rd D x) (by rw [h0.src, hD.src hf]) (hD.get hv hDv) rfl hne
    obtain ⟨j, hj, ej⟩ := mem_rdT ha
    have hn := (hf.arcs a ha).2.1
    have hd := hM.did j hj (by rw [ej]; exact h1) (by rw [ej]; exact h3) (by rw [ej]; exact h4)
    rw [ej] at hd
    have e : a.f1 = ((a.f1.toNat : Nat) : Int) := by omega
    have hw := (hf.arcs a ha).2.2
    have : right_ D d0 n + 1 ≤ right_ D d n := by
      unfold right_
      refine countP_step (fun x hx g => ?_) ⟨a.f1.toNat, List.mem_range.2 (by omega), ?_, ?_⟩
      · simp only [decide_eq_true_eq] at g ⊢
        exact ⟨g.1, hM.keep x (List.mem_range.1 hx) g.2⟩
      · rw [← e]; simp only [decide_eq_true_eq]; exact ⟨by omega, hd⟩
      · rw [← e]; simp only [decide_eq_false_iff_not]; exact fun g => h2 g.2
    omega
theorem rfast_l2 {l : List S37} {s n : Nat} (hf : Fine l S37.f3 s n) (hF : Fast l) (hn : n ≤ 50) (b : Bool) {D d0 : List Int} (hD : Dist l S37.f3 (s : Int) n D) (k : Nat) (hk : k < n) (h0 : BF l s n D d0 (200 * k)) (hw : Whole D d0 n ∨ k + 1 ≤ right_ D d0 n) {R : List Int × Int}
    (next : ∀ d, BF l s n D d (200 * (k + 1 : Nat)) → (Whole D d n ∨ k + 1 + 1 ≤ right_ D d n) → Ev (fun f => ebbtideref06_Fastest.l1 f d ((k : Int) + 1) (n : Int) b l) R) (e : Nat) : ∀ i d, i + e = l.length → BM l s n D d0 d i (200 * k + i) → Ev (fun f => ebbtideref06_Fastest.l2 f d (k : Int) (i : Int) (n : Int) b l) R := by
  have hLl := hF.len
  induction e with
  | zero =>
    intro i d hi hM
    have hil : i = l.length := by omega
    subst hil
    have hup : BF l s n D d (200 * (k + 1 : Nat)) := ⟨hM.bf.len, hM.bf.src, hM.bf.over, fun v hv => by have := hM.bf.bnd v hv; push_cast; omega⟩
    have hM2 : BM l s n D d0 d l.length (200 * (k + 1 : Nat)) := ⟨hup, hM.keep, hM.did⟩
    refine Ev.step (fun f => ?_) (next d hup (right_grows hf hD ⟨h0.len, h0.src, h0.over, fun v hv => by have := h0.bnd v hv; push_cast; omega⟩ hM2 k hw))
    rw [ebbtideref06_Fastest.l2, if_neg (by omega), wrap1 (by omega)]; rfl
  | succ e ih =>
    intro i d hi hM
    have hi' : i < l.length := by omega
    have hmem := rdT_mem hi'
    obtain ⟨⟨a0, a1⟩, ⟨b0, b1⟩, c0⟩ := hf.arcs _ hmem
    have hti := hF.times _ hmem
    generalize hA : rd_T37 l (i : Int) = A at hmem a0 a1 b0 b1 c0 hti
    obtain ⟨u, hu⟩ : ∃ u : Nat, A.f0 = (u : Int) := ⟨A.f0.toNat, by omega⟩
    obtain ⟨w, hw2⟩ : ∃ w : Nat, A.f1 = (w : Int) := ⟨A.f1.toNat, by omega⟩
    have hun : u < n := by omega
    have hwn : w < n := by omega
    have hbu := hM.bf.bnd u hun
    have keep : (rd d0 (u : Int) = rd D (u : Int) → 0 ≤ rd D (u : Int) → rd D (w : Int) = rd D (u : Int) + A.f3 → rd d (w : Int) = rd D (w : Int)) → BM l s n D d0 d (i + 1) (200 * k + (i + 1 : Nat)) := fun h => ⟨⟨hM.bf.len, hM.bf.src, hM.bf.over, fun v hv => by have := hM.bf.bnd v hv; push_cast; omega⟩, hM.keep, fun j hj g1 g2 g3 => by
      by_cases c : j = i
      · subst c
        rw [hA, hu] at g1 g2
        rw [hA, hu, hw2] at g3
        rw [hA, hw2]
        exact h g1 g2 g3
      · exact hM.did j (by omega) g1 g2 g3⟩
    by_cases c1 : rd d (u : Int) ≥ 0
    · have hov := (hM.bf.over u hun).elim (fun g => by omega) id
      have hcl := hD.closed hf A hmem (by rw [hu]; exact hov.1)
      rw [hu, hw2] at hcl
      have hwrap : wrap64 (rd d (u : Int) + A.f3) = rd d (u : Int) + A.f3 := wrapId (by omega) (by omega)
      obtain ⟨t, ht⟩ : ∃ t, rd d (u : Int) + A.f3 = t := ⟨_, rfl⟩
      rw [ht] at hwrap
      by_cases c : rd d (w : Int) < 0 ∨ t < rd d (w : Int)
      · have hst : ∀ v : Nat, rd (d.set w t) (v : Int) = if v = w then t else rd d (v : Int) := fun v => rd_set (by rw [hM.bf.len]; exact hwn) v
        have hws : s ≠ w := fun e => by subst e; have := hM.bf.src; omega
        refine Ev.step (fun f => ?_) (ih (i + 1) (d.set w t) (by omega) ?_)
        · have hstep : ebbtideref06_Fastest.l2 (f + 1) d (k : Int) (i : Int) (n : Int) b l = (if rd d (w : Int) < 0 then ebbtideref06_Fastest.l2 f (d.set w t) (k : Int) (wrap64 ((i : Int) + 1)) (n : Int) b l else if t < rd d (w : Int) then ebbtideref06_Fastest.l2 f (d.set w t) (k : Int) (wrap64 ((i : Int) + 1)) (n : Int) b l else ebbtideref06_Fastest.l2 f d (k : Int) (wrap64 ((i : Int) + 1)) (n : Int) b l) := by
            rw [ebbtideref06_Fastest.l2, if_pos (by omega), if_pos (by omega), hA, hu, hw2, if_pos (by omega), if_pos (by rw [hM.bf.len]; omega), if_pos c1, if_pos (by omega), if_pos (by rw [hM.bf.len]; omega), ht, hwrap, Int.toNat_natCast]
          rw [hstep, wrap1 (by omega)]
          by_cases c2 : rd d (w : Int) < 0
          · rw [if_pos c2]
          · rw [if_neg c2, if_pos (c.elim (fun g => absurd g c2) id)]
        · refine ⟨⟨by rw [List.length_set]; exact hM.bf.len, by rw [hst, if_neg hws]; exact hM.bf.src, fun v hv => ?_, fun v hv => ?_⟩, fun v hv g => ?_, fun j hj g1 g2 g3 => ?_⟩
          · rw [hst]
            by_cases e : v = w
            · subst e; rw [if_pos rfl]; exact Or.inr ⟨hcl.1, by omega⟩
            · rw [if_neg e]; exact hM.bf.over v hv
          · rw [hst]
            have := hM.bf.bnd v hv
            split <;> (push_cast; omega)
          · have g2 := hM.keep v hv g
            rw [hst]
            by_cases e : v = w
            · subst e; omega
            · rw [if_neg e]; exact g2
          · have hnj : ∀ z : Int, 0 ≤ z → z < (n : Int) → rd d z = rd D z → rd (d.set w t) z = rd D z := by
              intro z z0 z1 hz
              rw [show z = ((z.toNat : Nat) : Int) by omega] at hz ⊢
              rw [hst]
              by_cases e : z.toNat = w
              · rw [if_pos e]; rw [e] at hz ⊢; omega
              · rw [if_neg e]; exact hz
            by_cases e : j = i
            · subst e
              rw [hA, hu] at g1 g2
              rw [hA, hu, hw2] at g3
              rw [hA, hw2, hst, if_pos rfl]
              have := hM.keep u hun g1
              omega
            · have hj2 := hf.arcs _ (rdT_mem (l := l) (i := j) (by omega))
              exact hnj _ hj2.2.1.1 hj2.2.1.2 (hM.did j (by omega) g1 g2 g3)
      · refine Ev.step (fun f => ?_) (ih (i + 1) d (by omega) (keep (fun g1 g2 g3 => ?_)))
        · rw [ebbtideref06_Fastest.l2, if_pos (by omega), if_pos (by omega), hA, hu, hw2, if_pos (by omega), if_pos (by rw [hM.bf.len]; omega), if_pos c1, if_pos (by omega), if_pos (by rw [hM.bf.len]; omega), ht, hwrap, if_neg (by omega), if_neg (by omega), wrap1 (by omega)]
        · have h1 := hM.keep u hun g1
          have h2 := (hM.bf.over w hwn).elim (fun g => by omega) id
          omega
    · refine Ev.step (fun f => ?_) (ih (i + 1) d (by omega) (keep (fun g1 g2 _ => ?_)))
      · rw [ebbtideref06_Fastest.l2, if_pos (by omega), if_pos (by omega), hA, hu, if_pos (by omega), if_pos (by rw [hM.bf.len]; omega), if_neg c1, wrap1 (by omega)]
      · have h1 := hM.keep u hun g1
        omega
theorem rfast_l1 {l : List S37} {s n : Nat} (hf : Fine l S37.f3 s n) (hF : Fast l) (hn : n ≤ 50) (b : Bool) {D : List Int} (hD : Dist l S37.f3 (s : Int) n D) (e : Nat) : ∀ k d, k + e = n → BF l s n D d (200 * k) → (Whole D d n ∨ k + 1 ≤ right_ D d n) → Ev (fun f => ebbtideref06_Fastest.l1 f d (k : Int) (n : Int) b l) (D, 0) := by
  induction e with
  | zero =>
    intro k d hk h hw
    have hW : Whole D d n := hw.elim id (fun g => by
      have : right_ D d n ≤ n := by
        have := List.countP_le_length (p := fun (v : Nat) => decide (0 ≤ rd D (v : Int) ∧ rd d (v : Int) = rd D (v : Int))) (l := List.range n)
        rw [List.length_range] at this
        exact this
      omega)
    have : d = D := rd_ext (by rw [h.len, hD.len]) (fun v hv => hW v (by rw [h.len] at hv; exact hv))
    subst this
    exact ev_cst fun f => by rw [ebbtideref06_Fastest.l1, if_neg (by omega)]
  | succ e ih =>
    intro k d hk h hw
    refine Ev.step (fun f => ?_) (rfast_l2 hf hF hn b hD k (by omega) h hw (fun d' h' w' => ih (k + 1) d' (by omega) h' w') l.length 0 d (by omega) ⟨⟨h.len, h.src, h.over, fun v hv => by have := h.bnd v hv; simpa using this⟩, fun _ _ g => g, fun j hj => absurd hj (Nat.not_lt_zero j)⟩)
    rw [ebbtideref06_Fastest.l1, if_pos (by omega)]; rfl
theorem rfast_l0 {l : List S37} {s n : Nat} (hf : Fine l S37.f3 s n) (hF : Fast l) (hn : n ≤ 50) (b : Bool) {D : List Int} (hD : Dist l S37.f3 (s : Int) n D) (e : Nat) : ∀ v : Nat, v + e = n → Ev (fun f => ebbtideref06_Fastest.l0 f (s : Int) (List.replicate v (-1)) (v : Int) (n : Int) b l) (D, 0) := by
  induction e with
  | zero =>
    intro v hv
    have hs := hf.src
    have e : v = n := by omega
    subst e
    have hsrc := hD.src hf
    refine Ev.step (fun f => ?_) (rfast_l1 hf hF hn b hD v 0 ((List.replicate v (-1)).set s 0) (by omega) ⟨by simp, by rw [rd_first hs s hs, if_pos rfl], fun u hu => ?_, fun u hu => ?_⟩ (Or.inr ?_))
    · rw [ebbtideref06_Fastest.l0, if_neg (by omega), if_pos (by omega), if_pos (by rw [List.length_replicate]; omega), Int.toNat_natCast]; rfl
    · rw [rd_first hs u hu]
      by_cases c : u = s
      · subst c; rw [if_pos rfl]; exact Or.inr ⟨by omega, by omega⟩
      · rw [if_neg c]; exact Or.inl rfl
    · rw [rd_first hs u hu]; split <;> simp
    · refine Nat.succ_le_of_lt (List.countP_pos_iff.2 ⟨s, List.mem_range.2 hs, ?_⟩)
      rw [rd_first hs s hs, if_pos rfl, hsrc]; decide
  | succ e ih =>
    intro v hv
    refine Ev.step (fun f => ?_) (ih (v + 1) (by omega))
    rw [ebbtideref06_Fastest.l0, if_pos (by omega), if_pos (by rw [List.length_replicate]; omega), wrap1 (by omega), List.replicate_succ']
theorem fine_time {n : Int} {l : List S37} {v : Int} (h : NetOk n l ∧ 0 ≤ v ∧ v < n) : Fine l S37.f3 v.toNat n.toNat := ⟨by omega, fun a ha => by
  have := h.1.arcs a ha
  have h0 := this.f0; have h1 := this.f1
  exact ⟨by omega, by omega, this.f3.1⟩⟩
theorem fast_both (n : Int) (b : Bool) (l : List S37) (v : Int) : ∃ r : List Int, r.length ≤ 50 ∧ (nodeErr n l v = 0 → Dist l S37.f3 v n.toNat r ∧ ∀ u : Nat, u < n.toNat → rd r (u : Int) ≤ 52428800) ∧ (nodeErr n l v ≠ 0 → r = []) ∧ Ev (fun k => adj_Fastest.f k n b l v) (r, nodeErr n l v) ∧ Ev (fun k => ebbtideref06_Fastest.f k n b l v) (r, nodeErr n l v) := by
  by_cases c : nodeErr n l v = 0
  · have hk := nodeErr_ok.1 c
    have hN := hk.1
    obtain ⟨h0, h1⟩ := hk.2
    have hf := fine_time hk
    have hF : Fast l := ⟨hN.len, fun a ha => (hN.arcs a ha).f3.2⟩
    have hnn : (n.toNat : Int) = n := by omega
    have hvv : (v.toNat : Int) = v := by omega
    have hhi := hN.hi
    have hlo := hN.lo
    have hll := hN.len
    obtain ⟨r, hr, hbd, he⟩ := fast_dist hf hF (by omega)
    rw [hvv] at hr
    rw [hvv] at he
    have hmost : wrap64 ((l.length : Int) + 1) = ((l.length + 1 : Nat) : Int) := wrap1 (by omega)
    refine ⟨r, by rw [hr.len]; omega, fun _ => ⟨hr, hbd⟩, fun h => absurd c h, ?_, ?_⟩
    · unfold adj_Fastest.f
      rw [c]
      refine Ev.bind (by have := asked_ev n b l v; rw [c] at this; exact this) ?_
      have hg : (1 ≤ n ∧ n ≤ 50 ∧ l.length ≤ 60000) ∧ 0 ≤ v ∧ v < n := ⟨⟨hlo, hhi, by omega⟩, h0, h1⟩
      simp only [if_true, if_pos hg]
      refine Ev.bind (leaving_ev b hN) (Ev.bind ?_ (Ev.now _))
      rw [hmost]
      exact he
    · unfold ebbtideref06_Fastest.f
      rw [c]
      refine Ev.bind (rcheck_ev n b l) ?_
      rw [checkErr_ok.2 hN]
      simp only [if_true]
      refine Ev.bind (node_ev n b l v) ?_
      rw [decide_eq_true (show 0 ≤ v ∧ v < n from ⟨h0, h1⟩)]
      simp only [if_true]
      have := rfast_l0 hf hF (by omega) b (D := r) (by rw [hvv]; exact hr) n.toNat 0 (by omega)
      rw [hnn, hvv] at this
      exact this
  · refine ⟨[], Nat.zero_le _, fun h => absurd h c, fun _ => rfl, ?_, ?_⟩
    · unfold adj_Fastest.f
      refine Ev.bind (asked_ev n b l v) ?_
      simp only [c, if_false]
      exact Ev.now _
    · unfold ebbtideref06_Fastest.f
      refine Ev.bind (rcheck_ev n b l) ?_
      unfold nodeErr at c ⊢
      by_cases c1 : checkErr n l = 0
      · simp only [c1, if_true] at c ⊢
        have hbad : ¬ (0 ≤ v ∧ v < n) := fun h => c (by rw [if_neg (by omega), if_neg (by omega)])
        have e1 : (if v < 0 then (1 : Int) else if v ≥ n then 1 else 0) = 1 := by
          by_cases c2 : v < 0
          · rw [if_pos c2]
          · rw [if_neg c2, if_pos (by omega)]
        rw [e1]
        refine Ev.bind (node_ev n b l v) ?_
        rw [decide_eq_false hbad]
        exact Ev.now _
      · simp only [c1, if_false]
        exact Ev.now _
end Go.Proofs.Ytgjgckpdilbbjaa.P
end
section
namespace Go.Proofs.Ytgjgckpdilbbjaa.R
open Go.RowKit Go.Proofs.Ytgjgckpdilbbjaa.Q Go.Proofs.YtgjgckpdilbbjaaW.PrintWords Go.Proofs.YtgjgckpdilbbjaaW.PrintLast Go.Proofs.YtgjgckpdilbbjaaW.PrintMore
open Go.ChangeShapes Go.WideShapes Go.Deep
def Reads (t : TypeId) {α : Type} (d : Kd α) (G : Nat → α → Prop) : Prop :=
  ∀ {H : Type} (enc : TypeId × Value → H) (w : World) (base : Nat) (spare : Nat → Bool) (held : Bool) (fuel : Nat) (cs : List Value) (x : DataW H × List MemPlace),
    DataW.trod enc Try.prog w base spare held fuel t cs = some x → ∃ a, d.K w a cs ∧ ∀ N, Rows.uptoBulk x.1 ≤ N → G N a
def gInt (k : IntKind) (_ : Nat) (n : Int) : Prop := (Lit.int k n).wf = true
def gTrue (_ : Nat) (_ : Bool) : Prop := True
def gList {α : Type} (G : Nat → α → Prop) (N : Nat) (l : List α) : Prop := l.length ≤ maxLen ∧ l.length ≤ N ∧ ∀ x ∈ l, G N x
theorem readsInt {t : TypeId} {k : IntKind} (ht : Try.prog.underlying t = some (.int k)) : Reads t (Kd.int k) (gInt k) := by
  intro H enc w base spare held fuel cs x h
  obtain ⟨n, rfl, rfl, hw⟩ := DataW.trod_int ht h
  exact ⟨n, rfl, fun _ _ => hw⟩
theorem readsBool {t : TypeId} (ht : Try.prog.underlying t = some .bool) : Reads t Kd.bool gTrue := by
  intro H enc w base spare held fuel cs x h
  obtain ⟨n, rfl, rfl⟩ := DataW.trod_bool ht h
  exact ⟨n, rfl, fun _ _ => trivial⟩
theorem one_le {H : Type} (d : DataW H) : 1 ≤ Rows.uptoBulk d := by
  cases d with
  | lit l => cases l <;> simp [Rows.uptoBulk]
  | nil => simp [Rows.uptoBulk]
  | ptr d => simp [Rows.uptoBulk]
  | slice elems spare => simp [Rows.uptoBulk]
  | agg parts => simp [Rows.uptoBulk]
  | iface t d => simp [Rows.uptoBulk]
  | map entries => simp [Rows.uptoBulk]
  | held h => simp [Rows.uptoBulk]
theorem part_le {H : Type} {d : DataW H} {l : List (DataW H)} (h : d ∈ l) : Rows.uptoBulk d ≤ Rows.uptoBulkAll l := by
  induction l with
  | nil => cases h
  | cons x r ih =>
    simp only [Rows.uptoBulkAll]
    cases List.mem_cons.1 h with
    | inl e => subst e; omega
    | inr e => have := ih e; omega
theorem length_le {H : Type} (l : List (DataW H)) : l.length ≤ Rows.uptoBulkAll l := by
  induction l with
  | nil => simp [Rows.uptoBulkAll]
  | cons x r ih => have := one_le x; simp only [Rows.uptoBulkAll, List.length_cons]; omega
theorem readsSlice {t e : TypeId} {α : Type} [Inhabited α] {d : Kd α} {G : Nat → α → Prop} (ht : Try.prog.underlying t = some (.slice e)) (hc : Try.prog.cellsOf e = d.sz) (R : Reads e d G) : Reads t (Kd.slice e d) (gList G) := by
  intro H enc w base spare held fuel cs x h
  rcases open_slice ht h with ⟨rfl, rfl⟩ | ⟨a, len, cap, m, n, D, Pl, rfl, hb, hl, hm, hmm, rfl, hx⟩
  · exact ⟨[], ⟨none, 0, rfl, Nat.le_refl _, Kd.C_nil d w⟩, fun N _ => ⟨Nat.zero_le _, Nat.zero_le _, fun x hx => by cases hx⟩⟩
  · have hlm : len ≤ m := by rw [hmm]; split <;> omega
    obtain ⟨f, hf⟩ := choose_lt (α := α) (n := m) (p := fun i y => ∃ c, c.length = d.sz ∧ d.K w y c ∧ (∀ j u, c[j]? = some u → w.cell? (a.add (i * d.sz + j)) = some u) ∧ ∀ N, Rows.uptoBulk (D i) ≤ N → G N y) (fun i hi => by
      obtain ⟨c, h1, h2⟩ := hx i hi
      obtain ⟨y, hK, hG⟩ := R enc w base spare held n c _ h2
      obtain ⟨_, hlen, hcell⟩ := World.cells?_some h1
      rw [hc] at hlen hcell
      refine ⟨y, c, hlen, hK, fun j u hu => ?_, hG⟩
      have hj : j < d.sz := by rw [← hlen]; exact (List.getElem?_eq_some_iff.1 hu).1
      have := hcell j hj
      rw [Deep.add_add] at this
      rw [this, hu])
    have hL : ((List.range len).map f).length = len := by simp
    refine ⟨(List.range len).map f, ⟨some a, cap, by rw [hL], by rw [hL]; exact hl, ?_⟩, fun N hN => ?_⟩
    · refine ⟨rfl, by rw [hL]; exact Nat.le_trans hl (Nat.le_trans hm (by decide)), fun _ => ⟨a, rfl, fun j p hj => ?_⟩⟩
      have hjl : j < len := by
        have := (List.getElem?_eq_some_iff.1 hj).1
        rwa [hL] at this
      have hp : f j = p := by
        rw [List.getElem?_map, List.getElem?_range hjl] at hj
        exact Option.some.inj hj
      obtain ⟨c, h1, h2, h3, _⟩ := hf j (by omega)
      rw [hp] at h2
      exact ⟨c, h1, h2, h3⟩
    · have hbulk : Rows.uptoBulkAll ((List.range len).map D) ≤ N := by
        simp only [Rows.uptoBulk] at hN
        omega
      refine ⟨by rw [hL]; omega, by rw [hL]; have := length_le ((List.range len).map D); simp at this; omega, fun y hy => ?_⟩
      obtain ⟨i, hi, rfl⟩ := List.mem_map.1 hy
      have hi' := List.mem_range.1 hi
      obtain ⟨c, _, _, _, hG⟩ := hf i (by omega)
      exact hG N (Nat.le_trans (part_le (List.mem_map.2 ⟨i, hi, rfl⟩)) hbulk)
instance : Inhabited S37 := ⟨z37⟩
def g37 (N : Nat) (x : S37) : Prop := gInt .i64 N x.f0 ∧ gInt .i64 N x.f1 ∧ gInt .i64 N x.f2 ∧ gInt .i64 N x.f3
set_option maxRecDepth 100000 in
theorem reads37 : Reads 37 k37 g37 := by
  intro H enc w base spare held fuel cs x h
  obtain ⟨xs, n, _, hx, hl, hlen, hf⟩ := DataW.trod_struct Try.underlying37 h
  have hl2 : cs.length = 4 := hl.trans (by kernel_rfl)
  have hlen2 : xs.length = 4 := hlen
  match xs, hlen2, cs, hl2 with
  | [y0, y1, y2, y3], _, [v0, v1, v2, v3], _ =>
    have c0 : Try.prog.cellsOf 3 = 1 := by kernel_rfl
    have e0 : DataW.trod enc Try.prog w base spare held n 3 (List.take (Try.prog.cellsOf 3) (List.drop 0 [v0, v1, v2, v3])) = some y0 := hf 0 _ rfl
    rw [c0] at e0
    obtain ⟨a0, K0, G0⟩ := (readsInt Try.underlying3) enc w base spare held n [v0] y0 e0
    have c1 : Try.prog.cellsOf 3 = 1 := by kernel_rfl
    have e1 : DataW.trod enc Try.prog w base spare held n 3 (List.take (Try.prog.cellsOf 3) (List.drop 1 [v0, v1, v2, v3])) = some y1 := hf 1 _ rfl
    rw [c1] at e1
    obtain ⟨a1, K1, G1⟩ := (readsInt Try.underlying3) enc w base spare held n [v1] y1 e1
    have c2 : Try.prog.cellsOf 3 = 1 := by kernel_rfl
    have e2 : DataW.trod enc Try.prog w base spare held n 3 (List.take (Try.prog.cellsOf 3) (List.drop 2 [v0, v1, v2, v3])) = some y2 := hf 2 _ rfl
    rw [c2] at e2
    obtain ⟨a2, K2, G2⟩ := (readsInt Try.underlying3) enc w base spare held n [v2] y2 e2
    have c3 : Try.prog.cellsOf 3 = 1 := by kernel_rfl
    have e3 : DataW.trod enc Try.prog w base spare held n 3 (List.take (Try.prog.cellsOf 3) (List.drop 3 [v0, v1, v2, v3])) = some y3 := hf 3 _ rfl
    rw [c3] at e3
    obtain ⟨a3, K3, G3⟩ := (readsInt Try.underlying3) enc w base spare held n [v3] y3 e3
    refine ⟨⟨a0, a1, a2, a3⟩, ⟨_, _, rfl, K0, ⟨_, _, rfl, K1, ⟨_, _, rfl, K2, K3⟩⟩⟩, fun N hN => ?_⟩
    rw [hx] at hN
    simp only [List.map_cons, List.map_nil, Rows.uptoBulk, Rows.uptoBulkAll] at hN
    exact ⟨G0 N (by omega), G1 N (by omega), G2 N (by omega), G3 N (by omega)⟩
structure S24 where
  f0 : Int
  f1 : Bool
  f2 : List S37
def z24 : S24 := ⟨(0 : Int), false, []⟩
def k24 : Kd S24 := Kd.iso (Kd.pair (Kd.int .i64) (Kd.pair Kd.bool (Kd.slice 37 k37))) (fun x : S24 => (x.f0, x.f1, x.f2))
instance : Inhabited S24 := ⟨z24⟩
def g24 (N : Nat) (x : S24) : Prop := gInt .i64 N x.f0 ∧ gTrue N x.f1 ∧ gList (g37) N x.f2
set_option maxRecDepth 100000 in
theorem reads24 : Reads 24 k24 g24 := by
  intro H enc w base spare held fuel cs x h
  obtain ⟨xs, n, _, hx, hl, hlen, hf⟩ := DataW.trod_struct Try.underlying24 h
  have hl2 : cs.length = 3 := hl.trans (by kernel_rfl)
  have hlen2 : xs.length = 3 := hlen
  match xs, hlen2, cs, hl2 with
  | [y0, y1, y2], _, [v0, v1, v2], _ =>
    have c0 : Try.prog.cellsOf 3 = 1 := by kernel_rfl
    have e0 : DataW.trod enc Try.prog w base spare held n 3 (List.take (Try.prog.cellsOf 3) (List.drop 0 [v0, v1, v2])) = some y0 := hf 0 _ rfl
    rw [c0] at e0
    obtain ⟨a0, K0, G0⟩ := (readsInt Try.underlying3) enc w base spare held n [v0] y0 e0
    have c1 : Try.prog.cellsOf 4 = 1 := by kernel_rfl
    have e1 : DataW.trod enc Try.prog w base spare held n 4 (List.take (Try.prog.cellsOf 4) (List.drop 1 [v0, v1, v2])) = some y1 := hf 1 _ rfl
    rw [c1] at e1
    obtain ⟨a1, K1, G1⟩ := (readsBool Try.underlying4) enc w base spare held n [v1] y1 e1
    have c2 : Try.prog.cellsOf 22 = 1 := by kernel_rfl
    have e2 : DataW.trod enc Try.prog w base spare held n 22 (List.take (Try.prog.cellsOf 22) (List.drop 2 [v0, v1, v2])) = some y2 := hf 2 _ rfl
    rw [c2] at e2
    obtain ⟨a2, K2, G2⟩ := (readsSlice Try.underlying22 (by kernel_rfl) reads37) enc w base spare held n [v2] y2 e2
    refine ⟨⟨a0, a1, a2⟩, ⟨_, _, rfl, K0, ⟨_, _, rfl, K1, K2⟩⟩, fun N hN => ?_⟩
    rw [hx] at hN
    simp only [List.map_cons, List.map_nil, Rows.uptoBulk, Rows.uptoBulkAll] at hN
    exact ⟨G0 N (by omega), G1 N (by omega), G2 N (by omega)⟩
end Go.Proofs.Ytgjgckpdilbbjaa.R
end
section
namespace Go.Proofs.Ytgjgckpdilbbjaa.R
open Go.RowKit Go.Proofs.Ytgjgckpdilbbjaa.Q Go.Proofs.YtgjgckpdilbbjaaW.PrintWords Go.Proofs.YtgjgckpdilbbjaaW.PrintLast Go.Proofs.YtgjgckpdilbbjaaW.PrintMore
def AdjSteps.Pure : Prop := ∀ N0 : Nat, ∀ N1 : Nat, ∀ (x0 : S24) (x1 : Int), g24 N0 x0 → gInt .i64 N1 x1 → ∃ k, ebbtidelaw06_AdjSteps.f k x0.f0 x0.f1 x0.f2 x1 = some true
end Go.Proofs.Ytgjgckpdilbbjaa.R
end
section
namespace Go.Proofs.Ytgjgckpdilbbjaa.Pure
set_option linter.unusedSimpArgs false
set_option linter.unusedVariables false
open Go.RowKit Go.Proofs.Ytgjgckpdilbbjaa.Q Go.Proofs.Ytgjgckpdilbbjaa.P Go.Proofs.YtgjgckpdilbbjaaW.PrintWords Go.Proofs.YtgjgckpdilbbjaaW.PrintLast Go.Proofs.YtgjgckpdilbbjaaW.PrintMore
open Go.Proofs.Ytgjgckpdilbbjaa.R
theorem walk_other {l : List S37} {wt wt' : S37 → Int} {s c v : Int} (h : Wk l wt s c v) : ∃ c', Wk l wt' s c' v := by
  induction h with
  | zero => exact ⟨0, Wk.zero⟩
  | step a _ ha e ih => obtain ⟨c', ih⟩ := ih; exact ⟨_, Wk.step a ih ha e⟩
theorem reach_same {l : List S37} {wt wt' : S37 → Int} {s n : Nat} (hf : Fine l wt s n) (hf' : Fine l wt' s n) {d t : List Int} (hd : Dist l wt (s : Int) n d) (ht : Dist l wt' (s : Int) n t) {u : Nat} (hu : u < n) (h : 0 ≤ rd d (u : Int)) : 0 ≤ rd t (u : Int) := by
  obtain ⟨c', hc⟩ := walk_other (wt' := wt') (hd.get hu h)
  exact (ht.val hf' hc).1
theorem any_at {l : List S37} {p : S37 → Bool} {a : S37} (ha : a ∈ l) (hp : p a = true) : (List.range l.length).any (fun (j : Nat) => p (rd_T37 l (j : Int))) = true := by
  obtain ⟨j, hj, e⟩ := mem_rdT ha
  exact List.any_eq_true.2 ⟨j, List.mem_range.2 hj, by rw [e]; exact hp⟩
theorem steps_fine {l : List S37} {s n : Nat} {d t : List Int} (hn : n ≤ 50) (hl : l.length ≤ 200) (h3 : ∀ a ∈ l, a.f3 ≤ 1048576) (hf : Fine l one1 s n) (hf' : Fine l S37.f3 s n) (hd : Dist l one1 (s : Int) n d) (ht : Dist l S37.f3 (s : Int) n t) (hb : ∀ u : Nat, u < n → rd t (u : Int) ≤ 52428800) : stepsOk (n : Int) l (s : Int) d t := by
  have hs := hf.src
  refine ⟨⟨by rw [hd.len], by rw [ht.len], by omega, hl, by omega, by omega, hd.src hf, ht.src hf'⟩, fun i hi => ?_, fun u hu => ?_⟩
  · have hm := rdT_mem hi
    obtain ⟨⟨a0, a1⟩, ⟨b0, b1⟩, _⟩ := hf.arcs _ hm
    have h3m := h3 _ hm
    have h3p := (hf'.arcs _ hm).2.2
    generalize rd_T37 l (i : Int) = A at hm a0 a1 b0 b1 h3m h3p
    refine ⟨⟨a0, by rw [hd.len]; exact a1, b0, by rw [hd.len]; exact b1⟩, fun h0 => ?_⟩
    have e0 : A.f0 = ((A.f0.toNat : Nat) : Int) := by omega
    have c1 := hd.closed hf A hm h0
    have h0t : 0 ≤ rd t A.f0 := by
      rw [e0] at h0 ⊢
      exact reach_same hf hf' hd ht (by omega) h0
    have c2 := ht.closed hf' A hm h0t
    have hfar := far_none hf hd A.f0.toNat (by omega)
    rw [← e0] at hfar
    have hbt := hb A.f0.toNat (by omega)
    rw [← e0] at hbt
    have w1 : wrap64 (rd d A.f0 + 1) = rd d A.f0 + 1 := wrapId (by omega) (by omega)
    have w2 : wrap64 (rd t A.f0 + A.f3) = rd t A.f0 + A.f3 := wrapId (by omega) (by omega)
    have o1 : one1 A = 1 := rfl
    rw [w1, w2]
    refine ⟨by omega, by omega, by omega, by omega⟩
  · rw [hd.len] at hu
    have hiff : rd d (u : Int) < 0 ↔ rd t (u : Int) < 0 := by
      constructor
      · intro g
        rcases Int.lt_or_le (rd t (u : Int)) 0 with c | c
        · exact c
        · have := reach_same hf' hf ht hd hu c; omega
      · intro g
        rcases Int.lt_or_le (rd d (u : Int)) 0 with c | c
        · exact c
        · have := reach_same hf hf' hd ht hu c; omega
    refine ⟨hiff, ?_, ?_⟩
    · unfold hopAt
      by_cases c : (u : Int) = (s : Int) ∨ rd d (u : Int) < 0
      · have : (decide ((u : Int) = (s : Int)) || decide (rd d (u : Int) < 0)) = true := by
          rcases c with c | c
          · rw [decide_eq_true c]; rfl
          · rw [decide_eq_true c]; exact Bool.or_true _
        rw [this]; rfl
      · have hne : u ≠ s := fun e => c (Or.inl (by rw [e]))
        obtain ⟨a, ha, g1, g2, g3⟩ := hd.tight hf hu (by omega) hne
        have o1 : one1 a = 1 := rfl
        have hfar := far_none hf hd u hu
        have w1 : wrap64 (rd d a.f0 + 1) = rd d a.f0 + 1 := wrapId (by omega) (by omega)
        have : hopBy d (u : Int) a = true := by
          unfold hopBy
          rw [decide_eq_true g1, decide_eq_true (show rd d a.f0 ≥ 0 from g2), w1, decide_eq_true (by omega)]
          rfl
        rw [any_at (p := hopBy d (u : Int)) ha this]
        exact Bool.or_true _
    · unfold timeAt
      by_cases c : (u : Int) = (s : Int) ∨ rd d (u : Int) < 0
      · have : (decide ((u : Int) = (s : Int)) || decide (rd d (u : Int) < 0)) = true := by
          rcases c with c | c
          · rw [decide_eq_true c]; rfl
          · rw [decide_eq_true c]; exact Bool.or_true _
        rw [this]; rfl
      · have hne : u ≠ s := fun e => c (Or.inl (by rw [e]))
        obtain ⟨a, ha, g1, g2, g3⟩ := ht.tight hf' hu (by omega) hne
        have hbt := hb u hu
        have hw := (hf'.arcs a ha).2.2
        have w1 : wrap64 (rd t a.f0 + a.f3) = rd t a.f0 + a.f3 := wrapId (by omega) (by omega)
        have : timeBy t (u : Int) a = true := by
          unfold timeBy
          rw [decide_eq_true g1, decide_eq_true (show rd t a.f0 ≥ 0 from g2), w1, decide_eq_true (by omega)]
          rfl
        rw [any_at (p := timeBy t (u : Int)) ha this]
        exact Bool.or_true _
theorem AdjSteps : AdjSteps.Pure := by
  intro N0 N1 x0 v _ _
  obtain ⟨n, b, l⟩ := x0
  apply Ev.rounds
  show Ev (fun k => ebbtidelaw06_AdjSteps.f k n b l v) true
  obtain ⟨d, _, h1, h2, h3, _⟩ := hops_both n b l v
  obtain ⟨t, _, g1, g2, g3, _⟩ := fast_both n b l v
  unfold ebbtidelaw06_AdjSteps.f
  refine Ev.bind awake06_ev (Ev.bind h3 (Ev.bind g3 ?_))
  have hend : endOk n l v (d, nodeErr n l v) (t, nodeErr n l v) := by
    by_cases c : nodeErr n l v = 0
    · have hk := nodeErr_ok.1 c
      have hN := hk.1
      have hlo := hN.lo
      have hhi := hN.hi
      obtain ⟨v0, v1⟩ := hk.2
      have hnn : (n.toNat : Int) = n := by omega
      have hvv : (v.toNat : Int) = v := by omega
      have := steps_fine (s := v.toNat) (n := n.toNat) (d := d) (t := t) (by omega) hN.len (fun a ha => (hN.arcs a ha).f3.2) (fine_one hk) (fine_time hk) (by rw [hvv]; exact h1 c) (by rw [hvv]; exact (g1 c).1) (g1 c).2
      rw [hnn, hvv] at this
      exact Or.inl ⟨c, c, this⟩
    · exact Or.inr ⟨c, rfl, h2 c, g2 c⟩
  refine Ev.congr (fun k => if_pos ⟨rfl, hend⟩) (Ev.now _)
end Go.Proofs.Ytgjgckpdilbbjaa.Pure
end
section
namespace Go.Proofs.Ytgjgckpdilbbjaa
open Go Go.RowKit
def ioHead : List Char := List.map Char.ofNat [104, 97, 114, 110, 101, 115, 115, 32, 50, 102, 54, 100, 99, 57, 98, 50, 54, 49, 49, 51, 56, 102, 56, 55, 99, 56, 48, 102, 57, 52, 51, 56, 102, 55, 97, 101, 98, 97, 101, 57, 54, 52, 48, 99, 51, 57, 98, 98, 100, 54, 53, 49, 48, 53, 54, 97, 56, 54, 99, 56, 52, 98, 54, 53, 53, 56, 53, 52, 100, 53, 51, 100, 32, 99, 117, 116, 32]
def ioRest : List Char := List.map Char.ofNat [97, 116, 32, 101, 98, 98, 116, 105, 100, 101, 47, 101, 98, 98, 116, 105, 100, 101, 108, 97, 119, 48, 54, 46, 65, 100, 106, 72, 111, 112, 115, 32, 101, 98, 98, 116, 105, 100, 101, 47, 101, 98, 98, 116, 105, 100, 101, 108, 97, 119, 48, 54, 46, 65, 100, 106, 79, 114, 100, 101, 114, 115, 32, 101, 98, 98, 116, 105, 100, 101, 47, 101, 98, 98, 116, 105, 100, 101, 108, 97, 119, 48, 54, 46, 65, 100, 106, 70, 97, 115, 116, 101, 115, 116, 32, 101, 98, 98, 116, 105, 100, 101, 47, 101, 98, 98, 116, 105, 100, 101, 108, 97, 119, 48, 54, 46, 65, 100, 106, 83, 116, 101, 112, 115, 32, 101, 98, 98, 116, 105, 100, 101, 47, 101, 98, 98, 116, 105, 100, 101, 108, 97, 119, 48, 54, 46, 65, 100, 106, 70, 111, 114, 119, 97, 114, 100, 32, 101, 98, 98, 116, 105, 100, 101, 47, 101, 98, 98, 116, 105, 100, 101, 108, 97, 119, 48, 54, 46, 65, 100, 106, 76, 105, 115, 116, 115, 32, 101, 98, 98, 116, 105, 100, 101, 47, 101, 98, 98, 116, 105, 100, 101, 108, 97, 119, 48, 54, 46, 65, 100, 106, 79, 110, 99, 101]
set_option maxRecDepth 100000 in
theorem io_eq : Try.pinned.checked.prog.initOrder = String.ofList (ioHead ++ ioRest) := by kernel_rfl
theorem io_toList : Try.pinned.checked.prog.initOrder.toList = ioHead ++ ioRest := by rw [io_eq]; exact String.toList_ofList
def ioCut : List Char := List.map Char.ofNat [99, 117, 116]
set_option maxRecDepth 100000 in
theorem io_words (r : List Char) : behindMainWord (wordsSigns (ioHead ++ r)) = ioCut :: wordsSigns r := by kernel_rfl
theorem io_behind : ∃ X, behindMainWord (wordsSigns Try.pinned.checked.prog.initOrder.toList) = ioCut :: X := ⟨_, by rw [io_toList]; exact io_words _⟩
theorem io_cut : ioCut = "cut".toList := by decide +kernel
theorem io_strip (X : List (List Char)) : stripLifts liftWords (ioCut :: X) = ([], ioCut :: X) := by kernel_rfl
theorem headLifts_cut (P : Program) (h : ∃ X, behindMainWord (wordsSigns P.initOrder.toList) = ioCut :: X) : P.headLifts = [] := by
  obtain ⟨X, e⟩ := h
  unfold Program.headLifts
  rw [e, io_strip]
  rfl
theorem mayEnter_cut (P : Program) (h : ∃ X, behindMainWord (wordsSigns P.initOrder.toList) = ioCut :: X) (h1 : P.laysLater = false) (h2 : P.bearsReflect = false) (h3 : P.doorFits [] = true) : P.mayEnter = true := by
  obtain ⟨X, e⟩ := h
  unfold Program.mayEnter
  rw [e]
  simp only [io_strip, h1, h2, h3]
  rw [io_cut]
  simp
theorem liftsFinal_cut (P : Program) (h : ∃ X, behindMainWord (wordsSigns P.initOrder.toList) = ioCut :: X) : P.liftsFinal = false := by
  have h0 := headLifts_cut P h
  obtain ⟨X, e⟩ := h
  unfold Program.liftsFinal
  rw [e, h0]
  rw [io_cut]
  simp
theorem make_cut (P : Program) (h : ∃ X, behindMainWord (wordsSigns P.initOrder.toList) = ioCut :: X) : P.make = some .cut := by
  obtain ⟨X, e⟩ := h
  unfold Program.make
  rw [e]
  simp only [io_cut]
  rw [if_neg (by decide +kernel), if_pos (by simp)]
theorem p_mayEnter : Try.pinned.checked.prog.mayEnter = true := mayEnter_cut _ io_behind (by kernel_rfl) (by kernel_rfl) (by kernel_rfl)
theorem p_liftsFinal : Try.pinned.checked.prog.liftsFinal = false := liftsFinal_cut _ io_behind
theorem p_make : Try.pinned.checked.prog.make = some .cut := make_cut _ io_behind
theorem p_laidOut : laidOutB Try.pinned.checked.prog = true := by kernel_rfl
theorem p_mapsRowed : mapsRowed Try.pinned.checked.prog = true := by kernel_rfl
theorem p_stopsHeard : Try.pinned.checked.prog.stopsHeard = true := by kernel_rfl
theorem p_stops : Try.pinned.checked.prog.stops = [] := by kernel_rfl
theorem p_stopKnobs : Try.pinned.checked.prog.stopKnobs = [] := by kernel_rfl
end Go.Proofs.Ytgjgckpdilbbjaa
end
section
namespace Go.Proofs.Ytgjgckpdilbbjaa.adjSteps
open Go.ChangeShapes Go.WideShapes Go.ChangeAt Go.RowKit
open Go.ChangeMaps (open_string shut_string)
open Go.Proofs.Ytgjgckpdilbbjaa.Q Go.Proofs.Ytgjgckpdilbbjaa.R Go.Proofs.YtgjgckpdilbbjaaW.PrintWords
set_option linter.unusedVariables false
theorem own : ownKnob Try.prog.godebug = none := by kernel_rfl
theorem laidOut : laidOutB Try.prog = true := by kernel_rfl
theorem open24 {w : World} {x : S24} {cs : List Value} (h : k24.K w x cs) : ∃ (A2 : Option Addr) (c2 : Nat), cs = [.int .i64 x.f0, .bool x.f1, .slice A2 x.f2.length c2] ∧ x.f2.length ≤ c2 ∧ Kd.C k37 w A2 x.f2.length x.f2 := by
  obtain ⟨_, _, rfl, rfl, ⟨_, _, rfl, rfl, ⟨A2, c2, rfl, l2, g2⟩⟩⟩ := h
  exact ⟨A2, c2, rfl, l2, g2⟩
set_option maxRecDepth 100000 in
theorem lifted (os : Os) (started : os.Started) (H : Type) (enc : TypeId × Value → H) :
    ReturnsInHanded {} Try.checked os 6 .any (Rows.adjStepsSpec.pre6 enc Try.prog Try.f6 Rows.adjStepsRow.domain false) (Rows.adjStepsSpec.post enc Try.prog Try.f6 false true false false) := by
  refine returnsInHanded_of_change_sized (C := Try.checked) own started (by kernel_rfl) Try.func6
    (ChangeSpec.witness6 (enc := enc) (C := Try.checked) false ⟨#[], #[.agg #[.int .i64 0, .bool false, .slice none 0 0], .int .i64 0], []⟩ 8 (by kernel_rfl) (by kernel_rfl) (by kernel_rfl) (by kernel_rfl)) ?_
  intro W base args ds gs before hval0 hW hcnd hsz0 _
  have hval : ∀ (j : Nat) t v, Try.f6.params[j]? = some t → args[j]? = some v → Value.okWide Try.prog W .any base t v := hval0
  have hW' := hW
  obtain ⟨p, q, hA0, hV, rfl, hfz, hnd⟩ := hW
  have hA : DataW.TrodAll enc Try.prog W 0 (fun _ => true) true Try.f6.params.toList args.toList ds p := hA0
  rw [Try.params6] at hA hval
  obtain ⟨v0, vs0, d0, ds0, p0, q0, hargs, rfl, rfl, h0, r0⟩ := trodAll_cons hA
  obtain ⟨v1, vs1, d1, ds1, p1, q1, rfl, rfl, rfl, h1, r1⟩ := trodAll_cons r0
  obtain ⟨rfl, rfl, rfl⟩ := trodAll_nil r1
  obtain rfl : args = #[v0, v1] := by cases args; simp_all
  obtain ⟨rfl, rfl⟩ := trodVars_none hV
  have k0 := h0
  have lt0 : ∀ x ∈ p0, x.block < W.heap.size := by obtain ⟨m, hm⟩ := k0; exact DataW.trod_lt m _ _ _ hm
  obtain ⟨fu0, hf0⟩ := h0
  obtain ⟨x0, K0, G0⟩ := reads24 enc W 0 (fun _ => true) true fu0 _ _ hf0
  obtain ⟨cs0, rfl, hsz0⟩ := okWide_struct Try.underlying24 (hval 0 24 v0 rfl rfl)
  have K0' : (k24).K W x0 cs0.toList := K0
  obtain ⟨ao0_2, co0_2, es0, hc0_2, hr0_2⟩ := open24 K0'
  obtain rfl : cs0 = _ := Array.toList_inj.1 es0
  have k1 := h1
  have lt1 : ∀ x ∈ p1, x.block < W.heap.size := by obtain ⟨m, hm⟩ := k1; exact DataW.trod_lt m _ _ _ hm
  obtain ⟨fu1, hf1⟩ := h1
  obtain ⟨x1, K1, G1⟩ := (readsInt Try.underlying3) enc W 0 (fun _ => true) true fu1 _ _ hf1
  obtain ⟨z1, rfl⟩ := okWide_int Try.underlying3 (hval 1 3 v1 rfl rfl)
  obtain rfl : x1 = z1 := Eq.symm (by simpa [Value.cells, Kd.int, Kd.scalar] using K1)
  have h := Pure.AdjSteps _ _ x0 x1 (G0 _ (Nat.le_refl _)) (G1 _ (Nat.le_refl _))
  obtain ⟨k, h⟩ := h
  refine (ebbtidelaw06_AdjSteps.calls k x0.f0 x0.f1 _ _ x0.f2 x1 true W hr0_2 hc0_2 h).mono fun e W' ⟨he, bel0⟩ => ?_
  have bel : Below W.heap.size W W' := bel0
  subst he
  exact ⟨_, rfl, _, _, _, [], _, [], hW', trodAll_mk1 (shut_bool Try.underlying4 _), (trodAll_cons_mk (Below.trod laidOut (by kernel_rfl) (of_decide_eq_true (by kernel_rfl)) k0 bel lt0) (trodAll_cons_mk (Below.trod laidOut (by kernel_rfl) (of_decide_eq_true (by kernel_rfl)) k1 bel lt1) trodAll_mk0)), rfl, bel.frame _, fun h => by cases h⟩
theorem andI {a b : Bool} (x : a = true) (y : b = true) : (a && b) = true := by rw [x, y]; rfl
set_option maxRecDepth 100000 in
set_option maxHeartbeats 8000000 in
theorem closed : joinedFacts Try.pinned.checked.prog 6 Try.f6 Rows.adjStepsSpec Rows.adjStepsRow = true := by
  unfold joinedFacts
  exact (andI (andI (andI (andI (andI (andI (andI (andI (andI (andI (andI (andI (andI (andI (andI (andI (andI (andI (andI (andI (andI (andI (andI (andI (andI (andI (andI (andI (andI (andI (andI (by as_aux_lemma => kernel_rfl)
    p_laidOut)
    p_mapsRowed)
    (by as_aux_lemma => kernel_rfl))
    (by as_aux_lemma => kernel_rfl))
    (by as_aux_lemma => kernel_rfl))
    (by rw [p_stops]; rfl))
    (by as_aux_lemma => kernel_rfl))
    (by rw [p_stopKnobs]; rfl))
    (by as_aux_lemma => kernel_rfl))
    (by as_aux_lemma => kernel_rfl))
    (by as_aux_lemma => kernel_rfl))
    (by as_aux_lemma => kernel_rfl))
    (by as_aux_lemma => kernel_rfl))
    (by as_aux_lemma => kernel_rfl))
    (by as_aux_lemma => kernel_rfl))
    (by as_aux_lemma => kernel_rfl))
    (by as_aux_lemma => kernel_rfl))
    (by as_aux_lemma => kernel_rfl))
    (by as_aux_lemma => kernel_rfl))
    (by as_aux_lemma => kernel_rfl))
    (by as_aux_lemma => kernel_rfl))
    (by as_aux_lemma => kernel_rfl))
    (by as_aux_lemma => kernel_rfl))
    p_stopsHeard)
    p_mayEnter)
    (by rw [p_liftsFinal]; rfl))
    (by rw [p_make]; rfl))
    (by as_aux_lemma => kernel_rfl))
    (by as_aux_lemma => kernel_rfl))
    (by as_aux_lemma => kernel_rfl))
    (by as_aux_lemma => kernel_rfl))
theorem proved : Rows.AdjStepsSaid :=
  OpenClaim.holds_of_wide 6 Try.f6 rfl rfl rfl rfl rfl rfl rfl ⟨rfl, rfl, rfl, rfl, rfl⟩ rfl rfl rfl rfl rfl (by kernel_rfl) Try.func6 closed
    (of_decide_eq_true (by kernel_rfl)) (by unfold Func.isWrapper; first | (rw [if_pos (by decide +kernel)]; kernel_rfl) | (rw [if_neg (by decide +kernel)]; exact ⟨rfl, rfl⟩))
    (fun os started H enc _ => lifted os started H enc)
#print axioms proved
end Go.Proofs.Ytgjgckpdilbbjaa.adjSteps
namespace Go.Proofs.Ytgjgckpdilbbjaa
theorem adjSteps_holds : Rows.AdjStepsSaid := adjSteps.proved
end Go.Proofs.Ytgjgckpdilbbjaa
end
