/- A part of the proof: words, contracts, plain lemmas. Conditions: none. -/
import Derived.Test.YtgjgckpdilbbjaaZAdjFastest18
import Derived.Test.YtgjgckpdilbbjaaZAdjFastest3
import Derived.Test.YtgjgckpdilbbjaaZAdjFastest16
section
namespace Go.Proofs.Ytgjgckpdilbbjaa.P
set_option linter.unusedSimpArgs false
set_option linter.unusedVariables false
open Go.RowKit Go.Proofs.Ytgjgckpdilbbjaa.Q Go.Proofs.YtgjgckpdilbbjaaW.PrintWords Go.Proofs.YtgjgckpdilbbjaaW.PrintLast Go.Proofs.YtgjgckpdilbbjaaW.PrintMore
theorem rd_set {d : List Int} {i : Nat} {x : Int} (hi : i < d.length) (v : Nat) : rd (d.set i x) (v : Int) = if v = i then x else rd d (v : Int) := by
  unfold rd
  rw [Int.toNat_natCast, List.getD_eq_getElem?_getD, List.getD_eq_getElem?_getD, List.getElem?_set]
  by_cases c : i = v
  · subst c; rw [if_pos rfl, if_pos hi, if_pos rfl]; rfl
  · rw [if_neg c, if_neg (fun e => c e.symm)]
theorem rd_ext {a b : List Int} (h : a.length = b.length) (hv : ∀ v : Nat, v < a.length → rd a (v : Int) = rd b (v : Int)) : a = b := by
  apply List.ext_getElem h
  intro i h1 h2
  have := hv i h1
  unfold rd at this
  rw [Int.toNat_natCast, List.getD_eq_getElem?_getD, List.getD_eq_getElem?_getD, List.getElem?_eq_getElem h1, List.getElem?_eq_getElem h2] at this
  exact this
theorem rd_replicate {n : Nat} {x : Int} {v : Nat} (h : v < n) : rd (List.replicate n x) (v : Int) = x := by
  unfold rd
  rw [Int.toNat_natCast, List.getD_eq_getElem?_getD, List.getElem?_replicate, if_pos h]; rfl
theorem countP_step {α : Type} {p q : α → Bool} : ∀ {l : List α}, (∀ x ∈ l, p x = true → q x = true) → (∃ x ∈ l, q x = true ∧ p x = false) → l.countP p + 1 ≤ l.countP q
  | [], _, h => by obtain ⟨x, hx, _⟩ := h; cases hx
  | y :: l, h, h2 => by
    have ih0 : l.countP p ≤ l.countP q := List.countP_mono_left (fun x hx => h x (List.mem_cons_of_mem _ hx))
    rw [List.countP_cons, List.countP_cons]
    obtain ⟨x, hx, hq, hp⟩ := h2
    rcases List.mem_cons.1 hx with rfl | hx
    · rw [hq, hp]; simp; omega
    · have ih := countP_step (l := l) (p := p) (q := q) (fun x hx => h x (List.mem_cons_of_mem _ hx)) ⟨x, hx, hq, hp⟩
      have h0 := h y List.mem_cons_self
      by_cases c : p y = true
      · rw [c, h0 c]; simp; omega
      · rw [Bool.not_eq_true] at c
        rw [c]
        simp
        omega
theorem nodup_short : ∀ {n : Nat} {l : List Nat}, l.Nodup → (∀ x ∈ l, x < n) → l.length ≤ n
  | 0, [], _, _ => Nat.le_refl _
  | 0, x :: l, _, h => absurd (h x List.mem_cons_self) (Nat.not_lt_zero _)
  | n + 1, l, hn, h => by
    have h1 : (l.filter (fun x => x != n)).length ≤ n := nodup_short (List.Pairwise.filter _ hn) (fun x hx => by
      have h2 := List.mem_filter.1 hx
      have h3 := h x h2.1
      have h4 : x ≠ n := by simpa using h2.2
      omega)
    have h2 : l.length ≤ (l.filter (fun x => x != n)).length + 1 := by
      clear h h1
      induction l with
      | nil => exact Nat.zero_le _
      | cons y l ih =>
        obtain ⟨g1, g2⟩ := List.nodup_cons.1 hn
        by_cases c : y = n
        · subst c
          have : l.filter (fun x => x != y) = l := List.filter_eq_self.2 (fun x hx => by
            have : x ≠ y := fun e => g1 (e ▸ hx)
            simpa using this)
          rw [List.filter_cons, this]; simp
        · rw [List.filter_cons, if_pos (by simpa using c)]
          have := ih g2
          simp only [List.length_cons]; omega
    omega
inductive Wk (l : List S37) (wt : S37 → Int) (s : Int) : Int → Int → Prop
  | zero : Wk l wt s 0 s
  | step {c v : Int} (a : S37) : Wk l wt s c v → a ∈ l → a.f0 = v → Wk l wt s (c + wt a) a.f1
structure Dist (l : List S37) (wt : S37 → Int) (s : Int) (n : Nat) (d : List Int) : Prop where
  len : d.length = n
  spec : ∀ v : Nat, v < n → (rd d (v : Int) = -1 ∧ ∀ c, ¬ Wk l wt s c (v : Int)) ∨ (0 ≤ rd d (v : Int) ∧ Wk l wt s (rd d (v : Int)) (v : Int) ∧ ∀ c, Wk l wt s c (v : Int) → rd d (v : Int) ≤ c)
section
variable {l : List S37} {wt : S37 → Int} {s n : Nat}
structure Fine (l : List S37) (wt : S37 → Int) (s n : Nat) : Prop where
  src : s < n
  arcs : ∀ a ∈ l, (0 ≤ a.f0 ∧ a.f0 < (n : Int)) ∧ (0 ≤ a.f1 ∧ a.f1 < (n : Int)) ∧ 0 ≤ wt a
theorem Wk.node (hf : Fine l wt s n) {c v : Int} (h : Wk l wt (s : Int) c v) : ∃ u : Nat, v = (u : Int) ∧ u < n := by
  cases h with
  | zero => exact ⟨s, rfl, hf.src⟩
  | step a _ ha _ => have := (hf.arcs a ha).2.1; exact ⟨a.f1.toNat, by omega, by omega⟩
theorem dist_of {d : List Int} (hf : Fine l wt s n) (hlen : d.length = n) (hsrc : rd d (s : Int) = 0) (sound : ∀ v : Nat, v < n → rd d (v : Int) = -1 ∨ (0 ≤ rd d (v : Int) ∧ Wk l wt (s : Int) (rd d (v : Int)) (v : Int)))
    (closed : ∀ a ∈ l, 0 ≤ rd d a.f0 → 0 ≤ rd d a.f1 ∧ rd d a.f1 ≤ rd d a.f0 + wt a) : Dist l wt (s : Int) n d := by
  have hw : ∀ c v, Wk l wt (s : Int) c v → 0 ≤ rd d v ∧ rd d v ≤ c := by
    intro c v h
    induction h with
    | zero => rw [hsrc]; exact ⟨Int.le_refl _, Int.le_refl _⟩
    | step a _ ha e ih =>
      subst e
      have := closed a ha ih.1
      exact ⟨this.1, by omega⟩
  refine ⟨hlen, fun v hv => ?_⟩
  rcases sound v hv with h | ⟨h1, h2⟩
  · exact Or.inl ⟨h, fun c hc => by have := (hw _ _ hc).1; omega⟩
  · exact Or.inr ⟨h1, h2, fun c hc => (hw _ _ hc).2⟩
theorem Dist.val {d : List Int} (hf : Fine l wt s n) (h : Dist l wt (s : Int) n d) {c v : Int} (hw : Wk l wt (s : Int) c v) : 0 ≤ rd d v ∧ Wk l wt (s : Int) (rd d v) v ∧ rd d v ≤ c := by
  obtain ⟨u, rfl, hu⟩ := hw.node hf
  rcases h.spec u hu with ⟨_, h2⟩ | ⟨h1, h2, h3⟩
  · exact absurd hw (h2 _)
  · exact ⟨h1, h2, h3 _ hw⟩
theorem Dist.src {d : List Int} (hf : Fine l wt s n) (h : Dist l wt (s : Int) n d) : rd d (s : Int) = 0 := by
  have := h.val hf (Wk.zero (l := l) (wt := wt))
  omega
theorem Dist.get {d : List Int} (h : Dist l wt (s : Int) n d) {v : Nat} (hv : v < n) (h0 : 0 ≤ rd d (v : Int)) : Wk l wt (s : Int) (rd d (v : Int)) (v : Int) := by
  rcases h.spec v hv with ⟨h1, h2⟩ | ⟨h1, h2, h3⟩
  · omega
  · exact h2
theorem Dist.closed {d : List Int} (hf : Fine l wt s n) (h : Dist l wt (s : Int) n d) (a : S37) (ha : a ∈ l) (h0 : 0 ≤ rd d a.f0) : 0 ≤ rd d a.f1 ∧ rd d a.f1 ≤ rd d a.f0 + wt a := by
  have hn := (hf.arcs a ha).1
  have e : a.f0 = ((a.f0.toNat : Nat) : Int) := by omega
  have hw := h.get (v := a.f0.toNat) (by omega) (by rw [← e]; exact h0)
  rw [← e] at hw
  have := h.val hf (Wk.step a hw ha rfl)
  exact ⟨this.1, this.2.2⟩
theorem Dist.leaves {d : List Int} (hf : Fine l wt s n) (h : Dist l wt (s : Int) n d) (A : Int → Prop) (hs : A (s : Int)) {c v : Int} (hw : Wk l wt (s : Int) c v) : rd d v = c → ¬ A v → ∃ a ∈ l, A a.f0 ∧ ¬ A a.f1 ∧ 0 ≤ rd d a.f0 ∧ rd d a.f1 = rd d a.f0 + wt a := by
  induction hw with
  | zero => intro _ hn; exact absurd hs hn
  | step a hw ha e ih =>
    intro hc hn
    subst e
    have h1 := h.val hf hw
    have h2 := h.closed hf a ha h1.1
    by_cases ca : A a.f0
    · exact ⟨a, ha, ca, hn, h1.1, by omega⟩
    · exact ih (by omega) ca
end
end Go.Proofs.Ytgjgckpdilbbjaa.P
end
section
namespace Go.Proofs.Ytgjgckpdilbbjaa.Q
open Go.RowKit Go.Proofs.YtgjgckpdilbbjaaW.PrintWords Go.Proofs.YtgjgckpdilbbjaaW.PrintLast Go.Proofs.YtgjgckpdilbbjaaW.PrintMore
attribute [local go_sem] max2_int min2_int max_two min_four
set_option linter.unusedVariables false
set_option linter.unusedSimpArgs false
def ebbtideref06_Node.f (a0_0 : Int) (a0_1 : Bool) (l0_2 : List (S37)) (a1 : Int) : Option (Bool) := if a1 ≥ 0 then (some (decide (a1 < a0_0))) else (some false)
set_option maxHeartbeats 8000000 in
set_option maxRecDepth 100000 in
theorem ebbtideref06_Node.calls (a0_0 : Int) (a0_1 : Bool) (A0_2 : Option Addr) (c0_2 : Nat) (l0_2 : List (S37)) (a1 : Int) (r : Bool) (w : World) (hr0_2 : Kd.C k37 w A0_2 l0_2.length l0_2) (hc0_2 : l0_2.length ≤ c0_2) (h : ebbtideref06_Node.f a0_0 a0_1 l0_2 a1 = some r) :
  Calls Try.prog 32 #[.agg #[.int .i64 a0_0, .bool a0_1, .slice A0_2 l0_2.length c0_2], .int .i64 a1] w fun e w' => e = .returned (.bool r) ∧ Below w.heap.size w w' := by
 have hu24 := Try.underlying24; have HR0_2 := Aside0.mk hr0_2; have HC0_2 := Aside0.mk hc0_2; clear hr0_2 hc0_2; have HB := Aside0.mk (Below.refl w.heap.size w); have H : (if a1 ≥ 0 then (some (decide (a1 < a0_0))) else (some false)) = some r := h; clear h
 by_cases c3 : a1 ≥ 0
 ·rw [if_pos c3] at H
  have c3b0 : decide (0 ≤ a1) = true := decide_eq_true c3; clear c3; obtain rfl := Option.some.inj H
  go_enter Try.func32, Try.ntmps32
  go_wp2_with (first | ((with_reducible refine gate_dst (N := 2) rfl ?_); refine box_event ?hg (N := 2) ?hd (cs := #[.int .i64 a0_0, .bool a0_1, .slice A0_2 l0_2.length c0_2]) (t := 24) ?hr ?_; (case hd => rfl); (case hg => rfl); (case hr => first | (go_simp; done) | (go_simp; rfl)); intro gb129 hg w4 hbox hb; have n0_ := Aside0.mk (below_step (by repeat (first | (with_reducible first | exact HB.out | apply below_alloc | apply pw_below_drewN | apply below_drew1) | exact HB.out)) hb); have n1_ := Aside0.mk (hbox); have n2_ := Aside0.mk ((by rw [hg]; exact (below_size (by repeat (first | (with_reducible first | exact HB.out | apply below_alloc | apply pw_below_drewN | apply below_drew1) | exact HB.out))) : w.heap.size ≤ gb129)); have n3_ := Aside0.mk ((by rw [hg]; exact (below_size (by repeat (first | (with_reducible first | exact HB.out | apply below_alloc | apply pw_below_drewN | apply below_drew1) | exact HB.out))) : w.heap.size ≤ gb129)); clear HB; have HB := n0_; have BK129 := n1_; have GW129 := n2_; have GE129 := n3_; clear n0_ n1_ n2_ n3_; clear hb hbox hg; have hcz5_0 : w4.cell? ⟨gb129, 0, none⟩ = some (.int .i64 a0_0) := (blk_cell BK129.out 0).trans rfl; have hcz5_1 : w4.cell? ⟨gb129, 1, none⟩ = some (.bool a0_1) := (blk_cell BK129.out 1).trans rfl; have hcz5_2 : w4.cell? ⟨gb129, 2, none⟩ = some (.slice A0_2 l0_2.length c0_2) := (blk_cell BK129.out 2).trans rfl; have hfz5_0 := blk_frozen BK129.out 0; have hfz5_1 := blk_frozen BK129.out 1; have hfz5_2 := blk_frozen BK129.out 2))
  go_ret
  exact ⟨by first | rfl | (simp [errW_none, errW_some] <;> rfl) | (simp [*, errW_none, errW_some] <;> rfl), by repeat (first | (with_reducible first | exact HB.out | apply below_alloc | apply pw_below_drewN | apply below_drew1 | refine below_set ?_ GE129.out) | exact HB.out)⟩
 ·rw [if_neg c3] at H
  have c3b0 : decide (0 ≤ a1) = false := decide_eq_false c3; clear c3; obtain rfl := Option.some.inj H
  go_enter Try.func32, Try.ntmps32
  go_wp2_with (first | ((with_reducible refine gate_dst (N := 2) rfl ?_); refine box_event ?hg (N := 2) ?hd (cs := #[.int .i64 a0_0, .bool a0_1, .slice A0_2 l0_2.length c0_2]) (t := 24) ?hr ?_; (case hd => rfl); (case hg => rfl); (case hr => first | (go_simp; done) | (go_simp; rfl)); intro gb129 hg w6 hbox hb; have n0_ := Aside0.mk (below_step (by repeat (first | (with_reducible first | exact HB.out | apply below_alloc | apply pw_below_drewN | apply below_drew1) | exact HB.out)) hb); have n1_ := Aside0.mk (hbox); have n2_ := Aside0.mk ((by rw [hg]; exact (below_size (by repeat (first | (with_reducible first | exact HB.out | apply below_alloc | apply pw_below_drewN | apply below_drew1) | exact HB.out))) : w.heap.size ≤ gb129)); have n3_ := Aside0.mk ((by rw [hg]; exact (below_size (by repeat (first | (with_reducible first | exact HB.out | apply below_alloc | apply pw_below_drewN | apply below_drew1) | exact HB.out))) : w.heap.size ≤ gb129)); clear HB; have HB := n0_; have BK129 := n1_; have GW129 := n2_; have GE129 := n3_; clear n0_ n1_ n2_ n3_; clear hb hbox hg))
  go_ret
  exact ⟨by first | rfl | (simp [errW_none, errW_some] <;> rfl) | (simp [*, errW_none, errW_some] <;> rfl), by repeat (first | (with_reducible first | exact HB.out | apply below_alloc | apply pw_below_drewN | apply below_drew1 | refine below_set ?_ GE129.out) | exact HB.out)⟩
end Go.Proofs.Ytgjgckpdilbbjaa.Q
end
section
namespace Go.Proofs.Ytgjgckpdilbbjaa.P
set_option linter.unusedSimpArgs false
set_option linter.unusedVariables false
open Go.RowKit Go.Proofs.Ytgjgckpdilbbjaa.Q Go.Proofs.YtgjgckpdilbbjaaW.PrintWords Go.Proofs.YtgjgckpdilbbjaaW.PrintLast Go.Proofs.YtgjgckpdilbbjaaW.PrintMore
theorem nodup_ints {n : Nat} {q : List Int} (hn : q.Nodup) (h : ∀ x ∈ q, 0 ≤ x ∧ x < (n : Int)) : q.length ≤ n := by
  have h1 : (q.map Int.toNat).Nodup := by
    refine List.pairwise_map.2 (List.Pairwise.imp_of_mem ?_ hn)
    intro a b ha hb hab e
    have h1 := h a ha
    have h2 := h b hb
    have e' : a.toNat = b.toNat := e
    have e3 : a = b := by omega
    exact hab e3
  have := nodup_short (n := n) h1 (fun x hx => by
    obtain ⟨y, hy, rfl⟩ := List.mem_map.1 hx
    have := h y hy
    omega)
  rw [List.length_map] at this
  exact this
theorem plc_mem {e : S37 → Int} {l : List S37} {v x : Int} : x ∈ placesAt e l l.length v ↔ ∃ j : Nat, j < l.length ∧ e (rd_T37 l (j : Int)) = v ∧ x = (j : Int) := by
  unfold placesAt
  rw [List.mem_map]
  constructor
  · rintro ⟨j, hj, rfl⟩
    rw [List.mem_filter, List.mem_range] at hj
    exact ⟨j, hj.1, by simpa using hj.2, rfl⟩
  · rintro ⟨j, h1, h2, rfl⟩
    exact ⟨j, List.mem_filter.2 ⟨List.mem_range.2 h1, by simpa using h2⟩, rfl⟩
theorem mem_rdT {l : List S37} {a : S37} (h : a ∈ l) : ∃ j : Nat, j < l.length ∧ rd_T37 l (j : Int) = a := by
  obtain ⟨j, hj, e⟩ := List.mem_iff_getElem.1 h
  exact ⟨j, hj, by rw [rdA_of hj]; exact e⟩
def Shut (wt : S37 → Int) (d : List Int) (a : S37) : Prop := 0 ≤ rd d a.f1 ∧ rd d a.f1 ≤ rd d a.f0 + wt a
theorem rd_first {n s : Nat} (h : s < n) (u : Nat) (hu : u < n) : rd ((List.replicate n (-1 : Int)).set s 0) (u : Int) = if u = s then 0 else -1 := by
  rw [rd_set (by simpa using h), rd_replicate hu]
def nodeErr (n : Int) (l : List S37) (v : Int) : Int := if checkErr n l = 0 then (if v < 0 then 1 else if v ≥ n then 1 else 0) else checkErr n l
theorem asked_ev (n : Int) (b : Bool) (l : List S37) (v : Int) : Ev (fun k => adj_asked.f k n b l v) (nodeErr n l v) := by
  unfold adj_asked.f nodeErr
  refine Ev.bind (check_ev n b l) ?_
  by_cases c : checkErr n l = 0
  · simp only [c, if_true]
    by_cases c1 : v < 0
    · simp only [c1, if_true]; exact Ev.now _
    · by_cases c2 : v ≥ n
      · simp only [c1, c2, if_true, if_false]; exact Ev.now _
      · simp only [c1, c2, if_false]; exact Ev.now _
  · simp only [c, if_false]; exact Ev.now _
theorem node_ev (n : Int) (b : Bool) (l : List S37) (v : Int) : Ev (fun k => ebbtideref06_Node.f n b l v) (decide (0 ≤ v ∧ v < n)) := by
  unfold ebbtideref06_Node.f
  by_cases c : v ≥ 0
  · simp only [if_pos c]
    refine Ev.congr (fun k => ?_) (Ev.now _)
    congr 1
    exact decide_eq_decide.2 ⟨fun h => ⟨c, h⟩, fun h => h.2⟩
  · simp only [if_neg c]
    refine Ev.congr (fun k => ?_) (Ev.now _)
    rw [decide_eq_false (by omega)]
theorem nodeErr_ok {n : Int} {l : List S37} {v : Int} : nodeErr n l v = 0 ↔ NetOk n l ∧ 0 ≤ v ∧ v < n := by
  unfold nodeErr
  constructor
  · intro h
    by_cases c : checkErr n l = 0
    · rw [if_pos c] at h
      refine ⟨checkErr_ok.1 c, ?_⟩
      by_cases c1 : v < 0
      · rw [if_pos c1] at h; cases h
      · rw [if_neg c1] at h
        by_cases c2 : v ≥ n
        · rw [if_pos c2] at h; cases h
        · omega
    · rw [if_neg c] at h; exact absurd h c
  · rintro ⟨h, h1, h2⟩
    rw [if_pos (checkErr_ok.2 h), if_neg (by omega), if_neg (by omega)]
end Go.Proofs.Ytgjgckpdilbbjaa.P
end
