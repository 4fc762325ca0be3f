/- A part of the proof: words, contracts, plain lemmas. Conditions: none. -/
import Derived.Test.YtgjgckpdilbbjaaZAdjOrders3
import Derived.Test.YtgjgckpdilbbjaaZAdjOrders16
import Derived.Test.YtgjgckpdilbbjaaZAdjOrders17
import Derived.Test.YtgjgckpdilbbjaaZAdjOrders10
import Derived.Test.YtgjgckpdilbbjaaZAdjOrders11
import Derived.Test.YtgjgckpdilbbjaaZAdjOrders14
section
namespace Go.Proofs.Ytgjgckpdilbbjaa.P
open Go.RowKit Go.Proofs.Ytgjgckpdilbbjaa.Q Go.Proofs.YtgjgckpdilbbjaaW.PrintWords Go.Proofs.YtgjgckpdilbbjaaW.PrintLast Go.Proofs.YtgjgckpdilbbjaaW.PrintMore
theorem ev_cst {α : Type} {g : Nat → Option α} {r : α} (h : ∀ k, g (k + 1) = some r) : Ev g r := Ev.step h (Ev.now r)
theorem wrap1 {i : Nat} (h : i ≤ 4611686018427387904) : wrap64 ((i : Int) + 1) = ((i + 1 : Nat) : Int) := by unfold wrap64; omega
theorem rdA_of {l : List S37} {i : Nat} (h : i < l.length) : rd_T37 l (i : Int) = l[i] := by unfold rd_T37; simp [List.getD_eq_getElem?_getD, List.getElem?_eq_getElem h]
def arcErr (n : Int) (a : S37) : Int := if a.f0 < 0 ∨ a.f1 < 0 ∨ a.f2 < 0 ∨ a.f3 < 0 ∨ n ≤ a.f0 ∨ n ≤ a.f1 then 51 else if 1048576 < a.f2 ∨ 1048576 < a.f3 then 2 else 0
def firstErr (n : Int) : List S37 → Int
  | [] => 0
  | a :: r => if arcErr n a = 0 then firstErr n r else arcErr n a
def checkErr (n : Int) (l : List S37) : Int := if n < 1 then 51 else if 50 < n then 2 else if 200 < l.length then 2 else firstErr n l
structure ArcOk (n : Int) (a : S37) : Prop where
  f0 : 0 ≤ a.f0 ∧ a.f0 < n
  f1 : 0 ≤ a.f1 ∧ a.f1 < n
  f2 : 0 ≤ a.f2 ∧ a.f2 ≤ 1048576
  f3 : 0 ≤ a.f3 ∧ a.f3 ≤ 1048576
theorem arcErr_ok {n : Int} {a : S37} : arcErr n a = 0 ↔ ArcOk n a := by
  unfold arcErr
  constructor
  · intro h
    split at h
    · cases h
    · split at h
      · cases h
      · exact ⟨by omega, by omega, by omega, by omega⟩
  · rintro ⟨h0, h1, h2, h3⟩
    rw [if_neg (by omega), if_neg (by omega)]
theorem firstErr_ok {n : Int} {l : List S37} : firstErr n l = 0 ↔ ∀ a ∈ l, ArcOk n a := by
  induction l with
  | nil => simp [firstErr]
  | cons a l ih =>
    rw [firstErr]
    by_cases h : arcErr n a = 0
    · rw [if_pos h, ih]
      constructor
      · intro h2 x hx
        rcases List.mem_cons.1 hx with rfl | hx
        · exact arcErr_ok.1 h
        · exact h2 x hx
      · intro h2 x hx; exact h2 x (List.mem_cons_of_mem _ hx)
    · rw [if_neg h]
      constructor
      · intro h2; exact absurd h2 h
      · intro h2; exact absurd (arcErr_ok.2 (h2 a List.mem_cons_self)) h
structure NetOk (n : Int) (l : List S37) : Prop where
  lo : 1 ≤ n
  hi : n ≤ 50
  len : l.length ≤ 200
  arcs : ∀ a ∈ l, ArcOk n a
theorem checkErr_ok {n : Int} {l : List S37} : checkErr n l = 0 ↔ NetOk n l := by
  unfold checkErr
  constructor
  · intro h
    split at h
    · cases h
    · split at h
      · cases h
      · split at h
        · cases h
        · exact ⟨by omega, by omega, by omega, firstErr_ok.1 h⟩
  · rintro ⟨h0, h1, h2, h3⟩
    rw [if_neg (by omega), if_neg (by omega), if_neg (by omega)]
    exact firstErr_ok.2 h3
theorem arc_ev (n : Int) (a : S37) : Ev (fun k => netfmt_arc.f k n a.f0 a.f1 a.f2 a.f3) (arcErr n a) := by
  refine ev_cst fun k => ?_
  unfold netfmt_arc.f arcErr
  by_cases c : mn (mn (mn a.f0 a.f1) a.f2) a.f3 < 0
  · rw [if_pos c, netfmt_arc.j0, if_pos rfl, if_pos (by unfold mn at c; (repeat' split at c) <;> omega)]
  · rw [if_neg c, netfmt_arc.j0]
    have hc : 0 ≤ a.f0 ∧ 0 ≤ a.f1 ∧ 0 ≤ a.f2 ∧ 0 ≤ a.f3 := by unfold mn at c; (repeat' split at c) <;> omega
    by_cases c2 : mx a.f0 a.f1 ≥ n
    · rw [decide_eq_true c2, if_pos rfl, if_pos (by unfold mx at c2; split at c2 <;> omega)]
    · rw [decide_eq_false c2, if_neg (by decide)]
      have hc2 : a.f0 < n ∧ a.f1 < n := by unfold mx at c2; split at c2 <;> omega
      rw [if_neg (show ¬ (a.f0 < 0 ∨ a.f1 < 0 ∨ a.f2 < 0 ∨ a.f3 < 0 ∨ n ≤ a.f0 ∨ n ≤ a.f1) by omega)]
      by_cases c3 : a.f2 > 1048576
      · rw [if_pos c3, if_pos (by omega)]
      · rw [if_neg c3]
        by_cases c4 : a.f3 > 1048576
        · rw [if_pos c4, if_pos (by omega)]
        · rw [if_neg c4, if_neg (by omega)]
theorem rarc_ev (n : Int) (a : S37) : Ev (fun k => ebbtideref05_Arc.f k n a.f0 a.f1 a.f2 a.f3) (arcErr n a) := by
  refine ev_cst fun k => ?_
  unfold ebbtideref05_Arc.f arcErr
  simp only [ebbtideref05_Arc.j0]
  by_cases c0 : a.f0 < 0
  · rw [if_pos c0, if_pos trivial, if_pos (by omega)]
  · rw [if_neg c0]
    by_cases c1 : a.f0 ≥ n
    · rw [if_pos c1, if_pos trivial, if_pos (by omega)]
    · rw [if_neg c1]
      by_cases c2 : a.f1 < 0
      · rw [if_pos c2, if_pos trivial, if_pos (by omega)]
      · rw [if_neg c2]
        by_cases c3 : a.f1 ≥ n
        · rw [if_pos c3, if_pos trivial, if_pos (by omega)]
        · rw [if_neg c3]
          by_cases c4 : a.f2 < 0
          · rw [if_pos c4, if_pos trivial, if_pos (by omega)]
          · rw [if_neg c4]
            by_cases c5 : a.f3 < 0
            · rw [if_pos (decide_eq_true c5), if_pos (by omega)]
            · rw [if_neg (by simpa using c5), if_neg (show ¬ (a.f0 < 0 ∨ a.f1 < 0 ∨ a.f2 < 0 ∨ a.f3 < 0 ∨ n ≤ a.f0 ∨ n ≤ a.f1) by omega)]
              by_cases c6 : a.f2 > 1048576
              · rw [if_pos c6, if_pos (by omega)]
              · rw [if_neg c6]
                by_cases c7 : a.f3 > 1048576
                · rw [if_pos c7, if_pos (by omega)]
                · rw [if_neg c7, if_neg (by omega)]
theorem check_loop (n : Int) (b : Bool) (l : List S37) (hl : l.length ≤ 200) (d : Nat) : ∀ i, i + d = l.length → Ev (fun k => netfmt_Check.l0 k l (l.length : Int) (i : Int) n b l) (firstErr n (l.drop i)) := by
  induction d with
  | zero =>
    intro i hi
    rw [List.drop_eq_nil_of_le (by omega)]
    exact ev_cst fun k => by rw [netfmt_Check.l0, if_neg (by omega)]; rfl
  | succ d ih =>
    intro i hi
    have hlt : i < l.length := by omega
    refine Ev.step (f := fun k => (netfmt_arc.f k n l[i].f0 l[i].f1 l[i].f2 l[i].f3).bind fun t173 => if t173 = 0 then netfmt_Check.l0 k l (l.length : Int) ((i + 1 : Nat) : Int) n b l else some t173) (fun k => ?_) ?_
    · rw [netfmt_Check.l0, if_pos (by omega), if_pos (by omega), if_pos (by omega), rdA_of hlt, wrap1 (by omega)]
    · refine Ev.bind (arc_ev n l[i]) ?_
      rw [List.drop_eq_getElem_cons hlt, firstErr]
      by_cases c : arcErr n l[i] = 0
      · simp only [c, if_true]
        exact ih (i + 1) (by omega)
      · simp only [c, if_false]
        exact Ev.now _
theorem rcheck_loop (n : Int) (b : Bool) (l : List S37) (hl : l.length ≤ 200) (d : Nat) : ∀ i, i + d = l.length → Ev (fun k => ebbtideref05_Check.l0 k (i : Int) n b l) (firstErr n (l.drop i)) := by
  induction d with
  | zero =>
    intro i hi
    rw [List.drop_eq_nil_of_le (by omega)]
    exact ev_cst fun k => by rw [ebbtideref05_Check.l0, if_neg (by omega)]; rfl
  | succ d ih =>
    intro i hi
    have hlt : i < l.length := by omega
    refine Ev.step (f := fun k => (ebbtideref05_Arc.f k n l[i].f0 l[i].f1 l[i].f2 l[i].f3).bind fun t184 => if t184 = 0 then ebbtideref05_Check.l0 k ((i + 1 : Nat) : Int) n b l else some t184) (fun k => ?_) ?_
    · rw [ebbtideref05_Check.l0, if_pos (by omega), if_pos (by omega), rdA_of hlt, wrap1 (by omega)]
    · refine Ev.bind (rarc_ev n l[i]) ?_
      rw [List.drop_eq_getElem_cons hlt, firstErr]
      by_cases c : arcErr n l[i] = 0
      · simp only [c, if_true]
        exact ih (i + 1) (by omega)
      · simp only [c, if_false]
        exact Ev.now _
theorem nodes_eq (n : Int) : netfmt_nodes.f n = some (if n < 1 then 51 else if 50 < n then 2 else 0) := by
  unfold netfmt_nodes.f
  by_cases c : n < 1
  · rw [if_pos c, if_pos c]
  · rw [if_neg c, if_neg c]
    by_cases c2 : n > 50
    · rw [if_pos c2, if_pos c2]
    · rw [if_neg c2, if_neg c2]
theorem rnodes_eq (n : Int) : ebbtideref05_nodes.f n = some (if n < 1 then 51 else if 50 < n then 2 else 0) := nodes_eq n
theorem check_ev (n : Int) (b : Bool) (l : List S37) : Ev (fun k => netfmt_Check.f k n b l) (checkErr n l) := by
  unfold netfmt_Check.f checkErr
  rw [nodes_eq]
  simp only [Option.bind_some]
  by_cases c : n < 1
  · simp only [c, if_true, show ¬ (51 : Int) = 0 by decide, if_false]; exact Ev.now _
  · by_cases c2 : 50 < n
    · simp only [c, c2, if_true, if_false, show ¬ (2 : Int) = 0 by decide]; exact Ev.now _
    · simp only [c, c2, if_true, if_false]
      by_cases c3 : 200 < l.length
      · simp only [c3, if_true, show (l.length : Int) > 200 by omega]; exact Ev.now _
      · simp only [c3, if_false, show ¬ (l.length : Int) > 200 by omega]
        exact check_loop n b l (by omega) l.length 0 (by omega)
theorem rcheck_ev (n : Int) (b : Bool) (l : List S37) : Ev (fun k => ebbtideref05_Check.f k n b l) (checkErr n l) := by
  unfold ebbtideref05_Check.f checkErr
  rw [rnodes_eq]
  simp only [Option.bind_some]
  by_cases c : n < 1
  · simp only [c, if_true, show ¬ (51 : Int) = 0 by decide, if_false]; exact Ev.now _
  · by_cases c2 : 50 < n
    · simp only [c, c2, if_true, if_false, show ¬ (2 : Int) = 0 by decide]; exact Ev.now _
    · simp only [c, c2, if_true, if_false]
      by_cases c3 : 200 < l.length
      · simp only [c3, if_true, show (l.length : Int) > 200 by omega]; exact Ev.now _
      · simp only [c3, if_false, show ¬ (l.length : Int) > 200 by omega]
        exact rcheck_loop n b l (by omega) l.length 0 (by omega)
end Go.Proofs.Ytgjgckpdilbbjaa.P
end
section
namespace Go.Proofs.Ytgjgckpdilbbjaa.P
set_option linter.unusedSimpArgs false
set_option linter.unusedVariables false
open Go.RowKit Go.Proofs.Ytgjgckpdilbbjaa.Q Go.Proofs.YtgjgckpdilbbjaaW.PrintWords Go.Proofs.YtgjgckpdilbbjaaW.PrintLast Go.Proofs.YtgjgckpdilbbjaaW.PrintMore
theorem awake06_at : ebbtidelaw06_awake.f 60 = some true := by decide +kernel
theorem awake06_ev : Ev (fun k => ebbtidelaw06_awake.f k) true := Ev.of (fun k => ebbtidelaw06_awake.mono k) awake06_at
theorem sameInts_ev (l : List Int) (hl : l.length ≤ 4611686018427387904) : Ev (fun k => ebbtideref03_SameInts.f k l l) true := by
  have hloop : ∀ d i, i + d = l.length → Ev (fun k => ebbtideref03_SameInts.l0 k l l (i : Int)) true := by
    intro d
    induction d with
    | zero => intro i hi; exact ev_cst fun k => by rw [ebbtideref03_SameInts.l0, if_neg (by omega)]
    | succ d ih =>
      intro i hi
      refine Ev.step (fun k => ?_) (ih (i + 1) (by omega))
      rw [ebbtideref03_SameInts.l0, if_pos (by omega), if_pos (by omega), if_pos (by omega), if_pos rfl, wrap1 (by omega)]
  refine Ev.congr (fun k => ?_) (hloop l.length 0 (by omega))
  unfold ebbtideref03_SameInts.f
  rw [if_pos rfl]; rfl
def placesAt (e : S37 → Int) (l : List S37) (i : Nat) (v : Int) : List Int := ((List.range i).filter (fun (j : Nat) => e (rd_T37 l (j : Int)) == v)).map (fun (j : Nat) => (j : Int))
theorem placesAt_succ (e : S37 → Int) (l : List S37) (i : Nat) (v : Int) : placesAt e l (i + 1) v = if e (rd_T37 l (i : Int)) = v then placesAt e l i v ++ [(i : Int)] else placesAt e l i v := by
  unfold placesAt
  rw [List.range_succ, List.filter_append]
  by_cases c : e (rd_T37 l (i : Int)) = v
  · rw [if_pos c, List.map_append]
    simp [c]
  · rw [if_neg c]
    simp [c]
theorem placesAt_length (e : S37 → Int) (l : List S37) (i : Nat) (v : Int) : (placesAt e l i v).length ≤ i := by
  unfold placesAt
  rw [List.length_map]
  refine Nat.le_trans (List.length_filter_le _ _) ?_
  rw [List.length_range]; exact Nat.le_refl _
def rowsAt (e : S37 → Int) (l : List S37) (n i : Nat) : List (List Int) := (List.range n).map (fun (v : Nat) => placesAt e l i (v : Int))
theorem rowsAt_length (e : S37 → Int) (l : List S37) (n i : Nat) : (rowsAt e l n i).length = n := by unfold rowsAt; simp
theorem rowsAt_rd (e : S37 → Int) (l : List S37) (n i : Nat) (v : Int) (h0 : 0 ≤ v) (h1 : v < (n : Int)) : rd_L3 (rowsAt e l n i) v = placesAt e l i v := by
  unfold rd_L3 rowsAt
  rw [List.getD_eq_getElem?_getD, List.getElem?_map, List.getElem?_range (by omega)]
  simp only [Option.map_some, Option.getD_some]
  rw [Int.toNat_of_nonneg h0]
theorem rowsAt_zero (e : S37 → Int) (l : List S37) (n : Nat) : rowsAt e l n 0 = List.replicate n [] := by
  apply List.ext_getElem
  · simp [rowsAt]
  · intro i h1 h2; simp [rowsAt, placesAt]
theorem rowsAt_step (e : S37 → Int) (l : List S37) (n i : Nat) (h0 : 0 ≤ e (rd_T37 l (i : Int))) (h1 : e (rd_T37 l (i : Int)) < (n : Int)) : (rowsAt e l n i).set (e (rd_T37 l (i : Int))).toNat (rd_L3 (rowsAt e l n i) (e (rd_T37 l (i : Int))) ++ [(i : Int)]) = rowsAt e l n (i + 1) := by
  rw [rowsAt_rd e l n i _ h0 h1]
  apply List.ext_getElem
  · simp [rowsAt]
  · intro j h2 h3
    rw [rowsAt_length] at h3
    rw [List.getElem_set]
    have e1 : (rowsAt e l n (i + 1))[j]'(by rw [rowsAt_length]; exact h3) = placesAt e l (i + 1) (j : Int) := by simp [rowsAt]
    have e2 : (rowsAt e l n i)[j]'(by rw [rowsAt_length]; exact h3) = placesAt e l i (j : Int) := by simp [rowsAt]
    rw [e1, placesAt_succ]
    by_cases c : e (rd_T37 l (i : Int)) = (j : Int)
    · rw [if_pos (by omega), if_pos c, c]
    · rw [if_neg (by omega), if_neg c, e2]
theorem rdT_mem {l : List S37} {i : Nat} (h : i < l.length) : rd_T37 l (i : Int) ∈ l := by rw [rdA_of h]; exact List.getElem_mem h
theorem lists_loop (n : Nat) (l : List S37) (hok : ∀ a ∈ l, ArcOk (n : Int) a) (hl : l.length ≤ 200) (d : Nat) : ∀ i, i + d = l.length → Ev (fun k => adj_lists.l0 k (rowsAt S37.f0 l n i) l (l.length : Int) (i : Int)) (rowsAt S37.f0 l n l.length) := by
  induction d with
  | zero =>
    intro i hi
    rw [show i = l.length by omega]
    exact ev_cst fun k => by rw [adj_lists.l0, if_neg (by omega)]
  | succ d ih =>
    intro i hi
    have ha := hok _ (rdT_mem (l := l) (i := i) (by omega))
    refine Ev.step (fun k => ?_) (ih (i + 1) (by omega))
    have hp := placesAt_length S37.f0 l i ((rd_T37 l (i : Int)).f0)
    rw [adj_lists.l0, if_pos (by omega), if_pos (by omega), if_pos (by omega)]
    simp only [adj_from.f, Option.bind_some]
    rw [if_pos ha.f0.1, if_pos (by rw [rowsAt_length]; exact ha.f0.2), if_pos (by rw [rowsAt_rd _ _ _ _ _ ha.f0.1 ha.f0.2]; omega), rowsAt_step S37.f0 l n i ha.f0.1 ha.f0.2, wrap1 (by omega)]
def leav (n : Int) (l : List S37) : List (List Int) := rowsAt S37.f0 l n.toNat l.length
theorem leaving_ev {n : Int} {l : List S37} (b : Bool) (h : NetOk n l) : Ev (fun k => adj_Leaving.f k n b l) (leav n l) := by
  have hn : (n.toNat : Int) = n := Int.toNat_of_nonneg (by have := h.lo; omega)
  have hloop := lists_loop n.toNat l (by rw [hn]; exact h.arcs) h.len l.length 0 (by omega)
  unfold adj_Leaving.f
  refine Ev.bind (Ev.congr (fun k => ?_) hloop) (Ev.now _)
  · unfold adj_lists.f
    rw [if_pos (by have := h.lo; omega), if_pos (by have := h.hi; omega), rowsAt_zero]
    rfl
theorem rd_set {d : List Int} {i : Nat} {x : Int} (hi : i < d.length) (v : Nat) : rd (d.set i x) (v : Int) = if v = i then x else rd d (v : Int) := by
  unfold rd
  rw [Int.toNat_natCast, List.getD_eq_getElem?_getD, List.getD_eq_getElem?_getD, List.getElem?_set]
  by_cases c : i = v
  · subst c; rw [if_pos rfl, if_pos hi, if_pos rfl]; rfl
  · rw [if_neg c, if_neg (fun e => c e.symm)]
theorem rd_replicate {n : Nat} {x : Int} {v : Nat} (h : v < n) : rd (List.replicate n x) (v : Int) = x := by
  unfold rd
  rw [Int.toNat_natCast, List.getD_eq_getElem?_getD, List.getElem?_replicate, if_pos h]; rfl
theorem nodup_short : ∀ {n : Nat} {l : List Nat}, l.Nodup → (∀ x ∈ l, x < n) → l.length ≤ n
  | 0, [], _, _ => Nat.le_refl _
  | 0, x :: l, _, h => absurd (h x List.mem_cons_self) (Nat.not_lt_zero _)
  | n + 1, l, hn, h => by
    have h1 : (l.filter (fun x => x != n)).length ≤ n := nodup_short (List.Pairwise.filter _ hn) (fun x hx => by
      have h2 := List.mem_filter.1 hx
      have h3 := h x h2.1
      have h4 : x ≠ n := by simpa using h2.2
      omega)
    have h2 : l.length ≤ (l.filter (fun x => x != n)).length + 1 := by
      clear h h1
      induction l with
      | nil => exact Nat.zero_le _
      | cons y l ih =>
        obtain ⟨g1, g2⟩ := List.nodup_cons.1 hn
        by_cases c : y = n
        · subst c
          have : l.filter (fun x => x != y) = l := List.filter_eq_self.2 (fun x hx => by
            have : x ≠ y := fun e => g1 (e ▸ hx)
            simpa using this)
          rw [List.filter_cons, this]; simp
        · rw [List.filter_cons, if_pos (by simpa using c)]
          have := ih g2
          simp only [List.length_cons]; omega
    omega
section
variable {l : List S37} {wt : S37 → Int} {s n : Nat}
end
theorem nodup_ints {n : Nat} {q : List Int} (hn : q.Nodup) (h : ∀ x ∈ q, 0 ≤ x ∧ x < (n : Int)) : q.length ≤ n := by
  have h1 : (q.map Int.toNat).Nodup := by
    refine List.pairwise_map.2 (List.Pairwise.imp_of_mem ?_ hn)
    intro a b ha hb hab e
    have h1 := h a ha
    have h2 := h b hb
    have e' : a.toNat = b.toNat := e
    have e3 : a = b := by omega
    exact hab e3
  have := nodup_short (n := n) h1 (fun x hx => by
    obtain ⟨y, hy, rfl⟩ := List.mem_map.1 hx
    have := h y hy
    omega)
  rw [List.length_map] at this
  exact this
theorem plc_mem {e : S37 → Int} {l : List S37} {v x : Int} : x ∈ placesAt e l l.length v ↔ ∃ j : Nat, j < l.length ∧ e (rd_T37 l (j : Int)) = v ∧ x = (j : Int) := by
  unfold placesAt
  rw [List.mem_map]
  constructor
  · rintro ⟨j, hj, rfl⟩
    rw [List.mem_filter, List.mem_range] at hj
    exact ⟨j, hj.1, by simpa using hj.2, rfl⟩
  · rintro ⟨j, h1, h2, rfl⟩
    exact ⟨j, List.mem_filter.2 ⟨List.mem_range.2 h1, by simpa using h2⟩, rfl⟩
theorem mem_rdT {l : List S37} {a : S37} (h : a ∈ l) : ∃ j : Nat, j < l.length ∧ rd_T37 l (j : Int) = a := by
  obtain ⟨j, hj, e⟩ := List.mem_iff_getElem.1 h
  exact ⟨j, hj, by rw [rdA_of hj]; exact e⟩
def Shut (wt : S37 → Int) (d : List Int) (a : S37) : Prop := 0 ≤ rd d a.f1 ∧ rd d a.f1 ≤ rd d a.f0 + wt a
def waitOf (l : List S37) (out : List Int) (v : Int) (rest : List Int) (u : Int) : Nat := (List.range l.length).countP (fun (i : Nat) => decide ((rd_T37 l (i : Int)).f1 = u ∧ ((rd_T37 l (i : Int)).f0 ∉ out ∨ ((rd_T37 l (i : Int)).f0 = v ∧ (i : Int) ∈ rest))))
def Fw (l : List S37) (out : List Int) : Prop := ∀ a ∈ l, ∀ p : Nat, out[p]? = some a.f1 → ∃ p', p' < p ∧ out[p']? = some a.f0
structure OIn (l : List S37) (n : Nat) (d : List Int) (q : List (Int × Int)) (out : List Int) (v : Int) (rest : List Int) : Prop where
  len : d.length = n
  nod : out.Nodup
  rng : ∀ x ∈ out, 0 ≤ x ∧ x < (n : Int)
  cl : ∀ a ∈ l, a.f1 ∈ out → a.f0 ∈ out
  fw : Fw l out
  wt : ∀ u : Nat, u < n → rd d (u : Int) = (waitOf l out v rest (u : Int) : Int)
  sorted : Sorted2 q
  qnod : q.Nodup
  mem : ∀ x, x ∈ q ↔ ∃ u : Nat, u < n ∧ x = ((u : Int), (0 : Int)) ∧ (u : Int) ∉ out ∧ rd d (u : Int) = 0
theorem oins_mem {x y : Int × Int} {s : List (Int × Int)} : y ∈ ins x s ↔ y = x ∨ y ∈ s := by rw [(ins_perm x s).mem_iff, List.mem_cons]
theorem oins_nodup {x : Int × Int} {s : List (Int × Int)} (h : s.Nodup) (hx : x ∉ s) : (ins x s).Nodup := (ins_perm x s).nodup_iff.2 (List.nodup_cons.2 ⟨hx, h⟩)
theorem pile_short {n : Nat} {q : List (Int × Int)} (hn : q.Nodup) (h : ∀ x ∈ q, ∃ u : Nat, u < n ∧ x = ((u : Int), (0 : Int))) : q.length ≤ n := by
  have h1 : (q.map Prod.fst).Nodup := by
    refine List.pairwise_map.2 (List.Pairwise.imp_of_mem ?_ hn)
    intro a b ha hb hab e
    obtain ⟨u, _, rfl⟩ := h a ha
    obtain ⟨w, _, rfl⟩ := h b hb
    exact hab (by rw [show (u : Int) = (w : Int) from e])
  have := nodup_ints (n := n) h1 (fun x hx => by
    obtain ⟨y, hy, rfl⟩ := List.mem_map.1 hx
    obtain ⟨u, hu, rfl⟩ := h y hy
    simp only
    omega)
  rw [List.length_map] at this
  exact this
theorem waitOf_le (l : List S37) (out : List Int) (v : Int) (rest : List Int) (u : Int) : waitOf l out v rest u ≤ l.length := by
  have := List.countP_le_length (p := fun (i : Nat) => decide ((rd_T37 l (i : Int)).f1 = u ∧ ((rd_T37 l (i : Int)).f0 ∉ out ∨ ((rd_T37 l (i : Int)).f0 = v ∧ (i : Int) ∈ rest)))) (l := List.range l.length)
  rw [List.length_range] at this
  exact this
theorem countP_less {p q : Nat → Bool} {j : Nat} : ∀ {m : Nat}, j < m → p j = true → q j = false → (∀ i, i < m → i ≠ j → p i = q i) → (List.range m).countP p = (List.range m).countP q + 1
  | 0, h, _, _, _ => absurd h (Nat.not_lt_zero _)
  | m + 1, h, hp, hq, he => by
    rw [List.range_succ, List.countP_append, List.countP_append]
    by_cases c : j = m
    · subst c
      have : (List.range j).countP p = (List.range j).countP q := List.countP_congr (fun i hi => by rw [he i (by have := List.mem_range.1 hi; omega) (by have := List.mem_range.1 hi; omega)])
      rw [this]
      simp [hp, hq]
    · have ih := countP_less (m := m) (by omega) hp hq (fun i hi hne => he i (by omega) hne)
      rw [ih]
      have := he m (by omega) (fun e => c e.symm)
      simp [this]
      omega
theorem orderIn_ok {l : List S37} {n : Nat} (hfl : ∀ a ∈ l, (0 ≤ a.f0 ∧ a.f0 < (n : Int)) ∧ (0 ≤ a.f1 ∧ a.f1 < (n : Int))) (hn : n ≤ 50) (hl : l.length ≤ 200) (out : List Int) (v : Int) (hv : v ∈ out) (hvo : ∀ a ∈ l, a.f0 = v → a.f1 ∉ out) :
    ∀ (rest d : List Int) (q : List (Int × Int)), rest.Nodup → (∀ x ∈ rest, ∃ j : Nat, j < l.length ∧ (rd_T37 l (j : Int)).f0 = v ∧ x = (j : Int)) → OIn l n d q out v rest →
    ∃ d' q', orderIn l (n : Int) rest d q = some (d', q') ∧ OIn l n d' q' out v []
  | [], d, q, _, _, h => ⟨d, q, rfl, h⟩
  | x :: rest, d, q, hnd, hr, h => by
    obtain ⟨j, hj, hjv, rfl⟩ := hr x List.mem_cons_self
    have hr' : ∀ x ∈ rest, ∃ j : Nat, j < l.length ∧ (rd_T37 l (j : Int)).f0 = v ∧ x = (j : Int) := fun x hx => hr x (List.mem_cons_of_mem _ hx)
    obtain ⟨hj1, hj2⟩ := List.nodup_cons.1 hnd
    have hmem := rdT_mem hj
    obtain ⟨hw0, hw1⟩ := hfl _ hmem
    have hwo := hvo _ hmem hjv
    obtain ⟨w, hw⟩ : ∃ w : Nat, (rd_T37 l (j : Int)).f1 = (w : Int) := ⟨(rd_T37 l (j : Int)).f1.toNat, by omega⟩
    rw [hw] at hwo
    have hwn : w < n := by omega
    have hwl : w < d.length := by rw [h.len]; exact hwn
    have hless : waitOf l out v ((j : Int) :: rest) (w : Int) = waitOf l out v rest (w : Int) + 1 := by
      unfold waitOf
      refine countP_less hj ?_ ?_ (fun i hi hne => ?_)
      · simp only [decide_eq_true_eq]; exact ⟨hw, Or.inr ⟨hjv, List.mem_cons_self⟩⟩
      · simp only [decide_eq_false_iff_not]; rintro ⟨_, g | ⟨_, g⟩⟩
        · exact g (hjv ▸ hv)
        · exact hj1 g
      · refine decide_eq_decide.2 ⟨?_, ?_⟩
        · rintro ⟨g1, g2 | ⟨g2, g3⟩⟩
          · exact ⟨g1, Or.inl g2⟩
          · rcases List.mem_cons.1 g3 with g3 | g3
            · exact absurd (Int.ofNat_inj.1 g3) hne
            · exact ⟨g1, Or.inr ⟨g2, g3⟩⟩
        · rintro ⟨g1, g2 | ⟨g2, g3⟩⟩
          · exact ⟨g1, Or.inl g2⟩
          · exact ⟨g1, Or.inr ⟨g2, List.mem_cons_of_mem _ g3⟩⟩
    have hsame : ∀ u : Nat, u ≠ w → waitOf l out v ((j : Int) :: rest) (u : Int) = waitOf l out v rest (u : Int) := by
      intro u hu
      unfold waitOf
      refine List.countP_congr (fun i hi => ?_)
      simp only [decide_eq_true_eq]
      constructor
      · rintro ⟨g1, g2 | ⟨g2, g3⟩⟩
        · exact ⟨g1, Or.inl g2⟩
        · rcases List.mem_cons.1 g3 with g3 | g3
          · rw [g3, hw] at g1; exact absurd (Int.ofNat_inj.1 g1).symm hu
          · exact ⟨g1, Or.inr ⟨g2, g3⟩⟩
      · rintro ⟨g1, g2 | ⟨g2, g3⟩⟩
        · exact ⟨g1, Or.inl g2⟩
        · exact ⟨g1, Or.inr ⟨g2, List.mem_cons_of_mem _ g3⟩⟩
    have hdw := h.wt w hwn
    rw [hless] at hdw
    have hle := waitOf_le l out v rest (w : Int)
    obtain ⟨c, hc⟩ : ∃ c : Nat, waitOf l out v rest (w : Int) = c := ⟨_, rfl⟩
    rw [hc] at hdw hle
    have hwrap : wrap64 (rd d (w : Int) - 1) = (c : Int) := by rw [hdw]; unfold wrap64; omega
    have hst : ∀ u : Nat, rd (d.set w (c : Int)) (u : Int) = if u = w then (c : Int) else rd d (u : Int) := fun u => rd_set hwl u
    have hqs : q.length ≤ n := pile_short h.qnod (fun x hx => by obtain ⟨u, g1, g2, _⟩ := (h.mem x).1 hx; exact ⟨u, g1, g2⟩)
    have hwq : ((w : Int), (0 : Int)) ∉ q := fun e => by
      obtain ⟨u, g1, g2, g3, g4⟩ := (h.mem _).1 e
      injection g2 with g5 _
      have : w = u := Int.ofNat_inj.1 g5
      subst this
      omega
    have hmono : ∀ (q' : List (Int × Int)), Sorted2 q' → q'.Nodup → (∀ x, x ∈ q' ↔ ∃ u : Nat, u < n ∧ x = ((u : Int), (0 : Int)) ∧ (u : Int) ∉ out ∧ rd (d.set w (c : Int)) (u : Int) = 0) → OIn l n (d.set w (c : Int)) q' out v rest := fun q' g1 g2 g3 => {
      len := by rw [List.length_set]; exact h.len
      nod := h.nod, rng := h.rng, cl := h.cl, fw := h.fw
      wt := fun u hu => by
        rw [hst]
        by_cases e : u = w
        · subst e; rw [if_pos rfl, hc]
        · rw [if_neg e, h.wt u hu, hsame u e]
      sorted := g1, qnod := g2, mem := g3 }
    unfold orderIn
    rw [if_pos ⟨by omega, by omega, by omega, by rw [h.len]; omega, by omega⟩, hw, hwrap, Int.toNat_natCast]
    by_cases c0 : (c : Int) = 0
    · rw [if_pos c0]
      have hq1 : (ins ((w : Int), (0 : Int)) q).length ≤ n := pile_short (oins_nodup h.qnod hwq) (fun x hx => by
        rcases oins_mem.1 hx with rfl | hx
        · exact ⟨w, hwn, rfl⟩
        · obtain ⟨u, g1, g2, _⟩ := (h.mem x).1 hx; exact ⟨u, g1, g2⟩)
      rw [ins_length] at hq1
      rw [if_neg (by omega)]
      refine orderIn_ok hfl hn hl out v hv hvo rest _ _ hj2 hr' (hmono _ (ins_sorted _ _ h.sorted) (oins_nodup h.qnod hwq) (fun x => ?_))
      rw [oins_mem, h.mem]
      constructor
      · rintro (rfl | ⟨u, g1, g2, g3, g4⟩)
        · exact ⟨w, hwn, rfl, hwo, by rw [hst, if_pos rfl]; exact c0⟩
        · have : u ≠ w := fun e => by subst e; omega
          exact ⟨u, g1, g2, g3, by rw [hst, if_neg this]; exact g4⟩
      · rintro ⟨u, g1, g2, g3, g4⟩
        by_cases e : u = w
        · subst e; exact Or.inl g2
        · rw [hst, if_neg e] at g4; exact Or.inr ⟨u, g1, g2, g3, g4⟩
    · rw [if_neg c0]
      refine orderIn_ok hfl hn hl out v hv hvo rest _ _ hj2 hr' (hmono _ h.sorted h.qnod (fun x => ?_))
      rw [h.mem]
      constructor
      · rintro ⟨u, g1, g2, g3, g4⟩
        have : u ≠ w := fun e => by subst e; omega
        exact ⟨u, g1, g2, g3, by rw [hst, if_neg this]; exact g4⟩
      · rintro ⟨u, g1, g2, g3, g4⟩
        by_cases e : u = w
        · subst e; rw [hst, if_pos rfl] at g4; exact absurd g4 c0
        · rw [hst, if_neg e] at g4; exact ⟨u, g1, g2, g3, g4⟩
def Free (l : List S37) (out : List Int) (u : Int) : Prop := u ∉ out ∧ ∀ a ∈ l, a.f1 = u → a.f0 ∈ out
theorem wait_zero {l : List S37} {out : List Int} {v u : Int} : waitOf l out v [] u = 0 ↔ ∀ a ∈ l, a.f1 = u → a.f0 ∈ out := by
  unfold waitOf
  rw [List.countP_eq_zero]
  constructor
  · intro h a ha hu
    obtain ⟨j, hj, e⟩ := mem_rdT ha
    have := h j (List.mem_range.2 hj)
    simp only [decide_eq_true_eq] at this
    rw [e] at this
    exact Classical.byContradiction (fun g => this ⟨hu, Or.inl g⟩)
  · intro h i hi
    simp only [decide_eq_true_eq]
    rintro ⟨g1, g2 | ⟨_, g⟩⟩
    · exact g2 (h _ (rdT_mem (List.mem_range.1 hi)) g1)
    · cases g
theorem OIn.head {l : List S37} {n : Nat} {d : List Int} {x : Int × Int} {q : List (Int × Int)} {out : List Int} {v : Int} (h : OIn l n d (x :: q) out v []) : ∃ u : Nat, u < n ∧ x = ((u : Int), (0 : Int)) ∧ Free l out (u : Int) ∧ ∀ w : Nat, w < n → Free l out (w : Int) → u ≤ w := by
  obtain ⟨u, g1, g2, g3, g4⟩ := (h.mem x).1 List.mem_cons_self
  have h0 := h.wt u g1
  refine ⟨u, g1, g2, ⟨g3, (wait_zero (v := v)).1 (by omega)⟩, fun w hw hfr => ?_⟩
  have hw0 := h.wt w hw
  have hz := (wait_zero (v := v)).2 hfr.2
  have hm := (h.mem ((w : Int), (0 : Int))).2 ⟨w, hw, rfl, hfr.1, by omega⟩
  rcases List.mem_cons.1 hm with e | hm
  · rw [g2] at e; injection e with e _; have := Int.ofNat_inj.1 e; omega
  · have := (List.pairwise_cons.1 h.sorted).1 _ hm
    rw [g2] at this
    unfold plt at this
    simp only at this
    omega
theorem OIn.none {l : List S37} {n : Nat} {d : List Int} {out : List Int} {v : Int} (h : OIn l n d [] out v []) (w : Nat) (hw : w < n) : ¬ Free l out (w : Int) := fun hfr => by
  have hw0 := h.wt w hw
  have hz := (wait_zero (v := v)).2 hfr.2
  have hm := (h.mem ((w : Int), (0 : Int))).2 ⟨w, hw, rfl, hfr.1, by omega⟩
  cases hm
theorem order_step {l : List S37} {n : Nat} (hfl : ∀ a ∈ l, (0 ≤ a.f0 ∧ a.f0 < (n : Int)) ∧ (0 ≤ a.f1 ∧ a.f1 < (n : Int))) (hn : n ≤ 50) (hl : l.length ≤ 200) {d : List Int} {x : Int × Int} {q : List (Int × Int)} {out : List Int} {v : Int} (h : OIn l n d (x :: q) out v []) (hol : out.length ≤ n) :
    ∃ d' q', OIn l n d' q' (out ++ [x.1]) x.1 [] ∧ ∀ k, orderLoop l (rowsAt S37.f0 l n l.length) (n : Int) (k + 1) d (x :: q) out = orderLoop l (rowsAt S37.f0 l n l.length) (n : Int) k d' q' (out ++ [x.1]) := by
  obtain ⟨u, hu, rfl, ⟨hfr1, hfr2⟩, hmin⟩ := h.head
  obtain ⟨hq1, hq2⟩ := List.nodup_cons.1 h.qnod
  obtain ⟨hs1, hs2⟩ := List.pairwise_cons.1 h.sorted
  have hqs : (((u : Int), (0 : Int)) :: q).length ≤ n := pile_short h.qnod (fun x hx => by obtain ⟨u, g1, g2, _⟩ := (h.mem x).1 hx; exact ⟨u, g1, g2⟩)
  have hrow : (placesAt S37.f0 l l.length (u : Int)).Nodup := by
    unfold placesAt
    refine List.Pairwise.map _ (fun a b h => ?_) (List.Pairwise.filter _ List.nodup_range)
    intro e; exact h (Int.ofNat_inj.1 e)
  obtain ⟨d', q', h1, h2⟩ := orderIn_ok hfl hn hl (out ++ [(u : Int)]) (u : Int) (List.mem_append.2 (Or.inr List.mem_cons_self)) (fun a ha e g => by
      rcases List.mem_append.1 g with g | g
      · exact hfr1 (e ▸ h.cl a ha g)
      · rw [List.mem_singleton] at g
        exact hfr1 (e ▸ hfr2 a ha g)) (placesAt S37.f0 l l.length (u : Int)) d q hrow (fun y hy => plc_mem.1 hy) {
    len := h.len
    nod := List.nodup_append.2 ⟨h.nod, List.nodup_cons.2 ⟨List.not_mem_nil, List.nodup_nil⟩, fun a ha b hb e => by rw [List.mem_singleton] at hb; subst hb; subst e; exact hfr1 ha⟩
    rng := fun y hy => by
      rcases List.mem_append.1 hy with hy | hy
      · exact h.rng y hy
      · rw [List.mem_singleton] at hy; subst hy; omega
    cl := fun a ha g => by
      rcases List.mem_append.1 g with g | g
      · exact List.mem_append.2 (Or.inl (h.cl a ha g))
      · rw [List.mem_singleton] at g
        exact List.mem_append.2 (Or.inl (hfr2 a ha g))
    fw := fun a ha p hp => by
      rcases Nat.lt_or_ge p out.length with c | c
      · rw [List.getElem?_append_left c] at hp
        obtain ⟨p', g1, g2⟩ := h.fw a ha p hp
        exact ⟨p', g1, by rw [List.getElem?_append_left (by omega)]; exact g2⟩
      · have hp2 : p = out.length := by
          rcases Nat.lt_or_ge p (out ++ [(u : Int)]).length with c2 | c2
          · simp at c2; omega
          · rw [List.getElem?_eq_none c2] at hp; cases hp
        subst hp2
        rw [List.getElem?_append_right (Nat.le_refl _), Nat.sub_self] at hp
        have e : (u : Int) = a.f1 := by simpa using hp
        have hin := hfr2 a ha e.symm
        obtain ⟨p', hp', g⟩ := List.mem_iff_getElem.1 hin
        exact ⟨p', hp', by rw [List.getElem?_append_left hp', List.getElem?_eq_getElem hp', g]⟩
    wt := fun z hz => by
      rw [h.wt z hz]
      congr 1
      unfold waitOf
      refine List.countP_congr (fun i hi => ?_)
      have hi := List.mem_range.1 hi
      simp only [decide_eq_true_eq]
      constructor
      · rintro ⟨g1, g2 | ⟨_, g⟩⟩
        · refine ⟨g1, ?_⟩
          by_cases e : (rd_T37 l (i : Int)).f0 = (u : Int)
          · exact Or.inr ⟨e, plc_mem.2 ⟨i, hi, e, rfl⟩⟩
          · exact Or.inl (fun g => (List.mem_append.1 g).elim g2 (fun g => e (List.mem_singleton.1 g)))
        · cases g
      · rintro ⟨g1, g2 | ⟨g2, _⟩⟩
        · exact ⟨g1, Or.inl (fun g => g2 (List.mem_append.2 (Or.inl g)))⟩
        · exact ⟨g1, Or.inl (g2 ▸ hfr1)⟩
    sorted := hs2
    qnod := hq2
    mem := fun y => by
      constructor
      · intro hy
        obtain ⟨z, g1, g2, g3, g4⟩ := (h.mem y).1 (List.mem_cons_of_mem _ hy)
        refine ⟨z, g1, g2, fun g => (List.mem_append.1 g).elim g3 (fun g => ?_), g4⟩
        rw [List.mem_singleton] at g
        rw [g2, g] at hy
        exact hq1 hy
      · rintro ⟨z, g1, g2, g3, g4⟩
        have := (h.mem y).2 ⟨z, g1, g2, fun g => g3 (List.mem_append.2 (Or.inl g)), g4⟩
        rcases List.mem_cons.1 this with e | e
        · rw [g2] at e; injection e with e _
          exact absurd (List.mem_append.2 (Or.inr (by rw [e]; exact List.mem_cons_self))) g3
        · exact e }
  refine ⟨d', q', h2, fun k => ?_⟩
  conv => lhs; unfold orderLoop
  rw [if_pos ⟨by show (0 : Int) ≤ (u : Int); omega, by rw [rowsAt_length]; show (u : Int) < (n : Int); omega, by omega, by omega⟩]
  simp only
  rw [rowsAt_rd _ _ _ _ _ (by omega) (by omega), h1]
  rfl
def cntTo (l : List S37) (j : Nat) (u : Int) : Nat := (List.range j).countP (fun (i : Nat) => decide ((rd_T37 l (i : Int)).f1 = u))
theorem cntTo_succ (l : List S37) (j : Nat) (u : Int) : cntTo l (j + 1) u = cntTo l j u + if (rd_T37 l (j : Int)).f1 = u then 1 else 0 := by
  unfold cntTo
  rw [List.range_succ, List.countP_append]
  simp
theorem cntTo_le (l : List S37) (j : Nat) (u : Int) : cntTo l j u ≤ j := by
  have := List.countP_le_length (p := fun (i : Nat) => decide ((rd_T37 l (i : Int)).f1 = u)) (l := List.range j)
  rw [List.length_range] at this
  exact this
theorem orderWait_ok {l : List S37} {n : Nat} (hfl : ∀ a ∈ l, (0 ≤ a.f0 ∧ a.f0 < (n : Int)) ∧ (0 ≤ a.f1 ∧ a.f1 < (n : Int))) (hl : l.length ≤ 200) (e : Nat) : ∀ (j : Nat) (d : List Int), j + e = l.length → d.length = n → (∀ u : Nat, u < n → rd d (u : Int) = (cntTo l j (u : Int) : Int)) →
    ∃ dW, orderWait (l.drop j) d = some dW ∧ dW.length = n ∧ ∀ u : Nat, u < n → rd dW (u : Int) = (cntTo l l.length (u : Int) : Int) := by
  induction e with
  | zero =>
    intro j d hj hd h
    have e : j = l.length := by omega
    subst e
    exact ⟨d, by rw [List.drop_length]; rfl, hd, h⟩
  | succ e ih =>
    intro j d hj hd h
    have hm := rdT_mem (l := l) (i := j) (by omega)
    obtain ⟨_, h1⟩ := hfl _ hm
    obtain ⟨w, hw⟩ : ∃ w : Nat, (rd_T37 l (j : Int)).f1 = (w : Int) := ⟨(rd_T37 l (j : Int)).f1.toNat, by omega⟩
    have hwn : w < n := by omega
    have hc := cntTo_le l j (w : Int)
    have hwrap : wrap64 (rd d (w : Int) + 1) = rd d (w : Int) + 1 := by rw [h w hwn]; unfold wrap64; omega
    obtain ⟨dW, g1, g2, g3⟩ := ih (j + 1) (d.set w (rd d (w : Int) + 1)) (by omega) (by rw [List.length_set]; exact hd) (fun u hu => by
      rw [rd_set (by rw [hd]; exact hwn), cntTo_succ, hw]
      by_cases c : u = w
      · subst c; rw [if_pos rfl, if_pos rfl, h u hu]; push_cast; rfl
      · rw [if_neg c, if_neg (fun e => c (Int.ofNat_inj.1 e).symm), h u hu]; rfl)
    refine ⟨dW, ?_, g2, g3⟩
    rw [drop_T37 (by omega)]
    unfold orderWait
    rw [hw, if_pos ⟨by omega, by rw [hd]; omega⟩, hwrap, Int.toNat_natCast]
    exact g1
theorem orderFree_ok {n : Nat} (hn : n ≤ 50) {d : List Int} (hd : d.length = n) (e : Nat) : ∀ (v : Nat) (q : List (Int × Int)), v + e = n → Sorted2 q → q.Nodup → (∀ x, x ∈ q ↔ ∃ u : Nat, u < v ∧ x = ((u : Int), (0 : Int)) ∧ rd d (u : Int) = 0) →
    ∃ q', orderFree (n : Int) v (d.drop v) q = some q' ∧ Sorted2 q' ∧ q'.Nodup ∧ (∀ x, x ∈ q' ↔ ∃ u : Nat, u < n ∧ x = ((u : Int), (0 : Int)) ∧ rd d (u : Int) = 0) := by
  induction e with
  | zero =>
    intro v q hv h1 h2 h3
    have e : v = n := by omega
    subst e
    exact ⟨q, by rw [List.drop_of_length_le (by omega)]; rfl, h1, h2, h3⟩
  | succ e ih =>
    intro v q hv h1 h2 h3
    have hql : q.length ≤ v := pile_short h2 (fun x hx => by obtain ⟨u, g1, g2, _⟩ := (h3 x).1 hx; exact ⟨u, g1, g2⟩)
    rw [drop_rd (by omega)]
    unfold orderFree
    rw [if_pos (by omega)]
    by_cases c : rd d (v : Int) = 0
    · rw [if_pos c, if_neg (by omega)]
      have hvq : ((v : Int), (0 : Int)) ∉ q := fun g => by
        obtain ⟨u, g1, g2, _⟩ := (h3 _).1 g
        injection g2 with g2 _
        have := Int.ofNat_inj.1 g2
        omega
      refine ih (v + 1) _ (by omega) (ins_sorted _ _ h1) (oins_nodup h2 hvq) (fun x => ?_)
      rw [oins_mem, h3]
      constructor
      · rintro (rfl | ⟨u, g1, g2, g3⟩)
        · exact ⟨v, by omega, rfl, c⟩
        · exact ⟨u, by omega, g2, g3⟩
      · rintro ⟨u, g1, g2, g3⟩
        by_cases e : u = v
        · subst e; exact Or.inl g2
        · exact Or.inr ⟨u, by omega, g2, g3⟩
    · rw [if_neg c]
      refine ih (v + 1) _ (by omega) h1 h2 (fun x => ?_)
      rw [h3]
      constructor
      · rintro ⟨u, g1, g2, g3⟩; exact ⟨u, by omega, g2, g3⟩
      · rintro ⟨u, g1, g2, g3⟩
        by_cases e : u = v
        · subst e; exact absurd g3 c
        · exact ⟨u, by omega, g2, g3⟩
structure Good (l : List S37) (n : Nat) (out : List Int) : Prop where
  nod : out.Nodup
  rng : ∀ x ∈ out, 0 ≤ x ∧ x < (n : Int)
  fw : Fw l out
theorem orderLoop_ok {l : List S37} {n : Nat} (hfl : ∀ a ∈ l, (0 ≤ a.f0 ∧ a.f0 < (n : Int)) ∧ (0 ≤ a.f1 ∧ a.f1 < (n : Int))) (hn : n ≤ 50) (hl : l.length ≤ 200) (C : List Int → List Int → Prop)
    (hend : ∀ out, (∀ w : Nat, w < n → ¬ Free l out (w : Int)) → out.length ≤ n → C out out)
    (hround : ∀ out u lr, u < n → Free l out ((u : Nat) : Int) → (∀ w : Nat, w < n → Free l out (w : Int) → u ≤ w) → out.length < n → C (out ++ [(u : Int)]) lr → C out lr) :
    ∀ (m : Nat) (d : List Int) (q : List (Int × Int)) (out : List Int) (v : Int), OIn l n d q out v [] → out.length + m = n → ∃ lr, (∀ k, m + 1 ≤ k → orderLoop l (rowsAt S37.f0 l n l.length) (n : Int) k d q out = some lr) ∧ Good l n lr ∧ C out lr := by
  intro m
  induction m with
  | zero =>
    intro d q out v h hm
    cases q with
    | nil => exact ⟨out, fun k hk => by obtain ⟨k, rfl⟩ : ∃ k', k = k' + 1 := ⟨k - 1, by omega⟩; rfl, ⟨h.nod, h.rng, h.fw⟩, hend out (h.none) (by omega)⟩
    | cons x q =>
      obtain ⟨u, g1, rfl, ⟨g2, _⟩, _⟩ := h.head
      have := nodup_ints (n := n) (q := out ++ [(u : Int)]) (List.nodup_append.2 ⟨h.nod, List.nodup_cons.2 ⟨List.not_mem_nil, List.nodup_nil⟩, fun a ha b hb e => by rw [List.mem_singleton] at hb; subst hb; subst e; exact g2 ha⟩) (fun y hy => by
        rcases List.mem_append.1 hy with hy | hy
        · exact h.rng y hy
        · rw [List.mem_singleton] at hy; subst hy; omega)
      simp at this
      omega
  | succ m ih =>
    intro d q out v h hm
    cases q with
    | nil => exact ⟨out, fun k hk => by obtain ⟨k, rfl⟩ : ∃ k', k = k' + 1 := ⟨k - 1, by omega⟩; rfl, ⟨h.nod, h.rng, h.fw⟩, hend out (h.none) (by omega)⟩
    | cons x q =>
      obtain ⟨u, g1, hx, g2, g3⟩ := h.head
      obtain ⟨d', q', h1, h2⟩ := order_step hfl hn hl h (by omega)
      obtain ⟨lr, e1, e2, e3⟩ := ih d' q' (out ++ [x.1]) x.1 h1 (by simp; omega)
      refine ⟨lr, fun k hk => ?_, e2, hround out u lr g1 g2 g3 (by omega) (by rw [hx] at e3; exact e3)⟩
      obtain ⟨k, rfl⟩ : ∃ k', k = k' + 1 := ⟨k - 1, by omega⟩
      rw [h2 k]
      exact e1 k (by omega)
theorem order_both {n : Int} {l : List S37} (b : Bool) (h : NetOk n l) (C : List Int → List Int → Prop)
    (hend : ∀ out, (∀ w : Nat, w < n.toNat → ¬ Free l out (w : Int)) → out.length ≤ n.toNat → C out out)
    (hround : ∀ out u lr, u < n.toNat → Free l out ((u : Nat) : Int) → (∀ w : Nat, w < n.toNat → Free l out (w : Int) → u ≤ w) → out.length < n.toNat → C (out ++ [(u : Int)]) lr → C out lr) :
    ∃ lr, Good l n.toNat lr ∧ C [] lr ∧ Ev (fun k => adj_Order.f k n b l) (if (lr.length : Int) < n then ([], false, 0) else (lr, true, 0)) := by
  have hnn : (n.toNat : Int) = n := by have := h.lo; omega
  have hlo := h.lo
  have hhi := h.hi
  have hll := h.len
  have hfl : ∀ a ∈ l, (0 ≤ a.f0 ∧ a.f0 < (n.toNat : Int)) ∧ (0 ≤ a.f1 ∧ a.f1 < (n.toNat : Int)) := fun a ha => by
    have := h.arcs a ha
    have h0 := this.f0; have h1 := this.f1
    omega
  obtain ⟨dW, w1, w2, w3⟩ := orderWait_ok hfl hll l.length 0 (List.replicate n.toNat 0) (by omega) (by simp) (fun u hu => by rw [rd_replicate hu]; rfl)
  rw [List.drop_zero] at w1
  obtain ⟨q0, q1, q2, q3, q4⟩ := orderFree_ok (n := n.toNat) (by omega) w2 n.toNat 0 [] (by omega) sorted2_nil List.nodup_nil (fun x => ⟨fun g => by (cases g), fun ⟨u, g, _⟩ => absurd g (Nat.not_lt_zero u)⟩)
  rw [List.drop_zero, hnn] at q1
  have hO : OIn l n.toNat dW q0 [] 0 [] := {
    len := w2
    nod := List.nodup_nil
    rng := fun x hx => absurd hx List.not_mem_nil
    cl := fun a _ g => absurd g List.not_mem_nil
    fw := fun a _ p hp => by simp at hp
    wt := fun u hu => by
      rw [w3 u hu]
      congr 1
      unfold cntTo waitOf
      refine List.countP_congr (fun i hi => ?_)
      simp
    sorted := q2, qnod := q3
    mem := fun x => by
      rw [q4]
      constructor
      · rintro ⟨u, g1, g2, g3⟩; exact ⟨u, g1, g2, List.not_mem_nil, g3⟩
      · rintro ⟨u, g1, g2, _, g3⟩; exact ⟨u, g1, g2, g3⟩ }
  obtain ⟨lr, e1, e2, e3⟩ := orderLoop_ok hfl (by omega) hll C hend hround n.toNat dW q0 [] 0 hO (by simp)
  refine ⟨lr, e2, e3, ?_⟩
  unfold adj_Order.f
  refine Ev.bind (by have := check_ev n b l; rw [checkErr_ok.2 h] at this; exact this) ?_
  have hg : 1 ≤ n ∧ n ≤ 50 := ⟨hlo, hhi⟩
  simp only [if_true, if_pos hg]
  refine Ev.bind (leaving_ev b h) (Ev.bind (a := dW) ?_ (Ev.bind (a := q0) ?_ (Ev.bind (a := lr) ?_ ?_)))
  · exact Ev.congr (fun k => w1) (Ev.now _)
  · exact Ev.congr (fun k => q1) (Ev.now _)
  · have : Ev (fun k => orderLoop l (rowsAt S37.f0 l n.toNat l.length) (n.toNat : Int) k dW q0 []) lr := ⟨_, e1⟩
    rw [hnn] at this
    exact this
  · by_cases c : (lr.length : Int) < n
    · simp only [if_pos c]; exact Ev.now _
    · simp only [if_neg c]; exact Ev.now _
end Go.Proofs.Ytgjgckpdilbbjaa.P
end
