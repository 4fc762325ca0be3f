/- A part of the proof: words, contracts, plain lemmas. Conditions: none. -/
import Derived.Test.YtgjgckpdilbbjaaZAdjSteps3
import Derived.Test.YtgjgckpdilbbjaaZAdjSteps10
import Derived.Test.YtgjgckpdilbbjaaZAdjSteps11
import Derived.Test.YtgjgckpdilbbjaaZAdjSteps14
import Derived.Test.YtgjgckpdilbbjaaZAdjSteps16
section
namespace Go.Proofs.Ytgjgckpdilbbjaa.Q
open Go.RowKit Go.Proofs.YtgjgckpdilbbjaaW.PrintWords Go.Proofs.YtgjgckpdilbbjaaW.PrintLast Go.Proofs.YtgjgckpdilbbjaaW.PrintMore
attribute [local go_sem] max2_int min2_int max_two min_four
set_option linter.unusedVariables false
set_option linter.unusedSimpArgs false
def ebbtideref05_nodes.f (a0 : Int) : Option (Int) := if a0 < 1 then (some 51) else (if a0 > 50 then (some 2) else (some 0))
def ebbtideref05_Arc.j0 : Nat → Bool → Int → Int → Int → Int → Option (Int)
 | 0, _, _, _, _, _ => none
 | k + 1, x34, x125000, x125001, x125002, x125003 => if x34 = true then (some 51) else (if x125002 > 1048576 then (some 2) else (if x125003 > 1048576 then (some 2) else (some 0)))
def ebbtideref05_Arc.f (k : Nat) (a0 : Int) (a1_0 : Int) (a1_1 : Int) (a1_2 : Int) (a1_3 : Int) : Option (Int) := if a1_0 < 0 then (ebbtideref05_Arc.j0 k true a1_0 a1_1 a1_2 a1_3) else (if a1_0 ≥ a0 then (ebbtideref05_Arc.j0 k true a1_0 a1_1 a1_2 a1_3) else (if a1_1 < 0 then (ebbtideref05_Arc.j0 k true a1_0 a1_1 a1_2 a1_3) else (if a1_1 ≥ a0 then (ebbtideref05_Arc.j0 k true a1_0 a1_1 a1_2 a1_3) else (if a1_2 < 0 then (ebbtideref05_Arc.j0 k true a1_0 a1_1 a1_2 a1_3) else (ebbtideref05_Arc.j0 k (decide (a1_3 < 0)) a1_0 a1_1 a1_2 a1_3)))))
def ebbtideref05_Check.l0 : Nat → Int → Int → Bool → List (S37) → Option (Int)
 | 0, _, _, _, _ => none
 | k + 1, x4, x126000, x126001, x126002 => if x4 < (x126002.length : Int) then (if 0 ≤ x4 then ((ebbtideref05_Arc.f k x126000 ((rd_T37 x126002 x4).f0) ((rd_T37 x126002 x4).f1) ((rd_T37 x126002 x4).f2) ((rd_T37 x126002 x4).f3)).bind fun t128 => (if t128 = 0 then (ebbtideref05_Check.l0 k (wrap64 (x4 + 1)) x126000 x126001 x126002) else (some t128))) else (none)) else (some 0)
def ebbtideref05_Check.f (k : Nat) (a0_0 : Int) (a0_1 : Bool) (l0_2 : List (S37)) : Option (Int) := (ebbtideref05_nodes.f a0_0).bind fun t126 => (if t126 = 0 then (if (l0_2.length : Int) > 200 then (some 2) else (ebbtideref05_Check.l0 k 0 a0_0 a0_1 l0_2)) else (some t126))
end Go.Proofs.Ytgjgckpdilbbjaa.Q
end
section
namespace Go.Proofs.Ytgjgckpdilbbjaa.P
open Go.RowKit Go.Proofs.Ytgjgckpdilbbjaa.Q Go.Proofs.YtgjgckpdilbbjaaW.PrintWords Go.Proofs.YtgjgckpdilbbjaaW.PrintLast Go.Proofs.YtgjgckpdilbbjaaW.PrintMore
theorem ev_cst {α : Type} {g : Nat → Option α} {r : α} (h : ∀ k, g (k + 1) = some r) : Ev g r := Ev.step h (Ev.now r)
theorem wrap1 {i : Nat} (h : i ≤ 4611686018427387904) : wrap64 ((i : Int) + 1) = ((i + 1 : Nat) : Int) := by unfold wrap64; omega
theorem rdA_of {l : List S37} {i : Nat} (h : i < l.length) : rd_T37 l (i : Int) = l[i] := by unfold rd_T37; simp [List.getD_eq_getElem?_getD, List.getElem?_eq_getElem h]
def arcErr (n : Int) (a : S37) : Int := if a.f0 < 0 ∨ a.f1 < 0 ∨ a.f2 < 0 ∨ a.f3 < 0 ∨ n ≤ a.f0 ∨ n ≤ a.f1 then 51 else if 1048576 < a.f2 ∨ 1048576 < a.f3 then 2 else 0
def firstErr (n : Int) : List S37 → Int
  | [] => 0
  | a :: r => if arcErr n a = 0 then firstErr n r else arcErr n a
def checkErr (n : Int) (l : List S37) : Int := if n < 1 then 51 else if 50 < n then 2 else if 200 < l.length then 2 else firstErr n l
structure ArcOk (n : Int) (a : S37) : Prop where
  f0 : 0 ≤ a.f0 ∧ a.f0 < n
  f1 : 0 ≤ a.f1 ∧ a.f1 < n
  f2 : 0 ≤ a.f2 ∧ a.f2 ≤ 1048576
  f3 : 0 ≤ a.f3 ∧ a.f3 ≤ 1048576
theorem arcErr_ok {n : Int} {a : S37} : arcErr n a = 0 ↔ ArcOk n a := by
  unfold arcErr
  constructor
  · intro h
    split at h
    · cases h
    · split at h
      · cases h
      · exact ⟨by omega, by omega, by omega, by omega⟩
  · rintro ⟨h0, h1, h2, h3⟩
    rw [if_neg (by omega), if_neg (by omega)]
theorem firstErr_ok {n : Int} {l : List S37} : firstErr n l = 0 ↔ ∀ a ∈ l, ArcOk n a := by
  induction l with
  | nil => simp [firstErr]
  | cons a l ih =>
    rw [firstErr]
    by_cases h : arcErr n a = 0
    · rw [if_pos h, ih]
      constructor
      · intro h2 x hx
        rcases List.mem_cons.1 hx with rfl | hx
        · exact arcErr_ok.1 h
        · exact h2 x hx
      · intro h2 x hx; exact h2 x (List.mem_cons_of_mem _ hx)
    · rw [if_neg h]
      constructor
      · intro h2; exact absurd h2 h
      · intro h2; exact absurd (arcErr_ok.2 (h2 a List.mem_cons_self)) h
structure NetOk (n : Int) (l : List S37) : Prop where
  lo : 1 ≤ n
  hi : n ≤ 50
  len : l.length ≤ 200
  arcs : ∀ a ∈ l, ArcOk n a
theorem checkErr_ok {n : Int} {l : List S37} : checkErr n l = 0 ↔ NetOk n l := by
  unfold checkErr
  constructor
  · intro h
    split at h
    · cases h
    · split at h
      · cases h
      · split at h
        · cases h
        · exact ⟨by omega, by omega, by omega, firstErr_ok.1 h⟩
  · rintro ⟨h0, h1, h2, h3⟩
    rw [if_neg (by omega), if_neg (by omega), if_neg (by omega)]
    exact firstErr_ok.2 h3
theorem arc_ev (n : Int) (a : S37) : Ev (fun k => netfmt_arc.f k n a.f0 a.f1 a.f2 a.f3) (arcErr n a) := by
  refine ev_cst fun k => ?_
  unfold netfmt_arc.f arcErr
  by_cases c : mn (mn (mn a.f0 a.f1) a.f2) a.f3 < 0
  · rw [if_pos c, netfmt_arc.j0, if_pos rfl, if_pos (by unfold mn at c; (repeat' split at c) <;> omega)]
  · rw [if_neg c, netfmt_arc.j0]
    have hc : 0 ≤ a.f0 ∧ 0 ≤ a.f1 ∧ 0 ≤ a.f2 ∧ 0 ≤ a.f3 := by unfold mn at c; (repeat' split at c) <;> omega
    by_cases c2 : mx a.f0 a.f1 ≥ n
    · rw [decide_eq_true c2, if_pos rfl, if_pos (by unfold mx at c2; split at c2 <;> omega)]
    · rw [decide_eq_false c2, if_neg (by decide)]
      have hc2 : a.f0 < n ∧ a.f1 < n := by unfold mx at c2; split at c2 <;> omega
      rw [if_neg (show ¬ (a.f0 < 0 ∨ a.f1 < 0 ∨ a.f2 < 0 ∨ a.f3 < 0 ∨ n ≤ a.f0 ∨ n ≤ a.f1) by omega)]
      by_cases c3 : a.f2 > 1048576
      · rw [if_pos c3, if_pos (by omega)]
      · rw [if_neg c3]
        by_cases c4 : a.f3 > 1048576
        · rw [if_pos c4, if_pos (by omega)]
        · rw [if_neg c4, if_neg (by omega)]
theorem rarc_ev (n : Int) (a : S37) : Ev (fun k => ebbtideref05_Arc.f k n a.f0 a.f1 a.f2 a.f3) (arcErr n a) := by
  refine ev_cst fun k => ?_
  unfold ebbtideref05_Arc.f arcErr
  simp only [ebbtideref05_Arc.j0]
  by_cases c0 : a.f0 < 0
  · rw [if_pos c0, if_pos trivial, if_pos (by omega)]
  · rw [if_neg c0]
    by_cases c1 : a.f0 ≥ n
    · rw [if_pos c1, if_pos trivial, if_pos (by omega)]
    · rw [if_neg c1]
      by_cases c2 : a.f1 < 0
      · rw [if_pos c2, if_pos trivial, if_pos (by omega)]
      · rw [if_neg c2]
        by_cases c3 : a.f1 ≥ n
        · rw [if_pos c3, if_pos trivial, if_pos (by omega)]
        · rw [if_neg c3]
          by_cases c4 : a.f2 < 0
          · rw [if_pos c4, if_pos trivial, if_pos (by omega)]
          · rw [if_neg c4]
            by_cases c5 : a.f3 < 0
            · rw [if_pos (decide_eq_true c5), if_pos (by omega)]
            · rw [if_neg (by simpa using c5), if_neg (show ¬ (a.f0 < 0 ∨ a.f1 < 0 ∨ a.f2 < 0 ∨ a.f3 < 0 ∨ n ≤ a.f0 ∨ n ≤ a.f1) by omega)]
              by_cases c6 : a.f2 > 1048576
              · rw [if_pos c6, if_pos (by omega)]
              · rw [if_neg c6]
                by_cases c7 : a.f3 > 1048576
                · rw [if_pos c7, if_pos (by omega)]
                · rw [if_neg c7, if_neg (by omega)]
theorem check_loop (n : Int) (b : Bool) (l : List S37) (hl : l.length ≤ 200) (d : Nat) : ∀ i, i + d = l.length → Ev (fun k => netfmt_Check.l0 k l (l.length : Int) (i : Int) n b l) (firstErr n (l.drop i)) := by
  induction d with
  | zero =>
    intro i hi
    rw [List.drop_eq_nil_of_le (by omega)]
    exact ev_cst fun k => by rw [netfmt_Check.l0, if_neg (by omega)]; rfl
  | succ d ih =>
    intro i hi
    have hlt : i < l.length := by omega
    refine Ev.step (f := fun k => (netfmt_arc.f k n l[i].f0 l[i].f1 l[i].f2 l[i].f3).bind fun t173 => if t173 = 0 then netfmt_Check.l0 k l (l.length : Int) ((i + 1 : Nat) : Int) n b l else some t173) (fun k => ?_) ?_
    · rw [netfmt_Check.l0, if_pos (by omega), if_pos (by omega), if_pos (by omega), rdA_of hlt, wrap1 (by omega)]
    · refine Ev.bind (arc_ev n l[i]) ?_
      rw [List.drop_eq_getElem_cons hlt, firstErr]
      by_cases c : arcErr n l[i] = 0
      · simp only [c, if_true]
        exact ih (i + 1) (by omega)
      · simp only [c, if_false]
        exact Ev.now _
theorem rcheck_loop (n : Int) (b : Bool) (l : List S37) (hl : l.length ≤ 200) (d : Nat) : ∀ i, i + d = l.length → Ev (fun k => ebbtideref05_Check.l0 k (i : Int) n b l) (firstErr n (l.drop i)) := by
  induction d with
  | zero =>
    intro i hi
    rw [List.drop_eq_nil_of_le (by omega)]
    exact ev_cst fun k => by rw [ebbtideref05_Check.l0, if_neg (by omega)]; rfl
  | succ d ih =>
    intro i hi
    have hlt : i < l.length := by omega
    refine Ev.step (f := fun k => (ebbtideref05_Arc.f k n l[i].f0 l[i].f1 l[i].f2 l[i].f3).bind fun t184 => if t184 = 0 then ebbtideref05_Check.l0 k ((i + 1 : Nat) : Int) n b l else some t184) (fun k => ?_) ?_
    · rw [ebbtideref05_Check.l0, if_pos (by omega), if_pos (by omega), rdA_of hlt, wrap1 (by omega)]
    · refine Ev.bind (rarc_ev n l[i]) ?_
      rw [List.drop_eq_getElem_cons hlt, firstErr]
      by_cases c : arcErr n l[i] = 0
      · simp only [c, if_true]
        exact ih (i + 1) (by omega)
      · simp only [c, if_false]
        exact Ev.now _
theorem nodes_eq (n : Int) : netfmt_nodes.f n = some (if n < 1 then 51 else if 50 < n then 2 else 0) := by
  unfold netfmt_nodes.f
  by_cases c : n < 1
  · rw [if_pos c, if_pos c]
  · rw [if_neg c, if_neg c]
    by_cases c2 : n > 50
    · rw [if_pos c2, if_pos c2]
    · rw [if_neg c2, if_neg c2]
theorem rnodes_eq (n : Int) : ebbtideref05_nodes.f n = some (if n < 1 then 51 else if 50 < n then 2 else 0) := nodes_eq n
theorem check_ev (n : Int) (b : Bool) (l : List S37) : Ev (fun k => netfmt_Check.f k n b l) (checkErr n l) := by
  unfold netfmt_Check.f checkErr
  rw [nodes_eq]
  simp only [Option.bind_some]
  by_cases c : n < 1
  · simp only [c, if_true, show ¬ (51 : Int) = 0 by decide, if_false]; exact Ev.now _
  · by_cases c2 : 50 < n
    · simp only [c, c2, if_true, if_false, show ¬ (2 : Int) = 0 by decide]; exact Ev.now _
    · simp only [c, c2, if_true, if_false]
      by_cases c3 : 200 < l.length
      · simp only [c3, if_true, show (l.length : Int) > 200 by omega]; exact Ev.now _
      · simp only [c3, if_false, show ¬ (l.length : Int) > 200 by omega]
        exact check_loop n b l (by omega) l.length 0 (by omega)
theorem rcheck_ev (n : Int) (b : Bool) (l : List S37) : Ev (fun k => ebbtideref05_Check.f k n b l) (checkErr n l) := by
  unfold ebbtideref05_Check.f checkErr
  rw [rnodes_eq]
  simp only [Option.bind_some]
  by_cases c : n < 1
  · simp only [c, if_true, show ¬ (51 : Int) = 0 by decide, if_false]; exact Ev.now _
  · by_cases c2 : 50 < n
    · simp only [c, c2, if_true, if_false, show ¬ (2 : Int) = 0 by decide]; exact Ev.now _
    · simp only [c, c2, if_true, if_false]
      by_cases c3 : 200 < l.length
      · simp only [c3, if_true, show (l.length : Int) > 200 by omega]; exact Ev.now _
      · simp only [c3, if_false, show ¬ (l.length : Int) > 200 by omega]
        exact rcheck_loop n b l (by omega) l.length 0 (by omega)
end Go.Proofs.Ytgjgckpdilbbjaa.P
end
section
namespace Go.Proofs.Ytgjgckpdilbbjaa.P
set_option linter.unusedSimpArgs false
set_option linter.unusedVariables false
open Go.RowKit Go.Proofs.Ytgjgckpdilbbjaa.Q Go.Proofs.YtgjgckpdilbbjaaW.PrintWords Go.Proofs.YtgjgckpdilbbjaaW.PrintLast Go.Proofs.YtgjgckpdilbbjaaW.PrintMore
theorem awake06_at : ebbtidelaw06_awake.f 60 = some true := by decide +kernel
theorem awake06_ev : Ev (fun k => ebbtidelaw06_awake.f k) true := Ev.of (fun k => ebbtidelaw06_awake.mono k) awake06_at
def placesAt (e : S37 → Int) (l : List S37) (i : Nat) (v : Int) : List Int := ((List.range i).filter (fun (j : Nat) => e (rd_T37 l (j : Int)) == v)).map (fun (j : Nat) => (j : Int))
theorem placesAt_succ (e : S37 → Int) (l : List S37) (i : Nat) (v : Int) : placesAt e l (i + 1) v = if e (rd_T37 l (i : Int)) = v then placesAt e l i v ++ [(i : Int)] else placesAt e l i v := by
  unfold placesAt
  rw [List.range_succ, List.filter_append]
  by_cases c : e (rd_T37 l (i : Int)) = v
  · rw [if_pos c, List.map_append]
    simp [c]
  · rw [if_neg c]
    simp [c]
theorem placesAt_length (e : S37 → Int) (l : List S37) (i : Nat) (v : Int) : (placesAt e l i v).length ≤ i := by
  unfold placesAt
  rw [List.length_map]
  refine Nat.le_trans (List.length_filter_le _ _) ?_
  rw [List.length_range]; exact Nat.le_refl _
def rowsAt (e : S37 → Int) (l : List S37) (n i : Nat) : List (List Int) := (List.range n).map (fun (v : Nat) => placesAt e l i (v : Int))
theorem rowsAt_length (e : S37 → Int) (l : List S37) (n i : Nat) : (rowsAt e l n i).length = n := by unfold rowsAt; simp
theorem rowsAt_rd (e : S37 → Int) (l : List S37) (n i : Nat) (v : Int) (h0 : 0 ≤ v) (h1 : v < (n : Int)) : rd_L3 (rowsAt e l n i) v = placesAt e l i v := by
  unfold rd_L3 rowsAt
  rw [List.getD_eq_getElem?_getD, List.getElem?_map, List.getElem?_range (by omega)]
  simp only [Option.map_some, Option.getD_some]
  rw [Int.toNat_of_nonneg h0]
theorem rowsAt_zero (e : S37 → Int) (l : List S37) (n : Nat) : rowsAt e l n 0 = List.replicate n [] := by
  apply List.ext_getElem
  · simp [rowsAt]
  · intro i h1 h2; simp [rowsAt, placesAt]
theorem rowsAt_step (e : S37 → Int) (l : List S37) (n i : Nat) (h0 : 0 ≤ e (rd_T37 l (i : Int))) (h1 : e (rd_T37 l (i : Int)) < (n : Int)) : (rowsAt e l n i).set (e (rd_T37 l (i : Int))).toNat (rd_L3 (rowsAt e l n i) (e (rd_T37 l (i : Int))) ++ [(i : Int)]) = rowsAt e l n (i + 1) := by
  rw [rowsAt_rd e l n i _ h0 h1]
  apply List.ext_getElem
  · simp [rowsAt]
  · intro j h2 h3
    rw [rowsAt_length] at h3
    rw [List.getElem_set]
    have e1 : (rowsAt e l n (i + 1))[j]'(by rw [rowsAt_length]; exact h3) = placesAt e l (i + 1) (j : Int) := by simp [rowsAt]
    have e2 : (rowsAt e l n i)[j]'(by rw [rowsAt_length]; exact h3) = placesAt e l i (j : Int) := by simp [rowsAt]
    rw [e1, placesAt_succ]
    by_cases c : e (rd_T37 l (i : Int)) = (j : Int)
    · rw [if_pos (by omega), if_pos c, c]
    · rw [if_neg (by omega), if_neg c, e2]
theorem rdT_mem {l : List S37} {i : Nat} (h : i < l.length) : rd_T37 l (i : Int) ∈ l := by rw [rdA_of h]; exact List.getElem_mem h
theorem lists_loop (n : Nat) (l : List S37) (hok : ∀ a ∈ l, ArcOk (n : Int) a) (hl : l.length ≤ 200) (d : Nat) : ∀ i, i + d = l.length → Ev (fun k => adj_lists.l0 k (rowsAt S37.f0 l n i) l (l.length : Int) (i : Int)) (rowsAt S37.f0 l n l.length) := by
  induction d with
  | zero =>
    intro i hi
    rw [show i = l.length by omega]
    exact ev_cst fun k => by rw [adj_lists.l0, if_neg (by omega)]
  | succ d ih =>
    intro i hi
    have ha := hok _ (rdT_mem (l := l) (i := i) (by omega))
    refine Ev.step (fun k => ?_) (ih (i + 1) (by omega))
    have hp := placesAt_length S37.f0 l i ((rd_T37 l (i : Int)).f0)
    rw [adj_lists.l0, if_pos (by omega), if_pos (by omega), if_pos (by omega)]
    simp only [adj_from.f, Option.bind_some]
    rw [if_pos ha.f0.1, if_pos (by rw [rowsAt_length]; exact ha.f0.2), if_pos (by rw [rowsAt_rd _ _ _ _ _ ha.f0.1 ha.f0.2]; omega), rowsAt_step S37.f0 l n i ha.f0.1 ha.f0.2, wrap1 (by omega)]
def leav (n : Int) (l : List S37) : List (List Int) := rowsAt S37.f0 l n.toNat l.length
theorem leaving_ev {n : Int} {l : List S37} (b : Bool) (h : NetOk n l) : Ev (fun k => adj_Leaving.f k n b l) (leav n l) := by
  have hn : (n.toNat : Int) = n := Int.toNat_of_nonneg (by have := h.lo; omega)
  have hloop := lists_loop n.toNat l (by rw [hn]; exact h.arcs) h.len l.length 0 (by omega)
  unfold adj_Leaving.f
  refine Ev.bind (Ev.congr (fun k => ?_) hloop) (Ev.now _)
  · unfold adj_lists.f
    rw [if_pos (by have := h.lo; omega), if_pos (by have := h.hi; omega), rowsAt_zero]
    rfl
theorem rd_set {d : List Int} {i : Nat} {x : Int} (hi : i < d.length) (v : Nat) : rd (d.set i x) (v : Int) = if v = i then x else rd d (v : Int) := by
  unfold rd
  rw [Int.toNat_natCast, List.getD_eq_getElem?_getD, List.getD_eq_getElem?_getD, List.getElem?_set]
  by_cases c : i = v
  · subst c; rw [if_pos rfl, if_pos hi, if_pos rfl]; rfl
  · rw [if_neg c, if_neg (fun e => c e.symm)]
theorem rd_ext {a b : List Int} (h : a.length = b.length) (hv : ∀ v : Nat, v < a.length → rd a (v : Int) = rd b (v : Int)) : a = b := by
  apply List.ext_getElem h
  intro i h1 h2
  have := hv i h1
  unfold rd at this
  rw [Int.toNat_natCast, List.getD_eq_getElem?_getD, List.getD_eq_getElem?_getD, List.getElem?_eq_getElem h1, List.getElem?_eq_getElem h2] at this
  exact this
theorem rd_replicate {n : Nat} {x : Int} {v : Nat} (h : v < n) : rd (List.replicate n x) (v : Int) = x := by
  unfold rd
  rw [Int.toNat_natCast, List.getD_eq_getElem?_getD, List.getElem?_replicate, if_pos h]; rfl
theorem countP_step {α : Type} {p q : α → Bool} : ∀ {l : List α}, (∀ x ∈ l, p x = true → q x = true) → (∃ x ∈ l, q x = true ∧ p x = false) → l.countP p + 1 ≤ l.countP q
  | [], _, h => by obtain ⟨x, hx, _⟩ := h; cases hx
  | y :: l, h, h2 => by
    have ih0 : l.countP p ≤ l.countP q := List.countP_mono_left (fun x hx => h x (List.mem_cons_of_mem _ hx))
    rw [List.countP_cons, List.countP_cons]
    obtain ⟨x, hx, hq, hp⟩ := h2
    rcases List.mem_cons.1 hx with rfl | hx
    · rw [hq, hp]; simp; omega
    · have ih := countP_step (l := l) (p := p) (q := q) (fun x hx => h x (List.mem_cons_of_mem _ hx)) ⟨x, hx, hq, hp⟩
      have h0 := h y List.mem_cons_self
      by_cases c : p y = true
      · rw [c, h0 c]; simp; omega
      · rw [Bool.not_eq_true] at c
        rw [c]
        simp
        omega
theorem nodup_short : ∀ {n : Nat} {l : List Nat}, l.Nodup → (∀ x ∈ l, x < n) → l.length ≤ n
  | 0, [], _, _ => Nat.le_refl _
  | 0, x :: l, _, h => absurd (h x List.mem_cons_self) (Nat.not_lt_zero _)
  | n + 1, l, hn, h => by
    have h1 : (l.filter (fun x => x != n)).length ≤ n := nodup_short (List.Pairwise.filter _ hn) (fun x hx => by
      have h2 := List.mem_filter.1 hx
      have h3 := h x h2.1
      have h4 : x ≠ n := by simpa using h2.2
      omega)
    have h2 : l.length ≤ (l.filter (fun x => x != n)).length + 1 := by
      clear h h1
      induction l with
      | nil => exact Nat.zero_le _
      | cons y l ih =>
        obtain ⟨g1, g2⟩ := List.nodup_cons.1 hn
        by_cases c : y = n
        · subst c
          have : l.filter (fun x => x != y) = l := List.filter_eq_self.2 (fun x hx => by
            have : x ≠ y := fun e => g1 (e ▸ hx)
            simpa using this)
          rw [List.filter_cons, this]; simp
        · rw [List.filter_cons, if_pos (by simpa using c)]
          have := ih g2
          simp only [List.length_cons]; omega
    omega
inductive Wk (l : List S37) (wt : S37 → Int) (s : Int) : Int → Int → Prop
  | zero : Wk l wt s 0 s
  | step {c v : Int} (a : S37) : Wk l wt s c v → a ∈ l → a.f0 = v → Wk l wt s (c + wt a) a.f1
structure Dist (l : List S37) (wt : S37 → Int) (s : Int) (n : Nat) (d : List Int) : Prop where
  len : d.length = n
  spec : ∀ v : Nat, v < n → (rd d (v : Int) = -1 ∧ ∀ c, ¬ Wk l wt s c (v : Int)) ∨ (0 ≤ rd d (v : Int) ∧ Wk l wt s (rd d (v : Int)) (v : Int) ∧ ∀ c, Wk l wt s c (v : Int) → rd d (v : Int) ≤ c)
section
variable {l : List S37} {wt : S37 → Int} {s n : Nat}
structure Fine (l : List S37) (wt : S37 → Int) (s n : Nat) : Prop where
  src : s < n
  arcs : ∀ a ∈ l, (0 ≤ a.f0 ∧ a.f0 < (n : Int)) ∧ (0 ≤ a.f1 ∧ a.f1 < (n : Int)) ∧ 0 ≤ wt a
theorem Wk.node (hf : Fine l wt s n) {c v : Int} (h : Wk l wt (s : Int) c v) : ∃ u : Nat, v = (u : Int) ∧ u < n := by
  cases h with
  | zero => exact ⟨s, rfl, hf.src⟩
  | step a _ ha _ => have := (hf.arcs a ha).2.1; exact ⟨a.f1.toNat, by omega, by omega⟩
theorem dist_of {d : List Int} (hf : Fine l wt s n) (hlen : d.length = n) (hsrc : rd d (s : Int) = 0) (sound : ∀ v : Nat, v < n → rd d (v : Int) = -1 ∨ (0 ≤ rd d (v : Int) ∧ Wk l wt (s : Int) (rd d (v : Int)) (v : Int)))
    (closed : ∀ a ∈ l, 0 ≤ rd d a.f0 → 0 ≤ rd d a.f1 ∧ rd d a.f1 ≤ rd d a.f0 + wt a) : Dist l wt (s : Int) n d := by
  have hw : ∀ c v, Wk l wt (s : Int) c v → 0 ≤ rd d v ∧ rd d v ≤ c := by
    intro c v h
    induction h with
    | zero => rw [hsrc]; exact ⟨Int.le_refl _, Int.le_refl _⟩
    | step a _ ha e ih =>
      subst e
      have := closed a ha ih.1
      exact ⟨this.1, by omega⟩
  refine ⟨hlen, fun v hv => ?_⟩
  rcases sound v hv with h | ⟨h1, h2⟩
  · exact Or.inl ⟨h, fun c hc => by have := (hw _ _ hc).1; omega⟩
  · exact Or.inr ⟨h1, h2, fun c hc => (hw _ _ hc).2⟩
theorem Dist.val {d : List Int} (hf : Fine l wt s n) (h : Dist l wt (s : Int) n d) {c v : Int} (hw : Wk l wt (s : Int) c v) : 0 ≤ rd d v ∧ Wk l wt (s : Int) (rd d v) v ∧ rd d v ≤ c := by
  obtain ⟨u, rfl, hu⟩ := hw.node hf
  rcases h.spec u hu with ⟨_, h2⟩ | ⟨h1, h2, h3⟩
  · exact absurd hw (h2 _)
  · exact ⟨h1, h2, h3 _ hw⟩
theorem Dist.src {d : List Int} (hf : Fine l wt s n) (h : Dist l wt (s : Int) n d) : rd d (s : Int) = 0 := by
  have := h.val hf (Wk.zero (l := l) (wt := wt))
  omega
theorem Dist.get {d : List Int} (h : Dist l wt (s : Int) n d) {v : Nat} (hv : v < n) (h0 : 0 ≤ rd d (v : Int)) : Wk l wt (s : Int) (rd d (v : Int)) (v : Int) := by
  rcases h.spec v hv with ⟨h1, h2⟩ | ⟨h1, h2, h3⟩
  · omega
  · exact h2
theorem Dist.closed {d : List Int} (hf : Fine l wt s n) (h : Dist l wt (s : Int) n d) (a : S37) (ha : a ∈ l) (h0 : 0 ≤ rd d a.f0) : 0 ≤ rd d a.f1 ∧ rd d a.f1 ≤ rd d a.f0 + wt a := by
  have hn := (hf.arcs a ha).1
  have e : a.f0 = ((a.f0.toNat : Nat) : Int) := by omega
  have hw := h.get (v := a.f0.toNat) (by omega) (by rw [← e]; exact h0)
  rw [← e] at hw
  have := h.val hf (Wk.step a hw ha rfl)
  exact ⟨this.1, this.2.2⟩
theorem Dist.leaves {d : List Int} (hf : Fine l wt s n) (h : Dist l wt (s : Int) n d) (A : Int → Prop) (hs : A (s : Int)) {c v : Int} (hw : Wk l wt (s : Int) c v) : rd d v = c → ¬ A v → ∃ a ∈ l, A a.f0 ∧ ¬ A a.f1 ∧ 0 ≤ rd d a.f0 ∧ rd d a.f1 = rd d a.f0 + wt a := by
  induction hw with
  | zero => intro _ hn; exact absurd hs hn
  | step a hw ha e ih =>
    intro hc hn
    subst e
    have h1 := h.val hf hw
    have h2 := h.closed hf a ha h1.1
    by_cases ca : A a.f0
    · exact ⟨a, ha, ca, hn, h1.1, by omega⟩
    · exact ih (by omega) ca
theorem Dist.tight {d : List Int} (hf : Fine l wt s n) (h : Dist l wt (s : Int) n d) {v : Nat} (hv : v < n) (h0 : 0 ≤ rd d (v : Int)) (hne : v ≠ s) : ∃ a ∈ l, a.f1 = (v : Int) ∧ 0 ≤ rd d a.f0 ∧ rd d (v : Int) = rd d a.f0 + wt a := by
  have hw := h.get hv h0
  generalize hc : rd d (v : Int) = c at hw h0
  generalize hx : (v : Int) = x at hw hc
  cases hw with
  | zero => exact absurd (Int.ofNat_inj.1 hx) hne
  | step a hw ha e =>
    subst e
    have h1 := h.val hf hw
    have h2 := h.closed hf a ha h1.1
    exact ⟨a, ha, rfl, h1.1, by omega⟩
end
end Go.Proofs.Ytgjgckpdilbbjaa.P
end
section
namespace Go.Proofs.Ytgjgckpdilbbjaa.Q
open Go.RowKit Go.Proofs.YtgjgckpdilbbjaaW.PrintWords Go.Proofs.YtgjgckpdilbbjaaW.PrintLast Go.Proofs.YtgjgckpdilbbjaaW.PrintMore
attribute [local go_sem] max2_int min2_int max_two min_four
set_option linter.unusedVariables false
set_option linter.unusedSimpArgs false
def ebbtideref06_Node.f (a0_0 : Int) (a0_1 : Bool) (l0_2 : List (S37)) (a1 : Int) : Option (Bool) := if a1 ≥ 0 then (some (decide (a1 < a0_0))) else (some false)
mutual
def ebbtideref06_Hops.l0 : Nat → Int → List Int → Int → Int → Bool → List (S37) → Option (List Int × Int)
 | 0, _, _, _, _, _, _ => none
 | k + 1, x1, x7, x8, x131000, x131001, x131002 => if x8 < x131000 then (if x7.length < 17592186044416 then (ebbtideref06_Hops.l0 k x1 (x7 ++ [(-1)]) (wrap64 (x8 + 1)) x131000 x131001 x131002) else (none)) else (if 0 ≤ x1 then (if x1 < (x7.length : Int) then (ebbtideref06_Hops.l1 k (x7.set (x1 : Int).toNat 0) 0 x131000 x131001 x131002) else (none)) else (none))
def ebbtideref06_Hops.l1 : Nat → List Int → Int → Int → Bool → List (S37) → Option (List Int × Int)
 | 0, _, _, _, _, _ => none
 | k + 1, x7, x9, x131000, x131001, x131002 => if x9 < x131000 then (ebbtideref06_Hops.l2 k x7 x9 0 x131000 x131001 x131002) else (some (x7, 0))
def ebbtideref06_Hops.l2 : Nat → List Int → Int → Int → Int → Bool → List (S37) → Option (List Int × Int)
 | 0, _, _, _, _, _, _ => none
 | k + 1, x7, x9, x10, x131000, x131001, x131002 => if x10 < (x131002.length : Int) then (if 0 ≤ x10 then (if 0 ≤ ((rd_T37 x131002 x10).f0) then (if ((rd_T37 x131002 x10).f0) < (x7.length : Int) then (if (rd x7 ((rd_T37 x131002 x10).f0)) = x9 then (if 0 ≤ ((rd_T37 x131002 x10).f1) then (if ((rd_T37 x131002 x10).f1) < (x7.length : Int) then (if (rd x7 ((rd_T37 x131002 x10).f1)) < 0 then (ebbtideref06_Hops.l2 k (x7.set (((rd_T37 x131002 x10).f1) : Int).toNat (wrap64 (x9 + 1))) x9 (wrap64 (x10 + 1)) x131000 x131001 x131002) else (ebbtideref06_Hops.l2 k x7 x9 (wrap64 (x10 + 1)) x131000 x131001 x131002)) else (none)) else (none)) else (ebbtideref06_Hops.l2 k x7 x9 (wrap64 (x10 + 1)) x131000 x131001 x131002)) else (none)) else (none)) else (none)) else (ebbtideref06_Hops.l1 k x7 (wrap64 (x9 + 1)) x131000 x131001 x131002)
end
def ebbtideref06_Hops.f (k : Nat) (a0_0 : Int) (a0_1 : Bool) (l0_2 : List (S37)) (a1 : Int) : Option (List Int × Int) := (ebbtideref05_Check.f k a0_0 a0_1 l0_2).bind fun t131 => (if t131 = 0 then ((ebbtideref06_Node.f a0_0 a0_1 l0_2 a1).bind fun t132 => (if t132 = true then (ebbtideref06_Hops.l0 k a1 ([] : List Int) 0 a0_0 a0_1 l0_2) else (some (([] : List Int), 1)))) else (some (([] : List Int), t131)))
end Go.Proofs.Ytgjgckpdilbbjaa.Q
end
section
namespace Go.Proofs.Ytgjgckpdilbbjaa.P
set_option linter.unusedSimpArgs false
set_option linter.unusedVariables false
open Go.RowKit Go.Proofs.Ytgjgckpdilbbjaa.Q Go.Proofs.YtgjgckpdilbbjaaW.PrintWords Go.Proofs.YtgjgckpdilbbjaaW.PrintLast Go.Proofs.YtgjgckpdilbbjaaW.PrintMore
abbrev one1 : S37 → Int := fun _ => 1
theorem nodup_ints {n : Nat} {q : List Int} (hn : q.Nodup) (h : ∀ x ∈ q, 0 ≤ x ∧ x < (n : Int)) : q.length ≤ n := by
  have h1 : (q.map Int.toNat).Nodup := by
    refine List.pairwise_map.2 (List.Pairwise.imp_of_mem ?_ hn)
    intro a b ha hb hab e
    have h1 := h a ha
    have h2 := h b hb
    have e' : a.toNat = b.toNat := e
    have e3 : a = b := by omega
    exact hab e3
  have := nodup_short (n := n) h1 (fun x hx => by
    obtain ⟨y, hy, rfl⟩ := List.mem_map.1 hx
    have := h y hy
    omega)
  rw [List.length_map] at this
  exact this
theorem plc_mem {e : S37 → Int} {l : List S37} {v x : Int} : x ∈ placesAt e l l.length v ↔ ∃ j : Nat, j < l.length ∧ e (rd_T37 l (j : Int)) = v ∧ x = (j : Int) := by
  unfold placesAt
  rw [List.mem_map]
  constructor
  · rintro ⟨j, hj, rfl⟩
    rw [List.mem_filter, List.mem_range] at hj
    exact ⟨j, hj.1, by simpa using hj.2, rfl⟩
  · rintro ⟨j, h1, h2, rfl⟩
    exact ⟨j, List.mem_filter.2 ⟨List.mem_range.2 h1, by simpa using h2⟩, rfl⟩
theorem mem_rdT {l : List S37} {a : S37} (h : a ∈ l) : ∃ j : Nat, j < l.length ∧ rd_T37 l (j : Int) = a := by
  obtain ⟨j, hj, e⟩ := List.mem_iff_getElem.1 h
  exact ⟨j, hj, by rw [rdA_of hj]; exact e⟩
def Shut (wt : S37 → Int) (d : List Int) (a : S37) : Prop := 0 ≤ rd d a.f1 ∧ rd d a.f1 ≤ rd d a.f0 + wt a
def negs (d : List Int) : Nat := d.countP (fun x => decide (x < 0))
theorem negs_set {d : List Int} {i : Nat} {x : Int} (hi : i < d.length) (h0 : rd d (i : Int) < 0) (h1 : 0 ≤ x) : negs (d.set i x) + 1 = negs d := by
  unfold negs
  have e : rd d (i : Int) = d[i] := by unfold rd; rw [Int.toNat_natCast, List.getD_eq_getElem?_getD, List.getElem?_eq_getElem hi]; rfl
  rw [e] at h0
  have hp : 0 < d.countP (fun x => decide (x < 0)) := List.countP_pos_iff.2 ⟨d[i], List.getElem_mem hi, by simpa using h0⟩
  rw [List.countP_set hi]
  have : ¬ x < 0 := by omega
  simp [h0, this]
  omega
structure BIn (l : List S37) (s n : Nat) (d q : List Int) (v : Nat) (rest : List Int) : Prop where
  len : d.length = n
  src : rd d (s : Int) = 0
  sound : ∀ u : Nat, u < n → rd d (u : Int) = -1 ∨ (0 ≤ rd d (u : Int) ∧ Wk l one1 (s : Int) (rd d (u : Int)) (u : Int))
  qn : q.Nodup
  qr : ∀ x ∈ q, 0 ≤ x ∧ x < (n : Int) ∧ 0 ≤ rd d x
  vr : v < n
  v0 : 0 ≤ rd d (v : Int)
  lo : ∀ x ∈ q, rd d (v : Int) ≤ rd d x
  hi : ∀ u : Nat, u < n → rd d (u : Int) ≤ rd d (v : Int) + 1
  sorted : q.Pairwise (fun a b => rd d a ≤ rd d b)
  bnd : ∀ u : Nat, u < n → rd d (u : Int) + (negs d : Int) ≤ (n : Int)
  done : ∀ i : Nat, i < l.length → 0 ≤ rd d (rd_T37 l (i : Int)).f0 → (rd_T37 l (i : Int)).f0 ∈ q ∨ ((rd_T37 l (i : Int)).f0 = (v : Int) ∧ (i : Int) ∈ rest) ∨ Shut one1 d (rd_T37 l (i : Int))
theorem hopsIn_ok {l : List S37} {s n : Nat} (hf : Fine l one1 s n) (hn : n ≤ 50) (v : Nat) : ∀ (rest d q : List Int), (∀ x ∈ rest, ∃ j : Nat, j < l.length ∧ (rd_T37 l (j : Int)).f0 = (v : Int) ∧ x = (j : Int)) → BIn l s n d q v rest →
    ∃ d' q', hopsIn l (n : Int) (v : Int) rest d q = some (d', q') ∧ BIn l s n d' q' v [] ∧ negs d' + q'.length = negs d + q.length
  | [], d, q, _, h => ⟨d, q, rfl, h, rfl⟩
  | x :: rest, d, q, hr, h => by
    obtain ⟨j, hj, hjv, rfl⟩ := hr x List.mem_cons_self
    have hr' : ∀ x ∈ rest, ∃ j : Nat, j < l.length ∧ (rd_T37 l (j : Int)).f0 = (v : Int) ∧ x = (j : Int) := fun x hx => hr x (List.mem_cons_of_mem _ hx)
    have hmem := rdT_mem hj
    obtain ⟨hw0, hw1, _⟩ := hf.arcs _ hmem
    generalize hA : rd_T37 l (j : Int) = A at hjv hmem hw0 hw1
    obtain ⟨w, hw⟩ : ∃ w : Nat, A.f1 = (w : Int) := ⟨A.f1.toNat, by omega⟩
    have hwn : w < n := by omega
    have hwl : w < d.length := by rw [h.len]; exact hwn
    have hv1 := h.hi v h.vr
    have hvb : rd d (v : Int) + 1 < 1000000000 := by
      have := h.bnd v h.vr
      omega
    unfold hopsIn
    rw [hA, hw, if_pos ⟨by omega, by omega, by omega, by rw [h.len]; omega⟩]
    by_cases c : rd d (w : Int) < 0
    · rw [if_pos c, Int.toNat_natCast, wrapId (by have := h.v0; omega) (by omega)]
      have hwq : (w : Int) ∉ q := fun e => by have := (h.qr _ e).2.2; omega
      have hqn : (q ++ [(w : Int)]).Nodup := List.nodup_append.2 ⟨h.qn, List.nodup_cons.2 ⟨List.not_mem_nil, List.nodup_nil⟩, fun a ha b hb e => by rw [List.mem_singleton] at hb; subst hb; subst e; exact hwq ha⟩
      have hql : q.length + 1 ≤ n := by
        have := nodup_ints (n := n) hqn (fun x hx => by
          rcases List.mem_append.1 hx with hx | hx
          · have := h.qr x hx; omega
          · rw [List.mem_singleton] at hx; subst hx; omega)
        simpa using this
      rw [if_neg (by omega)]
      have hst : ∀ u : Nat, rd (d.set w (rd d (v : Int) + 1)) (u : Int) = if u = w then rd d (v : Int) + 1 else rd d (u : Int) := fun u => rd_set hwl u
      have hne : ∀ x : Int, 0 ≤ x → 0 ≤ rd d x → rd (d.set w (rd d (v : Int) + 1)) x = rd d x := by
        intro x hx h0
        have e : x = ((x.toNat : Nat) : Int) := by omega
        rw [e, hst, if_neg (fun e2 => by rw [e, e2] at h0; omega)]
      have hv' := hne (v : Int) (by omega) h.v0
      obtain ⟨d', q', h1, h2, h3⟩ := hopsIn_ok hf hn v rest (d.set w (rd d (v : Int) + 1)) (q ++ [(w : Int)]) hr' {
        len := by rw [List.length_set]; exact h.len
        src := by rw [hne _ (by omega) (by rw [h.src]; exact Int.le_refl _)]; exact h.src
        sound := fun u hu => by
          rw [hst]
          by_cases e : u = w
          · rw [if_pos e, e]
            right
            have hwk := (h.sound v h.vr).elim (fun e => by have := h.v0; omega) (fun e => e.2)
            have := Wk.step (l := l) (wt := one1) A hwk hmem hjv
            rw [hw] at this
            exact ⟨by have := h.v0; omega, this⟩
          · rw [if_neg e]; exact h.sound u hu
        qn := hqn
        qr := fun x hx => by
          rcases List.mem_append.1 hx with hx | hx
          · have := h.qr x hx
            rw [hne x this.1 this.2.2]; exact this
          · rw [List.mem_singleton] at hx; subst hx
            rw [hst, if_pos rfl]
            have := h.v0
            omega
        vr := h.vr
        v0 := by rw [hv']; exact h.v0
        lo := fun x hx => by
          rw [hv']
          rcases List.mem_append.1 hx with hx | hx
          · have := h.qr x hx
            rw [hne x this.1 this.2.2]; exact h.lo x hx
          · rw [List.mem_singleton] at hx; subst hx
            rw [hst, if_pos rfl]; omega
        hi := fun u hu => by
          rw [hv', hst]
          split
          · omega
          · exact h.hi u hu
        sorted := by
          refine List.pairwise_append.2 ⟨List.Pairwise.imp_of_mem ?_ h.sorted, List.pairwise_singleton _ _, ?_⟩
          · intro a b ha hb hab
            have h1 := h.qr a ha; have h2 := h.qr b hb
            rw [hne a h1.1 h1.2.2, hne b h2.1 h2.2.2]; exact hab
          · intro a ha b hb
            rw [List.mem_singleton] at hb; subst hb
            have h1 := h.qr a ha
            rw [hne a h1.1 h1.2.2, hst, if_pos rfl]
            have := h.hi a.toNat (by omega)
            rw [show ((a.toNat : Nat) : Int) = a by omega] at this
            exact this
        bnd := fun u hu => by
          have hng := negs_set (x := rd d (v : Int) + 1) hwl c (by have := h.v0; omega)
          rw [hst]
          have g1 := h.bnd v h.vr
          have g2 := h.bnd u hu
          split <;> omega
        done := fun i hi h0 => by
          have hai := hf.arcs _ (rdT_mem hi)
          generalize hB : rd_T37 l (i : Int) = B at h0 hai
          by_cases e : B.f0 = (w : Int)
          · exact Or.inl (by rw [e]; exact List.mem_append.2 (Or.inr List.mem_cons_self))
          · have e0 : rd (d.set w (rd d (v : Int) + 1)) B.f0 = rd d B.f0 := by
              rw [show B.f0 = ((B.f0.toNat : Nat) : Int) by omega, hst, if_neg (by omega)]
            rw [e0] at h0
            have hshut : Shut one1 d B → Shut one1 (d.set w (rd d (v : Int) + 1)) B := by
              rintro ⟨g1, g2⟩
              unfold Shut
              rw [hne B.f1 (by omega) g1, e0]
              exact ⟨g1, g2⟩
            rcases h.done i hi (by rw [hB]; exact h0) with g | ⟨g1, g2⟩ | g
            · rw [hB] at g; exact Or.inl (List.mem_append.2 (Or.inl g))
            · rcases List.mem_cons.1 g2 with g3 | g3
              · have : i = j := Int.ofNat_inj.1 g3
                subst this
                rw [hA] at hB
                subst hB
                refine Or.inr (Or.inr ?_)
                unfold Shut
                rw [e0, hw, hst, if_pos rfl, hjv]
                have := h.v0
                exact ⟨by omega, Int.le_refl _⟩
              · rw [hB] at g1; exact Or.inr (Or.inl ⟨g1, g3⟩)
            · rw [hB] at g; exact Or.inr (Or.inr (hshut g)) }
      refine ⟨d', q', h1, h2, ?_⟩
      have := negs_set (x := rd d (v : Int) + 1) hwl c (by have := h.v0; omega)
      rw [h3, List.length_append, List.length_cons, List.length_nil]
      omega
    · rw [if_neg c]
      refine hopsIn_ok hf hn v rest d q hr' { h with done := fun i hi h0 => ?_ }
      rcases h.done i hi h0 with g | ⟨g1, g2⟩ | g
      · exact Or.inl g
      · rcases List.mem_cons.1 g2 with g3 | g3
        · have : i = j := Int.ofNat_inj.1 g3
          subst this
          rw [hA] at h0 ⊢
          refine Or.inr (Or.inr ⟨by rw [hw]; omega, ?_⟩)
          rw [hw, hjv]
          exact h.hi w hwn
        · exact Or.inr (Or.inl ⟨g1, g3⟩)
      · exact Or.inr (Or.inr g)
structure BI (l : List S37) (s n : Nat) (d q : List Int) : Prop where
  len : d.length = n
  src : rd d (s : Int) = 0
  sound : ∀ u : Nat, u < n → rd d (u : Int) = -1 ∨ (0 ≤ rd d (u : Int) ∧ Wk l one1 (s : Int) (rd d (u : Int)) (u : Int))
  qn : q.Nodup
  qr : ∀ x ∈ q, 0 ≤ x ∧ x < (n : Int) ∧ 0 ≤ rd d x
  hi : ∀ u : Nat, u < n → ∀ x ∈ q, rd d (u : Int) ≤ rd d x + 1
  sorted : q.Pairwise (fun a b => rd d a ≤ rd d b)
  bnd : ∀ u : Nat, u < n → rd d (u : Int) + (negs d : Int) ≤ (n : Int)
  done : ∀ i : Nat, i < l.length → 0 ≤ rd d (rd_T37 l (i : Int)).f0 → (rd_T37 l (i : Int)).f0 ∈ q ∨ Shut one1 d (rd_T37 l (i : Int))
theorem hopsLoop_ok {l : List S37} {s n : Nat} (hf : Fine l one1 s n) (hn : n ≤ 50) : ∀ (m : Nat) (d q : List Int), BI l s n d q → negs d + q.length = m →
    ∃ r, Dist l one1 (s : Int) n r ∧ ∀ k, m + 1 ≤ k → hopsLoop l (rowsAt S37.f0 l n l.length) (n : Int) k d q = some r := by
  intro m
  induction m with
  | zero =>
    intro d q h hm
    cases q with
    | nil => exact ⟨d, dist_of hf h.len h.src h.sound (fun a ha h0 => by
        obtain ⟨j, hj, e⟩ := mem_rdT ha
        have := h.done j hj (by rw [e]; exact h0)
        rw [e] at this
        exact this.elim (fun g => by cases g) id), fun k hk => by
        obtain ⟨k, rfl⟩ : ∃ k', k = k' + 1 := ⟨k - 1, by omega⟩
        rfl⟩
    | cons v q => simp at hm
  | succ m ih =>
    intro d q h hm
    cases q with
    | nil => exact ⟨d, dist_of hf h.len h.src h.sound (fun a ha h0 => by
        obtain ⟨j, hj, e⟩ := mem_rdT ha
        have := h.done j hj (by rw [e]; exact h0)
        rw [e] at this
        exact this.elim (fun g => by cases g) id), fun k hk => by
        obtain ⟨k, rfl⟩ : ∃ k', k = k' + 1 := ⟨k - 1, by omega⟩
        rfl⟩
    | cons x q =>
      have hx := h.qr x List.mem_cons_self
      obtain ⟨v, rfl⟩ : ∃ v : Nat, x = (v : Int) := ⟨x.toNat, by omega⟩
      have hvn : v < n := by omega
      obtain ⟨hq1, hq2⟩ := List.nodup_cons.1 h.qn
      obtain ⟨hs1, hs2⟩ := List.pairwise_cons.1 h.sorted
      have hB : BIn l s n d q v (placesAt S37.f0 l l.length (v : Int)) := {
        len := h.len, src := h.src, sound := h.sound, qn := hq2, qr := fun y hy => h.qr y (List.mem_cons_of_mem _ hy), vr := hvn, v0 := hx.2.2
        lo := hs1, hi := fun u hu => h.hi u hu _ List.mem_cons_self, sorted := hs2, bnd := h.bnd
        done := fun i hi h0 => by
          rcases h.done i hi h0 with g | g
          · rcases List.mem_cons.1 g with g | g
            · exact Or.inr (Or.inl ⟨g, plc_mem.2 ⟨i, hi, g, rfl⟩⟩)
            · exact Or.inl g
          · exact Or.inr (Or.inr g) }
      obtain ⟨d', q', h1, h2, h3⟩ := hopsIn_ok hf hn v _ d q (fun y hy => plc_mem.1 hy) hB
      obtain ⟨r, hr1, hr2⟩ := ih d' q' {
        len := h2.len, src := h2.src, sound := h2.sound, qn := h2.qn, qr := h2.qr
        hi := fun u hu y hy => by have := h2.hi u hu; have := h2.lo y hy; omega
        sorted := h2.sorted, bnd := h2.bnd
        done := fun i hi h0 => (h2.done i hi h0).elim Or.inl (fun g => g.elim (fun g => by cases g.2) Or.inr) } (by simp at hm; omega)
      refine ⟨r, hr1, fun k hk => ?_⟩
      obtain ⟨k, rfl⟩ : ∃ k', k = k' + 1 := ⟨k - 1, by omega⟩
      unfold hopsLoop
      rw [if_pos ⟨by omega, by rw [rowsAt_length]; omega, by rw [h.len]; omega⟩, rowsAt_rd _ _ _ _ _ (by omega) (by omega), h1]
      exact hr2 k (by omega)
theorem negs_first {n s : Nat} (h : s < n) : negs ((List.replicate n (-1 : Int)).set s 0) + 1 = n := by
  have := negs_set (d := List.replicate n (-1 : Int)) (i := s) (x := 0) (by simpa using h) (by rw [rd_replicate h]; decide) (Int.le_refl _)
  rw [this]
  unfold negs
  rw [List.countP_replicate]
  simp
theorem rd_first {n s : Nat} (h : s < n) (u : Nat) (hu : u < n) : rd ((List.replicate n (-1 : Int)).set s 0) (u : Int) = if u = s then 0 else -1 := by
  rw [rd_set (by simpa using h), rd_replicate hu]
theorem hops_dist {l : List S37} {s n : Nat} (hf : Fine l one1 s n) (hn : n ≤ 50) : ∃ r, Dist l one1 (s : Int) n r ∧ Ev (fun k => hopsLoop l (rowsAt S37.f0 l n l.length) (n : Int) k ((List.replicate n (-1)).set s 0) [(s : Int)]) r := by
  have hs := hf.src
  obtain ⟨r, h1, h2⟩ := hopsLoop_ok hf hn _ ((List.replicate n (-1)).set s 0) [(s : Int)] {
    len := by simp
    src := by rw [rd_first hs s hs, if_pos rfl]
    sound := fun u hu => by
      rw [rd_first hs u hu]
      by_cases e : u = s
      · subst e; rw [if_pos rfl]; exact Or.inr ⟨Int.le_refl _, Wk.zero⟩
      · rw [if_neg e]; exact Or.inl rfl
    qn := List.nodup_cons.2 ⟨List.not_mem_nil, List.nodup_nil⟩
    qr := fun x hx => by rw [List.mem_singleton] at hx; subst hx; rw [rd_first hs s hs, if_pos rfl]; omega
    hi := fun u hu x hx => by rw [List.mem_singleton] at hx; subst hx; rw [rd_first hs s hs, if_pos rfl, rd_first hs u hu]; split <;> omega
    sorted := List.pairwise_singleton _ _
    bnd := fun u hu => by
      have := negs_first hs
      rw [rd_first hs u hu]; split <;> omega
    done := fun i hi h0 => by
      have hai := (hf.arcs _ (rdT_mem hi)).1
      rw [show (rd_T37 l (i : Int)).f0 = (((rd_T37 l (i : Int)).f0.toNat : Nat) : Int) by omega, rd_first hs _ (by omega)] at h0
      by_cases e : (rd_T37 l (i : Int)).f0.toNat = s
      · exact Or.inl (by rw [List.mem_singleton]; omega)
      · rw [if_neg e] at h0; exact absurd h0 (by decide) } rfl
  exact ⟨r, h1, ⟨_, h2⟩⟩
end Go.Proofs.Ytgjgckpdilbbjaa.P
end
