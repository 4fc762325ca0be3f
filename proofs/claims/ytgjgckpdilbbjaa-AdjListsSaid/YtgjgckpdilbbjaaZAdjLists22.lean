/- A part of the proof: words, contracts, plain lemmas. Conditions: none. -/
import Derived.Test.YtgjgckpdilbbjaaZAdjLists18
import Derived.Test.YtgjgckpdilbbjaaZAdjLists19
import Derived.Test.YtgjgckpdilbbjaaZAdjLists20
import Derived.Test.YtgjgckpdilbbjaaZAdjLists21
import Derived.Test.YtgjgckpdilbbjaaRows
import Derived.Test.YtgjgckpdilbbjaaZAdjLists3
import Derived.Deep.Slices
import Derived.ProofKit
section
namespace Go.Proofs.Ytgjgckpdilbbjaa.P
set_option linter.unusedSimpArgs false
set_option linter.unusedVariables false
open Go.RowKit Go.Proofs.Ytgjgckpdilbbjaa.Q Go.Proofs.YtgjgckpdilbbjaaW.PrintWords Go.Proofs.YtgjgckpdilbbjaaW.PrintLast Go.Proofs.YtgjgckpdilbbjaaW.PrintMore
theorem awake06_at : ebbtidelaw06_awake.f 60 = some true := by decide +kernel
theorem awake06_ev : Ev (fun k => ebbtidelaw06_awake.f k) true := Ev.of (fun k => ebbtidelaw06_awake.mono k) awake06_at
def placesAt (e : S37 → Int) (l : List S37) (i : Nat) (v : Int) : List Int := ((List.range i).filter (fun (j : Nat) => e (rd_T37 l (j : Int)) == v)).map (fun (j : Nat) => (j : Int))
theorem placesAt_succ (e : S37 → Int) (l : List S37) (i : Nat) (v : Int) : placesAt e l (i + 1) v = if e (rd_T37 l (i : Int)) = v then placesAt e l i v ++ [(i : Int)] else placesAt e l i v := by
  unfold placesAt
  rw [List.range_succ, List.filter_append]
  by_cases c : e (rd_T37 l (i : Int)) = v
  · rw [if_pos c, List.map_append]
    simp [c]
  · rw [if_neg c]
    simp [c]
theorem placesAt_length (e : S37 → Int) (l : List S37) (i : Nat) (v : Int) : (placesAt e l i v).length ≤ i := by
  unfold placesAt
  rw [List.length_map]
  refine Nat.le_trans (List.length_filter_le _ _) ?_
  rw [List.length_range]; exact Nat.le_refl _
def rowsAt (e : S37 → Int) (l : List S37) (n i : Nat) : List (List Int) := (List.range n).map (fun (v : Nat) => placesAt e l i (v : Int))
theorem rowsAt_length (e : S37 → Int) (l : List S37) (n i : Nat) : (rowsAt e l n i).length = n := by unfold rowsAt; simp
theorem rowsAt_rd (e : S37 → Int) (l : List S37) (n i : Nat) (v : Int) (h0 : 0 ≤ v) (h1 : v < (n : Int)) : rd_L3 (rowsAt e l n i) v = placesAt e l i v := by
  unfold rd_L3 rowsAt
  rw [List.getD_eq_getElem?_getD, List.getElem?_map, List.getElem?_range (by omega)]
  simp only [Option.map_some, Option.getD_some]
  rw [Int.toNat_of_nonneg h0]
theorem rowsAt_zero (e : S37 → Int) (l : List S37) (n : Nat) : rowsAt e l n 0 = List.replicate n [] := by
  apply List.ext_getElem
  · simp [rowsAt]
  · intro i h1 h2; simp [rowsAt, placesAt]
theorem rowsAt_step (e : S37 → Int) (l : List S37) (n i : Nat) (h0 : 0 ≤ e (rd_T37 l (i : Int))) (h1 : e (rd_T37 l (i : Int)) < (n : Int)) : (rowsAt e l n i).set (e (rd_T37 l (i : Int))).toNat (rd_L3 (rowsAt e l n i) (e (rd_T37 l (i : Int))) ++ [(i : Int)]) = rowsAt e l n (i + 1) := by
  rw [rowsAt_rd e l n i _ h0 h1]
  apply List.ext_getElem
  · simp [rowsAt]
  · intro j h2 h3
    rw [rowsAt_length] at h3
    rw [List.getElem_set]
    have e1 : (rowsAt e l n (i + 1))[j]'(by rw [rowsAt_length]; exact h3) = placesAt e l (i + 1) (j : Int) := by simp [rowsAt]
    have e2 : (rowsAt e l n i)[j]'(by rw [rowsAt_length]; exact h3) = placesAt e l i (j : Int) := by simp [rowsAt]
    rw [e1, placesAt_succ]
    by_cases c : e (rd_T37 l (i : Int)) = (j : Int)
    · rw [if_pos (by omega), if_pos c, c]
    · rw [if_neg (by omega), if_neg c, e2]
theorem rdT_mem {l : List S37} {i : Nat} (h : i < l.length) : rd_T37 l (i : Int) ∈ l := by rw [rdA_of h]; exact List.getElem_mem h
theorem lists_loop (n : Nat) (l : List S37) (hok : ∀ a ∈ l, ArcOk (n : Int) a) (hl : l.length ≤ 200) (d : Nat) : ∀ i, i + d = l.length → Ev (fun k => adj_lists.l0 k (rowsAt S37.f0 l n i) l (l.length : Int) (i : Int)) (rowsAt S37.f0 l n l.length) := by
  induction d with
  | zero =>
    intro i hi
    rw [show i = l.length by omega]
    exact ev_cst fun k => by rw [adj_lists.l0, if_neg (by omega)]
  | succ d ih =>
    intro i hi
    have ha := hok _ (rdT_mem (l := l) (i := i) (by omega))
    refine Ev.step (fun k => ?_) (ih (i + 1) (by omega))
    have hp := placesAt_length S37.f0 l i ((rd_T37 l (i : Int)).f0)
    rw [adj_lists.l0, if_pos (by omega), if_pos (by omega), if_pos (by omega)]
    simp only [adj_from.f, Option.bind_some]
    rw [if_pos ha.f0.1, if_pos (by rw [rowsAt_length]; exact ha.f0.2), if_pos (by rw [rowsAt_rd _ _ _ _ _ ha.f0.1 ha.f0.2]; omega), rowsAt_step S37.f0 l n i ha.f0.1 ha.f0.2, wrap1 (by omega)]
theorem listsTo_loop (n : Nat) (l : List S37) (hok : ∀ a ∈ l, ArcOk (n : Int) a) (hl : l.length ≤ 200) (d : Nat) : ∀ i, i + d = l.length → Ev (fun k => adj_listsTo.l0 k (rowsAt S37.f1 l n i) l (l.length : Int) (i : Int)) (rowsAt S37.f1 l n l.length) := by
  induction d with
  | zero =>
    intro i hi
    rw [show i = l.length by omega]
    exact ev_cst fun k => by rw [adj_listsTo.l0, if_neg (by omega)]
  | succ d ih =>
    intro i hi
    have ha := hok _ (rdT_mem (l := l) (i := i) (by omega))
    refine Ev.step (fun k => ?_) (ih (i + 1) (by omega))
    have hp := placesAt_length S37.f1 l i ((rd_T37 l (i : Int)).f1)
    rw [adj_listsTo.l0, if_pos (by omega), if_pos (by omega), if_pos (by omega)]
    simp only [adj_to.f, Option.bind_some]
    rw [if_pos ha.f1.1, if_pos (by rw [rowsAt_length]; exact ha.f1.2), if_pos (by rw [rowsAt_rd _ _ _ _ _ ha.f1.1 ha.f1.2]; omega), rowsAt_step S37.f1 l n i ha.f1.1 ha.f1.2, wrap1 (by omega)]
def leav (n : Int) (l : List S37) : List (List Int) := rowsAt S37.f0 l n.toNat l.length
def comi (n : Int) (l : List S37) : List (List Int) := rowsAt S37.f1 l n.toNat l.length
theorem leaving_ev {n : Int} {l : List S37} (b : Bool) (h : NetOk n l) : Ev (fun k => adj_Leaving.f k n b l) (leav n l) := by
  have hn : (n.toNat : Int) = n := Int.toNat_of_nonneg (by have := h.lo; omega)
  have hloop := lists_loop n.toNat l (by rw [hn]; exact h.arcs) h.len l.length 0 (by omega)
  unfold adj_Leaving.f
  refine Ev.bind (Ev.congr (fun k => ?_) hloop) (Ev.now _)
  · unfold adj_lists.f
    rw [if_pos (by have := h.lo; omega), if_pos (by have := h.hi; omega), rowsAt_zero]
    rfl
theorem coming_ev {n : Int} {l : List S37} (b : Bool) (h : NetOk n l) : Ev (fun k => adj_Coming.f k n b l) (comi n l) := by
  have hn : (n.toNat : Int) = n := Int.toNat_of_nonneg (by have := h.lo; omega)
  have hloop := listsTo_loop n.toNat l (by rw [hn]; exact h.arcs) h.len l.length 0 (by omega)
  unfold adj_Coming.f
  refine Ev.bind (Ev.congr (fun k => ?_) hloop) (Ev.now _)
  · unfold adj_listsTo.f
    rw [if_pos (by have := h.lo; omega), if_pos (by have := h.hi; omega), rowsAt_zero]
    rfl
def outErr (n : Int) (l : List S37) (r : List (List Int)) : List (List Int) × Int := if checkErr n l = 0 then (r, 0) else ([], checkErr n l)
theorem out_ev (n : Int) (b : Bool) (l : List S37) : Ev (fun k => adj_Out.f k n b l) (outErr n l (leav n l)) := by
  unfold adj_Out.f outErr
  refine Ev.bind (check_ev n b l) ?_
  by_cases c : checkErr n l = 0
  · rw [if_pos c]
    simp only [c, if_true]
    exact Ev.bind (leaving_ev b (checkErr_ok.1 c)) (Ev.now _)
  · rw [if_neg c]
    simp only [c, if_false]
    exact Ev.now _
theorem in_ev (n : Int) (b : Bool) (l : List S37) : Ev (fun k => adj_In.f k n b l) (outErr n l (comi n l)) := by
  unfold adj_In.f outErr
  refine Ev.bind (check_ev n b l) ?_
  by_cases c : checkErr n l = 0
  · rw [if_pos c]
    simp only [c, if_true]
    exact Ev.bind (coming_ev b (checkErr_ok.1 c)) (Ev.now _)
  · rw [if_neg c]
    simp only [c, if_false]
    exact Ev.now _
def rowsTo (e : S37 → Int) (l : List S37) (v : Nat) : List (List Int) := (List.range v).map (fun (u : Nat) => placesAt e l l.length (u : Int))
theorem rowsTo_succ (e : S37 → Int) (l : List S37) (v : Nat) : rowsTo e l (v + 1) = rowsTo e l v ++ [placesAt e l l.length (v : Int)] := by unfold rowsTo; rw [List.range_succ, List.map_append]; rfl
theorem rowsTo_length (e : S37 → Int) (l : List S37) (v : Nat) : (rowsTo e l v).length = v := by unfold rowsTo; simp
theorem rOut_loop (n : Nat) (b : Bool) (l : List S37) (hn : n ≤ 50) (hl : l.length ≤ 200) (d : Nat) : ∀ v, v + d = n → Ev (fun k => ebbtideref06_Out.l0 k (rowsTo S37.f0 l v) (v : Int) (n : Int) b l) (rowsTo S37.f0 l n, 0) := by
  induction d with
  | zero =>
    intro v hv
    rw [show v = n by omega]
    exact ev_cst fun k => by rw [ebbtideref06_Out.l0, if_neg (by omega)]
  | succ d ih =>
    intro v hv
    have hin : ∀ e i, i + e = l.length → Ev (fun k => ebbtideref06_Out.l1 k (rowsTo S37.f0 l v) (v : Int) (placesAt S37.f0 l i (v : Int)) (i : Int) (n : Int) b l) (rowsTo S37.f0 l n, 0) := by
      intro e
      induction e with
      | zero =>
        intro i hi
        refine Ev.step (fun k => ?_) (ih (v + 1) (by omega))
        rw [ebbtideref06_Out.l1, if_neg (by omega), if_pos (by rw [rowsTo_length]; omega), show i = l.length by omega, ← rowsTo_succ, wrap1 (by omega)]
      | succ e ihe =>
        intro i hi
        have hp := placesAt_length S37.f0 l i (v : Int)
        refine Ev.step (fun k => ?_) (ihe (i + 1) (by omega))
        rw [ebbtideref06_Out.l1, if_pos (by omega), if_pos (by omega), placesAt_succ]
        by_cases c : (rd_T37 l (i : Int)).f0 = (v : Int)
        · rw [if_pos c, if_pos c, if_pos (by omega), wrap1 (by omega)]
        · rw [if_neg c, if_neg c, wrap1 (by omega)]
    refine Ev.step (fun k => ?_) (hin l.length 0 (by omega))
    rw [ebbtideref06_Out.l0, if_pos (by omega)]
    rfl
theorem rOut_ev (n : Int) (b : Bool) (l : List S37) : Ev (fun k => ebbtideref06_Out.f k n b l) (outErr n l (leav n l)) := by
  unfold ebbtideref06_Out.f outErr
  refine Ev.bind (rcheck_ev n b l) ?_
  by_cases c : checkErr n l = 0
  · rw [if_pos c]
    simp only [c, if_true]
    have h := checkErr_ok.1 c
    have hn : (n.toNat : Int) = n := Int.toNat_of_nonneg (by have := h.lo; omega)
    have := rOut_loop n.toNat b l (by have := h.hi; omega) h.len n.toNat 0 (by omega)
    rw [hn] at this
    exact this
  · rw [if_neg c]
    simp only [c, if_false]
    exact Ev.now _
theorem rIn_loop (n : Nat) (b : Bool) (l : List S37) (hn : n ≤ 50) (hl : l.length ≤ 200) (d : Nat) : ∀ v, v + d = n → Ev (fun k => ebbtideref06_In.l0 k (rowsTo S37.f1 l v) (v : Int) (n : Int) b l) (rowsTo S37.f1 l n, 0) := by
  induction d with
  | zero =>
    intro v hv
    rw [show v = n by omega]
    exact ev_cst fun k => by rw [ebbtideref06_In.l0, if_neg (by omega)]
  | succ d ih =>
    intro v hv
    have hin : ∀ e i, i + e = l.length → Ev (fun k => ebbtideref06_In.l1 k (rowsTo S37.f1 l v) (v : Int) (placesAt S37.f1 l i (v : Int)) (i : Int) (n : Int) b l) (rowsTo S37.f1 l n, 0) := by
      intro e
      induction e with
      | zero =>
        intro i hi
        refine Ev.step (fun k => ?_) (ih (v + 1) (by omega))
        rw [ebbtideref06_In.l1, if_neg (by omega), if_pos (by rw [rowsTo_length]; omega), show i = l.length by omega, ← rowsTo_succ, wrap1 (by omega)]
      | succ e ihe =>
        intro i hi
        have hp := placesAt_length S37.f1 l i (v : Int)
        refine Ev.step (fun k => ?_) (ihe (i + 1) (by omega))
        rw [ebbtideref06_In.l1, if_pos (by omega), if_pos (by omega), placesAt_succ]
        by_cases c : (rd_T37 l (i : Int)).f1 = (v : Int)
        · rw [if_pos c, if_pos c, if_pos (by omega), wrap1 (by omega)]
        · rw [if_neg c, if_neg c, wrap1 (by omega)]
    refine Ev.step (fun k => ?_) (hin l.length 0 (by omega))
    rw [ebbtideref06_In.l0, if_pos (by omega)]
    rfl
theorem rIn_ev (n : Int) (b : Bool) (l : List S37) : Ev (fun k => ebbtideref06_In.f k n b l) (outErr n l (comi n l)) := by
  unfold ebbtideref06_In.f outErr
  refine Ev.bind (rcheck_ev n b l) ?_
  by_cases c : checkErr n l = 0
  · rw [if_pos c]
    simp only [c, if_true]
    have h := checkErr_ok.1 c
    have hn : (n.toNat : Int) = n := Int.toNat_of_nonneg (by have := h.lo; omega)
    have := rIn_loop n.toNat b l (by have := h.hi; omega) h.len n.toNat 0 (by omega)
    rw [hn] at this
    exact this
  · rw [if_neg c]
    simp only [c, if_false]
    exact Ev.now _
theorem same_ev (a : List (List Int)) (ha : a.length ≤ 1000) (hb : ∀ v, (rd_L3 a v).length ≤ 1000) : Ev (fun k => ebbtideref06_Same.f k a a) true := by
  have hloop : ∀ d i, i + d = a.length → Ev (fun k => ebbtideref06_Same.l0 k a a (i : Int)) true := by
    intro d
    induction d with
    | zero => intro i hi; exact ev_cst fun k => by rw [ebbtideref06_Same.l0, if_neg (by omega)]
    | succ d ih =>
      intro i hi
      have hin : ∀ e j, j + e = (rd_L3 a (i : Int)).length → Ev (fun k => ebbtideref06_Same.l1 k a a (i : Int) (j : Int)) true := by
        intro e
        induction e with
        | zero =>
          intro j hj
          refine Ev.step (fun k => ?_) (ih (i + 1) (by omega))
          rw [ebbtideref06_Same.l1, if_pos (by omega), if_pos (by omega), if_neg (by omega), wrap1 (by omega)]
        | succ e ihe =>
          intro j hj
          have := hb (i : Int)
          refine Ev.step (fun k => ?_) (ihe (j + 1) (by omega))
          rw [ebbtideref06_Same.l1, if_pos (by omega), if_pos (by omega), if_pos (by omega), if_pos (by omega), if_pos (by omega), if_pos (by omega), if_pos rfl, wrap1 (by omega)]
      refine Ev.step (fun k => ?_) (hin _ 0 (Nat.zero_add _))
      rw [ebbtideref06_Same.l0, if_pos (by omega), if_pos (by omega), if_pos (by omega), if_pos rfl]
      rfl
  refine Ev.congr (fun k => ?_) (hloop a.length 0 (by omega))
  unfold ebbtideref06_Same.f
  rw [if_pos rfl]; rfl
end Go.Proofs.Ytgjgckpdilbbjaa.P
end
section
namespace Go.Proofs.Ytgjgckpdilbbjaa.R
open Go.RowKit Go.Proofs.Ytgjgckpdilbbjaa.Q Go.Proofs.YtgjgckpdilbbjaaW.PrintWords Go.Proofs.YtgjgckpdilbbjaaW.PrintLast Go.Proofs.YtgjgckpdilbbjaaW.PrintMore
open Go.ChangeShapes Go.WideShapes Go.Deep
def Reads (t : TypeId) {α : Type} (d : Kd α) (G : Nat → α → Prop) : Prop :=
  ∀ {H : Type} (enc : TypeId × Value → H) (w : World) (base : Nat) (spare : Nat → Bool) (held : Bool) (fuel : Nat) (cs : List Value) (x : DataW H × List MemPlace),
    DataW.trod enc Try.prog w base spare held fuel t cs = some x → ∃ a, d.K w a cs ∧ ∀ N, Rows.uptoBulk x.1 ≤ N → G N a
def gInt (k : IntKind) (_ : Nat) (n : Int) : Prop := (Lit.int k n).wf = true
def gTrue (_ : Nat) (_ : Bool) : Prop := True
def gList {α : Type} (G : Nat → α → Prop) (N : Nat) (l : List α) : Prop := l.length ≤ maxLen ∧ l.length ≤ N ∧ ∀ x ∈ l, G N x
theorem readsInt {t : TypeId} {k : IntKind} (ht : Try.prog.underlying t = some (.int k)) : Reads t (Kd.int k) (gInt k) := by
  intro H enc w base spare held fuel cs x h
  obtain ⟨n, rfl, rfl, hw⟩ := DataW.trod_int ht h
  exact ⟨n, rfl, fun _ _ => hw⟩
theorem readsBool {t : TypeId} (ht : Try.prog.underlying t = some .bool) : Reads t Kd.bool gTrue := by
  intro H enc w base spare held fuel cs x h
  obtain ⟨n, rfl, rfl⟩ := DataW.trod_bool ht h
  exact ⟨n, rfl, fun _ _ => trivial⟩
theorem one_le {H : Type} (d : DataW H) : 1 ≤ Rows.uptoBulk d := by
  cases d with
  | lit l => cases l <;> simp [Rows.uptoBulk]
  | nil => simp [Rows.uptoBulk]
  | ptr d => simp [Rows.uptoBulk]
  | slice elems spare => simp [Rows.uptoBulk]
  | agg parts => simp [Rows.uptoBulk]
  | iface t d => simp [Rows.uptoBulk]
  | map entries => simp [Rows.uptoBulk]
  | held h => simp [Rows.uptoBulk]
theorem part_le {H : Type} {d : DataW H} {l : List (DataW H)} (h : d ∈ l) : Rows.uptoBulk d ≤ Rows.uptoBulkAll l := by
  induction l with
  | nil => cases h
  | cons x r ih =>
    simp only [Rows.uptoBulkAll]
    cases List.mem_cons.1 h with
    | inl e => subst e; omega
    | inr e => have := ih e; omega
theorem length_le {H : Type} (l : List (DataW H)) : l.length ≤ Rows.uptoBulkAll l := by
  induction l with
  | nil => simp [Rows.uptoBulkAll]
  | cons x r ih => have := one_le x; simp only [Rows.uptoBulkAll, List.length_cons]; omega
theorem readsSlice {t e : TypeId} {α : Type} [Inhabited α] {d : Kd α} {G : Nat → α → Prop} (ht : Try.prog.underlying t = some (.slice e)) (hc : Try.prog.cellsOf e = d.sz) (R : Reads e d G) : Reads t (Kd.slice e d) (gList G) := by
  intro H enc w base spare held fuel cs x h
  rcases open_slice ht h with ⟨rfl, rfl⟩ | ⟨a, len, cap, m, n, D, Pl, rfl, hb, hl, hm, hmm, rfl, hx⟩
  · exact ⟨[], ⟨none, 0, rfl, Nat.le_refl _, Kd.C_nil d w⟩, fun N _ => ⟨Nat.zero_le _, Nat.zero_le _, fun x hx => by cases hx⟩⟩
  · have hlm : len ≤ m := by rw [hmm]; split <;> omega
    obtain ⟨f, hf⟩ := choose_lt (α := α) (n := m) (p := fun i y => ∃ c, c.length = d.sz ∧ d.K w y c ∧ (∀ j u, c[j]? = some u → w.cell? (a.add (i * d.sz + j)) = some u) ∧ ∀ N, Rows.uptoBulk (D i) ≤ N → G N y) (fun i hi => by
      obtain ⟨c, h1, h2⟩ := hx i hi
      obtain ⟨y, hK, hG⟩ := R enc w base spare held n c _ h2
      obtain ⟨_, hlen, hcell⟩ := World.cells?_some h1
      rw [hc] at hlen hcell
      refine ⟨y, c, hlen, hK, fun j u hu => ?_, hG⟩
      have hj : j < d.sz := by rw [← hlen]; exact (List.getElem?_eq_some_iff.1 hu).1
      have := hcell j hj
      rw [Deep.add_add] at this
      rw [this, hu])
    have hL : ((List.range len).map f).length = len := by simp
    refine ⟨(List.range len).map f, ⟨some a, cap, by rw [hL], by rw [hL]; exact hl, ?_⟩, fun N hN => ?_⟩
    · refine ⟨rfl, by rw [hL]; exact Nat.le_trans hl (Nat.le_trans hm (by decide)), fun _ => ⟨a, rfl, fun j p hj => ?_⟩⟩
      have hjl : j < len := by
        have := (List.getElem?_eq_some_iff.1 hj).1
        rwa [hL] at this
      have hp : f j = p := by
        rw [List.getElem?_map, List.getElem?_range hjl] at hj
        exact Option.some.inj hj
      obtain ⟨c, h1, h2, h3, _⟩ := hf j (by omega)
      rw [hp] at h2
      exact ⟨c, h1, h2, h3⟩
    · have hbulk : Rows.uptoBulkAll ((List.range len).map D) ≤ N := by
        simp only [Rows.uptoBulk] at hN
        omega
      refine ⟨by rw [hL]; omega, by rw [hL]; have := length_le ((List.range len).map D); simp at this; omega, fun y hy => ?_⟩
      obtain ⟨i, hi, rfl⟩ := List.mem_map.1 hy
      have hi' := List.mem_range.1 hi
      obtain ⟨c, _, _, _, hG⟩ := hf i (by omega)
      exact hG N (Nat.le_trans (part_le (List.mem_map.2 ⟨i, hi, rfl⟩)) hbulk)
instance : Inhabited S37 := ⟨z37⟩
def g37 (N : Nat) (x : S37) : Prop := gInt .i64 N x.f0 ∧ gInt .i64 N x.f1 ∧ gInt .i64 N x.f2 ∧ gInt .i64 N x.f3
set_option maxRecDepth 100000 in
theorem reads37 : Reads 37 k37 g37 := by
  intro H enc w base spare held fuel cs x h
  obtain ⟨xs, n, _, hx, hl, hlen, hf⟩ := DataW.trod_struct Try.underlying37 h
  have hl2 : cs.length = 4 := hl.trans (by kernel_rfl)
  have hlen2 : xs.length = 4 := hlen
  match xs, hlen2, cs, hl2 with
  | [y0, y1, y2, y3], _, [v0, v1, v2, v3], _ =>
    have c0 : Try.prog.cellsOf 3 = 1 := by kernel_rfl
    have e0 : DataW.trod enc Try.prog w base spare held n 3 (List.take (Try.prog.cellsOf 3) (List.drop 0 [v0, v1, v2, v3])) = some y0 := hf 0 _ rfl
    rw [c0] at e0
    obtain ⟨a0, K0, G0⟩ := (readsInt Try.underlying3) enc w base spare held n [v0] y0 e0
    have c1 : Try.prog.cellsOf 3 = 1 := by kernel_rfl
    have e1 : DataW.trod enc Try.prog w base spare held n 3 (List.take (Try.prog.cellsOf 3) (List.drop 1 [v0, v1, v2, v3])) = some y1 := hf 1 _ rfl
    rw [c1] at e1
    obtain ⟨a1, K1, G1⟩ := (readsInt Try.underlying3) enc w base spare held n [v1] y1 e1
    have c2 : Try.prog.cellsOf 3 = 1 := by kernel_rfl
    have e2 : DataW.trod enc Try.prog w base spare held n 3 (List.take (Try.prog.cellsOf 3) (List.drop 2 [v0, v1, v2, v3])) = some y2 := hf 2 _ rfl
    rw [c2] at e2
    obtain ⟨a2, K2, G2⟩ := (readsInt Try.underlying3) enc w base spare held n [v2] y2 e2
    have c3 : Try.prog.cellsOf 3 = 1 := by kernel_rfl
    have e3 : DataW.trod enc Try.prog w base spare held n 3 (List.take (Try.prog.cellsOf 3) (List.drop 3 [v0, v1, v2, v3])) = some y3 := hf 3 _ rfl
    rw [c3] at e3
    obtain ⟨a3, K3, G3⟩ := (readsInt Try.underlying3) enc w base spare held n [v3] y3 e3
    refine ⟨⟨a0, a1, a2, a3⟩, ⟨_, _, rfl, K0, ⟨_, _, rfl, K1, ⟨_, _, rfl, K2, K3⟩⟩⟩, fun N hN => ?_⟩
    rw [hx] at hN
    simp only [List.map_cons, List.map_nil, Rows.uptoBulk, Rows.uptoBulkAll] at hN
    exact ⟨G0 N (by omega), G1 N (by omega), G2 N (by omega), G3 N (by omega)⟩
structure S24 where
  f0 : Int
  f1 : Bool
  f2 : List S37
def z24 : S24 := ⟨(0 : Int), false, []⟩
def k24 : Kd S24 := Kd.iso (Kd.pair (Kd.int .i64) (Kd.pair Kd.bool (Kd.slice 37 k37))) (fun x : S24 => (x.f0, x.f1, x.f2))
instance : Inhabited S24 := ⟨z24⟩
def g24 (N : Nat) (x : S24) : Prop := gInt .i64 N x.f0 ∧ gTrue N x.f1 ∧ gList (g37) N x.f2
set_option maxRecDepth 100000 in
theorem reads24 : Reads 24 k24 g24 := by
  intro H enc w base spare held fuel cs x h
  obtain ⟨xs, n, _, hx, hl, hlen, hf⟩ := DataW.trod_struct Try.underlying24 h
  have hl2 : cs.length = 3 := hl.trans (by kernel_rfl)
  have hlen2 : xs.length = 3 := hlen
  match xs, hlen2, cs, hl2 with
  | [y0, y1, y2], _, [v0, v1, v2], _ =>
    have c0 : Try.prog.cellsOf 3 = 1 := by kernel_rfl
    have e0 : DataW.trod enc Try.prog w base spare held n 3 (List.take (Try.prog.cellsOf 3) (List.drop 0 [v0, v1, v2])) = some y0 := hf 0 _ rfl
    rw [c0] at e0
    obtain ⟨a0, K0, G0⟩ := (readsInt Try.underlying3) enc w base spare held n [v0] y0 e0
    have c1 : Try.prog.cellsOf 4 = 1 := by kernel_rfl
    have e1 : DataW.trod enc Try.prog w base spare held n 4 (List.take (Try.prog.cellsOf 4) (List.drop 1 [v0, v1, v2])) = some y1 := hf 1 _ rfl
    rw [c1] at e1
    obtain ⟨a1, K1, G1⟩ := (readsBool Try.underlying4) enc w base spare held n [v1] y1 e1
    have c2 : Try.prog.cellsOf 22 = 1 := by kernel_rfl
    have e2 : DataW.trod enc Try.prog w base spare held n 22 (List.take (Try.prog.cellsOf 22) (List.drop 2 [v0, v1, v2])) = some y2 := hf 2 _ rfl
    rw [c2] at e2
    obtain ⟨a2, K2, G2⟩ := (readsSlice Try.underlying22 (by kernel_rfl) reads37) enc w base spare held n [v2] y2 e2
    refine ⟨⟨a0, a1, a2⟩, ⟨_, _, rfl, K0, ⟨_, _, rfl, K1, K2⟩⟩, fun N hN => ?_⟩
    rw [hx] at hN
    simp only [List.map_cons, List.map_nil, Rows.uptoBulk, Rows.uptoBulkAll] at hN
    exact ⟨G0 N (by omega), G1 N (by omega), G2 N (by omega)⟩
end Go.Proofs.Ytgjgckpdilbbjaa.R
end
section
namespace Go.Proofs.Ytgjgckpdilbbjaa.Q
open Go.RowKit Go.Proofs.YtgjgckpdilbbjaaW.PrintWords Go.Proofs.YtgjgckpdilbbjaaW.PrintLast Go.Proofs.YtgjgckpdilbbjaaW.PrintMore
attribute [local go_sem] max2_int min2_int max_two min_four
set_option linter.unusedVariables false
set_option linter.unusedSimpArgs false
def ebbtidelaw06_AdjLists.f (k : Nat) (a0_0 : Int) (a0_1 : Bool) (l0_2 : List (S37)) : Option (Bool) := (adj_Out.f k a0_0 a0_1 l0_2).bind fun bt329 => ((ebbtideref06_Out.f k a0_0 a0_1 l0_2).bind fun bt333 => ((adj_In.f k a0_0 a0_1 l0_2).bind fun bt337 => ((ebbtideref06_In.f k a0_0 a0_1 l0_2).bind fun bt341 => ((ebbtidelaw06_awake.f k).bind fun t345 => (if t345 = true then ((ebbtideref06_Same.f k bt329.1 bt333.1).bind fun t346 => (if t346 = true then (if bt329.2 = bt333.2 then ((ebbtideref06_Same.f k bt337.1 bt341.1).bind fun t347 => (if t347 = true then (some (bt337.2 == bt341.2)) else (some false))) else (some false)) else (some false))) else (some false))))))
set_option maxHeartbeats 8000000 in
set_option maxRecDepth 100000 in
theorem ebbtidelaw06_AdjLists.calls (k : Nat) (a0_0 : Int) (a0_1 : Bool) (A0_2 : Option Addr) (c0_2 : Nat) (l0_2 : List (S37)) (r : Bool) (w : World) (hr0_2 : Kd.C k37 w A0_2 l0_2.length l0_2) (hc0_2 : l0_2.length ≤ c0_2) (h : ebbtidelaw06_AdjLists.f k a0_0 a0_1 l0_2 = some r) (hrt : r = true := by first | rfl | exact HRT.out | assumption) :
  Calls Try.prog 8 #[.agg #[.int .i64 a0_0, .bool a0_1, .slice A0_2 l0_2.length c0_2]] w fun e w' => e = .returned (.bool r) ∧ Below w.heap.size w w' := by
 have HRT := Aside0.mk hrt; clear hrt; have hu24 := Try.underlying24; have HR0_2 := Aside0.mk hr0_2; have HC0_2 := Aside0.mk hc0_2; clear hr0_2 hc0_2; have HB := Aside0.mk (Below.refl w.heap.size w); have H : ((adj_Out.f k a0_0 a0_1 l0_2).bind fun bt329 => ((ebbtideref06_Out.f k a0_0 a0_1 l0_2).bind fun bt333 => ((adj_In.f k a0_0 a0_1 l0_2).bind fun bt337 => ((ebbtideref06_In.f k a0_0 a0_1 l0_2).bind fun bt341 => ((ebbtidelaw06_awake.f k).bind fun t345 => (if t345 = true then ((ebbtideref06_Same.f k bt329.1 bt333.1).bind fun t346 => (if t346 = true then (if bt329.2 = bt333.2 then ((ebbtideref06_Same.f k bt337.1 bt341.1).bind fun t347 => (if t347 = true then (some (bt337.2 == bt341.2)) else (some false))) else (some false)) else (some false))) else (some false))))))) = some r := h; clear h; replace H := Option.bind_eq_some_iff.mp H; obtain ⟨⟨t329, t332⟩, A20, H⟩ := H; replace H : ((ebbtideref06_Out.f k a0_0 a0_1 l0_2).bind fun bt333 => ((adj_In.f k a0_0 a0_1 l0_2).bind fun bt337 => ((ebbtideref06_In.f k a0_0 a0_1 l0_2).bind fun bt341 => ((ebbtidelaw06_awake.f k).bind fun t345 => (if t345 = true then ((ebbtideref06_Same.f k t329 bt333.1).bind fun t346 => (if t346 = true then (if t332 = bt333.2 then ((ebbtideref06_Same.f k bt337.1 bt341.1).bind fun t347 => (if t347 = true then (some (bt337.2 == bt341.2)) else (some false))) else (some false)) else (some false))) else (some false)))))) = some r := H; have A2 := Aside0.mk A20; clear A20; replace H := Option.bind_eq_some_iff.mp H; obtain ⟨⟨t333, t336⟩, A30, H⟩ := H; replace H : ((adj_In.f k a0_0 a0_1 l0_2).bind fun bt337 => ((ebbtideref06_In.f k a0_0 a0_1 l0_2).bind fun bt341 => ((ebbtidelaw06_awake.f k).bind fun t345 => (if t345 = true then ((ebbtideref06_Same.f k t329 t333).bind fun t346 => (if t346 = true then (if t332 = t336 then ((ebbtideref06_Same.f k bt337.1 bt341.1).bind fun t347 => (if t347 = true then (some (bt337.2 == bt341.2)) else (some false))) else (some false)) else (some false))) else (some false))))) = some r := H; have A3 := Aside0.mk A30; clear A30; replace H := Option.bind_eq_some_iff.mp H; obtain ⟨⟨t337, t340⟩, A40, H⟩ := H; replace H : ((ebbtideref06_In.f k a0_0 a0_1 l0_2).bind fun bt341 => ((ebbtidelaw06_awake.f k).bind fun t345 => (if t345 = true then ((ebbtideref06_Same.f k t329 t333).bind fun t346 => (if t346 = true then (if t332 = t336 then ((ebbtideref06_Same.f k t337 bt341.1).bind fun t347 => (if t347 = true then (some (t340 == bt341.2)) else (some false))) else (some false)) else (some false))) else (some false)))) = some r := H; have A4 := Aside0.mk A40; clear A40; replace H := Option.bind_eq_some_iff.mp H; obtain ⟨⟨t341, t344⟩, A50, H⟩ := H; replace H : ((ebbtidelaw06_awake.f k).bind fun t345 => (if t345 = true then ((ebbtideref06_Same.f k t329 t333).bind fun t346 => (if t346 = true then (if t332 = t336 then ((ebbtideref06_Same.f k t337 t341).bind fun t347 => (if t347 = true then (some (t340 == t344)) else (some false))) else (some false)) else (some false))) else (some false))) = some r := H; have A5 := Aside0.mk A50; clear A50; replace H := Option.bind_eq_some_iff.mp H; obtain ⟨t345, A60, H⟩ := H; replace H : (if t345 = true then ((ebbtideref06_Same.f k t329 t333).bind fun t346 => (if t346 = true then (if t332 = t336 then ((ebbtideref06_Same.f k t337 t341).bind fun t347 => (if t347 = true then (some (t340 == t344)) else (some false))) else (some false)) else (some false))) else (some false)) = some r := H; have A6 := Aside0.mk A60; clear A60
 by_cases c7 : t345 = true
 ·subst c7
  have H1 : ((ebbtideref06_Same.f k t329 t333).bind fun t346 => (if t346 = true then (if t332 = t336 then ((ebbtideref06_Same.f k t337 t341).bind fun t347 => (if t347 = true then (some (t340 == t344)) else (some false))) else (some false)) else (some false))) = some r := by rw [if_pos rfl] at H; exact H
  clear H; have H := H1; clear H1; replace H := Option.bind_eq_some_iff.mp H; obtain ⟨t346, A80, H⟩ := H; replace H : (if t346 = true then (if t332 = t336 then ((ebbtideref06_Same.f k t337 t341).bind fun t347 => (if t347 = true then (some (t340 == t344)) else (some false))) else (some false)) else (some false)) = some r := H; have A8 := Aside0.mk A80; clear A80
  by_cases c9 : t346 = true
  ·subst c9
   have H1 : (if t332 = t336 then ((ebbtideref06_Same.f k t337 t341).bind fun t347 => (if t347 = true then (some (t340 == t344)) else (some false))) else (some false)) = some r := by rw [if_pos rfl] at H; exact H
   clear H; have H := H1; clear H1
   by_cases c10 : t332 = t336
   ·rw [if_pos c10] at H
    have c10b0 : (t332 == t336) = true := beq_iff_eq.mpr c10; have c10b1 : (t332 != t336) = false := bne_eq_false_iff_eq.mpr c10; clear c10; replace H := Option.bind_eq_some_iff.mp H; obtain ⟨t347, A110, H⟩ := H; replace H : (if t347 = true then (some (t340 == t344)) else (some false)) = some r := H; have A11 := Aside0.mk A110; clear A110
    by_cases c12 : t347 = true
    ·subst c12
     have H1 : (some (t340 == t344)) = some r := by rw [if_pos rfl] at H; exact H
     clear H; have H := H1; clear H1; obtain rfl := Option.some.inj H
     go_enter Try.func8, Try.ntmps8
     go_wp2_with (first | ((with_reducible refine gate_dst (N := 1) rfl ?_); refine box_event ?hg (N := 1) ?hd (cs := #[.int .i64 a0_0, .bool a0_1, .slice A0_2 l0_2.length c0_2]) (t := 24) ?hr ?_; (case hd => rfl); (case hg => rfl); (case hr => first | (go_simp; done) | (go_simp; rfl)); intro gb328 hg w13 hbox hb; have n0_ := Aside0.mk (below_step (by repeat (first | (with_reducible first | exact HB.out | apply below_alloc | apply pw_below_drewN | apply below_drew1) | exact HB.out)) hb); have n1_ := Aside0.mk (hbox); have n2_ := Aside0.mk ((by rw [hg]; exact (below_size (by repeat (first | (with_reducible first | exact HB.out | apply below_alloc | apply pw_below_drewN | apply below_drew1) | exact HB.out))) : w.heap.size ≤ gb328)); have n3_ := Aside0.mk ((by rw [hg]; exact (below_size (by repeat (first | (with_reducible first | exact HB.out | apply below_alloc | apply pw_below_drewN | apply below_drew1) | exact HB.out))) : w.heap.size ≤ gb328)); clear HB; have HB := n0_; have BK328 := n1_; have GW328 := n2_; have GE328 := n3_; clear n0_ n1_ n2_ n3_; clear hb hbox hg; have hcz14_0 : w13.cell? ⟨gb328, 0, none⟩ = some (.int .i64 a0_0) := (blk_cell BK328.out 0).trans rfl; have hcz14_1 : w13.cell? ⟨gb328, 1, none⟩ = some (.bool a0_1) := (blk_cell BK328.out 1).trans rfl; have hcz14_2 : w13.cell? ⟨gb328, 2, none⟩ = some (.slice A0_2 l0_2.length c0_2) := (blk_cell BK328.out 2).trans rfl; have hfz14_0 := blk_frozen BK328.out 0; have hfz14_1 := blk_frozen BK328.out 1; have hfz14_2 := blk_frozen BK328.out 2) | ((with_reducible refine gate_callee (f := 19) rfl ?_); refine goesL_ (some 13) rfl rfl Try.func19 (by kernel_rfl) rfl #[.agg #[.int .i64 a0_0, .bool a0_1, .slice A0_2 l0_2.length c0_2]] rfl (by (try simp only [List.map_toArray, List.map_cons, List.map_nil]); first | done | rfl | (simp only [List.length_drop, List.length_take]; rfl)) ?_; (with_reducible refine (adj_Out.calls k a0_0 a0_1 _ _ l0_2 t329 t332 _ ?side1 ?side2 A2.out).mono ?_); (case side1 => repeat (first | exact (Kd.C_below HR0_2.out HB.out) | (with_reducible refine Kd.C_alloc ?_ _) | (with_reducible refine Kd.C_drewN ?_ _) | (with_reducible refine Kd.C_drew ?_))); (case side2 => exact HC0_2.out); rintro e w15 ⟨v330, rfl, ho0, hb⟩; refine ⟨_, rfl, ?_⟩; have n0_ := Aside0.mk (Kd.S_lower ho0 (below_size (by repeat (first | (with_reducible first | exact HB.out | apply below_alloc | apply pw_below_drewN | apply below_drew1 | refine below_set ?_ GE328.out) | exact HB.out)))); have n1_ := Aside0.mk (blk_below (g := gb328) (o := .cells #[.int .i64 a0_0, .bool a0_1, .slice A0_2 l0_2.length c0_2] 24 (0, 0)) (by (with_reducible repeat (first | refine blk_drewN ?_ _ | refine blk_drew ?_ | refine blk_alloc ?_ _)); exact BK328.out) hb); have n2_ := Aside0.mk (below_step (by repeat (first | (with_reducible first | exact HB.out | apply below_alloc | apply pw_below_drewN | apply below_drew1 | refine below_set ?_ GE328.out) | exact HB.out)) hb); clear BK328; clear HB; have HO331 := n0_; have BK328 := n1_; have HB := n2_; clear n0_ n1_ n2_; (try clear hb); (try clear hb2); (try clear hk); (try clear hi); (try clear ho0); have hcz16_0 : w15.cell? ⟨gb328, 0, none⟩ = some (.int .i64 a0_0) := (blk_cell BK328.out 0).trans rfl; have hcz16_1 : w15.cell? ⟨gb328, 1, none⟩ = some (.bool a0_1) := (blk_cell BK328.out 1).trans rfl; have hcz16_2 : w15.cell? ⟨gb328, 2, none⟩ = some (.slice A0_2 l0_2.length c0_2) := (blk_cell BK328.out 2).trans rfl; have hfz16_0 := blk_frozen BK328.out 0; have hfz16_1 := blk_frozen BK328.out 1; have hfz16_2 := blk_frozen BK328.out 2) | ((with_reducible refine gate_callee (f := 20) rfl ?_); refine goesL_ (some 18) rfl rfl Try.func20 (by kernel_rfl) rfl #[.agg #[.int .i64 a0_0, .bool a0_1, .slice A0_2 l0_2.length c0_2]] rfl (by (try simp only [List.map_toArray, List.map_cons, List.map_nil]); first | done | rfl | (simp only [List.length_drop, List.length_take]; rfl)) ?_; (with_reducible refine (ebbtideref06_Out.calls k a0_0 a0_1 _ _ l0_2 t333 t336 _ ?side1 ?side2 A3.out).mono ?_); (case side1 => repeat (first | exact (Kd.C_below HR0_2.out HB.out) | (with_reducible refine Kd.C_alloc ?_ _) | (with_reducible refine Kd.C_drewN ?_ _) | (with_reducible refine Kd.C_drew ?_))); (case side2 => exact HC0_2.out); rintro e w17 ⟨v334, rfl, ho0, hb⟩; refine ⟨_, rfl, ?_⟩; have n0_ := Aside0.mk (Kd.S_elder' (by (with_reducible repeat (first | apply Kd.S_alloc | apply Kd.S_drewN | apply Kd.S_drew)); exact HO331.out) (Kd.S_base ho0) hb); have n1_ := Aside0.mk (Kd.S_lower (Kd.S_new' ho0 (Kd.S_lt (by (with_reducible repeat (first | apply Kd.S_alloc | apply Kd.S_drewN | apply Kd.S_drew)); exact HO331.out))) (below_size (by repeat (first | (with_reducible first | exact HB.out | apply below_alloc | apply pw_below_drewN | apply below_drew1 | refine below_set ?_ GE328.out) | exact HB.out)))); have n2_ := Aside0.mk (blk_below (g := gb328) (o := .cells #[.int .i64 a0_0, .bool a0_1, .slice A0_2 l0_2.length c0_2] 24 (0, 0)) (by (with_reducible repeat (first | refine blk_drewN ?_ _ | refine blk_drew ?_ | refine blk_alloc ?_ _)); exact BK328.out) hb); have n3_ := Aside0.mk (below_step (by repeat (first | (with_reducible first | exact HB.out | apply below_alloc | apply pw_below_drewN | apply below_drew1 | refine below_set ?_ GE328.out) | exact HB.out)) hb); clear HO331; clear BK328; clear HB; have HO331 := n0_; have HO335 := n1_; have BK328 := n2_; have HB := n3_; clear n0_ n1_ n2_ n3_; (try clear hb); (try clear hb2); (try clear hk); (try clear hi); (try clear ho0); have hcz18_0 : w17.cell? ⟨gb328, 0, none⟩ = some (.int .i64 a0_0) := (blk_cell BK328.out 0).trans rfl; have hcz18_1 : w17.cell? ⟨gb328, 1, none⟩ = some (.bool a0_1) := (blk_cell BK328.out 1).trans rfl; have hcz18_2 : w17.cell? ⟨gb328, 2, none⟩ = some (.slice A0_2 l0_2.length c0_2) := (blk_cell BK328.out 2).trans rfl; have hfz18_0 := blk_frozen BK328.out 0; have hfz18_1 := blk_frozen BK328.out 1; have hfz18_2 := blk_frozen BK328.out 2) | ((with_reducible refine gate_callee (f := 21) rfl ?_); refine goesL_ (some 23) rfl rfl Try.func21 (by kernel_rfl) rfl #[.agg #[.int .i64 a0_0, .bool a0_1, .slice A0_2 l0_2.length c0_2]] rfl (by (try simp only [List.map_toArray, List.map_cons, List.map_nil]); first | done | rfl | (simp only [List.length_drop, List.length_take]; rfl)) ?_; (with_reducible refine (adj_In.calls k a0_0 a0_1 _ _ l0_2 t337 t340 _ ?side1 ?side2 A4.out).mono ?_); (case side1 => repeat (first | exact (Kd.C_below HR0_2.out HB.out) | (with_reducible refine Kd.C_alloc ?_ _) | (with_reducible refine Kd.C_drewN ?_ _) | (with_reducible refine Kd.C_drew ?_))); (case side2 => exact HC0_2.out); rintro e w19 ⟨v338, rfl, ho0, hb⟩; refine ⟨_, rfl, ?_⟩; have n0_ := Aside0.mk (Kd.S_elder' (by (with_reducible repeat (first | apply Kd.S_alloc | apply Kd.S_drewN | apply Kd.S_drew)); exact HO331.out) (Kd.S_base ho0) hb); have n1_ := Aside0.mk (Kd.S_elder' (by (with_reducible repeat (first | apply Kd.S_alloc | apply Kd.S_drewN | apply Kd.S_drew)); exact HO335.out) (Kd.S_base ho0) hb); have n2_ := Aside0.mk (Kd.S_lower (Kd.S_new' (Kd.S_new' ho0 (Kd.S_lt (by (with_reducible repeat (first | apply Kd.S_alloc | apply Kd.S_drewN | apply Kd.S_drew)); exact HO331.out))) (Kd.S_lt (by (with_reducible repeat (first | apply Kd.S_alloc | apply Kd.S_drewN | apply Kd.S_drew)); exact HO335.out))) (below_size (by repeat (first | (with_reducible first | exact HB.out | apply below_alloc | apply pw_below_drewN | apply below_drew1 | refine below_set ?_ GE328.out) | exact HB.out)))); have n3_ := Aside0.mk (blk_below (g := gb328) (o := .cells #[.int .i64 a0_0, .bool a0_1, .slice A0_2 l0_2.length c0_2] 24 (0, 0)) (by (with_reducible repeat (first | refine blk_drewN ?_ _ | refine blk_drew ?_ | refine blk_alloc ?_ _)); exact BK328.out) hb); have n4_ := Aside0.mk (below_step (by repeat (first | (with_reducible first | exact HB.out | apply below_alloc | apply pw_below_drewN | apply below_drew1 | refine below_set ?_ GE328.out) | exact HB.out)) hb); clear HO331; clear HO335; clear BK328; clear HB; have HO331 := n0_; have HO335 := n1_; have HO339 := n2_; have BK328 := n3_; have HB := n4_; clear n0_ n1_ n2_ n3_ n4_; (try clear hb); (try clear hb2); (try clear hk); (try clear hi); (try clear ho0); have hcz20_0 : w19.cell? ⟨gb328, 0, none⟩ = some (.int .i64 a0_0) := (blk_cell BK328.out 0).trans rfl; have hcz20_1 : w19.cell? ⟨gb328, 1, none⟩ = some (.bool a0_1) := (blk_cell BK328.out 1).trans rfl; have hcz20_2 : w19.cell? ⟨gb328, 2, none⟩ = some (.slice A0_2 l0_2.length c0_2) := (blk_cell BK328.out 2).trans rfl; have hfz20_0 := blk_frozen BK328.out 0; have hfz20_1 := blk_frozen BK328.out 1; have hfz20_2 := blk_frozen BK328.out 2) | ((with_reducible refine gate_callee (f := 22) rfl ?_); refine goesL_ (some 28) rfl rfl Try.func22 (by kernel_rfl) rfl #[.agg #[.int .i64 a0_0, .bool a0_1, .slice A0_2 l0_2.length c0_2]] rfl (by (try simp only [List.map_toArray, List.map_cons, List.map_nil]); first | done | rfl | (simp only [List.length_drop, List.length_take]; rfl)) ?_; (with_reducible refine (ebbtideref06_In.calls k a0_0 a0_1 _ _ l0_2 t341 t344 _ ?side1 ?side2 A5.out).mono ?_); (case side1 => repeat (first | exact (Kd.C_below HR0_2.out HB.out) | (with_reducible refine Kd.C_alloc ?_ _) | (with_reducible refine Kd.C_drewN ?_ _) | (with_reducible refine Kd.C_drew ?_))); (case side2 => exact HC0_2.out); rintro e w21 ⟨v342, rfl, ho0, hb⟩; refine ⟨_, rfl, ?_⟩; have n0_ := Aside0.mk (Kd.S_elder' (by (with_reducible repeat (first | apply Kd.S_alloc | apply Kd.S_drewN | apply Kd.S_drew)); exact HO331.out) (Kd.S_base ho0) hb); have n1_ := Aside0.mk (Kd.S_elder' (by (with_reducible repeat (first | apply Kd.S_alloc | apply Kd.S_drewN | apply Kd.S_drew)); exact HO335.out) (Kd.S_base ho0) hb); have n2_ := Aside0.mk (Kd.S_elder' (by (with_reducible repeat (first | apply Kd.S_alloc | apply Kd.S_drewN | apply Kd.S_drew)); exact HO339.out) (Kd.S_base ho0) hb); have n3_ := Aside0.mk (Kd.S_lower (Kd.S_new' (Kd.S_new' (Kd.S_new' ho0 (Kd.S_lt (by (with_reducible repeat (first | apply Kd.S_alloc | apply Kd.S_drewN | apply Kd.S_drew)); exact HO331.out))) (Kd.S_lt (by (with_reducible repeat (first | apply Kd.S_alloc | apply Kd.S_drewN | apply Kd.S_drew)); exact HO335.out))) (Kd.S_lt (by (with_reducible repeat (first | apply Kd.S_alloc | apply Kd.S_drewN | apply Kd.S_drew)); exact HO339.out))) (below_size (by repeat (first | (with_reducible first | exact HB.out | apply below_alloc | apply pw_below_drewN | apply below_drew1 | refine below_set ?_ GE328.out) | exact HB.out)))); have n4_ := Aside0.mk (blk_below (g := gb328) (o := .cells #[.int .i64 a0_0, .bool a0_1, .slice A0_2 l0_2.length c0_2] 24 (0, 0)) (by (with_reducible repeat (first | refine blk_drewN ?_ _ | refine blk_drew ?_ | refine blk_alloc ?_ _)); exact BK328.out) hb); have n5_ := Aside0.mk (below_step (by repeat (first | (with_reducible first | exact HB.out | apply below_alloc | apply pw_below_drewN | apply below_drew1 | refine below_set ?_ GE328.out) | exact HB.out)) hb); clear HO331; clear HO335; clear HO339; clear BK328; clear HB; have HO331 := n0_; have HO335 := n1_; have HO339 := n2_; have HO343 := n3_; have BK328 := n4_; have HB := n5_; clear n0_ n1_ n2_ n3_ n4_ n5_; (try clear hb); (try clear hb2); (try clear hk); (try clear hi); (try clear ho0)) | ((with_reducible refine gate_callee (f := 12) rfl ?_); refine goesL_ (some 31) rfl rfl Try.func12 (by kernel_rfl) rfl #[] rfl (by (try simp only [List.map_toArray, List.map_cons, List.map_nil]); first | done | rfl | (simp only [List.length_drop, List.length_take]; rfl)) ?_; (with_reducible refine (ebbtidelaw06_awake.calls k  true _ A6.out).mono ?_); rintro e w22 ⟨rfl, hb⟩; refine ⟨_, rfl, ?_⟩; have n0_ := Aside0.mk (Kd.S_below (by (with_reducible repeat (first | apply Kd.S_alloc | apply Kd.S_drewN | apply Kd.S_drew)); exact HO331.out) hb); have n1_ := Aside0.mk (Kd.S_below (by (with_reducible repeat (first | apply Kd.S_alloc | apply Kd.S_drewN | apply Kd.S_drew)); exact HO335.out) hb); have n2_ := Aside0.mk (Kd.S_below (by (with_reducible repeat (first | apply Kd.S_alloc | apply Kd.S_drewN | apply Kd.S_drew)); exact HO339.out) hb); have n3_ := Aside0.mk (Kd.S_below (by (with_reducible repeat (first | apply Kd.S_alloc | apply Kd.S_drewN | apply Kd.S_drew)); exact HO343.out) hb); have n4_ := Aside0.mk (blk_below (g := gb328) (o := .cells #[.int .i64 a0_0, .bool a0_1, .slice A0_2 l0_2.length c0_2] 24 (0, 0)) (by (with_reducible repeat (first | refine blk_drewN ?_ _ | refine blk_drew ?_ | refine blk_alloc ?_ _)); exact BK328.out) hb); have n5_ := Aside0.mk (below_step (by repeat (first | (with_reducible first | exact HB.out | apply below_alloc | apply pw_below_drewN | apply below_drew1 | refine below_set ?_ GE328.out) | exact HB.out)) hb); clear HO331; clear HO335; clear HO339; clear HO343; clear BK328; clear HB; have HO331 := n0_; have HO335 := n1_; have HO339 := n2_; have HO343 := n3_; have BK328 := n4_; have HB := n5_; clear n0_ n1_ n2_ n3_ n4_ n5_; (try clear hb); (try clear hb2); (try clear hk); (try clear hi); obtain ⟨Ao23, co23, eo23⟩ := Kd.S_slice HO331.out; subst eo23; obtain ⟨Ao24, co24, eo24⟩ := Kd.S_slice HO335.out; subst eo24) | (go_at_call 23; (with_reducible refine (ebbtideref06_Same.calls k _ _ t329 _ _ t333 true _ ?side1 ?side2 ?side3 ?side4 A8.out).mono ?_); (case side1 => repeat (first | exact (Kd.S_reads' HO331.out).2.2 | (with_reducible refine Kd.C_alloc ?_ _) | (with_reducible refine Kd.C_drewN ?_ _) | (with_reducible refine Kd.C_drew ?_))); (case side2 => exact (Kd.S_reads' HO331.out).2.1); (case side3 => repeat (first | exact (Kd.S_reads' HO335.out).2.2 | (with_reducible refine Kd.C_alloc ?_ _) | (with_reducible refine Kd.C_drewN ?_ _) | (with_reducible refine Kd.C_drew ?_))); (case side4 => exact (Kd.S_reads' HO335.out).2.1); rintro e w' ⟨rfl, ⟨nd, rfl⟩⟩; obtain ⟨Ao25, co25, eo25⟩ := Kd.S_slice HO339.out; subst eo25; obtain ⟨Ao26, co26, eo26⟩ := Kd.S_slice HO343.out; subst eo26) | (go_at_call 23; (with_reducible refine (ebbtideref06_Same.calls k _ _ t337 _ _ t341 true _ ?side1 ?side2 ?side3 ?side4 A11.out).mono ?_); (case side1 => repeat (first | exact (Kd.S_reads' HO339.out).2.2 | (with_reducible refine Kd.C_alloc ?_ _) | (with_reducible refine Kd.C_drewN ?_ _) | (with_reducible refine Kd.C_drew ?_))); (case side2 => exact (Kd.S_reads' HO339.out).2.1); (case side3 => repeat (first | exact (Kd.S_reads' HO343.out).2.2 | (with_reducible refine Kd.C_alloc ?_ _) | (with_reducible refine Kd.C_drewN ?_ _) | (with_reducible refine Kd.C_drew ?_))); (case side4 => exact (Kd.S_reads' HO343.out).2.1); rintro e w' ⟨rfl, ⟨nd, rfl⟩⟩))
     go_ret
     exact ⟨by first | rfl | (simp [errW_none, errW_some] <;> rfl) | (simp [*, errW_none, errW_some] <;> rfl), by repeat (first | (with_reducible first | exact HB.out | apply below_alloc | apply pw_below_drewN | apply below_drew1 | refine below_set ?_ GE328.out) | exact HB.out)⟩
    ·replace c12 := Bool.eq_false_iff.mpr c12
     subst c12
     have H1 : (some false) = some r := by rw [if_neg (show ¬ (false = true) by decide)] at H; exact H
     clear H; have H := H1; clear H1; exact absurd ((Option.some.inj H).trans HRT.out) (by decide)
   ·rw [if_neg c10] at H
    have c10b0 : (t332 == t336) = false := beq_eq_false_iff_ne.mpr c10; have c10b1 : (t332 != t336) = true := bne_iff_ne.mpr c10; exact absurd ((Option.some.inj H).trans HRT.out) (by decide)
  ·replace c9 := Bool.eq_false_iff.mpr c9
   subst c9
   have H1 : (some false) = some r := by rw [if_neg (show ¬ (false = true) by decide)] at H; exact H
   clear H; have H := H1; clear H1; exact absurd ((Option.some.inj H).trans HRT.out) (by decide)
 ·replace c7 := Bool.eq_false_iff.mpr c7
  subst c7
  have H1 : (some false) = some r := by rw [if_neg (show ¬ (false = true) by decide)] at H; exact H
  clear H; have H := H1; clear H1; exact absurd ((Option.some.inj H).trans HRT.out) (by decide)
end Go.Proofs.Ytgjgckpdilbbjaa.Q
end
section
namespace Go.Proofs.Ytgjgckpdilbbjaa.R
open Go.RowKit Go.Proofs.Ytgjgckpdilbbjaa.Q Go.Proofs.YtgjgckpdilbbjaaW.PrintWords Go.Proofs.YtgjgckpdilbbjaaW.PrintLast Go.Proofs.YtgjgckpdilbbjaaW.PrintMore
def AdjLists.Pure : Prop := ∀ N0 : Nat, ∀ (x0 : S24), g24 N0 x0 → ∃ k, ebbtidelaw06_AdjLists.f k x0.f0 x0.f1 x0.f2 = some true
end Go.Proofs.Ytgjgckpdilbbjaa.R
end
section
namespace Go.Proofs.Ytgjgckpdilbbjaa.Pure
set_option linter.unusedSimpArgs false
set_option linter.unusedVariables false
open Go.RowKit Go.Proofs.Ytgjgckpdilbbjaa.Q Go.Proofs.Ytgjgckpdilbbjaa.P Go.Proofs.YtgjgckpdilbbjaaW.PrintWords Go.Proofs.YtgjgckpdilbbjaaW.PrintLast Go.Proofs.YtgjgckpdilbbjaaW.PrintMore
open Go.Proofs.Ytgjgckpdilbbjaa.R
theorem rows_short {e : S37 → Int} {l : List S37} {n : Nat} (hl : l.length ≤ 200) (v : Int) : (rd_L3 (rowsAt e l n l.length) v).length ≤ 1000 := by
  by_cases c : v.toNat < n
  · have e1 : rd_L3 (rowsAt e l n l.length) v = placesAt e l l.length (v.toNat : Int) := by
      unfold rd_L3 rowsAt
      rw [List.getD_eq_getElem?_getD, List.getElem?_map, List.getElem?_range c]; rfl
    rw [e1]
    exact Nat.le_trans (placesAt_length _ _ _ _) (by omega)
  · unfold rd_L3
    rw [List.getD_eq_getElem?_getD, List.getElem?_eq_none (by rw [rowsAt_length]; omega)]
    exact Nat.zero_le _
theorem same_lists {n : Int} {l : List S37} (e : S37 → Int) : Ev (fun k => ebbtideref06_Same.f k (outErr n l (rowsAt e l n.toNat l.length)).1 (outErr n l (rowsAt e l n.toNat l.length)).1) true := by
  unfold outErr
  by_cases c : checkErr n l = 0
  · rw [if_pos c]
    have h := checkErr_ok.1 c
    exact same_ev _ (by show (rowsAt _ _ _ _).length ≤ _; rw [rowsAt_length]; have := h.hi; omega) (rows_short h.len)
  · rw [if_neg c]
    exact same_ev _ (Nat.zero_le _) (fun v => by unfold rd_L3; simp)
theorem AdjLists : AdjLists.Pure := by
  intro N0 x0 _
  obtain ⟨n, b, l⟩ := x0
  apply Ev.rounds
  show Ev (fun k => ebbtidelaw06_AdjLists.f k n b l) true
  unfold ebbtidelaw06_AdjLists.f
  refine Ev.bind (out_ev n b l) (Ev.bind (rOut_ev n b l) (Ev.bind (in_ev n b l) (Ev.bind (rIn_ev n b l) (Ev.bind awake06_ev ?_))))
  simp only [if_true]
  refine Ev.bind (same_lists S37.f0) ?_
  simp only [if_true]
  refine Ev.bind (same_lists S37.f1) ?_
  simp only [if_true, beq_self_eq_true]
  exact Ev.now _
end Go.Proofs.Ytgjgckpdilbbjaa.Pure
end
