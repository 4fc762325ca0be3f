/- A part of the proof: words, contracts, plain lemmas. Conditions: none. -/
import Derived.Test.YtfhkkbpkajfdlaaZExpandBuilds3
import Derived.Test.YtfhkkbpkajfdlaaZExpandBuilds5
import Derived.Test.YtfhkkbpkajfdlaaZExpandBuilds6
import Derived.Test.YtfhkkbpkajfdlaaZExpandBuilds7
import Derived.Test.YtfhkkbpkajfdlaaZExpandBuilds8
import Derived.Test.YtfhkkbpkajfdlaaZExpandBuilds9
import Derived.Test.YtfhkkbpkajfdlaaZExpandBuilds10
section
namespace Go.Proofs.Ytfhkkbpkajfdlaa.P
open Go.RowKit Go.Proofs.Ytfhkkbpkajfdlaa.Q Go.Proofs.YtfhkkbpkajfdlaaW.PrintWords Go.Proofs.YtfhkkbpkajfdlaaW.PrintLast Go.Proofs.YtfhkkbpkajfdlaaW.PrintMore
theorem ev_cst {α : Type} {g : Nat → Option α} {r : α} (h : ∀ k, g (k + 1) = some r) : Ev g r := Ev.step h (Ev.now r)
theorem wrap1 {i : Nat} (h : i ≤ 4611686018427387904) : wrap64 ((i : Int) + 1) = ((i + 1 : Nat) : Int) := by unfold wrap64; omega
theorem rdA_of {l : List S54} {i : Nat} (h : i < l.length) : rd_T54 l (i : Int) = l[i] := by unfold rd_T54; simp [List.getD_eq_getElem?_getD, List.getElem?_eq_getElem h]
def arcErr (n : Int) (a : S54) : Int := if a.f0 < 0 ∨ a.f1 < 0 ∨ a.f2 < 0 ∨ a.f3 < 0 ∨ n ≤ a.f0 ∨ n ≤ a.f1 then 51 else if 1048576 < a.f2 ∨ 1048576 < a.f3 then 2 else 0
def firstErr (n : Int) : List S54 → Int
  | [] => 0
  | a :: r => if arcErr n a = 0 then firstErr n r else arcErr n a
def checkErr (n : Int) (l : List S54) : Int := if n < 1 then 51 else if 50 < n then 2 else if 200 < l.length then 2 else firstErr n l
def endsErr (n : Int) (l : List S54) (s t : Int) : Int := if checkErr n l = 0 then (if s < 0 ∨ t < 0 ∨ n ≤ s ∨ n ≤ t ∨ s = t then 70 else 0) else checkErr n l
def spanErr (h : Int) : Int := if h < 0 then 1 else if 1024 < h then 2 else 0
def askErr (n : Int) (l : List S54) (s t h : Int) : Int := if endsErr n l s t = 0 then spanErr h else endsErr n l s t
structure ArcOk (n : Int) (a : S54) : Prop where
  f0 : 0 ≤ a.f0 ∧ a.f0 < n
  f1 : 0 ≤ a.f1 ∧ a.f1 < n
  f2 : 0 ≤ a.f2 ∧ a.f2 ≤ 1048576
  f3 : 0 ≤ a.f3 ∧ a.f3 ≤ 1048576
theorem arcErr_ok {n : Int} {a : S54} : arcErr n a = 0 ↔ ArcOk n a := by
  unfold arcErr
  constructor
  · intro h
    split at h
    · cases h
    · split at h
      · cases h
      · exact ⟨by omega, by omega, by omega, by omega⟩
  · rintro ⟨h0, h1, h2, h3⟩
    rw [if_neg (by omega), if_neg (by omega)]
theorem firstErr_ok {n : Int} {l : List S54} : firstErr n l = 0 ↔ ∀ a ∈ l, ArcOk n a := by
  induction l with
  | nil => simp [firstErr]
  | cons a l ih =>
    rw [firstErr]
    by_cases h : arcErr n a = 0
    · rw [if_pos h, ih]
      constructor
      · intro h2 x hx
        rcases List.mem_cons.1 hx with rfl | hx
        · exact arcErr_ok.1 h
        · exact h2 x hx
      · intro h2 x hx; exact h2 x (List.mem_cons_of_mem _ hx)
    · rw [if_neg h]
      constructor
      · intro h2; exact absurd h2 h
      · intro h2; exact absurd (arcErr_ok.2 (h2 a List.mem_cons_self)) h
structure NetOk (n : Int) (l : List S54) : Prop where
  lo : 1 ≤ n
  hi : n ≤ 50
  len : l.length ≤ 200
  arcs : ∀ a ∈ l, ArcOk n a
theorem checkErr_ok {n : Int} {l : List S54} : checkErr n l = 0 ↔ NetOk n l := by
  unfold checkErr
  constructor
  · intro h
    split at h
    · cases h
    · split at h
      · cases h
      · split at h
        · cases h
        · exact ⟨by omega, by omega, by omega, firstErr_ok.1 h⟩
  · rintro ⟨h0, h1, h2, h3⟩
    rw [if_neg (by omega), if_neg (by omega), if_neg (by omega)]
    exact firstErr_ok.2 h3
theorem askErr_ok {n : Int} {l : List S54} {s t h : Int} : askErr n l s t h = 0 ↔ NetOk n l ∧ 0 ≤ s ∧ s < n ∧ 0 ≤ t ∧ t < n ∧ s ≠ t ∧ 0 ≤ h ∧ h ≤ 1024 := by
  unfold askErr endsErr spanErr
  by_cases hc : checkErr n l = 0
  · rw [if_pos hc]
    have hn := checkErr_ok.1 hc
    by_cases hs : s < 0 ∨ t < 0 ∨ n ≤ s ∨ n ≤ t ∨ s = t
    · rw [if_pos hs, if_neg (by decide)]
      constructor
      · intro h; cases h
      · rintro ⟨_, h⟩; omega
    · rw [if_neg hs, if_pos rfl]
      constructor
      · intro h2
        refine ⟨hn, by omega, by omega, by omega, by omega, by omega, ?_, ?_⟩
        · by_cases c : h < 0
          · rw [if_pos c] at h2; cases h2
          · omega
        · by_cases c : h < 0
          · rw [if_pos c] at h2; cases h2
          · rw [if_neg c] at h2
            by_cases c2 : 1024 < h
            · rw [if_pos c2] at h2; cases h2
            · omega
      · rintro ⟨_, _, _, _, _, _, h5, h6⟩
        rw [if_neg (by omega), if_neg (by omega)]
  · rw [if_neg hc, if_neg hc]
    constructor
    · intro h; exact absurd h hc
    · rintro ⟨h, _⟩; exact absurd (checkErr_ok.2 h) hc
theorem arc_ev (n : Int) (a : S54) : Ev (fun k => netfmt_arc.f k n a.f0 a.f1 a.f2 a.f3) (arcErr n a) := by
  refine ev_cst fun k => ?_
  unfold netfmt_arc.f arcErr
  by_cases c : mn (mn (mn a.f0 a.f1) a.f2) a.f3 < 0
  · rw [if_pos c, netfmt_arc.j0, if_pos rfl, if_pos (by unfold mn at c; (repeat' split at c) <;> omega)]
  · rw [if_neg c, netfmt_arc.j0]
    have hc : 0 ≤ a.f0 ∧ 0 ≤ a.f1 ∧ 0 ≤ a.f2 ∧ 0 ≤ a.f3 := by unfold mn at c; (repeat' split at c) <;> omega
    by_cases c2 : mx a.f0 a.f1 ≥ n
    · rw [decide_eq_true c2, if_pos rfl, if_pos (by unfold mx at c2; split at c2 <;> omega)]
    · rw [decide_eq_false c2, if_neg (by decide)]
      have hc2 : a.f0 < n ∧ a.f1 < n := by unfold mx at c2; split at c2 <;> omega
      rw [if_neg (show ¬ (a.f0 < 0 ∨ a.f1 < 0 ∨ a.f2 < 0 ∨ a.f3 < 0 ∨ n ≤ a.f0 ∨ n ≤ a.f1) by omega)]
      by_cases c3 : a.f2 > 1048576
      · rw [if_pos c3, if_pos (by omega)]
      · rw [if_neg c3]
        by_cases c4 : a.f3 > 1048576
        · rw [if_pos c4, if_pos (by omega)]
        · rw [if_neg c4, if_neg (by omega)]
theorem rarc_ev (n : Int) (a : S54) : Ev (fun k => ebbtideref05_Arc.f k n a.f0 a.f1 a.f2 a.f3) (arcErr n a) := by
  refine ev_cst fun k => ?_
  unfold ebbtideref05_Arc.f arcErr
  simp only [ebbtideref05_Arc.j0]
  by_cases c0 : a.f0 < 0
  · rw [if_pos c0, if_pos trivial, if_pos (by omega)]
  · rw [if_neg c0]
    by_cases c1 : a.f0 ≥ n
    · rw [if_pos c1, if_pos trivial, if_pos (by omega)]
    · rw [if_neg c1]
      by_cases c2 : a.f1 < 0
      · rw [if_pos c2, if_pos trivial, if_pos (by omega)]
      · rw [if_neg c2]
        by_cases c3 : a.f1 ≥ n
        · rw [if_pos c3, if_pos trivial, if_pos (by omega)]
        · rw [if_neg c3]
          by_cases c4 : a.f2 < 0
          · rw [if_pos c4, if_pos trivial, if_pos (by omega)]
          · rw [if_neg c4]
            by_cases c5 : a.f3 < 0
            · rw [if_pos (decide_eq_true c5), if_pos (by omega)]
            · rw [if_neg (by simpa using c5), if_neg (show ¬ (a.f0 < 0 ∨ a.f1 < 0 ∨ a.f2 < 0 ∨ a.f3 < 0 ∨ n ≤ a.f0 ∨ n ≤ a.f1) by omega)]
              by_cases c6 : a.f2 > 1048576
              · rw [if_pos c6, if_pos (by omega)]
              · rw [if_neg c6]
                by_cases c7 : a.f3 > 1048576
                · rw [if_pos c7, if_pos (by omega)]
                · rw [if_neg c7, if_neg (by omega)]
theorem check_loop (n : Int) (b : Bool) (l : List S54) (hl : l.length ≤ 200) (d : Nat) : ∀ i, i + d = l.length → Ev (fun k => netfmt_Check.l0 k l (l.length : Int) (i : Int) n b l) (firstErr n (l.drop i)) := by
  induction d with
  | zero =>
    intro i hi
    rw [List.drop_eq_nil_of_le (by omega)]
    exact ev_cst fun k => by rw [netfmt_Check.l0, if_neg (by omega)]; rfl
  | succ d ih =>
    intro i hi
    have hlt : i < l.length := by omega
    refine Ev.step (f := fun k => (netfmt_arc.f k n l[i].f0 l[i].f1 l[i].f2 l[i].f3).bind fun t173 => if t173 = 0 then netfmt_Check.l0 k l (l.length : Int) ((i + 1 : Nat) : Int) n b l else some t173) (fun k => ?_) ?_
    · rw [netfmt_Check.l0, if_pos (by omega), if_pos (by omega), if_pos (by omega), rdA_of hlt, wrap1 (by omega)]
    · refine Ev.bind (arc_ev n l[i]) ?_
      rw [List.drop_eq_getElem_cons hlt, firstErr]
      by_cases c : arcErr n l[i] = 0
      · simp only [c, if_true]
        exact ih (i + 1) (by omega)
      · simp only [c, if_false]
        exact Ev.now _
theorem rcheck_loop (n : Int) (b : Bool) (l : List S54) (hl : l.length ≤ 200) (d : Nat) : ∀ i, i + d = l.length → Ev (fun k => ebbtideref05_Check.l0 k (i : Int) n b l) (firstErr n (l.drop i)) := by
  induction d with
  | zero =>
    intro i hi
    rw [List.drop_eq_nil_of_le (by omega)]
    exact ev_cst fun k => by rw [ebbtideref05_Check.l0, if_neg (by omega)]; rfl
  | succ d ih =>
    intro i hi
    have hlt : i < l.length := by omega
    refine Ev.step (f := fun k => (ebbtideref05_Arc.f k n l[i].f0 l[i].f1 l[i].f2 l[i].f3).bind fun t184 => if t184 = 0 then ebbtideref05_Check.l0 k ((i + 1 : Nat) : Int) n b l else some t184) (fun k => ?_) ?_
    · rw [ebbtideref05_Check.l0, if_pos (by omega), if_pos (by omega), rdA_of hlt, wrap1 (by omega)]
    · refine Ev.bind (rarc_ev n l[i]) ?_
      rw [List.drop_eq_getElem_cons hlt, firstErr]
      by_cases c : arcErr n l[i] = 0
      · simp only [c, if_true]
        exact ih (i + 1) (by omega)
      · simp only [c, if_false]
        exact Ev.now _
theorem nodes_eq (n : Int) : netfmt_nodes.f n = some (if n < 1 then 51 else if 50 < n then 2 else 0) := by
  unfold netfmt_nodes.f
  by_cases c : n < 1
  · rw [if_pos c, if_pos c]
  · rw [if_neg c, if_neg c]
    by_cases c2 : n > 50
    · rw [if_pos c2, if_pos c2]
    · rw [if_neg c2, if_neg c2]
theorem rnodes_eq (n : Int) : ebbtideref05_nodes.f n = some (if n < 1 then 51 else if 50 < n then 2 else 0) := nodes_eq n
theorem check_ev (n : Int) (b : Bool) (l : List S54) : Ev (fun k => netfmt_Check.f k n b l) (checkErr n l) := by
  unfold netfmt_Check.f checkErr
  rw [nodes_eq]
  simp only [Option.bind_some]
  by_cases c : n < 1
  · simp only [c, if_true, show ¬ (51 : Int) = 0 by decide, if_false]; exact Ev.now _
  · by_cases c2 : 50 < n
    · simp only [c, c2, if_true, if_false, show ¬ (2 : Int) = 0 by decide]; exact Ev.now _
    · simp only [c, c2, if_true, if_false]
      by_cases c3 : 200 < l.length
      · simp only [c3, if_true, show (l.length : Int) > 200 by omega]; exact Ev.now _
      · simp only [c3, if_false, show ¬ (l.length : Int) > 200 by omega]
        exact check_loop n b l (by omega) l.length 0 (by omega)
theorem rcheck_ev (n : Int) (b : Bool) (l : List S54) : Ev (fun k => ebbtideref05_Check.f k n b l) (checkErr n l) := by
  unfold ebbtideref05_Check.f checkErr
  rw [rnodes_eq]
  simp only [Option.bind_some]
  by_cases c : n < 1
  · simp only [c, if_true, show ¬ (51 : Int) = 0 by decide, if_false]; exact Ev.now _
  · by_cases c2 : 50 < n
    · simp only [c, c2, if_true, if_false, show ¬ (2 : Int) = 0 by decide]; exact Ev.now _
    · simp only [c, c2, if_true, if_false]
      by_cases c3 : 200 < l.length
      · simp only [c3, if_true, show (l.length : Int) > 200 by omega]; exact Ev.now _
      · simp only [c3, if_false, show ¬ (l.length : Int) > 200 by omega]
        exact rcheck_loop n b l (by omega) l.length 0 (by omega)
theorem mn_neg {s t : Int} : mn s t < 0 ↔ s < 0 ∨ t < 0 := by unfold mn; split <;> omega
theorem mx_ge {s t n : Int} : mx s t ≥ n ↔ n ≤ s ∨ n ≤ t := by unfold mx; split <;> omega
theorem ends_ev (n : Int) (b : Bool) (l : List S54) (s t : Int) : Ev (fun k => static_Ends.f k n b l s t) (endsErr n l s t) := by
  unfold static_Ends.f endsErr
  refine Ev.bind (check_ev n b l) ?_
  by_cases c : checkErr n l = 0
  · simp only [c, if_true]
    refine ev_cst fun _ => ?_
    by_cases c1 : mn s t < 0
    · rw [if_pos c1, if_pos (by have := mn_neg.1 c1; omega)]
    · rw [if_neg c1]
      have h1 : ¬ (s < 0 ∨ t < 0) := fun h => c1 (mn_neg.2 h)
      by_cases c2 : mx s t ≥ n
      · rw [if_pos c2, if_pos (by have := mx_ge.1 c2; omega)]
      · rw [if_neg c2]
        have h2 : ¬ (n ≤ s ∨ n ≤ t) := fun h => c2 (mx_ge.2 h)
        by_cases c3 : s = t
        · rw [if_pos c3, if_pos (by omega)]
        · rw [if_neg c3, if_neg (by omega)]
  · simp only [c, if_false]
    exact Ev.now _
theorem rends_ev (n : Int) (b : Bool) (l : List S54) (s t : Int) : Ev (fun k => ebbtideref07_Ends.f k n b l s t) (endsErr n l s t) := by
  unfold ebbtideref07_Ends.f endsErr
  refine Ev.bind (rcheck_ev n b l) ?_
  by_cases c : checkErr n l = 0
  · simp only [c, if_true]
    have hnode : ∀ v, ebbtideref06_Node.f n b l v = some (decide (0 ≤ v ∧ v < n)) := by
      intro v
      unfold ebbtideref06_Node.f
      by_cases c1 : v ≥ 0
      · rw [if_pos c1]; congr 1; rw [decide_eq_decide]; omega
      · rw [if_neg c1]; congr 1; symm; rw [decide_eq_false_iff_not]; omega
    refine ev_cst fun _ => ?_
    rw [hnode, hnode]
    simp only [Option.bind_some, decide_eq_true_eq]
    by_cases c1 : 0 ≤ s ∧ s < n
    · rw [if_pos c1]
      by_cases c2 : 0 ≤ t ∧ t < n
      · rw [if_pos c2]
        by_cases c3 : s = t
        · rw [if_pos c3, if_pos (by omega)]
        · rw [if_neg c3, if_neg (by omega)]
      · rw [if_neg c2, if_pos (by omega)]
    · rw [if_neg c1, if_pos (by omega)]
  · simp only [c, if_false]
    exact Ev.now _
theorem horizon_eq (h : Int) : span_Horizon.f h = some (spanErr h) := by
  unfold span_Horizon.f spanErr
  by_cases c : h < 0
  · rw [if_pos c, if_pos c]
  · rw [if_neg c, if_neg c]
    by_cases c2 : h > 1024
    · rw [if_pos c2, if_pos c2]
    · rw [if_neg c2, if_neg c2]
theorem rspan_eq (h : Int) : ebbtideref12_Span.f h = some (spanErr h) := horizon_eq h
theorem asked_ev (n : Int) (b : Bool) (l : List S54) (s t h : Int) : Ev (fun k => span_Asked.f k n b l s t h) (askErr n l s t h) := by
  unfold span_Asked.f askErr
  refine Ev.bind (ends_ev n b l s t) ?_
  by_cases c : endsErr n l s t = 0
  · simp only [c, if_true, horizon_eq, Option.bind_some]; exact Ev.now _
  · simp only [c, if_false]; exact Ev.now _
theorem rasked_ev (n : Int) (b : Bool) (l : List S54) (s t h : Int) : Ev (fun k => ebbtideref12_Asked.f k n b l s t h) (askErr n l s t h) := by
  unfold ebbtideref12_Asked.f askErr
  refine Ev.bind (rends_ev n b l s t) ?_
  by_cases c : endsErr n l s t = 0
  · simp only [c, if_true, rspan_eq, Option.bind_some]; exact Ev.now _
  · simp only [c, if_false]; exact Ev.now _
end Go.Proofs.Ytfhkkbpkajfdlaa.P
end
section
namespace Go.Proofs.Ytfhkkbpkajfdlaa.Q
open Go.RowKit Go.Proofs.YtfhkkbpkajfdlaaW.PrintWords Go.Proofs.YtfhkkbpkajfdlaaW.PrintLast Go.Proofs.YtfhkkbpkajfdlaaW.PrintMore
attribute [local go_sem] max2_int min2_int max_two min_two min_four
set_option linter.unusedVariables false
set_option linter.unusedSimpArgs false
theorem eqA26 (d : Nat) (w : World) (x0 y0 : Int) (x1 y1 : Int) :
  (Op.equalIn (d + 2) 26 (.agg #[.int .i64 x0, .int .i64 x1]) (.agg #[.int .i64 y0, .int .i64 y1])).run Try.prog w = .ok (x0 == y0 && (x1 == y1)) w := by
 refine eqA_of Try.underlying26 (by kernel_rfl) ?_; refine eqf_cons (by rfl) (by go_simp; rfl) (by go_simp; rfl) (by go_simp) ?_; exact eqf_last (by rfl) (by go_simp; rfl) (by go_simp; rfl) (by go_simp)
end Go.Proofs.Ytfhkkbpkajfdlaa.Q
end
