/- A part of the proof: words, contracts, plain lemmas. Conditions: none. -/
import Derived.Test.YtfhkkbpkajfdlaaZExpandMoves3
import Derived.Test.YtfhkkbpkajfdlaaZExpandMoves6
import Derived.Test.YtfhkkbpkajfdlaaZExpandMoves7
import Derived.Test.YtfhkkbpkajfdlaaZExpandMoves8
import Derived.Test.YtfhkkbpkajfdlaaZExpandMoves13
import Derived.Test.YtfhkkbpkajfdlaaZExpandMoves14
import Derived.Test.YtfhkkbpkajfdlaaZExpandMoves15
import Derived.Test.YtfhkkbpkajfdlaaZExpandMoves17
import Derived.Test.YtfhkkbpkajfdlaaZExpandMoves18
import Derived.Test.YtfhkkbpkajfdlaaZExpandMoves19
import Derived.Test.YtfhkkbpkajfdlaaZExpandMoves9
import Derived.Test.YtfhkkbpkajfdlaaZExpandMoves12
import Derived.Test.YtfhkkbpkajfdlaaZExpandMoves16
section
namespace Go.Proofs.Ytfhkkbpkajfdlaa.P
open Go.RowKit Go.Proofs.Ytfhkkbpkajfdlaa.Q Go.Proofs.YtfhkkbpkajfdlaaW.PrintWords Go.Proofs.YtfhkkbpkajfdlaaW.PrintLast Go.Proofs.YtfhkkbpkajfdlaaW.PrintMore
theorem ev_cst {α : Type} {g : Nat → Option α} {r : α} (h : ∀ k, g (k + 1) = some r) : Ev g r := Ev.step h (Ev.now r)
theorem wrap1 {i : Nat} (h : i ≤ 4611686018427387904) : wrap64 ((i : Int) + 1) = ((i + 1 : Nat) : Int) := by unfold wrap64; omega
theorem rdA_of {l : List S54} {i : Nat} (h : i < l.length) : rd_T54 l (i : Int) = l[i] := by unfold rd_T54; simp [List.getD_eq_getElem?_getD, List.getElem?_eq_getElem h]
def arcErr (n : Int) (a : S54) : Int := if a.f0 < 0 ∨ a.f1 < 0 ∨ a.f2 < 0 ∨ a.f3 < 0 ∨ n ≤ a.f0 ∨ n ≤ a.f1 then 51 else if 1048576 < a.f2 ∨ 1048576 < a.f3 then 2 else 0
def firstErr (n : Int) : List S54 → Int
  | [] => 0
  | a :: r => if arcErr n a = 0 then firstErr n r else arcErr n a
def checkErr (n : Int) (l : List S54) : Int := if n < 1 then 51 else if 50 < n then 2 else if 200 < l.length then 2 else firstErr n l
def endsErr (n : Int) (l : List S54) (s t : Int) : Int := if checkErr n l = 0 then (if s < 0 ∨ t < 0 ∨ n ≤ s ∨ n ≤ t ∨ s = t then 70 else 0) else checkErr n l
def spanErr (h : Int) : Int := if h < 0 then 1 else if 1024 < h then 2 else 0
def askErr (n : Int) (l : List S54) (s t h : Int) : Int := if endsErr n l s t = 0 then spanErr h else endsErr n l s t
structure ArcOk (n : Int) (a : S54) : Prop where
  f0 : 0 ≤ a.f0 ∧ a.f0 < n
  f1 : 0 ≤ a.f1 ∧ a.f1 < n
  f2 : 0 ≤ a.f2 ∧ a.f2 ≤ 1048576
  f3 : 0 ≤ a.f3 ∧ a.f3 ≤ 1048576
theorem arcErr_ok {n : Int} {a : S54} : arcErr n a = 0 ↔ ArcOk n a := by
  unfold arcErr
  constructor
  · intro h
    split at h
    · cases h
    · split at h
      · cases h
      · exact ⟨by omega, by omega, by omega, by omega⟩
  · rintro ⟨h0, h1, h2, h3⟩
    rw [if_neg (by omega), if_neg (by omega)]
theorem firstErr_ok {n : Int} {l : List S54} : firstErr n l = 0 ↔ ∀ a ∈ l, ArcOk n a := by
  induction l with
  | nil => simp [firstErr]
  | cons a l ih =>
    rw [firstErr]
    by_cases h : arcErr n a = 0
    · rw [if_pos h, ih]
      constructor
      · intro h2 x hx
        rcases List.mem_cons.1 hx with rfl | hx
        · exact arcErr_ok.1 h
        · exact h2 x hx
      · intro h2 x hx; exact h2 x (List.mem_cons_of_mem _ hx)
    · rw [if_neg h]
      constructor
      · intro h2; exact absurd h2 h
      · intro h2; exact absurd (arcErr_ok.2 (h2 a List.mem_cons_self)) h
structure NetOk (n : Int) (l : List S54) : Prop where
  lo : 1 ≤ n
  hi : n ≤ 50
  len : l.length ≤ 200
  arcs : ∀ a ∈ l, ArcOk n a
theorem checkErr_ok {n : Int} {l : List S54} : checkErr n l = 0 ↔ NetOk n l := by
  unfold checkErr
  constructor
  · intro h
    split at h
    · cases h
    · split at h
      · cases h
      · split at h
        · cases h
        · exact ⟨by omega, by omega, by omega, firstErr_ok.1 h⟩
  · rintro ⟨h0, h1, h2, h3⟩
    rw [if_neg (by omega), if_neg (by omega), if_neg (by omega)]
    exact firstErr_ok.2 h3
theorem askErr_ok {n : Int} {l : List S54} {s t h : Int} : askErr n l s t h = 0 ↔ NetOk n l ∧ 0 ≤ s ∧ s < n ∧ 0 ≤ t ∧ t < n ∧ s ≠ t ∧ 0 ≤ h ∧ h ≤ 1024 := by
  unfold askErr endsErr spanErr
  by_cases hc : checkErr n l = 0
  · rw [if_pos hc]
    have hn := checkErr_ok.1 hc
    by_cases hs : s < 0 ∨ t < 0 ∨ n ≤ s ∨ n ≤ t ∨ s = t
    · rw [if_pos hs, if_neg (by decide)]
      constructor
      · intro h; cases h
      · rintro ⟨_, h⟩; omega
    · rw [if_neg hs, if_pos rfl]
      constructor
      · intro h2
        refine ⟨hn, by omega, by omega, by omega, by omega, by omega, ?_, ?_⟩
        · by_cases c : h < 0
          · rw [if_pos c] at h2; cases h2
          · omega
        · by_cases c : h < 0
          · rw [if_pos c] at h2; cases h2
          · rw [if_neg c] at h2
            by_cases c2 : 1024 < h
            · rw [if_pos c2] at h2; cases h2
            · omega
      · rintro ⟨_, _, _, _, _, _, h5, h6⟩
        rw [if_neg (by omega), if_neg (by omega)]
  · rw [if_neg hc, if_neg hc]
    constructor
    · intro h; exact absurd h hc
    · rintro ⟨h, _⟩; exact absurd (checkErr_ok.2 h) hc
theorem arc_ev (n : Int) (a : S54) : Ev (fun k => netfmt_arc.f k n a.f0 a.f1 a.f2 a.f3) (arcErr n a) := by
  refine ev_cst fun k => ?_
  unfold netfmt_arc.f arcErr
  by_cases c : mn (mn (mn a.f0 a.f1) a.f2) a.f3 < 0
  · rw [if_pos c, netfmt_arc.j0, if_pos rfl, if_pos (by unfold mn at c; (repeat' split at c) <;> omega)]
  · rw [if_neg c, netfmt_arc.j0]
    have hc : 0 ≤ a.f0 ∧ 0 ≤ a.f1 ∧ 0 ≤ a.f2 ∧ 0 ≤ a.f3 := by unfold mn at c; (repeat' split at c) <;> omega
    by_cases c2 : mx a.f0 a.f1 ≥ n
    · rw [decide_eq_true c2, if_pos rfl, if_pos (by unfold mx at c2; split at c2 <;> omega)]
    · rw [decide_eq_false c2, if_neg (by decide)]
      have hc2 : a.f0 < n ∧ a.f1 < n := by unfold mx at c2; split at c2 <;> omega
      rw [if_neg (show ¬ (a.f0 < 0 ∨ a.f1 < 0 ∨ a.f2 < 0 ∨ a.f3 < 0 ∨ n ≤ a.f0 ∨ n ≤ a.f1) by omega)]
      by_cases c3 : a.f2 > 1048576
      · rw [if_pos c3, if_pos (by omega)]
      · rw [if_neg c3]
        by_cases c4 : a.f3 > 1048576
        · rw [if_pos c4, if_pos (by omega)]
        · rw [if_neg c4, if_neg (by omega)]
theorem rarc_ev (n : Int) (a : S54) : Ev (fun k => ebbtideref05_Arc.f k n a.f0 a.f1 a.f2 a.f3) (arcErr n a) := by
  refine ev_cst fun k => ?_
  unfold ebbtideref05_Arc.f arcErr
  simp only [ebbtideref05_Arc.j0]
  by_cases c0 : a.f0 < 0
  · rw [if_pos c0, if_pos trivial, if_pos (by omega)]
  · rw [if_neg c0]
    by_cases c1 : a.f0 ≥ n
    · rw [if_pos c1, if_pos trivial, if_pos (by omega)]
    · rw [if_neg c1]
      by_cases c2 : a.f1 < 0
      · rw [if_pos c2, if_pos trivial, if_pos (by omega)]
      · rw [if_neg c2]
        by_cases c3 : a.f1 ≥ n
        · rw [if_pos c3, if_pos trivial, if_pos (by omega)]
        · rw [if_neg c3]
          by_cases c4 : a.f2 < 0
          · rw [if_pos c4, if_pos trivial, if_pos (by omega)]
          · rw [if_neg c4]
            by_cases c5 : a.f3 < 0
            · rw [if_pos (decide_eq_true c5), if_pos (by omega)]
            · rw [if_neg (by simpa using c5), if_neg (show ¬ (a.f0 < 0 ∨ a.f1 < 0 ∨ a.f2 < 0 ∨ a.f3 < 0 ∨ n ≤ a.f0 ∨ n ≤ a.f1) by omega)]
              by_cases c6 : a.f2 > 1048576
              · rw [if_pos c6, if_pos (by omega)]
              · rw [if_neg c6]
                by_cases c7 : a.f3 > 1048576
                · rw [if_pos c7, if_pos (by omega)]
                · rw [if_neg c7, if_neg (by omega)]
theorem check_loop (n : Int) (b : Bool) (l : List S54) (hl : l.length ≤ 200) (d : Nat) : ∀ i, i + d = l.length → Ev (fun k => netfmt_Check.l0 k l (l.length : Int) (i : Int) n b l) (firstErr n (l.drop i)) := by
  induction d with
  | zero =>
    intro i hi
    rw [List.drop_eq_nil_of_le (by omega)]
    exact ev_cst fun k => by rw [netfmt_Check.l0, if_neg (by omega)]; rfl
  | succ d ih =>
    intro i hi
    have hlt : i < l.length := by omega
    refine Ev.step (f := fun k => (netfmt_arc.f k n l[i].f0 l[i].f1 l[i].f2 l[i].f3).bind fun t173 => if t173 = 0 then netfmt_Check.l0 k l (l.length : Int) ((i + 1 : Nat) : Int) n b l else some t173) (fun k => ?_) ?_
    · rw [netfmt_Check.l0, if_pos (by omega), if_pos (by omega), if_pos (by omega), rdA_of hlt, wrap1 (by omega)]
    · refine Ev.bind (arc_ev n l[i]) ?_
      rw [List.drop_eq_getElem_cons hlt, firstErr]
      by_cases c : arcErr n l[i] = 0
      · simp only [c, if_true]
        exact ih (i + 1) (by omega)
      · simp only [c, if_false]
        exact Ev.now _
theorem rcheck_loop (n : Int) (b : Bool) (l : List S54) (hl : l.length ≤ 200) (d : Nat) : ∀ i, i + d = l.length → Ev (fun k => ebbtideref05_Check.l0 k (i : Int) n b l) (firstErr n (l.drop i)) := by
  induction d with
  | zero =>
    intro i hi
    rw [List.drop_eq_nil_of_le (by omega)]
    exact ev_cst fun k => by rw [ebbtideref05_Check.l0, if_neg (by omega)]; rfl
  | succ d ih =>
    intro i hi
    have hlt : i < l.length := by omega
    refine Ev.step (f := fun k => (ebbtideref05_Arc.f k n l[i].f0 l[i].f1 l[i].f2 l[i].f3).bind fun t184 => if t184 = 0 then ebbtideref05_Check.l0 k ((i + 1 : Nat) : Int) n b l else some t184) (fun k => ?_) ?_
    · rw [ebbtideref05_Check.l0, if_pos (by omega), if_pos (by omega), rdA_of hlt, wrap1 (by omega)]
    · refine Ev.bind (rarc_ev n l[i]) ?_
      rw [List.drop_eq_getElem_cons hlt, firstErr]
      by_cases c : arcErr n l[i] = 0
      · simp only [c, if_true]
        exact ih (i + 1) (by omega)
      · simp only [c, if_false]
        exact Ev.now _
theorem nodes_eq (n : Int) : netfmt_nodes.f n = some (if n < 1 then 51 else if 50 < n then 2 else 0) := by
  unfold netfmt_nodes.f
  by_cases c : n < 1
  · rw [if_pos c, if_pos c]
  · rw [if_neg c, if_neg c]
    by_cases c2 : n > 50
    · rw [if_pos c2, if_pos c2]
    · rw [if_neg c2, if_neg c2]
theorem rnodes_eq (n : Int) : ebbtideref05_nodes.f n = some (if n < 1 then 51 else if 50 < n then 2 else 0) := nodes_eq n
theorem check_ev (n : Int) (b : Bool) (l : List S54) : Ev (fun k => netfmt_Check.f k n b l) (checkErr n l) := by
  unfold netfmt_Check.f checkErr
  rw [nodes_eq]
  simp only [Option.bind_some]
  by_cases c : n < 1
  · simp only [c, if_true, show ¬ (51 : Int) = 0 by decide, if_false]; exact Ev.now _
  · by_cases c2 : 50 < n
    · simp only [c, c2, if_true, if_false, show ¬ (2 : Int) = 0 by decide]; exact Ev.now _
    · simp only [c, c2, if_true, if_false]
      by_cases c3 : 200 < l.length
      · simp only [c3, if_true, show (l.length : Int) > 200 by omega]; exact Ev.now _
      · simp only [c3, if_false, show ¬ (l.length : Int) > 200 by omega]
        exact check_loop n b l (by omega) l.length 0 (by omega)
theorem rcheck_ev (n : Int) (b : Bool) (l : List S54) : Ev (fun k => ebbtideref05_Check.f k n b l) (checkErr n l) := by
  unfold ebbtideref05_Check.f checkErr
  rw [rnodes_eq]
  simp only [Option.bind_some]
  by_cases c : n < 1
  · simp only [c, if_true, show ¬ (51 : Int) = 0 by decide, if_false]; exact Ev.now _
  · by_cases c2 : 50 < n
    · simp only [c, c2, if_true, if_false, show ¬ (2 : Int) = 0 by decide]; exact Ev.now _
    · simp only [c, c2, if_true, if_false]
      by_cases c3 : 200 < l.length
      · simp only [c3, if_true, show (l.length : Int) > 200 by omega]; exact Ev.now _
      · simp only [c3, if_false, show ¬ (l.length : Int) > 200 by omega]
        exact rcheck_loop n b l (by omega) l.length 0 (by omega)
theorem mn_neg {s t : Int} : mn s t < 0 ↔ s < 0 ∨ t < 0 := by unfold mn; split <;> omega
theorem mx_ge {s t n : Int} : mx s t ≥ n ↔ n ≤ s ∨ n ≤ t := by unfold mx; split <;> omega
theorem ends_ev (n : Int) (b : Bool) (l : List S54) (s t : Int) : Ev (fun k => static_Ends.f k n b l s t) (endsErr n l s t) := by
  unfold static_Ends.f endsErr
  refine Ev.bind (check_ev n b l) ?_
  by_cases c : checkErr n l = 0
  · simp only [c, if_true]
    refine ev_cst fun _ => ?_
    by_cases c1 : mn s t < 0
    · rw [if_pos c1, if_pos (by have := mn_neg.1 c1; omega)]
    · rw [if_neg c1]
      have h1 : ¬ (s < 0 ∨ t < 0) := fun h => c1 (mn_neg.2 h)
      by_cases c2 : mx s t ≥ n
      · rw [if_pos c2, if_pos (by have := mx_ge.1 c2; omega)]
      · rw [if_neg c2]
        have h2 : ¬ (n ≤ s ∨ n ≤ t) := fun h => c2 (mx_ge.2 h)
        by_cases c3 : s = t
        · rw [if_pos c3, if_pos (by omega)]
        · rw [if_neg c3, if_neg (by omega)]
  · simp only [c, if_false]
    exact Ev.now _
theorem rends_ev (n : Int) (b : Bool) (l : List S54) (s t : Int) : Ev (fun k => ebbtideref07_Ends.f k n b l s t) (endsErr n l s t) := by
  unfold ebbtideref07_Ends.f endsErr
  refine Ev.bind (rcheck_ev n b l) ?_
  by_cases c : checkErr n l = 0
  · simp only [c, if_true]
    have hnode : ∀ v, ebbtideref06_Node.f n b l v = some (decide (0 ≤ v ∧ v < n)) := by
      intro v
      unfold ebbtideref06_Node.f
      by_cases c1 : v ≥ 0
      · rw [if_pos c1]; congr 1; rw [decide_eq_decide]; omega
      · rw [if_neg c1]; congr 1; symm; rw [decide_eq_false_iff_not]; omega
    refine ev_cst fun _ => ?_
    rw [hnode, hnode]
    simp only [Option.bind_some, decide_eq_true_eq]
    by_cases c1 : 0 ≤ s ∧ s < n
    · rw [if_pos c1]
      by_cases c2 : 0 ≤ t ∧ t < n
      · rw [if_pos c2]
        by_cases c3 : s = t
        · rw [if_pos c3, if_pos (by omega)]
        · rw [if_neg c3, if_neg (by omega)]
      · rw [if_neg c2, if_pos (by omega)]
    · rw [if_neg c1, if_pos (by omega)]
  · simp only [c, if_false]
    exact Ev.now _
theorem horizon_eq (h : Int) : span_Horizon.f h = some (spanErr h) := by
  unfold span_Horizon.f spanErr
  by_cases c : h < 0
  · rw [if_pos c, if_pos c]
  · rw [if_neg c, if_neg c]
    by_cases c2 : h > 1024
    · rw [if_pos c2, if_pos c2]
    · rw [if_neg c2, if_neg c2]
theorem rspan_eq (h : Int) : ebbtideref12_Span.f h = some (spanErr h) := horizon_eq h
theorem asked_ev (n : Int) (b : Bool) (l : List S54) (s t h : Int) : Ev (fun k => span_Asked.f k n b l s t h) (askErr n l s t h) := by
  unfold span_Asked.f askErr
  refine Ev.bind (ends_ev n b l s t) ?_
  by_cases c : endsErr n l s t = 0
  · simp only [c, if_true, horizon_eq, Option.bind_some]; exact Ev.now _
  · simp only [c, if_false]; exact Ev.now _
theorem rasked_ev (n : Int) (b : Bool) (l : List S54) (s t h : Int) : Ev (fun k => ebbtideref12_Asked.f k n b l s t h) (askErr n l s t h) := by
  unfold ebbtideref12_Asked.f askErr
  refine Ev.bind (rends_ev n b l s t) ?_
  by_cases c : endsErr n l s t = 0
  · simp only [c, if_true, rspan_eq, Option.bind_some]; exact Ev.now _
  · simp only [c, if_false]; exact Ev.now _
end Go.Proofs.Ytfhkkbpkajfdlaa.P
end
section
namespace Go.Proofs.Ytfhkkbpkajfdlaa.P
set_option linter.unusedSimpArgs false
set_option linter.unusedVariables false
open Go.RowKit Go.Proofs.Ytfhkkbpkajfdlaa.Q Go.Proofs.YtfhkkbpkajfdlaaW.PrintWords Go.Proofs.YtfhkkbpkajfdlaaW.PrintLast Go.Proofs.YtfhkkbpkajfdlaaW.PrintMore
theorem awake15_at : ebbtidelaw15_awake.f 60 = some true := by decide +kernel
theorem awake15_ev : Ev (fun k => ebbtidelaw15_awake.f k) true := Ev.of (fun k => ebbtidelaw15_awake.mono k) awake15_at
def fitsB (n : Int) (l : List S54) (h : Int) : Bool := if checkErr n l = 0 then (if spanErr h = 0 then (if (h + 1) * n ≤ 4000 then decide ((h + 1) * (l.length : Int) ≤ 10000) else false) else false) else false
theorem spanErr_ok {h : Int} : spanErr h = 0 ↔ 0 ≤ h ∧ h ≤ 1024 := by
  unfold spanErr
  by_cases c : h < 0
  · rw [if_pos c]; constructor
    · intro h; cases h
    · omega
  · rw [if_neg c]
    by_cases c2 : 1024 < h
    · rw [if_pos c2]; constructor
      · intro h; cases h
      · omega
    · rw [if_neg c2]; constructor
      · omega
      · intro _; rfl
theorem wraps {n h : Int} (h0 : 0 ≤ h) (h1 : h ≤ 1024) (n0 : 0 ≤ n) (n1 : n ≤ 1000) : wrap64 (wrap64 (h + 1) * n) = (h + 1) * n := by
  have h2 : 0 ≤ (h + 1) * n := Int.mul_nonneg (by omega) n0
  have h3 : (h + 1) * n ≤ 1025 * 1000 := Int.mul_le_mul (by omega) n1 n0 (by decide)
  rw [wrapId (n := h + 1) (by omega) (by omega), wrapId (by omega) (by omega)]
theorem fits_ev (n : Int) (b : Bool) (l : List S54) (h : Int) : Ev (fun k => expand_Fits.f k n b l h) (fitsB n l h) := by
  unfold expand_Fits.f fitsB
  refine Ev.bind (check_ev n b l) ?_
  by_cases c : checkErr n l = 0
  · have hn := checkErr_ok.1 c
    simp only [c, if_true, horizon_eq, Option.bind_some]
    by_cases c2 : spanErr h = 0
    · have hh := spanErr_ok.1 c2
      simp only [c2, if_true]
      rw [wraps hh.1 hh.2 (by have := hn.lo; omega) (by have := hn.hi; omega), wraps hh.1 hh.2 (by omega) (by have := hn.len; omega)]
      by_cases c3 : (h + 1) * n ≤ 4000
      · simp only [c3, if_true]; exact Ev.now _
      · simp only [c3, if_false]; exact Ev.now _
    · simp only [c2, if_false]; exact Ev.now _
  · simp only [c, if_false]; exact Ev.now _
theorem rfits_ev (n : Int) (b : Bool) (l : List S54) (h : Int) : Ev (fun k => ebbtideref15_Fits.f k n b l h) (fitsB n l h) := by
  unfold ebbtideref15_Fits.f fitsB
  refine Ev.bind (rcheck_ev n b l) ?_
  by_cases c : checkErr n l = 0
  · have hn := checkErr_ok.1 c
    simp only [c, if_true, rspan_eq, Option.bind_some]
    by_cases c2 : spanErr h = 0
    · have hh := spanErr_ok.1 c2
      simp only [c2, if_true]
      rw [wraps hh.1 hh.2 (by have := hn.lo; omega) (by have := hn.hi; omega), wraps hh.1 hh.2 (by omega) (by have := hn.len; omega)]
      by_cases c3 : (h + 1) * n ≤ 4000
      · simp only [c3, if_true]; exact Ev.now _
      · simp only [c3, if_false]; exact Ev.now _
    · simp only [c2, if_false]; exact Ev.now _
  · simp only [c, if_false]; exact Ev.now _
abbrev RS : Type := List S54 × List S83
def rArc (V H s t a : Int) (g : RS) (i : Nat) (x : S54) : RS :=
  if a + x.f3 ≤ H ∧ (x.f1 != s && x.f0 != t) = true then (g.1 ++ [⟨a * V + x.f0, (a + x.f3) * V + x.f1, x.f2, 0⟩], g.2 ++ [⟨true, false, (i : Int), 0, a⟩]) else g
def rArcs (V H s t : Int) (l0 : List S54) (a : Int) (g : RS) (n : Nat) : RS := (List.range n).foldl (fun g i => rArc V H s t a g i (l0.getD i z54)) g
def rWait (V H : Int) (hold : Bool) (s t a : Int) (g : RS) (v : Nat) : RS :=
  if a < H ∧ ((hold && (v : Int) != s) && (v : Int) != t) = true then (g.1 ++ [⟨a * V + (v : Int), (a + 1) * V + (v : Int), 1099511627776, 0⟩], g.2 ++ [⟨false, true, 0, (v : Int), a⟩]) else g
def rWaits (V H : Int) (hold : Bool) (s t a : Int) (g : RS) (n : Nat) : RS := (List.range n).foldl (fun g v => rWait V H hold s t a g v) g
def rAts (V H : Int) (hold : Bool) (s t : Int) (l0 : List S54) (n : Nat) : RS := (List.range n).foldl (fun (g : RS) (k : Nat) => rWaits V H hold s t (k : Int) (rArcs V H s t l0 (k : Int) g l0.length) V.toNat) ([], [])
def kEnds (v : Int) (n : Nat) : List S83 := (List.range n).map (fun a : Nat => (⟨false, false, 0, v, (a : Int)⟩ : S83))
theorem kEnds_succ (v : Int) (n : Nat) : kEnds v (n + 1) = kEnds v n ++ [⟨false, false, 0, v, (n : Int)⟩] := by unfold kEnds; rw [List.range_succ, List.map_append]; rfl
theorem kEnds_length (v : Int) (n : Nat) : (kEnds v n).length = n := by unfold kEnds; rw [List.length_map, List.length_range]
theorem rArcs_succ (V H s t : Int) (l0 : List S54) (a : Int) (g : RS) (n : Nat) : rArcs V H s t l0 a g (n + 1) = rArc V H s t a (rArcs V H s t l0 a g n) n (l0.getD n z54) := by
  unfold rArcs; rw [List.range_succ, List.foldl_append]; rfl
theorem rWaits_succ (V H : Int) (hold : Bool) (s t a : Int) (g : RS) (n : Nat) : rWaits V H hold s t a g (n + 1) = rWait V H hold s t a (rWaits V H hold s t a g n) n := by
  unfold rWaits; rw [List.range_succ, List.foldl_append]; rfl
theorem rAts_succ (V H : Int) (hold : Bool) (s t : Int) (l0 : List S54) (n : Nat) : rAts V H hold s t l0 (n + 1) = rWaits V H hold s t (n : Int) (rArcs V H s t l0 (n : Int) (rAts V H hold s t l0 n) l0.length) V.toNat := by
  unfold rAts; rw [List.range_succ, List.foldl_append]; rfl
theorem rArcs_fst {V H s t : Int} {l0 : List S54} {a : Int} {g : RS} {g' : GS} (h : g.1 = g'.1) : ∀ n, (rArcs V H s t l0 a g n).1 = (arcLoop V H s t l0 a g' n).1
  | 0 => h
  | n + 1 => by
    rw [rArcs_succ, arcLoop_succ]
    have ih := rArcs_fst (V := V) (H := H) (s := s) (t := t) (l0 := l0) (a := a) h n
    unfold rArc arcStep
    split
    · simp only [ih]
    · exact ih
theorem rWaits_fst {V H s t : Int} {hold : Bool} {a : Int} {g : RS} {g' : GS} (h : g.1 = g'.1) : ∀ n, (rWaits V H hold s t a g n).1 = (waitLoop V H hold s t a g' n).1
  | 0 => h
  | n + 1 => by
    rw [rWaits_succ, waitLoop_succ]
    have ih := rWaits_fst (V := V) (H := H) (s := s) (t := t) (hold := hold) (a := a) h n
    unfold rWait waitStep
    split
    · simp only [ih]
    · exact ih
theorem rAts_fst {V H s t : Int} {hold : Bool} {l0 : List S54} : ∀ n, (rAts V H hold s t l0 n).1 = (atLoop V H hold s t l0 n).1
  | 0 => rfl
  | n + 1 => by
    rw [rAts_succ, atLoop_succ]
    exact rWaits_fst (rArcs_fst (rAts_fst n) _) _
def Bal2 (g : RS) : Prop := g.2.length = g.1.length
theorem rArcs_bal {V H s t : Int} {l0 : List S54} {a : Int} {g : RS} (h : Bal2 g) : ∀ n, Bal2 (rArcs V H s t l0 a g n) ∧ (rArcs V H s t l0 a g n).1.length ≤ g.1.length + n
  | 0 => ⟨h, Nat.le_refl _⟩
  | n + 1 => by
    rw [rArcs_succ]
    obtain ⟨h1, h2⟩ := rArcs_bal (V := V) (H := H) (s := s) (t := t) (l0 := l0) (a := a) h n
    unfold rArc Bal2 at *
    split
    · simp only [List.length_append, List.length_cons, List.length_nil]; omega
    · exact ⟨h1, by omega⟩
theorem rWaits_bal {V H s t : Int} {hold : Bool} {a : Int} {g : RS} (h : Bal2 g) : ∀ n, Bal2 (rWaits V H hold s t a g n) ∧ (rWaits V H hold s t a g n).1.length ≤ g.1.length + n
  | 0 => ⟨h, Nat.le_refl _⟩
  | n + 1 => by
    rw [rWaits_succ]
    obtain ⟨h1, h2⟩ := rWaits_bal (V := V) (H := H) (s := s) (t := t) (hold := hold) (a := a) h n
    unfold rWait Bal2 at *
    split
    · simp only [List.length_append, List.length_cons, List.length_nil]; omega
    · exact ⟨h1, by omega⟩
theorem rAts_bal {V H s t : Int} {hold : Bool} {l0 : List S54} : ∀ n, Bal2 (rAts V H hold s t l0 n)
  | 0 => rfl
  | n + 1 => by
    rw [rAts_succ]
    exact (rWaits_bal (rArcs_bal (rAts_bal n) _).1 _).1
theorem rWaits_none {V H s t : Int} {hold : Bool} {a : Int} {g : RS} (h : ¬ (hold = true ∧ a < H)) : ∀ n, rWaits V H hold s t a g n = g
  | 0 => rfl
  | n + 1 => by
    rw [rWaits_succ, rWaits_none h n]
    unfold rWait
    rw [if_neg]
    rintro ⟨h1, h2⟩
    apply h
    cases hold
    · cases h2
    · exact ⟨rfl, h1⟩
theorem nums {V a f : Int} (hV : 0 ≤ V ∧ V ≤ 50) (ha : 0 ≤ a ∧ a ≤ 1050000) (hf : -100 ≤ f ∧ f ≤ 100) : wrap64 (wrap64 (a * V) + f) = a * V + f := by
  have h := mulB ha.1 ha.2 hV.1 hV.2
  rw [wrapId (n := a * V) (by omega) (by omega), wrapId (by omega) (by omega)]
section
variable {V H s t : Int} {hold : Bool} {l0 : List S54}
theorem l1_ev {a : Int} {g : RS} {r : RS} (hn : NetOk V l0) (ha : 0 ≤ a ∧ a ≤ 1024) (hg : Bal2 g) (hl : g.1.length ≤ 300000)
    (hk : Ev (fun k => ebbtideref15_Arcs.l2 k s t H (rArcs V H s t l0 a g l0.length).1 (rArcs V H s t l0 a g l0.length).2 V a 0 V hold l0) r) :
    ∀ d i, i + d = l0.length → Ev (fun k => ebbtideref15_Arcs.l1 k s t H (rArcs V H s t l0 a g i).1 (rArcs V H s t l0 a g i).2 V a (i : Int) V hold l0) r := by
  intro d
  induction d with
  | zero =>
    intro i hi
    have hi : i = l0.length := by omega
    subst hi
    refine Ev.step (fun k => ?_) hk
    rw [ebbtideref15_Arcs.l1, if_neg (by omega)]
  | succ d ih =>
    intro i hi
    have hlt : i < l0.length := by omega
    have hx := hn.arcs _ (List.getElem_mem hlt)
    have hr : rd_T54 l0 (i : Int) = l0[i] := rdA_of hlt
    have hd : l0.getD i z54 = l0[i] := by rw [List.getD_eq_getElem?_getD, List.getElem?_eq_getElem hlt]; rfl
    obtain ⟨h1, h2⟩ := rArcs_bal (V := V) (H := H) (s := s) (t := t) (l0 := l0) (a := a) hg i
    have hlen := hn.len
    have hlo := hn.lo
    have hhi := hn.hi
    have b1 : (rArcs V H s t l0 a g i).1.length < 4398046511104 := by omega
    have b2 : (rArcs V H s t l0 a g i).2.length < 4398046511104 := by unfold Bal2 at h1; omega
    have hs := rArcs_succ V H s t l0 a g i
    rw [hd] at hs
    unfold rArc at hs
    have x0 := hx.f0
    have x1 := hx.f1
    have x3 := hx.f3
    have w1 : wrap64 (a + l0[i].f3) = a + l0[i].f3 := wrapId (by omega) (by omega)
    have w2 := nums (V := V) (a := a) (f := l0[i].f0) ⟨by omega, hhi⟩ ⟨ha.1, by omega⟩ ⟨by omega, by omega⟩
    have w3 := nums (V := V) (a := a + l0[i].f3) (f := l0[i].f1) ⟨by omega, hhi⟩ ⟨by omega, by omega⟩ ⟨by omega, by omega⟩
    refine Ev.step (fun k => ?_) (ih (i + 1) (by omega))
    rw [ebbtideref15_Arcs.l1, if_pos (by omega), if_pos (by omega), hr, w1, w2, w3, wrap1 (by omega), hs]
    by_cases c1 : a + l0[i].f3 ≤ H
    · rw [if_pos c1]
      by_cases c2 : l0[i].f1 = s
      · rw [if_pos c2, if_neg (by rintro ⟨_, h⟩; rw [c2] at h; simp at h)]
      · rw [if_neg c2]
        by_cases c3 : l0[i].f0 = t
        · rw [if_pos c3, if_neg (by rintro ⟨_, h⟩; rw [c3] at h; simp at h)]
        · rw [if_neg c3, if_pos b1, if_pos b2, if_pos ⟨c1, by simp [c2, c3]⟩]
    · rw [if_neg c1, if_neg (fun h => c1 h.1)]
theorem l2_ev {a : Int} {g : RS} {r : RS} (hn : NetOk V l0) (ha : 0 ≤ a ∧ a ≤ 1024) (hg : Bal2 g) (hl : g.1.length ≤ 300000)
    (hk : Ev (fun k => ebbtideref15_Arcs.l0 k s t H (rWaits V H hold s t a g V.toNat).1 (rWaits V H hold s t a g V.toNat).2 V (a + 1) V hold l0) r) :
    Ev (fun k => ebbtideref15_Arcs.l2 k s t H g.1 g.2 V a 0 V hold l0) r := by
  have hlo := hn.lo
  have hhi := hn.hi
  have wa : wrap64 (a + 1) = a + 1 := wrapId (by omega) (by omega)
  by_cases c : hold = true ∧ a < H
  · obtain ⟨rfl, ca⟩ := c
    have hloop : ∀ d v : Nat, v + d = V.toNat → Ev (fun k => ebbtideref15_Arcs.l2 k s t H (rWaits V H true s t a g v).1 (rWaits V H true s t a g v).2 V a (v : Int) V true l0) r := by
      intro d
      induction d with
      | zero =>
        intro v hv
        have hv : v = V.toNat := by omega
        subst hv
        refine Ev.step (f := fun k => ebbtideref15_Arcs.j3 k s t H (rWaits V H true s t a g V.toNat).1 (rWaits V H true s t a g V.toNat).2 V a (V.toNat : Int) false V true l0) (fun k => ?_) ?_
        · rw [ebbtideref15_Arcs.l2, if_neg (by omega)]
        · refine Ev.step (fun k => ?_) hk
          rw [ebbtideref15_Arcs.j3, if_neg (by decide), wa]
      | succ d ih =>
        intro v hv
        have hlt : (v : Int) < V := by omega
        obtain ⟨h1, h2⟩ := rWaits_bal (V := V) (H := H) (s := s) (t := t) (hold := true) (a := a) hg v
        have b1 : (rWaits V H true s t a g v).1.length < 4398046511104 := by omega
        have b2 : (rWaits V H true s t a g v).2.length < 4398046511104 := by unfold Bal2 at h1; omega
        have hs := rWaits_succ V H true s t a g v
        unfold rWait at hs
        have w2 := nums (V := V) (a := a) (f := (v : Int)) ⟨by omega, hhi⟩ ⟨ha.1, by omega⟩ ⟨by omega, by omega⟩
        have w3 := nums (V := V) (a := a + 1) (f := (v : Int)) ⟨by omega, hhi⟩ ⟨by omega, by omega⟩ ⟨by omega, by omega⟩
        refine Ev.step (f := fun k => ebbtideref15_Arcs.j3 k s t H (rWaits V H true s t a g v).1 (rWaits V H true s t a g v).2 V a (v : Int) true V true l0) (fun k => ?_) ?_
        · rw [ebbtideref15_Arcs.l2, if_pos hlt, if_pos rfl, decide_eq_true ca]
        · refine Ev.step (fun k => ?_) (ih (v + 1) (by omega))
          rw [ebbtideref15_Arcs.j3, if_pos rfl, wa, w2, w3, wrap1 (by omega), hs]
          by_cases c2 : (v : Int) = s
          · rw [if_pos c2, if_neg (by rintro ⟨_, h⟩; rw [c2] at h; simp at h)]
          · rw [if_neg c2]
            by_cases c3 : (v : Int) = t
            · rw [if_pos c3, if_neg (by rintro ⟨_, h⟩; rw [c3] at h; simp at h)]
            · rw [if_neg c3, if_pos b1, if_pos b2, if_pos ⟨ca, by simp [c2, c3]⟩]
    exact hloop V.toNat 0 (by omega)
  · rw [rWaits_none c] at hk
    refine Ev.step (f := fun k => ebbtideref15_Arcs.j3 k s t H g.1 g.2 V a 0 false V hold l0) (fun k => ?_) ?_
    · rw [ebbtideref15_Arcs.l2, if_pos (by omega)]
      cases hold
      · rw [if_neg (by decide)]
      · rw [if_pos rfl, decide_eq_false (fun h => c ⟨rfl, h⟩)]
    · refine Ev.step (fun k => ?_) hk
      rw [ebbtideref15_Arcs.j3, if_neg (by decide), wa]
theorem atLoop_len (hn : NetOk V l0) (n : Nat) (hh : n ≤ 1025) : (rAts V H hold s t l0 n).1.length ≤ 256250 := by
  rw [rAts_fst]
  have := (atLoop_bal (V := V) (H := H) (s := s) (t := t) (hold := hold) (l0 := l0) hn.hi hn.len n).2
  omega
theorem l0_ev {r : RS} (hn : NetOk V l0) (hh : 0 ≤ H ∧ H ≤ 1024)
    (hk : Ev (fun k => ebbtideref15_Arcs.l3 k s t H (rAts V H hold s t l0 (H.toNat + 1)).1 (rAts V H hold s t l0 (H.toNat + 1)).2 V 0) r) :
    ∀ d a : Nat, a + d = H.toNat + 1 → Ev (fun k => ebbtideref15_Arcs.l0 k s t H (rAts V H hold s t l0 a).1 (rAts V H hold s t l0 a).2 V (a : Int) V hold l0) r := by
  intro d
  induction d with
  | zero =>
    intro a ha
    have ha : a = H.toNat + 1 := by omega
    subst ha
    refine Ev.step (fun k => ?_) hk
    rw [ebbtideref15_Arcs.l0, if_neg (by omega)]
  | succ d ih =>
    intro a ha
    have hb := rAts_bal (V := V) (H := H) (s := s) (t := t) (hold := hold) (l0 := l0) a
    have hl := atLoop_len (V := V) (H := H) (s := s) (t := t) (hold := hold) hn a (by omega)
    have hb2 := rArcs_bal (V := V) (H := H) (s := s) (t := t) (l0 := l0) (a := (a : Int)) hb l0.length
    have hlen := hn.len
    refine Ev.step (f := fun k => ebbtideref15_Arcs.l1 k s t H (rAts V H hold s t l0 a).1 (rAts V H hold s t l0 a).2 V (a : Int) 0 V hold l0) (fun k => ?_) ?_
    · rw [ebbtideref15_Arcs.l0, if_pos (by omega)]
    · refine l1_ev (a := (a : Int)) (g := rAts V H hold s t l0 a) hn ⟨by omega, by omega⟩ hb (by omega) ?_ l0.length 0 (by omega)
      refine l2_ev hn ⟨by omega, by omega⟩ hb2.1 (by omega) ?_
      have h2 := ih (a + 1) (by omega)
      rw [rAts_succ] at h2
      exact h2
theorem l4_ev {A : List S54} {K : List S83} (hV : 0 ≤ V ∧ V ≤ 50) (hh : 0 ≤ H ∧ H ≤ 1024) (ht : 0 ≤ t ∧ t < V) (hA : A.length ≤ 300000) (hK : K.length ≤ 300000) :
    ∀ d a : Nat, a + d = H.toNat + 1 → Ev (fun k => ebbtideref15_Arcs.l4 k t H (A ++ lastsA V H t a) (K ++ kEnds t a) V (a : Int)) (A ++ lastsA V H t (H.toNat + 1), K ++ kEnds t (H.toNat + 1)) := by
  intro d
  induction d with
  | zero =>
    intro a ha
    have ha : a = H.toNat + 1 := by omega
    subst ha
    refine ev_cst fun k => ?_
    rw [ebbtideref15_Arcs.l4, if_neg (by omega)]
  | succ d ih =>
    intro a ha
    have w1 : wrap64 (H + 1) = H + 1 := wrapId (by omega) (by omega)
    have w2 := nums (V := V) (a := (a : Int)) (f := t) hV ⟨by omega, by omega⟩ ⟨by omega, by omega⟩
    have w3 := nums (V := V) (a := H + 1) (f := 1) hV ⟨by omega, by omega⟩ ⟨by omega, by omega⟩
    refine Ev.step (fun k => ?_) (ih (a + 1) (by omega))
    rw [ebbtideref15_Arcs.l4, if_pos (by omega), if_pos (by rw [List.length_append, lastsA_length]; omega), if_pos (by rw [List.length_append, kEnds_length]; omega), w1, w2, w3, wrap1 (by omega), lastsA_succ, kEnds_succ, List.append_assoc, List.append_assoc]
theorem l3_ev {A : List S54} {K : List S83} {r : RS} (hV : 0 ≤ V ∧ V ≤ 50) (hh : 0 ≤ H ∧ H ≤ 1024) (hs : 0 ≤ s ∧ s < V) (hA : A.length ≤ 290000) (hK : K.length ≤ 290000)
    (hk : Ev (fun k => ebbtideref15_Arcs.l4 k t H (A ++ firstsA V H s (H.toNat + 1)) (K ++ kEnds s (H.toNat + 1)) V 0) r) :
    ∀ d a : Nat, a + d = H.toNat + 1 → Ev (fun k => ebbtideref15_Arcs.l3 k s t H (A ++ firstsA V H s a) (K ++ kEnds s a) V (a : Int)) r := by
  intro d
  induction d with
  | zero =>
    intro a ha
    have ha : a = H.toNat + 1 := by omega
    subst ha
    refine Ev.step (fun k => ?_) hk
    rw [ebbtideref15_Arcs.l3, if_neg (by omega)]
  | succ d ih =>
    intro a ha
    have hm := mulB (a := H + 1) (b := V) (by omega) (by omega) hV.1 hV.2
    have w1 : wrap64 (wrap64 (H + 1) * V) = (H + 1) * V := by rw [wrapId (n := H + 1) (by omega) (by omega), wrapId (by omega) (by omega)]
    have w2 := nums (V := V) (a := (a : Int)) (f := s) hV ⟨by omega, by omega⟩ ⟨by omega, by omega⟩
    refine Ev.step (fun k => ?_) (ih (a + 1) (by omega))
    rw [ebbtideref15_Arcs.l3, if_pos (by omega), if_pos (by rw [List.length_append, firstsA_length]; omega), if_pos (by rw [List.length_append, kEnds_length]; omega), w1, w2, wrap1 (by omega), firstsA_succ, kEnds_succ, List.append_assoc, List.append_assoc]
def gridKinds (V H : Int) (hold : Bool) (s t : Int) (l0 : List S54) : List S83 := (rAts V H hold s t l0 (H.toNat + 1)).2 ++ kEnds s (H.toNat + 1) ++ kEnds t (H.toNat + 1)
theorem arcs_ev (hn : NetOk V l0) (hh : 0 ≤ H ∧ H ≤ 1024) (hs : 0 ≤ s ∧ s < V) (ht : 0 ≤ t ∧ t < V) : Ev (fun k => ebbtideref15_Arcs.f k V hold l0 s t H) (gridArcs V H hold s t l0, gridKinds V H hold s t l0) := by
  have hV : 0 ≤ V ∧ V ≤ 50 := ⟨by have := hn.lo; omega, hn.hi⟩
  have hl := atLoop_len (V := V) (H := H) (s := s) (t := t) (hold := hold) hn (H.toNat + 1) (by omega)
  have hb := rAts_bal (V := V) (H := H) (s := s) (t := t) (hold := hold) (l0 := l0) (H.toNat + 1)
  unfold Bal2 at hb
  unfold gridArcs gridKinds
  rw [← rAts_fst]
  refine l0_ev hn hh ?_ (H.toNat + 1) 0 (by omega)
  have h4 := l4_ev (V := V) (H := H) (t := t) (A := (rAts V H hold s t l0 (H.toNat + 1)).1 ++ firstsA V H s (H.toNat + 1)) (K := (rAts V H hold s t l0 (H.toNat + 1)).2 ++ kEnds s (H.toNat + 1)) hV hh ht (by rw [List.length_append, firstsA_length]; omega) (by rw [List.length_append, kEnds_length]; omega) (H.toNat + 1) 0 (by omega)
  rw [show lastsA V H t 0 = [] from rfl, show kEnds t 0 = [] from rfl, List.append_nil, List.append_nil] at h4
  have h3 := l3_ev (V := V) (H := H) (s := s) (t := t) (A := (rAts V H hold s t l0 (H.toNat + 1)).1) (K := (rAts V H hold s t l0 (H.toNat + 1)).2) hV hh hs (by omega) (by omega) h4 (H.toNat + 1) 0 (by omega)
  rw [show firstsA V H s 0 = [] from rfl, show kEnds s 0 = [] from rfl, List.append_nil, List.append_nil] at h3
  exact h3
theorem gridArcs_length (hn : NetOk V l0) (hh : 0 ≤ H ∧ H ≤ 1024) : (gridArcs V H hold s t l0).length ≤ 300000 := by
  have hl := atLoop_len (V := V) (H := H) (s := s) (t := t) (hold := hold) hn (H.toNat + 1) (by omega)
  rw [rAts_fst] at hl
  unfold gridArcs
  rw [List.length_append, List.length_append, firstsA_length, lastsA_length]
  omega
end
def expErr (n : Int) (l : List S54) (s t h : Int) : Int := if askErr n l s t h = 0 then (if fitsB n l h = true then 0 else 2) else askErr n l s t h
theorem expErr_ok {n : Int} {l : List S54} {s t h : Int} (he : expErr n l s t h = 0) : NetOk n l ∧ (0 ≤ s ∧ s < n) ∧ (0 ≤ t ∧ t < n) ∧ (0 ≤ h ∧ h ≤ 1024) := by
  unfold expErr at he
  by_cases c : askErr n l s t h = 0
  · obtain ⟨h1, h2, h3, h4, h5, h6, h7, h8⟩ := askErr_ok.1 c
    exact ⟨h1, ⟨h2, h3⟩, ⟨h4, h5⟩, ⟨h7, h8⟩⟩
  · rw [if_neg c] at he; exact absurd he c
theorem easked_ev (n : Int) (b : Bool) (l : List S54) (s t h : Int) : Ev (fun k => expand_Asked.f k n b l s t h) (expErr n l s t h) := by
  unfold expand_Asked.f expErr
  refine Ev.bind (asked_ev n b l s t h) ?_
  by_cases c : askErr n l s t h = 0
  · simp only [c, if_true]
    refine Ev.bind (fits_ev n b l h) ?_
    by_cases c2 : fitsB n l h = true
    · simp only [c2, if_true]; exact Ev.now _
    · simp only [c2, if_false]; exact Ev.now _
  · simp only [c, if_false]; exact Ev.now _
theorem reasked_ev (n : Int) (b : Bool) (l : List S54) (s t h : Int) : Ev (fun k => ebbtideref15_Asked.f k n b l s t h) (expErr n l s t h) := by
  unfold ebbtideref15_Asked.f expErr
  refine Ev.bind (rasked_ev n b l s t h) ?_
  by_cases c : askErr n l s t h = 0
  · simp only [c, if_true]
    refine Ev.bind (rfits_ev n b l h) ?_
    by_cases c2 : fitsB n l h = true
    · simp only [c2, if_true]; exact Ev.now _
    · simp only [c2, if_false]; exact Ev.now _
  · simp only [c, if_false]; exact Ev.now _
theorem okNet_of {n h : Int} {l : List S54} (hn : NetOk n l) (hh : 0 ≤ h ∧ h ≤ 1024) : okNet n h l = true := by
  unfold okNet
  rw [Bool.and_eq_true]
  refine ⟨decide_eq_true ⟨by have := hn.lo; omega, hn.hi, hh.1, hh.2, hn.len⟩, ?_⟩
  rw [List.all_eq_true]
  intro x hx
  have ho := hn.arcs x hx
  unfold okA
  exact decide_eq_true ⟨ho.f0.1, ho.f0.2, ho.f1.1, ho.f1.2, ho.f2.1, ho.f2.2, ho.f3.1, ho.f3.2⟩
end Go.Proofs.Ytfhkkbpkajfdlaa.P
end
section
namespace Go.Proofs.Ytfhkkbpkajfdlaa.P
open Go.RowKit Go.Proofs.Ytfhkkbpkajfdlaa.Q Go.Proofs.YtfhkkbpkajfdlaaW.PrintWords Go.Proofs.YtfhkkbpkajfdlaaW.PrintLast Go.Proofs.YtfhkkbpkajfdlaaW.PrintMore
def arcAtN (l0 : List S54) (i : Int) : S54 := l0.getD i.toNat z54
def arcK (V : Int) (l0 : List S54) (k : S83) : S54 :=
  if k.f0 = true then ⟨k.f4 * V + (arcAtN l0 k.f2).f0, (k.f4 + (arcAtN l0 k.f2).f3) * V + (arcAtN l0 k.f2).f1, (arcAtN l0 k.f2).f2, 0⟩ else ⟨k.f4 * V + k.f3, (k.f4 + 1) * V + k.f3, 1099511627776, 0⟩
def mvK (p : S83 × Nat) : Option ((Int × Int) × Int) := if p.1.f0 = true then some ((p.1.f2, p.1.f4), (p.2 : Int)) else none
def wtK (p : S83 × Nat) : Option ((Int × Int) × Int) := if p.1.f1 = true then some ((p.1.f3, p.1.f4), (p.2 : Int)) else none
def movesK (K : List S83) : List ((Int × Int) × Int) := K.zipIdx.filterMap mvK
def waitsK (K : List S83) : List ((Int × Int) × Int) := K.zipIdx.filterMap wtK
theorem movesK_snoc (K : List S83) (k : S83) : movesK (K ++ [k]) = movesK K ++ (mvK (k, K.length)).toList := by
  unfold movesK
  rw [List.zipIdx_append, List.filterMap_append, Nat.zero_add]
  rfl
theorem waitsK_snoc (K : List S83) (k : S83) : waitsK (K ++ [k]) = waitsK K ++ (wtK (k, K.length)).toList := by
  unfold waitsK
  rw [List.zipIdx_append, List.filterMap_append, Nat.zero_add]
  rfl
structure Rel (V : Int) (l0 : List S54) (g : GS) (r : RS) : Prop where
  same : g.1 = r.1
  arcs : r.1 = r.2.map (arcK V l0)
  mv : g.2.1 = movesK r.2
  wt : g.2.2 = waitsK r.2
section
variable {V H s t : Int} {hold : Bool} {l0 : List S54}
theorem rel_arc {a : Int} {g : GS} {r : RS} {i : Nat} (h : Rel V l0 g r) : Rel V l0 (arcStep V H s t a g i (l0.getD i z54)) (rArc V H s t a r i (l0.getD i z54)) := by
  unfold arcStep rArc
  have hlen : g.1.length = r.2.length := by rw [h.same, h.arcs, List.length_map]
  split
  · refine ⟨by rw [h.same], ?_, ?_, ?_⟩
    · rw [h.arcs]
      simp only [List.map_append, List.map_cons, List.map_nil]
      rfl
    · show g.2.1 ++ [_] = movesK (r.2 ++ [_])
      rw [movesK_snoc, h.mv, hlen]
      rfl
    · show g.2.2 = waitsK (r.2 ++ [_])
      rw [waitsK_snoc, h.wt]
      show _ = waitsK r.2 ++ []
      rw [List.append_nil]
  · exact h
theorem rel_wait {a : Int} {g : GS} {r : RS} {v : Nat} (h : Rel V l0 g r) : Rel V l0 (waitStep V H hold s t a g v) (rWait V H hold s t a r v) := by
  unfold waitStep rWait
  have hlen : g.1.length = r.2.length := by rw [h.same, h.arcs, List.length_map]
  split
  · refine ⟨by rw [h.same], ?_, ?_, ?_⟩
    · rw [h.arcs]
      simp only [List.map_append, List.map_cons, List.map_nil]
      rfl
    · show g.2.1 = movesK (r.2 ++ [_])
      rw [movesK_snoc, h.mv]
      show _ = movesK r.2 ++ []
      rw [List.append_nil]
    · show g.2.2 ++ [_] = waitsK (r.2 ++ [_])
      rw [waitsK_snoc, h.wt, hlen]
      rfl
  · exact h
theorem rel_arcs {a : Int} {g : GS} {r : RS} (h : Rel V l0 g r) : ∀ n, Rel V l0 (arcLoop V H s t l0 a g n) (rArcs V H s t l0 a r n)
  | 0 => h
  | n + 1 => by rw [arcLoop_succ, rArcs_succ]; exact rel_arc (rel_arcs h n)
theorem rel_waits {a : Int} {g : GS} {r : RS} (h : Rel V l0 g r) : ∀ n, Rel V l0 (waitLoop V H hold s t a g n) (rWaits V H hold s t a r n)
  | 0 => h
  | n + 1 => by rw [waitLoop_succ, rWaits_succ]; exact rel_wait (rel_waits h n)
theorem rel_ats : ∀ n, Rel V l0 (atLoop V H hold s t l0 n) (rAts V H hold s t l0 n)
  | 0 => ⟨rfl, rfl, rfl, rfl⟩
  | n + 1 => by rw [atLoop_succ, rAts_succ]; exact rel_waits (rel_arcs (rel_ats n) _) _
def mvAt (H s t : Int) (l0 : List S54) (a : Int) (i : Nat) : Option S83 := if a + (l0.getD i z54).f3 ≤ H ∧ ((l0.getD i z54).f1 != s && (l0.getD i z54).f0 != t) = true then some ⟨true, false, (i : Int), 0, a⟩ else none
def wtAt (H : Int) (hold : Bool) (s t : Int) (a : Int) (v : Nat) : Option S83 := if a < H ∧ ((hold && (v : Int) != s) && (v : Int) != t) = true then some ⟨false, true, 0, (v : Int), a⟩ else none
def kindsAt (V H : Int) (hold : Bool) (s t : Int) (l0 : List S54) (a : Nat) : List S83 := (List.range l0.length).filterMap (mvAt H s t l0 (a : Int)) ++ (List.range V.toNat).filterMap (wtAt H hold s t (a : Int))
def kindsB (V H : Int) (hold : Bool) (s t : Int) (l0 : List S54) (n : Nat) : List S83 := (List.range n).flatMap (kindsAt V H hold s t l0)
theorem rArcs_kinds {a : Int} {r : RS} : ∀ n, (rArcs V H s t l0 a r n).2 = r.2 ++ (List.range n).filterMap (mvAt H s t l0 a)
  | 0 => by simp [rArcs]
  | n + 1 => by
    rw [rArcs_succ, List.range_succ, List.filterMap_append, ← List.append_assoc, ← rArcs_kinds n]
    unfold rArc
    by_cases h : a + (l0.getD n z54).f3 ≤ H ∧ ((l0.getD n z54).f1 != s && (l0.getD n z54).f0 != t) = true
    · rw [if_pos h, List.filterMap_cons, show mvAt H s t l0 a n = some ⟨true, false, (n : Int), 0, a⟩ from if_pos h, List.filterMap_nil]
    · rw [if_neg h, List.filterMap_cons, show mvAt H s t l0 a n = none from if_neg h, List.filterMap_nil, List.append_nil]
theorem rWaits_kinds {a : Int} {r : RS} : ∀ n, (rWaits V H hold s t a r n).2 = r.2 ++ (List.range n).filterMap (wtAt H hold s t a)
  | 0 => by simp [rWaits]
  | n + 1 => by
    rw [rWaits_succ, List.range_succ, List.filterMap_append, ← List.append_assoc, ← rWaits_kinds n]
    unfold rWait
    by_cases h : a < H ∧ ((hold && (n : Int) != s) && (n : Int) != t) = true
    · rw [if_pos h, List.filterMap_cons, show wtAt H hold s t a n = some ⟨false, true, 0, (n : Int), a⟩ from if_pos h, List.filterMap_nil]
    · rw [if_neg h, List.filterMap_cons, show wtAt H hold s t a n = none from if_neg h, List.filterMap_nil, List.append_nil]
theorem rAts_kinds : ∀ n, (rAts V H hold s t l0 n).2 = kindsB V H hold s t l0 n
  | 0 => rfl
  | n + 1 => by
    rw [rAts_succ, rWaits_kinds, rArcs_kinds, rAts_kinds n]
    unfold kindsB kindsAt
    rw [List.range_succ, List.flatMap_append, List.append_assoc]
    simp
theorem mem_kindsB {n : Nat} {k : S83} : k ∈ kindsB V H hold s t l0 n ↔ ∃ a : Nat, a < n ∧ ((∃ i : Nat, i < l0.length ∧ mvAt H s t l0 (a : Int) i = some k) ∨ (∃ v : Nat, v < V.toNat ∧ wtAt H hold s t (a : Int) v = some k)) := by
  unfold kindsB kindsAt
  simp only [List.mem_flatMap, List.mem_range, List.mem_append, List.mem_filterMap]
def klt (x y : S83) : Prop := x.f4 < y.f4 ∨ x.f4 = y.f4 ∧ (x.f0 = true ∧ y.f0 = true → x.f2 < y.f2) ∧ (x.f1 = true ∧ y.f1 = true → x.f3 < y.f3)
theorem mvAt_some {a : Int} {i : Nat} {k : S83} : mvAt H s t l0 a i = some k ↔ (a + (l0.getD i z54).f3 ≤ H ∧ (l0.getD i z54).f1 ≠ s ∧ (l0.getD i z54).f0 ≠ t) ∧ k = ⟨true, false, (i : Int), 0, a⟩ := by
  unfold mvAt
  split <;> rename_i h
  · simp only [Bool.and_eq_true, bne_iff_ne] at h
    constructor
    · intro e; exact ⟨h, by cases e; rfl⟩
    · rintro ⟨_, rfl⟩; rfl
  · simp only [Bool.and_eq_true, bne_iff_ne] at h
    exact ⟨(fun e => by cases e), fun e => absurd e.1 h⟩
theorem wtAt_some {a : Int} {v : Nat} {k : S83} : wtAt H hold s t a v = some k ↔ (a < H ∧ hold = true ∧ (v : Int) ≠ s ∧ (v : Int) ≠ t) ∧ k = ⟨false, true, 0, (v : Int), a⟩ := by
  unfold wtAt
  split <;> rename_i h
  · simp only [Bool.and_eq_true, bne_iff_ne] at h
    constructor
    · intro e; exact ⟨⟨h.1, h.2.1.1, h.2.1.2, h.2.2⟩, by cases e; rfl⟩
    · rintro ⟨_, rfl⟩; rfl
  · simp only [Bool.and_eq_true, bne_iff_ne] at h
    exact ⟨(fun e => by cases e), fun e => absurd ⟨e.1.1, ⟨e.1.2.1, e.1.2.2.1⟩, e.1.2.2.2⟩ h⟩
theorem range_lt (n : Nat) : (List.range n).Pairwise (· < ·) := List.pairwise_lt_range
theorem kindsB_sorted (n : Nat) : (kindsB V H hold s t l0 n).Pairwise klt := by
  unfold kindsB
  rw [List.pairwise_flatMap]
  refine ⟨fun a _ => ?_, (range_lt n).imp ?_⟩
  · unfold kindsAt
    rw [List.pairwise_append, List.pairwise_filterMap, List.pairwise_filterMap]
    refine ⟨(range_lt _).imp ?_, (range_lt _).imp ?_, ?_⟩
    · intro i j hij x hx y hy
      rw [mvAt_some] at hx hy
      rw [hx.2, hy.2]
      exact Or.inr ⟨rfl, fun _ => by show (i : Int) < (j : Int); omega, fun h => by cases h.1⟩
    · intro i j hij x hx y hy
      rw [wtAt_some] at hx hy
      rw [hx.2, hy.2]
      exact Or.inr ⟨rfl, (fun h => by cases h.1), fun _ => by show (i : Int) < (j : Int); omega⟩
    · intro x hx y hy
      obtain ⟨i, _, hx⟩ := List.mem_filterMap.1 hx
      obtain ⟨j, _, hy⟩ := List.mem_filterMap.1 hy
      rw [mvAt_some] at hx
      rw [wtAt_some] at hy
      rw [hx.2, hy.2]
      exact Or.inr ⟨rfl, (fun h => by cases h.2), (fun h => by cases h.1)⟩
  · intro a b hab x hx y hy
    have ha : x.f4 = (a : Int) := by
      unfold kindsAt at hx
      rcases List.mem_append.1 hx with hx | hx
      · obtain ⟨i, _, hx⟩ := List.mem_filterMap.1 hx
        rw [mvAt_some] at hx; rw [hx.2]
      · obtain ⟨i, _, hx⟩ := List.mem_filterMap.1 hx
        rw [wtAt_some] at hx; rw [hx.2]
    have hb : y.f4 = (b : Int) := by
      unfold kindsAt at hy
      rcases List.mem_append.1 hy with hy | hy
      · obtain ⟨i, _, hy⟩ := List.mem_filterMap.1 hy
        rw [mvAt_some] at hy; rw [hy.2]
      · obtain ⟨i, _, hy⟩ := List.mem_filterMap.1 hy
        rw [wtAt_some] at hy; rw [hy.2]
    exact Or.inl (by omega)
end
end Go.Proofs.Ytfhkkbpkajfdlaa.P
end
section
namespace Go.Proofs.Ytfhkkbpkajfdlaa.Q
open Go.RowKit Go.Proofs.YtfhkkbpkajfdlaaW.PrintWords Go.Proofs.YtfhkkbpkajfdlaaW.PrintLast Go.Proofs.YtfhkkbpkajfdlaaW.PrintMore
attribute [local go_sem] max2_int min2_int max_two min_two min_four
set_option linter.unusedVariables false
set_option linter.unusedSimpArgs false
def table_Moves_2.f (a0_0 : Int) (a0_1 : Int) (a0_2 : Int) : Option (Int) := some a0_2
set_option maxHeartbeats 8000000 in
set_option maxRecDepth 100000 in
theorem table_Moves_2.calls (a0_0 : Int) (a0_1 : Int) (a0_2 : Int) (r : Int) (w : World) (h : table_Moves_2.f a0_0 a0_1 a0_2 = some r) :
  Calls Try.prog 77 #[.agg #[.int .i64 a0_0, .int .i64 a0_1, .int .i64 a0_2]] w fun e w' => e = .returned (.int .i64 r) ∧ Below w.heap.size w w' := by
 have hu85 := Try.underlying85; have HB := Aside0.mk (Below.refl w.heap.size w); have H : (some a0_2) = some r := h; clear h; obtain rfl := Option.some.inj H
 go_enter Try.func77, Try.ntmps77
 go_wp2_with (first | ((with_reducible refine gate_dst (N := 1) rfl ?_); refine box_event ?hg (N := 1) ?hd (cs := #[.int .i64 a0_0, .int .i64 a0_1, .int .i64 a0_2]) (t := 85) ?hr ?_; (case hd => rfl); (case hg => rfl); (case hr => first | (go_simp; done) | (go_simp; rfl)); intro gb101 hg w2 hbox hb; have n0_ := Aside0.mk (below_step (by repeat (first | (with_reducible first | exact HB.out | apply below_alloc | apply pw_below_drewN | apply below_drew1) | exact HB.out)) hb); have n1_ := Aside0.mk (hbox); have n2_ := Aside0.mk ((by rw [hg]; exact (below_size (by repeat (first | (with_reducible first | exact HB.out | apply below_alloc | apply pw_below_drewN | apply below_drew1) | exact HB.out))) : w.heap.size ≤ gb101)); have n3_ := Aside0.mk ((by rw [hg]; exact (below_size (by repeat (first | (with_reducible first | exact HB.out | apply below_alloc | apply pw_below_drewN | apply below_drew1) | exact HB.out))) : w.heap.size ≤ gb101)); clear HB; have HB := n0_; have BK101 := n1_; have GW101 := n2_; have GE101 := n3_; clear n0_ n1_ n2_ n3_; clear hb hbox hg; have hcz3_0 : w2.cell? ⟨gb101, 0, none⟩ = some (.int .i64 a0_0) := (blk_cell BK101.out 0).trans rfl; have hcz3_1 : w2.cell? ⟨gb101, 1, none⟩ = some (.int .i64 a0_1) := (blk_cell BK101.out 1).trans rfl; have hcz3_2 : w2.cell? ⟨gb101, 2, none⟩ = some (.int .i64 a0_2) := (blk_cell BK101.out 2).trans rfl; have hfz3_0 := blk_frozen BK101.out 0; have hfz3_1 := blk_frozen BK101.out 1; have hfz3_2 := blk_frozen BK101.out 2))
 go_ret
 exact ⟨by first | rfl | (simp [errW_none, errW_some] <;> rfl) | (simp [*, errW_none, errW_some] <;> rfl), by repeat (first | (with_reducible first | exact HB.out | apply below_alloc | apply pw_below_drewN | apply below_drew1 | refine below_set ?_ GE101.out) | exact HB.out)⟩
end Go.Proofs.Ytfhkkbpkajfdlaa.Q
end
