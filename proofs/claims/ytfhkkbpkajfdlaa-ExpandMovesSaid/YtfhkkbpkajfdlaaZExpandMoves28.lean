/- A part of the proof: words, contracts, plain lemmas. Conditions: none. -/
import Derived.Test.YtfhkkbpkajfdlaaZExpandMoves3
import Derived.Test.YtfhkkbpkajfdlaaZExpandMoves24
import Derived.Test.YtfhkkbpkajfdlaaZExpandMoves27
section
namespace Go.Proofs.Ytfhkkbpkajfdlaa.Q
open Go.RowKit Go.Proofs.YtfhkkbpkajfdlaaW.PrintWords Go.Proofs.YtfhkkbpkajfdlaaW.PrintLast Go.Proofs.YtfhkkbpkajfdlaaW.PrintMore
attribute [local go_sem] max2_int min2_int max_two min_two min_four
set_option linter.unusedVariables false
set_option linter.unusedSimpArgs false
theorem eqA85 (d : Nat) (w : World) (x0 y0 : Int) (x1 y1 : Int) (x2 y2 : Int) :
  (Op.equalIn (d + 2) 85 (.agg #[.int .i64 x0, .int .i64 x1, .int .i64 x2]) (.agg #[.int .i64 y0, .int .i64 y1, .int .i64 y2])).run Try.prog w = .ok (x0 == y0 && (x1 == y1 && (x2 == y2))) w := by
 refine eqA_of Try.underlying85 (by kernel_rfl) ?_; refine eqf_cons (by rfl) (by go_simp; rfl) (by go_simp; rfl) (by go_simp) ?_; refine eqf_cons (by rfl) (by go_simp; rfl) (by go_simp; rfl) (by go_simp) ?_; exact eqf_last (by rfl) (by go_simp; rfl) (by go_simp; rfl) (by go_simp)
attribute [local go_sem high] eqA85
def ebbtideref03_SameMoves.l0 : Nat → List (S85) → List (S85) → Int → Option (Bool)
 | 0, _, _, _ => none
 | k + 1, x0, x1, x5 => if x5 < (x0.length : Int) then (if 0 ≤ x5 then (if x5 < (x1.length : Int) then (if (!(((rd_T85 x0 x5).f0) == ((rd_T85 x1 x5).f0)) || (!(((rd_T85 x0 x5).f1) == ((rd_T85 x1 x5).f1)) || (!(((rd_T85 x0 x5).f2) == ((rd_T85 x1 x5).f2))))) = true then (some false) else (ebbtideref03_SameMoves.l0 k x0 x1 (wrap64 (x5 + 1)))) else (none)) else (none)) else (some true)
def ebbtideref03_SameMoves.f (k : Nat) (l0 : List (S85)) (l1 : List (S85)) : Option (Bool) := if (l0.length : Int) = (l1.length : Int) then (ebbtideref03_SameMoves.l0 k l0 l1 0) else (some false)
set_option maxHeartbeats 8000000 in
set_option maxRecDepth 100000 in
theorem ebbtideref03_SameMoves.calls (k : Nat) (A0 : Option Addr) (c0 : Nat) (l0 : List (S85)) (A1 : Option Addr) (c1 : Nat) (l1 : List (S85)) (r : Bool) (w : World) (hr0 : Kd.C k85 w A0 l0.length l0) (hc0 : l0.length ≤ c0) (hr1 : Kd.C k85 w A1 l1.length l1) (hc1 : l1.length ≤ c1) (h : ebbtideref03_SameMoves.f k l0 l1 = some r) :
  Calls Try.prog 23 #[.slice A0 l0.length c0, .slice A1 l1.length c1] w fun e w' => e = .returned (.bool r) ∧ Drawn0 w w' := by
 have hu85 := Try.underlying85; have HR0 := Aside0.mk hr0; have HC0 := Aside0.mk hc0; clear hr0 hc0; have HR1 := Aside0.mk hr1; have HC1 := Aside0.mk hc1; clear hr1 hc1; have H : (if (l0.length : Int) = (l1.length : Int) then (ebbtideref03_SameMoves.l0 k l0 l1 0) else (some false)) = some r := h; clear h
 by_cases c3 : (l0.length : Int) = (l1.length : Int)
 ·rw [if_pos c3] at H
  have c3b0 : ((l0.length : Int) == (l1.length : Int)) = true := beq_iff_eq.mpr c3; have c3b1 : ((l0.length : Int) != (l1.length : Int)) = false := bne_eq_false_iff_eq.mpr c3
  have c3b2 : (l0.length == l1.length) = true := by first | simpa using c3 | (simp at c3 ⊢; omega)
  clear c3; have H' := Aside0.mk H; clear H
  go_enter Try.func23, Try.ntmps23
  go_wp2
  repeat (go_quiet (fail); try go_wp2)
  go_loopg [5] k (fun kq v5 w' => ∃ (x5_1 : Int), v5 = .int .i64 x5_1 ∧ Aside0 (ebbtideref03_SameMoves.l0 kq l0 l1 x5_1 = some r) ∧ Aside0 (kq ≤ k) ∧ Drawn0 w w')
  case atStart => exact ⟨(0), (by first | rfl | (simp; done) | (simp [*]; done)), H', ⟨Nat.le_refl _⟩, by repeat (first | exact Drawn0.refl _ | apply Drawn0.step)⟩
  case round =>
   clear H'
   try clear c1
   try clear c2
   try clear p2
   try clear c3
   try clear c3b0
   try clear c3b1
   try clear c3b2
   obtain ⟨x5_1, rfl, HA, HK1, ⟨m1, rfl⟩⟩ := hrel
   cases gk with
   | zero => exact absurd HA.out (by simp [ebbtideref03_SameMoves.l0])
   | succ k1 =>
    have H := HA.out; clear HA; simp only [ebbtideref03_SameMoves.l0] at H
    by_cases c4 : x5_1 < (l0.length : Int)
    ·rw [if_pos c4] at H
     have c4b0 : decide (x5_1 < (l0.length : Int)) = true := decide_eq_true c4; clear c4
     by_cases c5 : 0 ≤ x5_1
     ·rw [if_pos c5] at H
      have c5b0 : decide (0 ≤ x5_1) = true := decide_eq_true c5; clear c5
      by_cases c6 : x5_1 < (l1.length : Int)
      ·rw [if_pos c6] at H
       have c6b0 : decide (x5_1 < (l1.length : Int)) = true := decide_eq_true c6; clear c6
       by_cases c7 : (!(((rd_T85 l0 x5_1).f0) == ((rd_T85 l1 x5_1).f0)) || (!(((rd_T85 l0 x5_1).f1) == ((rd_T85 l1 x5_1).f1)) || (!(((rd_T85 l0 x5_1).f2) == ((rd_T85 l1 x5_1).f2))))) = true
       ·rw [if_pos c7] at H
        have c7b0 : (!(((rd_T85 l0 x5_1).f0) == ((rd_T85 l1 x5_1).f0)) || (!(((rd_T85 l0 x5_1).f1) == ((rd_T85 l1 x5_1).f1)) || (!(((rd_T85 l0 x5_1).f2) == ((rd_T85 l1 x5_1).f2))))) = true := c7; clear c7; obtain rfl := Option.some.inj H; have p420 : 0 ≤ (x5_1 : Int) := of_decide_eq_true (by first | (with_reducible assumption) | assumption); have q420 : x5_1 < (l0.length : Int) := of_decide_eq_true (by first | (with_reducible assumption) | assumption); obtain ⟨ad420, e420, hx420_0, hx420_1, hx420_2⟩ := at_T85 HR0.out x5_1 p420 q420; cases e420; replace p420 := eq_true p420; replace q420 := eq_true q420; have p421 : 0 ≤ (x5_1 : Int) := of_decide_eq_true (by first | (with_reducible assumption) | assumption); have q421 : x5_1 < (l1.length : Int) := of_decide_eq_true (by first | (with_reducible assumption) | assumption); obtain ⟨ad421, e421, hx421_0, hx421_1, hx421_2⟩ := at_T85 HR1.out x5_1 p421 q421; cases e421; replace p421 := eq_true p421; replace q421 := eq_true q421
        go_wp2
        repeat (go_quiet (fail); try go_wp2)
        go_ret
        exact ⟨by first | rfl | (simp; done) | (simp [*]; done), by repeat (first | exact Drawn0.refl _ | apply Drawn0.step)⟩
       ·rw [if_neg c7] at H
        have c7b0 : (!(((rd_T85 l0 x5_1).f0) == ((rd_T85 l1 x5_1).f0)) || (!(((rd_T85 l0 x5_1).f1) == ((rd_T85 l1 x5_1).f1)) || (!(((rd_T85 l0 x5_1).f2) == ((rd_T85 l1 x5_1).f2))))) = false := by simpa using c7
        clear c7; have H' := Aside0.mk H; clear H; have p420 : 0 ≤ (x5_1 : Int) := of_decide_eq_true (by first | (with_reducible assumption) | assumption); have q420 : x5_1 < (l0.length : Int) := of_decide_eq_true (by first | (with_reducible assumption) | assumption); obtain ⟨ad420, e420, hx420_0, hx420_1, hx420_2⟩ := at_T85 HR0.out x5_1 p420 q420; cases e420; replace p420 := eq_true p420; replace q420 := eq_true q420; have p421 : 0 ≤ (x5_1 : Int) := of_decide_eq_true (by first | (with_reducible assumption) | assumption); have q421 : x5_1 < (l1.length : Int) := of_decide_eq_true (by first | (with_reducible assumption) | assumption); obtain ⟨ad421, e421, hx421_0, hx421_1, hx421_2⟩ := at_T85 HR1.out x5_1 p421 q421; cases e421; replace p421 := eq_true p421; replace q421 := eq_true q421
        go_wp2
        repeat (go_quiet (fail); try go_wp2)
        go_roundg k1
        case measure => have := HK1.out; omega
        case rel => exact ⟨(wrap64 (x5_1 + 1)), (by first | rfl | (simp; done) | (simp [*]; done)), H', ⟨by have := HK1.out; omega⟩, by repeat (first | exact Drawn0.refl _ | apply Drawn0.step)⟩
      ·rw [if_neg c6] at H
       exact absurd H (by simp)
     ·rw [if_neg c5] at H
      exact absurd H (by simp)
    ·rw [if_neg c4] at H
     have c4b0 : decide (x5_1 < (l0.length : Int)) = false := decide_eq_false c4; clear c4; obtain rfl := Option.some.inj H
     go_wp2
     repeat (go_quiet (fail); try go_wp2)
     go_ret
     exact ⟨by first | rfl | (simp; done) | (simp [*]; done), by repeat (first | exact Drawn0.refl _ | apply Drawn0.step)⟩
 ·rw [if_neg c3] at H
  have c3b0 : ((l0.length : Int) == (l1.length : Int)) = false := beq_eq_false_iff_ne.mpr c3; have c3b1 : ((l0.length : Int) != (l1.length : Int)) = true := bne_iff_ne.mpr c3
  have c3b2 : (l0.length == l1.length) = false := by first | simpa using c3 | (simp at c3 ⊢; omega)
  obtain rfl := Option.some.inj H
  go_enter Try.func23, Try.ntmps23
  go_wp2
  repeat (go_quiet (fail); try go_wp2)
  go_ret
  exact ⟨by first | rfl | (simp; done) | (simp [*]; done), by repeat (first | exact Drawn0.refl _ | apply Drawn0.step)⟩
end Go.Proofs.Ytfhkkbpkajfdlaa.Q
end
section
namespace Go.Proofs.Ytfhkkbpkajfdlaa.P
set_option linter.unusedSimpArgs false
set_option linter.unusedVariables false
open Go.RowKit Go.Proofs.Ytfhkkbpkajfdlaa.Q Go.Proofs.YtfhkkbpkajfdlaaW.PrintWords Go.Proofs.YtfhkkbpkajfdlaaW.PrintLast Go.Proofs.YtfhkkbpkajfdlaaW.PrintMore
theorem ev_step2 {α : Type} {g f : Nat → Option α} {r : α} (h : ∀ k, g (k + 1 + 1) = f k) (k : Ev f r) : Ev g r := Ev.step (f := fun k => g (k + 1)) (fun _ => rfl) (Ev.step (g := fun k => g (k + 1)) h k)
theorem rdK_of {l : List S83} {i : Nat} (h : i < l.length) : rd_T83 l (i : Int) = l[i] := by unfold rd_T83; simp [List.getD_eq_getElem?_getD, List.getElem?_eq_getElem h]
def movesR (n : Int) (b : Bool) (l : List S54) (s t h : Int) (lf : List Int) : List S85 × Int :=
  if expErr n l s t h = 0 then (if lf.length = (gridArcs n h b s t l).length then (if withinB lf (gridArcs n h b s t l) = true then (toldL lf (gridMoves n h b s t l), 0) else ([], 71)) else ([], 71)) else ([], expErr n l s t h)
theorem moves15_ev (n : Int) (b : Bool) (l : List S54) (s t h : Int) (lf : List Int) : Ev (fun k => expand_Moves.f k n b l s t h lf) (movesR n b l s t h lf) := by
  unfold expand_Moves.f movesR
  refine Ev.bind (easked_ev n b l s t h) ?_
  by_cases c : expErr n l s t h = 0
  · obtain ⟨h1, h2, h3, h4⟩ := expErr_ok c
    simp only [c, if_true]
    refine ev_cst fun _ => ?_
    rw [if_pos ⟨okNet_of h1 h4, h2.1, h2.2, h3.1, h3.2⟩]
    split
    · split <;> rfl
    · rfl
  · simp only [c, if_false]; exact Ev.now _
section
variable {V H s t : Int} {hold : Bool} {l0 : List S54}
theorem kinds_eq : gridKinds V H hold s t l0 = kindsB V H hold s t l0 (H.toNat + 1) ++ kEnds s (H.toNat + 1) ++ kEnds t (H.toNat + 1) := by unfold gridKinds; rw [rAts_kinds]
theorem kEnds_mem {v : Int} {n : Nat} {k : S83} (h : k ∈ kEnds v n) : k.f0 = false ∧ k.f1 = false ∧ k.f3 = v := by
  unfold kEnds at h
  obtain ⟨a, _, rfl⟩ := List.mem_map.1 h
  exact ⟨rfl, rfl, rfl⟩
theorem movesK_ends {K E : List S83} (h : ∀ k ∈ E, k.f0 = false) : movesK (K ++ E) = movesK K := by
  unfold movesK
  have e0 : (E.zipIdx (0 + K.length)).filterMap mvK = [] := by
    rw [List.filterMap_eq_nil_iff]
    rintro ⟨k, i⟩ hk
    have := h k (by
      have := List.mem_zipIdx hk
      obtain ⟨_, _, e⟩ := this
      rw [e]; exact List.getElem_mem _)
    unfold mvK
    rw [if_neg (by simp only [this]; exact Bool.false_ne_true)]
  rw [List.zipIdx_append, List.filterMap_append, e0, List.append_nil]
theorem gridMoves_eq : gridMoves V H hold s t l0 = movesK (gridKinds V H hold s t l0) := by
  unfold gridMoves
  rw [log1, kinds_eq, movesK_ends (fun k hk => (kEnds_mem hk).1), movesK_ends (fun k hk => (kEnds_mem hk).1)]
theorem gridKinds_length : (gridKinds V H hold s t l0).length = (gridArcs V H hold s t l0).length := by
  rw [kinds_eq]
  unfold gridArcs
  rw [arcs1, List.length_append, List.length_append, List.length_append, List.length_append, List.length_map, kEnds_length, kEnds_length, firstsA_length, lastsA_length]
theorem movesK_take {K : List S83} {i : Nat} (hi : i < K.length) : movesK (K.take (i + 1)) = movesK (K.take i) ++ (mvK (K[i], i)).toList := by
  rw [List.take_succ_eq_append_getElem hi, movesK_snoc, List.length_take, Nat.min_eq_left (by omega)]
theorem toldL_append (lf : List Int) (A B : List ((Int × Int) × Int)) : toldL lf (A ++ B) = toldL lf A ++ toldL lf B := by unfold toldL; exact List.filterMap_append
theorem rm_step {lf : List Int} {A : List S54} {K : List S83} {out : List S85} {i : Nat} (h1 : lf.length = A.length) (h2 : K.length = A.length) (hA : A.length ≤ 300000) (hi : i < A.length) (ho : out.length ≤ i)
    (hw : 0 ≤ rd lf (i : Int) ∧ rd lf (i : Int) ≤ (rd_T54 A (i : Int)).f2) (k : Nat) :
    ebbtideref15_Moves.l0 (k + 1 + 1) lf A K out (i : Int) = ebbtideref15_Moves.l0 k lf A K (out ++ toldL lf (mvK (K[i], i)).toList) ((i + 1 : Nat) : Int) := by
  rw [ebbtideref15_Moves.l0, if_pos (by omega), if_pos (by omega), if_neg (by omega), if_pos (by omega), decide_eq_false (by omega), ebbtideref15_Moves.j1, if_neg Bool.false_ne_true, if_pos (by omega), if_pos (by omega), rdK_of (by omega)]
  cases hk : K[i].f0
  · rw [if_neg Bool.false_ne_true, wrap1 (by omega)]
    unfold mvK
    rw [if_neg (by simp only [hk]; exact Bool.false_ne_true)]
    simp [toldL]
  · rw [if_pos rfl, if_pos (by omega)]
    unfold mvK
    rw [if_pos hk]
    by_cases c : rd lf (i : Int) > 0
    · rw [if_pos c, if_pos (by omega), wrap1 (by omega)]
      simp [toldL, c]
    · rw [if_neg c, wrap1 (by omega)]
      simp [toldL, c]
theorem rm_good {lf : List Int} {A : List S54} {K : List S83} (h1 : lf.length = A.length) (h2 : K.length = A.length) (hA : A.length ≤ 300000) (hw : withinB lf A = true) :
    ∀ d i : Nat, i + d = A.length → Ev (fun k => ebbtideref15_Moves.l0 k lf A K (toldL lf (movesK (K.take i))) (i : Int)) (toldL lf (movesK K), (0 : Int)) := by
  intro d
  induction d with
  | zero =>
    intro i hi
    refine ev_cst fun k => ?_
    rw [ebbtideref15_Moves.l0, if_neg (by omega), List.take_of_length_le (by omega)]
  | succ d ih =>
    intro i hi
    have hb := of_decide_eq_true (List.all_eq_true.1 hw i (List.mem_range.2 (by omega)))
    have hlen : (toldL lf (movesK (K.take i))).length ≤ i := by
      have a1 := toldL_length lf (movesK (K.take i))
      have a2 := movesK_len (K.take i)
      rw [List.length_take] at a2
      omega
    have h := ih (i + 1) (by omega)
    rw [movesK_take (by omega), toldL_append] at h
    exact ev_step2 (fun k => rm_step h1 h2 hA (by omega) hlen hb k) h
theorem rm_bad {lf : List Int} {A : List S54} {K : List S83} (h1 : lf.length = A.length) (h2 : K.length = A.length) (hA : A.length ≤ 300000) :
    ∀ d i : Nat, i + d = A.length → (∃ j, i ≤ j ∧ j < A.length ∧ ¬ (0 ≤ rd lf (j : Int) ∧ rd lf (j : Int) ≤ (rd_T54 A (j : Int)).f2)) → ∀ out : List S85, out.length ≤ i → Ev (fun k => ebbtideref15_Moves.l0 k lf A K out (i : Int)) (([] : List S85), (71 : Int)) := by
  intro d
  induction d with
  | zero =>
    rintro i hi ⟨j, h3, h4, _⟩
    omega
  | succ d ih =>
    intro i hi hex out ho
    by_cases hb : 0 ≤ rd lf (i : Int) ∧ rd lf (i : Int) ≤ (rd_T54 A (i : Int)).f2
    · have hlen : (out ++ toldL lf (mvK (K[i], i)).toList).length ≤ i + 1 := by
        rw [List.length_append]
        have := toldL_length lf (mvK (K[i], i)).toList
        have h5 : (mvK (K[i], i)).toList.length ≤ 1 := by cases mvK (K[i], i) <;> simp
        omega
      obtain ⟨j, h3, h4, h5⟩ := hex
      have hne : j ≠ i := fun e => h5 (by rw [e]; exact hb)
      exact ev_step2 (fun k => rm_step h1 h2 hA (by omega) ho hb k) (ih (i + 1) (by omega) ⟨j, by omega, h4, h5⟩ _ hlen)
    · refine ev_step2 (f := fun _ => some (([] : List S85), (71 : Int))) (fun k => ?_) (Ev.now _)
      rw [ebbtideref15_Moves.l0, if_pos (by omega), if_pos (by omega)]
      by_cases c : rd lf (i : Int) < 0
      · rw [if_pos c, ebbtideref15_Moves.j1, if_pos rfl]
      · rw [if_neg c, if_pos (by omega), decide_eq_true (by omega), ebbtideref15_Moves.j1, if_pos rfl]
end
theorem rmoves15_ev (n : Int) (b : Bool) (l : List S54) (s t h : Int) (lf : List Int) : Ev (fun k => ebbtideref15_Moves.f k n b l s t h lf) (movesR n b l s t h lf) := by
  unfold ebbtideref15_Moves.f movesR
  refine Ev.bind (reasked_ev n b l s t h) ?_
  by_cases c : expErr n l s t h = 0
  · obtain ⟨h1, h2, h3, h4⟩ := expErr_ok c
    simp only [c, if_true]
    refine Ev.bind (arcs_ev h1 h4 h2 h3) ?_
    by_cases cl : lf.length = (gridArcs n h b s t l).length
    · simp only [cl, if_true]
      have hA := gridArcs_length (hold := b) (s := s) (t := t) h1 h4
      by_cases cw : withinB lf (gridArcs n h b s t l) = true
      · simp only [cw, if_true]
        have := rm_good cl gridKinds_length hA cw (gridArcs n h b s t l).length 0 (by omega)
        rw [gridMoves_eq]
        exact this
      · simp only [cw, if_false]
        refine rm_bad cl gridKinds_length hA (gridArcs n h b s t l).length 0 (by omega) ?_ [] (Nat.le_refl _)
        refine Classical.byContradiction fun hno => cw (within_all fun i hi => Classical.byContradiction fun hb => hno ⟨i, Nat.zero_le _, hi, hb⟩)
    · simp only [show ¬ ((lf.length : Int) = ((gridArcs n h b s t l).length : Int)) from fun e => cl (by omega), cl, if_false]
      exact Ev.now _
  · simp only [c, if_false]; exact Ev.now _
theorem sameMoves_ev (l : List S85) (hl : l.length ≤ 4611686018427387904) : Ev (fun k => ebbtideref03_SameMoves.f k l l) true := by
  have hloop : ∀ d i, i + d = l.length → Ev (fun k => ebbtideref03_SameMoves.l0 k l l (i : Int)) true := by
    intro d
    induction d with
    | zero => intro i hi; exact ev_cst fun k => by rw [ebbtideref03_SameMoves.l0, if_neg (by omega)]
    | succ d ih =>
      intro i hi
      refine Ev.step (fun k => ?_) (ih (i + 1) (by omega))
      rw [ebbtideref03_SameMoves.l0, if_pos (by omega), if_pos (by omega), if_pos (by omega), if_neg (by simp), wrap1 (by omega)]
  refine Ev.congr (fun k => ?_) (hloop l.length 0 (by omega))
  unfold ebbtideref03_SameMoves.f
  rw [if_pos rfl]
  rfl
theorem movesR_length (n : Int) (b : Bool) (l : List S54) (s t h : Int) (lf : List Int) : (movesR n b l s t h lf).1.length ≤ 300000 := by
  unfold movesR
  split
  · rename_i c
    obtain ⟨h1, h2, h3, h4⟩ := expErr_ok c
    split
    · split
      · refine Nat.le_trans (toldL_length _ _) ?_
        rw [gridMoves_eq]
        refine Nat.le_trans (movesK_len _) ?_
        rw [gridKinds_length]
        exact gridArcs_length h1 h4
      · exact Nat.zero_le _
    · exact Nat.zero_le _
  · exact Nat.zero_le _
end Go.Proofs.Ytfhkkbpkajfdlaa.P
end
