/- A part of the proof: words, contracts, plain lemmas. Conditions: none. -/
import Derived.Test.YtfhkkbpkajfdlaaZExpandRuns29
set_option linter.unusedSectionVars false
set_option linter.unusedSimpArgs false
set_option linter.unusedVariables false
section
namespace Go.Proofs.Ytfhkkbpkajfdlaa.P
open Go.RowKit Go.Proofs.Ytfhkkbpkajfdlaa.Q Go.Proofs.YtfhkkbpkajfdlaaW.PrintWords Go.Proofs.YtfhkkbpkajfdlaaW.PrintLast Go.Proofs.YtfhkkbpkajfdlaaW.PrintMore
theorem rdI_at {l : List Int} {i : Nat} (h : i < l.length) : rd l (i : Int) = l[i] := by unfold rd; simp [List.getD_eq_getElem?_getD, List.getElem?_eq_getElem h]
theorem rdS_at {l : List S115} {i : Nat} (h : i < l.length) : rd_T115 l (i : Int) = l[i] := by unfold rd_T115; simp [List.getD_eq_getElem?_getD, List.getElem?_eq_getElem h]
def okS (A : List S54) (x : S115) : Prop := 0 ≤ x.f0 ∧ x.f0 < (A.length : Int)
def frS (A : List S54) (x : S115) : Int := if x.f1 = true then (rd_T54 A x.f0).f1 else (rd_T54 A x.f0).f0
def toS (A : List S54) (x : S115) : Int := if x.f1 = true then (rd_T54 A x.f0).f0 else (rd_T54 A x.f0).f1
theorem from_eq {nn : Int} {bb : Bool} {A : List S54} {x : S115} (h : okS A x) : ebbtideref07_From.f nn bb A x.f0 x.f1 = some (frS A x) := by
 unfold ebbtideref07_From.f frS
 cases x.f1
 ·rw [if_neg (by decide), if_pos h.1, if_pos h.2, if_neg (by decide)]
 ·rw [if_pos rfl, if_pos h.1, if_pos h.2, if_pos rfl]
theorem to_eq {nn : Int} {bb : Bool} {A : List S54} {x : S115} (h : okS A x) : ebbtideref07_To.f nn bb A x.f0 x.f1 = some (toS A x) := by
 unfold ebbtideref07_To.f toS
 cases x.f1
 ·rw [if_neg (by decide), if_pos h.1, if_pos h.2, if_neg (by decide)]
 ·rw [if_pos rfl, if_pos h.1, if_pos h.2, if_pos rfl]
def Has (nodes : List Int) (v r : Int) : Prop := (r = -1 ∧ v ∉ nodes) ∨ ∃ i : Nat, ∃ h : i < nodes.length, r = (i : Int) ∧ nodes[i] = v
theorem has_loop {nodes : List Int} {by_ : List S115} (hl : nodes.length ≤ 1000000) (v : Int) : ∀ d i : Nat, i + d = nodes.length → (∀ j (h : j < nodes.length), j < i → nodes[j] ≠ v) → ∃ r, Ev (fun k => ebbtideref08_found_has.l0 k v (i : Int) nodes by_) r ∧ Has nodes v r := by
 intro d
 induction d with
 | zero =>
  intro i hi hno
  refine ⟨-1, ev_cst fun k => by rw [ebbtideref08_found_has.l0, if_neg (by omega)], Or.inl ⟨rfl, fun hm => ?_⟩⟩
  obtain ⟨j, hj, e⟩ := List.getElem_of_mem hm
  exact hno j hj (by omega) e
 | succ d ih =>
  intro i hi hno
  have hlt : i < nodes.length := by omega
  by_cases c : nodes[i] = v
  ·refine ⟨(i : Int), ev_cst fun k => ?_, Or.inr ⟨i, hlt, rfl, c⟩⟩
   rw [ebbtideref08_found_has.l0, if_pos (by omega), if_pos (by omega), rdI_at hlt, if_pos c]
  ·obtain ⟨r, h1, h2⟩ := ih (i + 1) (by omega) (fun j hj hji => by
    by_cases e : j = i
    ·subst e; exact c
    ·exact hno j hj (by omega))
   refine ⟨r, Ev.step (fun k => ?_) h1, h2⟩
   rw [ebbtideref08_found_has.l0, if_pos (by omega), if_pos (by omega), rdI_at hlt, if_neg c, wrap1 (by omega)]
theorem has_ev {nodes : List Int} {by_ : List S115} (hl : nodes.length ≤ 1000000) (v : Int) : ∃ r, Ev (fun k => ebbtideref08_found_has.f k nodes by_ v) r ∧ Has nodes v r := by
 obtain ⟨r, h1, h2⟩ := has_loop (by_ := by_) hl v nodes.length 0 (by omega) (fun j _ h => absurd h (Nat.not_lt_zero _))
 exact ⟨r, h1, h2⟩
structure Found (N : Nat) (A : List S54) (s : Int) (L : List S115) (nodes : List Int) (by_ : List S115) : Prop where
 len : by_.length = nodes.length
 pos : 0 < nodes.length
 first : nodes[0]? = some s
 nd : nodes.Nodup
 rng : ∀ v ∈ nodes, 0 ≤ v ∧ v < (N : Int)
 st : ∀ i (h : i < nodes.length), 0 < i → ∃ x, by_[i]? = some x ∧ x ∈ L ∧ toS A x = nodes[i] ∧ ∃ j, ∃ hj : j < nodes.length, j < i ∧ frS A x = nodes[j]
theorem nd_len : ∀ (N : Nat) (l : List Nat), l.Nodup → (∀ x ∈ l, x < N) → l.length ≤ N := by
 intro N
 induction N with
 | zero =>
  intro l _ h
  cases l with
  | nil => exact Nat.le_refl _
  | cons x l => exact absurd (h x List.mem_cons_self) (Nat.not_lt_zero _)
 | succ N ih =>
  intro l hd h
  by_cases c : N ∈ l
  ·have h1 := ih (l.erase N) (hd.erase N) (fun x hx => by
    have h2 := (hd.mem_erase_iff).1 hx
    have := h x h2.2
    have := h2.1
    omega)
   rw [List.length_erase_of_mem c] at h1
   omega
  ·have := ih l hd (fun x hx => by
    have := h x hx
    have : x ≠ N := fun e => c (e ▸ hx)
    omega)
   omega
theorem nodup_len {N : Nat} {l : List Int} (hd : l.Nodup) (h : ∀ v ∈ l, 0 ≤ v ∧ v < (N : Int)) : l.length ≤ N := by
 have h1 : (l.map Int.toNat).Nodup := by
  rw [List.Nodup, List.pairwise_map]
  refine List.Pairwise.imp_of_mem ?_ hd
  intro a b ha hb hab e
  have := h a ha
  have := h b hb
  omega
 have h3 := nd_len N (l.map Int.toNat) h1 (fun x hx => by
  obtain ⟨v, hv, rfl⟩ := List.mem_map.1 hx
  have := h v hv
  omega)
 rw [List.length_map] at h3
 exact h3
section
variable {N : Nat} {nn s : Int} {bb : Bool} {A : List S54} {L : List S115} (hN : N ≤ 1000000) (hA : ∀ a ∈ A, (0 ≤ a.f0 ∧ a.f0 < (N : Int)) ∧ (0 ≤ a.f1 ∧ a.f1 < (N : Int))) (hL : ∀ x ∈ L, okS A x) (hLl : L.length ≤ 1000000)
include hN hA hL hLl
theorem to_rng {x : S115} (h : okS A x) : 0 ≤ toS A x ∧ toS A x < (N : Int) := by
 obtain ⟨i, hi⟩ := Int.eq_ofNat_of_zero_le h.1
 have h2 := h.2
 rw [hi] at h2
 have hm := hA (A[i]'(by omega)) (List.getElem_mem _)
 have e : rd_T54 A x.f0 = A[i]'(by omega) := by rw [hi]; exact rdA_of (by omega)
 unfold toS
 rw [e]
 split
 ·exact hm.1
 ·exact hm.2
theorem found_more {nodes : List Int} {by_ : List S115} {x : S115} {j : Nat} (hF : Found N A s L nodes by_) (hx : x ∈ L) (hj : j < nodes.length) (hf : frS A x = nodes[j]) (hnew : toS A x ∉ nodes) : Found N A s L (nodes ++ [toS A x]) (by_ ++ [x]) := by
 have ln := hF.len
 refine ⟨by simp [hF.len], by simp, ?_, ?_, ?_, ?_⟩
 ·rw [List.getElem?_append_left hF.pos]; exact hF.first
 ·rw [List.nodup_append]
  refine ⟨hF.nd, by simp, fun a ha b hb e => ?_⟩
  rw [List.mem_singleton] at hb
  subst hb; subst e
  exact hnew ha
 ·intro v hv
  rcases List.mem_append.1 hv with hv | hv
  ·exact hF.rng v hv
  ·rw [List.mem_singleton] at hv
   rw [hv]; exact to_rng hN hA hL hLl (hL x hx)
 ·intro i hi h0
  by_cases c : i < nodes.length
  ·obtain ⟨y, h1, h2, h3, j', hj', h4, h5⟩ := hF.st i c h0
   refine ⟨y, by rw [List.getElem?_append_left (by omega)]; exact h1, h2, by rw [List.getElem_append_left c]; exact h3, j', by rw [List.length_append]; omega, h4, by rw [List.getElem_append_left hj']; exact h5⟩
  ·rw [List.length_append, List.length_singleton] at hi
   have e : i = nodes.length := by omega
   subst e
   refine ⟨x, by rw [List.getElem?_append_right (by omega)]; simp [ln], hx, by simp, j, by rw [List.length_append]; omega, hj, by rw [List.getElem_append_left hj]; exact hf⟩
theorem sought_in (i : Nat) (hi : i < N) (hnext : ∀ nodes by_, Found N A s L nodes by_ → ∃ R, Ev (fun k => ebbtideref08_sought.l0 k L ((i + 1 : Nat) : Int) nn bb A nodes by_) R ∧ Found N A s L R.1 R.2) :
 ∀ d j : Nat, j + d = L.length → ∀ nodes by_, Found N A s L nodes by_ → i < nodes.length → ∃ R, Ev (fun k => ebbtideref08_sought.l1 k L (i : Int) (j : Int) nn bb A nodes by_) R ∧ Found N A s L R.1 R.2 := by
 intro d
 induction d with
 | zero =>
  intro j hj nodes by_ hF hin
  obtain ⟨R, h1, h2⟩ := hnext nodes by_ hF
  refine ⟨R, Ev.step (fun k => ?_) h1, h2⟩
  rw [ebbtideref08_sought.l1, if_neg (by omega), wrap1 (by omega)]
 | succ d ih =>
  intro j hj nodes by_ hF hin
  have hlt : j < L.length := by omega
  have hx := hL L[j] (List.getElem_mem hlt)
  have hlen := nodup_len hF.nd hF.rng
  have hbl := hF.len
  have base : ∀ k, ebbtideref08_sought.l1 (k + 1) L (i : Int) (j : Int) nn bb A nodes by_ = if frS A L[j] = nodes[i] then (ebbtideref08_found_has.f k nodes by_ (toS A L[j])).bind (fun t488 => if t488 < 0 then ebbtideref08_sought.l1 k L (i : Int) ((j + 1 : Nat) : Int) nn bb A (nodes ++ [toS A L[j]]) (by_ ++ [L[j]]) else ebbtideref08_sought.l1 k L (i : Int) ((j + 1 : Nat) : Int) nn bb A nodes by_) else ebbtideref08_sought.l1 k L (i : Int) ((j + 1 : Nat) : Int) nn bb A nodes by_ := fun k => by
   rw [ebbtideref08_sought.l1, if_pos (by omega), if_pos (by omega), rdS_at hlt, from_eq hx, Option.bind_some, if_pos (by omega), if_pos (by omega), rdI_at hin, to_eq hx, wrap1 (by omega)]
   simp only [Option.bind_some, if_pos (show nodes.length < 17592186044416 by omega), if_pos (show by_.length < 8796093022208 by omega)]
  by_cases c : frS A L[j] = nodes[i]
  ·obtain ⟨r, hr, hH⟩ := has_ev (by_ := by_) (by omega : nodes.length ≤ 1000000) (toS A L[j])
   rcases hH with ⟨e, hno⟩ | ⟨q, hq, e, hm⟩
   ·have hF2 := found_more hN hA hL hLl hF (List.getElem_mem hlt) hin c hno
    obtain ⟨R, h1, h2⟩ := ih (j + 1) (by omega) _ _ hF2 (by rw [List.length_append]; omega)
    refine ⟨R, Ev.step (fun k => ?_) (Ev.bind hr (f := fun k t488 => if t488 < 0 then ebbtideref08_sought.l1 k L (i : Int) ((j + 1 : Nat) : Int) nn bb A (nodes ++ [toS A L[j]]) (by_ ++ [L[j]]) else ebbtideref08_sought.l1 k L (i : Int) ((j + 1 : Nat) : Int) nn bb A nodes by_) ?_), h2⟩
    ·rw [base, if_pos c]
    ·simp only [e, show ((-1 : Int) < 0) = True from by simp, if_true]; exact h1
   ·obtain ⟨R, h1, h2⟩ := ih (j + 1) (by omega) _ _ hF hin
    refine ⟨R, Ev.step (fun k => ?_) (Ev.bind hr (f := fun k t488 => if t488 < 0 then ebbtideref08_sought.l1 k L (i : Int) ((j + 1 : Nat) : Int) nn bb A (nodes ++ [toS A L[j]]) (by_ ++ [L[j]]) else ebbtideref08_sought.l1 k L (i : Int) ((j + 1 : Nat) : Int) nn bb A nodes by_) ?_), h2⟩
    ·rw [base, if_pos c]
    ·simp only [if_neg (show ¬ r < 0 by omega)]; exact h1
  ·obtain ⟨R, h1, h2⟩ := ih (j + 1) (by omega) _ _ hF hin
   refine ⟨R, Ev.step (fun k => ?_) h1, h2⟩
   rw [base, if_neg c]
theorem sought_out : ∀ d i : Nat, i + d = N → ∀ nodes by_, Found N A s L nodes by_ → ∃ R, Ev (fun k => ebbtideref08_sought.l0 k L (i : Int) nn bb A nodes by_) R ∧ Found N A s L R.1 R.2 := by
 intro d
 induction d with
 | zero =>
  intro i hi nodes by_ hF
  have hlen := nodup_len hF.nd hF.rng
  refine ⟨(nodes, by_), ev_cst fun k => ?_, hF⟩
  rw [ebbtideref08_sought.l0, if_neg (by omega)]
 | succ d ih =>
  intro i hi nodes by_ hF
  by_cases c : i < nodes.length
  ·obtain ⟨R, h1, h2⟩ := sought_in hN hA hL hLl (nn := nn) (bb := bb) i (by omega) (fun nodes by_ hF => ih (i + 1) (by omega) nodes by_ hF) L.length 0 (by omega) nodes by_ hF c
   refine ⟨R, Ev.step (fun k => ?_) h1, h2⟩
   rw [ebbtideref08_sought.l0, if_pos (by omega)]
   rfl
  ·refine ⟨(nodes, by_), ev_cst fun k => ?_, hF⟩
   rw [ebbtideref08_sought.l0, if_neg (by omega)]
theorem sought_ev (hs : 0 ≤ s ∧ s < (N : Int)) : ∃ R, Ev (fun k => ebbtideref08_sought.f k nn bb A s L) R ∧ Found N A s L R.1 R.2 := by
 have hF : Found N A s L [s] [⟨0, false⟩] := ⟨rfl, by simp, rfl, by simp, fun v hv => by rw [List.mem_singleton.1 hv]; exact hs, fun i hi h0 => by simp at hi; omega⟩
 obtain ⟨R, h1, h2⟩ := sought_out hN hA hL hLl (nn := nn) (bb := bb) N 0 (by omega) _ _ hF
 refine ⟨R, Ev.congr (fun k => ?_) h1, h2⟩
 unfold ebbtideref08_sought.f
 rw [if_pos (by simp), if_pos (by simp)]
 rfl
end
theorem w64v {n : Int} (h0 : -4611686018427387904 ≤ n) (h1 : n ≤ 4611686018427387904) : wrap64 n = n := by unfold wrap64; omega
def chain (A : List S54) (t : Int) : Int → List S115 → Prop
 | v, [] => v = t
 | v, x :: r => frS A x = v ∧ chain A t (toS A x) r
structure Good (N : Nat) (A : List S54) (s t : Int) (L P : List S115) : Prop where
 ch : chain A t s P
 mem : ∀ x ∈ P, x ∈ L
 nd : (P.map (toS A)).Nodup
 len : P.length ≤ N
theorem back_ev {back : List S115} (hb : back.length ≤ 1000000) : ∀ d : Nat, d ≤ back.length → Ev (fun k => ebbtideref08_Way.l1 k back (back.drop d).reverse ((d : Int) - 1)) (back.reverse, true) := by
 intro d
 induction d with
 | zero =>
  intro _
  refine ev_cst fun k => ?_
  rw [ebbtideref08_Way.l1, if_neg (by omega), List.drop_zero]
 | succ d ih =>
  intro hd
  have hlt : d < back.length := by omega
  have h := ih (by omega)
  rw [List.drop_eq_getElem_cons hlt, List.reverse_cons] at h
  refine Ev.step (fun k => ?_) h
  have e : (((d + 1 : Nat) : Int) - 1) = (d : Int) := by omega
  rw [e, ebbtideref08_Way.l1, if_pos (by omega), if_pos (by omega), if_pos (by omega), if_pos (by rw [List.length_reverse, List.length_drop]; omega), rdS_at hlt, w64v (by omega) (by omega)]
section
variable {N : Nat} {nn s t : Int} {bb : Bool} {A : List S54} {L : List S115} (hN : N ≤ 1000000) (hA : ∀ a ∈ A, (0 ≤ a.f0 ∧ a.f0 < (N : Int)) ∧ (0 ≤ a.f1 ∧ a.f1 < (N : Int))) (hL : ∀ x ∈ L, okS A x) (hLl : L.length ≤ 1000000)
include hN hA hL hLl
theorem path_len {P : List S115} (hm : ∀ x ∈ P, x ∈ L) (hd : (P.map (toS A)).Nodup) : P.length ≤ N := by
 have h := nodup_len hd (N := N) (fun v hv => by
  obtain ⟨x, hx, rfl⟩ := List.mem_map.1 hv
  exact to_rng hN hA hL hLl (hL x (hm x hx)))
 rw [List.length_map] at h
 exact h
theorem way_loop {nodes : List Int} {by_ : List S115} (hF : Found N A s L nodes by_) : ∀ m j : Nat, j < m → ∀ (hj : j < nodes.length) (back : List S115), chain A t nodes[j] back.reverse → (∀ x ∈ back, x ∈ L) → (back.map (toS A)).Nodup → (∀ x ∈ back, ∃ i, ∃ hi : i < nodes.length, j < i ∧ nodes[i] = toS A x) →
 ∃ R, Ev (fun k => ebbtideref08_Way.l0 k s back nodes[j] nn bb A nodes by_) R ∧ R.2 = true ∧ Good N A s t L R.1 := by
 intro m
 induction m with
 | zero => intro j h; exact absurd h (Nat.not_lt_zero _)
 | succ m ih =>
  intro j hjm hj back hc hm hd hi
  have hlen := path_len hN hA hL hLl hm hd
  have hnl := nodup_len hF.nd hF.rng
  by_cases c : nodes[j] = s
  ·refine ⟨(back.reverse, true), Ev.step (fun k => ?_) (back_ev (by omega) back.length (Nat.le_refl _)), rfl, ?_⟩
   ·rw [ebbtideref08_Way.l0, if_pos c, List.drop_length]
    rw [w64v (n := (back.length : Int) - 1) (by omega) (by omega)]
    rfl
   ·rw [c] at hc
    refine ⟨hc, fun x hx => hm x (List.mem_reverse.1 hx), ?_, by rw [List.length_reverse]; exact hlen⟩
    rw [List.map_reverse]
    rw [List.Nodup, List.pairwise_reverse]
    exact hd.imp fun h e => h e.symm
  ·have h0 : 0 < j := by
    rcases Nat.eq_zero_or_pos j with e | e
    ·subst e
     have := hF.first
     rw [List.getElem?_eq_getElem hj] at this
     exact absurd (Option.some.inj this) c
    ·exact e
   obtain ⟨x, hx, hxL, hxt, j', hj', hjj, hxf⟩ := hF.st j hj h0
   obtain ⟨hjb, ex⟩ := List.getElem?_eq_some_iff.1 hx
   obtain ⟨r, hr, hH⟩ := has_ev (by_ := by_) (by omega : nodes.length ≤ 1000000) nodes[j]
   have er : r = (j : Int) := by
    rcases hH with ⟨_, hno⟩ | ⟨q, hq, e, hm⟩
    ·exact absurd (List.getElem_mem hj) hno
    ·have := (List.getElem_inj hF.nd).1 hm
     omega
   subst er
   obtain ⟨R, h1, h2⟩ := ih j' (by omega) hj' (back ++ [x]) (by
    rw [List.reverse_append, List.reverse_singleton, List.singleton_append]
    exact ⟨hxf, by rw [hxt]; exact hc⟩) (fun y hy => by
    rcases List.mem_append.1 hy with hy | hy
    ·exact hm y hy
    ·rw [List.mem_singleton.1 hy]; exact hxL) (by
    rw [List.map_append, List.nodup_append]
    refine ⟨hd, by simp, fun a ha b hb e => ?_⟩
    rw [List.map_singleton, List.mem_singleton] at hb
    subst hb; subst e
    obtain ⟨y, hy, e⟩ := List.mem_map.1 ha
    obtain ⟨i, hi1, hi2, hi3⟩ := hi y hy
    rw [← hi3] at e
    rw [hxt] at e
    have := (List.getElem_inj hF.nd).1 e
    omega) (fun y hy => by
    rcases List.mem_append.1 hy with hy | hy
    ·obtain ⟨i, hi1, hi2, hi3⟩ := hi y hy
     exact ⟨i, hi1, by omega, hi3⟩
    ·rw [List.mem_singleton.1 hy]
     exact ⟨j, hj, hjj, hxt.symm⟩)
   refine ⟨R, Ev.step (f := fun k => (ebbtideref08_found_has.f k nodes by_ nodes[j]).bind fun t211 => (if 0 ≤ t211 then (if t211 < (by_.length : Int) then (if back.length < 8796093022208 then ((ebbtideref07_From.f nn bb A ((rd_T115 by_ t211).f0) ((rd_T115 by_ t211).f1)).bind fun t217 => (ebbtideref08_Way.l0 k s (back ++ [(⟨(rd_T115 by_ t211).f0, (rd_T115 by_ t211).f1⟩ : S115)]) t217 nn bb A nodes by_)) else (none)) else (none)) else (none))) (fun k => ?_) (Ev.bind hr ?_), h2⟩
   ·rw [ebbtideref08_Way.l0, if_neg c]
   ·simp only [if_pos (show (0 : Int) ≤ (j : Int) by omega), if_pos (show (j : Int) < (by_.length : Int) by omega), if_pos (show back.length < 8796093022208 by omega), rdS_at hjb, ex, from_eq (nn := nn) (bb := bb) (hL x hxL), Option.bind_some, hxf]
    exact h1
theorem way_ev (hs : 0 ≤ s ∧ s < (N : Int)) : ∃ R, Ev (fun k => ebbtideref08_Way.f k nn bb A s t L) R ∧ (R.2 = true → Good N A s t L R.1) := by
 obtain ⟨⟨nodes, by_⟩, h1, hF⟩ := sought_ev hN hA hL hLl (nn := nn) (bb := bb) hs
 have hnl := nodup_len hF.nd hF.rng
 obtain ⟨r, hr, hH⟩ := has_ev (nodes := nodes) (by_ := by_) (by simp only at hnl; omega) t
 rcases hH with ⟨e, hno⟩ | ⟨q, hq, e, hm⟩
 ·refine ⟨([], false), ?_, fun h => by cases h⟩
  unfold ebbtideref08_Way.f
  refine Ev.bind h1 (Ev.bind hr ?_)
  simp only [e, show ((-1 : Int) < 0) = True from by simp, if_true]
  exact Ev.now _
 ·obtain ⟨R, h2, h3, h4⟩ := way_loop hN hA hL hLl (nn := nn) (bb := bb) (t := t) hF (q + 1) q (by omega) hq [] (by show nodes[q] = t; exact hm) (by simp) (by simp) (by simp)
  refine ⟨R, ?_, fun _ => h4⟩
  unfold ebbtideref08_Way.f
  refine Ev.bind h1 (Ev.bind hr ?_)
  rw [hm] at h2
  simp only [if_neg (show ¬ r < 0 by omega)]
  exact h2
end
end Go.Proofs.Ytfhkkbpkajfdlaa.P
end
section
namespace Go.Proofs.Ytfhkkbpkajfdlaa.Q
open Go.RowKit Go.Proofs.YtfhkkbpkajfdlaaW.PrintWords Go.Proofs.YtfhkkbpkajfdlaaW.PrintLast Go.Proofs.YtfhkkbpkajfdlaaW.PrintMore
def ebbtideref07_Steps.l0 : Nat → List Int → List (S115) → Int → Int → Bool → List (S54) → Option ((List (S115)))
 | 0, _, _, _, _, _, _ => none
 | k + 1, x1, x5, x6, x519000, x519001, x519002 => if x6 < (x1.length : Int) then (if 0 ≤ x6 then (if x6 < (x519002.length : Int) then (if ((rd_T54 x519002 x6).f2) > (rd x1 x6) then (if x5.length < 8796093022208 then ((some (x5 ++ [(⟨x6, false⟩ : S115)] : List (S115))).bind fun y521 => (if (rd x1 x6) > 0 then (if y521.length < 8796093022208 then (ebbtideref07_Steps.l0 k x1 (y521 ++ [(⟨x6, true⟩ : S115)]) (wrap64 (x6 + 1)) x519000 x519001 x519002) else (none)) else (ebbtideref07_Steps.l0 k x1 y521 (wrap64 (x6 + 1)) x519000 x519001 x519002))) else (none)) else (if (rd x1 x6) > 0 then (if x5.length < 8796093022208 then (ebbtideref07_Steps.l0 k x1 (x5 ++ [(⟨x6, true⟩ : S115)]) (wrap64 (x6 + 1)) x519000 x519001 x519002) else (none)) else (ebbtideref07_Steps.l0 k x1 x5 (wrap64 (x6 + 1)) x519000 x519001 x519002))) else (none)) else (none)) else (some x5)
def ebbtideref07_Steps.f (k : Nat) (a0_0 : Int) (a0_1 : Bool) (l0_2 : List (S54)) (l1 : List Int) : Option ((List (S115))) := ebbtideref07_Steps.l0 k l1 ([] : List (S115)) 0 a0_0 a0_1 l0_2
set_option maxHeartbeats 8000000 in
set_option maxRecDepth 100000 in
theorem ebbtideref07_Steps.calls (k : Nat) (a0_0 : Int) (a0_1 : Bool) (A0_2 : Option Addr) (c0_2 : Nat) (l0_2 : List (S54)) (A1 : Option Addr) (c1 : Nat) (l1 : List Int) (r : List (S115)) (w : World) (hr0_2 : Kd.C k54 w A0_2 l0_2.length l0_2) (hc0_2 : l0_2.length ≤ c0_2) (hr1 : Kd.C (Kd.int .i64) w A1 l1.length l1) (hc1 : l1.length ≤ c1) (h : ebbtideref07_Steps.f k a0_0 a0_1 l0_2 l1 = some r) :
  Calls Try.prog 44 #[.agg #[.int .i64 a0_0, .bool a0_1, .slice A0_2 l0_2.length c0_2], .slice A1 l1.length c1] w fun e w' => ∃ v0_ : Value, e = .returned (v0_) ∧ Kd.R k115 115 w' w.heap.size (fun _ => True) v0_ r ∧ Below w.heap.size w w' := by
 have hu24 := Try.underlying24; have hu115 := Try.underlying115; have HR0_2 := am_ hr0_2; have HC0_2 := am_ hc0_2; clear hr0_2 hc0_2; have HR1 := am_ hr1; have HC1 := am_ hc1; clear hr1 hc1; have HB := am_ (Below.refl w.heap.size w); have H : (ebbtideref07_Steps.l0 k l1 ([] : List (S115)) 0 a0_0 a0_1 l0_2) = some r := h; clear h; have H' := am_ H; clear H
 go_enter Try.func44, Try.ntmps44
 go_wp2_with (first | ((with_reducible refine gate_dst (N := 2) rfl ?_); refine bx_ 2 #[.int .i64 a0_0, .bool a0_1, .slice A0_2 l0_2.length c0_2] 24 ?_; intro gb518 hg w3 BK518 hb; have GE518 := ge_ (w := w) hg; replace HB := hst_ hb; clear hb hg))
 repeat (go_quiet (first | ((with_reducible refine gate_dst (N := 2) rfl ?_); refine bx_ 2 #[.int .i64 a0_0, .bool a0_1, .slice A0_2 l0_2.length c0_2] 24 ?_; intro gb518 hg w3 BK518 hb; have GE518 := ge_ (w := w) hg; replace HB := hst_ hb; clear hb hg)); try go_wp2_with (first | ((with_reducible refine gate_dst (N := 2) rfl ?_); refine bx_ 2 #[.int .i64 a0_0, .bool a0_1, .slice A0_2 l0_2.length c0_2] 24 ?_; intro gb518 hg w3 BK518 hb; have GE518 := ge_ (w := w) hg; replace HB := hst_ hb; clear hb hg)))
 go_loopg [5, 6] k (fun kq v5 v6 w' => ∃ (x5_1 : List (S115)) (x6_1 : Int), v6 = .int .i64 x6_1 ∧ Aside0 (ebbtideref07_Steps.l0 kq l1 x5_1 x6_1 a0_0 a0_1 l0_2 = some r) ∧ Aside0 (kq ≤ k) ∧ Aside0 (Kd.R k115 115 w' w.heap.size (fun _ => True) v5 x5_1) ∧ Aside0 (w'.heap[gb518]? = some (.cells #[.int .i64 a0_0, .bool a0_1, (.slice A0_2 l0_2.length c0_2)] 24 (0, 0))) ∧ Aside0 (Below w.heap.size w w'))
 case atStart => exact ⟨(([] : List (S115))), (0), rs_, H', ⟨Nat.le_refl _⟩, ⟨ni_⟩, ⟨bq_ BK518.out⟩, ⟨hb_⟩⟩
 case round =>
  clear H'
  try clear c1
  try clear p2
  obtain ⟨x5_1, x6_1, rfl, HA, HK1, HO_5, BK518, HB⟩ := hrel
  cases gk with
  | zero => exact absurd HA.out (by simp [ebbtideref07_Steps.l0])
  | succ k1 =>
   have H := HA.out; clear HA; simp only [ebbtideref07_Steps.l0] at H
   by_cases c4 : x6_1 < (l1.length : Int)
   ·rw [if_pos c4] at H
    have c4b0 := decide_eq_true c4; clear c4
    replace H := ifn_ H; obtain ⟨c5, H⟩ := H
    have c5b0 := decide_eq_true c5; clear c5
    replace H := ifn_ H; obtain ⟨c6, H⟩ := H
    have c6b0 := decide_eq_true c6; clear c6
    by_cases c7 : ((rd_T54 l0_2 x6_1).f2) > (rd l1 x6_1)
    ·rw [if_pos c7] at H
     have c7b0 := decide_eq_true c7; clear c7
     replace H := ifn_ H; obtain ⟨c8, H⟩ := H
     have LMc8 := am_ c8; clear c8; obtain ⟨y521, hy_⟩ : ∃ y_ : List (S115), y_ = (x5_1 ++ [(⟨x6_1, false⟩ : S115)]) := ⟨_, rfl⟩
     replace H : (if (rd l1 x6_1) > 0 then (if y521.length < 8796093022208 then (ebbtideref07_Steps.l0 k1 l1 (y521 ++ [(⟨x6_1, true⟩ : S115)]) (wrap64 (x6_1 + 1)) a0_0 a0_1 l0_2) else (none)) else (ebbtideref07_Steps.l0 k1 l1 y521 (wrap64 (x6_1 + 1)) a0_0 a0_1 l0_2)) = some r := hyH_
     have Ny521 := am_ hy_; clear hy_
     by_cases c9 : (rd l1 x6_1) > 0
     ·rw [if_pos c9] at H
      have c9b0 := decide_eq_true c9; clear c9
      replace H := ifn_ H; obtain ⟨c10, H⟩ := H
      have LMc10 := am_ c10; clear c10; obtain ⟨y525, hy_⟩ : ∃ y_ : List (S115), y_ = (y521 ++ [(⟨x6_1, true⟩ : S115)]) := ⟨_, rfl⟩
      replace H : (ebbtideref07_Steps.l0 k1 l1 y525 (wrap64 (x6_1 + 1)) a0_0 a0_1 l0_2) = some r := hyH_
      have Ny525 := am_ hy_; clear hy_; have H' := am_ H; clear H; obtain ⟨hcz11_0, hcz11_1, hcz11_2, hfz11_0, hfz11_1, hfz11_2⟩ := cf3_ BK518.out; have p519 := od_ (p := 0 ≤ (x6_1 : Int)); have q519 := od_ (p := x6_1 < (l0_2.length : Int)); obtain ⟨ad519, e519, hx519_0, hx519_1, hx519_2, hx519_3⟩ := tr4_ HB.out (at_T54 HR0_2.out x6_1 p519 q519); cases e519; replace p519 := eq_true p519; replace q519 := eq_true q519; have p520 := od_ (p := 0 ≤ (x6_1 : Int)); have q520 := od_ (p := x6_1 < (l1.length : Int)); obtain ⟨ad520, e520, hx520_0⟩ := tr1_ HB.out (Kd.at_int HR1.out x6_1 p520 q520); cases e520; replace p520 := eq_true p520; replace q520 := eq_true q520
      go_wp2_with (first | ((with_reducible refine gate_builtin (b := .append) (xs := #[.tmp 24, .tmp 27]) rfl ?_); at_builtin; refine Kd.R_append k115 (w0 := w) w.heap.size rfl (.tmp 24) (.tmp 27) 86 115 (.agg #[(.int .i64 0), (.bool false)]) 16 rfl Try.underlying86 info115 rfl (by decide) (by omega) u5 x5_1 (⟨x6_1, false⟩ : S115) [.int .i64 x6_1, .bool false] (fun _ => True) (fun _ => False) rfl rfl ?aP (fun _ hk => hk.elim) ?aF ?aO ?aB ?aS ?aL ?_; (case aP => exact k115_mkM _ _ _ (⟨x6_1, false⟩ : S115)); (case aB => exact hb_); (case aF => exact (fun _ _ => trivial)); (case aO => exact (rq_ HO_5.out)); (case aS => exact (below_size hb_)); (case aL => have := LMc8.out; omega); intro v522 w12 ho hb hg hat; rw [← Ny521.out] at ho; replace BK518 := am_ (bg_ BK518.out hg (Kd.R_ne HO_5.out BK518.out (by decide))); replace HB := am_ (hb); have HO523 := am_ (ho); clear HO_5; clear ho hb hg hat; have p524 : 0 ≤ (x6_1 : Int) := of_decide_eq_true sm_; have q524 : x6_1 < (l1.length : Int) := of_decide_eq_true sm_; obtain ⟨ad524, e524, hx524_0⟩ := Kd.at_int HR1.out x6_1 p524 q524; obtain rfl : ad520 = ad524 := (by injection e524); replace hx524_0 := (HB.out.cell (World.block_lt_of_cell? w _ hx524_0)).trans hx524_0; replace p524 := eq_true p524; replace q524 := eq_true q524) | ((with_reducible refine gate_builtin (b := .append) (xs := #[.tmp 34, .tmp 37]) rfl ?_); at_builtin; refine Kd.R_append k115 (w0 := w) w.heap.size rfl (.tmp 34) (.tmp 37) 86 115 (.agg #[(.int .i64 0), (.bool false)]) 16 rfl Try.underlying86 info115 rfl (by decide) (by omega) v522 y521 (⟨x6_1, true⟩ : S115) [.int .i64 x6_1, .bool true] (fun _ => True) (fun _ => False) rfl rfl ?aP (fun _ hk => hk.elim) ?aF ?aO ?aB ?aS ?aL ?_; (case aP => exact k115_mkM _ _ _ (⟨x6_1, true⟩ : S115)); (case aB => exact hb_); (case aF => exact (fun _ _ => trivial)); (case aO => exact (rq_ HO523.out)); (case aS => exact (below_size hb_)); (case aL => have := LMc10.out; omega); intro v526 w13 ho hb hg hat; rw [← Ny525.out] at ho; replace BK518 := am_ (bg_ BK518.out hg (Kd.R_ne HO523.out BK518.out (by decide))); replace HB := am_ (hb); have HO527 := am_ (ho); clear HO523; clear ho hb hg hat))
      repeat (go_quiet (first | ((with_reducible refine gate_builtin (b := .append) (xs := #[.tmp 24, .tmp 27]) rfl ?_); at_builtin; refine Kd.R_append k115 (w0 := w) w.heap.size rfl (.tmp 24) (.tmp 27) 86 115 (.agg #[(.int .i64 0), (.bool false)]) 16 rfl Try.underlying86 info115 rfl (by decide) (by omega) u5 x5_1 (⟨x6_1, false⟩ : S115) [.int .i64 x6_1, .bool false] (fun _ => True) (fun _ => False) rfl rfl ?aP (fun _ hk => hk.elim) ?aF ?aO ?aB ?aS ?aL ?_; (case aP => exact k115_mkM _ _ _ (⟨x6_1, false⟩ : S115)); (case aB => exact hb_); (case aF => exact (fun _ _ => trivial)); (case aO => exact (rq_ HO_5.out)); (case aS => exact (below_size hb_)); (case aL => have := LMc8.out; omega); intro v522 w12 ho hb hg hat; rw [← Ny521.out] at ho; replace BK518 := am_ (bg_ BK518.out hg (Kd.R_ne HO_5.out BK518.out (by decide))); replace HB := am_ (hb); have HO523 := am_ (ho); clear HO_5; clear ho hb hg hat; have p524 : 0 ≤ (x6_1 : Int) := of_decide_eq_true sm_; have q524 : x6_1 < (l1.length : Int) := of_decide_eq_true sm_; obtain ⟨ad524, e524, hx524_0⟩ := Kd.at_int HR1.out x6_1 p524 q524; obtain rfl : ad520 = ad524 := (by injection e524); replace hx524_0 := (HB.out.cell (World.block_lt_of_cell? w _ hx524_0)).trans hx524_0; replace p524 := eq_true p524; replace q524 := eq_true q524) | ((with_reducible refine gate_builtin (b := .append) (xs := #[.tmp 34, .tmp 37]) rfl ?_); at_builtin; refine Kd.R_append k115 (w0 := w) w.heap.size rfl (.tmp 34) (.tmp 37) 86 115 (.agg #[(.int .i64 0), (.bool false)]) 16 rfl Try.underlying86 info115 rfl (by decide) (by omega) v522 y521 (⟨x6_1, true⟩ : S115) [.int .i64 x6_1, .bool true] (fun _ => True) (fun _ => False) rfl rfl ?aP (fun _ hk => hk.elim) ?aF ?aO ?aB ?aS ?aL ?_; (case aP => exact k115_mkM _ _ _ (⟨x6_1, true⟩ : S115)); (case aB => exact hb_); (case aF => exact (fun _ _ => trivial)); (case aO => exact (rq_ HO523.out)); (case aS => exact (below_size hb_)); (case aL => have := LMc10.out; omega); intro v526 w13 ho hb hg hat; rw [← Ny525.out] at ho; replace BK518 := am_ (bg_ BK518.out hg (Kd.R_ne HO523.out BK518.out (by decide))); replace HB := am_ (hb); have HO527 := am_ (ho); clear HO523; clear ho hb hg hat)); try go_wp2_with (first | ((with_reducible refine gate_builtin (b := .append) (xs := #[.tmp 24, .tmp 27]) rfl ?_); at_builtin; refine Kd.R_append k115 (w0 := w) w.heap.size rfl (.tmp 24) (.tmp 27) 86 115 (.agg #[(.int .i64 0), (.bool false)]) 16 rfl Try.underlying86 info115 rfl (by decide) (by omega) u5 x5_1 (⟨x6_1, false⟩ : S115) [.int .i64 x6_1, .bool false] (fun _ => True) (fun _ => False) rfl rfl ?aP (fun _ hk => hk.elim) ?aF ?aO ?aB ?aS ?aL ?_; (case aP => exact k115_mkM _ _ _ (⟨x6_1, false⟩ : S115)); (case aB => exact hb_); (case aF => exact (fun _ _ => trivial)); (case aO => exact (rq_ HO_5.out)); (case aS => exact (below_size hb_)); (case aL => have := LMc8.out; omega); intro v522 w12 ho hb hg hat; rw [← Ny521.out] at ho; replace BK518 := am_ (bg_ BK518.out hg (Kd.R_ne HO_5.out BK518.out (by decide))); replace HB := am_ (hb); have HO523 := am_ (ho); clear HO_5; clear ho hb hg hat; have p524 : 0 ≤ (x6_1 : Int) := of_decide_eq_true sm_; have q524 : x6_1 < (l1.length : Int) := of_decide_eq_true sm_; obtain ⟨ad524, e524, hx524_0⟩ := Kd.at_int HR1.out x6_1 p524 q524; obtain rfl : ad520 = ad524 := (by injection e524); replace hx524_0 := (HB.out.cell (World.block_lt_of_cell? w _ hx524_0)).trans hx524_0; replace p524 := eq_true p524; replace q524 := eq_true q524) | ((with_reducible refine gate_builtin (b := .append) (xs := #[.tmp 34, .tmp 37]) rfl ?_); at_builtin; refine Kd.R_append k115 (w0 := w) w.heap.size rfl (.tmp 34) (.tmp 37) 86 115 (.agg #[(.int .i64 0), (.bool false)]) 16 rfl Try.underlying86 info115 rfl (by decide) (by omega) v522 y521 (⟨x6_1, true⟩ : S115) [.int .i64 x6_1, .bool true] (fun _ => True) (fun _ => False) rfl rfl ?aP (fun _ hk => hk.elim) ?aF ?aO ?aB ?aS ?aL ?_; (case aP => exact k115_mkM _ _ _ (⟨x6_1, true⟩ : S115)); (case aB => exact hb_); (case aF => exact (fun _ _ => trivial)); (case aO => exact (rq_ HO523.out)); (case aS => exact (below_size hb_)); (case aL => have := LMc10.out; omega); intro v526 w13 ho hb hg hat; rw [← Ny525.out] at ho; replace BK518 := am_ (bg_ BK518.out hg (Kd.R_ne HO523.out BK518.out (by decide))); replace HB := am_ (hb); have HO527 := am_ (ho); clear HO523; clear ho hb hg hat)))
      go_roundg k1
      case measure => have := HK1.out; omega
      case rel => exact ⟨(y525), (wrap64 (x6_1 + 1)), rs_, H', ⟨by have := HK1.out; omega⟩, ⟨rq_ HO527.out⟩, ⟨bq_ BK518.out⟩, ⟨hb_⟩⟩
     ·rw [if_neg c9] at H
      have c9b0 := decide_eq_false c9; clear c9; have H' := am_ H; clear H; obtain ⟨hcz14_0, hcz14_1, hcz14_2, hfz14_0, hfz14_1, hfz14_2⟩ := cf3_ BK518.out; have p519 := od_ (p := 0 ≤ (x6_1 : Int)); have q519 := od_ (p := x6_1 < (l0_2.length : Int)); obtain ⟨ad519, e519, hx519_0, hx519_1, hx519_2, hx519_3⟩ := tr4_ HB.out (at_T54 HR0_2.out x6_1 p519 q519); cases e519; replace p519 := eq_true p519; replace q519 := eq_true q519; have p520 := od_ (p := 0 ≤ (x6_1 : Int)); have q520 := od_ (p := x6_1 < (l1.length : Int)); obtain ⟨ad520, e520, hx520_0⟩ := tr1_ HB.out (Kd.at_int HR1.out x6_1 p520 q520); cases e520; replace p520 := eq_true p520; replace q520 := eq_true q520
      go_wp2_with (first | ((with_reducible refine gate_builtin (b := .append) (xs := #[.tmp 24, .tmp 27]) rfl ?_); at_builtin; refine Kd.R_append k115 (w0 := w) w.heap.size rfl (.tmp 24) (.tmp 27) 86 115 (.agg #[(.int .i64 0), (.bool false)]) 16 rfl Try.underlying86 info115 rfl (by decide) (by omega) u5 x5_1 (⟨x6_1, false⟩ : S115) [.int .i64 x6_1, .bool false] (fun _ => True) (fun _ => False) rfl rfl ?aP (fun _ hk => hk.elim) ?aF ?aO ?aB ?aS ?aL ?_; (case aP => exact k115_mkM _ _ _ (⟨x6_1, false⟩ : S115)); (case aB => exact hb_); (case aF => exact (fun _ _ => trivial)); (case aO => exact (rq_ HO_5.out)); (case aS => exact (below_size hb_)); (case aL => have := LMc8.out; omega); intro v522 w15 ho hb hg hat; rw [← Ny521.out] at ho; replace BK518 := am_ (bg_ BK518.out hg (Kd.R_ne HO_5.out BK518.out (by decide))); replace HB := am_ (hb); have HO523 := am_ (ho); clear HO_5; clear ho hb hg hat; have p524 : 0 ≤ (x6_1 : Int) := of_decide_eq_true sm_; have q524 : x6_1 < (l1.length : Int) := of_decide_eq_true sm_; obtain ⟨ad524, e524, hx524_0⟩ := Kd.at_int HR1.out x6_1 p524 q524; obtain rfl : ad520 = ad524 := (by injection e524); replace hx524_0 := (HB.out.cell (World.block_lt_of_cell? w _ hx524_0)).trans hx524_0; replace p524 := eq_true p524; replace q524 := eq_true q524))
      repeat (go_quiet (first | ((with_reducible refine gate_builtin (b := .append) (xs := #[.tmp 24, .tmp 27]) rfl ?_); at_builtin; refine Kd.R_append k115 (w0 := w) w.heap.size rfl (.tmp 24) (.tmp 27) 86 115 (.agg #[(.int .i64 0), (.bool false)]) 16 rfl Try.underlying86 info115 rfl (by decide) (by omega) u5 x5_1 (⟨x6_1, false⟩ : S115) [.int .i64 x6_1, .bool false] (fun _ => True) (fun _ => False) rfl rfl ?aP (fun _ hk => hk.elim) ?aF ?aO ?aB ?aS ?aL ?_; (case aP => exact k115_mkM _ _ _ (⟨x6_1, false⟩ : S115)); (case aB => exact hb_); (case aF => exact (fun _ _ => trivial)); (case aO => exact (rq_ HO_5.out)); (case aS => exact (below_size hb_)); (case aL => have := LMc8.out; omega); intro v522 w15 ho hb hg hat; rw [← Ny521.out] at ho; replace BK518 := am_ (bg_ BK518.out hg (Kd.R_ne HO_5.out BK518.out (by decide))); replace HB := am_ (hb); have HO523 := am_ (ho); clear HO_5; clear ho hb hg hat; have p524 : 0 ≤ (x6_1 : Int) := of_decide_eq_true sm_; have q524 : x6_1 < (l1.length : Int) := of_decide_eq_true sm_; obtain ⟨ad524, e524, hx524_0⟩ := Kd.at_int HR1.out x6_1 p524 q524; obtain rfl : ad520 = ad524 := (by injection e524); replace hx524_0 := (HB.out.cell (World.block_lt_of_cell? w _ hx524_0)).trans hx524_0; replace p524 := eq_true p524; replace q524 := eq_true q524)); try go_wp2_with (first | ((with_reducible refine gate_builtin (b := .append) (xs := #[.tmp 24, .tmp 27]) rfl ?_); at_builtin; refine Kd.R_append k115 (w0 := w) w.heap.size rfl (.tmp 24) (.tmp 27) 86 115 (.agg #[(.int .i64 0), (.bool false)]) 16 rfl Try.underlying86 info115 rfl (by decide) (by omega) u5 x5_1 (⟨x6_1, false⟩ : S115) [.int .i64 x6_1, .bool false] (fun _ => True) (fun _ => False) rfl rfl ?aP (fun _ hk => hk.elim) ?aF ?aO ?aB ?aS ?aL ?_; (case aP => exact k115_mkM _ _ _ (⟨x6_1, false⟩ : S115)); (case aB => exact hb_); (case aF => exact (fun _ _ => trivial)); (case aO => exact (rq_ HO_5.out)); (case aS => exact (below_size hb_)); (case aL => have := LMc8.out; omega); intro v522 w15 ho hb hg hat; rw [← Ny521.out] at ho; replace BK518 := am_ (bg_ BK518.out hg (Kd.R_ne HO_5.out BK518.out (by decide))); replace HB := am_ (hb); have HO523 := am_ (ho); clear HO_5; clear ho hb hg hat; have p524 : 0 ≤ (x6_1 : Int) := of_decide_eq_true sm_; have q524 : x6_1 < (l1.length : Int) := of_decide_eq_true sm_; obtain ⟨ad524, e524, hx524_0⟩ := Kd.at_int HR1.out x6_1 p524 q524; obtain rfl : ad520 = ad524 := (by injection e524); replace hx524_0 := (HB.out.cell (World.block_lt_of_cell? w _ hx524_0)).trans hx524_0; replace p524 := eq_true p524; replace q524 := eq_true q524)))
      go_roundg k1
      case measure => have := HK1.out; omega
      case rel => exact ⟨(y521), (wrap64 (x6_1 + 1)), rs_, H', ⟨by have := HK1.out; omega⟩, ⟨rq_ HO523.out⟩, ⟨bq_ BK518.out⟩, ⟨hb_⟩⟩
    ·rw [if_neg c7] at H
     have c7b0 := decide_eq_false c7; clear c7
     by_cases c16 : (rd l1 x6_1) > 0
     ·rw [if_pos c16] at H
      have c16b0 := decide_eq_true c16; clear c16
      replace H := ifn_ H; obtain ⟨c17, H⟩ := H
      have LMc17 := am_ c17; clear c17; obtain ⟨y529, hy_⟩ : ∃ y_ : List (S115), y_ = (x5_1 ++ [(⟨x6_1, true⟩ : S115)]) := ⟨_, rfl⟩
      replace H : (ebbtideref07_Steps.l0 k1 l1 y529 (wrap64 (x6_1 + 1)) a0_0 a0_1 l0_2) = some r := hyH_
      have Ny529 := am_ hy_; clear hy_; have H' := am_ H; clear H; obtain ⟨hcz18_0, hcz18_1, hcz18_2, hfz18_0, hfz18_1, hfz18_2⟩ := cf3_ BK518.out; have p519 := od_ (p := 0 ≤ (x6_1 : Int)); have q519 := od_ (p := x6_1 < (l0_2.length : Int)); obtain ⟨ad519, e519, hx519_0, hx519_1, hx519_2, hx519_3⟩ := tr4_ HB.out (at_T54 HR0_2.out x6_1 p519 q519); cases e519; replace p519 := eq_true p519; replace q519 := eq_true q519; have p520 := od_ (p := 0 ≤ (x6_1 : Int)); have q520 := od_ (p := x6_1 < (l1.length : Int)); obtain ⟨ad520, e520, hx520_0⟩ := tr1_ HB.out (Kd.at_int HR1.out x6_1 p520 q520); cases e520; replace p520 := eq_true p520; replace q520 := eq_true q520; have p528 := od_ (p := 0 ≤ (x6_1 : Int)); have q528 := od_ (p := x6_1 < (l1.length : Int)); obtain ⟨ad528, e528, hx528_0⟩ := tr1_ HB.out (Kd.at_int HR1.out x6_1 p528 q528); obtain rfl : ad520 = ad528 := (by injection e528); replace p528 := eq_true p528; replace q528 := eq_true q528
      go_wp2_with (first | ((with_reducible refine gate_builtin (b := .append) (xs := #[.tmp 34, .tmp 37]) rfl ?_); at_builtin; refine Kd.R_append k115 (w0 := w) w.heap.size rfl (.tmp 34) (.tmp 37) 86 115 (.agg #[(.int .i64 0), (.bool false)]) 16 rfl Try.underlying86 info115 rfl (by decide) (by omega) u5 x5_1 (⟨x6_1, true⟩ : S115) [.int .i64 x6_1, .bool true] (fun _ => True) (fun _ => False) rfl rfl ?aP (fun _ hk => hk.elim) ?aF ?aO ?aB ?aS ?aL ?_; (case aP => exact k115_mkM _ _ _ (⟨x6_1, true⟩ : S115)); (case aB => exact hb_); (case aF => exact (fun _ _ => trivial)); (case aO => exact (rq_ HO_5.out)); (case aS => exact (below_size hb_)); (case aL => have := LMc17.out; omega); intro v530 w19 ho hb hg hat; rw [← Ny529.out] at ho; replace BK518 := am_ (bg_ BK518.out hg (Kd.R_ne HO_5.out BK518.out (by decide))); replace HB := am_ (hb); have HO531 := am_ (ho); clear HO_5; clear ho hb hg hat))
      repeat (go_quiet (first | ((with_reducible refine gate_builtin (b := .append) (xs := #[.tmp 34, .tmp 37]) rfl ?_); at_builtin; refine Kd.R_append k115 (w0 := w) w.heap.size rfl (.tmp 34) (.tmp 37) 86 115 (.agg #[(.int .i64 0), (.bool false)]) 16 rfl Try.underlying86 info115 rfl (by decide) (by omega) u5 x5_1 (⟨x6_1, true⟩ : S115) [.int .i64 x6_1, .bool true] (fun _ => True) (fun _ => False) rfl rfl ?aP (fun _ hk => hk.elim) ?aF ?aO ?aB ?aS ?aL ?_; (case aP => exact k115_mkM _ _ _ (⟨x6_1, true⟩ : S115)); (case aB => exact hb_); (case aF => exact (fun _ _ => trivial)); (case aO => exact (rq_ HO_5.out)); (case aS => exact (below_size hb_)); (case aL => have := LMc17.out; omega); intro v530 w19 ho hb hg hat; rw [← Ny529.out] at ho; replace BK518 := am_ (bg_ BK518.out hg (Kd.R_ne HO_5.out BK518.out (by decide))); replace HB := am_ (hb); have HO531 := am_ (ho); clear HO_5; clear ho hb hg hat)); try go_wp2_with (first | ((with_reducible refine gate_builtin (b := .append) (xs := #[.tmp 34, .tmp 37]) rfl ?_); at_builtin; refine Kd.R_append k115 (w0 := w) w.heap.size rfl (.tmp 34) (.tmp 37) 86 115 (.agg #[(.int .i64 0), (.bool false)]) 16 rfl Try.underlying86 info115 rfl (by decide) (by omega) u5 x5_1 (⟨x6_1, true⟩ : S115) [.int .i64 x6_1, .bool true] (fun _ => True) (fun _ => False) rfl rfl ?aP (fun _ hk => hk.elim) ?aF ?aO ?aB ?aS ?aL ?_; (case aP => exact k115_mkM _ _ _ (⟨x6_1, true⟩ : S115)); (case aB => exact hb_); (case aF => exact (fun _ _ => trivial)); (case aO => exact (rq_ HO_5.out)); (case aS => exact (below_size hb_)); (case aL => have := LMc17.out; omega); intro v530 w19 ho hb hg hat; rw [← Ny529.out] at ho; replace BK518 := am_ (bg_ BK518.out hg (Kd.R_ne HO_5.out BK518.out (by decide))); replace HB := am_ (hb); have HO531 := am_ (ho); clear HO_5; clear ho hb hg hat)))
      go_roundg k1
      case measure => have := HK1.out; omega
      case rel => exact ⟨(y529), (wrap64 (x6_1 + 1)), rs_, H', ⟨by have := HK1.out; omega⟩, ⟨rq_ HO531.out⟩, ⟨bq_ BK518.out⟩, ⟨hb_⟩⟩
     ·rw [if_neg c16] at H
      have c16b0 := decide_eq_false c16; clear c16; have H' := am_ H; clear H; obtain ⟨hcz20_0, hcz20_1, hcz20_2, hfz20_0, hfz20_1, hfz20_2⟩ := cf3_ BK518.out; have p519 := od_ (p := 0 ≤ (x6_1 : Int)); have q519 := od_ (p := x6_1 < (l0_2.length : Int)); obtain ⟨ad519, e519, hx519_0, hx519_1, hx519_2, hx519_3⟩ := tr4_ HB.out (at_T54 HR0_2.out x6_1 p519 q519); cases e519; replace p519 := eq_true p519; replace q519 := eq_true q519; have p520 := od_ (p := 0 ≤ (x6_1 : Int)); have q520 := od_ (p := x6_1 < (l1.length : Int)); obtain ⟨ad520, e520, hx520_0⟩ := tr1_ HB.out (Kd.at_int HR1.out x6_1 p520 q520); cases e520; replace p520 := eq_true p520; replace q520 := eq_true q520; have p528 := od_ (p := 0 ≤ (x6_1 : Int)); have q528 := od_ (p := x6_1 < (l1.length : Int)); obtain ⟨ad528, e528, hx528_0⟩ := tr1_ HB.out (Kd.at_int HR1.out x6_1 p528 q528); obtain rfl : ad520 = ad528 := (by injection e528); replace p528 := eq_true p528; replace q528 := eq_true q528
      go_wp2
      repeat (go_quiet (fail); try go_wp2)
      go_roundg k1
      case measure => have := HK1.out; omega
      case rel => exact ⟨(x5_1), (wrap64 (x6_1 + 1)), rs_, H', ⟨by have := HK1.out; omega⟩, ⟨rq_ HO_5.out⟩, ⟨bq_ BK518.out⟩, ⟨hb_⟩⟩
   ·rw [if_neg c4] at H
    have c4b0 := decide_eq_false c4; clear c4; obtain rfl := Option.some.inj H
    go_wp2
    repeat (go_quiet (fail); try go_wp2)
    go_ret
    exact ⟨_, er_, by refine rq_ ?_; exact HO_5.out, hb_⟩
end Go.Proofs.Ytfhkkbpkajfdlaa.Q
end
