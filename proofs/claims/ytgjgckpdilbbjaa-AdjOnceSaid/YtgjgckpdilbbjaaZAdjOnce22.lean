/- A part of the proof: words, contracts, plain lemmas. Conditions: none. -/
import Derived.Test.YtgjgckpdilbbjaaZAdjOnce20
import Derived.Test.YtgjgckpdilbbjaaZAdjOnce21
import Derived.Test.YtgjgckpdilbbjaaRows
import Derived.WalkKit
import Derived.ProofKit
import Derived.OpenShut
import Derived.ShutString
import Derived.ChangeOld
import Derived.Below
import Derived.SizedLaws
section
namespace Go.Proofs.Ytgjgckpdilbbjaa.R
open Go.RowKit Go.Proofs.Ytgjgckpdilbbjaa.Q Go.Proofs.YtgjgckpdilbbjaaW.PrintWords Go.Proofs.YtgjgckpdilbbjaaW.PrintLast Go.Proofs.YtgjgckpdilbbjaaW.PrintMore
def AdjOnce.Pure : Prop := ∀ N0 : Nat, ∀ (x0 : S24), g24 N0 x0 → ∃ k, ebbtidelaw06_AdjOnce.f k x0.f0 x0.f1 x0.f2 = some true
end Go.Proofs.Ytgjgckpdilbbjaa.R
end
section
namespace Go.Proofs.Ytgjgckpdilbbjaa.Pure
set_option linter.unusedSimpArgs false
set_option linter.unusedVariables false
open Go.RowKit Go.Proofs.Ytgjgckpdilbbjaa.Q Go.Proofs.Ytgjgckpdilbbjaa.P Go.Proofs.YtgjgckpdilbbjaaW.PrintWords Go.Proofs.YtgjgckpdilbbjaaW.PrintLast Go.Proofs.YtgjgckpdilbbjaaW.PrintMore
open Go.Proofs.Ytgjgckpdilbbjaa.R
abbrev plc (e : S37 → Int) (l : List S37) (v : Int) : List Int := placesAt e l l.length v
theorem plc_mem {e : S37 → Int} {l : List S37} {v x : Int} : x ∈ plc e l v ↔ ∃ j : Nat, j < l.length ∧ e (rd_T37 l (j : Int)) = v ∧ x = (j : Int) := by
  unfold plc placesAt
  rw [List.mem_map]
  constructor
  · rintro ⟨j, hj, rfl⟩
    rw [List.mem_filter, List.mem_range] at hj
    exact ⟨j, hj.1, by simpa using hj.2, rfl⟩
  · rintro ⟨j, h1, h2, rfl⟩
    exact ⟨j, List.mem_filter.2 ⟨List.mem_range.2 h1, by simpa using h2⟩, rfl⟩
theorem plc_nodup (e : S37 → Int) (l : List S37) (v : Int) : (plc e l v).Nodup := by
  unfold plc placesAt
  refine List.Pairwise.map _ (fun a b h => ?_) (List.Pairwise.filter _ List.nodup_range)
  intro e; exact h (Int.ofNat_inj.1 e)
def cntAt (e : S37 → Int) (l : List S37) (v : Int) (p : Nat) : List Int := (List.range l.length).map (fun (i : Nat) => if e (rd_T37 l (i : Int)) < v ∨ (i : Int) ∈ (plc e l v).take p then (1 : Int) else 0)
theorem cntAt_length (e : S37 → Int) (l : List S37) (v : Int) (p : Nat) : (cntAt e l v p).length = l.length := by unfold cntAt; simp
theorem cntAt_get (e : S37 → Int) (l : List S37) (v : Int) (p : Nat) {i : Nat} (h : i < l.length) : rd (cntAt e l v p) (i : Int) = if e (rd_T37 l (i : Int)) < v ∨ (i : Int) ∈ (plc e l v).take p then (1 : Int) else 0 := by
  unfold rd cntAt
  rw [Int.toNat_natCast, List.getD_eq_getElem?_getD, List.getElem?_map, List.getElem?_range h]; rfl
theorem rd_get {l : List Int} {p : Nat} (h : p < l.length) : rd l (p : Int) = l[p] := by unfold rd; rw [Int.toNat_natCast, List.getD_eq_getElem?_getD, List.getElem?_eq_getElem h]; rfl
theorem cnt_step {e : S37 → Int} {l : List S37} {v : Int} {p : Nat} (h : p < (plc e l v).length) :
    ∃ j : Nat, rd (plc e l v) (p : Int) = (j : Int) ∧ j < l.length ∧ e (rd_T37 l (j : Int)) = v ∧ rd (cntAt e l v p) (j : Int) = 0 ∧ (cntAt e l v p).set j 1 = cntAt e l v (p + 1) := by
  have hm : (plc e l v)[p] ∈ plc e l v := List.getElem_mem h
  obtain ⟨j, h1, h2, h3⟩ := plc_mem.1 hm
  have hnot : (j : Int) ∉ (plc e l v).take p := by
    rw [← h3]
    have hn := plc_nodup e l v
    rw [← List.take_append_drop p (plc e l v), List.drop_eq_getElem_cons h] at hn
    intro hin
    exact (List.nodup_append.1 hn).2.2 _ hin _ List.mem_cons_self rfl
  refine ⟨j, by rw [rd_get h]; exact h3, h1, h2, by rw [cntAt_get e l v p h1, if_neg (fun c => c.elim (fun c => by omega) hnot)], ?_⟩
  apply List.ext_getElem
  · simp [cntAt]
  · intro i g1 g2
    rw [cntAt_length] at g2
    have e1 : (cntAt e l v (p + 1))[i]'(by rw [cntAt_length]; exact g2) = if e (rd_T37 l (i : Int)) < v ∨ (i : Int) ∈ (plc e l v).take (p + 1) then (1 : Int) else 0 := by simp [cntAt]
    have e2 : (cntAt e l v p)[i]'(by rw [cntAt_length]; exact g2) = if e (rd_T37 l (i : Int)) < v ∨ (i : Int) ∈ (plc e l v).take p then (1 : Int) else 0 := by simp [cntAt]
    rw [List.getElem_set, e1]
    have htk : (plc e l v).take (p + 1) = (plc e l v).take p ++ [(j : Int)] := by rw [List.take_succ_eq_append_getElem h, h3]
    by_cases c : j = i
    · subst c
      rw [if_pos rfl, if_pos (Or.inr (by rw [htk]; simp))]
    · rw [if_neg c, e2, htk]
      have : (i : Int) ∈ (plc e l v).take p ++ [(j : Int)] ↔ (i : Int) ∈ (plc e l v).take p := by
        rw [List.mem_append, List.mem_singleton]
        constructor
        · rintro (h | h)
          · exact h
          · exact absurd (Int.ofNat_inj.1 h).symm c
        · exact Or.inl
      simp only [this]
theorem cnt_next (e : S37 → Int) (l : List S37) (v : Int) : cntAt e l v (plc e l v).length = cntAt e l (v + 1) 0 := by
  unfold cntAt
  refine List.map_congr_left fun i hi => ?_
  have hi := List.mem_range.1 hi
  rw [List.take_length, List.take_zero]
  have : (e (rd_T37 l (i : Int)) < v ∨ (i : Int) ∈ plc e l v) ↔ (e (rd_T37 l (i : Int)) < v + 1 ∨ (i : Int) ∈ ([] : List Int)) := by
    constructor
    · rintro (h | h)
      · exact Or.inl (by omega)
      · obtain ⟨j, _, h2, h3⟩ := plc_mem.1 h
        rw [h3]
        exact Or.inl (by omega)
    · rintro (h | h)
      · by_cases c : e (rd_T37 l (i : Int)) < v
        · exact Or.inl c
        · exact Or.inr (plc_mem.2 ⟨i, hi, by omega, rfl⟩)
      · cases h
  simp only [this]
theorem cnt_first {e : S37 → Int} {l : List S37} (h : ∀ a ∈ l, 0 ≤ e a) : List.replicate l.length 0 = cntAt e l 0 0 := by
  apply List.ext_getElem
  · simp [cntAt]
  · intro i g1 g2
    have hi : i < l.length := by simpa using g1
    have := h _ (rdT_mem (l := l) (i := i) hi)
    simp [cntAt]
    exact this
theorem cnt_last {e : S37 → Int} {l : List S37} {n : Int} (h : ∀ a ∈ l, e a < n) {i : Nat} (hi : i < l.length) : rd (cntAt e l n 0) (i : Int) = 1 := by
  rw [cntAt_get e l n 0 hi, if_pos (Or.inl (h _ (rdT_mem hi)))]
theorem AdjOnce : AdjOnce.Pure := by
  intro N0 x0 _
  obtain ⟨n, b, l⟩ := x0
  apply Ev.rounds
  show Ev (fun k => ebbtidelaw06_AdjOnce.f k n b l) true
  unfold ebbtidelaw06_AdjOnce.f
  refine Ev.bind awake06_ev ?_
  simp only [if_true]
  refine Ev.bind (rcheck_ev n b l) ?_
  by_cases c : checkErr n l = 0
  · simp only [c, if_true]
    refine Ev.bind (out_ev n b l) (Ev.bind (in_ev n b l) ?_)
    unfold outErr
    have h := checkErr_ok.1 c
    have hn : (n.toNat : Int) = n := Int.toNat_of_nonneg (by have := h.lo; omega)
    have hl := h.len
    have hhi := h.hi
    have la : ((leav n l).length : Int) = n := by unfold leav; rw [rowsAt_length]; exact hn
    have lb : ((comi n l).length : Int) = n := by unfold comi; rw [rowsAt_length]; exact hn
    simp only [c, if_true, la, lb, bne_self_eq_false]
    have f0 : ∀ a ∈ l, 0 ≤ a.f0 := fun a ha => (h.arcs a ha).f0.1
    have f1 : ∀ a ∈ l, 0 ≤ a.f1 := fun a ha => (h.arcs a ha).f1.1
    have g0 : ∀ a ∈ l, a.f0 < n := fun a ha => (h.arcs a ha).f0.2
    have g1 : ∀ a ∈ l, a.f1 < n := fun a ha => (h.arcs a ha).f1.2
    have hlast : ∀ d i, i + d = l.length → Ev (fun k => ebbtidelaw06_AdjOnce.l3 k true (cntAt S37.f0 l n 0) (cntAt S37.f1 l n 0) (i : Int)) true := by
      intro d
      induction d with
      | zero => intro i hi; exact ev_cst fun k => by rw [ebbtidelaw06_AdjOnce.l3, if_neg (by rw [cntAt_length]; omega)]
      | succ d ih =>
        intro i hi
        refine Ev.step (fun k => ?_) (ih (i + 1) (by omega))
        rw [ebbtidelaw06_AdjOnce.l3, if_pos (by rw [cntAt_length]; omega), if_pos (by omega), if_pos (cnt_last g0 (by omega)), if_pos (by rw [cntAt_length]; omega), if_pos (cnt_last g1 (by omega)), wrap1 (by omega)]
    have hmain : ∀ d v : Nat, v + d = n.toNat → Ev (fun k => ebbtidelaw06_AdjOnce.l0 k true (leav n l) (comi n l) (cntAt S37.f0 l (v : Int) 0) (cntAt S37.f1 l (v : Int) 0) (v : Int) n b l) true := by
      intro d
      induction d with
      | zero =>
        intro v hv
        have e : (v : Int) = n := by omega
        rw [e]
        refine Ev.step (fun k => ?_) (hlast l.length 0 (by omega))
        rw [ebbtidelaw06_AdjOnce.l0, if_neg (by omega)]
        rfl
      | succ d ih =>
        intro v hv
        have ra : rd_L3 (leav n l) (v : Int) = plc S37.f0 l (v : Int) := rowsAt_rd _ _ _ _ _ (by omega) (by omega)
        have rb : rd_L3 (comi n l) (v : Int) = plc S37.f1 l (v : Int) := rowsAt_rd _ _ _ _ _ (by omega) (by omega)
        have hin : ∀ e p, p + e = (plc S37.f1 l (v : Int)).length → Ev (fun k => ebbtidelaw06_AdjOnce.l2 k true (leav n l) (comi n l) (cntAt S37.f0 l (v : Int) (plc S37.f0 l (v : Int)).length) (cntAt S37.f1 l (v : Int) p) (v : Int) (p : Int) n b l) true := by
          intro e
          have hp := placesAt_length S37.f1 l l.length (v : Int)
          induction e with
          | zero =>
            intro p hp2
            refine Ev.step (fun k => ?_) (ih (v + 1) (by omega))
            rw [ebbtidelaw06_AdjOnce.l2, if_pos (by omega), if_pos (by rw [lb]; omega), if_neg (by rw [rb]; omega), wrap1 (by omega), show p = (plc S37.f1 l (v : Int)).length by omega, cnt_next, cnt_next]
            rfl
          | succ e ihe =>
            intro p hp2
            obtain ⟨j, e1, e2, e3, e4, e5⟩ := cnt_step (e := S37.f1) (l := l) (v := (v : Int)) (p := p) (by omega)
            refine Ev.step (fun k => ?_) (ihe (p + 1) (by omega))
            rw [ebbtidelaw06_AdjOnce.l2, if_pos (by omega), if_pos (by rw [lb]; omega), if_pos (by rw [rb]; omega), if_pos (by omega), rb, e1, if_neg (by omega), if_neg (by rw [cntAt_length]; omega), if_pos (by omega), if_pos (by omega), if_pos e3, if_pos (by rw [cntAt_length]; omega), e4, Int.toNat_natCast, show wrap64 (0 + 1) = 1 by unfold wrap64; omega, e5, wrap1 (by unfold plc at hp2; omega)]
        have hout : ∀ e p, p + e = (plc S37.f0 l (v : Int)).length → Ev (fun k => ebbtidelaw06_AdjOnce.l1 k true (leav n l) (comi n l) (cntAt S37.f0 l (v : Int) p) (cntAt S37.f1 l (v : Int) 0) (v : Int) (p : Int) n b l) true := by
          intro e
          have hp := placesAt_length S37.f0 l l.length (v : Int)
          induction e with
          | zero =>
            intro p hp2
            refine Ev.step (fun k => ?_) (hin _ 0 (Nat.zero_add _))
            rw [ebbtidelaw06_AdjOnce.l1, if_pos (by omega), if_pos (by rw [la]; omega), if_neg (by rw [ra]; omega), show p = (plc S37.f0 l (v : Int)).length by omega]
            rfl
          | succ e ihe =>
            intro p hp2
            obtain ⟨j, e1, e2, e3, e4, e5⟩ := cnt_step (e := S37.f0) (l := l) (v := (v : Int)) (p := p) (by omega)
            refine Ev.step (fun k => ?_) (ihe (p + 1) (by omega))
            rw [ebbtidelaw06_AdjOnce.l1, if_pos (by omega), if_pos (by rw [la]; omega), if_pos (by rw [ra]; omega), if_pos (by omega), ra, e1, if_neg (by omega), if_neg (by rw [cntAt_length]; omega), if_pos (by omega), if_pos (by omega), if_pos e3, if_pos (by rw [cntAt_length]; omega), e4, Int.toNat_natCast, show wrap64 (0 + 1) = 1 by unfold wrap64; omega, e5, wrap1 (by unfold plc at hp2; omega)]
        refine Ev.step (fun k => ?_) (hout _ 0 (Nat.zero_add _))
        rw [ebbtidelaw06_AdjOnce.l0, if_pos (by omega)]
        rfl
    refine Ev.step (fun k => ?_) (hmain n.toNat 0 (by omega))
    rw [ebbtidelaw06_AdjOnce.j0, if_neg (by decide), if_pos (by omega), if_pos (by omega), Int.toNat_natCast]
    have x0 := cnt_first f0
    have x1 := cnt_first f1
    show ebbtidelaw06_AdjOnce.l0 k true (leav n l) (comi n l) (List.replicate l.length 0) (List.replicate l.length 0) 0 n b l = _
    rw [show ((0 : Nat) : Int) = 0 from rfl, ← x0, ← x1]
  · simp only [c, if_false]
    exact Ev.now _
end Go.Proofs.Ytgjgckpdilbbjaa.Pure
end
section
namespace Go.Proofs.Ytgjgckpdilbbjaa
open Go Go.RowKit
def ioHead : List Char := List.map Char.ofNat [104, 97, 114, 110, 101, 115, 115, 32, 50, 102, 54, 100, 99, 57, 98, 50, 54, 49, 49, 51, 56, 102, 56, 55, 99, 56, 48, 102, 57, 52, 51, 56, 102, 55, 97, 101, 98, 97, 101, 57, 54, 52, 48, 99, 51, 57, 98, 98, 100, 54, 53, 49, 48, 53, 54, 97, 56, 54, 99, 56, 52, 98, 54, 53, 53, 56, 53, 52, 100, 53, 51, 100, 32, 99, 117, 116, 32]
def ioRest : List Char := List.map Char.ofNat [97, 116, 32, 101, 98, 98, 116, 105, 100, 101, 47, 101, 98, 98, 116, 105, 100, 101, 108, 97, 119, 48, 54, 46, 65, 100, 106, 72, 111, 112, 115, 32, 101, 98, 98, 116, 105, 100, 101, 47, 101, 98, 98, 116, 105, 100, 101, 108, 97, 119, 48, 54, 46, 65, 100, 106, 79, 114, 100, 101, 114, 115, 32, 101, 98, 98, 116, 105, 100, 101, 47, 101, 98, 98, 116, 105, 100, 101, 108, 97, 119, 48, 54, 46, 65, 100, 106, 70, 97, 115, 116, 101, 115, 116, 32, 101, 98, 98, 116, 105, 100, 101, 47, 101, 98, 98, 116, 105, 100, 101, 108, 97, 119, 48, 54, 46, 65, 100, 106, 83, 116, 101, 112, 115, 32, 101, 98, 98, 116, 105, 100, 101, 47, 101, 98, 98, 116, 105, 100, 101, 108, 97, 119, 48, 54, 46, 65, 100, 106, 70, 111, 114, 119, 97, 114, 100, 32, 101, 98, 98, 116, 105, 100, 101, 47, 101, 98, 98, 116, 105, 100, 101, 108, 97, 119, 48, 54, 46, 65, 100, 106, 76, 105, 115, 116, 115, 32, 101, 98, 98, 116, 105, 100, 101, 47, 101, 98, 98, 116, 105, 100, 101, 108, 97, 119, 48, 54, 46, 65, 100, 106, 79, 110, 99, 101]
set_option maxRecDepth 100000 in
theorem io_eq : Try.pinned.checked.prog.initOrder = String.ofList (ioHead ++ ioRest) := by kernel_rfl
theorem io_toList : Try.pinned.checked.prog.initOrder.toList = ioHead ++ ioRest := by rw [io_eq]; exact String.toList_ofList
def ioCut : List Char := List.map Char.ofNat [99, 117, 116]
set_option maxRecDepth 100000 in
theorem io_words (r : List Char) : behindMainWord (wordsSigns (ioHead ++ r)) = ioCut :: wordsSigns r := by kernel_rfl
theorem io_behind : ∃ X, behindMainWord (wordsSigns Try.pinned.checked.prog.initOrder.toList) = ioCut :: X := ⟨_, by rw [io_toList]; exact io_words _⟩
theorem io_cut : ioCut = "cut".toList := by decide +kernel
theorem io_strip (X : List (List Char)) : stripLifts liftWords (ioCut :: X) = ([], ioCut :: X) := by kernel_rfl
theorem headLifts_cut (P : Program) (h : ∃ X, behindMainWord (wordsSigns P.initOrder.toList) = ioCut :: X) : P.headLifts = [] := by
  obtain ⟨X, e⟩ := h
  unfold Program.headLifts
  rw [e, io_strip]
  rfl
theorem mayEnter_cut (P : Program) (h : ∃ X, behindMainWord (wordsSigns P.initOrder.toList) = ioCut :: X) (h1 : P.laysLater = false) (h2 : P.bearsReflect = false) (h3 : P.doorFits [] = true) : P.mayEnter = true := by
  obtain ⟨X, e⟩ := h
  unfold Program.mayEnter
  rw [e]
  simp only [io_strip, h1, h2, h3]
  rw [io_cut]
  simp
theorem liftsFinal_cut (P : Program) (h : ∃ X, behindMainWord (wordsSigns P.initOrder.toList) = ioCut :: X) : P.liftsFinal = false := by
  have h0 := headLifts_cut P h
  obtain ⟨X, e⟩ := h
  unfold Program.liftsFinal
  rw [e, h0]
  rw [io_cut]
  simp
theorem make_cut (P : Program) (h : ∃ X, behindMainWord (wordsSigns P.initOrder.toList) = ioCut :: X) : P.make = some .cut := by
  obtain ⟨X, e⟩ := h
  unfold Program.make
  rw [e]
  simp only [io_cut]
  rw [if_neg (by decide +kernel), if_pos (by simp)]
theorem p_mayEnter : Try.pinned.checked.prog.mayEnter = true := mayEnter_cut _ io_behind (by kernel_rfl) (by kernel_rfl) (by kernel_rfl)
theorem p_liftsFinal : Try.pinned.checked.prog.liftsFinal = false := liftsFinal_cut _ io_behind
theorem p_make : Try.pinned.checked.prog.make = some .cut := make_cut _ io_behind
theorem p_laidOut : laidOutB Try.pinned.checked.prog = true := by kernel_rfl
theorem p_mapsRowed : mapsRowed Try.pinned.checked.prog = true := by kernel_rfl
theorem p_stopsHeard : Try.pinned.checked.prog.stopsHeard = true := by kernel_rfl
theorem p_stops : Try.pinned.checked.prog.stops = [] := by kernel_rfl
theorem p_stopKnobs : Try.pinned.checked.prog.stopKnobs = [] := by kernel_rfl
end Go.Proofs.Ytgjgckpdilbbjaa
end
section
namespace Go.Proofs.Ytgjgckpdilbbjaa.adjOnce
open Go.ChangeShapes Go.WideShapes Go.ChangeAt Go.RowKit
open Go.ChangeMaps (open_string shut_string)
open Go.Proofs.Ytgjgckpdilbbjaa.Q Go.Proofs.Ytgjgckpdilbbjaa.R Go.Proofs.YtgjgckpdilbbjaaW.PrintWords
set_option linter.unusedVariables false
theorem own : ownKnob Try.prog.godebug = none := by kernel_rfl
theorem laidOut : laidOutB Try.prog = true := by kernel_rfl
theorem open24 {w : World} {x : S24} {cs : List Value} (h : k24.K w x cs) : ∃ (A2 : Option Addr) (c2 : Nat), cs = [.int .i64 x.f0, .bool x.f1, .slice A2 x.f2.length c2] ∧ x.f2.length ≤ c2 ∧ Kd.C k37 w A2 x.f2.length x.f2 := by
  obtain ⟨_, _, rfl, rfl, ⟨_, _, rfl, rfl, ⟨A2, c2, rfl, l2, g2⟩⟩⟩ := h
  exact ⟨A2, c2, rfl, l2, g2⟩
set_option maxRecDepth 100000 in
theorem lifted (os : Os) (started : os.Started) (H : Type) (enc : TypeId × Value → H) :
    ReturnsInHanded {} Try.checked os 9 .any (Rows.adjOnceSpec.pre6 enc Try.prog Try.f9 Rows.adjOnceRow.domain false) (Rows.adjOnceSpec.post enc Try.prog Try.f9 false true false false) := by
  refine returnsInHanded_of_change_sized (C := Try.checked) own started (by kernel_rfl) Try.func9
    (ChangeSpec.witness6 (enc := enc) (C := Try.checked) false ⟨#[], #[.agg #[.int .i64 0, .bool false, .slice none 0 0]], []⟩ 8 (by kernel_rfl) (by kernel_rfl) (by kernel_rfl) (by kernel_rfl)) ?_
  intro W base args ds gs before hval0 hW hcnd hsz0 _
  have hval : ∀ (j : Nat) t v, Try.f9.params[j]? = some t → args[j]? = some v → Value.okWide Try.prog W .any base t v := hval0
  have hW' := hW
  obtain ⟨p, q, hA0, hV, rfl, hfz, hnd⟩ := hW
  have hA : DataW.TrodAll enc Try.prog W 0 (fun _ => true) true Try.f9.params.toList args.toList ds p := hA0
  rw [Try.params9] at hA hval
  obtain ⟨v0, vs0, d0, ds0, p0, q0, hargs, rfl, rfl, h0, r0⟩ := trodAll_cons hA
  obtain ⟨rfl, rfl, rfl⟩ := trodAll_nil r0
  obtain rfl : args = #[v0] := by cases args; simp_all
  obtain ⟨rfl, rfl⟩ := trodVars_none hV
  have k0 := h0
  have lt0 : ∀ x ∈ p0, x.block < W.heap.size := by obtain ⟨m, hm⟩ := k0; exact DataW.trod_lt m _ _ _ hm
  obtain ⟨fu0, hf0⟩ := h0
  obtain ⟨x0, K0, G0⟩ := reads24 enc W 0 (fun _ => true) true fu0 _ _ hf0
  obtain ⟨cs0, rfl, hsz0⟩ := okWide_struct Try.underlying24 (hval 0 24 v0 rfl rfl)
  have K0' : (k24).K W x0 cs0.toList := K0
  obtain ⟨ao0_2, co0_2, es0, hc0_2, hr0_2⟩ := open24 K0'
  obtain rfl : cs0 = _ := Array.toList_inj.1 es0
  have h := Pure.AdjOnce _ x0 (G0 _ (Nat.le_refl _))
  obtain ⟨k, h⟩ := h
  refine (ebbtidelaw06_AdjOnce.calls k x0.f0 x0.f1 _ _ x0.f2 true W hr0_2 hc0_2 h).mono fun e W' ⟨he, bel0⟩ => ?_
  have bel : Below W.heap.size W W' := bel0
  subst he
  exact ⟨_, rfl, _, _, _, [], _, [], hW', trodAll_mk1 (shut_bool Try.underlying4 _), (trodAll_cons_mk (Below.trod laidOut (by kernel_rfl) (of_decide_eq_true (by kernel_rfl)) k0 bel lt0) trodAll_mk0), rfl, bel.frame _, fun h => by cases h⟩
theorem andI {a b : Bool} (x : a = true) (y : b = true) : (a && b) = true := by rw [x, y]; rfl
set_option maxRecDepth 100000 in
set_option maxHeartbeats 8000000 in
theorem closed : joinedFacts Try.pinned.checked.prog 9 Try.f9 Rows.adjOnceSpec Rows.adjOnceRow = true := by
  unfold joinedFacts
  exact (andI (andI (andI (andI (andI (andI (andI (andI (andI (andI (andI (andI (andI (andI (andI (andI (andI (andI (andI (andI (andI (andI (andI (andI (andI (andI (andI (andI (andI (andI (andI (by as_aux_lemma => kernel_rfl)
    p_laidOut)
    p_mapsRowed)
    (by as_aux_lemma => kernel_rfl))
    (by as_aux_lemma => kernel_rfl))
    (by as_aux_lemma => kernel_rfl))
    (by rw [p_stops]; rfl))
    (by as_aux_lemma => kernel_rfl))
    (by rw [p_stopKnobs]; rfl))
    (by as_aux_lemma => kernel_rfl))
    (by as_aux_lemma => kernel_rfl))
    (by as_aux_lemma => kernel_rfl))
    (by as_aux_lemma => kernel_rfl))
    (by as_aux_lemma => kernel_rfl))
    (by as_aux_lemma => kernel_rfl))
    (by as_aux_lemma => kernel_rfl))
    (by as_aux_lemma => kernel_rfl))
    (by as_aux_lemma => kernel_rfl))
    (by as_aux_lemma => kernel_rfl))
    (by as_aux_lemma => kernel_rfl))
    (by as_aux_lemma => kernel_rfl))
    (by as_aux_lemma => kernel_rfl))
    (by as_aux_lemma => kernel_rfl))
    (by as_aux_lemma => kernel_rfl))
    p_stopsHeard)
    p_mayEnter)
    (by rw [p_liftsFinal]; rfl))
    (by rw [p_make]; rfl))
    (by as_aux_lemma => kernel_rfl))
    (by as_aux_lemma => kernel_rfl))
    (by as_aux_lemma => kernel_rfl))
    (by as_aux_lemma => kernel_rfl))
theorem proved : Rows.AdjOnceSaid :=
  OpenClaim.holds_of_wide 9 Try.f9 rfl rfl rfl rfl rfl rfl rfl ⟨rfl, rfl, rfl, rfl, rfl⟩ rfl rfl rfl rfl rfl (by kernel_rfl) Try.func9 closed
    (of_decide_eq_true (by kernel_rfl)) (by unfold Func.isWrapper; first | (rw [if_pos (by decide +kernel)]; kernel_rfl) | (rw [if_neg (by decide +kernel)]; exact ⟨rfl, rfl⟩))
    (fun os started H enc _ => lifted os started H enc)
#print axioms proved
end Go.Proofs.Ytgjgckpdilbbjaa.adjOnce
namespace Go.Proofs.Ytgjgckpdilbbjaa
theorem adjOnce_holds : Rows.AdjOnceSaid := adjOnce.proved
end Go.Proofs.Ytgjgckpdilbbjaa
end
