/- A part of the proof: words, contracts, plain lemmas. Conditions: none. -/
import Derived.Test.YtdghehebkalbgaaZSmall4
import Derived.Test.YtdghehebkalbgaaZSmall14
import Derived.Test.YtdghehebkalbgaaZSmall15
import Derived.Test.YtdghehebkalbgaaZSmall16
import Derived.Test.YtdghehebkalbgaaZSmall23
import Derived.Test.YtdghehebkalbgaaZSmall24
import Derived.Test.YtdghehebkalbgaaZSmall26
import Derived.Test.YtdghehebkalbgaaRows
import Derived.Deep.Slices
import Derived.ProofKit
import Derived.OpenShut
section
namespace Go.Proofs.Ytdghehebkalbgaa.P
open Go.RowKit Go.Proofs.Ytdghehebkalbgaa.Q Go.Proofs.YtdghehebkalbgaaW.PrintWords Go.Proofs.YtdghehebkalbgaaW.PrintLast Go.Proofs.YtdghehebkalbgaaW.PrintMore
theorem awake14_at : ebbtidelaw14_awake.f 60 = some true := by decide +kernel
theorem awake14_ev : Ev (fun k => ebbtidelaw14_awake.f k) true := Ev.of (fun k => ebbtidelaw14_awake.mono k) awake14_at
theorem same_ev (l : List (List Int)) (hl : l.length ≤ 4611686018427387904) (hr : ∀ r ∈ l, r.length ≤ 4611686018427387904) : Ev (fun k => ebbtideref06_Same.f k l l) true := by
  have hloop : ∀ d i, i + d = l.length → Ev (fun k => ebbtideref06_Same.l0 k l l (i : Int)) true := by
    intro d
    induction d with
    | zero => intro i hi; exact ev_cst fun k => by rw [ebbtideref06_Same.l0, if_neg (by omega)]
    | succ d ih =>
      intro i hi
      have hlt : i < l.length := by omega
      have hg : rd_L3 l (i : Int) = l[i] := rdL_of hlt
      have hrl := hr l[i] (List.getElem_mem hlt)
      have hin : ∀ e j, j + e = l[i].length → Ev (fun k => ebbtideref06_Same.l1 k l l (i : Int) (j : Int)) true := by
        intro e
        induction e with
        | zero =>
          intro j hj
          refine Ev.step (fun k => ?_) (ih (i + 1) (by omega))
          rw [ebbtideref06_Same.l1, if_pos (by omega), if_pos (by omega), hg, if_neg (by omega), wrap1 (by omega)]
        | succ e ih2 =>
          intro j hj
          refine Ev.step (fun k => ?_) (ih2 (j + 1) (by omega))
          rw [ebbtideref06_Same.l1, if_pos (by omega), if_pos (by omega), hg, if_pos (by omega), if_pos (by omega), if_pos (by omega), if_pos (by omega), if_pos rfl, wrap1 (by omega)]
      refine Ev.step (fun k => ?_) (hin l[i].length 0 (by omega))
      rw [ebbtideref06_Same.l0, if_pos (by omega), if_pos (by omega), if_pos (by omega), if_pos rfl]
      rfl
  refine Ev.congr (fun k => ?_) (hloop l.length 0 (by omega))
  unfold ebbtideref06_Same.f
  rw [if_pos rfl]
  rfl
noncomputable def stocksR (n : Int) (arcs : List S47) (s t h : Int) (l : List S45) : List (List Int) × Int :=
  if (mergedR n arcs s t h l).2 = 0 then (SM n arcs h (mergedR n arcs s t h l).1, 0) else ([], (mergedR n arcs s t h l).2)
open Classical in
noncomputable def planR (hold : Bool) (n : Int) (arcs : List S47) (s t h : Int) (l : List S45) : Int × Int :=
  if (mergedR n arcs s t h l).2 = 0 then (if AllOk hold h s t (tH h) (tV n) (stk arcs (mergedR n arcs s t h l).1) then (stk arcs (mergedR n arcs s t h l).1 h.toNat t.toNat, 0) else (0, 141)) else (0, (mergedR n arcs s t h l).2)
structure MergedOk (n : Int) (arcs : List S47) (s t h : Int) (l M : List S45) : Prop where
  net : NetOk n arcs
  ends : 0 ≤ s ∧ s < n ∧ 0 ≤ t ∧ t < n ∧ s ≠ t
  hor : 0 ≤ h ∧ h ≤ 1024
  fit : AllFit l
  is : M = mergeL l
  may : ∀ m ∈ M, May arcs s t h m
theorem mergedR_ok {n : Int} {arcs : List S47} {s t h : Int} {l : List S45} (hz : (mergedR n arcs s t h l).2 = 0) : MergedOk n arcs s t h l (mergedR n arcs s t h l).1 := by
  unfold mergedR at *
  by_cases c : askErr n arcs s t h = 0
  · rw [if_pos c] at *
    obtain ⟨h1, h2, h3, h4, h5, h6, h7⟩ := askErr_ok.1 c
    by_cases c2 : AllFit l
    · rw [if_pos c2] at *
      by_cases c3 : AllMay arcs s t h (mergeL l)
      · rw [if_pos c3] at *
        exact ⟨h1, ⟨h2, h3, h4, h5, h6⟩, h7, c2, rfl, c3⟩
      · rw [if_neg c3] at hz; cases hz
    · rw [if_neg c2] at hz; cases hz
  · rw [if_neg c] at hz; exact absurd hz c
section
variable {n : Int} {hold : Bool} {arcs : List S47} {s t h : Int} {l : List S45} (hlen : l.length ≤ 1048576) (hl : ∀ x ∈ l, OkM x)
include hlen
theorem merged_len (hz : (mergedR n arcs s t h l).2 = 0) : (mergedR n arcs s t h l).1.length ≤ 1048576 := by
  rw [(mergedR_ok hz).is]
  exact Nat.le_trans (mergeL_length l) hlen
include hl
theorem stocksP_ev : Ev (fun k => plan_Stocks.f k n hold arcs s t h l) (stocksR n arcs s t h l) := by
  unfold plan_Stocks.f stocksR
  refine Ev.bind (merged_ev hlen hl) ?_
  by_cases c : (mergedR n arcs s t h l).2 = 0
  · have ho := mergedR_ok c
    simp only [c, if_true]
    exact Ev.bind (stocks_ev ho.net ho.hor (merged_len hlen c) ho.may) (Ev.now _)
  · simp only [c, if_false]
    exact Ev.now _
theorem stocksQ_ev : Ev (fun k => ebbtideref14_Stocks.f k n hold arcs s t h l) (stocksR n arcs s t h l) := by
  unfold ebbtideref14_Stocks.f stocksR
  refine Ev.bind (rmerged_ev hlen hl) ?_
  by_cases c : (mergedR n arcs s t h l).2 = 0
  · have ho := mergedR_ok c
    simp only [c, if_true]
    have h0 := rstocks_loop (b := hold) ho.net ho.hor (merged_len hlen c) ho.may (tH h) 0 (by omega)
    exact h0
  · simp only [c, if_false]
    exact Ev.now _
open Classical in
theorem checked_ev : Ev (fun k => plan_checked.f k n hold arcs s t h l) (if (planR hold n arcs s t h l).2 = 0 then (SM n arcs h (mergedR n arcs s t h l).1, 0) else ([], (planR hold n arcs s t h l).2)) := by
  unfold plan_checked.f
  refine Ev.bind (stocksP_ev hlen hl) ?_
  unfold stocksR planR
  by_cases c : (mergedR n arcs s t h l).2 = 0
  · have ho := mergedR_ok c
    have h1 := ho.hor
    have h2 := ho.net.lo
    have h3 := ho.net.hi
    simp only [c, if_true]
    have hord := ordinary_ev (hold := hold) (h := h) (s := s) (t := t) (H := tH h) (V := tV n) (f := stk arcs (mergedR n arcs s t h l).1) (by unfold tH; omega) (by unfold tV; omega) (by unfold tH; omega)
    refine Ev.bind hord ?_
    by_cases c2 : AllOk hold h s t (tH h) (tV n) (stk arcs (mergedR n arcs s t h l).1)
    · simp only [c2, decide_true, if_true]; exact Ev.now _
    · simp only [c2, decide_false, Bool.false_eq_true, if_false, show ¬ (141 : Int) = 0 by decide]; exact Ev.now _
  · simp only [c, if_false]
    exact Ev.now _
open Classical in
theorem checkP_ev : Ev (fun k => plan_Check.f k n hold arcs s t h l) (planR hold n arcs s t h l) := by
  unfold plan_Check.f
  refine Ev.bind (checked_ev hlen hl) ?_
  by_cases c0 : (planR hold n arcs s t h l).2 = 0
  · simp only [c0, if_true]
    have c : (mergedR n arcs s t h l).2 = 0 := by
      apply Classical.byContradiction
      intro hc
      unfold planR at c0
      rw [if_neg hc] at c0
      exact hc c0
    have ho := mergedR_ok c
    obtain ⟨hh0, hh1⟩ := ho.hor
    obtain ⟨_, _, ht0, ht1, _⟩ := ho.ends
    have hval : planR hold n arcs s t h l = (stk arcs (mergedR n arcs s t h l).1 h.toNat t.toNat, 0) := by
      unfold planR at *
      rw [if_pos c] at *
      by_cases c2 : AllOk hold h s t (tH h) (tV n) (stk arcs (mergedR n arcs s t h l).1)
      · rw [if_pos c2]
      · rw [if_neg c2] at c0; cases c0
    rw [hval]
    obtain ⟨hN, rfl⟩ := Int.eq_ofNat_of_zero_le hh0
    obtain ⟨tN, rfl⟩ := Int.eq_ofNat_of_zero_le ht0
    simp only [Int.toNat_natCast]
    generalize (mergedR n arcs s (tN : Int) (hN : Int) l).1 = M
    have g : rd_L3 (SM n arcs (hN : Int) M) (hN : Int) = row (tV n) (stk arcs M hN) := rdL_row (by unfold tH; omega)
    have g2 : rd (row (tV n) (stk arcs M hN)) (tN : Int) = stk arcs M hN tN := rd_row (by unfold tV; omega)
    have g3 : (SM n arcs (hN : Int) M).length = tH (hN : Int) := mat_length _ _ _
    have p1 : (0 : Int) ≤ (hN : Int) := Int.natCast_nonneg _
    have p2 : (hN : Int) < ((SM n arcs (hN : Int) M).length : Int) := by rw [g3]; unfold tH; omega
    have p3 : (0 : Int) ≤ (tN : Int) := Int.natCast_nonneg _
    have p4 : (tN : Int) < ((row (tV n) (stk arcs M hN)).length : Int) := by rw [row_length]; unfold tV; omega
    simp only [p1, p2, p3, g, p4, g2, if_true]
    exact Ev.now _
  · simp only [c0, if_false]
    have e : planR hold n arcs s t h l = (0, (planR hold n arcs s t h l).2) := by
      unfold planR at *
      by_cases c : (mergedR n arcs s t h l).2 = 0
      · rw [if_pos c] at *
        by_cases c2 : AllOk hold h s t (tH h) (tV n) (stk arcs (mergedR n arcs s t h l).1)
        · rw [if_pos c2] at c0; exact absurd rfl c0
        · rw [if_neg c2]
      · rw [if_neg c]
    rw [← e]
    exact Ev.now _
theorem checkQ_ev : Ev (fun k => ebbtideref14_Check.f k n hold arcs s t h l) (planR hold n arcs s t h l) := by
  unfold ebbtideref14_Check.f
  refine Ev.bind (stocksQ_ev hlen hl) ?_
  unfold stocksR planR
  by_cases c : (mergedR n arcs s t h l).2 = 0
  · have ho := mergedR_ok c
    have h1 := ho.hor
    have h2 := ho.net.lo
    have h3 := ho.net.hi
    have h4 := ho.ends
    simp only [c, if_true]
    have e : ((tV n : Nat) : Int) = n := by unfold tV; omega
    have h0 := rchk_ev (hold := hold) (h := h) (s := s) (t := t) (H := tH h) (V := tV n) (f := stk arcs (mergedR n arcs s t h l).1) (arcs := arcs) (by unfold tH; omega) (by unfold tV; omega) (by unfold tH; omega) h1.1 (by rw [e]; omega)
    rw [e] at h0
    exact h0
  · simp only [c, if_false]
    exact Ev.now _
end
end Go.Proofs.Ytdghehebkalbgaa.P
end
section
namespace Go.Proofs.Ytdghehebkalbgaa.R
open Go.RowKit Go.Proofs.Ytdghehebkalbgaa.Q Go.Proofs.YtdghehebkalbgaaW.PrintWords Go.Proofs.YtdghehebkalbgaaW.PrintLast Go.Proofs.YtdghehebkalbgaaW.PrintMore
open Go.ChangeShapes Go.WideShapes Go.Deep
def Reads (t : TypeId) {α : Type} (d : Kd α) (G : Nat → α → Prop) : Prop :=
  ∀ {H : Type} (enc : TypeId × Value → H) (w : World) (base : Nat) (spare : Nat → Bool) (held : Bool) (fuel : Nat) (cs : List Value) (x : DataW H × List MemPlace),
    DataW.trod enc Try.prog w base spare held fuel t cs = some x → ∃ a, d.K w a cs ∧ ∀ N, Rows.uptoBulk x.1 ≤ N → G N a
def gInt (k : IntKind) (_ : Nat) (n : Int) : Prop := (Lit.int k n).wf = true
def gTrue (_ : Nat) (_ : Bool) : Prop := True
def gList {α : Type} (G : Nat → α → Prop) (N : Nat) (l : List α) : Prop := l.length ≤ maxLen ∧ l.length ≤ N ∧ ∀ x ∈ l, G N x
theorem readsInt {t : TypeId} {k : IntKind} (ht : Try.prog.underlying t = some (.int k)) : Reads t (Kd.int k) (gInt k) := by
  intro H enc w base spare held fuel cs x h
  obtain ⟨n, rfl, rfl, hw⟩ := DataW.trod_int ht h
  exact ⟨n, rfl, fun _ _ => hw⟩
theorem readsBool {t : TypeId} (ht : Try.prog.underlying t = some .bool) : Reads t Kd.bool gTrue := by
  intro H enc w base spare held fuel cs x h
  obtain ⟨n, rfl, rfl⟩ := DataW.trod_bool ht h
  exact ⟨n, rfl, fun _ _ => trivial⟩
theorem one_le {H : Type} (d : DataW H) : 1 ≤ Rows.uptoBulk d := by
  cases d with
  | lit l => cases l <;> simp [Rows.uptoBulk]
  | nil => simp [Rows.uptoBulk]
  | ptr d => simp [Rows.uptoBulk]
  | slice elems spare => simp [Rows.uptoBulk]
  | agg parts => simp [Rows.uptoBulk]
  | iface t d => simp [Rows.uptoBulk]
  | map entries => simp [Rows.uptoBulk]
  | held h => simp [Rows.uptoBulk]
theorem part_le {H : Type} {d : DataW H} {l : List (DataW H)} (h : d ∈ l) : Rows.uptoBulk d ≤ Rows.uptoBulkAll l := by
  induction l with
  | nil => cases h
  | cons x r ih =>
    simp only [Rows.uptoBulkAll]
    cases List.mem_cons.1 h with
    | inl e => subst e; omega
    | inr e => have := ih e; omega
theorem length_le {H : Type} (l : List (DataW H)) : l.length ≤ Rows.uptoBulkAll l := by
  induction l with
  | nil => simp [Rows.uptoBulkAll]
  | cons x r ih => have := one_le x; simp only [Rows.uptoBulkAll, List.length_cons]; omega
theorem readsSlice {t e : TypeId} {α : Type} [Inhabited α] {d : Kd α} {G : Nat → α → Prop} (ht : Try.prog.underlying t = some (.slice e)) (hc : Try.prog.cellsOf e = d.sz) (R : Reads e d G) : Reads t (Kd.slice e d) (gList G) := by
  intro H enc w base spare held fuel cs x h
  rcases open_slice ht h with ⟨rfl, rfl⟩ | ⟨a, len, cap, m, n, D, Pl, rfl, hb, hl, hm, hmm, rfl, hx⟩
  · exact ⟨[], ⟨none, 0, rfl, Nat.le_refl _, Kd.C_nil d w⟩, fun N _ => ⟨Nat.zero_le _, Nat.zero_le _, fun x hx => by cases hx⟩⟩
  · have hlm : len ≤ m := by rw [hmm]; split <;> omega
    obtain ⟨f, hf⟩ := choose_lt (α := α) (n := m) (p := fun i y => ∃ c, c.length = d.sz ∧ d.K w y c ∧ (∀ j u, c[j]? = some u → w.cell? (a.add (i * d.sz + j)) = some u) ∧ ∀ N, Rows.uptoBulk (D i) ≤ N → G N y) (fun i hi => by
      obtain ⟨c, h1, h2⟩ := hx i hi
      obtain ⟨y, hK, hG⟩ := R enc w base spare held n c _ h2
      obtain ⟨_, hlen, hcell⟩ := World.cells?_some h1
      rw [hc] at hlen hcell
      refine ⟨y, c, hlen, hK, fun j u hu => ?_, hG⟩
      have hj : j < d.sz := by rw [← hlen]; exact (List.getElem?_eq_some_iff.1 hu).1
      have := hcell j hj
      rw [Deep.add_add] at this
      rw [this, hu])
    have hL : ((List.range len).map f).length = len := by simp
    refine ⟨(List.range len).map f, ⟨some a, cap, by rw [hL], by rw [hL]; exact hl, ?_⟩, fun N hN => ?_⟩
    · refine ⟨rfl, by rw [hL]; exact Nat.le_trans hl (Nat.le_trans hm (by decide)), fun _ => ⟨a, rfl, fun j p hj => ?_⟩⟩
      have hjl : j < len := by
        have := (List.getElem?_eq_some_iff.1 hj).1
        rwa [hL] at this
      have hp : f j = p := by
        rw [List.getElem?_map, List.getElem?_range hjl] at hj
        exact Option.some.inj hj
      obtain ⟨c, h1, h2, h3, _⟩ := hf j (by omega)
      rw [hp] at h2
      exact ⟨c, h1, h2, h3⟩
    · have hbulk : Rows.uptoBulkAll ((List.range len).map D) ≤ N := by
        simp only [Rows.uptoBulk] at hN
        omega
      refine ⟨by rw [hL]; omega, by rw [hL]; have := length_le ((List.range len).map D); simp at this; omega, fun y hy => ?_⟩
      obtain ⟨i, hi, rfl⟩ := List.mem_map.1 hy
      have hi' := List.mem_range.1 hi
      obtain ⟨c, _, _, _, hG⟩ := hf i (by omega)
      exact hG N (Nat.le_trans (part_le (List.mem_map.2 ⟨i, hi, rfl⟩)) hbulk)
instance : Inhabited S47 := ⟨z47⟩
def g47 (N : Nat) (x : S47) : Prop := gInt .i64 N x.f0 ∧ gInt .i64 N x.f1 ∧ gInt .i64 N x.f2 ∧ gInt .i64 N x.f3
set_option maxRecDepth 100000 in
theorem reads47 : Reads 47 k47 g47 := by
  intro H enc w base spare held fuel cs x h
  obtain ⟨xs, n, _, hx, hl, hlen, hf⟩ := DataW.trod_struct Try.underlying47 h
  have hl2 : cs.length = 4 := hl.trans (by kernel_rfl)
  have hlen2 : xs.length = 4 := hlen
  match xs, hlen2, cs, hl2 with
  | [y0, y1, y2, y3], _, [v0, v1, v2, v3], _ =>
    have c0 : Try.prog.cellsOf 3 = 1 := by kernel_rfl
    have e0 : DataW.trod enc Try.prog w base spare held n 3 (List.take (Try.prog.cellsOf 3) (List.drop 0 [v0, v1, v2, v3])) = some y0 := hf 0 _ rfl
    rw [c0] at e0
    obtain ⟨a0, K0, G0⟩ := (readsInt Try.underlying3) enc w base spare held n [v0] y0 e0
    have c1 : Try.prog.cellsOf 3 = 1 := by kernel_rfl
    have e1 : DataW.trod enc Try.prog w base spare held n 3 (List.take (Try.prog.cellsOf 3) (List.drop 1 [v0, v1, v2, v3])) = some y1 := hf 1 _ rfl
    rw [c1] at e1
    obtain ⟨a1, K1, G1⟩ := (readsInt Try.underlying3) enc w base spare held n [v1] y1 e1
    have c2 : Try.prog.cellsOf 3 = 1 := by kernel_rfl
    have e2 : DataW.trod enc Try.prog w base spare held n 3 (List.take (Try.prog.cellsOf 3) (List.drop 2 [v0, v1, v2, v3])) = some y2 := hf 2 _ rfl
    rw [c2] at e2
    obtain ⟨a2, K2, G2⟩ := (readsInt Try.underlying3) enc w base spare held n [v2] y2 e2
    have c3 : Try.prog.cellsOf 3 = 1 := by kernel_rfl
    have e3 : DataW.trod enc Try.prog w base spare held n 3 (List.take (Try.prog.cellsOf 3) (List.drop 3 [v0, v1, v2, v3])) = some y3 := hf 3 _ rfl
    rw [c3] at e3
    obtain ⟨a3, K3, G3⟩ := (readsInt Try.underlying3) enc w base spare held n [v3] y3 e3
    refine ⟨⟨a0, a1, a2, a3⟩, ⟨_, _, rfl, K0, ⟨_, _, rfl, K1, ⟨_, _, rfl, K2, K3⟩⟩⟩, fun N hN => ?_⟩
    rw [hx] at hN
    simp only [List.map_cons, List.map_nil, Rows.uptoBulk, Rows.uptoBulkAll] at hN
    exact ⟨G0 N (by omega), G1 N (by omega), G2 N (by omega), G3 N (by omega)⟩
structure S24 where
  f0 : Int
  f1 : Bool
  f2 : List S47
def z24 : S24 := ⟨(0 : Int), false, []⟩
def k24 : Kd S24 := Kd.iso (Kd.pair (Kd.int .i64) (Kd.pair Kd.bool (Kd.slice 47 k47))) (fun x : S24 => (x.f0, x.f1, x.f2))
instance : Inhabited S24 := ⟨z24⟩
def g24 (N : Nat) (x : S24) : Prop := gInt .i64 N x.f0 ∧ gTrue N x.f1 ∧ gList (g47) N x.f2
set_option maxRecDepth 100000 in
theorem reads24 : Reads 24 k24 g24 := by
  intro H enc w base spare held fuel cs x h
  obtain ⟨xs, n, _, hx, hl, hlen, hf⟩ := DataW.trod_struct Try.underlying24 h
  have hl2 : cs.length = 3 := hl.trans (by kernel_rfl)
  have hlen2 : xs.length = 3 := hlen
  match xs, hlen2, cs, hl2 with
  | [y0, y1, y2], _, [v0, v1, v2], _ =>
    have c0 : Try.prog.cellsOf 3 = 1 := by kernel_rfl
    have e0 : DataW.trod enc Try.prog w base spare held n 3 (List.take (Try.prog.cellsOf 3) (List.drop 0 [v0, v1, v2])) = some y0 := hf 0 _ rfl
    rw [c0] at e0
    obtain ⟨a0, K0, G0⟩ := (readsInt Try.underlying3) enc w base spare held n [v0] y0 e0
    have c1 : Try.prog.cellsOf 4 = 1 := by kernel_rfl
    have e1 : DataW.trod enc Try.prog w base spare held n 4 (List.take (Try.prog.cellsOf 4) (List.drop 1 [v0, v1, v2])) = some y1 := hf 1 _ rfl
    rw [c1] at e1
    obtain ⟨a1, K1, G1⟩ := (readsBool Try.underlying4) enc w base spare held n [v1] y1 e1
    have c2 : Try.prog.cellsOf 22 = 1 := by kernel_rfl
    have e2 : DataW.trod enc Try.prog w base spare held n 22 (List.take (Try.prog.cellsOf 22) (List.drop 2 [v0, v1, v2])) = some y2 := hf 2 _ rfl
    rw [c2] at e2
    obtain ⟨a2, K2, G2⟩ := (readsSlice Try.underlying22 (by kernel_rfl) reads47) enc w base spare held n [v2] y2 e2
    refine ⟨⟨a0, a1, a2⟩, ⟨_, _, rfl, K0, ⟨_, _, rfl, K1, K2⟩⟩, fun N hN => ?_⟩
    rw [hx] at hN
    simp only [List.map_cons, List.map_nil, Rows.uptoBulk, Rows.uptoBulkAll] at hN
    exact ⟨G0 N (by omega), G1 N (by omega), G2 N (by omega)⟩
instance : Inhabited S45 := ⟨z45⟩
instance : Inhabited S70 := ⟨z70⟩
def g70 (N : Nat) (x : S70) : Prop := gInt .u8 N x.f0 ∧ gInt .u8 N x.f1 ∧ gInt .u8 N x.f2 ∧ gInt .u8 N x.f3
set_option maxRecDepth 100000 in
theorem reads70 : Reads 70 k70 g70 := by
  intro H enc w base spare held fuel cs x h
  obtain ⟨xs, n, _, hx, hl, hlen, hf⟩ := DataW.trod_struct Try.underlying70 h
  have hl2 : cs.length = 4 := hl.trans (by kernel_rfl)
  have hlen2 : xs.length = 4 := hlen
  match xs, hlen2, cs, hl2 with
  | [y0, y1, y2, y3], _, [v0, v1, v2, v3], _ =>
    have c0 : Try.prog.cellsOf 5 = 1 := by kernel_rfl
    have e0 : DataW.trod enc Try.prog w base spare held n 5 (List.take (Try.prog.cellsOf 5) (List.drop 0 [v0, v1, v2, v3])) = some y0 := hf 0 _ rfl
    rw [c0] at e0
    obtain ⟨a0, K0, G0⟩ := (readsInt Try.underlying5) enc w base spare held n [v0] y0 e0
    have c1 : Try.prog.cellsOf 5 = 1 := by kernel_rfl
    have e1 : DataW.trod enc Try.prog w base spare held n 5 (List.take (Try.prog.cellsOf 5) (List.drop 1 [v0, v1, v2, v3])) = some y1 := hf 1 _ rfl
    rw [c1] at e1
    obtain ⟨a1, K1, G1⟩ := (readsInt Try.underlying5) enc w base spare held n [v1] y1 e1
    have c2 : Try.prog.cellsOf 5 = 1 := by kernel_rfl
    have e2 : DataW.trod enc Try.prog w base spare held n 5 (List.take (Try.prog.cellsOf 5) (List.drop 2 [v0, v1, v2, v3])) = some y2 := hf 2 _ rfl
    rw [c2] at e2
    obtain ⟨a2, K2, G2⟩ := (readsInt Try.underlying5) enc w base spare held n [v2] y2 e2
    have c3 : Try.prog.cellsOf 5 = 1 := by kernel_rfl
    have e3 : DataW.trod enc Try.prog w base spare held n 5 (List.take (Try.prog.cellsOf 5) (List.drop 3 [v0, v1, v2, v3])) = some y3 := hf 3 _ rfl
    rw [c3] at e3
    obtain ⟨a3, K3, G3⟩ := (readsInt Try.underlying5) enc w base spare held n [v3] y3 e3
    refine ⟨⟨a0, a1, a2, a3⟩, ⟨_, _, rfl, K0, ⟨_, _, rfl, K1, ⟨_, _, rfl, K2, K3⟩⟩⟩, fun N hN => ?_⟩
    rw [hx] at hN
    simp only [List.map_cons, List.map_nil, Rows.uptoBulk, Rows.uptoBulkAll] at hN
    exact ⟨G0 N (by omega), G1 N (by omega), G2 N (by omega), G3 N (by omega)⟩
structure S35 where
  f0 : Int
  f1 : Bool
  f2 : List S70
  f3 : Int
  f4 : Int
  f5 : Int
def z35 : S35 := ⟨(0 : Int), false, [], (0 : Int), (0 : Int), (0 : Int)⟩
def k35 : Kd S35 := Kd.iso (Kd.pair (Kd.int .u8) (Kd.pair Kd.bool (Kd.pair (Kd.slice 70 k70) (Kd.pair (Kd.int .u8) (Kd.pair (Kd.int .u8) (Kd.int .u8)))))) (fun x : S35 => (x.f0, x.f1, x.f2, x.f3, x.f4, x.f5))
instance : Inhabited S35 := ⟨z35⟩
def g35 (N : Nat) (x : S35) : Prop := gInt .u8 N x.f0 ∧ gTrue N x.f1 ∧ gList (g70) N x.f2 ∧ gInt .u8 N x.f3 ∧ gInt .u8 N x.f4 ∧ gInt .u8 N x.f5
set_option maxRecDepth 100000 in
theorem reads35 : Reads 35 k35 g35 := by
  intro H enc w base spare held fuel cs x h
  obtain ⟨xs, n, _, hx, hl, hlen, hf⟩ := DataW.trod_struct Try.underlying35 h
  have hl2 : cs.length = 6 := hl.trans (by kernel_rfl)
  have hlen2 : xs.length = 6 := hlen
  match xs, hlen2, cs, hl2 with
  | [y0, y1, y2, y3, y4, y5], _, [v0, v1, v2, v3, v4, v5], _ =>
    have c0 : Try.prog.cellsOf 5 = 1 := by kernel_rfl
    have e0 : DataW.trod enc Try.prog w base spare held n 5 (List.take (Try.prog.cellsOf 5) (List.drop 0 [v0, v1, v2, v3, v4, v5])) = some y0 := hf 0 _ rfl
    rw [c0] at e0
    obtain ⟨a0, K0, G0⟩ := (readsInt Try.underlying5) enc w base spare held n [v0] y0 e0
    have c1 : Try.prog.cellsOf 4 = 1 := by kernel_rfl
    have e1 : DataW.trod enc Try.prog w base spare held n 4 (List.take (Try.prog.cellsOf 4) (List.drop 1 [v0, v1, v2, v3, v4, v5])) = some y1 := hf 1 _ rfl
    rw [c1] at e1
    obtain ⟨a1, K1, G1⟩ := (readsBool Try.underlying4) enc w base spare held n [v1] y1 e1
    have c2 : Try.prog.cellsOf 33 = 1 := by kernel_rfl
    have e2 : DataW.trod enc Try.prog w base spare held n 33 (List.take (Try.prog.cellsOf 33) (List.drop 2 [v0, v1, v2, v3, v4, v5])) = some y2 := hf 2 _ rfl
    rw [c2] at e2
    obtain ⟨a2, K2, G2⟩ := (readsSlice Try.underlying33 (by kernel_rfl) reads70) enc w base spare held n [v2] y2 e2
    have c3 : Try.prog.cellsOf 5 = 1 := by kernel_rfl
    have e3 : DataW.trod enc Try.prog w base spare held n 5 (List.take (Try.prog.cellsOf 5) (List.drop 3 [v0, v1, v2, v3, v4, v5])) = some y3 := hf 3 _ rfl
    rw [c3] at e3
    obtain ⟨a3, K3, G3⟩ := (readsInt Try.underlying5) enc w base spare held n [v3] y3 e3
    have c4 : Try.prog.cellsOf 5 = 1 := by kernel_rfl
    have e4 : DataW.trod enc Try.prog w base spare held n 5 (List.take (Try.prog.cellsOf 5) (List.drop 4 [v0, v1, v2, v3, v4, v5])) = some y4 := hf 4 _ rfl
    rw [c4] at e4
    obtain ⟨a4, K4, G4⟩ := (readsInt Try.underlying5) enc w base spare held n [v4] y4 e4
    have c5 : Try.prog.cellsOf 5 = 1 := by kernel_rfl
    have e5 : DataW.trod enc Try.prog w base spare held n 5 (List.take (Try.prog.cellsOf 5) (List.drop 5 [v0, v1, v2, v3, v4, v5])) = some y5 := hf 5 _ rfl
    rw [c5] at e5
    obtain ⟨a5, K5, G5⟩ := (readsInt Try.underlying5) enc w base spare held n [v5] y5 e5
    refine ⟨⟨a0, a1, a2, a3, a4, a5⟩, ⟨_, _, rfl, K0, ⟨_, _, rfl, K1, ⟨_, _, rfl, K2, ⟨_, _, rfl, K3, ⟨_, _, rfl, K4, K5⟩⟩⟩⟩⟩, fun N hN => ?_⟩
    rw [hx] at hN
    simp only [List.map_cons, List.map_nil, Rows.uptoBulk, Rows.uptoBulkAll] at hN
    exact ⟨G0 N (by omega), G1 N (by omega), G2 N (by omega), G3 N (by omega), G4 N (by omega), G5 N (by omega)⟩
instance : Inhabited S63 := ⟨z63⟩
def g63 (N : Nat) (x : S63) : Prop := gInt .u8 N x.f0 ∧ gInt .u8 N x.f1 ∧ gInt .u8 N x.f2
set_option maxRecDepth 100000 in
theorem reads63 : Reads 63 k63 g63 := by
  intro H enc w base spare held fuel cs x h
  obtain ⟨xs, n, _, hx, hl, hlen, hf⟩ := DataW.trod_struct Try.underlying63 h
  have hl2 : cs.length = 3 := hl.trans (by kernel_rfl)
  have hlen2 : xs.length = 3 := hlen
  match xs, hlen2, cs, hl2 with
  | [y0, y1, y2], _, [v0, v1, v2], _ =>
    have c0 : Try.prog.cellsOf 5 = 1 := by kernel_rfl
    have e0 : DataW.trod enc Try.prog w base spare held n 5 (List.take (Try.prog.cellsOf 5) (List.drop 0 [v0, v1, v2])) = some y0 := hf 0 _ rfl
    rw [c0] at e0
    obtain ⟨a0, K0, G0⟩ := (readsInt Try.underlying5) enc w base spare held n [v0] y0 e0
    have c1 : Try.prog.cellsOf 5 = 1 := by kernel_rfl
    have e1 : DataW.trod enc Try.prog w base spare held n 5 (List.take (Try.prog.cellsOf 5) (List.drop 1 [v0, v1, v2])) = some y1 := hf 1 _ rfl
    rw [c1] at e1
    obtain ⟨a1, K1, G1⟩ := (readsInt Try.underlying5) enc w base spare held n [v1] y1 e1
    have c2 : Try.prog.cellsOf 5 = 1 := by kernel_rfl
    have e2 : DataW.trod enc Try.prog w base spare held n 5 (List.take (Try.prog.cellsOf 5) (List.drop 2 [v0, v1, v2])) = some y2 := hf 2 _ rfl
    rw [c2] at e2
    obtain ⟨a2, K2, G2⟩ := (readsInt Try.underlying5) enc w base spare held n [v2] y2 e2
    refine ⟨⟨a0, a1, a2⟩, ⟨_, _, rfl, K0, ⟨_, _, rfl, K1, K2⟩⟩, fun N hN => ?_⟩
    rw [hx] at hN
    simp only [List.map_cons, List.map_nil, Rows.uptoBulk, Rows.uptoBulkAll] at hN
    exact ⟨G0 N (by omega), G1 N (by omega), G2 N (by omega)⟩
structure S38 where
  f0 : S35
  f1 : List S63
def z38 : S38 := ⟨z35, []⟩
def k38 : Kd S38 := Kd.iso (Kd.pair k35 (Kd.slice 63 k63)) (fun x : S38 => (x.f0, x.f1))
instance : Inhabited S38 := ⟨z38⟩
def g38 (N : Nat) (x : S38) : Prop := g35 N x.f0 ∧ gList (g63) N x.f1
set_option maxRecDepth 100000 in
theorem reads38 : Reads 38 k38 g38 := by
  intro H enc w base spare held fuel cs x h
  obtain ⟨xs, n, _, hx, hl, hlen, hf⟩ := DataW.trod_struct Try.underlying38 h
  have hl2 : cs.length = 7 := hl.trans (by kernel_rfl)
  have hlen2 : xs.length = 2 := hlen
  match xs, hlen2, cs, hl2 with
  | [y0, y1], _, [v0, v1, v2, v3, v4, v5, v6], _ =>
    have c0 : Try.prog.cellsOf 35 = 6 := by kernel_rfl
    have e0 : DataW.trod enc Try.prog w base spare held n 35 (List.take (Try.prog.cellsOf 35) (List.drop 0 [v0, v1, v2, v3, v4, v5, v6])) = some y0 := hf 0 _ rfl
    rw [c0] at e0
    obtain ⟨a0, K0, G0⟩ := reads35 enc w base spare held n [v0, v1, v2, v3, v4, v5] y0 e0
    have c1 : Try.prog.cellsOf 36 = 1 := by kernel_rfl
    have e1 : DataW.trod enc Try.prog w base spare held n 36 (List.take (Try.prog.cellsOf 36) (List.drop 6 [v0, v1, v2, v3, v4, v5, v6])) = some y1 := hf 1 _ rfl
    rw [c1] at e1
    obtain ⟨a1, K1, G1⟩ := (readsSlice Try.underlying36 (by kernel_rfl) reads63) enc w base spare held n [v6] y1 e1
    refine ⟨⟨a0, a1⟩, ⟨_, _, rfl, K0, K1⟩, fun N hN => ?_⟩
    rw [hx] at hN
    simp only [List.map_cons, List.map_nil, Rows.uptoBulk, Rows.uptoBulkAll] at hN
    exact ⟨G0 N (by omega), G1 N (by omega)⟩
end Go.Proofs.Ytdghehebkalbgaa.R
end
section
namespace Go.Proofs.Ytdghehebkalbgaa.P
open Go.RowKit Go.Proofs.Ytdghehebkalbgaa.Q Go.Proofs.YtdghehebkalbgaaW.PrintWords Go.Proofs.YtdghehebkalbgaaW.PrintLast Go.Proofs.YtdghehebkalbgaaW.PrintMore
open Go.Proofs.Ytdghehebkalbgaa.R
theorem SM_small {n : Int} {arcs : List S47} {s t h : Int} {l : List S45} : (stocksR n arcs s t h l).1.length ≤ 4611686018427387904 ∧ ∀ r ∈ (stocksR n arcs s t h l).1, r.length ≤ 4611686018427387904 := by
  unfold stocksR
  by_cases c : (mergedR n arcs s t h l).2 = 0
  · have ho := mergedR_ok c
    have h1 := ho.hor
    have h2 := ho.net.hi
    rw [if_pos c]
    refine ⟨by show (SM n arcs h _).length ≤ _; unfold SM; rw [mat_length]; unfold tH; omega, fun r hr => ?_⟩
    have hr' : r ∈ SM n arcs h (mergedR n arcs s t h l).1 := hr
    unfold SM mat row at hr'
    obtain ⟨a, _, rfl⟩ := List.mem_map.1 hr'
    rw [List.length_map, List.length_range]
    unfold tV
    omega
  · rw [if_neg c]
    exact ⟨Nat.zero_le _, fun r hr => by cases hr⟩
end Go.Proofs.Ytdghehebkalbgaa.P
end
