/- A part of the proof: words, contracts, plain lemmas. Conditions: none. -/
import Derived.Test.YtlcbpaenjjeenaaZTableSlots3
import Derived.Test.YtlcbpaenjjeenaaZTableSlots12
import Derived.Test.YtlcbpaenjjeenaaZTableSlots5
import Derived.Test.YtlcbpaenjjeenaaZTableSlots8
import Derived.Test.YtlcbpaenjjeenaaZTableSlots6
import Derived.Test.YtlcbpaenjjeenaaZTableSlots11
import Derived.Test.YtlcbpaenjjeenaaZTableSlots9
import Derived.Test.YtlcbpaenjjeenaaZTableSlots10
import Derived.Test.YtlcbpaenjjeenaaRows
import Derived.Deep.Slices
import Derived.ProofKit
section
namespace Go.Proofs.Ytlcbpaenjjeenaa.P
open Go.RowKit Go.Proofs.Ytlcbpaenjjeenaa.Q Go.Proofs.YtlcbpaenjjeenaaW.PrintWords Go.Proofs.YtlcbpaenjjeenaaW.PrintLast Go.Proofs.YtlcbpaenjjeenaaW.PrintMore
theorem w64_id {n : Int} (h0 : -9223372036854775808 ≤ n) (h1 : n ≤ 9223372036854775807) : wrap64 n = n := by unfold wrap64; omega
end Go.Proofs.Ytlcbpaenjjeenaa.P
end
section
namespace Go.Proofs.Ytlcbpaenjjeenaa.P
open Go.Sort hiding rd
open Go.RowKit Go.Proofs.Ytlcbpaenjjeenaa.Q Go.Proofs.YtlcbpaenjjeenaaW.PrintWords Go.Proofs.YtlcbpaenjjeenaaW.PrintLast Go.Proofs.YtlcbpaenjjeenaaW.PrintMore
theorem w1 {i : Nat} (h : i ≤ 4611686018427387904) : wrap64 ((i : Int) + 1) = ((i + 1 : Nat) : Int) := by unfold wrap64; omega
def FitAll (l : List S56) (K : List (Int × Int)) : Prop := ∀ k ∈ K, fits (msum l k)
noncomputable instance (l : List S56) (K : List (Int × Int)) : Decidable (FitAll l K) := Classical.propDecidable _
def alt (a b : S42) : Prop := a.f0 < b.f0 ∨ a.f0 = b.f0 ∧ (a.f1 < b.f1 ∨ a.f1 = b.f1 ∧ a.f3 < b.f3)
instance (a b : S42) : Decidable (alt a b) := by unfold alt; exact inferInstance
def asum (l : List S42) (k : Int × Int × Int) : Int := sumK keyA S42.f2 l k
def AllFitA (l : List S42) : Prop := ∀ k ∈ keysOf keyA l, fits (asum l k)
noncomputable instance (l : List S42) : Decidable (AllFitA l) := Classical.propDecidable _
def FitAllA (l : List S42) (K : List (Int × Int × Int)) : Prop := ∀ k ∈ K, fits (asum l k)
noncomputable instance (l : List S42) (K : List (Int × Int × Int)) : Decidable (FitAllA l K) := Classical.propDecidable _
end Go.Proofs.Ytlcbpaenjjeenaa.P
end
section
namespace Go.Proofs.Ytlcbpaenjjeenaa.R
open Go.RowKit Go.Proofs.Ytlcbpaenjjeenaa.Q Go.Proofs.YtlcbpaenjjeenaaW.PrintWords Go.Proofs.YtlcbpaenjjeenaaW.PrintLast Go.Proofs.YtlcbpaenjjeenaaW.PrintMore
open Go.ChangeShapes Go.WideShapes Go.Deep
def Reads (t : TypeId) {α : Type} (d : Kd α) (G : Nat → α → Prop) : Prop :=
  ∀ {H : Type} (enc : TypeId × Value → H) (w : World) (base : Nat) (spare : Nat → Bool) (held : Bool) (fuel : Nat) (cs : List Value) (x : DataW H × List MemPlace),
    DataW.trod enc Try.prog w base spare held fuel t cs = some x → ∃ a, d.K w a cs ∧ ∀ N, Rows.uptoBulk x.1 ≤ N → G N a
def gInt (k : IntKind) (_ : Nat) (n : Int) : Prop := (Lit.int k n).wf = true
def gList {α : Type} (G : Nat → α → Prop) (N : Nat) (l : List α) : Prop := l.length ≤ maxLen ∧ l.length ≤ N ∧ ∀ x ∈ l, G N x
theorem readsInt {t : TypeId} {k : IntKind} (ht : Try.prog.underlying t = some (.int k)) : Reads t (Kd.int k) (gInt k) := by
  intro H enc w base spare held fuel cs x h
  obtain ⟨n, rfl, rfl, hw⟩ := DataW.trod_int ht h
  exact ⟨n, rfl, fun _ _ => hw⟩
theorem one_le {H : Type} (d : DataW H) : 1 ≤ Rows.uptoBulk d := by
  cases d with
  | lit l => cases l <;> simp [Rows.uptoBulk]
  | nil => simp [Rows.uptoBulk]
  | ptr d => simp [Rows.uptoBulk]
  | slice elems spare => simp [Rows.uptoBulk]
  | agg parts => simp [Rows.uptoBulk]
  | iface t d => simp [Rows.uptoBulk]
  | map entries => simp [Rows.uptoBulk]
  | held h => simp [Rows.uptoBulk]
theorem part_le {H : Type} {d : DataW H} {l : List (DataW H)} (h : d ∈ l) : Rows.uptoBulk d ≤ Rows.uptoBulkAll l := by
  induction l with
  | nil => cases h
  | cons x r ih =>
    simp only [Rows.uptoBulkAll]
    cases List.mem_cons.1 h with
    | inl e => subst e; omega
    | inr e => have := ih e; omega
theorem length_le {H : Type} (l : List (DataW H)) : l.length ≤ Rows.uptoBulkAll l := by
  induction l with
  | nil => simp [Rows.uptoBulkAll]
  | cons x r ih => have := one_le x; simp only [Rows.uptoBulkAll, List.length_cons]; omega
theorem readsSlice {t e : TypeId} {α : Type} [Inhabited α] {d : Kd α} {G : Nat → α → Prop} (ht : Try.prog.underlying t = some (.slice e)) (hc : Try.prog.cellsOf e = d.sz) (R : Reads e d G) : Reads t (Kd.slice e d) (gList G) := by
  intro H enc w base spare held fuel cs x h
  rcases open_slice ht h with ⟨rfl, rfl⟩ | ⟨a, len, cap, m, n, D, Pl, rfl, hb, hl, hm, hmm, rfl, hx⟩
  · exact ⟨[], ⟨none, 0, rfl, Nat.le_refl _, Kd.C_nil d w⟩, fun N _ => ⟨Nat.zero_le _, Nat.zero_le _, fun x hx => by cases hx⟩⟩
  · have hlm : len ≤ m := by rw [hmm]; split <;> omega
    obtain ⟨f, hf⟩ := choose_lt (α := α) (n := m) (p := fun i y => ∃ c, c.length = d.sz ∧ d.K w y c ∧ (∀ j u, c[j]? = some u → w.cell? (a.add (i * d.sz + j)) = some u) ∧ ∀ N, Rows.uptoBulk (D i) ≤ N → G N y) (fun i hi => by
      obtain ⟨c, h1, h2⟩ := hx i hi
      obtain ⟨y, hK, hG⟩ := R enc w base spare held n c _ h2
      obtain ⟨_, hlen, hcell⟩ := World.cells?_some h1
      rw [hc] at hlen hcell
      refine ⟨y, c, hlen, hK, fun j u hu => ?_, hG⟩
      have hj : j < d.sz := by rw [← hlen]; exact (List.getElem?_eq_some_iff.1 hu).1
      have := hcell j hj
      rw [Deep.add_add] at this
      rw [this, hu])
    have hL : ((List.range len).map f).length = len := by simp
    refine ⟨(List.range len).map f, ⟨some a, cap, by rw [hL], by rw [hL]; exact hl, ?_⟩, fun N hN => ?_⟩
    · refine ⟨rfl, by rw [hL]; exact Nat.le_trans hl (Nat.le_trans hm (by decide)), fun _ => ⟨a, rfl, fun j p hj => ?_⟩⟩
      have hjl : j < len := by
        have := (List.getElem?_eq_some_iff.1 hj).1
        rwa [hL] at this
      have hp : f j = p := by
        rw [List.getElem?_map, List.getElem?_range hjl] at hj
        exact Option.some.inj hj
      obtain ⟨c, h1, h2, h3, _⟩ := hf j (by omega)
      rw [hp] at h2
      exact ⟨c, h1, h2, h3⟩
    · have hbulk : Rows.uptoBulkAll ((List.range len).map D) ≤ N := by
        simp only [Rows.uptoBulk] at hN
        omega
      refine ⟨by rw [hL]; omega, by rw [hL]; have := length_le ((List.range len).map D); simp at this; omega, fun y hy => ?_⟩
      obtain ⟨i, hi, rfl⟩ := List.mem_map.1 hy
      have hi' := List.mem_range.1 hi
      obtain ⟨c, _, _, _, hG⟩ := hf i (by omega)
      exact hG N (Nat.le_trans (part_le (List.mem_map.2 ⟨i, hi, rfl⟩)) hbulk)
instance : Inhabited S42 := ⟨z42⟩
structure S24 where
  f0 : Int
  f1 : Int
  f2 : Int
def z24 : S24 := ⟨(0 : Int), (0 : Int), (0 : Int)⟩
instance : Inhabited S24 := ⟨z24⟩
instance : Inhabited S70 := ⟨z70⟩
def g70 (N : Nat) (x : S70) : Prop := gInt .i64 N x.f0 ∧ gInt .i64 N x.f1
set_option maxRecDepth 100000 in
theorem reads70 : Reads 70 k70 g70 := by
  intro H enc w base spare held fuel cs x h
  obtain ⟨xs, n, _, hx, hl, hlen, hf⟩ := DataW.trod_struct Try.underlying70 h
  have hl2 : cs.length = 2 := hl.trans (by kernel_rfl)
  have hlen2 : xs.length = 2 := hlen
  match xs, hlen2, cs, hl2 with
  | [y0, y1], _, [v0, v1], _ =>
    have c0 : Try.prog.cellsOf 3 = 1 := by kernel_rfl
    have e0 : DataW.trod enc Try.prog w base spare held n 3 (List.take (Try.prog.cellsOf 3) (List.drop 0 [v0, v1])) = some y0 := hf 0 _ rfl
    rw [c0] at e0
    obtain ⟨a0, K0, G0⟩ := (readsInt Try.underlying3) enc w base spare held n [v0] y0 e0
    have c1 : Try.prog.cellsOf 3 = 1 := by kernel_rfl
    have e1 : DataW.trod enc Try.prog w base spare held n 3 (List.take (Try.prog.cellsOf 3) (List.drop 1 [v0, v1])) = some y1 := hf 1 _ rfl
    rw [c1] at e1
    obtain ⟨a1, K1, G1⟩ := (readsInt Try.underlying3) enc w base spare held n [v1] y1 e1
    refine ⟨⟨a0, a1⟩, ⟨_, _, rfl, K0, K1⟩, fun N hN => ?_⟩
    rw [hx] at hN
    simp only [List.map_cons, List.map_nil, Rows.uptoBulk, Rows.uptoBulkAll] at hN
    exact ⟨G0 N (by omega), G1 N (by omega)⟩
instance : Inhabited S56 := ⟨z56⟩
end Go.Proofs.Ytlcbpaenjjeenaa.R
end
section
namespace Go.Proofs.Ytlcbpaenjjeenaa.Q
open Go.RowKit Go.Proofs.YtlcbpaenjjeenaaW.PrintWords Go.Proofs.YtlcbpaenjjeenaaW.PrintLast Go.Proofs.YtlcbpaenjjeenaaW.PrintMore
set_option linter.unusedVariables false
set_option linter.unusedSimpArgs false
theorem eqA70 (d : Nat) (w : World) (x0 y0 : Int) (x1 y1 : Int) :
  (Op.equalIn (d + 2) 70 (.agg #[.int .i64 x0, .int .i64 x1]) (.agg #[.int .i64 y0, .int .i64 y1])).run Try.prog w = .ok (x0 == y0 && (x1 == y1)) w := by
 refine eqA_of Try.underlying70 (by kernel_rfl) ?_; refine eqf_cons (by rfl) (by go_simp; rfl) (by go_simp; rfl) (by go_simp) ?_; exact eqf_last (by rfl) (by go_simp; rfl) (by go_simp; rfl) (by go_simp)
attribute [local go_sem high] eqA70
def ebbtideref03_SameSlots.l0 : Nat → List (S70) → List (S70) → Int → Option (Bool)
 | 0, _, _, _ => none
 | k + 1, x0, x1, x5 => if x5 < (x0.length : Int) then (if 0 ≤ x5 then (if x5 < (x1.length : Int) then (if (!(((rd_T70 x0 x5).f0) == ((rd_T70 x1 x5).f0)) || (!(((rd_T70 x0 x5).f1) == ((rd_T70 x1 x5).f1)))) = true then (some false) else (ebbtideref03_SameSlots.l0 k x0 x1 (wrap64 (x5 + 1)))) else (none)) else (none)) else (some true)
def ebbtideref03_SameSlots.f (k : Nat) (l0 : List (S70)) (l1 : List (S70)) : Option (Bool) := if (l0.length : Int) = (l1.length : Int) then (ebbtideref03_SameSlots.l0 k l0 l1 0) else (some false)
set_option maxHeartbeats 8000000 in
set_option maxRecDepth 100000 in
theorem ebbtideref03_SameSlots.calls (k : Nat) (A0 : Option Addr) (c0 : Nat) (l0 : List (S70)) (A1 : Option Addr) (c1 : Nat) (l1 : List (S70)) (r : Bool) (w : World) (hr0 : Kd.C k70 w A0 l0.length l0) (hc0 : l0.length ≤ c0) (hr1 : Kd.C k70 w A1 l1.length l1) (hc1 : l1.length ≤ c1) (h : ebbtideref03_SameSlots.f k l0 l1 = some r) :
  Calls Try.prog 26 #[.slice A0 l0.length c0, .slice A1 l1.length c1] w fun e w' => e = .returned (.bool r) ∧ Drawn0 w w' := by
 have hu70 := Try.underlying70; have HR0 := Aside0.mk hr0; have HC0 := Aside0.mk hc0; clear hr0 hc0; have HR1 := Aside0.mk hr1; have HC1 := Aside0.mk hc1; clear hr1 hc1; have H : (if (l0.length : Int) = (l1.length : Int) then (ebbtideref03_SameSlots.l0 k l0 l1 0) else (some false)) = some r := h; clear h
 by_cases c3 : (l0.length : Int) = (l1.length : Int)
 ·rw [if_pos c3] at H
  have c3b0 : ((l0.length : Int) == (l1.length : Int)) = true := beq_iff_eq.mpr c3; have c3b1 : ((l0.length : Int) != (l1.length : Int)) = false := bne_eq_false_iff_eq.mpr c3
  have c3b2 : (l0.length == l1.length) = true := by first | simpa using c3 | (simp at c3 ⊢; omega)
  clear c3; have H' := Aside0.mk H; clear H
  go_enter Try.func26, Try.ntmps26
  go_wp2
  repeat (go_quiet (fail); try go_wp2)
  go_loopg [5] k (fun kq v5 w' => ∃ (x5_1 : Int), v5 = .int .i64 x5_1 ∧ Aside0 (ebbtideref03_SameSlots.l0 kq l0 l1 x5_1 = some r) ∧ Aside0 (kq ≤ k) ∧ Drawn0 w w')
  case atStart => exact ⟨(0), (by first | rfl | (simp; done) | (simp [*]; done)), H', ⟨Nat.le_refl _⟩, by repeat (first | exact Drawn0.refl _ | apply Drawn0.step)⟩
  case round =>
   clear H'
   try clear c1
   try clear c2
   try clear p2
   try clear c3
   try clear c3b0
   try clear c3b1
   try clear c3b2
   obtain ⟨x5_1, rfl, HA, HK1, ⟨m1, rfl⟩⟩ := hrel
   cases gk with
   | zero => exact absurd HA.out (by simp [ebbtideref03_SameSlots.l0])
   | succ k1 =>
    have H := HA.out; clear HA; simp only [ebbtideref03_SameSlots.l0] at H
    by_cases c4 : x5_1 < (l0.length : Int)
    ·rw [if_pos c4] at H
     have c4b0 : decide (x5_1 < (l0.length : Int)) = true := decide_eq_true c4; clear c4
     by_cases c5 : 0 ≤ x5_1
     ·rw [if_pos c5] at H
      have c5b0 : decide (0 ≤ x5_1) = true := decide_eq_true c5; clear c5
      by_cases c6 : x5_1 < (l1.length : Int)
      ·rw [if_pos c6] at H
       have c6b0 : decide (x5_1 < (l1.length : Int)) = true := decide_eq_true c6; clear c6
       by_cases c7 : (!(((rd_T70 l0 x5_1).f0) == ((rd_T70 l1 x5_1).f0)) || (!(((rd_T70 l0 x5_1).f1) == ((rd_T70 l1 x5_1).f1)))) = true
       ·rw [if_pos c7] at H
        have c7b0 : (!(((rd_T70 l0 x5_1).f0) == ((rd_T70 l1 x5_1).f0)) || (!(((rd_T70 l0 x5_1).f1) == ((rd_T70 l1 x5_1).f1)))) = true := c7; clear c7; obtain rfl := Option.some.inj H; have p315 : 0 ≤ (x5_1 : Int) := of_decide_eq_true (by first | (with_reducible assumption) | assumption); have q315 : x5_1 < (l0.length : Int) := of_decide_eq_true (by first | (with_reducible assumption) | assumption); obtain ⟨ad315, e315, hx315_0, hx315_1⟩ := at_T70 HR0.out x5_1 p315 q315; cases e315; replace p315 := eq_true p315; replace q315 := eq_true q315; have p316 : 0 ≤ (x5_1 : Int) := of_decide_eq_true (by first | (with_reducible assumption) | assumption); have q316 : x5_1 < (l1.length : Int) := of_decide_eq_true (by first | (with_reducible assumption) | assumption); obtain ⟨ad316, e316, hx316_0, hx316_1⟩ := at_T70 HR1.out x5_1 p316 q316; cases e316; replace p316 := eq_true p316; replace q316 := eq_true q316
        go_wp2
        repeat (go_quiet (fail); try go_wp2)
        go_ret
        exact ⟨by first | rfl | (simp; done) | (simp [*]; done), by repeat (first | exact Drawn0.refl _ | apply Drawn0.step)⟩
       ·rw [if_neg c7] at H
        have c7b0 : (!(((rd_T70 l0 x5_1).f0) == ((rd_T70 l1 x5_1).f0)) || (!(((rd_T70 l0 x5_1).f1) == ((rd_T70 l1 x5_1).f1)))) = false := by simpa using c7
        clear c7; have H' := Aside0.mk H; clear H; have p315 : 0 ≤ (x5_1 : Int) := of_decide_eq_true (by first | (with_reducible assumption) | assumption); have q315 : x5_1 < (l0.length : Int) := of_decide_eq_true (by first | (with_reducible assumption) | assumption); obtain ⟨ad315, e315, hx315_0, hx315_1⟩ := at_T70 HR0.out x5_1 p315 q315; cases e315; replace p315 := eq_true p315; replace q315 := eq_true q315; have p316 : 0 ≤ (x5_1 : Int) := of_decide_eq_true (by first | (with_reducible assumption) | assumption); have q316 : x5_1 < (l1.length : Int) := of_decide_eq_true (by first | (with_reducible assumption) | assumption); obtain ⟨ad316, e316, hx316_0, hx316_1⟩ := at_T70 HR1.out x5_1 p316 q316; cases e316; replace p316 := eq_true p316; replace q316 := eq_true q316
        go_wp2
        repeat (go_quiet (fail); try go_wp2)
        go_roundg k1
        case measure => have := HK1.out; omega
        case rel => exact ⟨(wrap64 (x5_1 + 1)), (by first | rfl | (simp; done) | (simp [*]; done)), H', ⟨by have := HK1.out; omega⟩, by repeat (first | exact Drawn0.refl _ | apply Drawn0.step)⟩
      ·rw [if_neg c6] at H
       exact absurd H (by simp)
     ·rw [if_neg c5] at H
      exact absurd H (by simp)
    ·rw [if_neg c4] at H
     have c4b0 : decide (x5_1 < (l0.length : Int)) = false := decide_eq_false c4; clear c4; obtain rfl := Option.some.inj H
     go_wp2
     repeat (go_quiet (fail); try go_wp2)
     go_ret
     exact ⟨by first | rfl | (simp; done) | (simp [*]; done), by repeat (first | exact Drawn0.refl _ | apply Drawn0.step)⟩
 ·rw [if_neg c3] at H
  have c3b0 : ((l0.length : Int) == (l1.length : Int)) = false := beq_eq_false_iff_ne.mpr c3; have c3b1 : ((l0.length : Int) != (l1.length : Int)) = true := bne_iff_ne.mpr c3
  have c3b2 : (l0.length == l1.length) = false := by first | simpa using c3 | (simp at c3 ⊢; omega)
  obtain rfl := Option.some.inj H
  go_enter Try.func26, Try.ntmps26
  go_wp2
  repeat (go_quiet (fail); try go_wp2)
  go_ret
  exact ⟨by first | rfl | (simp; done) | (simp [*]; done), by repeat (first | exact Drawn0.refl _ | apply Drawn0.step)⟩
end Go.Proofs.Ytlcbpaenjjeenaa.Q
end
