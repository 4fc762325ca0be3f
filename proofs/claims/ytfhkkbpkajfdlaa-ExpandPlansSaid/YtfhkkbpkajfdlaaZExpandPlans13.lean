/- A part of the proof: words, contracts, plain lemmas. Conditions: none. -/
import Derived.Test.YtfhkkbpkajfdlaaRows
import Derived.Deep.Slices
import Derived.ProofKit
import Derived.OpenShut
import Derived.Test.YtfhkkbpkajfdlaaZExpandPlans12
set_option linter.unusedSectionVars false
set_option linter.unusedSimpArgs false
set_option linter.unusedVariables false
section
namespace Go.Proofs.Ytfhkkbpkajfdlaa.R
open Go.RowKit Go.Proofs.Ytfhkkbpkajfdlaa.Q Go.Proofs.YtfhkkbpkajfdlaaW.PrintWords Go.Proofs.YtfhkkbpkajfdlaaW.PrintLast Go.Proofs.YtfhkkbpkajfdlaaW.PrintMore
open Go.ChangeShapes Go.WideShapes Go.Deep
def Reads (t : TypeId) {α : Type} (d : Kd α) (G : Nat → α → Prop) : Prop :=
 ∀ {H : Type} (enc : TypeId × Value → H) (w : World) (base : Nat) (spare : Nat → Bool) (held : Bool) (fuel : Nat) (cs : List Value) (x : DataW H × List MemPlace),
  DataW.trod enc Try.prog w base spare held fuel t cs = some x → ∃ a, d.K w a cs ∧ ∀ N, Rows.uptoBulk x.1 ≤ N → G N a
def gInt (k : IntKind) (_ : Nat) (n : Int) : Prop := (Lit.int k n).wf = true
def gTrue (_ : Nat) (_ : Bool) : Prop := True
def gList {α : Type} (G : Nat → α → Prop) (N : Nat) (l : List α) : Prop := l.length ≤ maxLen ∧ l.length ≤ N ∧ ∀ x ∈ l, G N x
theorem readsInt {t : TypeId} {k : IntKind} (ht : Try.prog.underlying t = some (.int k)) : Reads t (Kd.int k) (gInt k) := by
 intro H enc w base spare held fuel cs x h
 obtain ⟨n, rfl, rfl, hw⟩ := DataW.trod_int ht h
 exact ⟨n, rfl, fun _ _ => hw⟩
theorem readsBool {t : TypeId} (ht : Try.prog.underlying t = some .bool) : Reads t Kd.bool gTrue := by
 intro H enc w base spare held fuel cs x h
 obtain ⟨n, rfl, rfl⟩ := DataW.trod_bool ht h
 exact ⟨n, rfl, fun _ _ => trivial⟩
theorem one_le {H : Type} (d : DataW H) : 1 ≤ Rows.uptoBulk d := by
 cases d with
 | lit l => cases l <;> simp [Rows.uptoBulk]
 | nil => simp [Rows.uptoBulk]
 | ptr d => simp [Rows.uptoBulk]
 | slice elems spare => simp [Rows.uptoBulk]
 | agg parts => simp [Rows.uptoBulk]
 | iface t d => simp [Rows.uptoBulk]
 | map entries => simp [Rows.uptoBulk]
 | held h => simp [Rows.uptoBulk]
theorem part_le {H : Type} {d : DataW H} {l : List (DataW H)} (h : d ∈ l) : Rows.uptoBulk d ≤ Rows.uptoBulkAll l := by
 induction l with
 | nil => cases h
 | cons x r ih =>
  simp only [Rows.uptoBulkAll]
  cases List.mem_cons.1 h with
  | inl e => subst e; omega
  | inr e => have := ih e; omega
theorem length_le {H : Type} (l : List (DataW H)) : l.length ≤ Rows.uptoBulkAll l := by
 induction l with
 | nil => simp [Rows.uptoBulkAll]
 | cons x r ih => have := one_le x; simp only [Rows.uptoBulkAll, List.length_cons]; omega
theorem readsSlice {t e : TypeId} {α : Type} [Inhabited α] {d : Kd α} {G : Nat → α → Prop} (ht : Try.prog.underlying t = some (.slice e)) (hc : Try.prog.cellsOf e = d.sz) (R : Reads e d G) : Reads t (Kd.slice e d) (gList G) := by
 intro H enc w base spare held fuel cs x h
 rcases open_slice ht h with ⟨rfl, rfl⟩ | ⟨a, len, cap, m, n, D, Pl, rfl, hb, hl, hm, hmm, rfl, hx⟩
 ·exact ⟨[], ⟨none, 0, rfl, Nat.le_refl _, Kd.C_nil d w⟩, fun N _ => ⟨Nat.zero_le _, Nat.zero_le _, fun x hx => by cases hx⟩⟩
 ·have hlm : len ≤ m := by rw [hmm]; split <;> omega
  obtain ⟨f, hf⟩ := choose_lt (α := α) (n := m) (p := fun i y => ∃ c, c.length = d.sz ∧ d.K w y c ∧ (∀ j u, c[j]? = some u → w.cell? (a.add (i * d.sz + j)) = some u) ∧ ∀ N, Rows.uptoBulk (D i) ≤ N → G N y) (fun i hi => by
   obtain ⟨c, h1, h2⟩ := hx i hi
   obtain ⟨y, hK, hG⟩ := R enc w base spare held n c _ h2
   obtain ⟨_, hlen, hcell⟩ := World.cells?_some h1
   rw [hc] at hlen hcell
   refine ⟨y, c, hlen, hK, fun j u hu => ?_, hG⟩
   have hj : j < d.sz := by rw [← hlen]; exact (List.getElem?_eq_some_iff.1 hu).1
   have := hcell j hj
   rw [Deep.add_add] at this
   rw [this, hu])
  have hL : ((List.range len).map f).length = len := by simp
  refine ⟨(List.range len).map f, ⟨some a, cap, by rw [hL], by rw [hL]; exact hl, ?_⟩, fun N hN => ?_⟩
  ·refine ⟨rfl, by rw [hL]; exact Nat.le_trans hl (Nat.le_trans hm (by decide)), fun _ => ⟨a, rfl, fun j p hj => ?_⟩⟩
   have hjl : j < len := by
    have := (List.getElem?_eq_some_iff.1 hj).1
    rwa [hL] at this
   have hp : f j = p := by
    rw [List.getElem?_map, List.getElem?_range hjl] at hj
    exact Option.some.inj hj
   obtain ⟨c, h1, h2, h3, _⟩ := hf j (by omega)
   rw [hp] at h2
   exact ⟨c, h1, h2, h3⟩
  ·have hbulk : Rows.uptoBulkAll ((List.range len).map D) ≤ N := by
    simp only [Rows.uptoBulk] at hN
    omega
   refine ⟨by rw [hL]; omega, by rw [hL]; have := length_le ((List.range len).map D); simp at this; omega, fun y hy => ?_⟩
   obtain ⟨i, hi, rfl⟩ := List.mem_map.1 hy
   have hi' := List.mem_range.1 hi
   obtain ⟨c, _, _, _, hG⟩ := hf i (by omega)
   exact hG N (Nat.le_trans (part_le (List.mem_map.2 ⟨i, hi, rfl⟩)) hbulk)
instance : Inhabited S54 := ⟨z54⟩
def g54 (N : Nat) (x : S54) : Prop := gInt .i64 N x.f0 ∧ gInt .i64 N x.f1 ∧ gInt .i64 N x.f2 ∧ gInt .i64 N x.f3
set_option maxRecDepth 100000 in
theorem reads54 : Reads 54 k54 g54 := by
 intro H enc w base spare held fuel cs x h
 obtain ⟨xs, n, _, hx, hl, hlen, hf⟩ := DataW.trod_struct Try.underlying54 h
 have hl2 : cs.length = 4 := hl.trans (by kernel_rfl)
 have hlen2 : xs.length = 4 := hlen
 match xs, hlen2, cs, hl2 with
 | [y0, y1, y2, y3], _, [v0, v1, v2, v3], _ =>
  have c0 : Try.prog.cellsOf 3 = 1 := by kernel_rfl
  have e0 : DataW.trod enc Try.prog w base spare held n 3 (List.take (Try.prog.cellsOf 3) (List.drop 0 [v0, v1, v2, v3])) = some y0 := hf 0 _ rfl
  rw [c0] at e0
  obtain ⟨a0, K0, G0⟩ := (readsInt Try.underlying3) enc w base spare held n [v0] y0 e0
  have c1 : Try.prog.cellsOf 3 = 1 := by kernel_rfl
  have e1 : DataW.trod enc Try.prog w base spare held n 3 (List.take (Try.prog.cellsOf 3) (List.drop 1 [v0, v1, v2, v3])) = some y1 := hf 1 _ rfl
  rw [c1] at e1
  obtain ⟨a1, K1, G1⟩ := (readsInt Try.underlying3) enc w base spare held n [v1] y1 e1
  have c2 : Try.prog.cellsOf 3 = 1 := by kernel_rfl
  have e2 : DataW.trod enc Try.prog w base spare held n 3 (List.take (Try.prog.cellsOf 3) (List.drop 2 [v0, v1, v2, v3])) = some y2 := hf 2 _ rfl
  rw [c2] at e2
  obtain ⟨a2, K2, G2⟩ := (readsInt Try.underlying3) enc w base spare held n [v2] y2 e2
  have c3 : Try.prog.cellsOf 3 = 1 := by kernel_rfl
  have e3 : DataW.trod enc Try.prog w base spare held n 3 (List.take (Try.prog.cellsOf 3) (List.drop 3 [v0, v1, v2, v3])) = some y3 := hf 3 _ rfl
  rw [c3] at e3
  obtain ⟨a3, K3, G3⟩ := (readsInt Try.underlying3) enc w base spare held n [v3] y3 e3
  refine ⟨⟨a0, a1, a2, a3⟩, ⟨_, _, rfl, K0, ⟨_, _, rfl, K1, ⟨_, _, rfl, K2, K3⟩⟩⟩, fun N hN => ?_⟩
  rw [hx] at hN
  simp only [List.map_cons, List.map_nil, Rows.uptoBulk, Rows.uptoBulkAll] at hN
  exact ⟨G0 N (by omega), G1 N (by omega), G2 N (by omega), G3 N (by omega)⟩
structure S24 where
 f0 : Int
 f1 : Bool
 f2 : List S54
def z24 : S24 := ⟨(0 : Int), false, []⟩
def k24 : Kd S24 := Kd.iso (Kd.pair (Kd.int .i64) (Kd.pair Kd.bool (Kd.slice 54 k54))) (fun x : S24 => (x.f0, x.f1, x.f2))
instance : Inhabited S24 := ⟨z24⟩
def g24 (N : Nat) (x : S24) : Prop := gInt .i64 N x.f0 ∧ gTrue N x.f1 ∧ gList (g54) N x.f2
set_option maxRecDepth 100000 in
theorem reads24 : Reads 24 k24 g24 := by
 intro H enc w base spare held fuel cs x h
 obtain ⟨xs, n, _, hx, hl, hlen, hf⟩ := DataW.trod_struct Try.underlying24 h
 have hl2 : cs.length = 3 := hl.trans (by kernel_rfl)
 have hlen2 : xs.length = 3 := hlen
 match xs, hlen2, cs, hl2 with
 | [y0, y1, y2], _, [v0, v1, v2], _ =>
  have c0 : Try.prog.cellsOf 3 = 1 := by kernel_rfl
  have e0 : DataW.trod enc Try.prog w base spare held n 3 (List.take (Try.prog.cellsOf 3) (List.drop 0 [v0, v1, v2])) = some y0 := hf 0 _ rfl
  rw [c0] at e0
  obtain ⟨a0, K0, G0⟩ := (readsInt Try.underlying3) enc w base spare held n [v0] y0 e0
  have c1 : Try.prog.cellsOf 4 = 1 := by kernel_rfl
  have e1 : DataW.trod enc Try.prog w base spare held n 4 (List.take (Try.prog.cellsOf 4) (List.drop 1 [v0, v1, v2])) = some y1 := hf 1 _ rfl
  rw [c1] at e1
  obtain ⟨a1, K1, G1⟩ := (readsBool Try.underlying4) enc w base spare held n [v1] y1 e1
  have c2 : Try.prog.cellsOf 22 = 1 := by kernel_rfl
  have e2 : DataW.trod enc Try.prog w base spare held n 22 (List.take (Try.prog.cellsOf 22) (List.drop 2 [v0, v1, v2])) = some y2 := hf 2 _ rfl
  rw [c2] at e2
  obtain ⟨a2, K2, G2⟩ := (readsSlice Try.underlying22 (by kernel_rfl) reads54) enc w base spare held n [v2] y2 e2
  refine ⟨⟨a0, a1, a2⟩, ⟨_, _, rfl, K0, ⟨_, _, rfl, K1, K2⟩⟩, fun N hN => ?_⟩
  rw [hx] at hN
  simp only [List.map_cons, List.map_nil, Rows.uptoBulk, Rows.uptoBulkAll] at hN
  exact ⟨G0 N (by omega), G1 N (by omega), G2 N (by omega)⟩
instance : Inhabited S80 := ⟨z80⟩
def g80 (N : Nat) (x : S80) : Prop := gInt .u8 N x.f0 ∧ gInt .u8 N x.f1 ∧ gInt .u8 N x.f2 ∧ gInt .u8 N x.f3
set_option maxRecDepth 100000 in
theorem reads80 : Reads 80 k80 g80 := by
 intro H enc w base spare held fuel cs x h
 obtain ⟨xs, n, _, hx, hl, hlen, hf⟩ := DataW.trod_struct Try.underlying80 h
 have hl2 : cs.length = 4 := hl.trans (by kernel_rfl)
 have hlen2 : xs.length = 4 := hlen
 match xs, hlen2, cs, hl2 with
 | [y0, y1, y2, y3], _, [v0, v1, v2, v3], _ =>
  have c0 : Try.prog.cellsOf 5 = 1 := by kernel_rfl
  have e0 : DataW.trod enc Try.prog w base spare held n 5 (List.take (Try.prog.cellsOf 5) (List.drop 0 [v0, v1, v2, v3])) = some y0 := hf 0 _ rfl
  rw [c0] at e0
  obtain ⟨a0, K0, G0⟩ := (readsInt Try.underlying5) enc w base spare held n [v0] y0 e0
  have c1 : Try.prog.cellsOf 5 = 1 := by kernel_rfl
  have e1 : DataW.trod enc Try.prog w base spare held n 5 (List.take (Try.prog.cellsOf 5) (List.drop 1 [v0, v1, v2, v3])) = some y1 := hf 1 _ rfl
  rw [c1] at e1
  obtain ⟨a1, K1, G1⟩ := (readsInt Try.underlying5) enc w base spare held n [v1] y1 e1
  have c2 : Try.prog.cellsOf 5 = 1 := by kernel_rfl
  have e2 : DataW.trod enc Try.prog w base spare held n 5 (List.take (Try.prog.cellsOf 5) (List.drop 2 [v0, v1, v2, v3])) = some y2 := hf 2 _ rfl
  rw [c2] at e2
  obtain ⟨a2, K2, G2⟩ := (readsInt Try.underlying5) enc w base spare held n [v2] y2 e2
  have c3 : Try.prog.cellsOf 5 = 1 := by kernel_rfl
  have e3 : DataW.trod enc Try.prog w base spare held n 5 (List.take (Try.prog.cellsOf 5) (List.drop 3 [v0, v1, v2, v3])) = some y3 := hf 3 _ rfl
  rw [c3] at e3
  obtain ⟨a3, K3, G3⟩ := (readsInt Try.underlying5) enc w base spare held n [v3] y3 e3
  refine ⟨⟨a0, a1, a2, a3⟩, ⟨_, _, rfl, K0, ⟨_, _, rfl, K1, ⟨_, _, rfl, K2, K3⟩⟩⟩, fun N hN => ?_⟩
  rw [hx] at hN
  simp only [List.map_cons, List.map_nil, Rows.uptoBulk, Rows.uptoBulkAll] at hN
  exact ⟨G0 N (by omega), G1 N (by omega), G2 N (by omega), G3 N (by omega)⟩
structure S41 where
 f0 : Int
 f1 : Bool
 f2 : List S80
 f3 : Int
 f4 : Int
 f5 : Int
def z41 : S41 := ⟨(0 : Int), false, [], (0 : Int), (0 : Int), (0 : Int)⟩
def k41 : Kd S41 := Kd.iso (Kd.pair (Kd.int .u8) (Kd.pair Kd.bool (Kd.pair (Kd.slice 80 k80) (Kd.pair (Kd.int .u8) (Kd.pair (Kd.int .u8) (Kd.int .u8)))))) (fun x : S41 => (x.f0, x.f1, x.f2, x.f3, x.f4, x.f5))
instance : Inhabited S41 := ⟨z41⟩
def g41 (N : Nat) (x : S41) : Prop := gInt .u8 N x.f0 ∧ gTrue N x.f1 ∧ gList (g80) N x.f2 ∧ gInt .u8 N x.f3 ∧ gInt .u8 N x.f4 ∧ gInt .u8 N x.f5
set_option maxRecDepth 100000 in
theorem reads41 : Reads 41 k41 g41 := by
 intro H enc w base spare held fuel cs x h
 obtain ⟨xs, n, _, hx, hl, hlen, hf⟩ := DataW.trod_struct Try.underlying41 h
 have hl2 : cs.length = 6 := hl.trans (by kernel_rfl)
 have hlen2 : xs.length = 6 := hlen
 match xs, hlen2, cs, hl2 with
 | [y0, y1, y2, y3, y4, y5], _, [v0, v1, v2, v3, v4, v5], _ =>
  have c0 : Try.prog.cellsOf 5 = 1 := by kernel_rfl
  have e0 : DataW.trod enc Try.prog w base spare held n 5 (List.take (Try.prog.cellsOf 5) (List.drop 0 [v0, v1, v2, v3, v4, v5])) = some y0 := hf 0 _ rfl
  rw [c0] at e0
  obtain ⟨a0, K0, G0⟩ := (readsInt Try.underlying5) enc w base spare held n [v0] y0 e0
  have c1 : Try.prog.cellsOf 4 = 1 := by kernel_rfl
  have e1 : DataW.trod enc Try.prog w base spare held n 4 (List.take (Try.prog.cellsOf 4) (List.drop 1 [v0, v1, v2, v3, v4, v5])) = some y1 := hf 1 _ rfl
  rw [c1] at e1
  obtain ⟨a1, K1, G1⟩ := (readsBool Try.underlying4) enc w base spare held n [v1] y1 e1
  have c2 : Try.prog.cellsOf 39 = 1 := by kernel_rfl
  have e2 : DataW.trod enc Try.prog w base spare held n 39 (List.take (Try.prog.cellsOf 39) (List.drop 2 [v0, v1, v2, v3, v4, v5])) = some y2 := hf 2 _ rfl
  rw [c2] at e2
  obtain ⟨a2, K2, G2⟩ := (readsSlice Try.underlying39 (by kernel_rfl) reads80) enc w base spare held n [v2] y2 e2
  have c3 : Try.prog.cellsOf 5 = 1 := by kernel_rfl
  have e3 : DataW.trod enc Try.prog w base spare held n 5 (List.take (Try.prog.cellsOf 5) (List.drop 3 [v0, v1, v2, v3, v4, v5])) = some y3 := hf 3 _ rfl
  rw [c3] at e3
  obtain ⟨a3, K3, G3⟩ := (readsInt Try.underlying5) enc w base spare held n [v3] y3 e3
  have c4 : Try.prog.cellsOf 5 = 1 := by kernel_rfl
  have e4 : DataW.trod enc Try.prog w base spare held n 5 (List.take (Try.prog.cellsOf 5) (List.drop 4 [v0, v1, v2, v3, v4, v5])) = some y4 := hf 4 _ rfl
  rw [c4] at e4
  obtain ⟨a4, K4, G4⟩ := (readsInt Try.underlying5) enc w base spare held n [v4] y4 e4
  have c5 : Try.prog.cellsOf 5 = 1 := by kernel_rfl
  have e5 : DataW.trod enc Try.prog w base spare held n 5 (List.take (Try.prog.cellsOf 5) (List.drop 5 [v0, v1, v2, v3, v4, v5])) = some y5 := hf 5 _ rfl
  rw [c5] at e5
  obtain ⟨a5, K5, G5⟩ := (readsInt Try.underlying5) enc w base spare held n [v5] y5 e5
  refine ⟨⟨a0, a1, a2, a3, a4, a5⟩, ⟨_, _, rfl, K0, ⟨_, _, rfl, K1, ⟨_, _, rfl, K2, ⟨_, _, rfl, K3, ⟨_, _, rfl, K4, K5⟩⟩⟩⟩⟩, fun N hN => ?_⟩
  rw [hx] at hN
  simp only [List.map_cons, List.map_nil, Rows.uptoBulk, Rows.uptoBulkAll] at hN
  exact ⟨G0 N (by omega), G1 N (by omega), G2 N (by omega), G3 N (by omega), G4 N (by omega), G5 N (by omega)⟩
instance : Inhabited S96 := ⟨z96⟩
def g96 (N : Nat) (x : S96) : Prop := gInt .u8 N x.f0 ∧ gInt .u8 N x.f1 ∧ gInt .u8 N x.f2
set_option maxRecDepth 100000 in
theorem reads96 : Reads 96 k96 g96 := by
 intro H enc w base spare held fuel cs x h
 obtain ⟨xs, n, _, hx, hl, hlen, hf⟩ := DataW.trod_struct Try.underlying96 h
 have hl2 : cs.length = 3 := hl.trans (by kernel_rfl)
 have hlen2 : xs.length = 3 := hlen
 match xs, hlen2, cs, hl2 with
 | [y0, y1, y2], _, [v0, v1, v2], _ =>
  have c0 : Try.prog.cellsOf 5 = 1 := by kernel_rfl
  have e0 : DataW.trod enc Try.prog w base spare held n 5 (List.take (Try.prog.cellsOf 5) (List.drop 0 [v0, v1, v2])) = some y0 := hf 0 _ rfl
  rw [c0] at e0
  obtain ⟨a0, K0, G0⟩ := (readsInt Try.underlying5) enc w base spare held n [v0] y0 e0
  have c1 : Try.prog.cellsOf 5 = 1 := by kernel_rfl
  have e1 : DataW.trod enc Try.prog w base spare held n 5 (List.take (Try.prog.cellsOf 5) (List.drop 1 [v0, v1, v2])) = some y1 := hf 1 _ rfl
  rw [c1] at e1
  obtain ⟨a1, K1, G1⟩ := (readsInt Try.underlying5) enc w base spare held n [v1] y1 e1
  have c2 : Try.prog.cellsOf 5 = 1 := by kernel_rfl
  have e2 : DataW.trod enc Try.prog w base spare held n 5 (List.take (Try.prog.cellsOf 5) (List.drop 2 [v0, v1, v2])) = some y2 := hf 2 _ rfl
  rw [c2] at e2
  obtain ⟨a2, K2, G2⟩ := (readsInt Try.underlying5) enc w base spare held n [v2] y2 e2
  refine ⟨⟨a0, a1, a2⟩, ⟨_, _, rfl, K0, ⟨_, _, rfl, K1, K2⟩⟩, fun N hN => ?_⟩
  rw [hx] at hN
  simp only [List.map_cons, List.map_nil, Rows.uptoBulk, Rows.uptoBulkAll] at hN
  exact ⟨G0 N (by omega), G1 N (by omega), G2 N (by omega)⟩
structure S60 where
 f0 : S41
 f1 : List S96
def z60 : S60 := ⟨z41, []⟩
def k60 : Kd S60 := Kd.iso (Kd.pair k41 (Kd.slice 96 k96)) (fun x : S60 => (x.f0, x.f1))
instance : Inhabited S60 := ⟨z60⟩
def g60 (N : Nat) (x : S60) : Prop := g41 N x.f0 ∧ gList (g96) N x.f1
set_option maxRecDepth 100000 in
theorem reads60 : Reads 60 k60 g60 := by
 intro H enc w base spare held fuel cs x h
 obtain ⟨xs, n, _, hx, hl, hlen, hf⟩ := DataW.trod_struct Try.underlying60 h
 have hl2 : cs.length = 7 := hl.trans (by kernel_rfl)
 have hlen2 : xs.length = 2 := hlen
 match xs, hlen2, cs, hl2 with
 | [y0, y1], _, [v0, v1, v2, v3, v4, v5, v6], _ =>
  have c0 : Try.prog.cellsOf 41 = 6 := by kernel_rfl
  have e0 : DataW.trod enc Try.prog w base spare held n 41 (List.take (Try.prog.cellsOf 41) (List.drop 0 [v0, v1, v2, v3, v4, v5, v6])) = some y0 := hf 0 _ rfl
  rw [c0] at e0
  obtain ⟨a0, K0, G0⟩ := reads41 enc w base spare held n [v0, v1, v2, v3, v4, v5] y0 e0
  have c1 : Try.prog.cellsOf 58 = 1 := by kernel_rfl
  have e1 : DataW.trod enc Try.prog w base spare held n 58 (List.take (Try.prog.cellsOf 58) (List.drop 6 [v0, v1, v2, v3, v4, v5, v6])) = some y1 := hf 1 _ rfl
  rw [c1] at e1
  obtain ⟨a1, K1, G1⟩ := (readsSlice Try.underlying58 (by kernel_rfl) reads96) enc w base spare held n [v6] y1 e1
  refine ⟨⟨a0, a1⟩, ⟨_, _, rfl, K0, K1⟩, fun N hN => ?_⟩
  rw [hx] at hN
  simp only [List.map_cons, List.map_nil, Rows.uptoBulk, Rows.uptoBulkAll] at hN
  exact ⟨G0 N (by omega), G1 N (by omega)⟩
end Go.Proofs.Ytfhkkbpkajfdlaa.R
end
section
namespace Go.Proofs.Ytfhkkbpkajfdlaa.P
open Go.RowKit Go.Proofs.Ytfhkkbpkajfdlaa.Q Go.Proofs.YtfhkkbpkajfdlaaW.PrintWords Go.Proofs.YtfhkkbpkajfdlaaW.PrintLast Go.Proofs.YtfhkkbpkajfdlaaW.PrintMore
open Go.Proofs.Ytfhkkbpkajfdlaa.R
structure Small (n : Int) (arcs : List S54) (s t h : Int) (l : List S85) : Prop where
 two : 2 ≤ n ∧ n ≤ 5
 net : NetOk n arcs
 ends : 0 ≤ s ∧ s < n ∧ 0 ≤ t ∧ t < n ∧ s ≠ t
 hor : 0 ≤ h ∧ h ≤ 7
 len : l.length ≤ 30
 mv : ∀ m ∈ l, 0 ≤ m.f0 ∧ m.f0 < arcs.length ∧ 0 ≤ m.f1 ∧ m.f1 ≤ h ∧ 0 ≤ m.f2 ∧ m.f2 ≤ 3
theorem tm {a b : Int} (ha : 0 ≤ a) (hb : 0 < b) : 0 ≤ Int.tmod a b ∧ Int.tmod a b < b :=
 ⟨Int.tmod_nonneg b ha, Int.tmod_lt_of_pos a hb⟩
theorem wB {a : Int} (h0 : 0 ≤ a) (h1 : a ≤ 1000) : wrap64 a = a := by unfold wrap64; omega
def sE (n a3 : Int) : Int := Int.tmod (wrap64 a3) n
def tE (n a3 a4 : Int) : Int := Int.tmod (wrap64 (wrap64 (sE n a3 + 1) + Int.tmod (wrap64 a4) (wrap64 (n - 1)))) n
def hE (a5 : Int) : Int := Int.tmod (wrap64 a5) 8
theorem ends_ok {n a3 a4 : Int} (hn : 2 ≤ n ∧ n ≤ 5) (h3 : 0 ≤ a3 ∧ a3 ≤ 255) (h4 : 0 ≤ a4 ∧ a4 ≤ 255) : 0 ≤ sE n a3 ∧ sE n a3 < n ∧ 0 ≤ tE n a3 a4 ∧ tE n a3 a4 < n ∧ sE n a3 ≠ tE n a3 a4 := by
 have hs : 0 ≤ sE n a3 ∧ sE n a3 < n := by unfold sE; rw [wB h3.1 (by omega)]; exact tm h3.1 (by omega)
 have e : tE n a3 a4 = Int.tmod (sE n a3 + 1 + Int.tmod a4 (n - 1)) n := by
  unfold tE
  rw [wB h4.1 (by omega), wB (a := n - 1) (by omega) (by omega), wB (a := sE n a3 + 1) (by omega) (by omega)]
  have hq := tm (a := a4) (b := n - 1) h4.1 (by omega)
  rw [wB (by omega) (by omega)]
 have hq := tm (a := a4) (b := n - 1) h4.1 (by omega)
 rw [e]
 generalize sE n a3 = s at *
 generalize Int.tmod a4 (n - 1) = q at *
 have ht := tm (a := s + 1 + q) (b := n) (by omega) (by omega)
 refine ⟨hs.1, hs.2, ht.1, ht.2, ?_⟩
 rw [Int.tmod_eq_emod_of_nonneg (by omega)]
 have h5 : n = 2 ∨ n = 3 ∨ n = 4 ∨ n = 5 := by omega
 rcases h5 with rfl | rfl | rfl | rfl <;> omega
theorem rdB_of {l : List S80} {i : Nat} (h : i < l.length) : rd_T80 l (i : Int) = l[i] := by unfold rd_T80; simp [List.getD_eq_getElem?_getD, List.getElem?_eq_getElem h]
theorem rdC_of {l : List S96} {i : Nat} (h : i < l.length) : rd_T96 l (i : Int) = l[i] := by unfold rd_T96; simp [List.getD_eq_getElem?_getD, List.getElem?_eq_getElem h]
theorem read12_loop {n : Int} (m : Nat) (hm : m ≤ 8) (hn : 2 ≤ n ∧ n ≤ 5) (b : Bool) (l : List S80) (hl : ∀ x ∈ l, (0 ≤ x.f0 ∧ x.f0 ≤ 255) ∧ (0 ≤ x.f1 ∧ x.f1 ≤ 255) ∧ (0 ≤ x.f2 ∧ x.f2 ≤ 255) ∧ (0 ≤ x.f3 ∧ x.f3 ≤ 255)) (a0 a3 a4 a5 : Int) (d : Nat) :
 ∀ (i : Nat) (A : List S54), i + d = m → A.length ≤ i → (∀ a ∈ A, ArcOk n a ∧ a.f2 ≤ 5) → ∃ arcs : List S54, arcs.length ≤ m ∧ (∀ a ∈ arcs, ArcOk n a ∧ a.f2 ≤ 5) ∧ Ev (fun k => ebbtidelaw12_Read.l0 k (m : Int) (i : Int) a0 b l a3 a4 a5 n b A) (n, b, arcs, sE n a3, tE n a3 a4, hE a5) := by
 have hn0 : ¬ n = 0 := by omega
 have hn1 : ¬ wrap64 (n - 1) = 0 := by rw [wB (by omega) (by omega)]; omega
 induction d with
 | zero =>
  intro i A hi hA hok
  refine ⟨A, by omega, hok, ev_cst fun k => ?_⟩
  rw [ebbtidelaw12_Read.l0, if_neg (show ¬ (i : Int) < (m : Int) by omega), if_neg hn0, if_neg hn1, ite_self]
  rfl
 | succ d ih =>
  intro i A hi hA hok
  by_cases c : i < l.length
  ·have hx := hl l[i] (List.getElem_mem c)
   have e0 := tm (a := l[i].f0) (b := n) hx.1.1 (by omega)
   have e1 := tm (a := l[i].f1) (b := n) hx.2.1.1 (by omega)
   have e2 := tm (a := l[i].f2) (b := 6) hx.2.2.1.1 (by omega)
   have e3 := tm (a := l[i].f3) (b := 4) hx.2.2.2.1 (by omega)
   obtain ⟨arcs, h1, h2, h3⟩ := ih (i + 1) (A ++ [(⟨Int.tmod l[i].f0 n, Int.tmod l[i].f1 n, Int.tmod l[i].f2 6, Int.tmod l[i].f3 4⟩ : S54)]) (by omega) (by simp; omega) (fun a ha => by
    rcases List.mem_append.1 ha with ha | ha
    ·exact hok a ha
    ·rw [List.mem_singleton.1 ha]
     exact ⟨⟨e0, e1, by show 0 ≤ Int.tmod _ _ ∧ Int.tmod _ _ ≤ _; omega, by show 0 ≤ Int.tmod _ _ ∧ Int.tmod _ _ ≤ _; omega⟩, by show Int.tmod _ _ ≤ 5; omega⟩)
   refine ⟨arcs, h1, h2, Ev.step (fun k => ?_) h3⟩
   rw [ebbtidelaw12_Read.l0, if_pos (by omega), if_pos (by omega), if_pos (by omega), if_neg hn0, if_pos (by omega), rdB_of c, wB hx.1.1 (by omega), wB hx.2.1.1 (by omega), wB hx.2.2.1.1 (by omega), wB hx.2.2.2.1 (by omega), wrap1 (by omega)]
  ·refine ⟨A, by omega, hok, ev_cst fun k => ?_⟩
   rw [ebbtidelaw12_Read.l0, if_neg (by omega), if_neg hn0, if_neg hn1]
   rfl
theorem read14_loop {n : Int} (b b' : Bool) (arcs : List S54) (s t h : Int) (hh : 0 ≤ h ∧ h ≤ 7) (ha : arcs.length ≤ 8) (lb : List S80) (l : List S96) (hl : ∀ x ∈ l, (0 ≤ x.f0 ∧ x.f0 ≤ 255) ∧ (0 ≤ x.f1 ∧ x.f1 ≤ 255) ∧ (0 ≤ x.f2 ∧ x.f2 ≤ 255)) (a0 a3 a4 a5 : Int) (d : Nat) :
 ∀ (i : Nat) (A : List S85), i + d = 30 → A.length ≤ i → (∀ m ∈ A, 0 ≤ m.f0 ∧ m.f0 < arcs.length ∧ 0 ≤ m.f1 ∧ m.f1 ≤ h ∧ 0 ≤ m.f2 ∧ m.f2 ≤ 3) →
 ∃ L : List S85, L.length ≤ 30 ∧ (∀ m ∈ L, 0 ≤ m.f0 ∧ m.f0 < arcs.length ∧ 0 ≤ m.f1 ∧ m.f1 ≤ h ∧ 0 ≤ m.f2 ∧ m.f2 ≤ 3) ∧ Ev (fun k => ebbtidelaw14_Read.l0 k s t h A (i : Int) a0 b' lb a3 a4 a5 l n b arcs) (n, b, arcs, s, t, h, L) := by
 induction d with
 | zero =>
  intro i A hi hA hok
  refine ⟨A, by omega, hok, ev_cst fun k => ?_⟩
  rw [ebbtidelaw14_Read.l0, if_neg (show ¬ (i : Int) < 30 by omega), ite_self]
 | succ d ih =>
  intro i A hi hA hok
  by_cases c : i < l.length
  ·by_cases c2 : (arcs.length : Int) > 0
   ·have hx := hl l[i] (List.getElem_mem c)
    have e0 := tm (a := l[i].f0) (b := (arcs.length : Int)) hx.1.1 (by omega)
    have e1 := tm (a := l[i].f1) (b := h + 1) hx.2.1.1 (by omega)
    have e2 := tm (a := l[i].f2) (b := 4) hx.2.2.1 (by omega)
    have ew : wrap64 (h + 1) = h + 1 := wB (by omega) (by omega)
    obtain ⟨L, h1, h2, h3⟩ := ih (i + 1) (A ++ [(⟨Int.tmod l[i].f0 (arcs.length : Int), Int.tmod l[i].f1 (h + 1), Int.tmod l[i].f2 4⟩ : S85)]) (by omega) (by simp; omega) (fun a ha => by
     rcases List.mem_append.1 ha with ha | ha
     ·exact hok a ha
     ·rw [List.mem_singleton.1 ha]
      exact ⟨e0.1, e0.2, e1.1, by show Int.tmod _ _ ≤ _; omega, e2.1, by show Int.tmod _ _ ≤ _; omega⟩)
    refine ⟨L, h1, h2, Ev.step (fun k => ?_) h3⟩
    rw [ebbtidelaw14_Read.l0, if_pos (by omega), if_pos (by omega), if_pos c2, if_pos (by omega), if_neg (by omega), ew, if_neg (by omega), if_pos (by omega), rdC_of c, wB hx.1.1 (by omega), wB hx.2.1.1 (by omega), wB hx.2.2.1 (by omega), wrap1 (by omega)]
   ·refine ⟨A, by omega, hok, ev_cst fun k => ?_⟩
    rw [ebbtidelaw14_Read.l0, if_pos (by omega), if_pos (by omega), if_neg c2]
  ·refine ⟨A, by omega, hok, ev_cst fun k => ?_⟩
   rw [ebbtidelaw14_Read.l0, if_neg (by omega)]
structure SmallN (m : Nat) (n : Int) (arcs : List S54) (s t h : Int) : Prop where
 two : 2 ≤ n ∧ n ≤ 5
 net : NetOk n arcs
 ends : 0 ≤ s ∧ s < n ∧ 0 ≤ t ∧ t < n ∧ s ≠ t
 hor : 0 ≤ h ∧ h ≤ 7
 len : arcs.length ≤ m
 cap : ∀ a ∈ arcs, a.f2 ≤ 5
theorem read12_ev {N : Nat} (m : Nat) (hm : m ≤ 8) (x : S41) (g : g41 N x) : ∃ (n : Int) (arcs : List S54) (s t h : Int), SmallN m n arcs s t h ∧
 Ev (fun k => ebbtidelaw12_Read.f k x.f0 x.f1 x.f2 x.f3 x.f4 x.f5 (m : Int)) (n, x.f1, arcs, s, t, h) := by
 obtain ⟨g0, _, g2, g3, g4, g5⟩ := g
 have b0 := Go.bounds_u8 g0
 have b3 := Go.bounds_u8 g3
 have b4 := Go.bounds_u8 g4
 have b5 := Go.bounds_u8 g5
 have e4 := tm (a := x.f0) (b := 4) b0.1 (by omega)
 have en : wrap64 (2 + Int.tmod (wrap64 x.f0) 4) = 2 + Int.tmod x.f0 4 := by rw [wB b0.1 (by omega), wB (by omega) (by omega)]
 have hn : 2 ≤ 2 + Int.tmod x.f0 4 ∧ 2 + Int.tmod x.f0 4 ≤ 5 := by omega
 have hh : 0 ≤ hE x.f5 ∧ hE x.f5 ≤ 7 := by
  have e := tm (a := x.f5) (b := 8) b5.1 (by omega)
  unfold hE
  rw [wB b5.1 (by omega)]
  omega
 obtain ⟨arcs, h1, h2, h3⟩ := read12_loop m hm hn x.f1 x.f2 (fun y hy => ⟨Go.bounds_u8 (g2.2.2 y hy).1, Go.bounds_u8 (g2.2.2 y hy).2.1, Go.bounds_u8 (g2.2.2 y hy).2.2.1, Go.bounds_u8 (g2.2.2 y hy).2.2.2⟩) x.f0 x.f3 x.f4 x.f5 m 0 [] (by omega) (Nat.le_refl _) (fun a ha => by cases ha)
 refine ⟨_, arcs, _, _, _, ⟨hn, ⟨by omega, by omega, by omega, fun a ha => (h2 a ha).1⟩, ends_ok hn b3 b4, hh, h1, fun a ha => (h2 a ha).2⟩, ?_⟩
 unfold ebbtidelaw12_Read.f
 rw [en]
 exact h3
theorem read_ev {N : Nat} (x : S60) (g : g60 N x) : ∃ (n : Int) (arcs : List S54) (s t h : Int) (l : List S85), Small n arcs s t h l ∧
 Ev (fun k => ebbtidelaw14_Read.f k x.f0.f0 x.f0.f1 x.f0.f2 x.f0.f3 x.f0.f4 x.f0.f5 x.f1) (n, x.f0.f1, arcs, s, t, h, l) := by
 obtain ⟨g0, g6⟩ := g
 obtain ⟨n, arcs, s, t, h, hs, hr⟩ := read12_ev 8 (Nat.le_refl _) x.f0 g0
 obtain ⟨L, k1, k2, k3⟩ := read14_loop (n := n) x.f0.f1 x.f0.f1 arcs s t h hs.hor hs.len x.f0.f2 x.f1 (fun y hy => ⟨Go.bounds_u8 (g6.2.2 y hy).1, Go.bounds_u8 (g6.2.2 y hy).2.1, Go.bounds_u8 (g6.2.2 y hy).2.2⟩) x.f0.f0 x.f0.f3 x.f0.f4 x.f0.f5 30 0 [] (by omega) (Nat.le_refl _) (fun a ha => by cases ha)
 refine ⟨n, arcs, s, t, h, L, ⟨hs.two, hs.net, hs.ends, hs.hor, k1, k2⟩, ?_⟩
 unfold ebbtidelaw14_Read.f
 exact Ev.bind (a := (n, x.f0.f1, arcs, s, t, h)) hr k3
end Go.Proofs.Ytfhkkbpkajfdlaa.P
end
section
namespace Go.Proofs.Ytfhkkbpkajfdlaa.P
open Go.RowKit Go.Proofs.Ytfhkkbpkajfdlaa.Q Go.Proofs.YtfhkkbpkajfdlaaW.PrintWords Go.Proofs.YtfhkkbpkajfdlaaW.PrintLast Go.Proofs.YtfhkkbpkajfdlaaW.PrintMore
section
variable {n : Int} {arcs : List S54} {s t h : Int} {l : List S85} (hs : Small n arcs s t h l)
include hs
theorem small_len : l.length ≤ 1048576 := by have := hs.len; omega
theorem small_ok : ∀ x ∈ l, OkM x := fun x hx => by
 have h1 := hs.mv x hx
 have h2 := hs.net.len
 have h3 := hs.hor
 unfold OkM fits
 omega
theorem small_ask : askErr n arcs s t h = 0 := by
 have h1 := hs.ends
 have h2 := hs.hor
 exact askErr_ok.2 ⟨hs.net, h1.1, h1.2.1, h1.2.2.1, h1.2.2.2.1, h1.2.2.2.2, h2.1, by omega⟩
end
theorem wsum_le {c c' : Int × Int → Int} {l : List S85} (h : ∀ x ∈ l, c (keyM x) ≤ c' (keyM x) ∧ 0 ≤ x.f2) : wsum c l ≤ wsum c' l := by
 induction l with
 | nil => exact Int.le_refl _
 | cons x l ih =>
  rw [wsum_cons, wsum_cons]
  have h1 := h x List.mem_cons_self
  have h2 := ih (fun y hy => h y (List.mem_cons_of_mem _ hy))
  have h3 := Int.mul_le_mul_of_nonneg_right h1.1 h1.2
  omega
section
variable {arcs : List S54} {s t h : Int} {M : List S85} (hm : ∀ m ∈ M, May arcs s t h m)
include hm
theorem stk_late (hh : 0 ≤ h) {n : Int} (hn : NetOk n arcs) (v : Nat) : stk arcs M (h.toNat + 1) v = stk arcs M h.toNat v := by
 refine wsum_congr fun x hx => ?_
 have h1 := hm x hx
 have h2 := (arcAt_ok hn h1.a0 h1.a1).f3
 have h3 := h1.b1
 have e1 : (keyM x).1 = x.f0 := rfl
 have e2 : (keyM x).2 = x.f1 := rfl
 unfold cStk cIn cOut
 rw [e1, e2]
 generalize (arcAt arcs x.f0).f3 = q at *
 have d1 : x.f1 + q ≤ ((h.toNat + 1 : Nat) : Int) := by omega
 have d2 : x.f1 + q ≤ ((h.toNat : Nat) : Int) := by omega
 have d3 : x.f1 ≤ ((h.toNat + 1 : Nat) : Int) := by omega
 have d4 : x.f1 ≤ ((h.toNat : Nat) : Int) := by omega
 simp only [d1, d2, d3, d4, and_true]
end
theorem planR_ok {hold : Bool} {n : Int} {arcs : List S54} {s t h : Int} {l : List S85} (k : (planR hold n arcs s t h l).2 = 0) :
 (mergedR n arcs s t h l).2 = 0 ∧ AllOk hold h s t (tH h) (tV n) (stk arcs (mergedR n arcs s t h l).1) ∧ planR hold n arcs s t h l = (stk arcs (mergedR n arcs s t h l).1 h.toNat t.toNat, 0) := by
 unfold planR at *
 by_cases c : (mergedR n arcs s t h l).2 = 0
 ·rw [if_pos c] at *
  by_cases c2 : AllOk hold h s t (tH h) (tV n) (stk arcs (mergedR n arcs s t h l).1)
  ·rw [if_pos c2]; exact ⟨c, c2, rfl⟩
  ·rw [if_neg c2] at k; cases k
 ·rw [if_neg c] at k; exact absurd k c
theorem mergedR_later {n : Int} {arcs : List S54} {s t h : Int} {l : List S85} (k : (mergedR n arcs s t h l).2 = 0) (hh : h + 1 ≤ 1024) : mergedR n arcs s t (h + 1) l = mergedR n arcs s t h l ∧ mergedR n arcs s t h l = (mergeL l, 0) := by
 have ho := mergedR_ok k
 have h1 := ho.hor
 have a0 : askErr n arcs s t h = 0 := askErr_ok.2 ⟨ho.net, ho.ends.1, ho.ends.2.1, ho.ends.2.2.1, ho.ends.2.2.2.1, ho.ends.2.2.2.2, h1.1, h1.2⟩
 have a1 : askErr n arcs s t (h + 1) = 0 := askErr_ok.2 ⟨ho.net, ho.ends.1, ho.ends.2.1, ho.ends.2.2.1, ho.ends.2.2.2.1, ho.ends.2.2.2.2, by omega, hh⟩
 have m0 : AllMay arcs s t h (mergeL l) := by have := ho.may; rw [ho.is] at this; exact this
 have m1 : AllMay arcs s t (h + 1) (mergeL l) := fun m hm => by
  have h2 := m0 m hm
  exact ⟨h2.a0, h2.a1, h2.b0, h2.c0, by have := h2.b1; omega, h2.c1, h2.e1, h2.e0⟩
 have e0 : mergedR n arcs s t h l = (mergeL l, 0) := by unfold mergedR; rw [if_pos a0, if_pos ho.fit, if_pos m0]
 have e1 : mergedR n arcs s t (h + 1) l = (mergeL l, 0) := by unfold mergedR; rw [if_pos a1, if_pos ho.fit, if_pos m1]
 exact ⟨e1.trans e0.symm, e0⟩
theorem planR_later {hold : Bool} {n : Int} {arcs : List S54} {s t h : Int} {l : List S85} (k : (planR hold n arcs s t h l).2 = 0) (hh : h + 1 ≤ 1024) : planR hold n arcs s t (h + 1) l = planR hold n arcs s t h l := by
 obtain ⟨c, c2, e⟩ := planR_ok k
 have ho := mergedR_ok c
 obtain ⟨e1, -⟩ := mergedR_later c hh
 have h1 := ho.hor
 have et : (h + 1).toNat = h.toNat + 1 := by omega
 have hl := fun v => stk_late ho.may h1.1 ho.net v
 rw [e]
 unfold planR
 rw [e1, if_pos c]
 have hok : AllOk hold (h + 1) s t (tH (h + 1)) (tV n) (stk arcs (mergedR n arcs s t h l).1) := by
  intro u hu w hw hb
  unfold tH at hu
  rw [et] at hu
  by_cases c3 : u ≤ h.toNat
  ·refine c2 u (by unfold tH; omega) w hw ⟨hb.1, hb.2.1, hb.2.2.imp id (fun h2 => ⟨h2.1, ?_⟩)⟩
   rcases h2.2 with h3 | h3
   ·exact .inl h3
   ·omega
  ·have : u = h.toNat + 1 := by omega
   subst this
   refine c2 h.toNat (by unfold tH; omega) w hw ⟨hb.1, hb.2.1, ?_⟩
   unfold Bad at hb
   rw [hl] at hb
   exact hb.2.2.imp id (fun h2 => ⟨h2.1, .inr (by omega)⟩)
 rw [if_pos hok, et, hl]
def psum (f : Nat → Int) : Nat → Int
 | 0 => 0
 | v + 1 => psum f v + f v
theorem psum_congr {f g : Nat → Int} {V : Nat} (h : ∀ v, v < V → f v = g v) : psum f V = psum g V := by
 induction V with
 | zero => rfl
 | succ V ih => rw [psum, psum, ih (fun v hv => h v (by omega)), h V (by omega)]
theorem psum_add (f g : Nat → Int) (V : Nat) : psum (fun v => f v + g v) V = psum f V + psum g V := by
 induction V with
 | zero => rfl
 | succ V ih => rw [psum, psum, psum, ih]; omega
theorem psum_none (x : Nat) (p : Int) {V : Nat} (h : V ≤ x) : psum (fun v => if x = v then p else 0) V = 0 := by
 induction V with
 | zero => rfl
 | succ V ih => rw [psum, ih (by omega), if_neg (by omega)]; rfl
theorem psum_single (x : Nat) (p : Int) {V : Nat} (h : x < V) : psum (fun v => if x = v then p else 0) V = p := by
 induction V with
 | zero => omega
 | succ V ih =>
  rw [psum]
  by_cases c : x = V
  ·rw [if_pos c, psum_none x p (by omega)]; omega
  ·rw [if_neg c, ih (by omega)]; omega
theorem psum_wsum (c : Nat → Int × Int → Int) (M : List S85) (V : Nat) : psum (fun v => wsum (c v) M) V = wsum (fun k => psum (fun v => c v k) V) M := by
 induction V with
 | zero => exact (wsum_zero fun _ _ => rfl).symm
 | succ V ih =>
  rw [psum, ih, ← wsum_add]
  rfl
def cWay (arcs : List S54) (a : Int) (k : Int × Int) : Int := if k.2 ≤ a ∧ k.2 + (arcAt arcs k.1).f3 > a then 1 else 0
theorem all_nothing {n : Int} {arcs : List S54} {s t h : Int} {M : List S85} (hn : NetOk n arcs) (hm : ∀ m ∈ M, May arcs s t h m) (a : Nat) : wsum (cWay arcs (a : Int)) M + psum (stk arcs M a) (tV n) = 0 := by
 have e : psum (stk arcs M a) (tV n) = wsum (fun k => psum (fun v => cStk arcs (v : Int) (a : Int) k) (tV n)) M := psum_wsum (fun v => cStk arcs (v : Int) (a : Int)) M (tV n)
 rw [e, ← wsum_add]
 refine wsum_zero fun x hx => ?_
 have h1 := hm x hx
 have ho := arcAt_ok hn h1.a0 h1.a1
 have e1 : (keyM x).1 = x.f0 := rfl
 have e2 : (keyM x).2 = x.f1 := rfl
 have l0 := ho.f0
 have l1 := ho.f1
 have l3 := ho.f3
 obtain ⟨fr, hfr⟩ := Int.eq_ofNat_of_zero_le l0.1
 obtain ⟨tn, hto⟩ := Int.eq_ofNat_of_zero_le l1.1
 have e3 : psum (fun v => cStk arcs (v : Int) (a : Int) (keyM x)) (tV n) = (if x.f1 + (arcAt arcs x.f0).f3 ≤ (a : Int) then 1 else 0) + (if x.f1 ≤ (a : Int) then -1 else 0) := by
  rw [← psum_single tn (if x.f1 + (arcAt arcs x.f0).f3 ≤ (a : Int) then 1 else 0) (V := tV n) (by unfold tV; omega), ← psum_single fr (if x.f1 ≤ (a : Int) then -1 else 0) (V := tV n) (by unfold tV; omega), ← psum_add]
  refine psum_congr fun v _ => ?_
  unfold cStk cIn cOut
  rw [e1, e2, hfr, hto]
  have q1 : ((tn : Int) = (v : Int)) ↔ tn = v := by omega
  have q2 : ((fr : Int) = (v : Int)) ↔ fr = v := by omega
  simp only [q1, q2]
  by_cases c1 : tn = v <;> by_cases c2 : fr = v <;> by_cases c3 : x.f1 + (arcAt arcs x.f0).f3 ≤ (a : Int) <;> by_cases c4 : x.f1 ≤ (a : Int) <;> simp [c1, c2, c3, c4]
 rw [e3]
 unfold cWay
 rw [e1, e2]
 generalize (arcAt arcs x.f0).f3 = q at *
 (repeat' split) <;> omega
theorem psum_two {f : Nat → Int} {V s t : Nat} (hs : s < V) (ht : t < V) (hst : s ≠ t) (h : ∀ v, v < V → v ≠ s → v ≠ t → f v = 0) : psum f V = f s + f t := by
 rw [← psum_single s (f s) hs, ← psum_single t (f t) ht, ← psum_add]
 refine psum_congr fun v hv => ?_
 by_cases c1 : s = v
 ·subst c1; rw [if_pos rfl, if_neg (by omega)]; omega
 ·by_cases c2 : t = v
  ·subst c2; rw [if_neg c1, if_pos rfl]; omega
  ·rw [if_neg c1, if_neg c2, h v hv (by omega) (by omega)]; rfl
theorem source_left {hold : Bool} {n : Int} {arcs : List S54} {s t h : Int} {l : List S85} (k : (planR hold n arcs s t h l).2 = 0) :
 stk arcs (mergedR n arcs s t h l).1 h.toNat s.toNat = -(planR hold n arcs s t h l).1 := by
 obtain ⟨c, c2, e⟩ := planR_ok k
 have ho := mergedR_ok c
 have h1 := ho.hor
 obtain ⟨s0, s1, t0, t1, st⟩ := ho.ends
 have h2 := all_nothing ho.net ho.may h.toNat
 have h3 : wsum (cWay arcs ((h.toNat : Nat) : Int)) (mergedR n arcs s t h l).1 = 0 := wsum_zero fun x hx => by
  have := (ho.may x hx).b1
  unfold cWay
  rw [if_neg]
  rintro ⟨_, h5⟩
  have e1 : (keyM x).1 = x.f0 := rfl
  have e2 : (keyM x).2 = x.f1 := rfl
  rw [e1, e2] at h5
  omega
 have h4 := psum_two (f := stk arcs (mergedR n arcs s t h l).1 h.toNat) (V := tV n) (s := s.toNat) (t := t.toNat) (by unfold tV; omega) (by unfold tV; omega) (by omega) (fun v hv hvs hvt => by
  have h5 := c2 h.toNat (by unfold tH; omega) v hv
  apply Classical.byContradiction
  intro h6
  refine h5 ⟨by omega, by omega, ?_⟩
  rcases Int.lt_or_gt_of_ne h6 with h7 | h7
  ·exact .inl h7
  ·exact .inr ⟨h7, .inr (by omega)⟩)
 rw [e]
 show _ = -(stk arcs _ h.toNat t.toNat)
 omega
def lookN (M : List S85) (x y : Int) (r : Int) : Int := M.foldl (fun r m => if m.f0 = x ∧ m.f1 = y then m.f2 else r) r
def valK (arcs : List S54) (M : List S85) (s : Int) (k : S83) : Int :=
 if k.f0 = true then lookN M k.f2 k.f4 0 else if k.f1 = true then wsum (cStk arcs k.f3 k.f4) M else if k.f3 = s then wrap64 (-(wrap64 (wsum (cStk arcs k.f3 k.f4) M - wsum (cStk arcs k.f3 (k.f4 - 1)) M))) else wrap64 (wsum (cStk arcs k.f3 k.f4) M - wsum (cStk arcs k.f3 (k.f4 - 1)) M)
section
variable {n : Int} {b : Bool} {arcs : List S54} {s t h : Int} {M : List S85} (hn : NetOk n arcs) (hh : 0 ≤ h ∧ h ≤ 1024) (hM : M.length ≤ 1048576) (hmay : ∀ m ∈ M, May arcs s t h m)
include hn hh hM hmay
end
section
variable {xs : List (List Int)} {s t : Int} {b h1 : Nat} {o : List Int}
theorem out3_below {j : Nat} (hj : j < b) : ∀ m, (out3 xs s t b h1 o m)[j]? = o[j]?
 | 0 => rfl
 | m + 1 => by rw [out3_succ, List.getElem?_set_ne (by omega), List.getElem?_set_ne (by omega), out3_below hj m]
theorem out3_first (ho : b + h1 + h1 ≤ o.length) {a : Nat} : ∀ m, a < m → m ≤ h1 → (out3 xs s t b h1 o m)[b + a]? = some (leftN xs s a)
 | 0, h, _ => absurd h (Nat.not_lt_zero _)
 | m + 1, h, hm => by
  rw [out3_succ, List.getElem?_set_ne (by omega)]
  by_cases c : a = m
  ·subst c
   rw [List.getElem?_set_self (by rw [out3_length]; omega)]
  ·rw [List.getElem?_set_ne (by omega), out3_first ho m (by omega) (by omega)]
theorem out3_last (ho : b + h1 + h1 ≤ o.length) {a : Nat} : ∀ m, a < m → m ≤ h1 → (out3 xs s t b h1 o m)[b + h1 + a]? = some (cameN xs t a)
 | 0, h, _ => absurd h (Nat.not_lt_zero _)
 | m + 1, h, hm => by
  rw [out3_succ]
  by_cases c : a = m
  ·subst c
   rw [List.getElem?_set_self (by rw [List.length_set, out3_length]; omega)]
  ·rw [List.getElem?_set_ne (by omega), List.getElem?_set_ne (by omega), out3_last ho m (by omega) (by omega)]
end
theorem lookN_none {M : List S85} {x y : Int} (h : ∀ m ∈ M, ¬ (m.f0 = x ∧ m.f1 = y)) (r : Int) : lookN M x y r = r := by
 unfold lookN
 induction M generalizing r with
 | nil => rfl
 | cons m M ih => rw [List.foldl_cons, if_neg (h m List.mem_cons_self)]; exact ih (fun z hz => h z (List.mem_cons_of_mem _ hz)) r
theorem lookN_mem {M : List S85} (hs : M.Pairwise mlt) {m : S85} (hm : m ∈ M) (r : Int) : lookN M m.f0 m.f1 r = m.f2 := by
 unfold lookN
 induction M generalizing r with
 | nil => cases hm
 | cons x M ih =>
  rw [List.pairwise_cons] at hs
  rw [List.foldl_cons]
  rcases List.mem_cons.1 hm with rfl | hm
  ·rw [if_pos ⟨rfl, rfl⟩]
   refine lookN_none (M := M) (fun z hz e => ?_) _
   have := hs.1 z hz
   unfold mlt at this
   omega
  ·exact ih hs.2 hm _
section
variable {V H s t : Int} {hold : Bool} {l0 : List S54}
theorem arcAt_getD (i : Nat) : arcAt l0 (i : Int) = l0.getD i z54 := by unfold arcAt rd_T54; rw [Int.toNat_natCast]
theorem move_in (hn : NetOk V l0) {m : S85} (hm : May l0 s t H m) : ∃ j : Nat, (kindsB V H hold s t l0 (H.toNat + 1))[j]? = some ⟨true, false, m.f0, 0, m.f1⟩ := by
 obtain ⟨i, hi⟩ := Int.eq_ofNat_of_zero_le hm.a0
 obtain ⟨a, ha⟩ := Int.eq_ofNat_of_zero_le hm.b0
 have h1 := hm.a1
 have h2 := hm.b1
 have h3 := hm.e1
 have h4 := hm.e0
 rw [hi] at h1 h2 h3 h4
 rw [ha] at h2
 rw [arcAt_getD] at h2 h3 h4
 have hk : (⟨true, false, m.f0, 0, m.f1⟩ : S83) ∈ kindsB V H hold s t l0 (H.toNat + 1) := by
  have h7 := (arcAt_ok hn hm.a0 hm.a1).f3
  rw [hi, arcAt_getD] at h7
  refine mem_kindsB.2 ⟨a, ?_, Or.inl ⟨i, by omega, ?_⟩⟩
  ·omega
  ·rw [mvAt_some, hi, ha]
   exact ⟨⟨h2, h3, h4⟩, rfl⟩
 obtain ⟨j, hj, e⟩ := List.getElem_of_mem hk
 exact ⟨j, by rw [List.getElem?_eq_getElem hj, e]⟩
theorem idx_of (hn : NetOk V l0) {m : S85} (hm : May l0 s t H m) : ∃ j : Nat, (kindsB V H hold s t l0 (H.toNat + 1))[j]? = some ⟨true, false, m.f0, 0, m.f1⟩ ∧ idxM (gridMoves V H hold s t l0) m = (j : Int) := by
 obtain ⟨j, hj⟩ := move_in (V := V) (hold := hold) hn hm
 refine ⟨j, hj, ?_⟩
 have hmem : ((m.f0, m.f1), (j : Int)) ∈ movesK (kindsB V H hold s t l0 (H.toNat + 1)) := movesK_mem.2 ⟨j, _, hj, rfl, rfl⟩
 unfold idxM gridMoves lookM
 rw [log1, lookM_mem _ none ((m.f0, m.f1), (j : Int)) (kord_nodup (movesK_sorted (kindsB_sorted _))) hmem]
 rfl
theorem flow_all (hn : NetOk V l0) (hh : 0 ≤ H ∧ H ≤ 1024) (hs : 0 ≤ s ∧ s < V) (ht : 0 ≤ t ∧ t < V) (hst : s ≠ t) {M : List S85} (hM : M.length ≤ 1048576) (hsrt : M.Pairwise mlt) (hmay : ∀ m ∈ M, May l0 s t H m) :
 flowL V H hold s t l0 (SM V l0 H M) M = (gridKinds V H hold s t l0).map (valK l0 M s) := by
 have hok : okNet V H l0 = true := okNet_of hn hh
 have hKl : (kindsB V H hold s t l0 (H.toNat + 1)).length = (atLoop V H hold s t l0 (H.toNat + 1)).1.length := by rw [arcs1, List.length_map]
 have hN : (gridArcs V H hold s t l0).length = (kindsB V H hold s t l0 (H.toNat + 1)).length + (H.toNat + 1) + (H.toNat + 1) := by
  unfold gridArcs
  rw [List.length_append, List.length_append, firstsA_length, lastsA_length, hKl]
 have hrow : ∀ (a : Nat) (v : Int), a < tH H → 0 ≤ v → v < V → stockAt (SM V l0 H M) (a : Int) v = wsum (cStk l0 v (a : Int)) M := by
  intro a v ha h0 h1
  have e1 : rd_L3 (SM V l0 H M) (a : Int) = row (tV V) (stk l0 M a) := rdL_row ha
  unfold stockAt
  rw [e1]
  obtain ⟨u, hu⟩ := Int.eq_ofNat_of_zero_le h0
  rw [hu, rd_row (show u < tV V by unfold tV; omega)]
  rfl
 have hbd : ∀ v a : Int, -1099511627776 ≤ wsum (cStk l0 v a) M ∧ wsum (cStk l0 v a) M ≤ 1099511627776 := fun v a => stk_bd hn hM hmay (fun m hm => hm) (Nat.le_refl _) _ (cStk_bd l0 v a)
 have hneg : ∀ v : Int, wsum (cStk l0 v (-1)) M = 0 := fun v => wsum_zero fun x hx => by
  have h1 := hmay x hx
  have h2 := h1.b0
  have h3 := (arcAt_ok hn h1.a0 h1.a1).f3
  have e1 : (keyM x).1 = x.f0 := rfl
  have e2 : (keyM x).2 = x.f1 := rfl
  unfold cStk cIn cOut
  rw [e1, e2, if_neg (by omega), if_neg (by omega)]
  omega
 unfold flowL
 rw [kinds_eq, ← hKl]
 have ho2 : (out2 (SM V l0 H M) (atLoop V H hold s t l0 (H.toNat + 1)).2.2 (out1 (gridMoves V H hold s t l0) M (gridArcs V H hold s t l0).length)).length = (gridArcs V H hold s t l0).length := by rw [out2_length, out1_length]
 refine List.ext_getElem? fun j => ?_
 by_cases cA : j < (kindsB V H hold s t l0 (H.toNat + 1)).length
 ·rw [out3_below cA, List.getElem?_map, List.append_assoc, List.getElem?_append_left cA]
  have hj := List.getElem?_eq_getElem cA
  have hjk := List.getElem_mem cA
  generalize (kindsB V H hold s t l0 (H.toNat + 1))[j] = k at hj hjk
  rw [hj, Option.map_some]
  have hlog : (atLoop V H hold s t l0 (H.toNat + 1)).2.2 = waitsK (kindsB V H hold s t l0 (H.toNat + 1)) := log2 _
  have hL2 := log2_ok (hold := hold) (s := s) (t := t) hok
  unfold out2
  cases h0 : k.f0
  ·cases h1 : k.f1
   ·obtain ⟨a, ha, ⟨i, hi, hm⟩ | ⟨v, hv, hm⟩⟩ := mem_kindsB.1 hjk
    ·rw [mvAt_some] at hm; rw [hm.2] at h0; cases h0
    ·rw [wtAt_some] at hm; rw [hm.2] at h1; cases h1
   ·obtain ⟨a, v, ha, hv, hk, h2, _⟩ := kind_wait hjk h1
    have hmem : ((k.f3, k.f4), (j : Int)) ∈ (atLoop V H hold s t l0 (H.toNat + 1)).2.2 := by rw [hlog]; exact waitsK_mem.2 ⟨j, k, hj, h1, rfl⟩
    have h3 := setAll_at _ (fun p : (Int × Int) × Int => p.2.toNat) (fun p => stockAt (SM V l0 H M) p.1.2 p.1.1) (out1 (gridMoves V H hold s t l0) M (gridArcs V H hold s t l0).length) hL2.idx hmem (by
     show ((j : Int)).toNat < _
     rw [Int.toNat_natCast, out1_length]; omega)
    simp only [Int.toNat_natCast] at h3
    rw [h3]
    unfold valK
    rw [if_neg (by rw [h0]; exact Bool.false_ne_true), if_pos h1, hk]
    exact congrArg some (hrow a (v : Int) (by unfold tH; omega) (by omega) (by omega))
  ·have hno : ∀ p ∈ (atLoop V H hold s t l0 (H.toNat + 1)).2.2, p.2.toNat ≠ j := by
    intro p hp e
    rw [hlog] at hp
    obtain ⟨i, k', hi, hk', rfl⟩ := waitsK_mem.1 hp
    simp only [Int.toNat_natCast] at e
    subst e
    rw [hi] at hj
    have e2 : k' = k := Option.some.inj hj
    subst e2
    obtain ⟨a, v, ha, hv, hk, _⟩ := kind_wait hjk hk'
    rw [hk] at h0; cases h0
   rw [setAll_other _ _ _ _ hno]
   obtain ⟨a, i, ha, hi, hk, _⟩ := kind_move hjk h0
   unfold valK
   rw [if_pos h0]
   unfold out1
   have hidx : ∀ m ∈ M, (idxM (gridMoves V H hold s t l0) m).toNat = j ↔ m.f0 = k.f2 ∧ m.f1 = k.f4 := by
    intro m hm
    obtain ⟨j', hj', e⟩ := idx_of (V := V) (hold := hold) hn (hmay m hm)
    rw [e, Int.toNat_natCast]
    constructor
    ·intro e2
     subst e2
     rw [hj] at hj'
     have e3 : k = ⟨true, false, m.f0, 0, m.f1⟩ := Option.some.inj hj'
     rw [e3]
     exact ⟨rfl, rfl⟩
    ·rintro ⟨e2, e3⟩
     have hm1 : ((m.f0, m.f1), (j' : Int)) ∈ movesK (kindsB V H hold s t l0 (H.toNat + 1)) := movesK_mem.2 ⟨j', _, hj', rfl, rfl⟩
     have hm2 : ((m.f0, m.f1), (j : Int)) ∈ movesK (kindsB V H hold s t l0 (H.toNat + 1)) := movesK_mem.2 ⟨j, k, hj, h0, by rw [e2, e3]⟩
     have hnd := kord_nodup (movesK_sorted (kindsB_sorted (V := V) (H := H) (s := s) (t := t) (hold := hold) (l0 := l0) (H.toNat + 1)))
     have q1 := lookM_mem _ none _ hnd hm1
     have q2 := lookM_mem _ none _ hnd hm2
     have q3 : some (j' : Int) = some (j : Int) := q1.symm.trans q2
     have := Option.some.inj q3
     omega
   have hdist : M.Pairwise (fun x y => (idxM (gridMoves V H hold s t l0) x).toNat ≠ (idxM (gridMoves V H hold s t l0) y).toNat) := by
    refine List.Pairwise.imp_of_mem ?_ hsrt
    intro x y hx hy hxy e
    obtain ⟨j1, g1, e1⟩ := idx_of (V := V) (hold := hold) hn (hmay x hx)
    obtain ⟨j2, g2, e2⟩ := idx_of (V := V) (hold := hold) hn (hmay y hy)
    rw [e1, e2, Int.toNat_natCast, Int.toNat_natCast] at e
    subst e
    rw [g1] at g2
    have e3 := Option.some.inj g2
    have e4 : x.f0 = y.f0 := congrArg S83.f2 e3
    have e5 : x.f1 = y.f1 := congrArg S83.f4 e3
    unfold mlt at hxy
    omega
   by_cases cm : ∃ m ∈ M, m.f0 = k.f2 ∧ m.f1 = k.f4
   ·obtain ⟨m, hm, hk2⟩ := cm
    have h3 := setAll_at M (fun m => (idxM (gridMoves V H hold s t l0) m).toNat) S85.f2 (List.replicate (gridArcs V H hold s t l0).length 0) hdist hm (by
     have := (hidx m hm).2 hk2
     simp only [this, List.length_replicate]
     omega)
    have e4 := (hidx m hm).2 hk2
    simp only [e4] at h3
    rw [h3, ← hk2.1, ← hk2.2, lookN_mem hsrt hm]
   ·rw [setAll_other _ _ _ _ (fun m hm e => cm ⟨m, hm, (hidx m hm).1 e⟩), List.getElem?_replicate, if_pos (by omega), lookN_none (fun m hm e => cm ⟨m, hm, e⟩)]
 ·obtain ⟨a, ha⟩ : ∃ a, j = (kindsB V H hold s t l0 (H.toNat + 1)).length + a := ⟨j - (kindsB V H hold s t l0 (H.toNat + 1)).length, by omega⟩
  have hW := fun v b => hbd v b
  by_cases cB : a < H.toNat + 1
  ·rw [ha, out3_first (by rw [ho2, hN]; exact Nat.le_refl _) _ cB (Nat.le_refl _), List.getElem?_map, List.append_assoc, List.getElem?_append_right (by omega), Nat.add_sub_cancel_left, List.getElem?_append_left (by rw [kEnds_length]; exact cB)]
   unfold kEnds
   rw [List.getElem?_map, List.getElem?_range cB, Option.map_some, Option.map_some]
   refine congrArg some ?_
   unfold valK
   rw [if_neg Bool.false_ne_true, if_neg Bool.false_ne_true, if_pos rfl]
   show leftN (SM V l0 H M) s a = wrap64 (-(wrap64 (wsum (cStk l0 s (a : Int)) M - wsum (cStk l0 s ((a : Int) - 1)) M)))
   unfold leftN
   have h1 := hbd s (a : Int)
   have h2 := hbd s ((a : Int) - 1)
   by_cases ca : a = 0
   ·subst ca
    rw [if_pos rfl, show (0 : Int) = ((0 : Nat) : Int) from rfl, hrow 0 s (by unfold tH; omega) hs.1 hs.2, show ((0 : Nat) : Int) - 1 = -1 from rfl, hneg, Int.sub_zero, w64 (n := wsum (cStk l0 s ((0 : Nat) : Int)) M) (by omega) (by omega)]
   ·have e1 : ((a : Int) - 1) = ((a - 1 : Nat) : Int) := by omega
    rw [if_neg ca, hrow a s (by unfold tH; omega) hs.1 hs.2, hrow (a - 1) s (by unfold tH; omega) hs.1 hs.2, e1]
    rw [e1] at h2
    rw [w64 (n := -(wsum (cStk l0 s (a : Int)) M)) (by omega) (by omega), w64 (n := wsum (cStk l0 s (a : Int)) M - wsum (cStk l0 s ((a - 1 : Nat) : Int)) M) (by omega) (by omega)]
    congr 1
    omega
  ·obtain ⟨c, hc⟩ : ∃ c, a = (H.toNat + 1) + c := ⟨a - (H.toNat + 1), by omega⟩
   by_cases cC : c < H.toNat + 1
   ·rw [ha, hc, ← Nat.add_assoc, out3_last (by rw [ho2, hN]; exact Nat.le_refl _) _ cC (Nat.le_refl _), List.getElem?_map, List.append_assoc, List.getElem?_append_right (by omega), show (kindsB V H hold s t l0 (H.toNat + 1)).length + (H.toNat + 1) + c - (kindsB V H hold s t l0 (H.toNat + 1)).length = (H.toNat + 1) + c from by omega, List.getElem?_append_right (by rw [kEnds_length]; omega), kEnds_length, Nat.add_sub_cancel_left]
    unfold kEnds
    rw [List.getElem?_map, List.getElem?_range cC, Option.map_some, Option.map_some]
    refine congrArg some ?_
    unfold valK
    rw [if_neg Bool.false_ne_true, if_neg Bool.false_ne_true, if_neg (fun e => hst e.symm)]
    show cameN (SM V l0 H M) t c = wrap64 (wsum (cStk l0 t (c : Int)) M - wsum (cStk l0 t ((c : Int) - 1)) M)
    unfold cameN
    have h1 := hbd t (c : Int)
    by_cases ca : c = 0
    ·subst ca
     rw [if_pos rfl, show (0 : Int) = ((0 : Nat) : Int) from rfl, hrow 0 t (by unfold tH; omega) ht.1 ht.2, show ((0 : Nat) : Int) - 1 = -1 from rfl, hneg, Int.sub_zero, w64 (n := wsum (cStk l0 t ((0 : Nat) : Int)) M) (by omega) (by omega)]
    ·have e1 : ((c : Int) - 1) = ((c - 1 : Nat) : Int) := by omega
     rw [if_neg ca, hrow c t (by unfold tH; omega) ht.1 ht.2, hrow (c - 1) t (by unfold tH; omega) ht.1 ht.2, e1]
   ·rw [List.getElem?_eq_none (by rw [out3_length, ho2, hN]; omega), List.getElem?_eq_none (by rw [List.length_map, List.length_append, List.length_append, kEnds_length, kEnds_length]; omega)]
end
noncomputable def flowR (hold : Bool) (n : Int) (arcs : List S54) (s t h : Int) (l : List S85) : List Int × Int :=
 if expErr n arcs s t h = 0 then (if (planR hold n arcs s t h l).2 = 0 then ((gridKinds n h hold s t arcs).map (valK arcs (mergedR n arcs s t h l).1 s), 0) else ([], (planR hold n arcs s t h l).2)) else ([], expErr n arcs s t h)
section
variable {n : Int} {hold : Bool} {arcs : List S54} {s t h : Int} {l : List S85} (hlen : l.length ≤ 1048576) (hl : ∀ x ∈ l, OkM x)
include hlen hl
theorem pflow_ev : Ev (fun k => expand_Flow.f k n hold arcs s t h l) (flowR hold n arcs s t h l) := by
 unfold expand_Flow.f flowR
 refine Ev.bind (easked_ev n hold arcs s t h) ?_
 by_cases c : expErr n arcs s t h = 0
 ·obtain ⟨h1, h2, h3, h4⟩ := expErr_ok c
  simp only [c, if_true]
  refine Ev.bind (checkP_ev hlen hl) ?_
  by_cases d : (planR hold n arcs s t h l).2 = 0
  ·simp only [d, if_true]
   obtain ⟨k0, -, -⟩ := planR_ok d
   have ho := mergedR_ok k0
   have e1 : stocksR n arcs s t h l = (SM n arcs h (mergedR n arcs s t h l).1, 0) := by unfold stocksR; rw [if_pos k0]
   have e2 : mergeR l = ((mergedR n arcs s t h l).1, 0) := by unfold mergeR; rw [if_pos ho.fit, ho.is]
   have hS := stocksP_ev (hold := hold) (n := n) (arcs := arcs) (s := s) (t := t) (h := h) hlen hl
   have hM := moves_ev l hlen hl
   rw [e1] at hS
   rw [e2] at hM
   refine Ev.bind hS (Ev.bind hM ?_)
   have hsrt : (mergedR n arcs s t h l).1.Pairwise mlt := by rw [ho.is]; exact (mergeL_is l).sorted
   have hml := merged_len hlen k0
   have hok := okNet_of h1 h4
   have hfo : flowOk n h (gridMoves n h hold s t arcs) (gridArcs n h hold s t arcs).length (SM n arcs h (mergedR n arcs s t h l).1) (mergedR n arcs s t h l).1 = true := by
    unfold flowOk
    simp only [Bool.and_eq_true, decide_eq_true_eq]
    refine ⟨⟨mat_length _ _ _, List.all_eq_true.2 fun r hr => ?_⟩, hml, List.all_eq_true.2 fun m hm => ?_⟩
    ·unfold SM mat row at hr
     obtain ⟨a, _, rfl⟩ := List.mem_map.1 hr
     rw [List.length_map, List.length_range]
     exact decide_eq_true rfl
    ·have hy := ho.may m hm
     obtain ⟨j, hj, e⟩ := idx_of (V := n) (hold := hold) h1 hy
     have hlt := (List.getElem?_eq_some_iff.1 hj).1
     have hKg : (kindsB n h hold s t arcs (h.toNat + 1)).length ≤ (gridArcs n h hold s t arcs).length := by
      unfold gridArcs
      rw [arcs1, List.length_append, List.length_append, List.length_map]; omega
     have a0 := hy.a0
     have a1 := hy.a1
     have b0 := hy.b0
     have b1 := hy.b1
     have f3 := (arcAt_ok h1 a0 a1).f3
     have hln := h1.len
     rw [e]
     exact decide_eq_true ⟨⟨a0, by omega, b0, by omega⟩, by omega, by omega⟩
   simp only [show (okNet n h arcs = true ∧ (0 ≤ s ∧ s < n ∧ 0 ≤ t ∧ t < n)) ∧ flowOk n h (gridMoves n h hold s t arcs) (gridArcs n h hold s t arcs).length (SM n arcs h (mergedR n arcs s t h l).1) (mergedR n arcs s t h l).1 = true from ⟨⟨hok, h2.1, h2.2, h3.1, h3.2⟩, hfo⟩, and_self, if_true]
   rw [flow_all h1 h4 h2 h3 ho.ends.2.2.2.2 hml hsrt ho.may]
   exact Ev.now _
  ·simp only [d, if_false]; exact Ev.now _
 ·simp only [c, if_false]; exact Ev.now _
end
def sm {α : Type} (f : α → Int) : List α → Int
 | [] => 0
 | x :: l => f x + sm f l
section
variable {α β : Type}
theorem sm_append (f : α → Int) (l l' : List α) : sm f (l ++ l') = sm f l + sm f l' := by
 induction l with
 | nil => simp [sm]
 | cons x l ih => rw [List.cons_append, sm, sm, ih]; omega
theorem sm_snoc (f : α → Int) (l : List α) (x : α) : sm f (l ++ [x]) = sm f l + f x := by rw [sm_append, sm, sm]; omega
theorem sm_congr {f g : α → Int} {l : List α} (h : ∀ x ∈ l, f x = g x) : sm f l = sm g l := by
 induction l with
 | nil => rfl
 | cons x l ih => rw [sm, sm, h x List.mem_cons_self, ih (fun y hy => h y (List.mem_cons_of_mem _ hy))]
theorem sm_add (f g : α → Int) (l : List α) : sm (fun x => f x + g x) l = sm f l + sm g l := by
 induction l with
 | nil => rfl
 | cons x l ih => rw [sm, sm, sm, ih]; omega
theorem sm_neg (f : α → Int) (l : List α) : sm (fun x => -f x) l = -sm f l := by
 induction l with
 | nil => rfl
 | cons x l ih => rw [sm, sm, ih]; omega
theorem sm_zero {f : α → Int} {l : List α} (h : ∀ x ∈ l, f x = 0) : sm f l = 0 := by
 induction l with
 | nil => rfl
 | cons x l ih => rw [sm, h x List.mem_cons_self, ih (fun y hy => h y (List.mem_cons_of_mem _ hy))]; rfl
theorem sm_map (f : β → Int) (g : α → β) (l : List α) : sm f (l.map g) = sm (fun x => f (g x)) l := by
 induction l with
 | nil => rfl
 | cons x l ih => rw [List.map_cons, sm, sm, ih]
theorem sm_bd {f : α → Int} {l : List α} {B : Int} (h : ∀ x ∈ l, -B ≤ f x ∧ f x ≤ B) : -(B * (l.length : Int)) ≤ sm f l ∧ sm f l ≤ B * (l.length : Int) := by
 induction l with
 | nil => simp [sm]
 | cons x l ih =>
  have h1 := h x List.mem_cons_self
  have h2 := ih (fun y hy => h y (List.mem_cons_of_mem _ hy))
  rw [sm, List.length_cons, Int.natCast_add, Int.mul_add]
  omega
end
def arcAll (V H s : Int) (l0 : List S54) (k : S83) : S54 :=
 if k.f0 = true ∨ k.f1 = true then arcK V l0 k else if k.f3 = s then ⟨(H + 1) * V, k.f4 * V + s, 1099511627776, 0⟩ else ⟨k.f4 * V + k.f3, (H + 1) * V + 1, 1099511627776, 0⟩
section
variable {V H s t : Int} {hold : Bool} {l0 : List S54}
theorem arcs_all (hst : s ≠ t) : gridArcs V H hold s t l0 = (gridKinds V H hold s t l0).map (arcAll V H s l0) := by
 rw [kinds_eq, List.map_append, List.map_append]
 unfold gridArcs
 rw [arcs1]
 congr 1
 ·congr 1
  ·refine List.map_congr_left fun k hk => ?_
   have : k.f0 = true ∨ k.f1 = true := by
    obtain ⟨a, ha, ⟨i, hi, hm⟩ | ⟨v, hv, hm⟩⟩ := mem_kindsB.1 hk
    ·rw [mvAt_some] at hm; rw [hm.2]; exact Or.inl rfl
    ·rw [wtAt_some] at hm; rw [hm.2]; exact Or.inr rfl
   unfold arcAll
   rw [if_pos this]
  ·unfold firstsA kEnds
   rw [List.map_map]
   refine List.map_congr_left fun a _ => ?_
   show _ = arcAll V H s l0 ⟨false, false, 0, s, (a : Int)⟩
   unfold arcAll
   rw [if_neg (by simp), if_pos rfl]
 ·unfold lastsA kEnds
  rw [List.map_map]
  refine List.map_congr_left fun a _ => ?_
  show _ = arcAll V H s l0 ⟨false, false, 0, t, (a : Int)⟩
  unfold arcAll
  rw [if_neg (by simp), if_neg (fun e => hst e.symm)]
structure MvK (H s t : Int) (l0 : List S54) (k : S83) : Prop where
 n1 : k.f1 = false
 i0 : 0 ≤ k.f2
 i1 : k.f2 < (l0.length : Int)
 a0 : 0 ≤ k.f4
 a1 : k.f4 + (arcAt l0 k.f2).f3 ≤ H
 e1 : (arcAt l0 k.f2).f1 ≠ s
 e0 : (arcAt l0 k.f2).f0 ≠ t
structure WtK (V H s t : Int) (hold : Bool) (k : S83) : Prop where
 n0 : k.f0 = false
 v0 : 0 ≤ k.f3
 v1 : k.f3 < V
 ns : k.f3 ≠ s
 nt : k.f3 ≠ t
 a0 : 0 ≤ k.f4
 a1 : k.f4 < H
 ho : hold = true
theorem kind_cases (hh : 0 ≤ H) {k : S83} (hk : k ∈ gridKinds V H hold s t l0) : (k.f0 = true ∧ MvK H s t l0 k) ∨ (k.f1 = true ∧ WtK V H s t hold k) ∨ (k.f0 = false ∧ k.f1 = false ∧ (k.f3 = s ∨ k.f3 = t) ∧ 0 ≤ k.f4 ∧ k.f4 ≤ H) := by
 rw [kinds_eq] at hk
 rcases List.mem_append.1 hk with hk | hk
 ·rcases List.mem_append.1 hk with hk | hk
  ·obtain ⟨a, ha, ⟨i, hi, hm⟩ | ⟨v, hv, hm⟩⟩ := mem_kindsB.1 hk
   ·rw [mvAt_some] at hm
    obtain ⟨⟨h1, h2, h3⟩, rfl⟩ := hm
    rw [← arcAt_getD] at h1 h2 h3
    exact Or.inl ⟨rfl, rfl, Int.natCast_nonneg _, by show (i : Int) < _; omega, Int.natCast_nonneg _, h1, h2, h3⟩
   ·rw [wtAt_some] at hm
    obtain ⟨⟨h1, h2, h3, h4⟩, rfl⟩ := hm
    exact Or.inr (Or.inl ⟨rfl, rfl, Int.natCast_nonneg _, by show (v : Int) < _; omega, h3, h4, Int.natCast_nonneg _, h1, h2⟩)
  ·unfold kEnds at hk
   obtain ⟨a, ha, rfl⟩ := List.mem_map.1 hk
   have := List.mem_range.1 ha
   exact Or.inr (Or.inr ⟨rfl, rfl, Or.inl rfl, Int.natCast_nonneg _, by show (a : Int) ≤ _; omega⟩)
 ·unfold kEnds at hk
  obtain ⟨a, ha, rfl⟩ := List.mem_map.1 hk
  have := List.mem_range.1 ha
  exact Or.inr (Or.inr ⟨rfl, rfl, Or.inr rfl, Int.natCast_nonneg _, by show (a : Int) ≤ _; omega⟩)
theorem cell_lt {a u b : Int} (hV : 0 < V) (hu : u < V) (hab : a < b) : a * V + u < b * V := by
 have h1 : (a + 1) * V ≤ b * V := Int.mul_le_mul_of_nonneg_right (by omega) (by omega)
 rw [Int.add_mul, Int.one_mul] at h1
 omega
theorem cell_eq {a u b w : Int} (hV : 0 < V) (hu : 0 ≤ u ∧ u < V) (hw : 0 ≤ w ∧ w < V) : a * V + u = b * V + w ↔ a = b ∧ u = w := by
 constructor
 ·intro h
  rcases Int.lt_trichotomy a b with c | c | c
  ·have := cell_lt hV hu.2 c; omega
  ·subst c; exact ⟨rfl, by omega⟩
  ·have := cell_lt hV hw.2 c; omega
 ·rintro ⟨rfl, rfl⟩; rfl
def dl (x v : Int) : Int := if x = v then 1 else 0
def con (V H s : Int) (l0 : List S54) (v : Int) (p : S83 × Int) : Int := p.2 * (dl (arcAll V H s l0 p.1).f0 v - dl (arcAll V H s l0 p.1).f1 v)
def mvP (l0 : List S54) (c : Int × Int → Int) (p : S83 × Int) : Int := if p.1.f0 = true then p.2 * c (p.1.f2, p.1.f4) else 0
def wP (u a : Int) (p : S83 × Int) : Int := if p.1.f1 = true ∧ p.1.f3 = u ∧ p.1.f4 = a then p.2 else 0
def eP (u a : Int) (p : S83 × Int) : Int := if p.1.f0 = false ∧ p.1.f1 = false ∧ p.1.f3 = u ∧ p.1.f4 = a then p.2 else 0
def eA (u : Int) (p : S83 × Int) : Int := if p.1.f0 = false ∧ p.1.f1 = false ∧ p.1.f3 = u then p.2 else 0
theorem con_cell (hn : NetOk V l0) (hs : 0 ≤ s ∧ s < V) (ht : 0 ≤ t ∧ t < V) (hst : s ≠ t) (hh : 0 ≤ H) {a u : Int} (ha : 0 ≤ a ∧ a ≤ H) (hu : 0 ≤ u ∧ u < V) {p : S83 × Int} (hp : p.1 ∈ gridKinds V H hold s t l0) :
 con V H s l0 (a * V + u) p = -mvP l0 (cNow l0 u a) p + wP u a p - wP u (a - 1) p - (if u = s then eP s a p else 0) + (if u = t then eP t a p else 0) := by
 obtain ⟨k, x⟩ := p
 replace hp : k ∈ gridKinds V H hold s t l0 := hp
 have hV : 0 < V := by have := hn.lo; omega
 unfold con
 rcases kind_cases hh hp with ⟨h0, hk⟩ | ⟨h1, hk⟩ | ⟨h0, h1, hk, k0, k1⟩
 ·have e : arcAll V H s l0 k = ⟨k.f4 * V + (arcAt l0 k.f2).f0, (k.f4 + (arcAt l0 k.f2).f3) * V + (arcAt l0 k.f2).f1, (arcAt l0 k.f2).f2, 0⟩ := by
   unfold arcAll arcK
   rw [if_pos (Or.inl h0), if_pos h0]
   rfl
  have ho := arcAt_ok hn hk.i0 hk.i1
  simp only [e, mvP, wP, eP, h0, hk.n1, if_true, Bool.false_eq_true, false_and, if_false, Bool.true_eq_false, ite_self]
  have q0 := cell_eq (a := k.f4) (b := a) hV ho.f0 hu
  have q1 := cell_eq (a := k.f4 + (arcAt l0 k.f2).f3) (b := a) hV ho.f1 hu
  unfold dl cNow
  simp only [q0, q1]
  generalize (arcAt l0 k.f2).f0 = fr
  generalize (arcAt l0 k.f2).f1 = tn
  generalize (arcAt l0 k.f2).f3 = ti
  have c0 : (k.f4 = a ∧ fr = u) ↔ (fr = u ∧ k.f4 = a) := And.comm
  have c1 : (k.f4 + ti = a ∧ tn = u) ↔ (tn = u ∧ k.f4 + ti = a) := And.comm
  simp only [c0, c1]
  by_cases d0 : fr = u ∧ k.f4 = a
  ·by_cases d1 : tn = u ∧ k.f4 + ti = a
   ·rw [if_pos d0, if_pos d1]; simp
   ·rw [if_pos d0, if_neg d1]; simp
  ·by_cases d1 : tn = u ∧ k.f4 + ti = a
   ·rw [if_neg d0, if_pos d1]; simp
   ·rw [if_neg d0, if_neg d1]; simp
 ·have e : arcAll V H s l0 k = ⟨k.f4 * V + k.f3, (k.f4 + 1) * V + k.f3, 1099511627776, 0⟩ := by
   unfold arcAll arcK
   rw [if_pos (Or.inr h1), if_neg (by rw [hk.n0]; exact Bool.false_ne_true)]
  simp only [e, mvP, wP, eP, h1, hk.n0, if_true, true_and, Bool.false_eq_true, false_and, if_false, Bool.true_eq_false, ite_self]
  have q0 := cell_eq (a := k.f4) (b := a) hV ⟨hk.v0, hk.v1⟩ hu
  have q1 := cell_eq (a := k.f4 + 1) (b := a) hV ⟨hk.v0, hk.v1⟩ hu
  unfold dl
  simp only [q0, q1]
  have c0 : (k.f4 = a ∧ k.f3 = u) ↔ (k.f3 = u ∧ k.f4 = a) := And.comm
  have c1 : (k.f4 + 1 = a ∧ k.f3 = u) ↔ (k.f3 = u ∧ k.f4 = a - 1) := by omega
  simp only [c0, c1]
  by_cases d0 : k.f3 = u ∧ k.f4 = a
  ·have d1 : ¬ (k.f3 = u ∧ k.f4 = a - 1) := by omega
   rw [if_pos d0, if_neg d1, if_pos d0, if_neg d1]; simp
  ·by_cases d1 : k.f3 = u ∧ k.f4 = a - 1
   ·rw [if_neg d0, if_pos d1, if_neg d0, if_pos d1]; simp
   ·rw [if_neg d0, if_neg d1, if_neg d0, if_neg d1]; simp
 ·have big : ∀ j : Int, 0 ≤ j → j ≤ 1 → (H + 1) * V + j ≠ a * V + u := fun j hj _ e => by
   have := cell_lt (a := a) (b := H + 1) hV hu.2 (by omega)
   omega
  have b0 := big 0 (by omega) (by omega)
  have b1 := big 1 (by omega) (by omega)
  rw [Int.add_zero] at b0
  rcases hk with hk | hk
  ·have e : arcAll V H s l0 k = ⟨(H + 1) * V, k.f4 * V + s, 1099511627776, 0⟩ := by
    unfold arcAll
    rw [if_neg (by rw [h0, h1]; simp), if_pos hk]
   simp only [e, mvP, wP, eP, h0, h1, hk, Bool.false_eq_true, false_and, if_false, true_and]
   have q1 := cell_eq (a := k.f4) (b := a) hV hs hu
   unfold dl
   simp only [q1, b0, if_false, hst]
   by_cases d0 : u = s
   ·subst d0
    by_cases d1 : k.f4 = a
    ·simp [d1, hst]
    ·simp [d1, hst]
   ·have d2 : ¬ s = u := fun e => d0 e.symm
    have hts : ¬ t = s := fun e => hst e.symm
    by_cases d3 : u = t <;> simp [d0, d2, d3, hst, hts]
  ·have e : arcAll V H s l0 k = ⟨k.f4 * V + t, (H + 1) * V + 1, 1099511627776, 0⟩ := by
    unfold arcAll
    rw [if_neg (by rw [h0, h1]; simp), if_neg (by rw [hk]; exact fun e => hst e.symm), hk]
   have hts : ¬ t = s := fun e => hst e.symm
   simp only [e, mvP, wP, eP, h0, h1, hk, Bool.false_eq_true, false_and, if_false, true_and, hts]
   have q1 := cell_eq (a := k.f4) (b := a) hV ht hu
   unfold dl
   simp only [q1, b1, if_false]
   by_cases d0 : u = t
   ·subst d0
    by_cases d1 : k.f4 = a
    ·simp [d1, hts]
    ·simp [d1, hts]
   ·have d2 : ¬ t = u := fun e => d0 e.symm
    simp [d0, d2, hts]
theorem con_first (hn : NetOk V l0) (hs : 0 ≤ s ∧ s < V) (ht : 0 ≤ t ∧ t < V) (hst : s ≠ t) (hh : 0 ≤ H) {p : S83 × Int} (hp : p.1 ∈ gridKinds V H hold s t l0) : con V H s l0 ((H + 1) * V) p = eA s p ∧ con V H s l0 ((H + 1) * V + 1) p = -eA t p := by
 obtain ⟨k, x⟩ := p
 replace hp : k ∈ gridKinds V H hold s t l0 := hp
 have hV : 0 < V := by have := hn.lo; omega
 have far : ∀ b u j : Int, b ≤ H → u < V → 0 ≤ j → b * V + u ≠ (H + 1) * V + j := fun b u j hb hu hj e => by
  have := cell_lt (a := b) (b := H + 1) hV hu (by omega)
  omega
 unfold con eA
 rcases kind_cases hh hp with ⟨h0, hk⟩ | ⟨h1, hk⟩ | ⟨h0, h1, hk, k0, k1⟩
 ·have e : arcAll V H s l0 k = ⟨k.f4 * V + (arcAt l0 k.f2).f0, (k.f4 + (arcAt l0 k.f2).f3) * V + (arcAt l0 k.f2).f1, (arcAt l0 k.f2).f2, 0⟩ := by
   unfold arcAll arcK
   rw [if_pos (Or.inl h0), if_pos h0]
   rfl
  have ho := arcAt_ok hn hk.i0 hk.i1
  have o3 := ho.f3
  have o0 := ho.f0
  have o1 := ho.f1
  have a1 := hk.a1
  have f0 := far k.f4 _ 0 (by omega) o0.2 (by omega)
  have f1 := far (k.f4 + (arcAt l0 k.f2).f3) _ 0 hk.a1 o1.2 (by omega)
  have f2 := far k.f4 _ 1 (by omega) o0.2 (by omega)
  have f3 := far (k.f4 + (arcAt l0 k.f2).f3) _ 1 hk.a1 o1.2 (by omega)
  rw [Int.add_zero] at f0 f1
  unfold dl
  simp [e, h0, f0, f1, f2, f3]
 ·have e : arcAll V H s l0 k = ⟨k.f4 * V + k.f3, (k.f4 + 1) * V + k.f3, 1099511627776, 0⟩ := by
   unfold arcAll arcK
   rw [if_pos (Or.inr h1), if_neg (by rw [hk.n0]; exact Bool.false_ne_true)]
  have a1 := hk.a1
  have f0 := far k.f4 _ 0 (by omega) hk.v1 (by omega)
  have f1 := far (k.f4 + 1) _ 0 (by omega) hk.v1 (by omega)
  have f2 := far k.f4 _ 1 (by omega) hk.v1 (by omega)
  have f3 := far (k.f4 + 1) _ 1 (by omega) hk.v1 (by omega)
  rw [Int.add_zero] at f0 f1
  unfold dl
  simp [e, h1, hk.n0, f0, f1, f2, f3]
 ·rcases hk with hk | hk
  ·have e : arcAll V H s l0 k = ⟨(H + 1) * V, k.f4 * V + s, 1099511627776, 0⟩ := by
    unfold arcAll
    rw [if_neg (by rw [h0, h1]; simp), if_pos hk]
   have f0 := far k.f4 s 0 k1 hs.2 (by omega)
   have f1 := far k.f4 s 1 k1 hs.2 (by omega)
   rw [Int.add_zero] at f0
   have g : ¬ (H + 1) * V = (H + 1) * V + 1 := by omega
   unfold dl
   simp [e, h0, h1, hk, f0, f1, g, hst]
  ·have e : arcAll V H s l0 k = ⟨k.f4 * V + t, (H + 1) * V + 1, 1099511627776, 0⟩ := by
    unfold arcAll
    rw [if_neg (by rw [h0, h1]; simp), if_neg (by rw [hk]; exact fun e => hst e.symm), hk]
   have hts : ¬ t = s := fun e => hst e.symm
   have f0 := far k.f4 t 0 k1 ht.2 (by omega)
   have f1 := far k.f4 t 1 k1 ht.2 (by omega)
   rw [Int.add_zero] at f0
   have g : ¬ (H + 1) * V + 1 = (H + 1) * V := by omega
   unfold dl
   simp [e, h0, h1, hk, f0, f1, g, hts]
end
theorem rdI_of {l : List Int} {i : Nat} (h : i < l.length) : rd l (i : Int) = l[i] := by unfold rd; simp [List.getD_eq_getElem?_getD, List.getElem?_eq_getElem h]
theorem told_take (l0 : List S54) (c : Int × Int → Int) {K : List S83} {f : List Int} (hf : f.length = K.length) (hp : ∀ i (h : i < f.length), 0 ≤ f[i]) :
 ∀ i, i ≤ K.length → wsum c (toldL f (movesK (K.take i))) = sm (mvP l0 c) ((K.zip f).take i) := by
 intro i
 induction i with
 | zero => intro _; rfl
 | succ i ih =>
  intro hi
  have hz : i < (K.zip f).length := by rw [List.length_zip]; omega
  have h0 := hp i (by omega)
  rw [movesK_take (by omega), toldL_append, wsum_append, ih (by omega), List.take_succ_eq_append_getElem hz, sm_snoc]
  congr 1
  rw [List.getElem_zip]
  unfold mvK mvP
  cases c0 : (K[i]'(by omega)).f0
  ·simp [c0, toldL, wsum_nil]
  ·simp only [c0, if_true, Option.toList_some]
   unfold toldL
   simp only [List.filterMap_cons, List.filterMap_nil, rdI_of (show i < f.length by omega)]
   by_cases c1 : 0 < f[i]'(by omega)
   ·rw [if_pos c1]
    simp only [wsum_cons, wsum_nil, Int.add_zero]
    exact Int.mul_comm _ _
   ·have e : f[i]'(by omega) = 0 := by omega
    rw [if_neg c1]
    simp only [wsum_nil, e, Int.zero_mul]
theorem told_sum (l0 : List S54) (c : Int × Int → Int) {K : List S83} {f : List Int} (hf : f.length = K.length) (hp : ∀ i (h : i < f.length), 0 ≤ f[i]) : wsum c (toldL f (movesK K)) = sm (mvP l0 c) (K.zip f) := by
 have h := told_take l0 c hf hp K.length (Nat.le_refl _)
 rw [List.take_of_length_le (Nat.le_refl _), List.take_of_length_le (by rw [List.length_zip]; omega)] at h
 exact h
theorem kindsB_nodup {V H s t : Int} {hold : Bool} {l0 : List S54} (n : Nat) : (kindsB V H hold s t l0 n).Nodup := by
 rw [List.Nodup]
 refine List.Pairwise.imp_of_mem ?_ (kindsB_sorted (V := V) (H := H) (hold := hold) (s := s) (t := t) (l0 := l0) n)
 intro x y hx hy h e
 subst e
 unfold klt at h
 obtain ⟨a, ha, ⟨i, hi, hm⟩ | ⟨v, hv, hm⟩⟩ := mem_kindsB.1 hx
 ·rw [mvAt_some] at hm
  rw [hm.2] at h
  simp at h
 ·rw [wtAt_some] at hm
  rw [hm.2] at h
  simp at h
theorem kEnds_nodup (v : Int) (n : Nat) : (kEnds v n).Nodup := by
 unfold kEnds
 rw [List.Nodup, List.pairwise_map]
 refine (range_lt n).imp ?_
 intro a b h e
 have := congrArg S83.f4 e
 simp only at this
 omega
theorem kinds_nodup {V H s t : Int} {hold : Bool} {l0 : List S54} (hst : s ≠ t) : (gridKinds V H hold s t l0).Nodup := by
 have hB : ∀ k ∈ kindsB V H hold s t l0 (H.toNat + 1), k.f0 = true ∨ k.f1 = true := fun k hk => by
  obtain ⟨a, ha, ⟨i, hi, hm⟩ | ⟨v, hv, hm⟩⟩ := mem_kindsB.1 hk
  ·rw [mvAt_some] at hm; rw [hm.2]; exact Or.inl rfl
  ·rw [wtAt_some] at hm; rw [hm.2]; exact Or.inr rfl
 rw [kinds_eq, List.nodup_append]
 refine ⟨?_, kEnds_nodup _ _, ?_⟩
 ·rw [List.nodup_append]
  refine ⟨kindsB_nodup _, kEnds_nodup _ _, ?_⟩
  intro x hx y hy e
  subst e
  have h1 := kEnds_mem hy
  rcases hB x hx with h | h
  ·rw [h1.1] at h; cases h
  ·rw [h1.2.1] at h; cases h
 ·intro x hx y hy e
  subst e
  have h1 := kEnds_mem hy
  rcases List.mem_append.1 hx with hx | hx
  ·rcases hB x hx with h | h
   ·rw [h1.1] at h; cases h
   ·rw [h1.2.1] at h; cases h
  ·have h2 := kEnds_mem hx
   exact hst (h2.2.2.symm.trans h1.2.2)
theorem sm_one {α : Type} [DecidableEq α] {K : List α} (hK : K.Nodup) (k0 : α) (x : Int) : sm (fun k => if k = k0 then x else 0) K = if k0 ∈ K then x else 0 := by
 induction K with
 | nil => simp [sm]
 | cons k K ih =>
  rw [List.nodup_cons] at hK
  rw [sm, ih hK.2]
  by_cases c : k = k0
  ·subst c
   rw [if_pos rfl, if_neg hK.1, if_pos List.mem_cons_self, Int.add_zero]
  ·rw [if_neg c, Int.zero_add]
   by_cases c2 : k0 ∈ K
   ·rw [if_pos c2, if_pos (List.mem_cons_of_mem _ c2)]
   ·rw [if_neg c2, if_neg (fun h => (List.mem_cons.1 h).elim (fun e => c e.symm) c2)]
theorem zip_map {α : Type} (K : List α) (g : α → Int) : K.zip (K.map g) = K.map (fun k => (k, g k)) := by
 induction K with
 | nil => rfl
 | cons k K ih => simp [ih]
theorem now_diff (arcs : List S54) (M : List S85) (v a : Int) : wsum (cStk arcs v a) M = wsum (cNow arcs v a) M + wsum (cStk arcs v (a - 1)) M := by
 rw [← wsum_add]
 refine wsum_congr fun x _ => ?_
 unfold cStk cNow cIn cOut
 generalize (arcAt arcs (keyM x).1).f1 = p
 generalize (arcAt arcs (keyM x).1).f0 = q
 generalize (arcAt arcs (keyM x).1).f3 = r
 by_cases c1 : p = v <;> by_cases c2 : q = v
 ·simp only [c1, c2, true_and]
  by_cases d1 : (keyM x).2 + r ≤ a <;> by_cases d2 : (keyM x).2 ≤ a <;> by_cases d3 : (keyM x).2 + r = a <;> by_cases d4 : (keyM x).2 = a <;> by_cases d5 : (keyM x).2 + r ≤ a - 1 <;> by_cases d6 : (keyM x).2 ≤ a - 1 <;> first | (simp only [d1, d2, d3, d4, d5, d6, if_true, if_false]; omega) | omega
 ·simp only [c1, c2, true_and, false_and, if_false]
  by_cases d1 : (keyM x).2 + r ≤ a <;> by_cases d3 : (keyM x).2 + r = a <;> by_cases d5 : (keyM x).2 + r ≤ a - 1 <;> first | (rw [if_pos d1, if_pos d3, if_pos d5]; omega) | (rw [if_pos d1, if_pos d3, if_neg d5]; omega) | (rw [if_pos d1, if_neg d3, if_pos d5]; omega) | (rw [if_neg d1, if_neg d3, if_neg d5]; omega) | omega
 ·simp only [c1, c2, true_and, false_and, if_false]
  by_cases d1 : (keyM x).2 ≤ a <;> by_cases d3 : (keyM x).2 = a <;> by_cases d5 : (keyM x).2 ≤ a - 1 <;> first | (rw [if_pos d1, if_pos d3, if_pos d5]; omega) | (rw [if_pos d1, if_pos d3, if_neg d5]; omega) | (rw [if_pos d1, if_neg d3, if_pos d5]; omega) | (rw [if_neg d1, if_neg d3, if_neg d5]; omega) | omega
 ·simp [c1, c2]
theorem lookN_cases {M : List S85} (x y : Int) : lookN M x y 0 = 0 ∧ (∀ m ∈ M, ¬ (m.f0 = x ∧ m.f1 = y)) ∨ ∃ m ∈ M, m.f0 = x ∧ m.f1 = y := by
 by_cases c : ∃ m ∈ M, m.f0 = x ∧ m.f1 = y
 ·exact Or.inr c
 ·have h : ∀ m ∈ M, ¬ (m.f0 = x ∧ m.f1 = y) := fun m hm e => c ⟨m, hm, e⟩
  exact Or.inl ⟨lookN_none h 0, h⟩
theorem arcAll_mv {V H s : Int} {l0 : List S54} {k : S83} (h : k.f0 = true) : (arcAll V H s l0 k).f2 = (arcAt l0 k.f2).f2 := by
 unfold arcAll arcK
 rw [if_pos (Or.inl h), if_pos h]
 rfl
theorem arcAll_wt {V H s : Int} {l0 : List S54} {k : S83} (h : k.f0 = false) : (arcAll V H s l0 k).f2 = 1099511627776 := by
 unfold arcAll arcK
 split
 ·rw [if_neg (by rw [h]; exact Bool.false_ne_true)]
 ·split <;> rfl
section
variable {n : Int} {hold : Bool} {arcs : List S54} {s t h : Int} {l M : List S85} (hl : M.length ≤ 1048576) (ho : MergedOk n arcs s t h l M) (hst : AllOk hold h s t (tH h) (tV n) (stk arcs M))
include hl ho
theorem pl_bd (v a : Int) : -1099511627776 ≤ wsum (cStk arcs v a) M ∧ wsum (cStk arcs v a) M ≤ 1099511627776 := stk_bd ho.net hl ho.may (fun m hm => hm) (Nat.le_refl _) _ (cStk_bd arcs v a)
theorem pl_nbd (v a : Int) : -1099511627776 ≤ wsum (cNow arcs v a) M ∧ wsum (cNow arcs v a) M ≤ 1099511627776 := stk_bd ho.net hl ho.may (fun m hm => hm) (Nat.le_refl _) _ (cNow_bd arcs v a)
theorem val_s {k : S83} (h0 : k.f0 = false) (h1 : k.f1 = false) (hk : k.f3 = s) : valK arcs M s k = -wsum (cNow arcs s k.f4) M := by
 have e := now_diff arcs M s k.f4
 have b := pl_nbd hl ho s k.f4
 unfold valK
 rw [if_neg (by rw [h0]; exact Bool.false_ne_true), if_neg (by rw [h1]; exact Bool.false_ne_true), if_pos hk, hk, e]
 rw [show wsum (cNow arcs s k.f4) M + wsum (cStk arcs s (k.f4 - 1)) M - wsum (cStk arcs s (k.f4 - 1)) M = wsum (cNow arcs s k.f4) M from by omega, w64 (n := wsum (cNow arcs s k.f4) M) (by omega) (by omega), w64 (by omega) (by omega)]
theorem val_t {k : S83} (h0 : k.f0 = false) (h1 : k.f1 = false) (hk : k.f3 = t) : valK arcs M s k = wsum (cNow arcs t k.f4) M := by
 have e := now_diff arcs M t k.f4
 have b := pl_nbd hl ho t k.f4
 have := ho.ends.2.2.2.2
 unfold valK
 rw [if_neg (by rw [h0]; exact Bool.false_ne_true), if_neg (by rw [h1]; exact Bool.false_ne_true), if_neg (by rw [hk]; exact fun e => this e.symm), hk, e]
 rw [show wsum (cNow arcs t k.f4) M + wsum (cStk arcs t (k.f4 - 1)) M - wsum (cStk arcs t (k.f4 - 1)) M = wsum (cNow arcs t k.f4) M from by omega, w64 (by omega) (by omega)]
theorem now_s (a : Int) : wsum (cNow arcs s a) M ≤ 0 := by
 have e0 : wsum (fun _ => 0) M = 0 := wsum_zero fun _ _ => rfl
 rw [← e0]
 refine wsum_le fun x hx => ⟨?_, (ho.may x hx).c0⟩
 have h1 := (ho.may x hx).e1
 unfold cNow
 rw [if_neg (show ¬ ((arcAt arcs (keyM x).1).f1 = s ∧ _) from fun h => h1 h.1)]
 split <;> omega
theorem now_t (a : Int) : 0 ≤ wsum (cNow arcs t a) M := by
 have e0 : wsum (fun _ => 0) M = 0 := wsum_zero fun _ _ => rfl
 rw [← e0]
 refine wsum_le fun x hx => ⟨?_, (ho.may x hx).c0⟩
 have h1 := (ho.may x hx).e0
 unfold cNow
 rw [if_neg (show ¬ ((arcAt arcs (keyM x).1).f0 = t ∧ _) from fun h => h1 h.1)]
 split <;> omega
theorem pl_sorted : M.Pairwise mlt := by rw [ho.is]; exact (mergeL_is l).sorted
include hst
theorem pl_stk {u a : Int} (hu : 0 ≤ u ∧ u < n) (hus : u ≠ s) (hut : u ≠ t) (ha : -1 ≤ a ∧ a ≤ h) : 0 ≤ wsum (cStk arcs u a) M ∧ (hold = false ∨ a = h ∨ a = -1 → wsum (cStk arcs u a) M = 0) := by
 have hneg : wsum (cStk arcs u (-1)) M = 0 := wsum_zero fun x hx => by
  have h1 := ho.may x hx
  have h2 := h1.b0
  have h3 := (arcAt_ok ho.net h1.a0 h1.a1).f3
  have e1 : (keyM x).1 = x.f0 := rfl
  have e2 : (keyM x).2 = x.f1 := rfl
  unfold cStk cIn cOut
  rw [e1, e2, if_neg (by omega), if_neg (by omega)]
  omega
 by_cases c : a = -1
 ·subst c
  exact ⟨by omega, fun _ => hneg⟩
 ·obtain ⟨a', rfl⟩ := Int.eq_ofNat_of_zero_le (show 0 ≤ a by omega)
  obtain ⟨u', rfl⟩ := Int.eq_ofNat_of_zero_le hu.1
  have h5 := hst a' (by unfold tH; omega) u' (by unfold tV; omega)
  have e : stk arcs M a' u' = wsum (cStk arcs (u' : Int) (a' : Int)) M := rfl
  unfold Bad at h5
  rw [e] at h5
  constructor
  ·exact Classical.byContradiction fun h6 => h5 ⟨hus, hut, Or.inl (by omega)⟩
  ·intro h7
   refine Classical.byContradiction fun h6 => ?_
   rcases Int.lt_or_gt_of_ne h6 with h8 | h8
   ·exact h5 ⟨hus, hut, Or.inl h8⟩
   ·exact h5 ⟨hus, hut, Or.inr ⟨h8, h7.elim Or.inl (fun h9 => Or.inr (by omega))⟩⟩
theorem val_ok {k : S83} (hk : k ∈ gridKinds n h hold s t arcs) : 0 ≤ valK arcs M s k ∧ valK arcs M s k ≤ (arcAll n h s arcs k).f2 ∧ valK arcs M s k ≤ 1099511627776 := by
 have hh := ho.hor
 rcases kind_cases (by omega) hk with ⟨h0, hm⟩ | ⟨h1, hw⟩ | ⟨h0, h1, h2, h3, h4⟩
 ·rw [arcAll_mv h0]
  have ha := (arcAt_ok ho.net hm.i0 hm.i1).f2
  have e : valK arcs M s k = lookN M k.f2 k.f4 0 := by unfold valK; rw [if_pos h0]
  rw [e]
  rcases lookN_cases (M := M) k.f2 k.f4 with c | ⟨m, hmm, e1, e2⟩
  ·rw [c.1]; omega
  ·have h5 := ho.may m hmm
   have c1 := h5.c1
   rw [← e1, ← e2, lookN_mem (pl_sorted hl ho) hmm]
   rw [← e1] at ha
   exact ⟨h5.c0, h5.c1, by omega⟩
 ·rw [arcAll_wt hw.n0]
  have e : valK arcs M s k = wsum (cStk arcs k.f3 k.f4) M := by unfold valK; rw [if_neg (by rw [hw.n0]; exact Bool.false_ne_true), if_pos h1]
  have b := pl_bd hl ho k.f3 k.f4
  have q := pl_stk hl ho hst (u := k.f3) (a := k.f4) ⟨hw.v0, hw.v1⟩ hw.ns hw.nt ⟨by have := hw.a0; omega, by have := hw.a1; omega⟩
  rw [e]
  exact ⟨q.1, b.2, b.2⟩
 ·rw [arcAll_wt h0]
  rcases h2 with h2 | h2
  ·rw [val_s hl ho h0 h1 h2]
   have := now_s hl ho k.f4
   have b := pl_nbd hl ho s k.f4
   omega
  ·rw [val_t hl ho h0 h1 h2]
   have := now_t hl ho k.f4
   have b := pl_nbd hl ho t k.f4
   omega
theorem pl_told : toldL ((gridKinds n h hold s t arcs).map (valK arcs M s)) (movesK (gridKinds n h hold s t arcs)) = M := by
 have hz : ∀ m ∈ M, m.f2 ≠ 0 := by rw [ho.is]; exact fun m hm => ((mergeL_is l).mem m |>.1 hm).2.2
 have hs := pl_sorted hl ho
 have hself := merge_self hs hz
 have hK : movesK (gridKinds n h hold s t arcs) = movesK (kindsB n h hold s t arcs (h.toNat + 1)) := by rw [← gridMoves_eq]; unfold gridMoves; rw [log1]
 refine isMerge_unique (l := M) ⟨?_, fun m => Iff.trans ?_ (hself.mem m)⟩ hself
 ·rw [hK]
  exact told_sorted (movesK_sorted (kindsB_sorted _))
 ·rw [told_mem]
  have hv : ∀ (j : Nat) (k : S83), (gridKinds n h hold s t arcs)[j]? = some k → k.f0 = true → rd ((gridKinds n h hold s t arcs).map (valK arcs M s)) (j : Int) = lookN M k.f2 k.f4 0 := by
   intro j k hj h0
   obtain ⟨hlt, e⟩ := List.getElem?_eq_some_iff.1 hj
   rw [rdI_of (by rw [List.length_map]; exact hlt), List.getElem_map, e]
   unfold valK
   rw [if_pos h0]
  constructor
  ·rintro ⟨i, hi, hp, e⟩
   obtain ⟨j, k, hj, h0, e2⟩ := movesK_mem.1 hi
   simp only [Prod.mk.injEq] at e2
   obtain ⟨⟨e3, e4⟩, rfl⟩ := e2
   rw [hv j k hj h0] at hp e
   rcases lookN_cases (M := M) k.f2 k.f4 with c | ⟨m', hm', e5, e6⟩
   ·rw [c.1] at hp; omega
   ·rw [← e5, ← e6, lookN_mem hs hm'] at e
    have : m = m' := s85_ext (by rw [e3, e5]) (by rw [e4, e6]) e
    rw [this]; exact hm'
  ·intro hm
   obtain ⟨j, hj⟩ := move_in (V := n) (hold := hold) ho.net (ho.may m hm)
   have hlt := (List.getElem?_eq_some_iff.1 hj).1
   have hj2 : (gridKinds n h hold s t arcs)[j]? = some ⟨true, false, m.f0, 0, m.f1⟩ := by rw [kinds_eq, List.append_assoc, List.getElem?_append_left hlt]; exact hj
   have hr := hv j _ hj2 rfl
   simp only at hr
   rw [lookN_mem hs hm] at hr
   have := (ho.may m hm).c0
   have := hz m hm
   exact ⟨(j : Int), movesK_mem.2 ⟨j, _, hj2, rfl, rfl⟩, by rw [hr]; omega, hr.symm⟩
end
theorem kind_form {V H s t : Int} {hold : Bool} {l0 : List S54} {k : S83} (hk : k ∈ gridKinds V H hold s t l0) : k.f0 = false → k = ⟨false, k.f1, 0, k.f3, k.f4⟩ := by
 intro h
 rw [kinds_eq] at hk
 rcases List.mem_append.1 hk with hk | hk
 ·rcases List.mem_append.1 hk with hk | hk
  ·obtain ⟨a, ha, ⟨i, hi, hm⟩ | ⟨v, hv, hm⟩⟩ := mem_kindsB.1 hk
   ·rw [mvAt_some] at hm; rw [hm.2] at h; cases h
   ·rw [wtAt_some] at hm; rw [hm.2]
  ·unfold kEnds at hk
   obtain ⟨a, ha, rfl⟩ := List.mem_map.1 hk
   rfl
 ·unfold kEnds at hk
  obtain ⟨a, ha, rfl⟩ := List.mem_map.1 hk
  rfl
theorem wait_in {V H s t : Int} {hold : Bool} {l0 : List S54} {u a : Int} (hu : 0 ≤ u ∧ u < V) (hus : u ≠ s) (hut : u ≠ t) (ha : 0 ≤ a ∧ a < H) (hh : hold = true) : (⟨false, true, 0, u, a⟩ : S83) ∈ gridKinds V H hold s t l0 := by
 obtain ⟨a', rfl⟩ := Int.eq_ofNat_of_zero_le ha.1
 obtain ⟨u', rfl⟩ := Int.eq_ofNat_of_zero_le hu.1
 rw [kinds_eq]
 refine List.mem_append_left _ (List.mem_append_left _ (mem_kindsB.2 ⟨a', by omega, Or.inr ⟨u', by omega, ?_⟩⟩))
 rw [wtAt_some]
 exact ⟨⟨ha.2, hh, hus, hut⟩, rfl⟩
theorem end_in {V H s t : Int} {hold : Bool} {l0 : List S54} {u a : Int} (hu : u = s ∨ u = t) (ha : 0 ≤ a ∧ a ≤ H) : (⟨false, false, 0, u, a⟩ : S83) ∈ gridKinds V H hold s t l0 := by
 obtain ⟨a', rfl⟩ := Int.eq_ofNat_of_zero_le ha.1
 have hE : (⟨false, false, 0, u, (a' : Int)⟩ : S83) ∈ kEnds u (H.toNat + 1) := by
  unfold kEnds
  exact List.mem_map.2 ⟨a', List.mem_range.2 (by omega), rfl⟩
 rw [kinds_eq]
 rcases hu with rfl | rfl
 ·exact List.mem_append_left _ (List.mem_append_right _ hE)
 ·exact List.mem_append_right _ hE
theorem sm_tel (g : Int → Int) : ∀ m : Nat, sm (fun a : Nat => g (a : Int) - g ((a : Int) - 1)) (List.range m) = g ((m : Int) - 1) - g (-1)
 | 0 => by simp [sm]
 | m + 1 => by
  rw [List.range_succ, sm_snoc, sm_tel g m]
  have e : ((m + 1 : Nat) : Int) - 1 = (m : Int) := by omega
  rw [e]
  omega
theorem sm_kAll {V H s t : Int} {hold : Bool} {l0 : List S54} (g : S83 → Int) (f : S83 × Int → Int) : sm f ((gridKinds V H hold s t l0).map (fun k => (k, g k))) = sm (fun k => f (k, g k)) (gridKinds V H hold s t l0) := sm_map f _ _
noncomputable instance : DecidableEq S83 := fun _ _ => Classical.propDecidable _
theorem sm_pick {V H s t : Int} {hold : Bool} {l0 : List S54} (hst : s ≠ t) {F : S83 → Int} {k0 : S83} {x : Int} (h : ∀ k ∈ gridKinds V H hold s t l0, F k = if k = k0 then x else 0) (hin : k0 ∈ gridKinds V H hold s t l0 ∨ x = 0) : sm F (gridKinds V H hold s t l0) = x := by
 have h2 : ∀ k ∈ gridKinds V H hold s t l0, F k = (fun k => if k = k0 then x else 0) k := fun k hk => by
  rw [h k hk]
 rw [sm_congr h2, sm_one (kinds_nodup hst)]
 rcases hin with h | h
 ·rw [if_pos h]
 ·rw [h]; split <;> rfl
section
variable {n : Int} {hold : Bool} {arcs : List S54} {s t h : Int} {l M : List S85} (hl : M.length ≤ 1048576) (ho : MergedOk n arcs s t h l M)
include hl ho
theorem sm_e {u a : Int} (hu : u = s ∨ u = t) (ha : 0 ≤ a ∧ a ≤ h) : sm (eP u a) ((gridKinds n h hold s t arcs).map (fun k => (k, valK arcs M s k))) = valK arcs M s ⟨false, false, 0, u, a⟩ := by
 rw [sm_kAll]
 refine sm_pick ho.ends.2.2.2.2 (k0 := ⟨false, false, 0, u, a⟩) (fun k hk => ?_) (Or.inl (end_in hu ha))
 unfold eP
 by_cases c : k.f0 = false ∧ k.f1 = false ∧ k.f3 = u ∧ k.f4 = a
 ·have e : k = ⟨false, false, 0, u, a⟩ := by
   have := kind_form hk c.1
   rw [c.2.1, c.2.2.1, c.2.2.2] at this
   exact this
  rw [if_pos c, if_pos e, e]
 ·rw [if_neg c, if_neg]
  intro e
  rw [e] at c
  exact c ⟨rfl, rfl, rfl, rfl⟩
theorem sm_eA {u : Int} (hu : u = s ∨ u = t) : sm (eA u) ((gridKinds n h hold s t arcs).map (fun k => (k, valK arcs M s k))) = sm (fun a : Nat => valK arcs M s ⟨false, false, 0, u, (a : Int)⟩) (List.range (h.toNat + 1)) := by
 have hst := ho.ends.2.2.2.2
 have hB : sm (fun k => eA u (k, valK arcs M s k)) (kindsB n h hold s t arcs (h.toNat + 1)) = 0 := sm_zero fun k hk => by
  unfold eA
  rw [if_neg]
  rintro ⟨h0, h1, h2⟩
  obtain ⟨a, ha, ⟨i, hi, hm⟩ | ⟨v, hv, hm⟩⟩ := mem_kindsB.1 hk
  ·rw [mvAt_some] at hm; rw [hm.2] at h0; cases h0
  ·rw [wtAt_some] at hm; rw [hm.2] at h1; cases h1
 have hE : ∀ v : Int, v = u → sm (fun k => eA u (k, valK arcs M s k)) (kEnds v (h.toNat + 1)) = sm (fun a : Nat => valK arcs M s ⟨false, false, 0, u, (a : Int)⟩) (List.range (h.toNat + 1)) := by
  intro v hv
  subst hv
  unfold kEnds
  rw [sm_map]
  refine sm_congr fun a _ => ?_
  unfold eA
  rw [if_pos ⟨rfl, rfl, rfl⟩]
 have hN : ∀ v : Int, v ≠ u → sm (fun k => eA u (k, valK arcs M s k)) (kEnds v (h.toNat + 1)) = 0 := by
  intro v hv
  refine sm_zero fun k hk => ?_
  unfold eA
  rw [if_neg]
  rintro ⟨h0, h1, h2⟩
  exact hv ((kEnds_mem hk).2.2.symm.trans h2)
 rw [sm_kAll, kinds_eq, sm_append, sm_append, hB]
 rcases hu with rfl | rfl
 ·rw [hE _ rfl, hN _ (fun e => hst e.symm)]; omega
 ·rw [hE _ rfl, hN _ hst]; omega
theorem neg1 (v : Int) : wsum (cStk arcs v (-1)) M = 0 := wsum_zero fun x hx => by
 have h1 := ho.may x hx
 have h2 := h1.b0
 have h3 := (arcAt_ok ho.net h1.a0 h1.a1).f3
 have e1 : (keyM x).1 = x.f0 := rfl
 have e2 : (keyM x).2 = x.f1 := rfl
 unfold cStk cIn cOut
 rw [e1, e2, if_neg (by omega), if_neg (by omega)]
 omega
theorem out_s : sm (eA s) ((gridKinds n h hold s t arcs).map (fun k => (k, valK arcs M s k))) = -wsum (cStk arcs s h) M := by
 rw [sm_eA hl ho (Or.inl rfl)]
 have e : ∀ a ∈ List.range (h.toNat + 1), valK arcs M s ⟨false, false, 0, s, (a : Int)⟩ = -(wsum (cStk arcs s (a : Int)) M - wsum (cStk arcs s ((a : Int) - 1)) M) := fun a _ => by
  rw [val_s hl ho (k := ⟨false, false, 0, s, (a : Int)⟩) rfl rfl rfl]
  have := now_diff arcs M s (a : Int)
  show -wsum (cNow arcs s (a : Int)) M = _
  omega
 have hh := ho.hor
 rw [sm_congr e, sm_neg (f := fun a : Nat => wsum (cStk arcs s (a : Int)) M - wsum (cStk arcs s ((a : Int) - 1)) M), sm_tel (fun a => wsum (cStk arcs s a) M), neg1 hl ho, show ((h.toNat + 1 : Nat) : Int) - 1 = h from by omega]
 omega
theorem in_t : sm (eA t) ((gridKinds n h hold s t arcs).map (fun k => (k, valK arcs M s k))) = wsum (cStk arcs t h) M := by
 rw [sm_eA hl ho (Or.inr rfl)]
 have e : ∀ a ∈ List.range (h.toNat + 1), valK arcs M s ⟨false, false, 0, t, (a : Int)⟩ = wsum (cStk arcs t (a : Int)) M - wsum (cStk arcs t ((a : Int) - 1)) M := fun a _ => by
  rw [val_t hl ho (k := ⟨false, false, 0, t, (a : Int)⟩) rfl rfl rfl]
  have := now_diff arcs M t (a : Int)
  show wsum (cNow arcs t (a : Int)) M = _
  omega
 have hh := ho.hor
 rw [sm_congr e, sm_tel (fun a => wsum (cStk arcs t a) M), neg1 hl ho, show ((h.toNat + 1 : Nat) : Int) - 1 = h from by omega]
 omega
variable (hst : AllOk hold h s t (tH h) (tV n) (stk arcs M))
include hst
theorem sm_mv (c : Int × Int → Int) : sm (mvP arcs c) ((gridKinds n h hold s t arcs).map (fun k => (k, valK arcs M s k))) = wsum c M := by
 have h1 := told_sum arcs c (K := gridKinds n h hold s t arcs) (f := (gridKinds n h hold s t arcs).map (valK arcs M s)) (List.length_map _) (fun i hi => by
  rw [List.getElem_map]
  exact (val_ok hl ho hst (List.getElem_mem _)).1)
 rw [pl_told hl ho hst, zip_map] at h1
 exact h1.symm
theorem sm_w {u a : Int} (hu : 0 ≤ u ∧ u < n) (ha : -1 ≤ a ∧ a ≤ h) : sm (wP u a) ((gridKinds n h hold s t arcs).map (fun k => (k, valK arcs M s k))) = if u = s ∨ u = t then 0 else wsum (cStk arcs u a) M := by
 have hh := ho.hor
 rw [sm_kAll]
 by_cases c : u = s ∨ u = t
 ·rw [if_pos c]
  refine sm_zero fun k hk => ?_
  unfold wP
  rw [if_neg]
  rintro ⟨h1, h2, h3⟩
  rcases kind_cases (by omega) hk with ⟨h0, hm⟩ | ⟨h1', hw⟩ | ⟨h0, h1', -⟩
  ·rw [hm.n1] at h1; cases h1
  ·rcases c with c | c
   ·exact hw.ns (h2.trans c)
   ·exact hw.nt (h2.trans c)
  ·simp only [h1'] at h1; cases h1
 ·rw [if_neg c]
  have hus : u ≠ s := fun e => c (Or.inl e)
  have hut : u ≠ t := fun e => c (Or.inr e)
  have q := pl_stk hl ho hst hu hus hut ha
  refine sm_pick ho.ends.2.2.2.2 (k0 := ⟨false, true, 0, u, a⟩) (fun k hk => ?_) ?_
  ·unfold wP
   by_cases d : k.f1 = true ∧ k.f3 = u ∧ k.f4 = a
   ·have h0 : k.f0 = false := by
     rcases kind_cases (by omega) hk with ⟨h0, hm⟩ | ⟨h1', hw⟩ | ⟨h0, h1', -⟩
     ·rw [hm.n1] at d; exact absurd d.1 Bool.false_ne_true
     ·exact hw.n0
     ·exact h0
    have e : k = ⟨false, true, 0, u, a⟩ := by
     have := kind_form hk h0
     rw [d.1, d.2.1, d.2.2] at this
     exact this
    rw [if_pos d, if_pos e, e]
    unfold valK
    rw [if_neg Bool.false_ne_true, if_pos rfl]
   ·rw [if_neg d, if_neg]
    intro e
    rw [e] at d
    exact d ⟨rfl, rfl, rfl⟩
  ·by_cases c2 : hold = false ∨ a = h ∨ a = -1
   ·exact Or.inr (q.2 c2)
   ·refine Or.inl (wait_in hu hus hut ⟨by omega, by omega⟩ ?_)
    cases hb : hold
    ·exact absurd (Or.inl hb) c2
    ·rfl
theorem bal_cell {u a : Int} (hu : 0 ≤ u ∧ u < n) (ha : 0 ≤ a ∧ a ≤ h) : sm (con n h s arcs (a * n + u)) ((gridKinds n h hold s t arcs).map (fun k => (k, valK arcs M s k))) = 0 := by
 have hh := ho.hor
 obtain ⟨s0, s1, t0, t1, hst'⟩ := ho.ends
 have e : ∀ p ∈ (gridKinds n h hold s t arcs).map (fun k => (k, valK arcs M s k)), con n h s arcs (a * n + u) p = ((-mvP arcs (cNow arcs u a) p + wP u a p) + -wP u (a - 1) p) + ((-(if u = s then eP s a p else 0)) + (if u = t then eP t a p else 0)) := fun p hp => by
  obtain ⟨k, hk, rfl⟩ := List.mem_map.1 hp
  rw [con_cell ho.net ⟨s0, s1⟩ ⟨t0, t1⟩ hst' (by omega) ha hu (p := (k, valK arcs M s k)) hk]
  omega
 rw [sm_congr e, sm_add (f := fun p => (-mvP arcs (cNow arcs u a) p + wP u a p) + -wP u (a - 1) p) (g := fun p => (-(if u = s then eP s a p else 0)) + (if u = t then eP t a p else 0)),
  sm_add (f := fun p => -mvP arcs (cNow arcs u a) p + wP u a p) (g := fun p => -wP u (a - 1) p), sm_add (f := fun p => -mvP arcs (cNow arcs u a) p) (g := fun p => wP u a p),
  sm_neg (f := fun p => mvP arcs (cNow arcs u a) p), sm_neg (f := fun p => wP u (a - 1) p), sm_mv hl ho hst, sm_w hl ho hst hu (by omega), sm_w hl ho hst hu (by omega),
  sm_add (f := fun p => -(if u = s then eP s a p else 0)) (g := fun p => if u = t then eP t a p else 0), sm_neg (f := fun p => if u = s then eP s a p else 0)]
 have hd := now_diff arcs M u a
 by_cases cs : u = s
 ·subst cs
  have h1 : sm (fun p => if u = u then eP u a p else 0) ((gridKinds n h hold u t arcs).map (fun k => (k, valK arcs M u k))) = -wsum (cNow arcs u a) M := by
   rw [sm_congr (g := eP u a) (fun p _ => by rw [if_pos rfl]), sm_e hl ho (Or.inl rfl) ha]
   exact val_s hl ho rfl rfl rfl
  have h2 : sm (fun p => if u = t then eP t a p else 0) ((gridKinds n h hold u t arcs).map (fun k => (k, valK arcs M u k))) = 0 := sm_zero fun p _ => by rw [if_neg hst']
  rw [h1, h2, if_pos (Or.inl rfl), if_pos (Or.inl rfl)]
  omega
 ·by_cases ct : u = t
  ·subst ct
   have h1 : sm (fun p => if u = s then eP s a p else 0) ((gridKinds n h hold s u arcs).map (fun k => (k, valK arcs M s k))) = 0 := sm_zero fun p _ => by rw [if_neg cs]
   have h2 : sm (fun p => if u = u then eP u a p else 0) ((gridKinds n h hold s u arcs).map (fun k => (k, valK arcs M s k))) = wsum (cNow arcs u a) M := by
    rw [sm_congr (g := eP u a) (fun p _ => by rw [if_pos rfl]), sm_e hl ho (Or.inr rfl) ha]
    exact val_t hl ho rfl rfl rfl
   rw [h1, h2, if_pos (Or.inr rfl), if_pos (Or.inr rfl)]
   omega
  ·have h1 : sm (fun p => if u = s then eP s a p else 0) ((gridKinds n h hold s t arcs).map (fun k => (k, valK arcs M s k))) = 0 := sm_zero fun p _ => by rw [if_neg cs]
   have h2 : sm (fun p => if u = t then eP t a p else 0) ((gridKinds n h hold s t arcs).map (fun k => (k, valK arcs M s k))) = 0 := sm_zero fun p _ => by rw [if_neg ct]
   have c3 : ¬ (u = s ∨ u = t) := fun h => h.elim cs ct
   rw [h1, h2, if_neg c3, if_neg c3]
   omega
end
theorem bal_put {N : Nat} {g : Nat → Int} {p q : Int} {x : Int} (hp : 0 ≤ p ∧ p < (N : Int)) (hq : 0 ≤ q ∧ q < (N : Int)) (hg : ∀ v, -1152921504606846976 ≤ g v ∧ g v ≤ 1152921504606846976) (hx : 0 ≤ x ∧ x ≤ 1099511627776) :
 ((row N g).set p.toNat (wrap64 (rd (row N g) p + x))).set q.toNat (wrap64 (rd ((row N g).set p.toNat (wrap64 (rd (row N g) p + x))) q - x)) = row N (fun v => g v + x * (dl p (v : Int) - dl q (v : Int))) := by
 obtain ⟨p', rfl⟩ := Int.eq_ofNat_of_zero_le hp.1
 obtain ⟨q', rfl⟩ := Int.eq_ofNat_of_zero_le hq.1
 have hgp := hg p'
 have hgq := hg q'
 rw [Int.toNat_natCast, Int.toNat_natCast, rd_row (show p' < N by omega), row_set, rd_row (show q' < N by omega), row_set]
 refine row_ext fun v hv => ?_
 have hgv := hg v
 unfold dl
 have e1 : ((p' : Int) = (v : Int)) ↔ (v = p') := by omega
 have e2 : ((q' : Int) = (v : Int)) ↔ (v = q') := by omega
 simp only [e1, e2]
 by_cases c : v = q'
 ·subst c
  rw [if_pos rfl]
  by_cases d : v = p'
  ·subst d
   simp only [if_true]
   rw [w64 (n := g v + x) (by omega) (by omega), w64 (by omega) (by omega)]
   omega
  ·simp only [d, if_false, if_true]
   rw [w64 (by omega) (by omega)]
   omega
 ·simp only [c, if_false]
  by_cases d : v = p'
  ·subst d
   simp only [if_true]
   rw [w64 (by omega) (by omega)]
   omega
  ·simp only [d, if_false]
   omega
section
variable {n : Int} {hold : Bool} {arcs : List S54} {s t h : Int}
theorem arc_ends (hn : NetOk n arcs) (hs : 0 ≤ s ∧ s < n) (ht : 0 ≤ t ∧ t < n) (hst : s ≠ t) (hh : 0 ≤ h) {k : S83} (hk : k ∈ gridKinds n h hold s t arcs) :
 (0 ≤ (arcAll n h s arcs k).f0 ∧ (arcAll n h s arcs k).f0 < (h + 1) * n + 2) ∧ (0 ≤ (arcAll n h s arcs k).f1 ∧ (arcAll n h s arcs k).f1 < (h + 1) * n + 2) := by
 have hV : 0 < n := by omega
 have cell : ∀ b u : Int, 0 ≤ b → b ≤ h → 0 ≤ u → u < n → 0 ≤ b * n + u ∧ b * n + u < (h + 1) * n + 2 := fun b u b0 b1 u0 u1 => by
  have h1 := cell_lt (a := b) (b := h + 1) hV u1 (by omega)
  have h2 := Int.mul_nonneg b0 (show 0 ≤ n by omega)
  omega
 have h3 := Int.mul_nonneg (show 0 ≤ h + 1 by omega) (show 0 ≤ n by omega)
 rcases kind_cases hh hk with ⟨h0, hm⟩ | ⟨h1, hw⟩ | ⟨h0, h1, hk, k0, k1⟩
 ·have e : arcAll n h s arcs k = ⟨k.f4 * n + (arcAt arcs k.f2).f0, (k.f4 + (arcAt arcs k.f2).f3) * n + (arcAt arcs k.f2).f1, (arcAt arcs k.f2).f2, 0⟩ := by
   unfold arcAll arcK
   rw [if_pos (Or.inl h0), if_pos h0]
   rfl
  have ho := arcAt_ok hn hm.i0 hm.i1
  have o3 := ho.f3
  have a1 := hm.a1
  rw [e]
  exact ⟨cell _ _ hm.a0 (by omega) ho.f0.1 ho.f0.2, cell _ _ (by have := hm.a0; omega) hm.a1 ho.f1.1 ho.f1.2⟩
 ·have e : arcAll n h s arcs k = ⟨k.f4 * n + k.f3, (k.f4 + 1) * n + k.f3, 1099511627776, 0⟩ := by
   unfold arcAll arcK
   rw [if_pos (Or.inr h1), if_neg (by rw [hw.n0]; exact Bool.false_ne_true)]
  have a0 := hw.a0
  have a1 := hw.a1
  rw [e]
  exact ⟨cell _ _ a0 (by omega) hw.v0 hw.v1, cell _ _ (by omega) (by omega) hw.v0 hw.v1⟩
 ·rcases hk with hk | hk
  ·have e : arcAll n h s arcs k = ⟨(h + 1) * n, k.f4 * n + s, 1099511627776, 0⟩ := by
    unfold arcAll
    rw [if_neg (by rw [h0, h1]; simp), if_pos hk]
   rw [e]
   exact ⟨⟨h3, by show (h + 1) * n < _; omega⟩, cell _ _ k0 k1 hs.1 hs.2⟩
  ·have e : arcAll n h s arcs k = ⟨k.f4 * n + t, (h + 1) * n + 1, 1099511627776, 0⟩ := by
    unfold arcAll
    rw [if_neg (by rw [h0, h1]; simp), if_neg (by rw [hk]; exact fun e => hst e.symm), hk]
   rw [e]
   exact ⟨cell _ _ k0 k1 ht.1 ht.2, ⟨by show 0 ≤ (h + 1) * n + 1; omega, by show (h + 1) * n + 1 < _; omega⟩⟩
theorem con_bd {H v : Int} {p : S83 × Int} (hp : 0 ≤ p.2 ∧ p.2 ≤ 1099511627776) : -1099511627776 ≤ con n H s arcs v p ∧ con n H s arcs v p ≤ 1099511627776 := by
 unfold con dl
 split <;> split <;> omega
theorem node_cases (hn : 0 < n) (hh : 0 ≤ h) {v : Int} (h0 : 0 ≤ v) (h1 : v < (h + 1) * n) : ∃ a u : Int, (0 ≤ a ∧ a ≤ h) ∧ (0 ≤ u ∧ u < n) ∧ v = a * n + u := by
 refine ⟨v / n, v % n, ⟨Int.ediv_nonneg h0 (by omega), ?_⟩, ⟨Int.emod_nonneg _ (by omega), Int.emod_lt_of_pos _ hn⟩, ?_⟩
 ·have : v / n < h + 1 := Int.ediv_lt_of_lt_mul hn h1
  omega
 ·have := Int.mul_ediv_add_emod v n
  rw [Int.mul_comm] at this
  exact this.symm
theorem small_exp {l : List S85} (hs : Small n arcs s t h l) : expErr n arcs s t h = 0 := by
 have h1 := hs.two
 have h2 := hs.hor
 have h3 := hs.net.len
 unfold expErr
 rw [if_pos (small_ask hs), if_pos]
 unfold fitsB
 have e1 : (h + 1) * n ≤ 4000 := by
  have := Int.mul_le_mul (show h + 1 ≤ 8 by omega) (show n ≤ 5 by omega) (by omega) (by omega)
  omega
 have e2 : (h + 1) * (arcs.length : Int) ≤ 10000 := by
  have := Int.mul_le_mul (show h + 1 ≤ 8 by omega) (show (arcs.length : Int) ≤ 200 by omega) (by omega) (by omega)
  omega
 rw [if_pos (checkErr_ok.2 hs.net), if_pos (spanErr_ok.2 (by omega)), if_pos e1]
 exact decide_eq_true e2
end
end Go.Proofs.Ytfhkkbpkajfdlaa.P
end
