/- A part of the proof: words, contracts, plain lemmas. Conditions: none. -/
import Derived.Test.YtfhkkbpkajfdlaaRows
import Derived.Deep.Slices
import Derived.ProofKit
import Derived.OpenShut
import Derived.Test.YtfhkkbpkajfdlaaZExpandRuns24
import Derived.Test.YtfhkkbpkajfdlaaZExpandRuns25
set_option linter.unusedSectionVars false
set_option linter.unusedSimpArgs false
set_option linter.unusedVariables false
section
namespace Go.Proofs.Ytfhkkbpkajfdlaa.R
open Go.RowKit Go.Proofs.Ytfhkkbpkajfdlaa.Q Go.Proofs.YtfhkkbpkajfdlaaW.PrintWords Go.Proofs.YtfhkkbpkajfdlaaW.PrintLast Go.Proofs.YtfhkkbpkajfdlaaW.PrintMore
open Go.ChangeShapes Go.WideShapes Go.Deep
def Reads (t : TypeId) {α : Type} (d : Kd α) (G : Nat → α → Prop) : Prop :=
 ∀ {H : Type} (enc : TypeId × Value → H) (w : World) (base : Nat) (spare : Nat → Bool) (held : Bool) (fuel : Nat) (cs : List Value) (x : DataW H × List MemPlace),
  DataW.trod enc Try.prog w base spare held fuel t cs = some x → ∃ a, d.K w a cs ∧ ∀ N, Rows.uptoBulk x.1 ≤ N → G N a
def gInt (k : IntKind) (_ : Nat) (n : Int) : Prop := (Lit.int k n).wf = true
def gTrue (_ : Nat) (_ : Bool) : Prop := True
def gList {α : Type} (G : Nat → α → Prop) (N : Nat) (l : List α) : Prop := l.length ≤ maxLen ∧ l.length ≤ N ∧ ∀ x ∈ l, G N x
theorem readsInt {t : TypeId} {k : IntKind} (ht : Try.prog.underlying t = some (.int k)) : Reads t (Kd.int k) (gInt k) := by
 intro H enc w base spare held fuel cs x h
 obtain ⟨n, rfl, rfl, hw⟩ := DataW.trod_int ht h
 exact ⟨n, rfl, fun _ _ => hw⟩
theorem readsBool {t : TypeId} (ht : Try.prog.underlying t = some .bool) : Reads t Kd.bool gTrue := by
 intro H enc w base spare held fuel cs x h
 obtain ⟨n, rfl, rfl⟩ := DataW.trod_bool ht h
 exact ⟨n, rfl, fun _ _ => trivial⟩
theorem one_le {H : Type} (d : DataW H) : 1 ≤ Rows.uptoBulk d := by
 cases d with
 | lit l => cases l <;> simp [Rows.uptoBulk]
 | nil => simp [Rows.uptoBulk]
 | ptr d => simp [Rows.uptoBulk]
 | slice elems spare => simp [Rows.uptoBulk]
 | agg parts => simp [Rows.uptoBulk]
 | iface t d => simp [Rows.uptoBulk]
 | map entries => simp [Rows.uptoBulk]
 | held h => simp [Rows.uptoBulk]
theorem part_le {H : Type} {d : DataW H} {l : List (DataW H)} (h : d ∈ l) : Rows.uptoBulk d ≤ Rows.uptoBulkAll l := by
 induction l with
 | nil => cases h
 | cons x r ih =>
  simp only [Rows.uptoBulkAll]
  cases List.mem_cons.1 h with
  | inl e => subst e; omega
  | inr e => have := ih e; omega
theorem length_le {H : Type} (l : List (DataW H)) : l.length ≤ Rows.uptoBulkAll l := by
 induction l with
 | nil => simp [Rows.uptoBulkAll]
 | cons x r ih => have := one_le x; simp only [Rows.uptoBulkAll, List.length_cons]; omega
theorem readsSlice {t e : TypeId} {α : Type} [Inhabited α] {d : Kd α} {G : Nat → α → Prop} (ht : Try.prog.underlying t = some (.slice e)) (hc : Try.prog.cellsOf e = d.sz) (R : Reads e d G) : Reads t (Kd.slice e d) (gList G) := by
 intro H enc w base spare held fuel cs x h
 rcases open_slice ht h with ⟨rfl, rfl⟩ | ⟨a, len, cap, m, n, D, Pl, rfl, hb, hl, hm, hmm, rfl, hx⟩
 ·exact ⟨[], ⟨none, 0, rfl, Nat.le_refl _, Kd.C_nil d w⟩, fun N _ => ⟨Nat.zero_le _, Nat.zero_le _, fun x hx => by cases hx⟩⟩
 ·have hlm : len ≤ m := by rw [hmm]; split <;> omega
  obtain ⟨f, hf⟩ := choose_lt (α := α) (n := m) (p := fun i y => ∃ c, c.length = d.sz ∧ d.K w y c ∧ (∀ j u, c[j]? = some u → w.cell? (a.add (i * d.sz + j)) = some u) ∧ ∀ N, Rows.uptoBulk (D i) ≤ N → G N y) (fun i hi => by
   obtain ⟨c, h1, h2⟩ := hx i hi
   obtain ⟨y, hK, hG⟩ := R enc w base spare held n c _ h2
   obtain ⟨_, hlen, hcell⟩ := World.cells?_some h1
   rw [hc] at hlen hcell
   refine ⟨y, c, hlen, hK, fun j u hu => ?_, hG⟩
   have hj : j < d.sz := by rw [← hlen]; exact (List.getElem?_eq_some_iff.1 hu).1
   have := hcell j hj
   rw [Deep.add_add] at this
   rw [this, hu])
  have hL : ((List.range len).map f).length = len := by simp
  refine ⟨(List.range len).map f, ⟨some a, cap, by rw [hL], by rw [hL]; exact hl, ?_⟩, fun N hN => ?_⟩
  ·refine ⟨rfl, by rw [hL]; exact Nat.le_trans hl (Nat.le_trans hm (by decide)), fun _ => ⟨a, rfl, fun j p hj => ?_⟩⟩
   have hjl : j < len := by
    have := (List.getElem?_eq_some_iff.1 hj).1
    rwa [hL] at this
   have hp : f j = p := by
    rw [List.getElem?_map, List.getElem?_range hjl] at hj
    exact Option.some.inj hj
   obtain ⟨c, h1, h2, h3, _⟩ := hf j (by omega)
   rw [hp] at h2
   exact ⟨c, h1, h2, h3⟩
  ·have hbulk : Rows.uptoBulkAll ((List.range len).map D) ≤ N := by
    simp only [Rows.uptoBulk] at hN
    omega
   refine ⟨by rw [hL]; omega, by rw [hL]; have := length_le ((List.range len).map D); simp at this; omega, fun y hy => ?_⟩
   obtain ⟨i, hi, rfl⟩ := List.mem_map.1 hy
   have hi' := List.mem_range.1 hi
   obtain ⟨c, _, _, _, hG⟩ := hf i (by omega)
   exact hG N (Nat.le_trans (part_le (List.mem_map.2 ⟨i, hi, rfl⟩)) hbulk)
instance : Inhabited S54 := ⟨z54⟩
def g54 (N : Nat) (x : S54) : Prop := gInt .i64 N x.f0 ∧ gInt .i64 N x.f1 ∧ gInt .i64 N x.f2 ∧ gInt .i64 N x.f3
set_option maxRecDepth 100000 in
theorem reads54 : Reads 54 k54 g54 := by
 intro H enc w base spare held fuel cs x h
 obtain ⟨xs, n, _, hx, hl, hlen, hf⟩ := DataW.trod_struct Try.underlying54 h
 have hl2 : cs.length = 4 := hl.trans (by kernel_rfl)
 have hlen2 : xs.length = 4 := hlen
 match xs, hlen2, cs, hl2 with
 | [y0, y1, y2, y3], _, [v0, v1, v2, v3], _ =>
  have c0 : Try.prog.cellsOf 3 = 1 := by kernel_rfl
  have e0 : DataW.trod enc Try.prog w base spare held n 3 (List.take (Try.prog.cellsOf 3) (List.drop 0 [v0, v1, v2, v3])) = some y0 := hf 0 _ rfl
  rw [c0] at e0
  obtain ⟨a0, K0, G0⟩ := (readsInt Try.underlying3) enc w base spare held n [v0] y0 e0
  have c1 : Try.prog.cellsOf 3 = 1 := by kernel_rfl
  have e1 : DataW.trod enc Try.prog w base spare held n 3 (List.take (Try.prog.cellsOf 3) (List.drop 1 [v0, v1, v2, v3])) = some y1 := hf 1 _ rfl
  rw [c1] at e1
  obtain ⟨a1, K1, G1⟩ := (readsInt Try.underlying3) enc w base spare held n [v1] y1 e1
  have c2 : Try.prog.cellsOf 3 = 1 := by kernel_rfl
  have e2 : DataW.trod enc Try.prog w base spare held n 3 (List.take (Try.prog.cellsOf 3) (List.drop 2 [v0, v1, v2, v3])) = some y2 := hf 2 _ rfl
  rw [c2] at e2
  obtain ⟨a2, K2, G2⟩ := (readsInt Try.underlying3) enc w base spare held n [v2] y2 e2
  have c3 : Try.prog.cellsOf 3 = 1 := by kernel_rfl
  have e3 : DataW.trod enc Try.prog w base spare held n 3 (List.take (Try.prog.cellsOf 3) (List.drop 3 [v0, v1, v2, v3])) = some y3 := hf 3 _ rfl
  rw [c3] at e3
  obtain ⟨a3, K3, G3⟩ := (readsInt Try.underlying3) enc w base spare held n [v3] y3 e3
  refine ⟨⟨a0, a1, a2, a3⟩, ⟨_, _, rfl, K0, ⟨_, _, rfl, K1, ⟨_, _, rfl, K2, K3⟩⟩⟩, fun N hN => ?_⟩
  rw [hx] at hN
  simp only [List.map_cons, List.map_nil, Rows.uptoBulk, Rows.uptoBulkAll] at hN
  exact ⟨G0 N (by omega), G1 N (by omega), G2 N (by omega), G3 N (by omega)⟩
structure S24 where
 f0 : Int
 f1 : Bool
 f2 : List S54
def z24 : S24 := ⟨(0 : Int), false, []⟩
instance : Inhabited S24 := ⟨z24⟩
instance : Inhabited S80 := ⟨z80⟩
def g80 (N : Nat) (x : S80) : Prop := gInt .u8 N x.f0 ∧ gInt .u8 N x.f1 ∧ gInt .u8 N x.f2 ∧ gInt .u8 N x.f3
set_option maxRecDepth 100000 in
theorem reads80 : Reads 80 k80 g80 := by
 intro H enc w base spare held fuel cs x h
 obtain ⟨xs, n, _, hx, hl, hlen, hf⟩ := DataW.trod_struct Try.underlying80 h
 have hl2 : cs.length = 4 := hl.trans (by kernel_rfl)
 have hlen2 : xs.length = 4 := hlen
 match xs, hlen2, cs, hl2 with
 | [y0, y1, y2, y3], _, [v0, v1, v2, v3], _ =>
  have c0 : Try.prog.cellsOf 5 = 1 := by kernel_rfl
  have e0 : DataW.trod enc Try.prog w base spare held n 5 (List.take (Try.prog.cellsOf 5) (List.drop 0 [v0, v1, v2, v3])) = some y0 := hf 0 _ rfl
  rw [c0] at e0
  obtain ⟨a0, K0, G0⟩ := (readsInt Try.underlying5) enc w base spare held n [v0] y0 e0
  have c1 : Try.prog.cellsOf 5 = 1 := by kernel_rfl
  have e1 : DataW.trod enc Try.prog w base spare held n 5 (List.take (Try.prog.cellsOf 5) (List.drop 1 [v0, v1, v2, v3])) = some y1 := hf 1 _ rfl
  rw [c1] at e1
  obtain ⟨a1, K1, G1⟩ := (readsInt Try.underlying5) enc w base spare held n [v1] y1 e1
  have c2 : Try.prog.cellsOf 5 = 1 := by kernel_rfl
  have e2 : DataW.trod enc Try.prog w base spare held n 5 (List.take (Try.prog.cellsOf 5) (List.drop 2 [v0, v1, v2, v3])) = some y2 := hf 2 _ rfl
  rw [c2] at e2
  obtain ⟨a2, K2, G2⟩ := (readsInt Try.underlying5) enc w base spare held n [v2] y2 e2
  have c3 : Try.prog.cellsOf 5 = 1 := by kernel_rfl
  have e3 : DataW.trod enc Try.prog w base spare held n 5 (List.take (Try.prog.cellsOf 5) (List.drop 3 [v0, v1, v2, v3])) = some y3 := hf 3 _ rfl
  rw [c3] at e3
  obtain ⟨a3, K3, G3⟩ := (readsInt Try.underlying5) enc w base spare held n [v3] y3 e3
  refine ⟨⟨a0, a1, a2, a3⟩, ⟨_, _, rfl, K0, ⟨_, _, rfl, K1, ⟨_, _, rfl, K2, K3⟩⟩⟩, fun N hN => ?_⟩
  rw [hx] at hN
  simp only [List.map_cons, List.map_nil, Rows.uptoBulk, Rows.uptoBulkAll] at hN
  exact ⟨G0 N (by omega), G1 N (by omega), G2 N (by omega), G3 N (by omega)⟩
structure S41 where
 f0 : Int
 f1 : Bool
 f2 : List S80
 f3 : Int
 f4 : Int
 f5 : Int
def z41 : S41 := ⟨(0 : Int), false, [], (0 : Int), (0 : Int), (0 : Int)⟩
def k41 : Kd S41 := Kd.iso (Kd.pair (Kd.int .u8) (Kd.pair Kd.bool (Kd.pair (Kd.slice 80 k80) (Kd.pair (Kd.int .u8) (Kd.pair (Kd.int .u8) (Kd.int .u8)))))) (fun x : S41 => (x.f0, x.f1, x.f2, x.f3, x.f4, x.f5))
instance : Inhabited S41 := ⟨z41⟩
def g41 (N : Nat) (x : S41) : Prop := gInt .u8 N x.f0 ∧ gTrue N x.f1 ∧ gList (g80) N x.f2 ∧ gInt .u8 N x.f3 ∧ gInt .u8 N x.f4 ∧ gInt .u8 N x.f5
set_option maxRecDepth 100000 in
theorem reads41 : Reads 41 k41 g41 := by
 intro H enc w base spare held fuel cs x h
 obtain ⟨xs, n, _, hx, hl, hlen, hf⟩ := DataW.trod_struct Try.underlying41 h
 have hl2 : cs.length = 6 := hl.trans (by kernel_rfl)
 have hlen2 : xs.length = 6 := hlen
 match xs, hlen2, cs, hl2 with
 | [y0, y1, y2, y3, y4, y5], _, [v0, v1, v2, v3, v4, v5], _ =>
  have c0 : Try.prog.cellsOf 5 = 1 := by kernel_rfl
  have e0 : DataW.trod enc Try.prog w base spare held n 5 (List.take (Try.prog.cellsOf 5) (List.drop 0 [v0, v1, v2, v3, v4, v5])) = some y0 := hf 0 _ rfl
  rw [c0] at e0
  obtain ⟨a0, K0, G0⟩ := (readsInt Try.underlying5) enc w base spare held n [v0] y0 e0
  have c1 : Try.prog.cellsOf 4 = 1 := by kernel_rfl
  have e1 : DataW.trod enc Try.prog w base spare held n 4 (List.take (Try.prog.cellsOf 4) (List.drop 1 [v0, v1, v2, v3, v4, v5])) = some y1 := hf 1 _ rfl
  rw [c1] at e1
  obtain ⟨a1, K1, G1⟩ := (readsBool Try.underlying4) enc w base spare held n [v1] y1 e1
  have c2 : Try.prog.cellsOf 39 = 1 := by kernel_rfl
  have e2 : DataW.trod enc Try.prog w base spare held n 39 (List.take (Try.prog.cellsOf 39) (List.drop 2 [v0, v1, v2, v3, v4, v5])) = some y2 := hf 2 _ rfl
  rw [c2] at e2
  obtain ⟨a2, K2, G2⟩ := (readsSlice Try.underlying39 (by kernel_rfl) reads80) enc w base spare held n [v2] y2 e2
  have c3 : Try.prog.cellsOf 5 = 1 := by kernel_rfl
  have e3 : DataW.trod enc Try.prog w base spare held n 5 (List.take (Try.prog.cellsOf 5) (List.drop 3 [v0, v1, v2, v3, v4, v5])) = some y3 := hf 3 _ rfl
  rw [c3] at e3
  obtain ⟨a3, K3, G3⟩ := (readsInt Try.underlying5) enc w base spare held n [v3] y3 e3
  have c4 : Try.prog.cellsOf 5 = 1 := by kernel_rfl
  have e4 : DataW.trod enc Try.prog w base spare held n 5 (List.take (Try.prog.cellsOf 5) (List.drop 4 [v0, v1, v2, v3, v4, v5])) = some y4 := hf 4 _ rfl
  rw [c4] at e4
  obtain ⟨a4, K4, G4⟩ := (readsInt Try.underlying5) enc w base spare held n [v4] y4 e4
  have c5 : Try.prog.cellsOf 5 = 1 := by kernel_rfl
  have e5 : DataW.trod enc Try.prog w base spare held n 5 (List.take (Try.prog.cellsOf 5) (List.drop 5 [v0, v1, v2, v3, v4, v5])) = some y5 := hf 5 _ rfl
  rw [c5] at e5
  obtain ⟨a5, K5, G5⟩ := (readsInt Try.underlying5) enc w base spare held n [v5] y5 e5
  refine ⟨⟨a0, a1, a2, a3, a4, a5⟩, ⟨_, _, rfl, K0, ⟨_, _, rfl, K1, ⟨_, _, rfl, K2, ⟨_, _, rfl, K3, ⟨_, _, rfl, K4, K5⟩⟩⟩⟩⟩, fun N hN => ?_⟩
  rw [hx] at hN
  simp only [List.map_cons, List.map_nil, Rows.uptoBulk, Rows.uptoBulkAll] at hN
  exact ⟨G0 N (by omega), G1 N (by omega), G2 N (by omega), G3 N (by omega), G4 N (by omega), G5 N (by omega)⟩
instance : Inhabited S96 := ⟨z96⟩
structure S60 where
 f0 : S41
 f1 : List S96
def z60 : S60 := ⟨z41, []⟩
instance : Inhabited S60 := ⟨z60⟩
end Go.Proofs.Ytfhkkbpkajfdlaa.R
end
section
namespace Go.Proofs.Ytfhkkbpkajfdlaa.P
open Go.RowKit Go.Proofs.Ytfhkkbpkajfdlaa.Q Go.Proofs.YtfhkkbpkajfdlaaW.PrintWords Go.Proofs.YtfhkkbpkajfdlaaW.PrintLast Go.Proofs.YtfhkkbpkajfdlaaW.PrintMore
open Go.Proofs.Ytfhkkbpkajfdlaa.R
structure Small (n : Int) (arcs : List S54) (s t h : Int) (l : List S85) : Prop where
 two : 2 ≤ n ∧ n ≤ 5
 net : NetOk n arcs
 ends : 0 ≤ s ∧ s < n ∧ 0 ≤ t ∧ t < n ∧ s ≠ t
 hor : 0 ≤ h ∧ h ≤ 7
 len : l.length ≤ 30
 mv : ∀ m ∈ l, 0 ≤ m.f0 ∧ m.f0 < arcs.length ∧ 0 ≤ m.f1 ∧ m.f1 ≤ h ∧ 0 ≤ m.f2 ∧ m.f2 ≤ 3
theorem tm {a b : Int} (ha : 0 ≤ a) (hb : 0 < b) : 0 ≤ Int.tmod a b ∧ Int.tmod a b < b :=
 ⟨Int.tmod_nonneg b ha, Int.tmod_lt_of_pos a hb⟩
theorem wB {a : Int} (h0 : 0 ≤ a) (h1 : a ≤ 1000) : wrap64 a = a := by unfold wrap64; omega
def sE (n a3 : Int) : Int := Int.tmod (wrap64 a3) n
def tE (n a3 a4 : Int) : Int := Int.tmod (wrap64 (wrap64 (sE n a3 + 1) + Int.tmod (wrap64 a4) (wrap64 (n - 1)))) n
def hE (a5 : Int) : Int := Int.tmod (wrap64 a5) 8
theorem ends_ok {n a3 a4 : Int} (hn : 2 ≤ n ∧ n ≤ 5) (h3 : 0 ≤ a3 ∧ a3 ≤ 255) (h4 : 0 ≤ a4 ∧ a4 ≤ 255) : 0 ≤ sE n a3 ∧ sE n a3 < n ∧ 0 ≤ tE n a3 a4 ∧ tE n a3 a4 < n ∧ sE n a3 ≠ tE n a3 a4 := by
 have hs : 0 ≤ sE n a3 ∧ sE n a3 < n := by unfold sE; rw [wB h3.1 (by omega)]; exact tm h3.1 (by omega)
 have e : tE n a3 a4 = Int.tmod (sE n a3 + 1 + Int.tmod a4 (n - 1)) n := by
  unfold tE
  rw [wB h4.1 (by omega), wB (a := n - 1) (by omega) (by omega), wB (a := sE n a3 + 1) (by omega) (by omega)]
  have hq := tm (a := a4) (b := n - 1) h4.1 (by omega)
  rw [wB (by omega) (by omega)]
 have hq := tm (a := a4) (b := n - 1) h4.1 (by omega)
 rw [e]
 generalize sE n a3 = s at *
 generalize Int.tmod a4 (n - 1) = q at *
 have ht := tm (a := s + 1 + q) (b := n) (by omega) (by omega)
 refine ⟨hs.1, hs.2, ht.1, ht.2, ?_⟩
 rw [Int.tmod_eq_emod_of_nonneg (by omega)]
 have h5 : n = 2 ∨ n = 3 ∨ n = 4 ∨ n = 5 := by omega
 rcases h5 with rfl | rfl | rfl | rfl <;> omega
theorem rdB_of {l : List S80} {i : Nat} (h : i < l.length) : rd_T80 l (i : Int) = l[i] := by unfold rd_T80; simp [List.getD_eq_getElem?_getD, List.getElem?_eq_getElem h]
theorem read12_loop {n : Int} (m : Nat) (hm : m ≤ 8) (hn : 2 ≤ n ∧ n ≤ 5) (b : Bool) (l : List S80) (hl : ∀ x ∈ l, (0 ≤ x.f0 ∧ x.f0 ≤ 255) ∧ (0 ≤ x.f1 ∧ x.f1 ≤ 255) ∧ (0 ≤ x.f2 ∧ x.f2 ≤ 255) ∧ (0 ≤ x.f3 ∧ x.f3 ≤ 255)) (a0 a3 a4 a5 : Int) (d : Nat) :
 ∀ (i : Nat) (A : List S54), i + d = m → A.length ≤ i → (∀ a ∈ A, ArcOk n a ∧ a.f2 ≤ 5) → ∃ arcs : List S54, arcs.length ≤ m ∧ (∀ a ∈ arcs, ArcOk n a ∧ a.f2 ≤ 5) ∧ Ev (fun k => ebbtidelaw12_Read.l0 k (m : Int) (i : Int) a0 b l a3 a4 a5 n b A) (n, b, arcs, sE n a3, tE n a3 a4, hE a5) := by
 have hn0 : ¬ n = 0 := by omega
 have hn1 : ¬ wrap64 (n - 1) = 0 := by rw [wB (by omega) (by omega)]; omega
 induction d with
 | zero =>
  intro i A hi hA hok
  refine ⟨A, by omega, hok, ev_cst fun k => ?_⟩
  rw [ebbtidelaw12_Read.l0, if_neg (show ¬ (i : Int) < (m : Int) by omega), if_neg hn0, if_neg hn1, ite_self]
  rfl
 | succ d ih =>
  intro i A hi hA hok
  by_cases c : i < l.length
  ·have hx := hl l[i] (List.getElem_mem c)
   have e0 := tm (a := l[i].f0) (b := n) hx.1.1 (by omega)
   have e1 := tm (a := l[i].f1) (b := n) hx.2.1.1 (by omega)
   have e2 := tm (a := l[i].f2) (b := 6) hx.2.2.1.1 (by omega)
   have e3 := tm (a := l[i].f3) (b := 4) hx.2.2.2.1 (by omega)
   obtain ⟨arcs, h1, h2, h3⟩ := ih (i + 1) (A ++ [(⟨Int.tmod l[i].f0 n, Int.tmod l[i].f1 n, Int.tmod l[i].f2 6, Int.tmod l[i].f3 4⟩ : S54)]) (by omega) (by simp; omega) (fun a ha => by
    rcases List.mem_append.1 ha with ha | ha
    ·exact hok a ha
    ·rw [List.mem_singleton.1 ha]
     exact ⟨⟨e0, e1, by show 0 ≤ Int.tmod _ _ ∧ Int.tmod _ _ ≤ _; omega, by show 0 ≤ Int.tmod _ _ ∧ Int.tmod _ _ ≤ _; omega⟩, by show Int.tmod _ _ ≤ 5; omega⟩)
   refine ⟨arcs, h1, h2, Ev.step (fun k => ?_) h3⟩
   rw [ebbtidelaw12_Read.l0, if_pos (by omega), if_pos (by omega), if_pos (by omega), if_neg hn0, if_pos (by omega), rdB_of c, wB hx.1.1 (by omega), wB hx.2.1.1 (by omega), wB hx.2.2.1.1 (by omega), wB hx.2.2.2.1 (by omega), wrap1 (by omega)]
  ·refine ⟨A, by omega, hok, ev_cst fun k => ?_⟩
   rw [ebbtidelaw12_Read.l0, if_neg (by omega), if_neg hn0, if_neg hn1]
   rfl
structure SmallN (m : Nat) (n : Int) (arcs : List S54) (s t h : Int) : Prop where
 two : 2 ≤ n ∧ n ≤ 5
 net : NetOk n arcs
 ends : 0 ≤ s ∧ s < n ∧ 0 ≤ t ∧ t < n ∧ s ≠ t
 hor : 0 ≤ h ∧ h ≤ 7
 len : arcs.length ≤ m
 cap : ∀ a ∈ arcs, a.f2 ≤ 5
theorem read12_ev {N : Nat} (m : Nat) (hm : m ≤ 8) (x : S41) (g : g41 N x) : ∃ (n : Int) (arcs : List S54) (s t h : Int), SmallN m n arcs s t h ∧
 Ev (fun k => ebbtidelaw12_Read.f k x.f0 x.f1 x.f2 x.f3 x.f4 x.f5 (m : Int)) (n, x.f1, arcs, s, t, h) := by
 obtain ⟨g0, _, g2, g3, g4, g5⟩ := g
 have b0 := Go.bounds_u8 g0
 have b3 := Go.bounds_u8 g3
 have b4 := Go.bounds_u8 g4
 have b5 := Go.bounds_u8 g5
 have e4 := tm (a := x.f0) (b := 4) b0.1 (by omega)
 have en : wrap64 (2 + Int.tmod (wrap64 x.f0) 4) = 2 + Int.tmod x.f0 4 := by rw [wB b0.1 (by omega), wB (by omega) (by omega)]
 have hn : 2 ≤ 2 + Int.tmod x.f0 4 ∧ 2 + Int.tmod x.f0 4 ≤ 5 := by omega
 have hh : 0 ≤ hE x.f5 ∧ hE x.f5 ≤ 7 := by
  have e := tm (a := x.f5) (b := 8) b5.1 (by omega)
  unfold hE
  rw [wB b5.1 (by omega)]
  omega
 obtain ⟨arcs, h1, h2, h3⟩ := read12_loop m hm hn x.f1 x.f2 (fun y hy => ⟨Go.bounds_u8 (g2.2.2 y hy).1, Go.bounds_u8 (g2.2.2 y hy).2.1, Go.bounds_u8 (g2.2.2 y hy).2.2.1, Go.bounds_u8 (g2.2.2 y hy).2.2.2⟩) x.f0 x.f3 x.f4 x.f5 m 0 [] (by omega) (Nat.le_refl _) (fun a ha => by cases ha)
 refine ⟨_, arcs, _, _, _, ⟨hn, ⟨by omega, by omega, by omega, fun a ha => (h2 a ha).1⟩, ends_ok hn b3 b4, hh, h1, fun a ha => (h2 a ha).2⟩, ?_⟩
 unfold ebbtidelaw12_Read.f
 rw [en]
 exact h3
end Go.Proofs.Ytfhkkbpkajfdlaa.P
end
section
namespace Go.Proofs.Ytfhkkbpkajfdlaa.P
open Go.RowKit Go.Proofs.Ytfhkkbpkajfdlaa.Q Go.Proofs.YtfhkkbpkajfdlaaW.PrintWords Go.Proofs.YtfhkkbpkajfdlaaW.PrintLast Go.Proofs.YtfhkkbpkajfdlaaW.PrintMore
section
variable {n : Int} {arcs : List S54} {s t h : Int} {l : List S85} (hs : Small n arcs s t h l)
include hs
theorem small_ask : askErr n arcs s t h = 0 := by
 have h1 := hs.ends
 have h2 := hs.hor
 exact askErr_ok.2 ⟨hs.net, h1.1, h1.2.1, h1.2.2.1, h1.2.2.2.1, h1.2.2.2.2, h2.1, by omega⟩
end
section
variable {arcs : List S54} {s t h : Int} {M : List S85} (hm : ∀ m ∈ M, May arcs s t h m)
include hm
theorem stk_late (hh : 0 ≤ h) {n : Int} (hn : NetOk n arcs) (v : Nat) : stk arcs M (h.toNat + 1) v = stk arcs M h.toNat v := by
 refine wsum_congr fun x hx => ?_
 have h1 := hm x hx
 have h2 := (arcAt_ok hn h1.a0 h1.a1).f3
 have h3 := h1.b1
 have e1 : (keyM x).1 = x.f0 := rfl
 have e2 : (keyM x).2 = x.f1 := rfl
 unfold cStk cIn cOut
 rw [e1, e2]
 generalize (arcAt arcs x.f0).f3 = q at *
 have d1 : x.f1 + q ≤ ((h.toNat + 1 : Nat) : Int) := by omega
 have d2 : x.f1 + q ≤ ((h.toNat : Nat) : Int) := by omega
 have d3 : x.f1 ≤ ((h.toNat + 1 : Nat) : Int) := by omega
 have d4 : x.f1 ≤ ((h.toNat : Nat) : Int) := by omega
 simp only [d1, d2, d3, d4, and_true]
end
theorem planR_ok {hold : Bool} {n : Int} {arcs : List S54} {s t h : Int} {l : List S85} (k : (planR hold n arcs s t h l).2 = 0) :
 (mergedR n arcs s t h l).2 = 0 ∧ AllOk hold h s t (tH h) (tV n) (stk arcs (mergedR n arcs s t h l).1) ∧ planR hold n arcs s t h l = (stk arcs (mergedR n arcs s t h l).1 h.toNat t.toNat, 0) := by
 unfold planR at *
 by_cases c : (mergedR n arcs s t h l).2 = 0
 ·rw [if_pos c] at *
  by_cases c2 : AllOk hold h s t (tH h) (tV n) (stk arcs (mergedR n arcs s t h l).1)
  ·rw [if_pos c2]; exact ⟨c, c2, rfl⟩
  ·rw [if_neg c2] at k; cases k
 ·rw [if_neg c] at k; exact absurd k c
theorem mergedR_later {n : Int} {arcs : List S54} {s t h : Int} {l : List S85} (k : (mergedR n arcs s t h l).2 = 0) (hh : h + 1 ≤ 1024) : mergedR n arcs s t (h + 1) l = mergedR n arcs s t h l ∧ mergedR n arcs s t h l = (mergeL l, 0) := by
 have ho := mergedR_ok k
 have h1 := ho.hor
 have a0 : askErr n arcs s t h = 0 := askErr_ok.2 ⟨ho.net, ho.ends.1, ho.ends.2.1, ho.ends.2.2.1, ho.ends.2.2.2.1, ho.ends.2.2.2.2, h1.1, h1.2⟩
 have a1 : askErr n arcs s t (h + 1) = 0 := askErr_ok.2 ⟨ho.net, ho.ends.1, ho.ends.2.1, ho.ends.2.2.1, ho.ends.2.2.2.1, ho.ends.2.2.2.2, by omega, hh⟩
 have m0 : AllMay arcs s t h (mergeL l) := by have := ho.may; rw [ho.is] at this; exact this
 have m1 : AllMay arcs s t (h + 1) (mergeL l) := fun m hm => by
  have h2 := m0 m hm
  exact ⟨h2.a0, h2.a1, h2.b0, h2.c0, by have := h2.b1; omega, h2.c1, h2.e1, h2.e0⟩
 have e0 : mergedR n arcs s t h l = (mergeL l, 0) := by unfold mergedR; rw [if_pos a0, if_pos ho.fit, if_pos m0]
 have e1 : mergedR n arcs s t (h + 1) l = (mergeL l, 0) := by unfold mergedR; rw [if_pos a1, if_pos ho.fit, if_pos m1]
 exact ⟨e1.trans e0.symm, e0⟩
theorem planR_later {hold : Bool} {n : Int} {arcs : List S54} {s t h : Int} {l : List S85} (k : (planR hold n arcs s t h l).2 = 0) (hh : h + 1 ≤ 1024) : planR hold n arcs s t (h + 1) l = planR hold n arcs s t h l := by
 obtain ⟨c, c2, e⟩ := planR_ok k
 have ho := mergedR_ok c
 obtain ⟨e1, -⟩ := mergedR_later c hh
 have h1 := ho.hor
 have et : (h + 1).toNat = h.toNat + 1 := by omega
 have hl := fun v => stk_late ho.may h1.1 ho.net v
 rw [e]
 unfold planR
 rw [e1, if_pos c]
 have hok : AllOk hold (h + 1) s t (tH (h + 1)) (tV n) (stk arcs (mergedR n arcs s t h l).1) := by
  intro u hu w hw hb
  unfold tH at hu
  rw [et] at hu
  by_cases c3 : u ≤ h.toNat
  ·refine c2 u (by unfold tH; omega) w hw ⟨hb.1, hb.2.1, hb.2.2.imp id (fun h2 => ⟨h2.1, ?_⟩)⟩
   rcases h2.2 with h3 | h3
   ·exact .inl h3
   ·omega
  ·have : u = h.toNat + 1 := by omega
   subst this
   refine c2 h.toNat (by unfold tH; omega) w hw ⟨hb.1, hb.2.1, ?_⟩
   unfold Bad at hb
   rw [hl] at hb
   exact hb.2.2.imp id (fun h2 => ⟨h2.1, .inr (by omega)⟩)
 rw [if_pos hok, et, hl]
def psum (f : Nat → Int) : Nat → Int
 | 0 => 0
 | v + 1 => psum f v + f v
theorem psum_congr {f g : Nat → Int} {V : Nat} (h : ∀ v, v < V → f v = g v) : psum f V = psum g V := by
 induction V with
 | zero => rfl
 | succ V ih => rw [psum, psum, ih (fun v hv => h v (by omega)), h V (by omega)]
theorem psum_add (f g : Nat → Int) (V : Nat) : psum (fun v => f v + g v) V = psum f V + psum g V := by
 induction V with
 | zero => rfl
 | succ V ih => rw [psum, psum, psum, ih]; omega
theorem psum_none (x : Nat) (p : Int) {V : Nat} (h : V ≤ x) : psum (fun v => if x = v then p else 0) V = 0 := by
 induction V with
 | zero => rfl
 | succ V ih => rw [psum, ih (by omega), if_neg (by omega)]; rfl
theorem psum_single (x : Nat) (p : Int) {V : Nat} (h : x < V) : psum (fun v => if x = v then p else 0) V = p := by
 induction V with
 | zero => omega
 | succ V ih =>
  rw [psum]
  by_cases c : x = V
  ·rw [if_pos c, psum_none x p (by omega)]; omega
  ·rw [if_neg c, ih (by omega)]; omega
theorem psum_wsum (c : Nat → Int × Int → Int) (M : List S85) (V : Nat) : psum (fun v => wsum (c v) M) V = wsum (fun k => psum (fun v => c v k) V) M := by
 induction V with
 | zero => exact (wsum_zero fun _ _ => rfl).symm
 | succ V ih =>
  rw [psum, ih, ← wsum_add]
  rfl
def cWay (arcs : List S54) (a : Int) (k : Int × Int) : Int := if k.2 ≤ a ∧ k.2 + (arcAt arcs k.1).f3 > a then 1 else 0
theorem all_nothing {n : Int} {arcs : List S54} {s t h : Int} {M : List S85} (hn : NetOk n arcs) (hm : ∀ m ∈ M, May arcs s t h m) (a : Nat) : wsum (cWay arcs (a : Int)) M + psum (stk arcs M a) (tV n) = 0 := by
 have e : psum (stk arcs M a) (tV n) = wsum (fun k => psum (fun v => cStk arcs (v : Int) (a : Int) k) (tV n)) M := psum_wsum (fun v => cStk arcs (v : Int) (a : Int)) M (tV n)
 rw [e, ← wsum_add]
 refine wsum_zero fun x hx => ?_
 have h1 := hm x hx
 have ho := arcAt_ok hn h1.a0 h1.a1
 have e1 : (keyM x).1 = x.f0 := rfl
 have e2 : (keyM x).2 = x.f1 := rfl
 have l0 := ho.f0
 have l1 := ho.f1
 have l3 := ho.f3
 obtain ⟨fr, hfr⟩ := Int.eq_ofNat_of_zero_le l0.1
 obtain ⟨tn, hto⟩ := Int.eq_ofNat_of_zero_le l1.1
 have e3 : psum (fun v => cStk arcs (v : Int) (a : Int) (keyM x)) (tV n) = (if x.f1 + (arcAt arcs x.f0).f3 ≤ (a : Int) then 1 else 0) + (if x.f1 ≤ (a : Int) then -1 else 0) := by
  rw [← psum_single tn (if x.f1 + (arcAt arcs x.f0).f3 ≤ (a : Int) then 1 else 0) (V := tV n) (by unfold tV; omega), ← psum_single fr (if x.f1 ≤ (a : Int) then -1 else 0) (V := tV n) (by unfold tV; omega), ← psum_add]
  refine psum_congr fun v _ => ?_
  unfold cStk cIn cOut
  rw [e1, e2, hfr, hto]
  have q1 : ((tn : Int) = (v : Int)) ↔ tn = v := by omega
  have q2 : ((fr : Int) = (v : Int)) ↔ fr = v := by omega
  simp only [q1, q2]
  by_cases c1 : tn = v <;> by_cases c2 : fr = v <;> by_cases c3 : x.f1 + (arcAt arcs x.f0).f3 ≤ (a : Int) <;> by_cases c4 : x.f1 ≤ (a : Int) <;> simp [c1, c2, c3, c4]
 rw [e3]
 unfold cWay
 rw [e1, e2]
 generalize (arcAt arcs x.f0).f3 = q at *
 (repeat' split) <;> omega
theorem psum_two {f : Nat → Int} {V s t : Nat} (hs : s < V) (ht : t < V) (hst : s ≠ t) (h : ∀ v, v < V → v ≠ s → v ≠ t → f v = 0) : psum f V = f s + f t := by
 rw [← psum_single s (f s) hs, ← psum_single t (f t) ht, ← psum_add]
 refine psum_congr fun v hv => ?_
 by_cases c1 : s = v
 ·subst c1; rw [if_pos rfl, if_neg (by omega)]; omega
 ·by_cases c2 : t = v
  ·subst c2; rw [if_neg c1, if_pos rfl]; omega
  ·rw [if_neg c1, if_neg c2, h v hv (by omega) (by omega)]; rfl
theorem source_left {hold : Bool} {n : Int} {arcs : List S54} {s t h : Int} {l : List S85} (k : (planR hold n arcs s t h l).2 = 0) :
 stk arcs (mergedR n arcs s t h l).1 h.toNat s.toNat = -(planR hold n arcs s t h l).1 := by
 obtain ⟨c, c2, e⟩ := planR_ok k
 have ho := mergedR_ok c
 have h1 := ho.hor
 obtain ⟨s0, s1, t0, t1, st⟩ := ho.ends
 have h2 := all_nothing ho.net ho.may h.toNat
 have h3 : wsum (cWay arcs ((h.toNat : Nat) : Int)) (mergedR n arcs s t h l).1 = 0 := wsum_zero fun x hx => by
  have := (ho.may x hx).b1
  unfold cWay
  rw [if_neg]
  rintro ⟨_, h5⟩
  have e1 : (keyM x).1 = x.f0 := rfl
  have e2 : (keyM x).2 = x.f1 := rfl
  rw [e1, e2] at h5
  omega
 have h4 := psum_two (f := stk arcs (mergedR n arcs s t h l).1 h.toNat) (V := tV n) (s := s.toNat) (t := t.toNat) (by unfold tV; omega) (by unfold tV; omega) (by omega) (fun v hv hvs hvt => by
  have h5 := c2 h.toNat (by unfold tH; omega) v hv
  apply Classical.byContradiction
  intro h6
  refine h5 ⟨by omega, by omega, ?_⟩
  rcases Int.lt_or_gt_of_ne h6 with h7 | h7
  ·exact .inl h7
  ·exact .inr ⟨h7, .inr (by omega)⟩)
 rw [e]
 show _ = -(stk arcs _ h.toNat t.toNat)
 omega
section
variable {xs : List (List Int)} {s t : Int} {b h1 : Nat} {o : List Int}
end
section
variable {V H s t : Int} {hold : Bool} {l0 : List S54}
theorem arcAt_getD (i : Nat) : arcAt l0 (i : Int) = l0.getD i z54 := by unfold arcAt rd_T54; rw [Int.toNat_natCast]
end
def sm {α : Type} (f : α → Int) : List α → Int
 | [] => 0
 | x :: l => f x + sm f l
section
variable {α β : Type}
theorem sm_append (f : α → Int) (l l' : List α) : sm f (l ++ l') = sm f l + sm f l' := by
 induction l with
 | nil => simp [sm]
 | cons x l ih => rw [List.cons_append, sm, sm, ih]; omega
theorem sm_snoc (f : α → Int) (l : List α) (x : α) : sm f (l ++ [x]) = sm f l + f x := by rw [sm_append, sm, sm]; omega
theorem sm_congr {f g : α → Int} {l : List α} (h : ∀ x ∈ l, f x = g x) : sm f l = sm g l := by
 induction l with
 | nil => rfl
 | cons x l ih => rw [sm, sm, h x List.mem_cons_self, ih (fun y hy => h y (List.mem_cons_of_mem _ hy))]
theorem sm_add (f g : α → Int) (l : List α) : sm (fun x => f x + g x) l = sm f l + sm g l := by
 induction l with
 | nil => rfl
 | cons x l ih => rw [sm, sm, sm, ih]; omega
theorem sm_neg (f : α → Int) (l : List α) : sm (fun x => -f x) l = -sm f l := by
 induction l with
 | nil => rfl
 | cons x l ih => rw [sm, sm, ih]; omega
theorem sm_zero {f : α → Int} {l : List α} (h : ∀ x ∈ l, f x = 0) : sm f l = 0 := by
 induction l with
 | nil => rfl
 | cons x l ih => rw [sm, h x List.mem_cons_self, ih (fun y hy => h y (List.mem_cons_of_mem _ hy))]; rfl
theorem sm_map (f : β → Int) (g : α → β) (l : List α) : sm f (l.map g) = sm (fun x => f (g x)) l := by
 induction l with
 | nil => rfl
 | cons x l ih => rw [List.map_cons, sm, sm, ih]
theorem sm_nonneg {f : α → Int} {l : List α} (h : ∀ x ∈ l, 0 ≤ f x) : 0 ≤ sm f l := by
 induction l with
 | nil => exact Int.le_refl _
 | cons x l ih =>
  have h1 := h x List.mem_cons_self
  have h2 := ih (fun y hy => h y (List.mem_cons_of_mem _ hy))
  rw [sm]; omega
theorem sm_bd {f : α → Int} {l : List α} {B : Int} (h : ∀ x ∈ l, -B ≤ f x ∧ f x ≤ B) : -(B * (l.length : Int)) ≤ sm f l ∧ sm f l ≤ B * (l.length : Int) := by
 induction l with
 | nil => simp [sm]
 | cons x l ih =>
  have h1 := h x List.mem_cons_self
  have h2 := ih (fun y hy => h y (List.mem_cons_of_mem _ hy))
  rw [sm, List.length_cons, Int.natCast_add, Int.mul_add]
  omega
end
def arcAll (V H s : Int) (l0 : List S54) (k : S83) : S54 :=
 if k.f0 = true ∨ k.f1 = true then arcK V l0 k else if k.f3 = s then ⟨(H + 1) * V, k.f4 * V + s, 1099511627776, 0⟩ else ⟨k.f4 * V + k.f3, (H + 1) * V + 1, 1099511627776, 0⟩
section
variable {V H s t : Int} {hold : Bool} {l0 : List S54}
theorem arcs_all (hst : s ≠ t) : gridArcs V H hold s t l0 = (gridKinds V H hold s t l0).map (arcAll V H s l0) := by
 rw [kinds_eq, List.map_append, List.map_append]
 unfold gridArcs
 rw [arcs1]
 congr 1
 ·congr 1
  ·refine List.map_congr_left fun k hk => ?_
   have : k.f0 = true ∨ k.f1 = true := by
    obtain ⟨a, ha, ⟨i, hi, hm⟩ | ⟨v, hv, hm⟩⟩ := mem_kindsB.1 hk
    ·rw [mvAt_some] at hm; rw [hm.2]; exact Or.inl rfl
    ·rw [wtAt_some] at hm; rw [hm.2]; exact Or.inr rfl
   unfold arcAll
   rw [if_pos this]
  ·unfold firstsA kEnds
   rw [List.map_map]
   refine List.map_congr_left fun a _ => ?_
   show _ = arcAll V H s l0 ⟨false, false, 0, s, (a : Int)⟩
   unfold arcAll
   rw [if_neg (by simp), if_pos rfl]
 ·unfold lastsA kEnds
  rw [List.map_map]
  refine List.map_congr_left fun a _ => ?_
  show _ = arcAll V H s l0 ⟨false, false, 0, t, (a : Int)⟩
  unfold arcAll
  rw [if_neg (by simp), if_neg (fun e => hst e.symm)]
structure MvK (H s t : Int) (l0 : List S54) (k : S83) : Prop where
 n1 : k.f1 = false
 i0 : 0 ≤ k.f2
 i1 : k.f2 < (l0.length : Int)
 a0 : 0 ≤ k.f4
 a1 : k.f4 + (arcAt l0 k.f2).f3 ≤ H
 e1 : (arcAt l0 k.f2).f1 ≠ s
 e0 : (arcAt l0 k.f2).f0 ≠ t
structure WtK (V H s t : Int) (hold : Bool) (k : S83) : Prop where
 n0 : k.f0 = false
 v0 : 0 ≤ k.f3
 v1 : k.f3 < V
 ns : k.f3 ≠ s
 nt : k.f3 ≠ t
 a0 : 0 ≤ k.f4
 a1 : k.f4 < H
 ho : hold = true
theorem kind_cases (hh : 0 ≤ H) {k : S83} (hk : k ∈ gridKinds V H hold s t l0) : (k.f0 = true ∧ MvK H s t l0 k) ∨ (k.f1 = true ∧ WtK V H s t hold k) ∨ (k.f0 = false ∧ k.f1 = false ∧ (k.f3 = s ∨ k.f3 = t) ∧ 0 ≤ k.f4 ∧ k.f4 ≤ H) := by
 rw [kinds_eq] at hk
 rcases List.mem_append.1 hk with hk | hk
 ·rcases List.mem_append.1 hk with hk | hk
  ·obtain ⟨a, ha, ⟨i, hi, hm⟩ | ⟨v, hv, hm⟩⟩ := mem_kindsB.1 hk
   ·rw [mvAt_some] at hm
    obtain ⟨⟨h1, h2, h3⟩, rfl⟩ := hm
    rw [← arcAt_getD] at h1 h2 h3
    exact Or.inl ⟨rfl, rfl, Int.natCast_nonneg _, by show (i : Int) < _; omega, Int.natCast_nonneg _, h1, h2, h3⟩
   ·rw [wtAt_some] at hm
    obtain ⟨⟨h1, h2, h3, h4⟩, rfl⟩ := hm
    exact Or.inr (Or.inl ⟨rfl, rfl, Int.natCast_nonneg _, by show (v : Int) < _; omega, h3, h4, Int.natCast_nonneg _, h1, h2⟩)
  ·unfold kEnds at hk
   obtain ⟨a, ha, rfl⟩ := List.mem_map.1 hk
   have := List.mem_range.1 ha
   exact Or.inr (Or.inr ⟨rfl, rfl, Or.inl rfl, Int.natCast_nonneg _, by show (a : Int) ≤ _; omega⟩)
 ·unfold kEnds at hk
  obtain ⟨a, ha, rfl⟩ := List.mem_map.1 hk
  have := List.mem_range.1 ha
  exact Or.inr (Or.inr ⟨rfl, rfl, Or.inr rfl, Int.natCast_nonneg _, by show (a : Int) ≤ _; omega⟩)
theorem cell_lt {a u b : Int} (hV : 0 < V) (hu : u < V) (hab : a < b) : a * V + u < b * V := by
 have h1 : (a + 1) * V ≤ b * V := Int.mul_le_mul_of_nonneg_right (by omega) (by omega)
 rw [Int.add_mul, Int.one_mul] at h1
 omega
theorem cell_eq {a u b w : Int} (hV : 0 < V) (hu : 0 ≤ u ∧ u < V) (hw : 0 ≤ w ∧ w < V) : a * V + u = b * V + w ↔ a = b ∧ u = w := by
 constructor
 ·intro h
  rcases Int.lt_trichotomy a b with c | c | c
  ·have := cell_lt hV hu.2 c; omega
  ·subst c; exact ⟨rfl, by omega⟩
  ·have := cell_lt hV hw.2 c; omega
 ·rintro ⟨rfl, rfl⟩; rfl
def dl (x v : Int) : Int := if x = v then 1 else 0
def con (V H s : Int) (l0 : List S54) (v : Int) (p : S83 × Int) : Int := p.2 * (dl (arcAll V H s l0 p.1).f0 v - dl (arcAll V H s l0 p.1).f1 v)
def mvP (l0 : List S54) (c : Int × Int → Int) (p : S83 × Int) : Int := if p.1.f0 = true then p.2 * c (p.1.f2, p.1.f4) else 0
def wP (u a : Int) (p : S83 × Int) : Int := if p.1.f1 = true ∧ p.1.f3 = u ∧ p.1.f4 = a then p.2 else 0
def eP (u a : Int) (p : S83 × Int) : Int := if p.1.f0 = false ∧ p.1.f1 = false ∧ p.1.f3 = u ∧ p.1.f4 = a then p.2 else 0
def eA (u : Int) (p : S83 × Int) : Int := if p.1.f0 = false ∧ p.1.f1 = false ∧ p.1.f3 = u then p.2 else 0
theorem con_cell (hn : NetOk V l0) (hs : 0 ≤ s ∧ s < V) (ht : 0 ≤ t ∧ t < V) (hst : s ≠ t) (hh : 0 ≤ H) {a u : Int} (ha : 0 ≤ a ∧ a ≤ H) (hu : 0 ≤ u ∧ u < V) {p : S83 × Int} (hp : p.1 ∈ gridKinds V H hold s t l0) :
 con V H s l0 (a * V + u) p = -mvP l0 (cNow l0 u a) p + wP u a p - wP u (a - 1) p - (if u = s then eP s a p else 0) + (if u = t then eP t a p else 0) := by
 obtain ⟨k, x⟩ := p
 replace hp : k ∈ gridKinds V H hold s t l0 := hp
 have hV : 0 < V := by have := hn.lo; omega
 unfold con
 rcases kind_cases hh hp with ⟨h0, hk⟩ | ⟨h1, hk⟩ | ⟨h0, h1, hk, k0, k1⟩
 ·have e : arcAll V H s l0 k = ⟨k.f4 * V + (arcAt l0 k.f2).f0, (k.f4 + (arcAt l0 k.f2).f3) * V + (arcAt l0 k.f2).f1, (arcAt l0 k.f2).f2, 0⟩ := by
   unfold arcAll arcK
   rw [if_pos (Or.inl h0), if_pos h0]
   rfl
  have ho := arcAt_ok hn hk.i0 hk.i1
  simp only [e, mvP, wP, eP, h0, hk.n1, if_true, Bool.false_eq_true, false_and, if_false, Bool.true_eq_false, ite_self]
  have q0 := cell_eq (a := k.f4) (b := a) hV ho.f0 hu
  have q1 := cell_eq (a := k.f4 + (arcAt l0 k.f2).f3) (b := a) hV ho.f1 hu
  unfold dl cNow
  simp only [q0, q1]
  generalize (arcAt l0 k.f2).f0 = fr
  generalize (arcAt l0 k.f2).f1 = tn
  generalize (arcAt l0 k.f2).f3 = ti
  have c0 : (k.f4 = a ∧ fr = u) ↔ (fr = u ∧ k.f4 = a) := And.comm
  have c1 : (k.f4 + ti = a ∧ tn = u) ↔ (tn = u ∧ k.f4 + ti = a) := And.comm
  simp only [c0, c1]
  by_cases d0 : fr = u ∧ k.f4 = a
  ·by_cases d1 : tn = u ∧ k.f4 + ti = a
   ·rw [if_pos d0, if_pos d1]; simp
   ·rw [if_pos d0, if_neg d1]; simp
  ·by_cases d1 : tn = u ∧ k.f4 + ti = a
   ·rw [if_neg d0, if_pos d1]; simp
   ·rw [if_neg d0, if_neg d1]; simp
 ·have e : arcAll V H s l0 k = ⟨k.f4 * V + k.f3, (k.f4 + 1) * V + k.f3, 1099511627776, 0⟩ := by
   unfold arcAll arcK
   rw [if_pos (Or.inr h1), if_neg (by rw [hk.n0]; exact Bool.false_ne_true)]
  simp only [e, mvP, wP, eP, h1, hk.n0, if_true, true_and, Bool.false_eq_true, false_and, if_false, Bool.true_eq_false, ite_self]
  have q0 := cell_eq (a := k.f4) (b := a) hV ⟨hk.v0, hk.v1⟩ hu
  have q1 := cell_eq (a := k.f4 + 1) (b := a) hV ⟨hk.v0, hk.v1⟩ hu
  unfold dl
  simp only [q0, q1]
  have c0 : (k.f4 = a ∧ k.f3 = u) ↔ (k.f3 = u ∧ k.f4 = a) := And.comm
  have c1 : (k.f4 + 1 = a ∧ k.f3 = u) ↔ (k.f3 = u ∧ k.f4 = a - 1) := by omega
  simp only [c0, c1]
  by_cases d0 : k.f3 = u ∧ k.f4 = a
  ·have d1 : ¬ (k.f3 = u ∧ k.f4 = a - 1) := by omega
   rw [if_pos d0, if_neg d1, if_pos d0, if_neg d1]; simp
  ·by_cases d1 : k.f3 = u ∧ k.f4 = a - 1
   ·rw [if_neg d0, if_pos d1, if_neg d0, if_pos d1]; simp
   ·rw [if_neg d0, if_neg d1, if_neg d0, if_neg d1]; simp
 ·have big : ∀ j : Int, 0 ≤ j → j ≤ 1 → (H + 1) * V + j ≠ a * V + u := fun j hj _ e => by
   have := cell_lt (a := a) (b := H + 1) hV hu.2 (by omega)
   omega
  have b0 := big 0 (by omega) (by omega)
  have b1 := big 1 (by omega) (by omega)
  rw [Int.add_zero] at b0
  rcases hk with hk | hk
  ·have e : arcAll V H s l0 k = ⟨(H + 1) * V, k.f4 * V + s, 1099511627776, 0⟩ := by
    unfold arcAll
    rw [if_neg (by rw [h0, h1]; simp), if_pos hk]
   simp only [e, mvP, wP, eP, h0, h1, hk, Bool.false_eq_true, false_and, if_false, true_and]
   have q1 := cell_eq (a := k.f4) (b := a) hV hs hu
   unfold dl
   simp only [q1, b0, if_false, hst]
   by_cases d0 : u = s
   ·subst d0
    by_cases d1 : k.f4 = a
    ·simp [d1, hst]
    ·simp [d1, hst]
   ·have d2 : ¬ s = u := fun e => d0 e.symm
    have hts : ¬ t = s := fun e => hst e.symm
    by_cases d3 : u = t <;> simp [d0, d2, d3, hst, hts]
  ·have e : arcAll V H s l0 k = ⟨k.f4 * V + t, (H + 1) * V + 1, 1099511627776, 0⟩ := by
    unfold arcAll
    rw [if_neg (by rw [h0, h1]; simp), if_neg (by rw [hk]; exact fun e => hst e.symm), hk]
   have hts : ¬ t = s := fun e => hst e.symm
   simp only [e, mvP, wP, eP, h0, h1, hk, Bool.false_eq_true, false_and, if_false, true_and, hts]
   have q1 := cell_eq (a := k.f4) (b := a) hV ht hu
   unfold dl
   simp only [q1, b1, if_false]
   by_cases d0 : u = t
   ·subst d0
    by_cases d1 : k.f4 = a
    ·simp [d1, hts]
    ·simp [d1, hts]
   ·have d2 : ¬ t = u := fun e => d0 e.symm
    simp [d0, d2, hts]
end
theorem rdI_of {l : List Int} {i : Nat} (h : i < l.length) : rd l (i : Int) = l[i] := by unfold rd; simp [List.getD_eq_getElem?_getD, List.getElem?_eq_getElem h]
theorem told_take (l0 : List S54) (c : Int × Int → Int) {K : List S83} {f : List Int} (hf : f.length = K.length) (hp : ∀ i (h : i < f.length), 0 ≤ f[i]) :
 ∀ i, i ≤ K.length → wsum c (toldL f (movesK (K.take i))) = sm (mvP l0 c) ((K.zip f).take i) := by
 intro i
 induction i with
 | zero => intro _; rfl
 | succ i ih =>
  intro hi
  have hz : i < (K.zip f).length := by rw [List.length_zip]; omega
  have h0 := hp i (by omega)
  rw [movesK_take (by omega), toldL_append, wsum_append, ih (by omega), List.take_succ_eq_append_getElem hz, sm_snoc]
  congr 1
  rw [List.getElem_zip]
  unfold mvK mvP
  cases c0 : (K[i]'(by omega)).f0
  ·simp [c0, toldL, wsum_nil]
  ·simp only [c0, if_true, Option.toList_some]
   unfold toldL
   simp only [List.filterMap_cons, List.filterMap_nil, rdI_of (show i < f.length by omega)]
   by_cases c1 : 0 < f[i]'(by omega)
   ·rw [if_pos c1]
    simp only [wsum_cons, wsum_nil, Int.add_zero]
    exact Int.mul_comm _ _
   ·have e : f[i]'(by omega) = 0 := by omega
    rw [if_neg c1]
    simp only [wsum_nil, e, Int.zero_mul]
theorem told_sum (l0 : List S54) (c : Int × Int → Int) {K : List S83} {f : List Int} (hf : f.length = K.length) (hp : ∀ i (h : i < f.length), 0 ≤ f[i]) : wsum c (toldL f (movesK K)) = sm (mvP l0 c) (K.zip f) := by
 have h := told_take l0 c hf hp K.length (Nat.le_refl _)
 rw [List.take_of_length_le (Nat.le_refl _), List.take_of_length_le (by rw [List.length_zip]; omega)] at h
 exact h
theorem sm_one {α : Type} [DecidableEq α] {K : List α} (hK : K.Nodup) (k0 : α) (x : Int) : sm (fun k => if k = k0 then x else 0) K = if k0 ∈ K then x else 0 := by
 induction K with
 | nil => simp [sm]
 | cons k K ih =>
  rw [List.nodup_cons] at hK
  rw [sm, ih hK.2]
  by_cases c : k = k0
  ·subst c
   rw [if_pos rfl, if_neg hK.1, if_pos List.mem_cons_self, Int.add_zero]
  ·rw [if_neg c, Int.zero_add]
   by_cases c2 : k0 ∈ K
   ·rw [if_pos c2, if_pos (List.mem_cons_of_mem _ c2)]
   ·rw [if_neg c2, if_neg (fun h => (List.mem_cons.1 h).elim (fun e => c e.symm) c2)]
theorem now_diff (arcs : List S54) (M : List S85) (v a : Int) : wsum (cStk arcs v a) M = wsum (cNow arcs v a) M + wsum (cStk arcs v (a - 1)) M := by
 rw [← wsum_add]
 refine wsum_congr fun x _ => ?_
 unfold cStk cNow cIn cOut
 generalize (arcAt arcs (keyM x).1).f1 = p
 generalize (arcAt arcs (keyM x).1).f0 = q
 generalize (arcAt arcs (keyM x).1).f3 = r
 by_cases c1 : p = v <;> by_cases c2 : q = v
 ·simp only [c1, c2, true_and]
  by_cases d1 : (keyM x).2 + r ≤ a <;> by_cases d2 : (keyM x).2 ≤ a <;> by_cases d3 : (keyM x).2 + r = a <;> by_cases d4 : (keyM x).2 = a <;> by_cases d5 : (keyM x).2 + r ≤ a - 1 <;> by_cases d6 : (keyM x).2 ≤ a - 1 <;> first | (simp only [d1, d2, d3, d4, d5, d6, if_true, if_false]; omega) | omega
 ·simp only [c1, c2, true_and, false_and, if_false]
  by_cases d1 : (keyM x).2 + r ≤ a <;> by_cases d3 : (keyM x).2 + r = a <;> by_cases d5 : (keyM x).2 + r ≤ a - 1 <;> first | (rw [if_pos d1, if_pos d3, if_pos d5]; omega) | (rw [if_pos d1, if_pos d3, if_neg d5]; omega) | (rw [if_pos d1, if_neg d3, if_pos d5]; omega) | (rw [if_neg d1, if_neg d3, if_neg d5]; omega) | omega
 ·simp only [c1, c2, true_and, false_and, if_false]
  by_cases d1 : (keyM x).2 ≤ a <;> by_cases d3 : (keyM x).2 = a <;> by_cases d5 : (keyM x).2 ≤ a - 1 <;> first | (rw [if_pos d1, if_pos d3, if_pos d5]; omega) | (rw [if_pos d1, if_pos d3, if_neg d5]; omega) | (rw [if_pos d1, if_neg d3, if_pos d5]; omega) | (rw [if_neg d1, if_neg d3, if_neg d5]; omega) | omega
 ·simp [c1, c2]
theorem arcAll_mv {V H s : Int} {l0 : List S54} {k : S83} (h : k.f0 = true) : (arcAll V H s l0 k).f2 = (arcAt l0 k.f2).f2 := by
 unfold arcAll arcK
 rw [if_pos (Or.inl h), if_pos h]
 rfl
theorem arcAll_wt {V H s : Int} {l0 : List S54} {k : S83} (h : k.f0 = false) : (arcAll V H s l0 k).f2 = 1099511627776 := by
 unfold arcAll arcK
 split
 ·rw [if_neg (by rw [h]; exact Bool.false_ne_true)]
 ·split <;> rfl
section
variable {n : Int} {hold : Bool} {arcs : List S54} {s t h : Int} {l M : List S85} (hl : M.length ≤ 1048576) (ho : MergedOk n arcs s t h l M) (hst : AllOk hold h s t (tH h) (tV n) (stk arcs M))
include hl ho
include hst
end
noncomputable instance : DecidableEq S83 := fun _ _ => Classical.propDecidable _
section
variable {n : Int} {hold : Bool} {arcs : List S54} {s t h : Int} {l M : List S85} (hl : M.length ≤ 1048576) (ho : MergedOk n arcs s t h l M)
include hl ho
variable (hst : AllOk hold h s t (tH h) (tV n) (stk arcs M))
include hst
end
end Go.Proofs.Ytfhkkbpkajfdlaa.P
end
