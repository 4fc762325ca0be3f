/- A part of the proof: words, contracts, plain lemmas. Conditions: none. -/
import Derived.Test.YtfhkkbpkajfdlaaZExpandMoves3
import Derived.Test.YtfhkkbpkajfdlaaZExpandMoves25
import Derived.Test.YtfhkkbpkajfdlaaRows
import Derived.Deep.Slices
import Derived.ProofKit
import Derived.Test.YtfhkkbpkajfdlaaZExpandMoves20
import Derived.OpenShut
section
namespace Go.Proofs.Ytfhkkbpkajfdlaa.R
open Go.RowKit Go.Proofs.Ytfhkkbpkajfdlaa.Q Go.Proofs.YtfhkkbpkajfdlaaW.PrintWords Go.Proofs.YtfhkkbpkajfdlaaW.PrintLast Go.Proofs.YtfhkkbpkajfdlaaW.PrintMore
open Go.ChangeShapes Go.WideShapes Go.Deep
def Reads (t : TypeId) {α : Type} (d : Kd α) (G : Nat → α → Prop) : Prop :=
  ∀ {H : Type} (enc : TypeId × Value → H) (w : World) (base : Nat) (spare : Nat → Bool) (held : Bool) (fuel : Nat) (cs : List Value) (x : DataW H × List MemPlace),
    DataW.trod enc Try.prog w base spare held fuel t cs = some x → ∃ a, d.K w a cs ∧ ∀ N, Rows.uptoBulk x.1 ≤ N → G N a
def gInt (k : IntKind) (_ : Nat) (n : Int) : Prop := (Lit.int k n).wf = true
def gTrue (_ : Nat) (_ : Bool) : Prop := True
def gList {α : Type} (G : Nat → α → Prop) (N : Nat) (l : List α) : Prop := l.length ≤ maxLen ∧ l.length ≤ N ∧ ∀ x ∈ l, G N x
theorem readsInt {t : TypeId} {k : IntKind} (ht : Try.prog.underlying t = some (.int k)) : Reads t (Kd.int k) (gInt k) := by
  intro H enc w base spare held fuel cs x h
  obtain ⟨n, rfl, rfl, hw⟩ := DataW.trod_int ht h
  exact ⟨n, rfl, fun _ _ => hw⟩
theorem readsBool {t : TypeId} (ht : Try.prog.underlying t = some .bool) : Reads t Kd.bool gTrue := by
  intro H enc w base spare held fuel cs x h
  obtain ⟨n, rfl, rfl⟩ := DataW.trod_bool ht h
  exact ⟨n, rfl, fun _ _ => trivial⟩
theorem one_le {H : Type} (d : DataW H) : 1 ≤ Rows.uptoBulk d := by
  cases d with
  | lit l => cases l <;> simp [Rows.uptoBulk]
  | nil => simp [Rows.uptoBulk]
  | ptr d => simp [Rows.uptoBulk]
  | slice elems spare => simp [Rows.uptoBulk]
  | agg parts => simp [Rows.uptoBulk]
  | iface t d => simp [Rows.uptoBulk]
  | map entries => simp [Rows.uptoBulk]
  | held h => simp [Rows.uptoBulk]
theorem part_le {H : Type} {d : DataW H} {l : List (DataW H)} (h : d ∈ l) : Rows.uptoBulk d ≤ Rows.uptoBulkAll l := by
  induction l with
  | nil => cases h
  | cons x r ih =>
    simp only [Rows.uptoBulkAll]
    cases List.mem_cons.1 h with
    | inl e => subst e; omega
    | inr e => have := ih e; omega
theorem length_le {H : Type} (l : List (DataW H)) : l.length ≤ Rows.uptoBulkAll l := by
  induction l with
  | nil => simp [Rows.uptoBulkAll]
  | cons x r ih => have := one_le x; simp only [Rows.uptoBulkAll, List.length_cons]; omega
theorem readsSlice {t e : TypeId} {α : Type} [Inhabited α] {d : Kd α} {G : Nat → α → Prop} (ht : Try.prog.underlying t = some (.slice e)) (hc : Try.prog.cellsOf e = d.sz) (R : Reads e d G) : Reads t (Kd.slice e d) (gList G) := by
  intro H enc w base spare held fuel cs x h
  rcases open_slice ht h with ⟨rfl, rfl⟩ | ⟨a, len, cap, m, n, D, Pl, rfl, hb, hl, hm, hmm, rfl, hx⟩
  · exact ⟨[], ⟨none, 0, rfl, Nat.le_refl _, Kd.C_nil d w⟩, fun N _ => ⟨Nat.zero_le _, Nat.zero_le _, fun x hx => by cases hx⟩⟩
  · have hlm : len ≤ m := by rw [hmm]; split <;> omega
    obtain ⟨f, hf⟩ := choose_lt (α := α) (n := m) (p := fun i y => ∃ c, c.length = d.sz ∧ d.K w y c ∧ (∀ j u, c[j]? = some u → w.cell? (a.add (i * d.sz + j)) = some u) ∧ ∀ N, Rows.uptoBulk (D i) ≤ N → G N y) (fun i hi => by
      obtain ⟨c, h1, h2⟩ := hx i hi
      obtain ⟨y, hK, hG⟩ := R enc w base spare held n c _ h2
      obtain ⟨_, hlen, hcell⟩ := World.cells?_some h1
      rw [hc] at hlen hcell
      refine ⟨y, c, hlen, hK, fun j u hu => ?_, hG⟩
      have hj : j < d.sz := by rw [← hlen]; exact (List.getElem?_eq_some_iff.1 hu).1
      have := hcell j hj
      rw [Deep.add_add] at this
      rw [this, hu])
    have hL : ((List.range len).map f).length = len := by simp
    refine ⟨(List.range len).map f, ⟨some a, cap, by rw [hL], by rw [hL]; exact hl, ?_⟩, fun N hN => ?_⟩
    · refine ⟨rfl, by rw [hL]; exact Nat.le_trans hl (Nat.le_trans hm (by decide)), fun _ => ⟨a, rfl, fun j p hj => ?_⟩⟩
      have hjl : j < len := by
        have := (List.getElem?_eq_some_iff.1 hj).1
        rwa [hL] at this
      have hp : f j = p := by
        rw [List.getElem?_map, List.getElem?_range hjl] at hj
        exact Option.some.inj hj
      obtain ⟨c, h1, h2, h3, _⟩ := hf j (by omega)
      rw [hp] at h2
      exact ⟨c, h1, h2, h3⟩
    · have hbulk : Rows.uptoBulkAll ((List.range len).map D) ≤ N := by
        simp only [Rows.uptoBulk] at hN
        omega
      refine ⟨by rw [hL]; omega, by rw [hL]; have := length_le ((List.range len).map D); simp at this; omega, fun y hy => ?_⟩
      obtain ⟨i, hi, rfl⟩ := List.mem_map.1 hy
      have hi' := List.mem_range.1 hi
      obtain ⟨c, _, _, _, hG⟩ := hf i (by omega)
      exact hG N (Nat.le_trans (part_le (List.mem_map.2 ⟨i, hi, rfl⟩)) hbulk)
instance : Inhabited S54 := ⟨z54⟩
def g54 (N : Nat) (x : S54) : Prop := gInt .i64 N x.f0 ∧ gInt .i64 N x.f1 ∧ gInt .i64 N x.f2 ∧ gInt .i64 N x.f3
set_option maxRecDepth 100000 in
theorem reads54 : Reads 54 k54 g54 := by
  intro H enc w base spare held fuel cs x h
  obtain ⟨xs, n, _, hx, hl, hlen, hf⟩ := DataW.trod_struct Try.underlying54 h
  have hl2 : cs.length = 4 := hl.trans (by kernel_rfl)
  have hlen2 : xs.length = 4 := hlen
  match xs, hlen2, cs, hl2 with
  | [y0, y1, y2, y3], _, [v0, v1, v2, v3], _ =>
    have c0 : Try.prog.cellsOf 3 = 1 := by kernel_rfl
    have e0 : DataW.trod enc Try.prog w base spare held n 3 (List.take (Try.prog.cellsOf 3) (List.drop 0 [v0, v1, v2, v3])) = some y0 := hf 0 _ rfl
    rw [c0] at e0
    obtain ⟨a0, K0, G0⟩ := (readsInt Try.underlying3) enc w base spare held n [v0] y0 e0
    have c1 : Try.prog.cellsOf 3 = 1 := by kernel_rfl
    have e1 : DataW.trod enc Try.prog w base spare held n 3 (List.take (Try.prog.cellsOf 3) (List.drop 1 [v0, v1, v2, v3])) = some y1 := hf 1 _ rfl
    rw [c1] at e1
    obtain ⟨a1, K1, G1⟩ := (readsInt Try.underlying3) enc w base spare held n [v1] y1 e1
    have c2 : Try.prog.cellsOf 3 = 1 := by kernel_rfl
    have e2 : DataW.trod enc Try.prog w base spare held n 3 (List.take (Try.prog.cellsOf 3) (List.drop 2 [v0, v1, v2, v3])) = some y2 := hf 2 _ rfl
    rw [c2] at e2
    obtain ⟨a2, K2, G2⟩ := (readsInt Try.underlying3) enc w base spare held n [v2] y2 e2
    have c3 : Try.prog.cellsOf 3 = 1 := by kernel_rfl
    have e3 : DataW.trod enc Try.prog w base spare held n 3 (List.take (Try.prog.cellsOf 3) (List.drop 3 [v0, v1, v2, v3])) = some y3 := hf 3 _ rfl
    rw [c3] at e3
    obtain ⟨a3, K3, G3⟩ := (readsInt Try.underlying3) enc w base spare held n [v3] y3 e3
    refine ⟨⟨a0, a1, a2, a3⟩, ⟨_, _, rfl, K0, ⟨_, _, rfl, K1, ⟨_, _, rfl, K2, K3⟩⟩⟩, fun N hN => ?_⟩
    rw [hx] at hN
    simp only [List.map_cons, List.map_nil, Rows.uptoBulk, Rows.uptoBulkAll] at hN
    exact ⟨G0 N (by omega), G1 N (by omega), G2 N (by omega), G3 N (by omega)⟩
structure S24 where
  f0 : Int
  f1 : Bool
  f2 : List S54
def z24 : S24 := ⟨(0 : Int), false, []⟩
instance : Inhabited S24 := ⟨z24⟩
instance : Inhabited S80 := ⟨z80⟩
def g80 (N : Nat) (x : S80) : Prop := gInt .u8 N x.f0 ∧ gInt .u8 N x.f1 ∧ gInt .u8 N x.f2 ∧ gInt .u8 N x.f3
set_option maxRecDepth 100000 in
theorem reads80 : Reads 80 k80 g80 := by
  intro H enc w base spare held fuel cs x h
  obtain ⟨xs, n, _, hx, hl, hlen, hf⟩ := DataW.trod_struct Try.underlying80 h
  have hl2 : cs.length = 4 := hl.trans (by kernel_rfl)
  have hlen2 : xs.length = 4 := hlen
  match xs, hlen2, cs, hl2 with
  | [y0, y1, y2, y3], _, [v0, v1, v2, v3], _ =>
    have c0 : Try.prog.cellsOf 5 = 1 := by kernel_rfl
    have e0 : DataW.trod enc Try.prog w base spare held n 5 (List.take (Try.prog.cellsOf 5) (List.drop 0 [v0, v1, v2, v3])) = some y0 := hf 0 _ rfl
    rw [c0] at e0
    obtain ⟨a0, K0, G0⟩ := (readsInt Try.underlying5) enc w base spare held n [v0] y0 e0
    have c1 : Try.prog.cellsOf 5 = 1 := by kernel_rfl
    have e1 : DataW.trod enc Try.prog w base spare held n 5 (List.take (Try.prog.cellsOf 5) (List.drop 1 [v0, v1, v2, v3])) = some y1 := hf 1 _ rfl
    rw [c1] at e1
    obtain ⟨a1, K1, G1⟩ := (readsInt Try.underlying5) enc w base spare held n [v1] y1 e1
    have c2 : Try.prog.cellsOf 5 = 1 := by kernel_rfl
    have e2 : DataW.trod enc Try.prog w base spare held n 5 (List.take (Try.prog.cellsOf 5) (List.drop 2 [v0, v1, v2, v3])) = some y2 := hf 2 _ rfl
    rw [c2] at e2
    obtain ⟨a2, K2, G2⟩ := (readsInt Try.underlying5) enc w base spare held n [v2] y2 e2
    have c3 : Try.prog.cellsOf 5 = 1 := by kernel_rfl
    have e3 : DataW.trod enc Try.prog w base spare held n 5 (List.take (Try.prog.cellsOf 5) (List.drop 3 [v0, v1, v2, v3])) = some y3 := hf 3 _ rfl
    rw [c3] at e3
    obtain ⟨a3, K3, G3⟩ := (readsInt Try.underlying5) enc w base spare held n [v3] y3 e3
    refine ⟨⟨a0, a1, a2, a3⟩, ⟨_, _, rfl, K0, ⟨_, _, rfl, K1, ⟨_, _, rfl, K2, K3⟩⟩⟩, fun N hN => ?_⟩
    rw [hx] at hN
    simp only [List.map_cons, List.map_nil, Rows.uptoBulk, Rows.uptoBulkAll] at hN
    exact ⟨G0 N (by omega), G1 N (by omega), G2 N (by omega), G3 N (by omega)⟩
structure S41 where
  f0 : Int
  f1 : Bool
  f2 : List S80
  f3 : Int
  f4 : Int
  f5 : Int
def z41 : S41 := ⟨(0 : Int), false, [], (0 : Int), (0 : Int), (0 : Int)⟩
def k41 : Kd S41 := Kd.iso (Kd.pair (Kd.int .u8) (Kd.pair Kd.bool (Kd.pair (Kd.slice 80 k80) (Kd.pair (Kd.int .u8) (Kd.pair (Kd.int .u8) (Kd.int .u8)))))) (fun x : S41 => (x.f0, x.f1, x.f2, x.f3, x.f4, x.f5))
instance : Inhabited S41 := ⟨z41⟩
def g41 (N : Nat) (x : S41) : Prop := gInt .u8 N x.f0 ∧ gTrue N x.f1 ∧ gList (g80) N x.f2 ∧ gInt .u8 N x.f3 ∧ gInt .u8 N x.f4 ∧ gInt .u8 N x.f5
set_option maxRecDepth 100000 in
theorem reads41 : Reads 41 k41 g41 := by
  intro H enc w base spare held fuel cs x h
  obtain ⟨xs, n, _, hx, hl, hlen, hf⟩ := DataW.trod_struct Try.underlying41 h
  have hl2 : cs.length = 6 := hl.trans (by kernel_rfl)
  have hlen2 : xs.length = 6 := hlen
  match xs, hlen2, cs, hl2 with
  | [y0, y1, y2, y3, y4, y5], _, [v0, v1, v2, v3, v4, v5], _ =>
    have c0 : Try.prog.cellsOf 5 = 1 := by kernel_rfl
    have e0 : DataW.trod enc Try.prog w base spare held n 5 (List.take (Try.prog.cellsOf 5) (List.drop 0 [v0, v1, v2, v3, v4, v5])) = some y0 := hf 0 _ rfl
    rw [c0] at e0
    obtain ⟨a0, K0, G0⟩ := (readsInt Try.underlying5) enc w base spare held n [v0] y0 e0
    have c1 : Try.prog.cellsOf 4 = 1 := by kernel_rfl
    have e1 : DataW.trod enc Try.prog w base spare held n 4 (List.take (Try.prog.cellsOf 4) (List.drop 1 [v0, v1, v2, v3, v4, v5])) = some y1 := hf 1 _ rfl
    rw [c1] at e1
    obtain ⟨a1, K1, G1⟩ := (readsBool Try.underlying4) enc w base spare held n [v1] y1 e1
    have c2 : Try.prog.cellsOf 39 = 1 := by kernel_rfl
    have e2 : DataW.trod enc Try.prog w base spare held n 39 (List.take (Try.prog.cellsOf 39) (List.drop 2 [v0, v1, v2, v3, v4, v5])) = some y2 := hf 2 _ rfl
    rw [c2] at e2
    obtain ⟨a2, K2, G2⟩ := (readsSlice Try.underlying39 (by kernel_rfl) reads80) enc w base spare held n [v2] y2 e2
    have c3 : Try.prog.cellsOf 5 = 1 := by kernel_rfl
    have e3 : DataW.trod enc Try.prog w base spare held n 5 (List.take (Try.prog.cellsOf 5) (List.drop 3 [v0, v1, v2, v3, v4, v5])) = some y3 := hf 3 _ rfl
    rw [c3] at e3
    obtain ⟨a3, K3, G3⟩ := (readsInt Try.underlying5) enc w base spare held n [v3] y3 e3
    have c4 : Try.prog.cellsOf 5 = 1 := by kernel_rfl
    have e4 : DataW.trod enc Try.prog w base spare held n 5 (List.take (Try.prog.cellsOf 5) (List.drop 4 [v0, v1, v2, v3, v4, v5])) = some y4 := hf 4 _ rfl
    rw [c4] at e4
    obtain ⟨a4, K4, G4⟩ := (readsInt Try.underlying5) enc w base spare held n [v4] y4 e4
    have c5 : Try.prog.cellsOf 5 = 1 := by kernel_rfl
    have e5 : DataW.trod enc Try.prog w base spare held n 5 (List.take (Try.prog.cellsOf 5) (List.drop 5 [v0, v1, v2, v3, v4, v5])) = some y5 := hf 5 _ rfl
    rw [c5] at e5
    obtain ⟨a5, K5, G5⟩ := (readsInt Try.underlying5) enc w base spare held n [v5] y5 e5
    refine ⟨⟨a0, a1, a2, a3, a4, a5⟩, ⟨_, _, rfl, K0, ⟨_, _, rfl, K1, ⟨_, _, rfl, K2, ⟨_, _, rfl, K3, ⟨_, _, rfl, K4, K5⟩⟩⟩⟩⟩, fun N hN => ?_⟩
    rw [hx] at hN
    simp only [List.map_cons, List.map_nil, Rows.uptoBulk, Rows.uptoBulkAll] at hN
    exact ⟨G0 N (by omega), G1 N (by omega), G2 N (by omega), G3 N (by omega), G4 N (by omega), G5 N (by omega)⟩
instance : Inhabited S96 := ⟨z96⟩
structure S60 where
  f0 : S41
  f1 : List S96
def z60 : S60 := ⟨z41, []⟩
instance : Inhabited S60 := ⟨z60⟩
end Go.Proofs.Ytfhkkbpkajfdlaa.R
end
section
namespace Go.Proofs.Ytfhkkbpkajfdlaa.P
open Go.RowKit Go.Proofs.Ytfhkkbpkajfdlaa.Q Go.Proofs.YtfhkkbpkajfdlaaW.PrintWords Go.Proofs.YtfhkkbpkajfdlaaW.PrintLast Go.Proofs.YtfhkkbpkajfdlaaW.PrintMore
open Go.Proofs.Ytfhkkbpkajfdlaa.R
theorem tm {a b : Int} (ha : 0 ≤ a) (hb : 0 < b) : 0 ≤ Int.tmod a b ∧ Int.tmod a b < b :=
  ⟨Int.tmod_nonneg b ha, Int.tmod_lt_of_pos a hb⟩
theorem wB {a : Int} (h0 : 0 ≤ a) (h1 : a ≤ 1000) : wrap64 a = a := by unfold wrap64; omega
def sE (n a3 : Int) : Int := Int.tmod (wrap64 a3) n
def tE (n a3 a4 : Int) : Int := Int.tmod (wrap64 (wrap64 (sE n a3 + 1) + Int.tmod (wrap64 a4) (wrap64 (n - 1)))) n
def hE (a5 : Int) : Int := Int.tmod (wrap64 a5) 8
theorem ends_ok {n a3 a4 : Int} (hn : 2 ≤ n ∧ n ≤ 5) (h3 : 0 ≤ a3 ∧ a3 ≤ 255) (h4 : 0 ≤ a4 ∧ a4 ≤ 255) : 0 ≤ sE n a3 ∧ sE n a3 < n ∧ 0 ≤ tE n a3 a4 ∧ tE n a3 a4 < n ∧ sE n a3 ≠ tE n a3 a4 := by
  have hs : 0 ≤ sE n a3 ∧ sE n a3 < n := by unfold sE; rw [wB h3.1 (by omega)]; exact tm h3.1 (by omega)
  have e : tE n a3 a4 = Int.tmod (sE n a3 + 1 + Int.tmod a4 (n - 1)) n := by
    unfold tE
    rw [wB h4.1 (by omega), wB (a := n - 1) (by omega) (by omega), wB (a := sE n a3 + 1) (by omega) (by omega)]
    have hq := tm (a := a4) (b := n - 1) h4.1 (by omega)
    rw [wB (by omega) (by omega)]
  have hq := tm (a := a4) (b := n - 1) h4.1 (by omega)
  rw [e]
  generalize sE n a3 = s at *
  generalize Int.tmod a4 (n - 1) = q at *
  have ht := tm (a := s + 1 + q) (b := n) (by omega) (by omega)
  refine ⟨hs.1, hs.2, ht.1, ht.2, ?_⟩
  rw [Int.tmod_eq_emod_of_nonneg (by omega)]
  have h5 : n = 2 ∨ n = 3 ∨ n = 4 ∨ n = 5 := by omega
  rcases h5 with rfl | rfl | rfl | rfl <;> omega
theorem rdB_of {l : List S80} {i : Nat} (h : i < l.length) : rd_T80 l (i : Int) = l[i] := by unfold rd_T80; simp [List.getD_eq_getElem?_getD, List.getElem?_eq_getElem h]
theorem read12_loop {n : Int} (m : Nat) (hm : m ≤ 8) (hn : 2 ≤ n ∧ n ≤ 5) (b : Bool) (l : List S80) (hl : ∀ x ∈ l, (0 ≤ x.f0 ∧ x.f0 ≤ 255) ∧ (0 ≤ x.f1 ∧ x.f1 ≤ 255) ∧ (0 ≤ x.f2 ∧ x.f2 ≤ 255) ∧ (0 ≤ x.f3 ∧ x.f3 ≤ 255)) (a0 a3 a4 a5 : Int) (d : Nat) :
    ∀ (i : Nat) (A : List S54), i + d = m → A.length ≤ i → (∀ a ∈ A, ArcOk n a ∧ a.f2 ≤ 5) → ∃ arcs : List S54, arcs.length ≤ m ∧ (∀ a ∈ arcs, ArcOk n a ∧ a.f2 ≤ 5) ∧ Ev (fun k => ebbtidelaw12_Read.l0 k (m : Int) (i : Int) a0 b l a3 a4 a5 n b A) (n, b, arcs, sE n a3, tE n a3 a4, hE a5) := by
  have hn0 : ¬ n = 0 := by omega
  have hn1 : ¬ wrap64 (n - 1) = 0 := by rw [wB (by omega) (by omega)]; omega
  induction d with
  | zero =>
    intro i A hi hA hok
    refine ⟨A, by omega, hok, ev_cst fun k => ?_⟩
    rw [ebbtidelaw12_Read.l0, if_neg (show ¬ (i : Int) < (m : Int) by omega), if_neg hn0, if_neg hn1, ite_self]
    rfl
  | succ d ih =>
    intro i A hi hA hok
    by_cases c : i < l.length
    · have hx := hl l[i] (List.getElem_mem c)
      have e0 := tm (a := l[i].f0) (b := n) hx.1.1 (by omega)
      have e1 := tm (a := l[i].f1) (b := n) hx.2.1.1 (by omega)
      have e2 := tm (a := l[i].f2) (b := 6) hx.2.2.1.1 (by omega)
      have e3 := tm (a := l[i].f3) (b := 4) hx.2.2.2.1 (by omega)
      obtain ⟨arcs, h1, h2, h3⟩ := ih (i + 1) (A ++ [(⟨Int.tmod l[i].f0 n, Int.tmod l[i].f1 n, Int.tmod l[i].f2 6, Int.tmod l[i].f3 4⟩ : S54)]) (by omega) (by simp; omega) (fun a ha => by
        rcases List.mem_append.1 ha with ha | ha
        · exact hok a ha
        · rw [List.mem_singleton.1 ha]
          exact ⟨⟨e0, e1, by show 0 ≤ Int.tmod _ _ ∧ Int.tmod _ _ ≤ _; omega, by show 0 ≤ Int.tmod _ _ ∧ Int.tmod _ _ ≤ _; omega⟩, by show Int.tmod _ _ ≤ 5; omega⟩)
      refine ⟨arcs, h1, h2, Ev.step (fun k => ?_) h3⟩
      rw [ebbtidelaw12_Read.l0, if_pos (by omega), if_pos (by omega), if_pos (by omega), if_neg hn0, if_pos (by omega), rdB_of c, wB hx.1.1 (by omega), wB hx.2.1.1 (by omega), wB hx.2.2.1.1 (by omega), wB hx.2.2.2.1 (by omega), wrap1 (by omega)]
    · refine ⟨A, by omega, hok, ev_cst fun k => ?_⟩
      rw [ebbtidelaw12_Read.l0, if_neg (by omega), if_neg hn0, if_neg hn1]
      rfl
structure SmallN (m : Nat) (n : Int) (arcs : List S54) (s t h : Int) : Prop where
  two : 2 ≤ n ∧ n ≤ 5
  net : NetOk n arcs
  ends : 0 ≤ s ∧ s < n ∧ 0 ≤ t ∧ t < n ∧ s ≠ t
  hor : 0 ≤ h ∧ h ≤ 7
  len : arcs.length ≤ m
  cap : ∀ a ∈ arcs, a.f2 ≤ 5
theorem read12_ev {N : Nat} (m : Nat) (hm : m ≤ 8) (x : S41) (g : g41 N x) : ∃ (n : Int) (arcs : List S54) (s t h : Int), SmallN m n arcs s t h ∧
    Ev (fun k => ebbtidelaw12_Read.f k x.f0 x.f1 x.f2 x.f3 x.f4 x.f5 (m : Int)) (n, x.f1, arcs, s, t, h) := by
  obtain ⟨g0, _, g2, g3, g4, g5⟩ := g
  have b0 := Go.bounds_u8 g0
  have b3 := Go.bounds_u8 g3
  have b4 := Go.bounds_u8 g4
  have b5 := Go.bounds_u8 g5
  have e4 := tm (a := x.f0) (b := 4) b0.1 (by omega)
  have en : wrap64 (2 + Int.tmod (wrap64 x.f0) 4) = 2 + Int.tmod x.f0 4 := by rw [wB b0.1 (by omega), wB (by omega) (by omega)]
  have hn : 2 ≤ 2 + Int.tmod x.f0 4 ∧ 2 + Int.tmod x.f0 4 ≤ 5 := by omega
  have hh : 0 ≤ hE x.f5 ∧ hE x.f5 ≤ 7 := by
    have e := tm (a := x.f5) (b := 8) b5.1 (by omega)
    unfold hE
    rw [wB b5.1 (by omega)]
    omega
  obtain ⟨arcs, h1, h2, h3⟩ := read12_loop m hm hn x.f1 x.f2 (fun y hy => ⟨Go.bounds_u8 (g2.2.2 y hy).1, Go.bounds_u8 (g2.2.2 y hy).2.1, Go.bounds_u8 (g2.2.2 y hy).2.2.1, Go.bounds_u8 (g2.2.2 y hy).2.2.2⟩) x.f0 x.f3 x.f4 x.f5 m 0 [] (by omega) (Nat.le_refl _) (fun a ha => by cases ha)
  refine ⟨_, arcs, _, _, _, ⟨hn, ⟨by omega, by omega, by omega, fun a ha => (h2 a ha).1⟩, ends_ok hn b3 b4, hh, h1, fun a ha => (h2 a ha).2⟩, ?_⟩
  unfold ebbtidelaw12_Read.f
  rw [en]
  exact h3
end Go.Proofs.Ytfhkkbpkajfdlaa.P
end
