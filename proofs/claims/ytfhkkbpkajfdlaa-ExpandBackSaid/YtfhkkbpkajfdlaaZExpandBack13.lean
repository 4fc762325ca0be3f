/- A part of the proof: words, contracts, plain lemmas. Conditions: none. -/
import Derived.Test.YtfhkkbpkajfdlaaZExpandBack8
import Derived.Test.YtfhkkbpkajfdlaaZExpandBack11
import Derived.Test.YtfhkkbpkajfdlaaZExpandBack12
import Derived.Test.YtfhkkbpkajfdlaaRows
import Derived.Test.YtfhkkbpkajfdlaaZExpandBack3
import Derived.Deep.Slices
import Derived.ProofKit
import Derived.WalkKit
import Derived.OpenShut
import Derived.ShutString
import Derived.ChangeOld
import Derived.Below
import Derived.SizedLaws
section
namespace Go.Proofs.Ytfhkkbpkajfdlaa.P
set_option linter.unusedSimpArgs false
set_option linter.unusedVariables false
open Go.RowKit Go.Proofs.Ytfhkkbpkajfdlaa.Q Go.Proofs.YtfhkkbpkajfdlaaW.PrintWords Go.Proofs.YtfhkkbpkajfdlaaW.PrintLast Go.Proofs.YtfhkkbpkajfdlaaW.PrintMore
theorem awake15_at : ebbtidelaw15_awake.f 60 = some true := by decide +kernel
theorem awake15_ev : Ev (fun k => ebbtidelaw15_awake.f k) true := Ev.of (fun k => ebbtidelaw15_awake.mono k) awake15_at
def fitsB (n : Int) (l : List S54) (h : Int) : Bool := if checkErr n l = 0 then (if spanErr h = 0 then (if (h + 1) * n ≤ 4000 then decide ((h + 1) * (l.length : Int) ≤ 10000) else false) else false) else false
theorem spanErr_ok {h : Int} : spanErr h = 0 ↔ 0 ≤ h ∧ h ≤ 1024 := by
  unfold spanErr
  by_cases c : h < 0
  · rw [if_pos c]; constructor
    · intro h; cases h
    · omega
  · rw [if_neg c]
    by_cases c2 : 1024 < h
    · rw [if_pos c2]; constructor
      · intro h; cases h
      · omega
    · rw [if_neg c2]; constructor
      · omega
      · intro _; rfl
theorem fitsB_ok {n : Int} {l : List S54} {h : Int} : fitsB n l h = true ↔ NetOk n l ∧ (0 ≤ h ∧ h ≤ 1024) ∧ (h + 1) * n ≤ 4000 ∧ (h + 1) * (l.length : Int) ≤ 10000 := by
  unfold fitsB
  by_cases c1 : checkErr n l = 0
  · rw [if_pos c1]
    by_cases c2 : spanErr h = 0
    · rw [if_pos c2]
      by_cases c3 : (h + 1) * n ≤ 4000
      · rw [if_pos c3]
        constructor
        · intro hh; exact ⟨checkErr_ok.1 c1, spanErr_ok.1 c2, c3, of_decide_eq_true hh⟩
        · rintro ⟨_, _, _, h4⟩; exact decide_eq_true h4
      · rw [if_neg c3]
        constructor
        · intro hh; cases hh
        · rintro ⟨_, _, h3, _⟩; exact absurd h3 c3
    · rw [if_neg c2]
      constructor
      · intro hh; cases hh
      · rintro ⟨_, h2, _⟩; exact absurd (spanErr_ok.2 h2) c2
  · rw [if_neg c1]
    constructor
    · intro hh; cases hh
    · rintro ⟨h1, _⟩; exact absurd (checkErr_ok.2 h1) c1
theorem wraps {n h : Int} (h0 : 0 ≤ h) (h1 : h ≤ 1024) (n0 : 0 ≤ n) (n1 : n ≤ 1000) : wrap64 (wrap64 (h + 1) * n) = (h + 1) * n := by
  have h2 : 0 ≤ (h + 1) * n := Int.mul_nonneg (by omega) n0
  have h3 : (h + 1) * n ≤ 1025 * 1000 := Int.mul_le_mul (by omega) n1 n0 (by decide)
  rw [wrapId (n := h + 1) (by omega) (by omega), wrapId (by omega) (by omega)]
theorem fits_ev (n : Int) (b : Bool) (l : List S54) (h : Int) : Ev (fun k => expand_Fits.f k n b l h) (fitsB n l h) := by
  unfold expand_Fits.f fitsB
  refine Ev.bind (check_ev n b l) ?_
  by_cases c : checkErr n l = 0
  · have hn := checkErr_ok.1 c
    simp only [c, if_true, horizon_eq, Option.bind_some]
    by_cases c2 : spanErr h = 0
    · have hh := spanErr_ok.1 c2
      simp only [c2, if_true]
      rw [wraps hh.1 hh.2 (by have := hn.lo; omega) (by have := hn.hi; omega), wraps hh.1 hh.2 (by omega) (by have := hn.len; omega)]
      by_cases c3 : (h + 1) * n ≤ 4000
      · simp only [c3, if_true]; exact Ev.now _
      · simp only [c3, if_false]; exact Ev.now _
    · simp only [c2, if_false]; exact Ev.now _
  · simp only [c, if_false]; exact Ev.now _
def indexR (n : Int) (l : List S54) (h x y : Int) : Int × Int := if fitsB n l h = true then (if 0 ≤ x ∧ x < n ∧ 0 ≤ y ∧ y ≤ h then (wrap64 (wrap64 (y * n) + x), 0) else (0, 180)) else (0, 2)
theorem index_ev (n : Int) (b : Bool) (l : List S54) (h x y : Int) : Ev (fun k => expand_Index.f k n b l h x y) (indexR n l h x y) := by
  unfold expand_Index.f indexR
  refine Ev.bind (fits_ev n b l h) ?_
  by_cases c : fitsB n l h = true
  · simp only [c, if_true]
    refine ev_cst fun _ => ?_
    by_cases c1 : mn x y < 0
    · rw [if_pos c1, if_neg (by have := mn_neg.1 c1; omega)]
    · have h1 : ¬ (x < 0 ∨ y < 0) := fun h => c1 (mn_neg.2 h)
      rw [if_neg c1]
      by_cases c2 : x ≥ n
      · rw [if_pos c2, if_neg (by omega)]
      · rw [if_neg c2]
        by_cases c3 : y > h
        · rw [if_pos c3, if_neg (by omega)]
        · rw [if_neg c3, if_pos (by omega)]
  · simp only [c, if_false]; exact Ev.now _
def placeR (n : Int) (l : List S54) (h i : Int) : Int × Int × Int := if fitsB n l h = true then (if 0 ≤ i ∧ i < (h + 1) * n then (Int.tmod i n, wrap64 (Int.tdiv i n), 0) else (0, 0, 180)) else (0, 0, 2)
theorem place_ev (n : Int) (b : Bool) (l : List S54) (h i : Int) : Ev (fun k => expand_Place.f k n b l h i) (placeR n l h i) := by
  unfold expand_Place.f placeR
  refine Ev.bind (fits_ev n b l h) ?_
  by_cases c : fitsB n l h = true
  · obtain ⟨hn, hh, _⟩ := fitsB_ok.1 c
    simp only [c, if_true]
    refine ev_cst fun _ => ?_
    rw [wraps hh.1 hh.2 (by have := hn.lo; omega) (by have := hn.hi; omega)]
    by_cases c1 : i < 0
    · rw [if_pos c1, if_neg (by omega)]
    · rw [if_neg c1]
      by_cases c2 : i ≥ (h + 1) * n
      · rw [if_pos c2, if_neg (by omega)]
      · rw [if_neg c2, if_neg (by have := hn.lo; omega), if_pos (by omega)]
  · simp only [c, if_false]; exact Ev.now _
theorem back_place {n : Int} {l : List S54} {h x y : Int} (he : (indexR n l h x y).2 = 0) : placeR n l h (indexR n l h x y).1 = (x, y, 0) := by
  unfold indexR at he ⊢
  by_cases c : fitsB n l h = true
  · rw [if_pos c] at he ⊢
    by_cases c1 : 0 ≤ x ∧ x < n ∧ 0 ≤ y ∧ y ≤ h
    · rw [if_pos c1]
      obtain ⟨hn, hh, h3, _⟩ := fitsB_ok.1 c
      have hy0 : 0 ≤ y * n := Int.mul_nonneg c1.2.2.1 (by have := hn.lo; omega)
      have hy1 : y * n ≤ h * n := Int.mul_le_mul_of_nonneg_right c1.2.2.2 (by have := hn.lo; omega)
      have hd : (h + 1) * n = h * n + n := by rw [Int.add_mul, Int.one_mul]
      have hi := hn.hi
      have hw : wrap64 (wrap64 (y * n) + x) = y * n + x := by rw [wrapId (n := y * n) (by omega) (by omega), wrapId (by omega) (by omega)]
      simp only [hw]
      unfold placeR
      rw [if_pos c, if_pos (by omega)]
      have e1 : Int.tdiv (y * n + x) n = y := by
        rw [Int.tdiv_eq_ediv_of_nonneg (by omega), Int.add_comm, Int.add_mul_ediv_right _ _ (by omega), Int.ediv_eq_zero_of_lt (by omega) (by omega), Int.zero_add]
      have e2 : Int.tmod (y * n + x) n = x := by
        rw [Int.tmod_eq_emod_of_nonneg (by omega), Int.add_comm, Int.add_mul_emod_self_right, Int.emod_eq_of_lt (by omega) (by omega)]
      rw [e1, e2, wrapId (by omega) (by omega)]
    · rw [if_neg c1] at he; cases he
  · rw [if_neg c] at he; cases he
theorem back_index {n : Int} {l : List S54} {h i : Int} (he : (placeR n l h i).2.2 = 0) : indexR n l h (placeR n l h i).1 (placeR n l h i).2.1 = (i, 0) := by
  unfold placeR at he ⊢
  by_cases c : fitsB n l h = true
  · rw [if_pos c] at he ⊢
    by_cases c1 : 0 ≤ i ∧ i < (h + 1) * n
    · rw [if_pos c1]
      obtain ⟨hn, hh, h3, _⟩ := fitsB_ok.1 c
      have hlo := hn.lo
      have hi := hn.hi
      have e1 : Int.tdiv i n = i / n := Int.tdiv_eq_ediv_of_nonneg c1.1
      have e2 : Int.tmod i n = i % n := Int.tmod_eq_emod_of_nonneg c1.1
      have h0 : 0 ≤ i / n := Int.ediv_nonneg c1.1 (by omega)
      have h1 : i / n ≤ h := by
        have := Int.ediv_lt_of_lt_mul (show (0 : Int) < n by omega) (show i < (h + 1) * n by omega)
        omega
      have h2 : 0 ≤ i % n := Int.emod_nonneg _ (by omega)
      have h4 : i % n < n := Int.emod_lt_of_pos _ (by omega)
      have h5 : i / n * n + i % n = i := by rw [Int.mul_comm]; exact Int.mul_ediv_add_emod i n
      have h6 : 0 ≤ i / n * n := Int.mul_nonneg h0 (by omega)
      simp only [e1, e2]
      rw [wrapId (n := i / n) (by omega) (by omega)]
      unfold indexR
      rw [if_pos c, if_pos ⟨h2, h4, h0, h1⟩, wrapId (n := i / n * n) (by omega) (by omega), h5, wrapId (by omega) (by omega)]
    · rw [if_neg c1] at he; cases he
  · rw [if_neg c] at he; cases he
theorem limits {n : Int} {l : List S54} {h x y i : Int} : ((indexR n l h x y).2 == 2) = ((placeR n l h i).2.2 == 2) := by
  unfold indexR placeR
  by_cases c : fitsB n l h = true
  · rw [if_pos c, if_pos c]
    by_cases c1 : 0 ≤ x ∧ x < n ∧ 0 ≤ y ∧ y ≤ h <;> by_cases c2 : 0 ≤ i ∧ i < (h + 1) * n <;> simp only [c1, c2, if_true, if_false] <;> rfl
  · rw [if_neg c, if_neg c]
end Go.Proofs.Ytfhkkbpkajfdlaa.P
end
section
namespace Go.Proofs.Ytfhkkbpkajfdlaa.R
open Go.RowKit Go.Proofs.Ytfhkkbpkajfdlaa.Q Go.Proofs.YtfhkkbpkajfdlaaW.PrintWords Go.Proofs.YtfhkkbpkajfdlaaW.PrintLast Go.Proofs.YtfhkkbpkajfdlaaW.PrintMore
open Go.ChangeShapes Go.WideShapes Go.Deep
def Reads (t : TypeId) {α : Type} (d : Kd α) (G : Nat → α → Prop) : Prop :=
  ∀ {H : Type} (enc : TypeId × Value → H) (w : World) (base : Nat) (spare : Nat → Bool) (held : Bool) (fuel : Nat) (cs : List Value) (x : DataW H × List MemPlace),
    DataW.trod enc Try.prog w base spare held fuel t cs = some x → ∃ a, d.K w a cs ∧ ∀ N, Rows.uptoBulk x.1 ≤ N → G N a
def gInt (k : IntKind) (_ : Nat) (n : Int) : Prop := (Lit.int k n).wf = true
def gTrue (_ : Nat) (_ : Bool) : Prop := True
def gList {α : Type} (G : Nat → α → Prop) (N : Nat) (l : List α) : Prop := l.length ≤ maxLen ∧ l.length ≤ N ∧ ∀ x ∈ l, G N x
theorem readsInt {t : TypeId} {k : IntKind} (ht : Try.prog.underlying t = some (.int k)) : Reads t (Kd.int k) (gInt k) := by
  intro H enc w base spare held fuel cs x h
  obtain ⟨n, rfl, rfl, hw⟩ := DataW.trod_int ht h
  exact ⟨n, rfl, fun _ _ => hw⟩
theorem readsBool {t : TypeId} (ht : Try.prog.underlying t = some .bool) : Reads t Kd.bool gTrue := by
  intro H enc w base spare held fuel cs x h
  obtain ⟨n, rfl, rfl⟩ := DataW.trod_bool ht h
  exact ⟨n, rfl, fun _ _ => trivial⟩
theorem one_le {H : Type} (d : DataW H) : 1 ≤ Rows.uptoBulk d := by
  cases d with
  | lit l => cases l <;> simp [Rows.uptoBulk]
  | nil => simp [Rows.uptoBulk]
  | ptr d => simp [Rows.uptoBulk]
  | slice elems spare => simp [Rows.uptoBulk]
  | agg parts => simp [Rows.uptoBulk]
  | iface t d => simp [Rows.uptoBulk]
  | map entries => simp [Rows.uptoBulk]
  | held h => simp [Rows.uptoBulk]
theorem part_le {H : Type} {d : DataW H} {l : List (DataW H)} (h : d ∈ l) : Rows.uptoBulk d ≤ Rows.uptoBulkAll l := by
  induction l with
  | nil => cases h
  | cons x r ih =>
    simp only [Rows.uptoBulkAll]
    cases List.mem_cons.1 h with
    | inl e => subst e; omega
    | inr e => have := ih e; omega
theorem length_le {H : Type} (l : List (DataW H)) : l.length ≤ Rows.uptoBulkAll l := by
  induction l with
  | nil => simp [Rows.uptoBulkAll]
  | cons x r ih => have := one_le x; simp only [Rows.uptoBulkAll, List.length_cons]; omega
theorem readsSlice {t e : TypeId} {α : Type} [Inhabited α] {d : Kd α} {G : Nat → α → Prop} (ht : Try.prog.underlying t = some (.slice e)) (hc : Try.prog.cellsOf e = d.sz) (R : Reads e d G) : Reads t (Kd.slice e d) (gList G) := by
  intro H enc w base spare held fuel cs x h
  rcases open_slice ht h with ⟨rfl, rfl⟩ | ⟨a, len, cap, m, n, D, Pl, rfl, hb, hl, hm, hmm, rfl, hx⟩
  · exact ⟨[], ⟨none, 0, rfl, Nat.le_refl _, Kd.C_nil d w⟩, fun N _ => ⟨Nat.zero_le _, Nat.zero_le _, fun x hx => by cases hx⟩⟩
  · have hlm : len ≤ m := by rw [hmm]; split <;> omega
    obtain ⟨f, hf⟩ := choose_lt (α := α) (n := m) (p := fun i y => ∃ c, c.length = d.sz ∧ d.K w y c ∧ (∀ j u, c[j]? = some u → w.cell? (a.add (i * d.sz + j)) = some u) ∧ ∀ N, Rows.uptoBulk (D i) ≤ N → G N y) (fun i hi => by
      obtain ⟨c, h1, h2⟩ := hx i hi
      obtain ⟨y, hK, hG⟩ := R enc w base spare held n c _ h2
      obtain ⟨_, hlen, hcell⟩ := World.cells?_some h1
      rw [hc] at hlen hcell
      refine ⟨y, c, hlen, hK, fun j u hu => ?_, hG⟩
      have hj : j < d.sz := by rw [← hlen]; exact (List.getElem?_eq_some_iff.1 hu).1
      have := hcell j hj
      rw [Deep.add_add] at this
      rw [this, hu])
    have hL : ((List.range len).map f).length = len := by simp
    refine ⟨(List.range len).map f, ⟨some a, cap, by rw [hL], by rw [hL]; exact hl, ?_⟩, fun N hN => ?_⟩
    · refine ⟨rfl, by rw [hL]; exact Nat.le_trans hl (Nat.le_trans hm (by decide)), fun _ => ⟨a, rfl, fun j p hj => ?_⟩⟩
      have hjl : j < len := by
        have := (List.getElem?_eq_some_iff.1 hj).1
        rwa [hL] at this
      have hp : f j = p := by
        rw [List.getElem?_map, List.getElem?_range hjl] at hj
        exact Option.some.inj hj
      obtain ⟨c, h1, h2, h3, _⟩ := hf j (by omega)
      rw [hp] at h2
      exact ⟨c, h1, h2, h3⟩
    · have hbulk : Rows.uptoBulkAll ((List.range len).map D) ≤ N := by
        simp only [Rows.uptoBulk] at hN
        omega
      refine ⟨by rw [hL]; omega, by rw [hL]; have := length_le ((List.range len).map D); simp at this; omega, fun y hy => ?_⟩
      obtain ⟨i, hi, rfl⟩ := List.mem_map.1 hy
      have hi' := List.mem_range.1 hi
      obtain ⟨c, _, _, _, hG⟩ := hf i (by omega)
      exact hG N (Nat.le_trans (part_le (List.mem_map.2 ⟨i, hi, rfl⟩)) hbulk)
instance : Inhabited S54 := ⟨z54⟩
def g54 (N : Nat) (x : S54) : Prop := gInt .i64 N x.f0 ∧ gInt .i64 N x.f1 ∧ gInt .i64 N x.f2 ∧ gInt .i64 N x.f3
set_option maxRecDepth 100000 in
theorem reads54 : Reads 54 k54 g54 := by
  intro H enc w base spare held fuel cs x h
  obtain ⟨xs, n, _, hx, hl, hlen, hf⟩ := DataW.trod_struct Try.underlying54 h
  have hl2 : cs.length = 4 := hl.trans (by kernel_rfl)
  have hlen2 : xs.length = 4 := hlen
  match xs, hlen2, cs, hl2 with
  | [y0, y1, y2, y3], _, [v0, v1, v2, v3], _ =>
    have c0 : Try.prog.cellsOf 3 = 1 := by kernel_rfl
    have e0 : DataW.trod enc Try.prog w base spare held n 3 (List.take (Try.prog.cellsOf 3) (List.drop 0 [v0, v1, v2, v3])) = some y0 := hf 0 _ rfl
    rw [c0] at e0
    obtain ⟨a0, K0, G0⟩ := (readsInt Try.underlying3) enc w base spare held n [v0] y0 e0
    have c1 : Try.prog.cellsOf 3 = 1 := by kernel_rfl
    have e1 : DataW.trod enc Try.prog w base spare held n 3 (List.take (Try.prog.cellsOf 3) (List.drop 1 [v0, v1, v2, v3])) = some y1 := hf 1 _ rfl
    rw [c1] at e1
    obtain ⟨a1, K1, G1⟩ := (readsInt Try.underlying3) enc w base spare held n [v1] y1 e1
    have c2 : Try.prog.cellsOf 3 = 1 := by kernel_rfl
    have e2 : DataW.trod enc Try.prog w base spare held n 3 (List.take (Try.prog.cellsOf 3) (List.drop 2 [v0, v1, v2, v3])) = some y2 := hf 2 _ rfl
    rw [c2] at e2
    obtain ⟨a2, K2, G2⟩ := (readsInt Try.underlying3) enc w base spare held n [v2] y2 e2
    have c3 : Try.prog.cellsOf 3 = 1 := by kernel_rfl
    have e3 : DataW.trod enc Try.prog w base spare held n 3 (List.take (Try.prog.cellsOf 3) (List.drop 3 [v0, v1, v2, v3])) = some y3 := hf 3 _ rfl
    rw [c3] at e3
    obtain ⟨a3, K3, G3⟩ := (readsInt Try.underlying3) enc w base spare held n [v3] y3 e3
    refine ⟨⟨a0, a1, a2, a3⟩, ⟨_, _, rfl, K0, ⟨_, _, rfl, K1, ⟨_, _, rfl, K2, K3⟩⟩⟩, fun N hN => ?_⟩
    rw [hx] at hN
    simp only [List.map_cons, List.map_nil, Rows.uptoBulk, Rows.uptoBulkAll] at hN
    exact ⟨G0 N (by omega), G1 N (by omega), G2 N (by omega), G3 N (by omega)⟩
structure S24 where
  f0 : Int
  f1 : Bool
  f2 : List S54
def z24 : S24 := ⟨(0 : Int), false, []⟩
def k24 : Kd S24 := Kd.iso (Kd.pair (Kd.int .i64) (Kd.pair Kd.bool (Kd.slice 54 k54))) (fun x : S24 => (x.f0, x.f1, x.f2))
instance : Inhabited S24 := ⟨z24⟩
def g24 (N : Nat) (x : S24) : Prop := gInt .i64 N x.f0 ∧ gTrue N x.f1 ∧ gList (g54) N x.f2
set_option maxRecDepth 100000 in
theorem reads24 : Reads 24 k24 g24 := by
  intro H enc w base spare held fuel cs x h
  obtain ⟨xs, n, _, hx, hl, hlen, hf⟩ := DataW.trod_struct Try.underlying24 h
  have hl2 : cs.length = 3 := hl.trans (by kernel_rfl)
  have hlen2 : xs.length = 3 := hlen
  match xs, hlen2, cs, hl2 with
  | [y0, y1, y2], _, [v0, v1, v2], _ =>
    have c0 : Try.prog.cellsOf 3 = 1 := by kernel_rfl
    have e0 : DataW.trod enc Try.prog w base spare held n 3 (List.take (Try.prog.cellsOf 3) (List.drop 0 [v0, v1, v2])) = some y0 := hf 0 _ rfl
    rw [c0] at e0
    obtain ⟨a0, K0, G0⟩ := (readsInt Try.underlying3) enc w base spare held n [v0] y0 e0
    have c1 : Try.prog.cellsOf 4 = 1 := by kernel_rfl
    have e1 : DataW.trod enc Try.prog w base spare held n 4 (List.take (Try.prog.cellsOf 4) (List.drop 1 [v0, v1, v2])) = some y1 := hf 1 _ rfl
    rw [c1] at e1
    obtain ⟨a1, K1, G1⟩ := (readsBool Try.underlying4) enc w base spare held n [v1] y1 e1
    have c2 : Try.prog.cellsOf 22 = 1 := by kernel_rfl
    have e2 : DataW.trod enc Try.prog w base spare held n 22 (List.take (Try.prog.cellsOf 22) (List.drop 2 [v0, v1, v2])) = some y2 := hf 2 _ rfl
    rw [c2] at e2
    obtain ⟨a2, K2, G2⟩ := (readsSlice Try.underlying22 (by kernel_rfl) reads54) enc w base spare held n [v2] y2 e2
    refine ⟨⟨a0, a1, a2⟩, ⟨_, _, rfl, K0, ⟨_, _, rfl, K1, K2⟩⟩, fun N hN => ?_⟩
    rw [hx] at hN
    simp only [List.map_cons, List.map_nil, Rows.uptoBulk, Rows.uptoBulkAll] at hN
    exact ⟨G0 N (by omega), G1 N (by omega), G2 N (by omega)⟩
structure S26 where
  f0 : Int
  f1 : Int
def z26 : S26 := ⟨(0 : Int), (0 : Int)⟩
def k26 : Kd S26 := Kd.iso (Kd.pair (Kd.int .i64) (Kd.int .i64)) (fun x : S26 => (x.f0, x.f1))
instance : Inhabited S26 := ⟨z26⟩
def g26 (N : Nat) (x : S26) : Prop := gInt .i64 N x.f0 ∧ gInt .i64 N x.f1
set_option maxRecDepth 100000 in
theorem reads26 : Reads 26 k26 g26 := by
  intro H enc w base spare held fuel cs x h
  obtain ⟨xs, n, _, hx, hl, hlen, hf⟩ := DataW.trod_struct Try.underlying26 h
  have hl2 : cs.length = 2 := hl.trans (by kernel_rfl)
  have hlen2 : xs.length = 2 := hlen
  match xs, hlen2, cs, hl2 with
  | [y0, y1], _, [v0, v1], _ =>
    have c0 : Try.prog.cellsOf 3 = 1 := by kernel_rfl
    have e0 : DataW.trod enc Try.prog w base spare held n 3 (List.take (Try.prog.cellsOf 3) (List.drop 0 [v0, v1])) = some y0 := hf 0 _ rfl
    rw [c0] at e0
    obtain ⟨a0, K0, G0⟩ := (readsInt Try.underlying3) enc w base spare held n [v0] y0 e0
    have c1 : Try.prog.cellsOf 3 = 1 := by kernel_rfl
    have e1 : DataW.trod enc Try.prog w base spare held n 3 (List.take (Try.prog.cellsOf 3) (List.drop 1 [v0, v1])) = some y1 := hf 1 _ rfl
    rw [c1] at e1
    obtain ⟨a1, K1, G1⟩ := (readsInt Try.underlying3) enc w base spare held n [v1] y1 e1
    refine ⟨⟨a0, a1⟩, ⟨_, _, rfl, K0, K1⟩, fun N hN => ?_⟩
    rw [hx] at hN
    simp only [List.map_cons, List.map_nil, Rows.uptoBulk, Rows.uptoBulkAll] at hN
    exact ⟨G0 N (by omega), G1 N (by omega)⟩
end Go.Proofs.Ytfhkkbpkajfdlaa.R
end
section
namespace Go.Proofs.Ytfhkkbpkajfdlaa.R
open Go.RowKit Go.Proofs.Ytfhkkbpkajfdlaa.Q Go.Proofs.YtfhkkbpkajfdlaaW.PrintWords Go.Proofs.YtfhkkbpkajfdlaaW.PrintLast Go.Proofs.YtfhkkbpkajfdlaaW.PrintMore
def ExpandBack.Pure : Prop := ∀ N0 : Nat, ∀ N1 : Nat, ∀ N2 : Nat, ∀ N3 : Nat, ∀ (x0 : S24) (x1 : Int) (x2 : S26) (x3 : Int), g24 N0 x0 → gInt .i64 N1 x1 → g26 N2 x2 → gInt .i64 N3 x3 → ∃ k, ebbtidelaw15_ExpandBack.f k x0.f0 x0.f1 x0.f2 x1 x2.f0 x2.f1 x3 = some true
end Go.Proofs.Ytfhkkbpkajfdlaa.R
end
section
namespace Go.Proofs.Ytfhkkbpkajfdlaa.Pure
set_option linter.unusedSimpArgs false
set_option linter.unusedVariables false
open Go.RowKit Go.Proofs.Ytfhkkbpkajfdlaa.Q Go.Proofs.Ytfhkkbpkajfdlaa.P Go.Proofs.YtfhkkbpkajfdlaaW.PrintWords Go.Proofs.YtfhkkbpkajfdlaaW.PrintLast Go.Proofs.YtfhkkbpkajfdlaaW.PrintMore
open Go.Proofs.Ytfhkkbpkajfdlaa.R
theorem back_j (n : Int) (b : Bool) (l : List S54) (h i x y : Int) : Ev (fun k => ebbtidelaw15_ExpandBack.j0 k h i true (indexR n l h x y).2 n b l) true := by
  refine Ev.step (f := fun k => (expand_Place.f k n b l h i).bind fun bt296 => (if bt296.2.2 = 0 then ((expand_Index.f k n b l h bt296.1 bt296.2.1).bind fun bt300 => (if bt300.2 = 0 then (if bt300.1 = i then (if true = true then (some (((indexR n l h x y).2 == 2) == (bt296.2.2 == 2))) else (some false)) else (some false)) else (some false))) else (if true = true then (some (((indexR n l h x y).2 == 2) == (bt296.2.2 == 2))) else (some false)))) (fun k => ?_) ?_
  · rw [ebbtidelaw15_ExpandBack.j0]
  · refine Ev.bind (place_ev n b l h i) ?_
    rw [limits (i := i)]
    simp only [beq_self_eq_true, if_true]
    by_cases c : (placeR n l h i).2.2 = 0
    · rw [show (fun k => if (placeR n l h i).2.2 = 0 then ((expand_Index.f k n b l h (placeR n l h i).1 (placeR n l h i).2.1).bind fun bt300 => (if bt300.2 = 0 then (if bt300.1 = i then some true else some false) else some false)) else some true) = (fun k => ((expand_Index.f k n b l h (placeR n l h i).1 (placeR n l h i).2.1).bind fun bt300 => (if bt300.2 = 0 then (if bt300.1 = i then some true else some false) else some false))) from funext fun k => if_pos c]
      refine Ev.bind (index_ev n b l h _ _) ?_
      rw [back_index c]
      simp only [if_true]
      exact Ev.now _
    · simp only [c, if_false]
      exact Ev.now _
theorem ExpandBack : ExpandBack.Pure := by
  intro N0 N1 N2 N3 n h x i _ _ _ _
  apply Ev.rounds
  unfold ebbtidelaw15_ExpandBack.f
  refine Ev.bind awake15_ev ?_
  simp only [if_true]
  refine Ev.bind (index_ev _ _ _ _ _ _) ?_
  by_cases c : (indexR n.f0 n.f2 h x.f0 x.f1).2 = 0
  · have hj := back_j n.f0 n.f1 n.f2 h i x.f0 x.f1
    rw [c] at hj
    simp only [c, if_true]
    refine Ev.bind (place_ev _ _ _ _ _) ?_
    rw [back_place c]
    simp only [beq_self_eq_true, if_true, Bool.not_true, Bool.or_self, Bool.false_eq_true, if_false]
    exact hj
  · simp only [c, if_false]
    exact back_j n.f0 n.f1 n.f2 h i x.f0 x.f1
end Go.Proofs.Ytfhkkbpkajfdlaa.Pure
end
section
namespace Go.Proofs.Ytfhkkbpkajfdlaa
open Go Go.RowKit
def ioHead : List Char := List.map Char.ofNat [104, 97, 114, 110, 101, 115, 115, 32, 53, 97, 52, 98, 49, 100, 102, 98, 102, 48, 99, 51, 55, 54, 100, 49, 48, 99, 102, 101, 49, 101, 100, 101, 53, 51, 57, 51, 100, 99, 57, 100, 102, 101, 50, 57, 49, 54, 57, 99, 50, 100, 99, 49, 55, 50, 50, 101, 97, 53, 54, 56, 48, 100, 54, 51, 50, 54, 98, 49, 56, 99, 52, 52, 32, 99, 117, 116, 32]
def ioRest : List Char := List.map Char.ofNat [97, 116, 32, 101, 98, 98, 116, 105, 100, 101, 47, 101, 98, 98, 116, 105, 100, 101, 108, 97, 119, 49, 53, 46, 69, 120, 112, 97, 110, 100, 70, 105, 116, 115, 32, 101, 98, 98, 116, 105, 100, 101, 47, 101, 98, 98, 116, 105, 100, 101, 108, 97, 119, 49, 53, 46, 69, 120, 112, 97, 110, 100, 66, 117, 105, 108, 100, 115, 32, 101, 98, 98, 116, 105, 100, 101, 47, 101, 98, 98, 116, 105, 100, 101, 108, 97, 119, 49, 53, 46, 69, 120, 112, 97, 110, 100, 66, 97, 99, 107, 32, 101, 98, 98, 116, 105, 100, 101, 47, 101, 98, 98, 116, 105, 100, 101, 108, 97, 119, 49, 53, 46, 69, 120, 112, 97, 110, 100, 77, 111, 118, 101, 115, 32, 101, 98, 98, 116, 105, 100, 101, 47, 101, 98, 98, 116, 105, 100, 101, 108, 97, 119, 49, 53, 46, 69, 120, 112, 97, 110, 100, 82, 117, 110, 115, 32, 101, 98, 98, 116, 105, 100, 101, 47, 101, 98, 98, 116, 105, 100, 101, 108, 97, 119, 49, 53, 46, 69, 120, 112, 97, 110, 100, 70, 108, 111, 119, 115, 32, 101, 98, 98, 116, 105, 100, 101, 47, 101, 98, 98, 116, 105, 100, 101, 108, 97, 119, 49, 53, 46, 69, 120, 112, 97, 110, 100, 80, 108, 97, 110, 115]
set_option maxRecDepth 100000 in
theorem io_eq : Try.pinned.checked.prog.initOrder = String.ofList (ioHead ++ ioRest) := by kernel_rfl
theorem io_toList : Try.pinned.checked.prog.initOrder.toList = ioHead ++ ioRest := by rw [io_eq]; exact String.toList_ofList
def ioCut : List Char := List.map Char.ofNat [99, 117, 116]
set_option maxRecDepth 100000 in
theorem io_words (r : List Char) : behindMainWord (wordsSigns (ioHead ++ r)) = ioCut :: wordsSigns r := by kernel_rfl
theorem io_behind : ∃ X, behindMainWord (wordsSigns Try.pinned.checked.prog.initOrder.toList) = ioCut :: X := ⟨_, by rw [io_toList]; exact io_words _⟩
theorem io_cut : ioCut = "cut".toList := by decide +kernel
theorem io_strip (X : List (List Char)) : stripLifts liftWords (ioCut :: X) = ([], ioCut :: X) := by kernel_rfl
theorem headLifts_cut (P : Program) (h : ∃ X, behindMainWord (wordsSigns P.initOrder.toList) = ioCut :: X) : P.headLifts = [] := by
  obtain ⟨X, e⟩ := h
  unfold Program.headLifts
  rw [e, io_strip]
  rfl
theorem mayEnter_cut (P : Program) (h : ∃ X, behindMainWord (wordsSigns P.initOrder.toList) = ioCut :: X) (h1 : P.laysLater = false) (h2 : P.bearsReflect = false) (h3 : P.doorFits [] = true) : P.mayEnter = true := by
  obtain ⟨X, e⟩ := h
  unfold Program.mayEnter
  rw [e]
  simp only [io_strip, h1, h2, h3]
  rw [io_cut]
  simp
theorem liftsFinal_cut (P : Program) (h : ∃ X, behindMainWord (wordsSigns P.initOrder.toList) = ioCut :: X) : P.liftsFinal = false := by
  have h0 := headLifts_cut P h
  obtain ⟨X, e⟩ := h
  unfold Program.liftsFinal
  rw [e, h0]
  rw [io_cut]
  simp
theorem make_cut (P : Program) (h : ∃ X, behindMainWord (wordsSigns P.initOrder.toList) = ioCut :: X) : P.make = some .cut := by
  obtain ⟨X, e⟩ := h
  unfold Program.make
  rw [e]
  simp only [io_cut]
  rw [if_neg (by decide +kernel), if_pos (by simp)]
theorem p_mayEnter : Try.pinned.checked.prog.mayEnter = true := mayEnter_cut _ io_behind (by kernel_rfl) (by kernel_rfl) (by kernel_rfl)
theorem p_liftsFinal : Try.pinned.checked.prog.liftsFinal = false := liftsFinal_cut _ io_behind
theorem p_make : Try.pinned.checked.prog.make = some .cut := make_cut _ io_behind
theorem p_laidOut : laidOutB Try.pinned.checked.prog = true := by kernel_rfl
theorem p_mapsRowed : mapsRowed Try.pinned.checked.prog = true := by kernel_rfl
theorem p_stopsHeard : Try.pinned.checked.prog.stopsHeard = true := by kernel_rfl
theorem p_stops : Try.pinned.checked.prog.stops = [] := by kernel_rfl
theorem p_stopKnobs : Try.pinned.checked.prog.stopKnobs = [] := by kernel_rfl
end Go.Proofs.Ytfhkkbpkajfdlaa
end
section
namespace Go.Proofs.Ytfhkkbpkajfdlaa.expandBack
open Go.ChangeShapes Go.WideShapes Go.ChangeAt Go.RowKit
open Go.ChangeMaps (open_string shut_string)
open Go.Proofs.Ytfhkkbpkajfdlaa.Q Go.Proofs.Ytfhkkbpkajfdlaa.R Go.Proofs.YtfhkkbpkajfdlaaW.PrintWords
set_option linter.unusedVariables false
theorem own : ownKnob Try.prog.godebug = none := by kernel_rfl
theorem laidOut : laidOutB Try.prog = true := by kernel_rfl
theorem open24 {w : World} {x : S24} {cs : List Value} (h : k24.K w x cs) : ∃ (A2 : Option Addr) (c2 : Nat), cs = [.int .i64 x.f0, .bool x.f1, .slice A2 x.f2.length c2] ∧ x.f2.length ≤ c2 ∧ Kd.C k54 w A2 x.f2.length x.f2 := by
  obtain ⟨_, _, rfl, rfl, ⟨_, _, rfl, rfl, ⟨A2, c2, rfl, l2, g2⟩⟩⟩ := h
  exact ⟨A2, c2, rfl, l2, g2⟩
theorem open26 {w : World} {x : S26} {cs : List Value} (h : k26.K w x cs) : cs = [.int .i64 x.f0, .int .i64 x.f1] := by
  obtain ⟨_, _, rfl, rfl, rfl⟩ := h
  rfl
set_option maxRecDepth 100000 in
theorem lifted (os : Os) (started : os.Started) (H : Type) (enc : TypeId × Value → H) :
    ReturnsInHanded {} Try.checked os 5 .any (Rows.expandBackSpec.pre6 enc Try.prog Try.f5 Rows.expandBackRow.domain false) (Rows.expandBackSpec.post enc Try.prog Try.f5 false true false false) := by
  refine returnsInHanded_of_change_sized (C := Try.checked) own started (by kernel_rfl) Try.func5
    (ChangeSpec.witness6 (enc := enc) (C := Try.checked) false ⟨#[], #[.agg #[.int .i64 0, .bool false, .slice none 0 0], .int .i64 0, .agg #[.int .i64 0, .int .i64 0], .int .i64 0], []⟩ 8 (by kernel_rfl) (by kernel_rfl) (by kernel_rfl) (by kernel_rfl)) ?_
  intro W base args ds gs before hval0 hW hcnd hsz0 _
  have hval : ∀ (j : Nat) t v, Try.f5.params[j]? = some t → args[j]? = some v → Value.okWide Try.prog W .any base t v := hval0
  have hW' := hW
  obtain ⟨p, q, hA0, hV, rfl, hfz, hnd⟩ := hW
  have hA : DataW.TrodAll enc Try.prog W 0 (fun _ => true) true Try.f5.params.toList args.toList ds p := hA0
  rw [Try.params5] at hA hval
  obtain ⟨v0, vs0, d0, ds0, p0, q0, hargs, rfl, rfl, h0, r0⟩ := trodAll_cons hA
  obtain ⟨v1, vs1, d1, ds1, p1, q1, rfl, rfl, rfl, h1, r1⟩ := trodAll_cons r0
  obtain ⟨v2, vs2, d2, ds2, p2, q2, rfl, rfl, rfl, h2, r2⟩ := trodAll_cons r1
  obtain ⟨v3, vs3, d3, ds3, p3, q3, rfl, rfl, rfl, h3, r3⟩ := trodAll_cons r2
  obtain ⟨rfl, rfl, rfl⟩ := trodAll_nil r3
  obtain rfl : args = #[v0, v1, v2, v3] := by cases args; simp_all
  obtain ⟨rfl, rfl⟩ := trodVars_none hV
  have k0 := h0
  have lt0 : ∀ x ∈ p0, x.block < W.heap.size := by obtain ⟨m, hm⟩ := k0; exact DataW.trod_lt m _ _ _ hm
  obtain ⟨fu0, hf0⟩ := h0
  obtain ⟨x0, K0, G0⟩ := reads24 enc W 0 (fun _ => true) true fu0 _ _ hf0
  obtain ⟨cs0, rfl, hsz0⟩ := okWide_struct Try.underlying24 (hval 0 24 v0 rfl rfl)
  have K0' : (k24).K W x0 cs0.toList := K0
  obtain ⟨ao0_2, co0_2, es0, hc0_2, hr0_2⟩ := open24 K0'
  obtain rfl : cs0 = _ := Array.toList_inj.1 es0
  have k1 := h1
  have lt1 : ∀ x ∈ p1, x.block < W.heap.size := by obtain ⟨m, hm⟩ := k1; exact DataW.trod_lt m _ _ _ hm
  obtain ⟨fu1, hf1⟩ := h1
  obtain ⟨x1, K1, G1⟩ := (readsInt Try.underlying3) enc W 0 (fun _ => true) true fu1 _ _ hf1
  obtain ⟨z1, rfl⟩ := okWide_int Try.underlying3 (hval 1 3 v1 rfl rfl)
  obtain rfl : x1 = z1 := Eq.symm (by simpa [Value.cells, Kd.int, Kd.scalar] using K1)
  have k2 := h2
  have lt2 : ∀ x ∈ p2, x.block < W.heap.size := by obtain ⟨m, hm⟩ := k2; exact DataW.trod_lt m _ _ _ hm
  obtain ⟨fu2, hf2⟩ := h2
  obtain ⟨x2, K2, G2⟩ := reads26 enc W 0 (fun _ => true) true fu2 _ _ hf2
  obtain ⟨cs2, rfl, hsz2⟩ := okWide_struct Try.underlying26 (hval 2 26 v2 rfl rfl)
  have K2' : (k26).K W x2 cs2.toList := K2
  have es2 := open26 K2'
  obtain rfl := Array.toList_inj.1 (show cs2.toList = (List.toArray _).toList from es2)
  have k3 := h3
  have lt3 : ∀ x ∈ p3, x.block < W.heap.size := by obtain ⟨m, hm⟩ := k3; exact DataW.trod_lt m _ _ _ hm
  obtain ⟨fu3, hf3⟩ := h3
  obtain ⟨x3, K3, G3⟩ := (readsInt Try.underlying3) enc W 0 (fun _ => true) true fu3 _ _ hf3
  obtain ⟨z3, rfl⟩ := okWide_int Try.underlying3 (hval 3 3 v3 rfl rfl)
  obtain rfl : x3 = z3 := Eq.symm (by simpa [Value.cells, Kd.int, Kd.scalar] using K3)
  have h := Pure.ExpandBack _ _ _ _ x0 x1 x2 x3 (G0 _ (Nat.le_refl _)) (G1 _ (Nat.le_refl _)) (G2 _ (Nat.le_refl _)) (G3 _ (Nat.le_refl _))
  obtain ⟨k, h⟩ := h
  refine (ebbtidelaw15_ExpandBack.calls k x0.f0 x0.f1 _ _ x0.f2 x1 x2.f0 x2.f1 x3 true W hr0_2 hc0_2 h).mono fun e W' ⟨he, bel0⟩ => ?_
  have bel : Below W.heap.size W W' := bel0
  subst he
  exact ⟨_, rfl, _, _, _, [], _, [], hW', trodAll_mk1 (shut_bool Try.underlying4 _), (trodAll_cons_mk (Below.trod laidOut (by kernel_rfl) (of_decide_eq_true (by kernel_rfl)) k0 bel lt0) (trodAll_cons_mk (Below.trod laidOut (by kernel_rfl) (of_decide_eq_true (by kernel_rfl)) k1 bel lt1) (trodAll_cons_mk (Below.trod laidOut (by kernel_rfl) (of_decide_eq_true (by kernel_rfl)) k2 bel lt2) (trodAll_cons_mk (Below.trod laidOut (by kernel_rfl) (of_decide_eq_true (by kernel_rfl)) k3 bel lt3) trodAll_mk0)))), rfl, bel.frame _, fun h => by cases h⟩
theorem andI {a b : Bool} (x : a = true) (y : b = true) : (a && b) = true := by rw [x, y]; rfl
set_option maxRecDepth 100000 in
set_option maxHeartbeats 8000000 in
theorem closed : joinedFacts Try.pinned.checked.prog 5 Try.f5 Rows.expandBackSpec Rows.expandBackRow = true := by
  unfold joinedFacts
  exact (andI (andI (andI (andI (andI (andI (andI (andI (andI (andI (andI (andI (andI (andI (andI (andI (andI (andI (andI (andI (andI (andI (andI (andI (andI (andI (andI (andI (andI (andI (andI (by as_aux_lemma => kernel_rfl)
    p_laidOut)
    p_mapsRowed)
    (by as_aux_lemma => kernel_rfl))
    (by as_aux_lemma => kernel_rfl))
    (by as_aux_lemma => kernel_rfl))
    (by rw [p_stops]; rfl))
    (by as_aux_lemma => kernel_rfl))
    (by rw [p_stopKnobs]; rfl))
    (by as_aux_lemma => kernel_rfl))
    (by as_aux_lemma => kernel_rfl))
    (by as_aux_lemma => kernel_rfl))
    (by as_aux_lemma => kernel_rfl))
    (by as_aux_lemma => kernel_rfl))
    (by as_aux_lemma => kernel_rfl))
    (by as_aux_lemma => kernel_rfl))
    (by as_aux_lemma => kernel_rfl))
    (by as_aux_lemma => kernel_rfl))
    (by as_aux_lemma => kernel_rfl))
    (by as_aux_lemma => kernel_rfl))
    (by as_aux_lemma => kernel_rfl))
    (by as_aux_lemma => kernel_rfl))
    (by as_aux_lemma => kernel_rfl))
    (by as_aux_lemma => kernel_rfl))
    p_stopsHeard)
    p_mayEnter)
    (by rw [p_liftsFinal]; rfl))
    (by rw [p_make]; rfl))
    (by as_aux_lemma => kernel_rfl))
    (by as_aux_lemma => kernel_rfl))
    (by as_aux_lemma => kernel_rfl))
    (by as_aux_lemma => kernel_rfl))
theorem proved : Rows.ExpandBackSaid :=
  OpenClaim.holds_of_wide 5 Try.f5 rfl rfl rfl rfl rfl rfl rfl ⟨rfl, rfl, rfl, rfl, rfl⟩ rfl rfl rfl rfl rfl (by kernel_rfl) Try.func5 closed
    (of_decide_eq_true (by kernel_rfl)) (by unfold Func.isWrapper; first | (rw [if_pos (by decide +kernel)]; kernel_rfl) | (rw [if_neg (by decide +kernel)]; exact ⟨rfl, rfl⟩))
    (fun os started H enc _ => lifted os started H enc)
#print axioms proved
end Go.Proofs.Ytfhkkbpkajfdlaa.expandBack
namespace Go.Proofs.Ytfhkkbpkajfdlaa
theorem expandBack_holds : Rows.ExpandBackSaid := expandBack.proved
end Go.Proofs.Ytfhkkbpkajfdlaa
end
