/- A part of the proof: words, contracts, plain lemmas. Conditions: none. -/
import Derived.Test.YtgjgckpdilbbjaaZAdjOrders20
import Derived.Test.YtgjgckpdilbbjaaZAdjOrders19
import Derived.Test.YtgjgckpdilbbjaaRows
import Derived.Test.YtgjgckpdilbbjaaZAdjOrders3
import Derived.Deep.Slices
import Derived.ProofKit
import Derived.WalkKit
import Derived.OpenShut
import Derived.ShutString
import Derived.ChangeOld
import Derived.Below
import Derived.SizedLaws
section
namespace Go.Proofs.Ytgjgckpdilbbjaa.P
set_option linter.unusedSimpArgs false
set_option linter.unusedVariables false
open Go.RowKit Go.Proofs.Ytgjgckpdilbbjaa.Q Go.Proofs.YtgjgckpdilbbjaaW.PrintWords Go.Proofs.YtgjgckpdilbbjaaW.PrintLast Go.Proofs.YtgjgckpdilbbjaaW.PrintMore
def dn (out : List Int) (n : Nat) : List Bool := (List.range n).map (fun (v : Nat) => decide ((v : Int) ∈ out))
theorem dn_length (out : List Int) (n : Nat) : (dn out n).length = n := by unfold dn; simp
theorem dn_rd {out : List Int} {n v : Nat} (h : v < n) : rdOf false (dn out n) (v : Int) = decide ((v : Int) ∈ out) := by
  unfold rdOf dn
  rw [Int.toNat_natCast, List.getD_eq_getElem?_getD, List.getElem?_map, List.getElem?_range h]; rfl
theorem dn_set {out : List Int} {n u : Nat} (h : u < n) : (dn out n).set u true = dn (out ++ [(u : Int)]) n := by
  apply List.ext_getElem
  · simp [dn]
  · intro i h1 h2
    rw [dn_length] at h2
    have e1 : (dn (out ++ [(u : Int)]) n)[i]'(by rw [dn_length]; exact h2) = decide ((i : Int) ∈ out ++ [(u : Int)]) := by simp [dn]
    have e2 : (dn out n)[i]'(by rw [dn_length]; exact h2) = decide ((i : Int) ∈ out) := by simp [dn]
    rw [List.getElem_set, e1]
    by_cases c : u = i
    · subst c; rw [if_pos rfl]; exact (decide_eq_true (by simp)).symm
    · rw [if_neg c, e2]
      refine decide_eq_decide.2 ⟨fun g => List.mem_append.2 (Or.inl g), fun g => (List.mem_append.1 g).elim id (fun g => ?_)⟩
      rw [List.mem_singleton] at g
      exact absurd (Int.ofNat_inj.1 g).symm c
theorem dn_nil (n : Nat) : List.replicate n false = dn [] n := by
  apply List.ext_getElem
  · simp [dn]
  · intro i h1 h2; simp [dn]
section
variable {l : List S37} {n : Nat} {b : Bool}
theorem rorder_l2 (hfl : ∀ a ∈ l, (0 ≤ a.f0 ∧ a.f0 < (n : Int)) ∧ (0 ≤ a.f1 ∧ a.f1 < (n : Int))) (hn : n ≤ 50) (hl : l.length ≤ 200) (out : List Int) (kk x9 : Int) (v : Nat) (hv : v < n) {R : List Int × Bool × Int}
    (next : ∀ fl : Bool, (fl = true ↔ Free l out (v : Int)) → Ev (fun f => ebbtideref06_Order.l1 f out (dn out n) kk (if fl = true then (v : Int) else x9) ((v : Int) - 1) (n : Int) b l) R) (e : Nat) :
    ∀ (i : Nat) (fl : Bool), i + e = l.length → (fl = true ↔ ((v : Int) ∉ out ∧ ∀ j : Nat, j < i → (rd_T37 l (j : Int)).f1 = (v : Int) → (rd_T37 l (j : Int)).f0 ∈ out)) → Ev (fun f => ebbtideref06_Order.l2 f out (dn out n) kk x9 (v : Int) fl (i : Int) (n : Int) b l) R := by
  have hw : wrap64 ((v : Int) - 1) = (v : Int) - 1 := by unfold wrap64; omega
  induction e with
  | zero =>
    intro i fl hi h
    refine Ev.step (fun f => ?_) (next fl (h.trans ⟨fun g => ⟨g.1, fun a ha e => ?_⟩, fun g => ⟨g.1, fun j hj e => g.2 _ (rdT_mem (by omega)) e⟩⟩))
    · rw [ebbtideref06_Order.l2, if_neg (by omega), hw]
      cases fl
      · rw [if_neg (by decide), if_neg (by decide)]
      · rw [if_pos rfl, if_pos rfl]
    · obtain ⟨j, hj, ej⟩ := mem_rdT ha
      have := g.2 j (by omega) (by rw [ej]; exact e)
      rw [ej] at this
      exact this
  | succ e ih =>
    intro i fl hi h
    have hm := rdT_mem (l := l) (i := i) (by omega)
    obtain ⟨⟨h0, h1⟩, _⟩ := hfl _ hm
    obtain ⟨u, hu⟩ : ∃ u : Nat, (rd_T37 l (i : Int)).f0 = (u : Int) := ⟨(rd_T37 l (i : Int)).f0.toNat, by omega⟩
    by_cases c : (rd_T37 l (i : Int)).f1 = (v : Int)
    · by_cases c2 : (u : Int) ∈ out
      · refine Ev.step (fun f => ?_) (ih (i + 1) fl (by omega) (h.trans ⟨fun g => ⟨g.1, fun j hj e => ?_⟩, fun g => ⟨g.1, fun j hj e => g.2 j (by omega) e⟩⟩))
        · rw [ebbtideref06_Order.l2, if_pos (by omega), if_pos (by omega), if_pos c, hu, if_pos (by omega), if_pos (by rw [dn_length]; omega), dn_rd (by omega), decide_eq_true c2, if_pos rfl, wrap1 (by omega)]
        · by_cases e2 : j = i
          · subst e2; rw [hu]; exact c2
          · exact g.2 j (by omega) e
      · refine Ev.step (fun f => ?_) (ih (i + 1) false (by omega) ⟨fun g => (by cases g), fun g => absurd (hu ▸ g.2 i (by omega) c) c2⟩)
        rw [ebbtideref06_Order.l2, if_pos (by omega), if_pos (by omega), if_pos c, hu, if_pos (by omega), if_pos (by rw [dn_length]; omega), dn_rd (by omega), decide_eq_false c2, if_neg (by decide), wrap1 (by omega)]
    · refine Ev.step (fun f => ?_) (ih (i + 1) fl (by omega) (h.trans ⟨fun g => ⟨g.1, fun j hj e => ?_⟩, fun g => ⟨g.1, fun j hj e => g.2 j (by omega) e⟩⟩))
      · rw [ebbtideref06_Order.l2, if_pos (by omega), if_pos (by omega), if_neg c, wrap1 (by omega)]
      · by_cases e2 : j = i
        · subst e2; exact absurd e c
        · exact g.2 j (by omega) e
def Bst (l : List S37) (n : Nat) (out : List Int) (c : Nat) (x : Int) : Prop := (x = -1 ∧ ∀ u : Nat, c ≤ u → u < n → ¬ Free l out (u : Int)) ∨ ∃ u : Nat, x = (u : Int) ∧ u < n ∧ c ≤ u ∧ Free l out (u : Int) ∧ ∀ w : Nat, c ≤ w → w < n → Free l out (w : Int) → u ≤ w
theorem rorder_l1 (hfl : ∀ a ∈ l, (0 ≤ a.f0 ∧ a.f0 < (n : Int)) ∧ (0 ≤ a.f1 ∧ a.f1 < (n : Int))) (hn : n ≤ 50) (hl : l.length ≤ 200) (out : List Int) (hol : out.length ≤ n) (k : Nat) (hk : k ≤ n) {R : List Int × Bool × Int}
    (hnone : (∀ w : Nat, w < n → ¬ Free l out (w : Int)) → R = ([], false, 0))
    (hsome : ∀ u : Nat, u < n → Free l out (u : Int) → (∀ w : Nat, w < n → Free l out (w : Int) → u ≤ w) → Ev (fun f => ebbtideref06_Order.l0 f (out ++ [(u : Int)]) (dn (out ++ [(u : Int)]) n) ((k + 1 : Nat) : Int) (n : Int) b l) R) :
    ∀ (c : Nat) (x : Int), c ≤ n → Bst l n out c x → Ev (fun f => ebbtideref06_Order.l1 f out (dn out n) (k : Int) x ((c : Int) - 1) (n : Int) b l) R := by
  intro c
  induction c with
  | zero =>
    intro x _ h
    rcases h with ⟨rfl, h⟩ | ⟨u, rfl, h1, h2, h3, h4⟩
    · rw [hnone (fun w hw => h w (Nat.zero_le _) hw)]
      exact ev_cst fun f => by rw [ebbtideref06_Order.l1, if_neg (by omega), if_pos (by decide)]
    · refine Ev.step (fun f => ?_) (hsome u h1 h3 (fun w hw hf => h4 w (Nat.zero_le _) hw hf))
      rw [ebbtideref06_Order.l1, if_neg (by omega), if_neg (by omega), if_pos (by omega), if_pos (by rw [dn_length]; omega), if_pos (by omega), Int.toNat_natCast, dn_set h1, wrap1 (by omega)]
  | succ c ih =>
    intro x hc h
    have e : ((c + 1 : Nat) : Int) - 1 = (c : Int) := by omega
    rw [e]
    refine Ev.step (fun f => ?_) (rorder_l2 hfl hn hl out (k : Int) x c (by omega) (b := b) (R := R) (fun fl hfl2 => ih _ (by omega) ?_) l.length 0 (!(decide ((c : Int) ∈ out))) (by omega) ?_)
    · rw [ebbtideref06_Order.l1, if_pos (by omega), if_pos (by omega), if_pos (by rw [dn_length]; omega), dn_rd (by omega)]; rfl
    · cases fl with
      | true =>
        rw [if_pos rfl]
        exact Or.inr ⟨c, rfl, by omega, Nat.le_refl _, hfl2.1 rfl, fun w hw _ _ => hw⟩
      | false =>
        rw [if_neg (by decide)]
        have hnf : ¬ Free l out (c : Int) := fun g => by have := hfl2.2 g; cases this
        rcases h with ⟨h0, h1⟩ | ⟨u, h0, h1, h2, h3, h4⟩
        · refine Or.inl ⟨h0, fun u hu hun => ?_⟩
          by_cases e2 : u = c
          · subst e2; exact hnf
          · exact h1 u (by omega) hun
        · refine Or.inr ⟨u, h0, h1, by omega, h3, fun w hw hwn hf => ?_⟩
          by_cases e2 : w = c
          · subst e2; exact absurd hf hnf
          · exact h4 w (by omega) hwn hf
    · simp only [Bool.not_eq_true', decide_eq_false_iff_not]
      exact ⟨fun g => ⟨g, fun j hj => absurd hj (Nat.not_lt_zero j)⟩, fun g => g.1⟩
end
def OrdRes (n : Int) (lr : List Int) : List Int × Bool × Int := if (lr.length : Int) < n then ([], false, 0) else (lr, true, 0)
theorem order_same (n : Int) (b : Bool) (l : List S37) : ∃ r : List Int × Bool × Int, r.1.length ≤ 50 ∧ Ev (fun k => adj_Order.f k n b l) r ∧ Ev (fun k => ebbtideref06_Order.f k n b l) r := by
  by_cases c : checkErr n l = 0
  · have hN := checkErr_ok.1 c
    have hlo := hN.lo
    have hhi := hN.hi
    have hll := hN.len
    have hnn : (n.toNat : Int) = n := by omega
    have hfl : ∀ a ∈ l, (0 ≤ a.f0 ∧ a.f0 < (n.toNat : Int)) ∧ (0 ≤ a.f1 ∧ a.f1 < (n.toNat : Int)) := fun a ha => by
      have := hN.arcs a ha
      have h0 := this.f0; have h1 := this.f1
      omega
    obtain ⟨lr, hg, hC, he⟩ := order_both b hN (fun out lr => out.length ≤ n.toNat → Ev (fun f => ebbtideref06_Order.l0 f out (dn out n.toNat) ((out.length : Nat) : Int) n b l) (OrdRes n lr)) (fun out hno hol _ => by
        rcases Nat.lt_or_ge out.length n.toNat with c2 | c2
        · have hR : OrdRes n out = ([], false, 0) := by unfold OrdRes; rw [if_pos (by omega)]
          have := rorder_l1 (n := n.toNat) (b := b) hfl (by omega) hll out hol out.length hol (R := OrdRes n out) (fun _ => hR) (fun u hu hf _ => absurd hf (hno u hu)) n.toNat (-1) (Nat.le_refl _) (Or.inl ⟨rfl, fun u hu hun => by omega⟩)
          rw [hnn] at this
          refine Ev.step (fun f => ?_) this
          rw [ebbtideref06_Order.l0, if_pos (by omega), show wrap64 (n - 1) = n - 1 by unfold wrap64; omega]
        · have hR : OrdRes n out = (out, true, 0) := by unfold OrdRes; rw [if_neg (by omega)]
          rw [hR]
          exact ev_cst fun f => by rw [ebbtideref06_Order.l0, if_neg (by omega)]) (fun out u lr hu hf hmin hol hC _ => by
        have := rorder_l1 (n := n.toNat) (b := b) hfl (by omega) hll out (by omega) out.length (by omega) (R := OrdRes n lr) (fun g => absurd hf (g u hu)) (fun w hw hf2 hmin2 => by
          have e : w = u := Nat.le_antisymm (hmin2 u hu hf) (hmin w hw hf2)
          subst e
          have := hC (by simp; omega)
          rw [List.length_append, List.length_cons, List.length_nil] at this
          rw [hnn]
          exact this) n.toNat (-1) (Nat.le_refl _) (Or.inl ⟨rfl, fun u hu hun => by omega⟩)
        rw [hnn] at this
        refine Ev.step (fun f => ?_) this
        rw [ebbtideref06_Order.l0, if_pos (by omega), show wrap64 (n - 1) = n - 1 by unfold wrap64; omega])
    refine ⟨OrdRes n lr, ?_, he, ?_⟩
    · have := nodup_ints hg.nod hg.rng
      unfold OrdRes
      split
      · exact Nat.zero_le _
      · show lr.length ≤ 50; omega
    · unfold ebbtideref06_Order.f
      refine Ev.bind (by have := rcheck_ev n b l; rw [c] at this; exact this) ?_
      have g1 : 0 ≤ n := by omega
      have g2 : n.toNat ≤ 281474976710656 := by omega
      simp only [if_true, if_pos g1, if_pos g2]
      rw [dn_nil]
      exact hC (Nat.zero_le _)
  · refine ⟨([], false, checkErr n l), Nat.zero_le _, ?_, ?_⟩
    · unfold adj_Order.f
      refine Ev.bind (check_ev n b l) ?_
      simp only [if_neg c]
      exact Ev.now _
    · unfold ebbtideref06_Order.f
      refine Ev.bind (rcheck_ev n b l) ?_
      simp only [if_neg c]
      exact Ev.now _
end Go.Proofs.Ytgjgckpdilbbjaa.P
end
section
namespace Go.Proofs.Ytgjgckpdilbbjaa.R
open Go.RowKit Go.Proofs.Ytgjgckpdilbbjaa.Q Go.Proofs.YtgjgckpdilbbjaaW.PrintWords Go.Proofs.YtgjgckpdilbbjaaW.PrintLast Go.Proofs.YtgjgckpdilbbjaaW.PrintMore
open Go.ChangeShapes Go.WideShapes Go.Deep
def Reads (t : TypeId) {α : Type} (d : Kd α) (G : Nat → α → Prop) : Prop :=
  ∀ {H : Type} (enc : TypeId × Value → H) (w : World) (base : Nat) (spare : Nat → Bool) (held : Bool) (fuel : Nat) (cs : List Value) (x : DataW H × List MemPlace),
    DataW.trod enc Try.prog w base spare held fuel t cs = some x → ∃ a, d.K w a cs ∧ ∀ N, Rows.uptoBulk x.1 ≤ N → G N a
def gInt (k : IntKind) (_ : Nat) (n : Int) : Prop := (Lit.int k n).wf = true
def gTrue (_ : Nat) (_ : Bool) : Prop := True
def gList {α : Type} (G : Nat → α → Prop) (N : Nat) (l : List α) : Prop := l.length ≤ maxLen ∧ l.length ≤ N ∧ ∀ x ∈ l, G N x
theorem readsInt {t : TypeId} {k : IntKind} (ht : Try.prog.underlying t = some (.int k)) : Reads t (Kd.int k) (gInt k) := by
  intro H enc w base spare held fuel cs x h
  obtain ⟨n, rfl, rfl, hw⟩ := DataW.trod_int ht h
  exact ⟨n, rfl, fun _ _ => hw⟩
theorem readsBool {t : TypeId} (ht : Try.prog.underlying t = some .bool) : Reads t Kd.bool gTrue := by
  intro H enc w base spare held fuel cs x h
  obtain ⟨n, rfl, rfl⟩ := DataW.trod_bool ht h
  exact ⟨n, rfl, fun _ _ => trivial⟩
theorem one_le {H : Type} (d : DataW H) : 1 ≤ Rows.uptoBulk d := by
  cases d with
  | lit l => cases l <;> simp [Rows.uptoBulk]
  | nil => simp [Rows.uptoBulk]
  | ptr d => simp [Rows.uptoBulk]
  | slice elems spare => simp [Rows.uptoBulk]
  | agg parts => simp [Rows.uptoBulk]
  | iface t d => simp [Rows.uptoBulk]
  | map entries => simp [Rows.uptoBulk]
  | held h => simp [Rows.uptoBulk]
theorem part_le {H : Type} {d : DataW H} {l : List (DataW H)} (h : d ∈ l) : Rows.uptoBulk d ≤ Rows.uptoBulkAll l := by
  induction l with
  | nil => cases h
  | cons x r ih =>
    simp only [Rows.uptoBulkAll]
    cases List.mem_cons.1 h with
    | inl e => subst e; omega
    | inr e => have := ih e; omega
theorem length_le {H : Type} (l : List (DataW H)) : l.length ≤ Rows.uptoBulkAll l := by
  induction l with
  | nil => simp [Rows.uptoBulkAll]
  | cons x r ih => have := one_le x; simp only [Rows.uptoBulkAll, List.length_cons]; omega
theorem readsSlice {t e : TypeId} {α : Type} [Inhabited α] {d : Kd α} {G : Nat → α → Prop} (ht : Try.prog.underlying t = some (.slice e)) (hc : Try.prog.cellsOf e = d.sz) (R : Reads e d G) : Reads t (Kd.slice e d) (gList G) := by
  intro H enc w base spare held fuel cs x h
  rcases open_slice ht h with ⟨rfl, rfl⟩ | ⟨a, len, cap, m, n, D, Pl, rfl, hb, hl, hm, hmm, rfl, hx⟩
  · exact ⟨[], ⟨none, 0, rfl, Nat.le_refl _, Kd.C_nil d w⟩, fun N _ => ⟨Nat.zero_le _, Nat.zero_le _, fun x hx => by cases hx⟩⟩
  · have hlm : len ≤ m := by rw [hmm]; split <;> omega
    obtain ⟨f, hf⟩ := choose_lt (α := α) (n := m) (p := fun i y => ∃ c, c.length = d.sz ∧ d.K w y c ∧ (∀ j u, c[j]? = some u → w.cell? (a.add (i * d.sz + j)) = some u) ∧ ∀ N, Rows.uptoBulk (D i) ≤ N → G N y) (fun i hi => by
      obtain ⟨c, h1, h2⟩ := hx i hi
      obtain ⟨y, hK, hG⟩ := R enc w base spare held n c _ h2
      obtain ⟨_, hlen, hcell⟩ := World.cells?_some h1
      rw [hc] at hlen hcell
      refine ⟨y, c, hlen, hK, fun j u hu => ?_, hG⟩
      have hj : j < d.sz := by rw [← hlen]; exact (List.getElem?_eq_some_iff.1 hu).1
      have := hcell j hj
      rw [Deep.add_add] at this
      rw [this, hu])
    have hL : ((List.range len).map f).length = len := by simp
    refine ⟨(List.range len).map f, ⟨some a, cap, by rw [hL], by rw [hL]; exact hl, ?_⟩, fun N hN => ?_⟩
    · refine ⟨rfl, by rw [hL]; exact Nat.le_trans hl (Nat.le_trans hm (by decide)), fun _ => ⟨a, rfl, fun j p hj => ?_⟩⟩
      have hjl : j < len := by
        have := (List.getElem?_eq_some_iff.1 hj).1
        rwa [hL] at this
      have hp : f j = p := by
        rw [List.getElem?_map, List.getElem?_range hjl] at hj
        exact Option.some.inj hj
      obtain ⟨c, h1, h2, h3, _⟩ := hf j (by omega)
      rw [hp] at h2
      exact ⟨c, h1, h2, h3⟩
    · have hbulk : Rows.uptoBulkAll ((List.range len).map D) ≤ N := by
        simp only [Rows.uptoBulk] at hN
        omega
      refine ⟨by rw [hL]; omega, by rw [hL]; have := length_le ((List.range len).map D); simp at this; omega, fun y hy => ?_⟩
      obtain ⟨i, hi, rfl⟩ := List.mem_map.1 hy
      have hi' := List.mem_range.1 hi
      obtain ⟨c, _, _, _, hG⟩ := hf i (by omega)
      exact hG N (Nat.le_trans (part_le (List.mem_map.2 ⟨i, hi, rfl⟩)) hbulk)
instance : Inhabited S37 := ⟨z37⟩
def g37 (N : Nat) (x : S37) : Prop := gInt .i64 N x.f0 ∧ gInt .i64 N x.f1 ∧ gInt .i64 N x.f2 ∧ gInt .i64 N x.f3
set_option maxRecDepth 100000 in
theorem reads37 : Reads 37 k37 g37 := by
  intro H enc w base spare held fuel cs x h
  obtain ⟨xs, n, _, hx, hl, hlen, hf⟩ := DataW.trod_struct Try.underlying37 h
  have hl2 : cs.length = 4 := hl.trans (by kernel_rfl)
  have hlen2 : xs.length = 4 := hlen
  match xs, hlen2, cs, hl2 with
  | [y0, y1, y2, y3], _, [v0, v1, v2, v3], _ =>
    have c0 : Try.prog.cellsOf 3 = 1 := by kernel_rfl
    have e0 : DataW.trod enc Try.prog w base spare held n 3 (List.take (Try.prog.cellsOf 3) (List.drop 0 [v0, v1, v2, v3])) = some y0 := hf 0 _ rfl
    rw [c0] at e0
    obtain ⟨a0, K0, G0⟩ := (readsInt Try.underlying3) enc w base spare held n [v0] y0 e0
    have c1 : Try.prog.cellsOf 3 = 1 := by kernel_rfl
    have e1 : DataW.trod enc Try.prog w base spare held n 3 (List.take (Try.prog.cellsOf 3) (List.drop 1 [v0, v1, v2, v3])) = some y1 := hf 1 _ rfl
    rw [c1] at e1
    obtain ⟨a1, K1, G1⟩ := (readsInt Try.underlying3) enc w base spare held n [v1] y1 e1
    have c2 : Try.prog.cellsOf 3 = 1 := by kernel_rfl
    have e2 : DataW.trod enc Try.prog w base spare held n 3 (List.take (Try.prog.cellsOf 3) (List.drop 2 [v0, v1, v2, v3])) = some y2 := hf 2 _ rfl
    rw [c2] at e2
    obtain ⟨a2, K2, G2⟩ := (readsInt Try.underlying3) enc w base spare held n [v2] y2 e2
    have c3 : Try.prog.cellsOf 3 = 1 := by kernel_rfl
    have e3 : DataW.trod enc Try.prog w base spare held n 3 (List.take (Try.prog.cellsOf 3) (List.drop 3 [v0, v1, v2, v3])) = some y3 := hf 3 _ rfl
    rw [c3] at e3
    obtain ⟨a3, K3, G3⟩ := (readsInt Try.underlying3) enc w base spare held n [v3] y3 e3
    refine ⟨⟨a0, a1, a2, a3⟩, ⟨_, _, rfl, K0, ⟨_, _, rfl, K1, ⟨_, _, rfl, K2, K3⟩⟩⟩, fun N hN => ?_⟩
    rw [hx] at hN
    simp only [List.map_cons, List.map_nil, Rows.uptoBulk, Rows.uptoBulkAll] at hN
    exact ⟨G0 N (by omega), G1 N (by omega), G2 N (by omega), G3 N (by omega)⟩
structure S24 where
  f0 : Int
  f1 : Bool
  f2 : List S37
def z24 : S24 := ⟨(0 : Int), false, []⟩
def k24 : Kd S24 := Kd.iso (Kd.pair (Kd.int .i64) (Kd.pair Kd.bool (Kd.slice 37 k37))) (fun x : S24 => (x.f0, x.f1, x.f2))
instance : Inhabited S24 := ⟨z24⟩
def g24 (N : Nat) (x : S24) : Prop := gInt .i64 N x.f0 ∧ gTrue N x.f1 ∧ gList (g37) N x.f2
set_option maxRecDepth 100000 in
theorem reads24 : Reads 24 k24 g24 := by
  intro H enc w base spare held fuel cs x h
  obtain ⟨xs, n, _, hx, hl, hlen, hf⟩ := DataW.trod_struct Try.underlying24 h
  have hl2 : cs.length = 3 := hl.trans (by kernel_rfl)
  have hlen2 : xs.length = 3 := hlen
  match xs, hlen2, cs, hl2 with
  | [y0, y1, y2], _, [v0, v1, v2], _ =>
    have c0 : Try.prog.cellsOf 3 = 1 := by kernel_rfl
    have e0 : DataW.trod enc Try.prog w base spare held n 3 (List.take (Try.prog.cellsOf 3) (List.drop 0 [v0, v1, v2])) = some y0 := hf 0 _ rfl
    rw [c0] at e0
    obtain ⟨a0, K0, G0⟩ := (readsInt Try.underlying3) enc w base spare held n [v0] y0 e0
    have c1 : Try.prog.cellsOf 4 = 1 := by kernel_rfl
    have e1 : DataW.trod enc Try.prog w base spare held n 4 (List.take (Try.prog.cellsOf 4) (List.drop 1 [v0, v1, v2])) = some y1 := hf 1 _ rfl
    rw [c1] at e1
    obtain ⟨a1, K1, G1⟩ := (readsBool Try.underlying4) enc w base spare held n [v1] y1 e1
    have c2 : Try.prog.cellsOf 22 = 1 := by kernel_rfl
    have e2 : DataW.trod enc Try.prog w base spare held n 22 (List.take (Try.prog.cellsOf 22) (List.drop 2 [v0, v1, v2])) = some y2 := hf 2 _ rfl
    rw [c2] at e2
    obtain ⟨a2, K2, G2⟩ := (readsSlice Try.underlying22 (by kernel_rfl) reads37) enc w base spare held n [v2] y2 e2
    refine ⟨⟨a0, a1, a2⟩, ⟨_, _, rfl, K0, ⟨_, _, rfl, K1, K2⟩⟩, fun N hN => ?_⟩
    rw [hx] at hN
    simp only [List.map_cons, List.map_nil, Rows.uptoBulk, Rows.uptoBulkAll] at hN
    exact ⟨G0 N (by omega), G1 N (by omega), G2 N (by omega)⟩
end Go.Proofs.Ytgjgckpdilbbjaa.R
end
section
namespace Go.Proofs.Ytgjgckpdilbbjaa.R
open Go.RowKit Go.Proofs.Ytgjgckpdilbbjaa.Q Go.Proofs.YtgjgckpdilbbjaaW.PrintWords Go.Proofs.YtgjgckpdilbbjaaW.PrintLast Go.Proofs.YtgjgckpdilbbjaaW.PrintMore
def AdjOrders.Pure : Prop := ∀ N0 : Nat, ∀ (x0 : S24), g24 N0 x0 → ∃ k, ebbtidelaw06_AdjOrders.f k x0.f0 x0.f1 x0.f2 = some true
end Go.Proofs.Ytgjgckpdilbbjaa.R
end
section
namespace Go.Proofs.Ytgjgckpdilbbjaa.Pure
set_option linter.unusedSimpArgs false
set_option linter.unusedVariables false
open Go.RowKit Go.Proofs.Ytgjgckpdilbbjaa.Q Go.Proofs.Ytgjgckpdilbbjaa.P Go.Proofs.YtgjgckpdilbbjaaW.PrintWords Go.Proofs.YtgjgckpdilbbjaaW.PrintLast Go.Proofs.YtgjgckpdilbbjaaW.PrintMore
open Go.Proofs.Ytgjgckpdilbbjaa.R
theorem AdjOrders : AdjOrders.Pure := by
  intro N0 x0 _
  obtain ⟨n, b, l⟩ := x0
  apply Ev.rounds
  show Ev (fun k => ebbtidelaw06_AdjOrders.f k n b l) true
  obtain ⟨r, hlen, h1, h2⟩ := order_same (fewN n) b (l.take (fewL l.length))
  unfold ebbtidelaw06_AdjOrders.f
  refine Ev.bind h1 (Ev.bind h2 (Ev.bind awake06_ev ?_))
  simp only [if_true]
  refine Ev.bind (sameInts_ev r.1 (by omega)) ?_
  simp only [if_true, beq_self_eq_true, Bool.and_self]
  exact Ev.now _
end Go.Proofs.Ytgjgckpdilbbjaa.Pure
end
section
namespace Go.Proofs.Ytgjgckpdilbbjaa
open Go Go.RowKit
def ioHead : List Char := List.map Char.ofNat [104, 97, 114, 110, 101, 115, 115, 32, 50, 102, 54, 100, 99, 57, 98, 50, 54, 49, 49, 51, 56, 102, 56, 55, 99, 56, 48, 102, 57, 52, 51, 56, 102, 55, 97, 101, 98, 97, 101, 57, 54, 52, 48, 99, 51, 57, 98, 98, 100, 54, 53, 49, 48, 53, 54, 97, 56, 54, 99, 56, 52, 98, 54, 53, 53, 56, 53, 52, 100, 53, 51, 100, 32, 99, 117, 116, 32]
def ioRest : List Char := List.map Char.ofNat [97, 116, 32, 101, 98, 98, 116, 105, 100, 101, 47, 101, 98, 98, 116, 105, 100, 101, 108, 97, 119, 48, 54, 46, 65, 100, 106, 72, 111, 112, 115, 32, 101, 98, 98, 116, 105, 100, 101, 47, 101, 98, 98, 116, 105, 100, 101, 108, 97, 119, 48, 54, 46, 65, 100, 106, 79, 114, 100, 101, 114, 115, 32, 101, 98, 98, 116, 105, 100, 101, 47, 101, 98, 98, 116, 105, 100, 101, 108, 97, 119, 48, 54, 46, 65, 100, 106, 70, 97, 115, 116, 101, 115, 116, 32, 101, 98, 98, 116, 105, 100, 101, 47, 101, 98, 98, 116, 105, 100, 101, 108, 97, 119, 48, 54, 46, 65, 100, 106, 83, 116, 101, 112, 115, 32, 101, 98, 98, 116, 105, 100, 101, 47, 101, 98, 98, 116, 105, 100, 101, 108, 97, 119, 48, 54, 46, 65, 100, 106, 70, 111, 114, 119, 97, 114, 100, 32, 101, 98, 98, 116, 105, 100, 101, 47, 101, 98, 98, 116, 105, 100, 101, 108, 97, 119, 48, 54, 46, 65, 100, 106, 76, 105, 115, 116, 115, 32, 101, 98, 98, 116, 105, 100, 101, 47, 101, 98, 98, 116, 105, 100, 101, 108, 97, 119, 48, 54, 46, 65, 100, 106, 79, 110, 99, 101]
set_option maxRecDepth 100000 in
theorem io_eq : Try.pinned.checked.prog.initOrder = String.ofList (ioHead ++ ioRest) := by kernel_rfl
theorem io_toList : Try.pinned.checked.prog.initOrder.toList = ioHead ++ ioRest := by rw [io_eq]; exact String.toList_ofList
def ioCut : List Char := List.map Char.ofNat [99, 117, 116]
set_option maxRecDepth 100000 in
theorem io_words (r : List Char) : behindMainWord (wordsSigns (ioHead ++ r)) = ioCut :: wordsSigns r := by kernel_rfl
theorem io_behind : ∃ X, behindMainWord (wordsSigns Try.pinned.checked.prog.initOrder.toList) = ioCut :: X := ⟨_, by rw [io_toList]; exact io_words _⟩
theorem io_cut : ioCut = "cut".toList := by decide +kernel
theorem io_strip (X : List (List Char)) : stripLifts liftWords (ioCut :: X) = ([], ioCut :: X) := by kernel_rfl
theorem headLifts_cut (P : Program) (h : ∃ X, behindMainWord (wordsSigns P.initOrder.toList) = ioCut :: X) : P.headLifts = [] := by
  obtain ⟨X, e⟩ := h
  unfold Program.headLifts
  rw [e, io_strip]
  rfl
theorem mayEnter_cut (P : Program) (h : ∃ X, behindMainWord (wordsSigns P.initOrder.toList) = ioCut :: X) (h1 : P.laysLater = false) (h2 : P.bearsReflect = false) (h3 : P.doorFits [] = true) : P.mayEnter = true := by
  obtain ⟨X, e⟩ := h
  unfold Program.mayEnter
  rw [e]
  simp only [io_strip, h1, h2, h3]
  rw [io_cut]
  simp
theorem liftsFinal_cut (P : Program) (h : ∃ X, behindMainWord (wordsSigns P.initOrder.toList) = ioCut :: X) : P.liftsFinal = false := by
  have h0 := headLifts_cut P h
  obtain ⟨X, e⟩ := h
  unfold Program.liftsFinal
  rw [e, h0]
  rw [io_cut]
  simp
theorem make_cut (P : Program) (h : ∃ X, behindMainWord (wordsSigns P.initOrder.toList) = ioCut :: X) : P.make = some .cut := by
  obtain ⟨X, e⟩ := h
  unfold Program.make
  rw [e]
  simp only [io_cut]
  rw [if_neg (by decide +kernel), if_pos (by simp)]
theorem p_mayEnter : Try.pinned.checked.prog.mayEnter = true := mayEnter_cut _ io_behind (by kernel_rfl) (by kernel_rfl) (by kernel_rfl)
theorem p_liftsFinal : Try.pinned.checked.prog.liftsFinal = false := liftsFinal_cut _ io_behind
theorem p_make : Try.pinned.checked.prog.make = some .cut := make_cut _ io_behind
theorem p_laidOut : laidOutB Try.pinned.checked.prog = true := by kernel_rfl
theorem p_mapsRowed : mapsRowed Try.pinned.checked.prog = true := by kernel_rfl
theorem p_stopsHeard : Try.pinned.checked.prog.stopsHeard = true := by kernel_rfl
theorem p_stops : Try.pinned.checked.prog.stops = [] := by kernel_rfl
theorem p_stopKnobs : Try.pinned.checked.prog.stopKnobs = [] := by kernel_rfl
end Go.Proofs.Ytgjgckpdilbbjaa
end
section
namespace Go.Proofs.Ytgjgckpdilbbjaa.adjOrders
open Go.ChangeShapes Go.WideShapes Go.ChangeAt Go.RowKit
open Go.ChangeMaps (open_string shut_string)
open Go.Proofs.Ytgjgckpdilbbjaa.Q Go.Proofs.Ytgjgckpdilbbjaa.R Go.Proofs.YtgjgckpdilbbjaaW.PrintWords
set_option linter.unusedVariables false
theorem own : ownKnob Try.prog.godebug = none := by kernel_rfl
theorem laidOut : laidOutB Try.prog = true := by kernel_rfl
theorem open24 {w : World} {x : S24} {cs : List Value} (h : k24.K w x cs) : ∃ (A2 : Option Addr) (c2 : Nat), cs = [.int .i64 x.f0, .bool x.f1, .slice A2 x.f2.length c2] ∧ x.f2.length ≤ c2 ∧ Kd.C k37 w A2 x.f2.length x.f2 := by
  obtain ⟨_, _, rfl, rfl, ⟨_, _, rfl, rfl, ⟨A2, c2, rfl, l2, g2⟩⟩⟩ := h
  exact ⟨A2, c2, rfl, l2, g2⟩
set_option maxRecDepth 100000 in
theorem lifted (os : Os) (started : os.Started) (H : Type) (enc : TypeId × Value → H) :
    ReturnsInHanded {} Try.checked os 4 .any (Rows.adjOrdersSpec.pre6 enc Try.prog Try.f4 Rows.adjOrdersRow.domain false) (Rows.adjOrdersSpec.post enc Try.prog Try.f4 false true false false) := by
  refine returnsInHanded_of_change_sized (C := Try.checked) own started (by kernel_rfl) Try.func4
    (ChangeSpec.witness6 (enc := enc) (C := Try.checked) false ⟨#[], #[.agg #[.int .i64 0, .bool false, .slice none 0 0]], []⟩ 8 (by kernel_rfl) (by kernel_rfl) (by kernel_rfl) (by kernel_rfl)) ?_
  intro W base args ds gs before hval0 hW hcnd hsz0 _
  have hval : ∀ (j : Nat) t v, Try.f4.params[j]? = some t → args[j]? = some v → Value.okWide Try.prog W .any base t v := hval0
  have hW' := hW
  obtain ⟨p, q, hA0, hV, rfl, hfz, hnd⟩ := hW
  have hA : DataW.TrodAll enc Try.prog W 0 (fun _ => true) true Try.f4.params.toList args.toList ds p := hA0
  rw [Try.params4] at hA hval
  obtain ⟨v0, vs0, d0, ds0, p0, q0, hargs, rfl, rfl, h0, r0⟩ := trodAll_cons hA
  obtain ⟨rfl, rfl, rfl⟩ := trodAll_nil r0
  obtain rfl : args = #[v0] := by cases args; simp_all
  obtain ⟨rfl, rfl⟩ := trodVars_none hV
  have k0 := h0
  have lt0 : ∀ x ∈ p0, x.block < W.heap.size := by obtain ⟨m, hm⟩ := k0; exact DataW.trod_lt m _ _ _ hm
  obtain ⟨fu0, hf0⟩ := h0
  obtain ⟨x0, K0, G0⟩ := reads24 enc W 0 (fun _ => true) true fu0 _ _ hf0
  obtain ⟨cs0, rfl, hsz0⟩ := okWide_struct Try.underlying24 (hval 0 24 v0 rfl rfl)
  have K0' : (k24).K W x0 cs0.toList := K0
  obtain ⟨ao0_2, co0_2, es0, hc0_2, hr0_2⟩ := open24 K0'
  obtain rfl : cs0 = _ := Array.toList_inj.1 es0
  have h := Pure.AdjOrders _ x0 (G0 _ (Nat.le_refl _))
  obtain ⟨k, h⟩ := h
  refine (ebbtidelaw06_AdjOrders.calls k x0.f0 x0.f1 _ _ x0.f2 true W hr0_2 hc0_2 h).mono fun e W' ⟨he, bel0⟩ => ?_
  have bel : Below W.heap.size W W' := bel0
  subst he
  exact ⟨_, rfl, _, _, _, [], _, [], hW', trodAll_mk1 (shut_bool Try.underlying4 _), (trodAll_cons_mk (Below.trod laidOut (by kernel_rfl) (of_decide_eq_true (by kernel_rfl)) k0 bel lt0) trodAll_mk0), rfl, bel.frame _, fun h => by cases h⟩
theorem andI {a b : Bool} (x : a = true) (y : b = true) : (a && b) = true := by rw [x, y]; rfl
set_option maxRecDepth 100000 in
set_option maxHeartbeats 8000000 in
theorem closed : joinedFacts Try.pinned.checked.prog 4 Try.f4 Rows.adjOrdersSpec Rows.adjOrdersRow = true := by
  unfold joinedFacts
  exact (andI (andI (andI (andI (andI (andI (andI (andI (andI (andI (andI (andI (andI (andI (andI (andI (andI (andI (andI (andI (andI (andI (andI (andI (andI (andI (andI (andI (andI (andI (andI (by as_aux_lemma => kernel_rfl)
    p_laidOut)
    p_mapsRowed)
    (by as_aux_lemma => kernel_rfl))
    (by as_aux_lemma => kernel_rfl))
    (by as_aux_lemma => kernel_rfl))
    (by rw [p_stops]; rfl))
    (by as_aux_lemma => kernel_rfl))
    (by rw [p_stopKnobs]; rfl))
    (by as_aux_lemma => kernel_rfl))
    (by as_aux_lemma => kernel_rfl))
    (by as_aux_lemma => kernel_rfl))
    (by as_aux_lemma => kernel_rfl))
    (by as_aux_lemma => kernel_rfl))
    (by as_aux_lemma => kernel_rfl))
    (by as_aux_lemma => kernel_rfl))
    (by as_aux_lemma => kernel_rfl))
    (by as_aux_lemma => kernel_rfl))
    (by as_aux_lemma => kernel_rfl))
    (by as_aux_lemma => kernel_rfl))
    (by as_aux_lemma => kernel_rfl))
    (by as_aux_lemma => kernel_rfl))
    (by as_aux_lemma => kernel_rfl))
    (by as_aux_lemma => kernel_rfl))
    p_stopsHeard)
    p_mayEnter)
    (by rw [p_liftsFinal]; rfl))
    (by rw [p_make]; rfl))
    (by as_aux_lemma => kernel_rfl))
    (by as_aux_lemma => kernel_rfl))
    (by as_aux_lemma => kernel_rfl))
    (by as_aux_lemma => kernel_rfl))
theorem proved : Rows.AdjOrdersSaid :=
  OpenClaim.holds_of_wide 4 Try.f4 rfl rfl rfl rfl rfl rfl rfl ⟨rfl, rfl, rfl, rfl, rfl⟩ rfl rfl rfl rfl rfl (by kernel_rfl) Try.func4 closed
    (of_decide_eq_true (by kernel_rfl)) (by unfold Func.isWrapper; first | (rw [if_pos (by decide +kernel)]; kernel_rfl) | (rw [if_neg (by decide +kernel)]; exact ⟨rfl, rfl⟩))
    (fun os started H enc _ => lifted os started H enc)
#print axioms proved
end Go.Proofs.Ytgjgckpdilbbjaa.adjOrders
namespace Go.Proofs.Ytgjgckpdilbbjaa
theorem adjOrders_holds : Rows.AdjOrdersSaid := adjOrders.proved
end Go.Proofs.Ytgjgckpdilbbjaa
end
