/- Parts of the proof: words, plain functions and contracts of the law's functions. Conditions: none. -/
import Derived.Test.YtdghehebkalbgaaZBalances15
import Derived.Test.YtdghehebkalbgaaZBalances19
import Derived.Test.YtdghehebkalbgaaZBalances4
import Derived.Test.YtdghehebkalbgaaZBalances16
import Derived.Test.YtdghehebkalbgaaZBalances17
import Derived.Test.YtdghehebkalbgaaZBalances18
import Derived.Test.YtdghehebkalbgaaRows
import Derived.Deep.Slices
import Derived.ProofKit
import Derived.OpenShut
section
namespace Go.Proofs.Ytdghehebkalbgaa.P
open Go.RowKit Go.Proofs.Ytdghehebkalbgaa.Q Go.Proofs.YtdghehebkalbgaaW.PrintWords Go.Proofs.YtdghehebkalbgaaW.PrintLast Go.Proofs.YtdghehebkalbgaaW.PrintMore
theorem rdL_row {H : Nat} {g : Nat → List Int} {i : Nat} (h : i < H) : rd_L3 (row H g) (i : Int) = g i := by unfold rd_L3; rw [Int.toNat_natCast, row_getD _ _ _ h]
def put1 (F : Nat → Nat → Int) (ia fr : Nat) (N : Int) : Nat → Nat → Int := fun u w => if u = ia ∧ w = fr then F ia fr - N else F u w
def put2 (F : Nat → Nat → Int) (ia fr ti tn : Nat) (N : Int) : Nat → Nat → Int := fun u w => if u = ia + ti ∧ w = tn then put1 F ia fr N (ia + ti) tn + N else put1 F ia fr N u w
theorem mat_put1 (H V : Nat) (F : Nat → Nat → Int) (ia fr : Nat) (N : Int) : (mat H V F).set ia ((row V (F ia)).set fr (F ia fr - N)) = mat H V (put1 F ia fr N) := mat_put H V F ia fr _
theorem mat_put2 (H V : Nat) (F : Nat → Nat → Int) (ia fr ti tn : Nat) (N : Int) : (mat H V (put1 F ia fr N)).set (ia + ti) ((row V (put1 F ia fr N (ia + ti))).set tn (put1 F ia fr N (ia + ti) tn + N)) = mat H V (put2 F ia fr ti tn N) := mat_put H V _ (ia + ti) tn _
theorem put1_eq (F : Nat → Nat → Int) (ia fr : Nat) (N : Int) (u w : Nat) : put1 F ia fr N u w = F u w - (if fr = w ∧ ia = u then N else 0) := by
  unfold put1
  by_cases c : u = ia ∧ w = fr
  · rw [if_pos c, if_pos ⟨c.2.symm, c.1.symm⟩, c.1, c.2]
  · rw [if_neg c, if_neg (fun h => c ⟨h.2.symm, h.1.symm⟩)]; omega
theorem put2_eq (F : Nat → Nat → Int) (ia fr ti tn : Nat) (N : Int) (u w : Nat) : put2 F ia fr ti tn N u w = F u w + ((if tn = w ∧ ia + ti = u then 1 else 0) - (if fr = w ∧ ia = u then 1 else 0)) * N := by
  unfold put2
  by_cases c1 : u = ia + ti ∧ w = tn
  · rw [if_pos c1, if_pos (show tn = w ∧ ia + ti = u from ⟨c1.2.symm, c1.1.symm⟩), ← c1.1, ← c1.2, put1_eq]
    by_cases c2 : fr = w ∧ ia = u
    · rw [if_pos c2, if_pos c2]; omega
    · rw [if_neg c2, if_neg c2]; omega
  · rw [if_neg c1, if_neg (show ¬ (tn = w ∧ ia + ti = u) from fun h => c1 ⟨h.2.symm, h.1.symm⟩), put1_eq]
    by_cases c2 : fr = w ∧ ia = u
    · rw [if_pos c2, if_pos c2]; omega
    · rw [if_neg c2, if_neg c2]; omega
theorem s1_eq {h n : Int} {b : Bool} {arcs : List S47} {H V : Nat} (k i : Nat) (M : List S45) (hlt : i < M.length) (hM : M.length ≤ 1048576) (F : Nat → Nat → Int) (hF : ∀ a v, -1099511627776 ≤ F a v ∧ F a v ≤ 1099511627776) (ia fr tn ti : Nat)
    (ha0 : 0 ≤ M[i].f0) (ha1 : M[i].f0 < (arcs.length : Int)) (hia : M[i].f1 = (ia : Int)) (hfr : (arcAt arcs M[i].f0).f0 = (fr : Int)) (hto : (arcAt arcs M[i].f0).f1 = (tn : Int)) (hti : (arcAt arcs M[i].f0).f3 = (ti : Int))
    (l2 : ia + ti < H) (l3 : fr < V) (l4 : tn < V) (l5 : H ≤ 2000) (hN : 0 ≤ M[i].f2 ∧ M[i].f2 ≤ 1048576) :
    plan_stocks.l1 (k + 1) h (mat H V F) M (M.length : Int) (i : Int) n b arcs = plan_stocks.l1 k h (mat H V (put2 F ia fr ti tn M[i].f2)) M (M.length : Int) ((i + 1 : Nat) : Int) n b arcs := by
  have efr : (rd_T47 arcs M[i].f0).f0 = (fr : Int) := hfr
  have eto : (rd_T47 arcs M[i].f0).f1 = (tn : Int) := hto
  have eti : (rd_T47 arcs M[i].f0).f3 = (ti : Int) := hti
  have g1 : (mat H V F).length = H := mat_length _ _ _
  have g2 : rd_L3 (mat H V F) (ia : Int) = row V (F ia) := rdL_row (by omega)
  have g3 : rd (row V (F ia)) (fr : Int) = F ia fr := rd_row l3
  have gN : (row V (F ia)).length = V := row_length _ _
  have hr := rdM_of hlt
  generalize M[i] = m at *
  have b1 : (i : Int) < (M.length : Int) := by omega
  have b2 : (0 : Int) ≤ (i : Int) := Int.natCast_nonneg _
  have b3 : (0 : Int) ≤ (ia : Int) := Int.natCast_nonneg _
  have b4 : (ia : Int) < ((mat H V F).length : Int) := by rw [g1]; omega
  have b5 : (0 : Int) ≤ (fr : Int) := Int.natCast_nonneg _
  have b6 : (fr : Int) < ((row V (F ia)).length : Int) := by rw [gN]; omega
  have b7 : (0 : Int) ≤ ((ia + ti : Nat) : Int) := Int.natCast_nonneg _
  have b8 : ((ia + ti : Nat) : Int) < ((mat H V F).length : Int) := by rw [g1]; omega
  have b9 : (0 : Int) ≤ (tn : Int) := Int.natCast_nonneg _
  have hG2 : -2199023255552 ≤ put1 F ia fr m.f2 (ia + ti) tn ∧ put1 F ia fr m.f2 (ia + ti) tn ≤ 2199023255552 := by
    rw [put1_eq]
    have h2 := hF (ia + ti) tn
    clear hF
    split <;> omega
  have g5 : rd_L3 (mat H V (put1 F ia fr m.f2)) ((ia + ti : Nat) : Int) = row V (put1 F ia fr m.f2 (ia + ti)) := rdL_row l2
  have g6 : rd (row V (put1 F ia fr m.f2 (ia + ti))) (tn : Int) = put1 F ia fr m.f2 (ia + ti) tn := rd_row l4
  have b10 : (tn : Int) < ((row V (put1 F ia fr m.f2 (ia + ti))).length : Int) := by rw [row_length]; omega
  have b11 : i ≤ 4611686018427387904 := by clear hF; omega
  have v0 := hF ia fr
  clear hF
  have v1 : -4611686018427387904 ≤ F ia fr - m.f2 ∧ F ia fr - m.f2 ≤ 4611686018427387904 := by omega
  have v2 : -4611686018427387904 ≤ put1 F ia fr m.f2 (ia + ti) tn + m.f2 ∧ put1 F ia fr m.f2 (ia + ti) tn + m.f2 ≤ 4611686018427387904 := by omega
  have v3 : -4611686018427387904 ≤ (ia : Int) + (ti : Int) ∧ (ia : Int) + (ti : Int) ≤ 4611686018427387904 := by omega
  have ew : wrap64 ((ia : Int) + (ti : Int)) = ((ia + ti : Nat) : Int) := (w64 v3.1 v3.2).trans (Int.natCast_add _ _).symm
  have e1 : wrap64 (F ia fr - m.f2) = F ia fr - m.f2 := w64 v1.1 v1.2
  have e2 : wrap64 (put1 F ia fr m.f2 (ia + ti) tn + m.f2) = put1 F ia fr m.f2 (ia + ti) tn + m.f2 := w64 v2.1 v2.2
  rw [plan_stocks.l1, if_pos b1, if_pos b2, if_pos b1, hr, if_pos ha0, if_pos ha1, hia, if_pos b3, if_pos b4, efr, eto, eti, if_pos b5, g2, if_pos b6, g3, e1, ew]
  simp only [Option.bind_some, Int.toNat_natCast]
  rw [mat_put1]
  rw [if_pos b7, if_pos b8, if_pos b9, g5, if_pos b10, g6, e2, mat_put2, wrap1 b11]
section
variable {n : Int} {b : Bool} {arcs : List S47} {s t h : Int} {M : List S45} (hn : NetOk n arcs) (hh : 0 ≤ h ∧ h ≤ 1024) (hM : M.length ≤ 1048576) (hmay : ∀ m ∈ M, May arcs s t h m)
def tH (h : Int) : Nat := h.toNat + 1
def tV (n : Int) : Nat := n.toNat
def SM (n : Int) (arcs : List S47) (h : Int) (M : List S45) : List (List Int) := mat (tH h) (tV n) (stk arcs M)
include hn hh hM hmay
theorem s1_loop (d : Nat) : ∀ i, i + d = M.length → (Ev (fun k => plan_stocks.l2 k (mat (tH h) (tV n) (now arcs M)) h 0) (SM n arcs h M)) →
    Ev (fun k => plan_stocks.l1 k h (mat (tH h) (tV n) (now arcs (M.take i))) M (M.length : Int) (i : Int) n b arcs) (SM n arcs h M) := by
  induction d with
  | zero =>
    intro i hi hend
    refine Ev.step (fun k => ?_) hend
    rw [plan_stocks.l1, if_neg (by omega), List.take_of_length_le (by omega)]
  | succ d ih =>
    intro i hi hend
    have hlt : i < M.length := by omega
    have hm := hmay M[i] (List.getElem_mem hlt)
    have hok := arcAt_ok hn hm.a0 hm.a1
    have hN := may_n hn hmay (List.getElem_mem hlt)
    have hb1 : ∀ a v, -1099511627776 ≤ now arcs (M.take i) a v ∧ now arcs (M.take i) a v ≤ 1099511627776 := fun a v => stk_bd hn hM hmay (fun m hm => List.mem_of_mem_take hm) (by rw [List.length_take]; omega) _ (cNow_bd arcs _ _)
    have hs : ∀ a v : Nat, now arcs (M.take (i + 1)) a v = now arcs (M.take i) a v + cNow arcs (v : Int) (a : Int) (keyM M[i]) * M[i].f2 := by
      intro a v
      unfold now
      rw [List.take_succ_eq_append_getElem hlt, wsum_append, wsum_cons, wsum_nil, Int.add_zero]
    obtain ⟨ia, hia⟩ := Int.eq_ofNat_of_zero_le hm.b0
    obtain ⟨fr, hfr⟩ := Int.eq_ofNat_of_zero_le hok.f0.1
    obtain ⟨tn, hto⟩ := Int.eq_ofNat_of_zero_le hok.f1.1
    obtain ⟨ti, hti⟩ := Int.eq_ofNat_of_zero_le hok.f3.1
    have l2 : ia + ti < tH h := by have := hm.b1; unfold tH; omega
    have l3 : fr < tV n := by have := hok.f0; unfold tV; omega
    have l4 : tn < tV n := by have := hok.f1; unfold tV; omega
    have l5 : tH h ≤ 2000 := by unfold tH; omega
    have hst := fun k => s1_eq (h := h) (n := n) (b := b) (arcs := arcs) (H := tH h) (V := tV n) k i M hlt hM (now arcs (M.take i)) hb1 ia fr tn ti hm.a0 hm.a1 hia hfr hto hti l2 l3 l4 l5 hN
    refine Ev.step hst ?_
    have hi2 := ih (i + 1) (by omega) hend
    have e : mat (tH h) (tV n) (put2 (now arcs (M.take i)) ia fr ti tn M[i].f2) = mat (tH h) (tV n) (now arcs (M.take (i + 1))) := by
      refine mat_ext fun u w hu hw => ?_
      rw [hs, put2_eq]
      congr 2
      unfold cNow keyM
      simp only
      rw [hfr, hto, hti, hia]
      congr 1
      · by_cases c : tn = w ∧ ia + ti = u
        · rw [if_pos c, if_pos (by omega)]
        · rw [if_neg c, if_neg (by omega)]
      · by_cases c : fr = w ∧ ia = u
        · rw [if_pos c, if_pos (by omega)]
        · rw [if_neg c, if_neg (by omega)]
    rw [e]
    exact hi2
omit hn hh hM hmay in
theorem stk_succ (a v : Nat) : stk arcs M (a + 1) v = stk arcs M a v + now arcs M (a + 1) v := by
  unfold stk now
  rw [← wsum_add]
  refine wsum_congr fun x hx => ?_
  unfold cStk cIn cOut cNow
  generalize (keyM x).2 + (arcAt arcs (keyM x).1).f3 = p
  generalize (keyM x).2 = q
  by_cases c1 : (arcAt arcs (keyM x).1).f1 = (v : Int) <;> by_cases c2 : (arcAt arcs (keyM x).1).f0 = (v : Int) <;> simp only [c1, c2, true_and, false_and, if_false] <;> (repeat' split) <;> omega
omit hh hM in
theorem stk_zero (v : Nat) : stk arcs M 0 v = now arcs M 0 v := by
  unfold stk now
  refine wsum_congr fun x hx => ?_
  have hm := hmay x hx
  have hok := (arcAt_ok hn hm.a0 hm.a1).f3
  have hb := hm.b0
  have e2 : (keyM x).2 = x.f1 := rfl
  have e1 : (keyM x).1 = x.f0 := rfl
  unfold cStk cIn cOut cNow
  rw [e1, e2]
  by_cases c1 : (arcAt arcs x.f0).f1 = (v : Int) <;> by_cases c2 : (arcAt arcs x.f0).f0 = (v : Int) <;> simp only [c1, c2, true_and, false_and, if_false] <;> (repeat' split) <;> omega
def upto3 (arcs : List S47) (M : List S45) (a v0 : Nat) : Nat → Nat → Int := fun u w => if u ≤ a ∨ u = a + 1 ∧ w < v0 then stk arcs M u w else now arcs M u w
theorem s3_loop (a : Nat) (ha : a + 1 < tH h) (hend : Ev (fun k => plan_stocks.l2 k (mat (tH h) (tV n) (upto3 arcs M (a + 1) 0)) h ((a + 1 : Nat) : Int)) (SM n arcs h M)) (d : Nat) : ∀ v, v + d = tV n →
    Ev (fun k => plan_stocks.l3 k (mat (tH h) (tV n) (upto3 arcs M a v)) (a : Int) h (a : Int) (row (tV n) (stk arcs M a)) ((tV n : Nat) : Int) (v : Int)) (SM n arcs h M) := by
  have hlo := hn.lo
  have hhi := hn.hi
  have hHH : tH h = h.toNat + 1 := rfl
  have hVV : tV n = n.toNat := rfl
  induction d with
  | zero =>
    intro v hv
    refine Ev.step (fun k => ?_) hend
    rw [plan_stocks.l3, if_neg (by omega), wrap1 (by omega)]
    congr 1
    refine mat_ext fun u w hu hw => ?_
    unfold upto3
    by_cases c : u ≤ a ∨ u = a + 1 ∧ w < v
    · rw [if_pos c, if_pos (by omega)]
    · rw [if_neg c, if_neg (by omega)]
  | succ d ih =>
    intro v hv
    have hv2 : v < tV n := by omega
    refine Ev.step (fun k => ?_) (ih (v + 1) (by omega))
    have g2 : rd_L3 (mat (tH h) (tV n) (upto3 arcs M a v)) ((a + 1 : Nat) : Int) = row (tV n) (upto3 arcs M a v (a + 1)) := rdL_row ha
    have g3 : rd (row (tV n) (upto3 arcs M a v (a + 1))) (v : Int) = upto3 arcs M a v (a + 1) v := rd_row hv2
    have g4 : rd (row (tV n) (stk arcs M a)) (v : Int) = stk arcs M a v := rd_row hv2
    have e1 : upto3 arcs M a v (a + 1) v = now arcs M (a + 1) v := by unfold upto3; rw [if_neg (by omega)]
    have e2 := stk_succ (arcs := arcs) (M := M) a v
    have hb := stk_bd hn hM hmay (P := M) (fun _ h => h) (Nat.le_refl _) _ (cStk_bd arcs (v : Int) ((a + 1 : Nat) : Int))
    have e3 : wrap64 (now arcs M (a + 1) v + stk arcs M a v) = stk arcs M (a + 1) v := by
      rw [show now arcs M (a + 1) v + stk arcs M a v = stk arcs M (a + 1) v by omega]
      exact w64 (by unfold stk; omega) (by unfold stk; omega)
    rw [plan_stocks.l3, if_pos (by omega), if_pos (by omega), if_pos (by rw [row_length]; omega), wrap1 (by omega), if_pos (by omega), if_pos (by rw [mat_length]; omega), g2, if_pos (by rw [row_length]; omega), g3, g4, e1, e3]
    simp only [Int.toNat_natCast]
    rw [mat_put, wrap1 (by omega)]
    congr 1
    refine mat_ext fun u w hu hw => ?_
    by_cases c : u = a + 1 ∧ w = v
    · obtain ⟨rfl, rfl⟩ := c
      rw [if_pos ⟨rfl, rfl⟩]
      unfold upto3
      rw [if_pos (by omega)]
    · rw [if_neg c]
      unfold upto3
      by_cases c2 : u ≤ a ∨ u = a + 1 ∧ w < v
      · rw [if_pos c2, if_pos (by omega)]
      · rw [if_neg c2, if_neg (by omega)]
theorem s2_loop (d : Nat) : ∀ a, a + d = h.toNat → Ev (fun k => plan_stocks.l2 k (mat (tH h) (tV n) (upto3 arcs M a 0)) h (a : Int)) (SM n arcs h M) := by
  have hHH : tH h = h.toNat + 1 := rfl
  induction d with
  | zero =>
    intro a ha
    refine ev_cst fun k => ?_
    rw [plan_stocks.l2, if_neg (by omega)]
    congr 1
    refine mat_ext fun u w hu hw => ?_
    unfold upto3
    rw [if_pos (by omega)]
  | succ d ih =>
    intro a ha
    have g1 : rd_L3 (mat (tH h) (tV n) (upto3 arcs M a 0)) (a : Int) = row (tV n) (stk arcs M a) := by
      have : rd_L3 (mat (tH h) (tV n) (upto3 arcs M a 0)) (a : Int) = row (tV n) (upto3 arcs M a 0 a) := rdL_row (by omega)
      rw [this]
      refine row_ext fun w _ => ?_
      unfold upto3
      rw [if_pos (by omega)]
    refine Ev.step (fun k => ?_) (s3_loop hn hh hM hmay a (by omega) (ih (a + 1) (by omega)) (tV n) 0 (by omega))
    rw [plan_stocks.l2, if_pos (by omega), if_pos (by omega), if_pos (by rw [mat_length]; omega), g1, row_length]
    rfl
theorem s0_loop (d : Nat) : ∀ i, i + d = tH h → Ev (fun k => plan_stocks.l0 k h M (row (tH h) (fun a => if a < i then row (tV n) (fun _ => (0 : Int)) else [])) ((tH h : Nat) : Int) (i : Int) n b arcs) (SM n arcs h M) := by
  have hlo := hn.lo
  have hhi := hn.hi
  have hHH : tH h = h.toNat + 1 := rfl
  induction d with
  | zero =>
    intro i hi
    have h2 := s2_loop hn hh hM hmay h.toNat 0 (by omega)
    have e0 : mat (tH h) (tV n) (upto3 arcs M 0 0) = mat (tH h) (tV n) (now arcs M) := by
      refine mat_ext fun u w hu hw => ?_
      unfold upto3
      by_cases c : u ≤ 0 ∨ u = 0 + 1 ∧ w < 0
      · rw [if_pos c, show u = 0 by omega]
        exact stk_zero hn hmay w
      · rw [if_neg c]
    rw [e0] at h2
    refine Ev.step (fun k => ?_) (s1_loop (b := b) hn hh hM hmay M.length 0 (by omega) h2)
    rw [plan_stocks.l0, if_neg (by omega)]
    congr 1
    unfold mat
    refine row_ext fun u hu => ?_
    rw [if_pos (by omega)]
    refine row_ext fun w _ => ?_
    unfold now
    rw [List.take_zero, wsum_nil]
  | succ d ih =>
    intro i hi
    refine Ev.step (fun k => ?_) (ih (i + 1) (by omega))
    rw [plan_stocks.l0, if_pos (by omega), if_pos (by omega), if_pos (by omega), if_pos (by omega), if_pos (by rw [row_length]; omega), Int.toNat_natCast, row_replicate, row_set, wrap1 (by omega)]
    congr 1
    refine row_ext fun u hu => ?_
    by_cases c : u = i
    · rw [if_pos c, if_pos (by omega)]; rfl
    · rw [if_neg c]
      by_cases c2 : u < i
      · rw [if_pos c2, if_pos (by omega)]
      · rw [if_neg c2, if_neg (by omega)]
theorem stocks_ev : Ev (fun k => plan_stocks.f k n b arcs h M) (SM n arcs h M) := by
  have hHH : tH h = h.toNat + 1 := rfl
  have e1 : wrap64 (h + 1) = ((tH h : Nat) : Int) := by unfold wrap64; omega
  refine Ev.congr (fun k => ?_) (s0_loop (b := b) hn hh hM hmay (tH h) 0 (by omega))
  unfold plan_stocks.f
  rw [e1, if_pos (by omega), if_pos (by omega)]
  simp only [Option.bind_some, Int.toNat_natCast, List.length_replicate]
  congr 1
  rw [row_replicate]
  exact row_ext fun u _ => by rw [if_neg (by omega)]
end
end Go.Proofs.Ytdghehebkalbgaa.P
end
section
namespace Go.Proofs.Ytdghehebkalbgaa.P
open Go.RowKit Go.Proofs.Ytdghehebkalbgaa.Q Go.Proofs.YtdghehebkalbgaaW.PrintWords Go.Proofs.YtdghehebkalbgaaW.PrintLast Go.Proofs.YtdghehebkalbgaaW.PrintMore
def Bad (hold : Bool) (h s t : Int) (f : Nat → Nat → Int) (a v : Nat) : Prop := (v : Int) ≠ s ∧ (v : Int) ≠ t ∧ (f a v < 0 ∨ 0 < f a v ∧ (hold = false ∨ (a : Int) = h))
def AllOk (hold : Bool) (h s t : Int) (H V : Nat) (f : Nat → Nat → Int) : Prop := ∀ u, u < H → ∀ w, w < V → ¬ Bad hold h s t f u w
def RowOk (hold : Bool) (h s t : Int) (V : Nat) (f : Nat → Nat → Int) (a v : Nat) : Prop := ∀ w, v ≤ w → w < V → ¬ Bad hold h s t f a w
def RowsOk (hold : Bool) (h s t : Int) (H V : Nat) (f : Nat → Nat → Int) (a : Nat) : Prop := ∀ u, a ≤ u → u < H → ∀ w, w < V → ¬ Bad hold h s t f u w
section
open Classical
variable {hold : Bool} {h s t : Int} {H V : Nat} {f : Nat → Nat → Int} (hH : H ≤ 4611686018427387904) (hV : V ≤ 4611686018427387904) (hhH : (H : Int) = h + 1)
theorem rowOk_step {a v : Nat} (hv : v < V) : RowOk hold h s t V f a v ↔ ¬ Bad hold h s t f a v ∧ RowOk hold h s t V f a (v + 1) := by
  unfold RowOk
  constructor
  · intro h1; exact ⟨h1 v (Nat.le_refl _) hv, fun w hw hw2 => h1 w (by omega) hw2⟩
  · rintro ⟨h1, h2⟩ w hw hw2
    rcases Nat.eq_or_lt_of_le hw with rfl | h3
    · exact h1
    · exact h2 w h3 hw2
theorem rowsOk_step {a : Nat} (ha : a < H) : RowsOk hold h s t H V f a ↔ RowOk hold h s t V f a 0 ∧ RowsOk hold h s t H V f (a + 1) := by
  unfold RowsOk RowOk
  constructor
  · intro h1; exact ⟨fun w _ hw => h1 a (Nat.le_refl _) ha w hw, fun u hu hu2 => h1 u (by omega) hu2⟩
  · rintro ⟨h1, h2⟩ u hu hu2 w hw
    rcases Nat.eq_or_lt_of_le hu with rfl | h3
    · exact h1 w (by omega) hw
    · exact h2 u h3 hu2 w hw
include hH hV hhH
theorem ord_step (k a v : Nat) (ha : a < H) (hv : v < V) : plan_ordinary.l1 (k + 1) (mat H V f) s t hold (a : Int) (mat H V f) ((H : Nat) : Int) (a : Int) (row V (f a)) ((V : Nat) : Int) (v : Int) =
    if Bad hold h s t f a v then some false else plan_ordinary.l1 k (mat H V f) s t hold (a : Int) (mat H V f) ((H : Nat) : Int) (a : Int) (row V (f a)) ((V : Nat) : Int) ((v + 1 : Nat) : Int) := by
  have g1 : rd (row V (f a)) (v : Int) = f a v := rd_row hv
  have g2 : wrap64 (((mat H V f).length : Int) - 1) = h := by rw [mat_length]; unfold wrap64; omega
  rw [plan_ordinary.l1, if_pos (by omega), if_pos (by omega), if_pos (by rw [row_length]; omega), g1, g2, wrap1 (by omega)]
  by_cases c1 : (v : Int) = s
  · rw [if_pos c1, if_neg (fun hb : Bad hold h s t f a v => hb.1 c1)]
  rw [if_neg c1]
  by_cases c2 : (v : Int) = t
  · rw [if_pos c2, if_neg (fun hb : Bad hold h s t f a v => hb.2.1 c2)]
  rw [if_neg c2]
  by_cases c3 : f a v < 0
  · rw [if_pos c3, if_pos (show Bad hold h s t f a v from ⟨c1, c2, .inl c3⟩)]
  rw [if_neg c3]
  by_cases c4 : f a v > 0
  · rw [if_pos c4]
    cases hold with
    | false => rw [if_neg (by decide), if_pos (show Bad false h s t f a v from ⟨c1, c2, .inr ⟨c4, .inl rfl⟩⟩)]
    | true =>
      rw [if_pos rfl]
      by_cases c5 : (a : Int) = h
      · rw [if_pos c5, if_pos (show Bad true h s t f a v from ⟨c1, c2, .inr ⟨c4, .inr c5⟩⟩)]
      · rw [if_neg c5, if_neg]
        rintro ⟨_, _, h6 | ⟨_, h7 | h7⟩⟩
        · exact c3 h6
        · cases h7
        · exact c5 h7
  · rw [if_neg c4, if_neg]
    rintro ⟨_, _, h6 | ⟨h7, _⟩⟩
    · exact c3 h6
    · exact c4 h7
theorem ord_l1 (a : Nat) (ha : a < H) (hnext : Ev (fun k => plan_ordinary.l0 k (mat H V f) s t hold (mat H V f) ((H : Nat) : Int) ((a + 1 : Nat) : Int)) (decide (RowsOk hold h s t H V f (a + 1)))) (d : Nat) : ∀ v, v + d = V →
    Ev (fun k => plan_ordinary.l1 k (mat H V f) s t hold (a : Int) (mat H V f) ((H : Nat) : Int) (a : Int) (row V (f a)) ((V : Nat) : Int) (v : Int)) (decide (RowOk hold h s t V f a v ∧ RowsOk hold h s t H V f (a + 1))) := by
  induction d with
  | zero =>
    intro v hv
    have e : decide (RowOk hold h s t V f a v ∧ RowsOk hold h s t H V f (a + 1)) = decide (RowsOk hold h s t H V f (a + 1)) := by
      rw [decide_eq_decide]
      exact ⟨fun h => h.2, fun h => ⟨fun w hw hw2 => by omega, h⟩⟩
    rw [e]
    exact Ev.step (fun k => by rw [plan_ordinary.l1, if_neg (by omega), wrap1 (by omega)]) hnext
  | succ d ih =>
    intro v hv
    have hv2 : v < V := by omega
    refine Ev.step (fun k => ord_step hH hV hhH k a v ha hv2) ?_
    have hr := rowOk_step (hold := hold) (h := h) (s := s) (t := t) (f := f) (a := a) hv2
    by_cases c : Bad hold h s t f a v
    · simp only [c, if_true]
      have e : decide (RowOk hold h s t V f a v ∧ RowsOk hold h s t H V f (a + 1)) = false := by
        rw [decide_eq_false_iff_not]
        rintro ⟨h1, _⟩
        exact (hr.1 h1).1 c
      rw [e]
      exact Ev.now _
    · simp only [c, if_false]
      have e : decide (RowOk hold h s t V f a v ∧ RowsOk hold h s t H V f (a + 1)) = decide (RowOk hold h s t V f a (v + 1) ∧ RowsOk hold h s t H V f (a + 1)) := by
        rw [decide_eq_decide, hr]
        exact ⟨fun h => ⟨h.1.2, h.2⟩, fun h => ⟨⟨c, h.1⟩, h.2⟩⟩
      rw [e]
      exact ih (v + 1) (by omega)
theorem ord_l0 (d : Nat) : ∀ a, a + d = H → Ev (fun k => plan_ordinary.l0 k (mat H V f) s t hold (mat H V f) ((H : Nat) : Int) (a : Int)) (decide (RowsOk hold h s t H V f a)) := by
  induction d with
  | zero =>
    intro a ha
    rw [decide_eq_true (show RowsOk hold h s t H V f a from fun u hu hu2 => by omega)]
    exact ev_cst fun k => by rw [plan_ordinary.l0, if_neg (by omega)]
  | succ d ih =>
    intro a ha
    have ha2 : a < H := by omega
    have g : rd_L3 (mat H V f) (a : Int) = row V (f a) := rdL_row ha2
    have e : decide (RowsOk hold h s t H V f a) = decide (RowOk hold h s t V f a 0 ∧ RowsOk hold h s t H V f (a + 1)) := by rw [decide_eq_decide, rowsOk_step ha2]
    rw [e]
    refine Ev.step (fun k => ?_) (ord_l1 hH hV hhH a ha2 (ih (a + 1) (by omega)) V 0 (by omega))
    rw [plan_ordinary.l0, if_pos (by omega), if_pos (by omega), if_pos (by rw [mat_length]; omega), g, row_length]
    rfl
theorem ordinary_ev : Ev (fun k => plan_ordinary.f k (mat H V f) s t hold) (decide (AllOk hold h s t H V f)) := by
  have h0 := ord_l0 (hold := hold) (s := s) (t := t) (f := f) hH hV hhH H 0 (by omega)
  have e : decide (RowsOk hold h s t H V f 0) = decide (AllOk hold h s t H V f) := by
    rw [decide_eq_decide]
    exact ⟨fun h u hu w hw => h u (by omega) hu w hw, fun h u _ hu w hw => h u hu w hw⟩
  rw [e] at h0
  refine Ev.congr (fun k => ?_) h0
  unfold plan_ordinary.f
  rw [mat_length]
  rfl
variable {b : Bool} {arcs : List S47} (hh : 0 ≤ h) (ht : 0 ≤ t ∧ t < (V : Int))
include hh ht
end
end Go.Proofs.Ytdghehebkalbgaa.P
end
section
namespace Go.Proofs.Ytdghehebkalbgaa.P
open Go.RowKit Go.Proofs.Ytdghehebkalbgaa.Q Go.Proofs.YtdghehebkalbgaaW.PrintWords Go.Proofs.YtdghehebkalbgaaW.PrintLast Go.Proofs.YtdghehebkalbgaaW.PrintMore
theorem awake14_at : ebbtidelaw14_awake.f 60 = some true := by decide +kernel
theorem awake14_ev : Ev (fun k => ebbtidelaw14_awake.f k) true := Ev.of (fun k => ebbtidelaw14_awake.mono k) awake14_at
noncomputable def stocksR (n : Int) (arcs : List S47) (s t h : Int) (l : List S45) : List (List Int) × Int :=
  if (mergedR n arcs s t h l).2 = 0 then (SM n arcs h (mergedR n arcs s t h l).1, 0) else ([], (mergedR n arcs s t h l).2)
open Classical in
noncomputable def planR (hold : Bool) (n : Int) (arcs : List S47) (s t h : Int) (l : List S45) : Int × Int :=
  if (mergedR n arcs s t h l).2 = 0 then (if AllOk hold h s t (tH h) (tV n) (stk arcs (mergedR n arcs s t h l).1) then (stk arcs (mergedR n arcs s t h l).1 h.toNat t.toNat, 0) else (0, 141)) else (0, (mergedR n arcs s t h l).2)
structure MergedOk (n : Int) (arcs : List S47) (s t h : Int) (l M : List S45) : Prop where
  net : NetOk n arcs
  ends : 0 ≤ s ∧ s < n ∧ 0 ≤ t ∧ t < n ∧ s ≠ t
  hor : 0 ≤ h ∧ h ≤ 1024
  fit : AllFit l
  is : M = mergeL l
  may : ∀ m ∈ M, May arcs s t h m
theorem mergedR_ok {n : Int} {arcs : List S47} {s t h : Int} {l : List S45} (hz : (mergedR n arcs s t h l).2 = 0) : MergedOk n arcs s t h l (mergedR n arcs s t h l).1 := by
  unfold mergedR at *
  by_cases c : askErr n arcs s t h = 0
  · rw [if_pos c] at *
    obtain ⟨h1, h2, h3, h4, h5, h6, h7⟩ := askErr_ok.1 c
    by_cases c2 : AllFit l
    · rw [if_pos c2] at *
      by_cases c3 : AllMay arcs s t h (mergeL l)
      · rw [if_pos c3] at *
        exact ⟨h1, ⟨h2, h3, h4, h5, h6⟩, h7, c2, rfl, c3⟩
      · rw [if_neg c3] at hz; cases hz
    · rw [if_neg c2] at hz; cases hz
  · rw [if_neg c] at hz; exact absurd hz c
section
variable {n : Int} {hold : Bool} {arcs : List S47} {s t h : Int} {l : List S45} (hlen : l.length ≤ 1048576) (hl : ∀ x ∈ l, OkM x)
include hlen
theorem merged_len (hz : (mergedR n arcs s t h l).2 = 0) : (mergedR n arcs s t h l).1.length ≤ 1048576 := by
  rw [(mergedR_ok hz).is]
  exact Nat.le_trans (mergeL_length l) hlen
include hl
theorem stocksP_ev : Ev (fun k => plan_Stocks.f k n hold arcs s t h l) (stocksR n arcs s t h l) := by
  unfold plan_Stocks.f stocksR
  refine Ev.bind (merged_ev hlen hl) ?_
  by_cases c : (mergedR n arcs s t h l).2 = 0
  · have ho := mergedR_ok c
    simp only [c, if_true]
    exact Ev.bind (stocks_ev ho.net ho.hor (merged_len hlen c) ho.may) (Ev.now _)
  · simp only [c, if_false]
    exact Ev.now _
open Classical in
theorem checked_ev : Ev (fun k => plan_checked.f k n hold arcs s t h l) (if (planR hold n arcs s t h l).2 = 0 then (SM n arcs h (mergedR n arcs s t h l).1, 0) else ([], (planR hold n arcs s t h l).2)) := by
  unfold plan_checked.f
  refine Ev.bind (stocksP_ev hlen hl) ?_
  unfold stocksR planR
  by_cases c : (mergedR n arcs s t h l).2 = 0
  · have ho := mergedR_ok c
    have h1 := ho.hor
    have h2 := ho.net.lo
    have h3 := ho.net.hi
    simp only [c, if_true]
    have hord := ordinary_ev (hold := hold) (h := h) (s := s) (t := t) (H := tH h) (V := tV n) (f := stk arcs (mergedR n arcs s t h l).1) (by unfold tH; omega) (by unfold tV; omega) (by unfold tH; omega)
    refine Ev.bind hord ?_
    by_cases c2 : AllOk hold h s t (tH h) (tV n) (stk arcs (mergedR n arcs s t h l).1)
    · simp only [c2, decide_true, if_true]; exact Ev.now _
    · simp only [c2, decide_false, Bool.false_eq_true, if_false, show ¬ (141 : Int) = 0 by decide]; exact Ev.now _
  · simp only [c, if_false]
    exact Ev.now _
open Classical in
theorem checkP_ev : Ev (fun k => plan_Check.f k n hold arcs s t h l) (planR hold n arcs s t h l) := by
  unfold plan_Check.f
  refine Ev.bind (checked_ev hlen hl) ?_
  by_cases c0 : (planR hold n arcs s t h l).2 = 0
  · simp only [c0, if_true]
    have c : (mergedR n arcs s t h l).2 = 0 := by
      apply Classical.byContradiction
      intro hc
      unfold planR at c0
      rw [if_neg hc] at c0
      exact hc c0
    have ho := mergedR_ok c
    obtain ⟨hh0, hh1⟩ := ho.hor
    obtain ⟨_, _, ht0, ht1, _⟩ := ho.ends
    have hval : planR hold n arcs s t h l = (stk arcs (mergedR n arcs s t h l).1 h.toNat t.toNat, 0) := by
      unfold planR at *
      rw [if_pos c] at *
      by_cases c2 : AllOk hold h s t (tH h) (tV n) (stk arcs (mergedR n arcs s t h l).1)
      · rw [if_pos c2]
      · rw [if_neg c2] at c0; cases c0
    rw [hval]
    obtain ⟨hN, rfl⟩ := Int.eq_ofNat_of_zero_le hh0
    obtain ⟨tN, rfl⟩ := Int.eq_ofNat_of_zero_le ht0
    simp only [Int.toNat_natCast]
    generalize (mergedR n arcs s (tN : Int) (hN : Int) l).1 = M
    have g : rd_L3 (SM n arcs (hN : Int) M) (hN : Int) = row (tV n) (stk arcs M hN) := rdL_row (by unfold tH; omega)
    have g2 : rd (row (tV n) (stk arcs M hN)) (tN : Int) = stk arcs M hN tN := rd_row (by unfold tV; omega)
    have g3 : (SM n arcs (hN : Int) M).length = tH (hN : Int) := mat_length _ _ _
    have p1 : (0 : Int) ≤ (hN : Int) := Int.natCast_nonneg _
    have p2 : (hN : Int) < ((SM n arcs (hN : Int) M).length : Int) := by rw [g3]; unfold tH; omega
    have p3 : (0 : Int) ≤ (tN : Int) := Int.natCast_nonneg _
    have p4 : (tN : Int) < ((row (tV n) (stk arcs M hN)).length : Int) := by rw [row_length]; unfold tV; omega
    simp only [p1, p2, p3, g, p4, g2, if_true]
    exact Ev.now _
  · simp only [c0, if_false]
    have e : planR hold n arcs s t h l = (0, (planR hold n arcs s t h l).2) := by
      unfold planR at *
      by_cases c : (mergedR n arcs s t h l).2 = 0
      · rw [if_pos c] at *
        by_cases c2 : AllOk hold h s t (tH h) (tV n) (stk arcs (mergedR n arcs s t h l).1)
        · rw [if_pos c2] at c0; exact absurd rfl c0
        · rw [if_neg c2]
      · rw [if_neg c]
    rw [← e]
    exact Ev.now _
end
end Go.Proofs.Ytdghehebkalbgaa.P
end
section
namespace Go.Proofs.Ytdghehebkalbgaa.R
open Go.RowKit Go.Proofs.Ytdghehebkalbgaa.Q Go.Proofs.YtdghehebkalbgaaW.PrintWords Go.Proofs.YtdghehebkalbgaaW.PrintLast Go.Proofs.YtdghehebkalbgaaW.PrintMore
open Go.ChangeShapes Go.WideShapes Go.Deep
def Reads (t : TypeId) {α : Type} (d : Kd α) (G : Nat → α → Prop) : Prop :=
  ∀ {H : Type} (enc : TypeId × Value → H) (w : World) (base : Nat) (spare : Nat → Bool) (held : Bool) (fuel : Nat) (cs : List Value) (x : DataW H × List MemPlace),
    DataW.trod enc Try.prog w base spare held fuel t cs = some x → ∃ a, d.K w a cs ∧ ∀ N, Rows.uptoBulk x.1 ≤ N → G N a
def gInt (k : IntKind) (_ : Nat) (n : Int) : Prop := (Lit.int k n).wf = true
def gTrue (_ : Nat) (_ : Bool) : Prop := True
def gList {α : Type} (G : Nat → α → Prop) (N : Nat) (l : List α) : Prop := l.length ≤ maxLen ∧ l.length ≤ N ∧ ∀ x ∈ l, G N x
theorem readsInt {t : TypeId} {k : IntKind} (ht : Try.prog.underlying t = some (.int k)) : Reads t (Kd.int k) (gInt k) := by
  intro H enc w base spare held fuel cs x h
  obtain ⟨n, rfl, rfl, hw⟩ := DataW.trod_int ht h
  exact ⟨n, rfl, fun _ _ => hw⟩
theorem readsBool {t : TypeId} (ht : Try.prog.underlying t = some .bool) : Reads t Kd.bool gTrue := by
  intro H enc w base spare held fuel cs x h
  obtain ⟨n, rfl, rfl⟩ := DataW.trod_bool ht h
  exact ⟨n, rfl, fun _ _ => trivial⟩
theorem one_le {H : Type} (d : DataW H) : 1 ≤ Rows.uptoBulk d := by
  cases d with
  | lit l => cases l <;> simp [Rows.uptoBulk]
  | nil => simp [Rows.uptoBulk]
  | ptr d => simp [Rows.uptoBulk]
  | slice elems spare => simp [Rows.uptoBulk]
  | agg parts => simp [Rows.uptoBulk]
  | iface t d => simp [Rows.uptoBulk]
  | map entries => simp [Rows.uptoBulk]
  | held h => simp [Rows.uptoBulk]
theorem part_le {H : Type} {d : DataW H} {l : List (DataW H)} (h : d ∈ l) : Rows.uptoBulk d ≤ Rows.uptoBulkAll l := by
  induction l with
  | nil => cases h
  | cons x r ih =>
    simp only [Rows.uptoBulkAll]
    cases List.mem_cons.1 h with
    | inl e => subst e; omega
    | inr e => have := ih e; omega
theorem length_le {H : Type} (l : List (DataW H)) : l.length ≤ Rows.uptoBulkAll l := by
  induction l with
  | nil => simp [Rows.uptoBulkAll]
  | cons x r ih => have := one_le x; simp only [Rows.uptoBulkAll, List.length_cons]; omega
theorem readsSlice {t e : TypeId} {α : Type} [Inhabited α] {d : Kd α} {G : Nat → α → Prop} (ht : Try.prog.underlying t = some (.slice e)) (hc : Try.prog.cellsOf e = d.sz) (R : Reads e d G) : Reads t (Kd.slice e d) (gList G) := by
  intro H enc w base spare held fuel cs x h
  rcases open_slice ht h with ⟨rfl, rfl⟩ | ⟨a, len, cap, m, n, D, Pl, rfl, hb, hl, hm, hmm, rfl, hx⟩
  · exact ⟨[], ⟨none, 0, rfl, Nat.le_refl _, Kd.C_nil d w⟩, fun N _ => ⟨Nat.zero_le _, Nat.zero_le _, fun x hx => by cases hx⟩⟩
  · have hlm : len ≤ m := by rw [hmm]; split <;> omega
    obtain ⟨f, hf⟩ := choose_lt (α := α) (n := m) (p := fun i y => ∃ c, c.length = d.sz ∧ d.K w y c ∧ (∀ j u, c[j]? = some u → w.cell? (a.add (i * d.sz + j)) = some u) ∧ ∀ N, Rows.uptoBulk (D i) ≤ N → G N y) (fun i hi => by
      obtain ⟨c, h1, h2⟩ := hx i hi
      obtain ⟨y, hK, hG⟩ := R enc w base spare held n c _ h2
      obtain ⟨_, hlen, hcell⟩ := World.cells?_some h1
      rw [hc] at hlen hcell
      refine ⟨y, c, hlen, hK, fun j u hu => ?_, hG⟩
      have hj : j < d.sz := by rw [← hlen]; exact (List.getElem?_eq_some_iff.1 hu).1
      have := hcell j hj
      rw [Deep.add_add] at this
      rw [this, hu])
    have hL : ((List.range len).map f).length = len := by simp
    refine ⟨(List.range len).map f, ⟨some a, cap, by rw [hL], by rw [hL]; exact hl, ?_⟩, fun N hN => ?_⟩
    · refine ⟨rfl, by rw [hL]; exact Nat.le_trans hl (Nat.le_trans hm (by decide)), fun _ => ⟨a, rfl, fun j p hj => ?_⟩⟩
      have hjl : j < len := by
        have := (List.getElem?_eq_some_iff.1 hj).1
        rwa [hL] at this
      have hp : f j = p := by
        rw [List.getElem?_map, List.getElem?_range hjl] at hj
        exact Option.some.inj hj
      obtain ⟨c, h1, h2, h3, _⟩ := hf j (by omega)
      rw [hp] at h2
      exact ⟨c, h1, h2, h3⟩
    · have hbulk : Rows.uptoBulkAll ((List.range len).map D) ≤ N := by
        simp only [Rows.uptoBulk] at hN
        omega
      refine ⟨by rw [hL]; omega, by rw [hL]; have := length_le ((List.range len).map D); simp at this; omega, fun y hy => ?_⟩
      obtain ⟨i, hi, rfl⟩ := List.mem_map.1 hy
      have hi' := List.mem_range.1 hi
      obtain ⟨c, _, _, _, hG⟩ := hf i (by omega)
      exact hG N (Nat.le_trans (part_le (List.mem_map.2 ⟨i, hi, rfl⟩)) hbulk)
instance : Inhabited S47 := ⟨z47⟩
def g47 (N : Nat) (x : S47) : Prop := gInt .i64 N x.f0 ∧ gInt .i64 N x.f1 ∧ gInt .i64 N x.f2 ∧ gInt .i64 N x.f3
set_option maxRecDepth 100000 in
theorem reads47 : Reads 47 k47 g47 := by
  intro H enc w base spare held fuel cs x h
  obtain ⟨xs, n, _, hx, hl, hlen, hf⟩ := DataW.trod_struct Try.underlying47 h
  have hl2 : cs.length = 4 := hl.trans (by kernel_rfl)
  have hlen2 : xs.length = 4 := hlen
  match xs, hlen2, cs, hl2 with
  | [y0, y1, y2, y3], _, [v0, v1, v2, v3], _ =>
    have c0 : Try.prog.cellsOf 3 = 1 := by kernel_rfl
    have e0 : DataW.trod enc Try.prog w base spare held n 3 (List.take (Try.prog.cellsOf 3) (List.drop 0 [v0, v1, v2, v3])) = some y0 := hf 0 _ rfl
    rw [c0] at e0
    obtain ⟨a0, K0, G0⟩ := (readsInt Try.underlying3) enc w base spare held n [v0] y0 e0
    have c1 : Try.prog.cellsOf 3 = 1 := by kernel_rfl
    have e1 : DataW.trod enc Try.prog w base spare held n 3 (List.take (Try.prog.cellsOf 3) (List.drop 1 [v0, v1, v2, v3])) = some y1 := hf 1 _ rfl
    rw [c1] at e1
    obtain ⟨a1, K1, G1⟩ := (readsInt Try.underlying3) enc w base spare held n [v1] y1 e1
    have c2 : Try.prog.cellsOf 3 = 1 := by kernel_rfl
    have e2 : DataW.trod enc Try.prog w base spare held n 3 (List.take (Try.prog.cellsOf 3) (List.drop 2 [v0, v1, v2, v3])) = some y2 := hf 2 _ rfl
    rw [c2] at e2
    obtain ⟨a2, K2, G2⟩ := (readsInt Try.underlying3) enc w base spare held n [v2] y2 e2
    have c3 : Try.prog.cellsOf 3 = 1 := by kernel_rfl
    have e3 : DataW.trod enc Try.prog w base spare held n 3 (List.take (Try.prog.cellsOf 3) (List.drop 3 [v0, v1, v2, v3])) = some y3 := hf 3 _ rfl
    rw [c3] at e3
    obtain ⟨a3, K3, G3⟩ := (readsInt Try.underlying3) enc w base spare held n [v3] y3 e3
    refine ⟨⟨a0, a1, a2, a3⟩, ⟨_, _, rfl, K0, ⟨_, _, rfl, K1, ⟨_, _, rfl, K2, K3⟩⟩⟩, fun N hN => ?_⟩
    rw [hx] at hN
    simp only [List.map_cons, List.map_nil, Rows.uptoBulk, Rows.uptoBulkAll] at hN
    exact ⟨G0 N (by omega), G1 N (by omega), G2 N (by omega), G3 N (by omega)⟩
structure S24 where
  f0 : Int
  f1 : Bool
  f2 : List S47
def z24 : S24 := ⟨(0 : Int), false, []⟩
def k24 : Kd S24 := Kd.iso (Kd.pair (Kd.int .i64) (Kd.pair Kd.bool (Kd.slice 47 k47))) (fun x : S24 => (x.f0, x.f1, x.f2))
instance : Inhabited S24 := ⟨z24⟩
def g24 (N : Nat) (x : S24) : Prop := gInt .i64 N x.f0 ∧ gTrue N x.f1 ∧ gList (g47) N x.f2
set_option maxRecDepth 100000 in
theorem reads24 : Reads 24 k24 g24 := by
  intro H enc w base spare held fuel cs x h
  obtain ⟨xs, n, _, hx, hl, hlen, hf⟩ := DataW.trod_struct Try.underlying24 h
  have hl2 : cs.length = 3 := hl.trans (by kernel_rfl)
  have hlen2 : xs.length = 3 := hlen
  match xs, hlen2, cs, hl2 with
  | [y0, y1, y2], _, [v0, v1, v2], _ =>
    have c0 : Try.prog.cellsOf 3 = 1 := by kernel_rfl
    have e0 : DataW.trod enc Try.prog w base spare held n 3 (List.take (Try.prog.cellsOf 3) (List.drop 0 [v0, v1, v2])) = some y0 := hf 0 _ rfl
    rw [c0] at e0
    obtain ⟨a0, K0, G0⟩ := (readsInt Try.underlying3) enc w base spare held n [v0] y0 e0
    have c1 : Try.prog.cellsOf 4 = 1 := by kernel_rfl
    have e1 : DataW.trod enc Try.prog w base spare held n 4 (List.take (Try.prog.cellsOf 4) (List.drop 1 [v0, v1, v2])) = some y1 := hf 1 _ rfl
    rw [c1] at e1
    obtain ⟨a1, K1, G1⟩ := (readsBool Try.underlying4) enc w base spare held n [v1] y1 e1
    have c2 : Try.prog.cellsOf 22 = 1 := by kernel_rfl
    have e2 : DataW.trod enc Try.prog w base spare held n 22 (List.take (Try.prog.cellsOf 22) (List.drop 2 [v0, v1, v2])) = some y2 := hf 2 _ rfl
    rw [c2] at e2
    obtain ⟨a2, K2, G2⟩ := (readsSlice Try.underlying22 (by kernel_rfl) reads47) enc w base spare held n [v2] y2 e2
    refine ⟨⟨a0, a1, a2⟩, ⟨_, _, rfl, K0, ⟨_, _, rfl, K1, K2⟩⟩, fun N hN => ?_⟩
    rw [hx] at hN
    simp only [List.map_cons, List.map_nil, Rows.uptoBulk, Rows.uptoBulkAll] at hN
    exact ⟨G0 N (by omega), G1 N (by omega), G2 N (by omega)⟩
instance : Inhabited S45 := ⟨z45⟩
instance : Inhabited S70 := ⟨z70⟩
def g70 (N : Nat) (x : S70) : Prop := gInt .u8 N x.f0 ∧ gInt .u8 N x.f1 ∧ gInt .u8 N x.f2 ∧ gInt .u8 N x.f3
set_option maxRecDepth 100000 in
theorem reads70 : Reads 70 k70 g70 := by
  intro H enc w base spare held fuel cs x h
  obtain ⟨xs, n, _, hx, hl, hlen, hf⟩ := DataW.trod_struct Try.underlying70 h
  have hl2 : cs.length = 4 := hl.trans (by kernel_rfl)
  have hlen2 : xs.length = 4 := hlen
  match xs, hlen2, cs, hl2 with
  | [y0, y1, y2, y3], _, [v0, v1, v2, v3], _ =>
    have c0 : Try.prog.cellsOf 5 = 1 := by kernel_rfl
    have e0 : DataW.trod enc Try.prog w base spare held n 5 (List.take (Try.prog.cellsOf 5) (List.drop 0 [v0, v1, v2, v3])) = some y0 := hf 0 _ rfl
    rw [c0] at e0
    obtain ⟨a0, K0, G0⟩ := (readsInt Try.underlying5) enc w base spare held n [v0] y0 e0
    have c1 : Try.prog.cellsOf 5 = 1 := by kernel_rfl
    have e1 : DataW.trod enc Try.prog w base spare held n 5 (List.take (Try.prog.cellsOf 5) (List.drop 1 [v0, v1, v2, v3])) = some y1 := hf 1 _ rfl
    rw [c1] at e1
    obtain ⟨a1, K1, G1⟩ := (readsInt Try.underlying5) enc w base spare held n [v1] y1 e1
    have c2 : Try.prog.cellsOf 5 = 1 := by kernel_rfl
    have e2 : DataW.trod enc Try.prog w base spare held n 5 (List.take (Try.prog.cellsOf 5) (List.drop 2 [v0, v1, v2, v3])) = some y2 := hf 2 _ rfl
    rw [c2] at e2
    obtain ⟨a2, K2, G2⟩ := (readsInt Try.underlying5) enc w base spare held n [v2] y2 e2
    have c3 : Try.prog.cellsOf 5 = 1 := by kernel_rfl
    have e3 : DataW.trod enc Try.prog w base spare held n 5 (List.take (Try.prog.cellsOf 5) (List.drop 3 [v0, v1, v2, v3])) = some y3 := hf 3 _ rfl
    rw [c3] at e3
    obtain ⟨a3, K3, G3⟩ := (readsInt Try.underlying5) enc w base spare held n [v3] y3 e3
    refine ⟨⟨a0, a1, a2, a3⟩, ⟨_, _, rfl, K0, ⟨_, _, rfl, K1, ⟨_, _, rfl, K2, K3⟩⟩⟩, fun N hN => ?_⟩
    rw [hx] at hN
    simp only [List.map_cons, List.map_nil, Rows.uptoBulk, Rows.uptoBulkAll] at hN
    exact ⟨G0 N (by omega), G1 N (by omega), G2 N (by omega), G3 N (by omega)⟩
structure S35 where
  f0 : Int
  f1 : Bool
  f2 : List S70
  f3 : Int
  f4 : Int
  f5 : Int
def z35 : S35 := ⟨(0 : Int), false, [], (0 : Int), (0 : Int), (0 : Int)⟩
def k35 : Kd S35 := Kd.iso (Kd.pair (Kd.int .u8) (Kd.pair Kd.bool (Kd.pair (Kd.slice 70 k70) (Kd.pair (Kd.int .u8) (Kd.pair (Kd.int .u8) (Kd.int .u8)))))) (fun x : S35 => (x.f0, x.f1, x.f2, x.f3, x.f4, x.f5))
instance : Inhabited S35 := ⟨z35⟩
def g35 (N : Nat) (x : S35) : Prop := gInt .u8 N x.f0 ∧ gTrue N x.f1 ∧ gList (g70) N x.f2 ∧ gInt .u8 N x.f3 ∧ gInt .u8 N x.f4 ∧ gInt .u8 N x.f5
set_option maxRecDepth 100000 in
theorem reads35 : Reads 35 k35 g35 := by
  intro H enc w base spare held fuel cs x h
  obtain ⟨xs, n, _, hx, hl, hlen, hf⟩ := DataW.trod_struct Try.underlying35 h
  have hl2 : cs.length = 6 := hl.trans (by kernel_rfl)
  have hlen2 : xs.length = 6 := hlen
  match xs, hlen2, cs, hl2 with
  | [y0, y1, y2, y3, y4, y5], _, [v0, v1, v2, v3, v4, v5], _ =>
    have c0 : Try.prog.cellsOf 5 = 1 := by kernel_rfl
    have e0 : DataW.trod enc Try.prog w base spare held n 5 (List.take (Try.prog.cellsOf 5) (List.drop 0 [v0, v1, v2, v3, v4, v5])) = some y0 := hf 0 _ rfl
    rw [c0] at e0
    obtain ⟨a0, K0, G0⟩ := (readsInt Try.underlying5) enc w base spare held n [v0] y0 e0
    have c1 : Try.prog.cellsOf 4 = 1 := by kernel_rfl
    have e1 : DataW.trod enc Try.prog w base spare held n 4 (List.take (Try.prog.cellsOf 4) (List.drop 1 [v0, v1, v2, v3, v4, v5])) = some y1 := hf 1 _ rfl
    rw [c1] at e1
    obtain ⟨a1, K1, G1⟩ := (readsBool Try.underlying4) enc w base spare held n [v1] y1 e1
    have c2 : Try.prog.cellsOf 33 = 1 := by kernel_rfl
    have e2 : DataW.trod enc Try.prog w base spare held n 33 (List.take (Try.prog.cellsOf 33) (List.drop 2 [v0, v1, v2, v3, v4, v5])) = some y2 := hf 2 _ rfl
    rw [c2] at e2
    obtain ⟨a2, K2, G2⟩ := (readsSlice Try.underlying33 (by kernel_rfl) reads70) enc w base spare held n [v2] y2 e2
    have c3 : Try.prog.cellsOf 5 = 1 := by kernel_rfl
    have e3 : DataW.trod enc Try.prog w base spare held n 5 (List.take (Try.prog.cellsOf 5) (List.drop 3 [v0, v1, v2, v3, v4, v5])) = some y3 := hf 3 _ rfl
    rw [c3] at e3
    obtain ⟨a3, K3, G3⟩ := (readsInt Try.underlying5) enc w base spare held n [v3] y3 e3
    have c4 : Try.prog.cellsOf 5 = 1 := by kernel_rfl
    have e4 : DataW.trod enc Try.prog w base spare held n 5 (List.take (Try.prog.cellsOf 5) (List.drop 4 [v0, v1, v2, v3, v4, v5])) = some y4 := hf 4 _ rfl
    rw [c4] at e4
    obtain ⟨a4, K4, G4⟩ := (readsInt Try.underlying5) enc w base spare held n [v4] y4 e4
    have c5 : Try.prog.cellsOf 5 = 1 := by kernel_rfl
    have e5 : DataW.trod enc Try.prog w base spare held n 5 (List.take (Try.prog.cellsOf 5) (List.drop 5 [v0, v1, v2, v3, v4, v5])) = some y5 := hf 5 _ rfl
    rw [c5] at e5
    obtain ⟨a5, K5, G5⟩ := (readsInt Try.underlying5) enc w base spare held n [v5] y5 e5
    refine ⟨⟨a0, a1, a2, a3, a4, a5⟩, ⟨_, _, rfl, K0, ⟨_, _, rfl, K1, ⟨_, _, rfl, K2, ⟨_, _, rfl, K3, ⟨_, _, rfl, K4, K5⟩⟩⟩⟩⟩, fun N hN => ?_⟩
    rw [hx] at hN
    simp only [List.map_cons, List.map_nil, Rows.uptoBulk, Rows.uptoBulkAll] at hN
    exact ⟨G0 N (by omega), G1 N (by omega), G2 N (by omega), G3 N (by omega), G4 N (by omega), G5 N (by omega)⟩
instance : Inhabited S63 := ⟨z63⟩
def g63 (N : Nat) (x : S63) : Prop := gInt .u8 N x.f0 ∧ gInt .u8 N x.f1 ∧ gInt .u8 N x.f2
set_option maxRecDepth 100000 in
theorem reads63 : Reads 63 k63 g63 := by
  intro H enc w base spare held fuel cs x h
  obtain ⟨xs, n, _, hx, hl, hlen, hf⟩ := DataW.trod_struct Try.underlying63 h
  have hl2 : cs.length = 3 := hl.trans (by kernel_rfl)
  have hlen2 : xs.length = 3 := hlen
  match xs, hlen2, cs, hl2 with
  | [y0, y1, y2], _, [v0, v1, v2], _ =>
    have c0 : Try.prog.cellsOf 5 = 1 := by kernel_rfl
    have e0 : DataW.trod enc Try.prog w base spare held n 5 (List.take (Try.prog.cellsOf 5) (List.drop 0 [v0, v1, v2])) = some y0 := hf 0 _ rfl
    rw [c0] at e0
    obtain ⟨a0, K0, G0⟩ := (readsInt Try.underlying5) enc w base spare held n [v0] y0 e0
    have c1 : Try.prog.cellsOf 5 = 1 := by kernel_rfl
    have e1 : DataW.trod enc Try.prog w base spare held n 5 (List.take (Try.prog.cellsOf 5) (List.drop 1 [v0, v1, v2])) = some y1 := hf 1 _ rfl
    rw [c1] at e1
    obtain ⟨a1, K1, G1⟩ := (readsInt Try.underlying5) enc w base spare held n [v1] y1 e1
    have c2 : Try.prog.cellsOf 5 = 1 := by kernel_rfl
    have e2 : DataW.trod enc Try.prog w base spare held n 5 (List.take (Try.prog.cellsOf 5) (List.drop 2 [v0, v1, v2])) = some y2 := hf 2 _ rfl
    rw [c2] at e2
    obtain ⟨a2, K2, G2⟩ := (readsInt Try.underlying5) enc w base spare held n [v2] y2 e2
    refine ⟨⟨a0, a1, a2⟩, ⟨_, _, rfl, K0, ⟨_, _, rfl, K1, K2⟩⟩, fun N hN => ?_⟩
    rw [hx] at hN
    simp only [List.map_cons, List.map_nil, Rows.uptoBulk, Rows.uptoBulkAll] at hN
    exact ⟨G0 N (by omega), G1 N (by omega), G2 N (by omega)⟩
structure S38 where
  f0 : S35
  f1 : List S63
def z38 : S38 := ⟨z35, []⟩
def k38 : Kd S38 := Kd.iso (Kd.pair k35 (Kd.slice 63 k63)) (fun x : S38 => (x.f0, x.f1))
instance : Inhabited S38 := ⟨z38⟩
def g38 (N : Nat) (x : S38) : Prop := g35 N x.f0 ∧ gList (g63) N x.f1
set_option maxRecDepth 100000 in
theorem reads38 : Reads 38 k38 g38 := by
  intro H enc w base spare held fuel cs x h
  obtain ⟨xs, n, _, hx, hl, hlen, hf⟩ := DataW.trod_struct Try.underlying38 h
  have hl2 : cs.length = 7 := hl.trans (by kernel_rfl)
  have hlen2 : xs.length = 2 := hlen
  match xs, hlen2, cs, hl2 with
  | [y0, y1], _, [v0, v1, v2, v3, v4, v5, v6], _ =>
    have c0 : Try.prog.cellsOf 35 = 6 := by kernel_rfl
    have e0 : DataW.trod enc Try.prog w base spare held n 35 (List.take (Try.prog.cellsOf 35) (List.drop 0 [v0, v1, v2, v3, v4, v5, v6])) = some y0 := hf 0 _ rfl
    rw [c0] at e0
    obtain ⟨a0, K0, G0⟩ := reads35 enc w base spare held n [v0, v1, v2, v3, v4, v5] y0 e0
    have c1 : Try.prog.cellsOf 36 = 1 := by kernel_rfl
    have e1 : DataW.trod enc Try.prog w base spare held n 36 (List.take (Try.prog.cellsOf 36) (List.drop 6 [v0, v1, v2, v3, v4, v5, v6])) = some y1 := hf 1 _ rfl
    rw [c1] at e1
    obtain ⟨a1, K1, G1⟩ := (readsSlice Try.underlying36 (by kernel_rfl) reads63) enc w base spare held n [v6] y1 e1
    refine ⟨⟨a0, a1⟩, ⟨_, _, rfl, K0, K1⟩, fun N hN => ?_⟩
    rw [hx] at hN
    simp only [List.map_cons, List.map_nil, Rows.uptoBulk, Rows.uptoBulkAll] at hN
    exact ⟨G0 N (by omega), G1 N (by omega)⟩
end Go.Proofs.Ytdghehebkalbgaa.R
end
