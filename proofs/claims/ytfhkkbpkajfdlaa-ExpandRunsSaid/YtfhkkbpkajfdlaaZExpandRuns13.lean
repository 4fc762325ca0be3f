/- A part of the proof: words, contracts, plain lemmas. Conditions: none. -/
import Derived.Laws.Externs
import Derived.Test.YtfhkkbpkajfdlaaZExpandRuns12
set_option linter.unusedSimpArgs false
set_option linter.unusedVariables false
section
namespace Go.Proofs.Ytfhkkbpkajfdlaa.P
open Go.RowKit Go.Proofs.Ytfhkkbpkajfdlaa.Q Go.Proofs.YtfhkkbpkajfdlaaW.PrintWords Go.Proofs.YtfhkkbpkajfdlaaW.PrintLast Go.Proofs.YtfhkkbpkajfdlaaW.PrintMore
def arcAtN (l0 : List S54) (i : Int) : S54 := l0.getD i.toNat z54
def arcK (V : Int) (l0 : List S54) (k : S83) : S54 :=
 if k.f0 = true then ⟨k.f4 * V + (arcAtN l0 k.f2).f0, (k.f4 + (arcAtN l0 k.f2).f3) * V + (arcAtN l0 k.f2).f1, (arcAtN l0 k.f2).f2, 0⟩ else ⟨k.f4 * V + k.f3, (k.f4 + 1) * V + k.f3, 1099511627776, 0⟩
def mvK (p : S83 × Nat) : Option ((Int × Int) × Int) := if p.1.f0 = true then some ((p.1.f2, p.1.f4), (p.2 : Int)) else none
def wtK (p : S83 × Nat) : Option ((Int × Int) × Int) := if p.1.f1 = true then some ((p.1.f3, p.1.f4), (p.2 : Int)) else none
def movesK (K : List S83) : List ((Int × Int) × Int) := K.zipIdx.filterMap mvK
def waitsK (K : List S83) : List ((Int × Int) × Int) := K.zipIdx.filterMap wtK
theorem movesK_snoc (K : List S83) (k : S83) : movesK (K ++ [k]) = movesK K ++ (mvK (k, K.length)).toList := by
 unfold movesK
 rw [List.zipIdx_append, List.filterMap_append, Nat.zero_add]
 rfl
theorem waitsK_snoc (K : List S83) (k : S83) : waitsK (K ++ [k]) = waitsK K ++ (wtK (k, K.length)).toList := by
 unfold waitsK
 rw [List.zipIdx_append, List.filterMap_append, Nat.zero_add]
 rfl
structure Rel (V : Int) (l0 : List S54) (g : GS) (r : RS) : Prop where
 same : g.1 = r.1
 arcs : r.1 = r.2.map (arcK V l0)
 mv : g.2.1 = movesK r.2
 wt : g.2.2 = waitsK r.2
section
variable {V H s t : Int} {hold : Bool} {l0 : List S54}
theorem rel_arc {a : Int} {g : GS} {r : RS} {i : Nat} (h : Rel V l0 g r) : Rel V l0 (arcStep V H s t a g i (l0.getD i z54)) (rArc V H s t a r i (l0.getD i z54)) := by
 unfold arcStep rArc
 have hlen : g.1.length = r.2.length := by rw [h.same, h.arcs, List.length_map]
 split
 ·refine ⟨by rw [h.same], ?_, ?_, ?_⟩
  ·rw [h.arcs]
   simp only [List.map_append, List.map_cons, List.map_nil]
   rfl
  ·show g.2.1 ++ [_] = movesK (r.2 ++ [_])
   rw [movesK_snoc, h.mv, hlen]
   rfl
  ·show g.2.2 = waitsK (r.2 ++ [_])
   rw [waitsK_snoc, h.wt]
   show _ = waitsK r.2 ++ []
   rw [List.append_nil]
 ·exact h
theorem rel_wait {a : Int} {g : GS} {r : RS} {v : Nat} (h : Rel V l0 g r) : Rel V l0 (waitStep V H hold s t a g v) (rWait V H hold s t a r v) := by
 unfold waitStep rWait
 have hlen : g.1.length = r.2.length := by rw [h.same, h.arcs, List.length_map]
 split
 ·refine ⟨by rw [h.same], ?_, ?_, ?_⟩
  ·rw [h.arcs]
   simp only [List.map_append, List.map_cons, List.map_nil]
   rfl
  ·show g.2.1 = movesK (r.2 ++ [_])
   rw [movesK_snoc, h.mv]
   show _ = movesK r.2 ++ []
   rw [List.append_nil]
  ·show g.2.2 ++ [_] = waitsK (r.2 ++ [_])
   rw [waitsK_snoc, h.wt, hlen]
   rfl
 ·exact h
theorem rel_arcs {a : Int} {g : GS} {r : RS} (h : Rel V l0 g r) : ∀ n, Rel V l0 (arcLoop V H s t l0 a g n) (rArcs V H s t l0 a r n)
 | 0 => h
 | n + 1 => by rw [arcLoop_succ, rArcs_succ]; exact rel_arc (rel_arcs h n)
theorem rel_waits {a : Int} {g : GS} {r : RS} (h : Rel V l0 g r) : ∀ n, Rel V l0 (waitLoop V H hold s t a g n) (rWaits V H hold s t a r n)
 | 0 => h
 | n + 1 => by rw [waitLoop_succ, rWaits_succ]; exact rel_wait (rel_waits h n)
theorem rel_ats : ∀ n, Rel V l0 (atLoop V H hold s t l0 n) (rAts V H hold s t l0 n)
 | 0 => ⟨rfl, rfl, rfl, rfl⟩
 | n + 1 => by rw [atLoop_succ, rAts_succ]; exact rel_waits (rel_arcs (rel_ats n) _) _
def mvAt (H s t : Int) (l0 : List S54) (a : Int) (i : Nat) : Option S83 := if a + (l0.getD i z54).f3 ≤ H ∧ ((l0.getD i z54).f1 != s && (l0.getD i z54).f0 != t) = true then some ⟨true, false, (i : Int), 0, a⟩ else none
def wtAt (H : Int) (hold : Bool) (s t : Int) (a : Int) (v : Nat) : Option S83 := if a < H ∧ ((hold && (v : Int) != s) && (v : Int) != t) = true then some ⟨false, true, 0, (v : Int), a⟩ else none
def kindsAt (V H : Int) (hold : Bool) (s t : Int) (l0 : List S54) (a : Nat) : List S83 := (List.range l0.length).filterMap (mvAt H s t l0 (a : Int)) ++ (List.range V.toNat).filterMap (wtAt H hold s t (a : Int))
def kindsB (V H : Int) (hold : Bool) (s t : Int) (l0 : List S54) (n : Nat) : List S83 := (List.range n).flatMap (kindsAt V H hold s t l0)
theorem rArcs_kinds {a : Int} {r : RS} : ∀ n, (rArcs V H s t l0 a r n).2 = r.2 ++ (List.range n).filterMap (mvAt H s t l0 a)
 | 0 => by simp [rArcs]
 | n + 1 => by
  rw [rArcs_succ, List.range_succ, List.filterMap_append, ← List.append_assoc, ← rArcs_kinds n]
  unfold rArc
  by_cases h : a + (l0.getD n z54).f3 ≤ H ∧ ((l0.getD n z54).f1 != s && (l0.getD n z54).f0 != t) = true
  ·rw [if_pos h, List.filterMap_cons, show mvAt H s t l0 a n = some ⟨true, false, (n : Int), 0, a⟩ from if_pos h, List.filterMap_nil]
  ·rw [if_neg h, List.filterMap_cons, show mvAt H s t l0 a n = none from if_neg h, List.filterMap_nil, List.append_nil]
theorem rWaits_kinds {a : Int} {r : RS} : ∀ n, (rWaits V H hold s t a r n).2 = r.2 ++ (List.range n).filterMap (wtAt H hold s t a)
 | 0 => by simp [rWaits]
 | n + 1 => by
  rw [rWaits_succ, List.range_succ, List.filterMap_append, ← List.append_assoc, ← rWaits_kinds n]
  unfold rWait
  by_cases h : a < H ∧ ((hold && (n : Int) != s) && (n : Int) != t) = true
  ·rw [if_pos h, List.filterMap_cons, show wtAt H hold s t a n = some ⟨false, true, 0, (n : Int), a⟩ from if_pos h, List.filterMap_nil]
  ·rw [if_neg h, List.filterMap_cons, show wtAt H hold s t a n = none from if_neg h, List.filterMap_nil, List.append_nil]
theorem rAts_kinds : ∀ n, (rAts V H hold s t l0 n).2 = kindsB V H hold s t l0 n
 | 0 => rfl
 | n + 1 => by
  rw [rAts_succ, rWaits_kinds, rArcs_kinds, rAts_kinds n]
  unfold kindsB kindsAt
  rw [List.range_succ, List.flatMap_append, List.append_assoc]
  simp
theorem mem_kindsB {n : Nat} {k : S83} : k ∈ kindsB V H hold s t l0 n ↔ ∃ a : Nat, a < n ∧ ((∃ i : Nat, i < l0.length ∧ mvAt H s t l0 (a : Int) i = some k) ∨ (∃ v : Nat, v < V.toNat ∧ wtAt H hold s t (a : Int) v = some k)) := by
 unfold kindsB kindsAt
 simp only [List.mem_flatMap, List.mem_range, List.mem_append, List.mem_filterMap]
def klt (x y : S83) : Prop := x.f4 < y.f4 ∨ x.f4 = y.f4 ∧ (x.f0 = true ∧ y.f0 = true → x.f2 < y.f2) ∧ (x.f1 = true ∧ y.f1 = true → x.f3 < y.f3)
theorem mvAt_some {a : Int} {i : Nat} {k : S83} : mvAt H s t l0 a i = some k ↔ (a + (l0.getD i z54).f3 ≤ H ∧ (l0.getD i z54).f1 ≠ s ∧ (l0.getD i z54).f0 ≠ t) ∧ k = ⟨true, false, (i : Int), 0, a⟩ := by
 unfold mvAt
 split <;> rename_i h
 ·simp only [Bool.and_eq_true, bne_iff_ne] at h
  constructor
  ·intro e; exact ⟨h, by cases e; rfl⟩
  ·rintro ⟨_, rfl⟩; rfl
 ·simp only [Bool.and_eq_true, bne_iff_ne] at h
  exact ⟨(fun e => by cases e), fun e => absurd e.1 h⟩
theorem wtAt_some {a : Int} {v : Nat} {k : S83} : wtAt H hold s t a v = some k ↔ (a < H ∧ hold = true ∧ (v : Int) ≠ s ∧ (v : Int) ≠ t) ∧ k = ⟨false, true, 0, (v : Int), a⟩ := by
 unfold wtAt
 split <;> rename_i h
 ·simp only [Bool.and_eq_true, bne_iff_ne] at h
  constructor
  ·intro e; exact ⟨⟨h.1, h.2.1.1, h.2.1.2, h.2.2⟩, by cases e; rfl⟩
  ·rintro ⟨_, rfl⟩; rfl
 ·simp only [Bool.and_eq_true, bne_iff_ne] at h
  exact ⟨(fun e => by cases e), fun e => absurd ⟨e.1.1, ⟨e.1.2.1, e.1.2.2.1⟩, e.1.2.2.2⟩ h⟩
theorem range_lt (n : Nat) : (List.range n).Pairwise (· < ·) := List.pairwise_lt_range
theorem kindsB_sorted (n : Nat) : (kindsB V H hold s t l0 n).Pairwise klt := by
 unfold kindsB
 rw [List.pairwise_flatMap]
 refine ⟨fun a _ => ?_, (range_lt n).imp ?_⟩
 ·unfold kindsAt
  rw [List.pairwise_append, List.pairwise_filterMap, List.pairwise_filterMap]
  refine ⟨(range_lt _).imp ?_, (range_lt _).imp ?_, ?_⟩
  ·intro i j hij x hx y hy
   rw [mvAt_some] at hx hy
   rw [hx.2, hy.2]
   exact Or.inr ⟨rfl, fun _ => by show (i : Int) < (j : Int); omega, fun h => by cases h.1⟩
  ·intro i j hij x hx y hy
   rw [wtAt_some] at hx hy
   rw [hx.2, hy.2]
   exact Or.inr ⟨rfl, (fun h => by cases h.1), fun _ => by show (i : Int) < (j : Int); omega⟩
  ·intro x hx y hy
   obtain ⟨i, _, hx⟩ := List.mem_filterMap.1 hx
   obtain ⟨j, _, hy⟩ := List.mem_filterMap.1 hy
   rw [mvAt_some] at hx
   rw [wtAt_some] at hy
   rw [hx.2, hy.2]
   exact Or.inr ⟨rfl, (fun h => by cases h.2), (fun h => by cases h.1)⟩
 ·intro a b hab x hx y hy
  have ha : x.f4 = (a : Int) := by
   unfold kindsAt at hx
   rcases List.mem_append.1 hx with hx | hx
   ·obtain ⟨i, _, hx⟩ := List.mem_filterMap.1 hx
    rw [mvAt_some] at hx; rw [hx.2]
   ·obtain ⟨i, _, hx⟩ := List.mem_filterMap.1 hx
    rw [wtAt_some] at hx; rw [hx.2]
  have hb : y.f4 = (b : Int) := by
   unfold kindsAt at hy
   rcases List.mem_append.1 hy with hy | hy
   ·obtain ⟨i, _, hy⟩ := List.mem_filterMap.1 hy
    rw [mvAt_some] at hy; rw [hy.2]
   ·obtain ⟨i, _, hy⟩ := List.mem_filterMap.1 hy
    rw [wtAt_some] at hy; rw [hy.2]
  exact Or.inl (by omega)
end
end Go.Proofs.Ytfhkkbpkajfdlaa.P
end
section
namespace Go.Proofs.Ytfhkkbpkajfdlaa.Q
open Go.RowKit Go.Proofs.YtfhkkbpkajfdlaaW.PrintWords Go.Proofs.YtfhkkbpkajfdlaaW.PrintLast Go.Proofs.YtfhkkbpkajfdlaaW.PrintMore
def table_Moves_2.f (a0_0 : Int) (a0_1 : Int) (a0_2 : Int) : Option (Int) := some a0_2
set_option maxHeartbeats 8000000 in
set_option maxRecDepth 100000 in
theorem table_Moves_2.calls (a0_0 : Int) (a0_1 : Int) (a0_2 : Int) (r : Int) (w : World) (h : table_Moves_2.f a0_0 a0_1 a0_2 = some r) :
  Calls Try.prog 77 #[.agg #[.int .i64 a0_0, .int .i64 a0_1, .int .i64 a0_2]] w fun e w' => e = .returned (.int .i64 r) ∧ Below w.heap.size w w' := by
 have hu85 := Try.underlying85; have HB := am_ (Below.refl w.heap.size w); have H : (some a0_2) = some r := h; clear h; obtain rfl := Option.some.inj H
 go_enter Try.func77, Try.ntmps77
 go_wp2_with (first | ((with_reducible refine gate_dst (N := 1) rfl ?_); refine bx_ 1 #[.int .i64 a0_0, .int .i64 a0_1, .int .i64 a0_2] 85 ?_; intro gb101 hg w2 BK101 hb; have GE101 := ge_ (w := w) hg; replace HB := hst_ hb; clear hb hg; obtain ⟨hcz3_0, hcz3_1, hcz3_2, hfz3_0, hfz3_1, hfz3_2⟩ := cf3_ BK101.out))
 go_ret
 exact ⟨er_, hb_⟩
def sumFit (n : Int) : Int × Bool := if -9223372036854775808 ≤ n ∧ n ≤ 9223372036854775807 then (n, true) else (0, false)
def sumOk (l : List Int) : Bool := l.all (fun x => decide (-9223372036854775808 ≤ x) && decide (x ≤ 9223372036854775807)) && decide (l.length ≤ 1152921504606846976)
def checked_Sum.f (l : List Int) : Option (Int × Bool) := if sumOk l = true then some (sumFit l.sum) else none
def lowH (l : List Int) (j : Nat) : Int := (l.take j).sum % 18446744073709551616
def highH (l : List Int) (j : Nat) : Int := (l.take j).sum / 18446744073709551616
theorem sumOk_at {l : List Int} (h : sumOk l = true) (i : Nat) (hi : i < l.length) : -9223372036854775808 ≤ l[i] ∧ l[i] ≤ 9223372036854775807 := by
 simp only [sumOk, Bool.and_eq_true, List.all_eq_true, decide_eq_true_eq] at h
 exact h.1 _ (List.getElem_mem hi)
theorem take_sum (l : List Int) (j : Nat) (hj : j < l.length) : (l.take (j + 1)).sum = (l.take j).sum + l[j] := by
 rw [List.take_succ_eq_append_getElem hj, List.sum_append]; simp
theorem take_bd {l : List Int} (h : sumOk l = true) (j : Nat) : j ≤ l.length → -9223372036854775808 * (j : Int) ≤ (l.take j).sum ∧ (l.take j).sum ≤ 9223372036854775807 * (j : Int) := by
 induction j with
 | zero => simp
 | succ j ih =>
  intro hj
  have := ih (by omega)
  have := sumOk_at h j (by omega)
  rw [take_sum l j (by omega)]
  omega
theorem sumOk_len {l : List Int} (h : sumOk l = true) : l.length ≤ 1152921504606846976 := by
 simp only [sumOk, Bool.and_eq_true, decide_eq_true_eq] at h
 exact h.2
theorem high_bd {l : List Int} (h : sumOk l = true) (j : Nat) (hj : j ≤ l.length) : -1152921504606846976 ≤ highH l j ∧ highH l j ≤ 1152921504606846976 := by
 have := take_bd h j hj
 have := sumOk_len h
 unfold highH
 omega
theorem low_bd (l : List Int) (j : Nat) : 0 ≤ lowH l j ∧ lowH l j < 18446744073709551616 := by unfold lowH; omega
theorem rd_at {l : List Int} {j : Nat} (hj : j < l.length) : rd l (j : Int) = l[j] := by
 unfold rd; simp [List.getD_eq_getElem?_getD, List.getElem?_eq_getElem hj]
theorem wu64 (n : Int) : IntKind.u64.wrap n = n % 18446744073709551616 := by simp [IntKind.wrap, IntKind.bits, IntKind.signed]
theorem w64_id {n : Int} (h0 : -9223372036854775808 ≤ n) (h1 : n ≤ 9223372036854775807) : wrap64 n = n := by unfold wrap64; omega
theorem low_step {l : List Int} (j : Nat) (hj : j < l.length) : (lowH l j + IntKind.u64.wrap (rd l (j : Int))) % 18446744073709551616 = lowH l (j + 1) := by
 unfold lowH
 rw [rd_at hj, take_sum l j hj]
 rw [wu64]
 omega
theorem high_step {l : List Int} (h : sumOk l = true) (j : Nat) (hj : j < l.length) : wrap64 (highH l j + wrap64 (rd l (j : Int) / 9223372036854775808 + wrap64 ((lowH l j + IntKind.u64.wrap (rd l (j : Int))) / 18446744073709551616))) = highH l (j + 1) := by
 have h1 := high_bd h (j + 1) hj
 have h2 := high_bd h j (by omega)
 have h3 := sumOk_at h j hj
 have h0 := take_bd h j (by omega)
 unfold highH lowH at *
 rw [rd_at hj]
 rw [take_sum l j hj] at *
 rw [wu64]
 generalize (l.take j).sum = s at *
 generalize l[j] = a at *
 have k1 : 0 ≤ (s % 18446744073709551616 + a % 18446744073709551616) / 18446744073709551616 ∧ (s % 18446744073709551616 + a % 18446744073709551616) / 18446744073709551616 ≤ 1 := by omega
 have k2 : -1 ≤ a / 9223372036854775808 ∧ a / 9223372036854775808 ≤ 0 := by omega
 have k3 : s / 18446744073709551616 + (a / 9223372036854775808 + (s % 18446744073709551616 + a % 18446744073709551616) / 18446744073709551616) = (s + a) / 18446744073709551616 := by omega
 rw [← k3] at h1 ⊢
 generalize (s % 18446744073709551616 + a % 18446744073709551616) / 18446744073709551616 = c at *
 generalize a / 9223372036854775808 = b at *
 rw [w64_id (n := c) (by omega) (by omega), w64_id (n := b + c) (by omega) (by omega), w64_id (by omega) (by omega)]
theorem sum_end {l : List Int} (r : Int × Bool) (hr : sumFit l.sum = r) : (if (highH l l.length != wrap64 (lowH l l.length) / 9223372036854775808) = true then ((0 : Int), false) else (wrap64 (lowH l l.length), true)) = r := by
 rw [← hr]
 unfold highH lowH sumFit
 rw [List.take_length]
 by_cases c : -9223372036854775808 ≤ l.sum ∧ l.sum ≤ 9223372036854775807
 ·rw [if_pos c, if_neg]
  ·exact Prod.ext (by show wrap64 _ = _; unfold wrap64; omega) rfl
  ·simp only [bne_iff_ne, ne_eq, Decidable.not_not]; unfold wrap64; omega
 ·rw [if_neg c, if_pos]
  simp only [bne_iff_ne, ne_eq]; unfold wrap64; omega
theorem add64_run (x y : Int) (hx : 0 ≤ x) (hy : 0 ≤ y) (w : World) : (callFunc 93 #[.int .u64 x, .int .u64 y, .int .u64 0]).run Try.prog w =
 .ok (.value (.tuple #[.int .u64 ((x + y) % 18446744073709551616), .int .u64 ((x + y) / 18446744073709551616)])) w := by
 rw [run_callFunc_extern Try.func93 (by kernel_rfl) (by kernel_rfl) (by kernel_rfl) (e := add64Entry) (by kernel_rfl), run_add64 x y 0 hx hy (by decide) (by decide)]
 simp only [Result.andThen, Int.add_zero]
set_option maxHeartbeats 1000000 in
set_option maxRecDepth 100000 in
theorem checked_Sum.calls (A0 : Option Addr) (c0 : Nat) (l0 : List Int) (r1 : Int) (r2 : Bool) (w : World) (hr0 : Kd.C (Kd.int .i64) w A0 l0.length l0) (hc0 : l0.length ≤ c0) (h : checked_Sum.f l0 = some (r1, r2)) :
 Calls Try.prog 88 #[.slice A0 l0.length c0] w fun e w' => e = .returned (.tuple #[.int .i64 r1, .bool r2]) ∧ Drawn0 w w' := by
 have HR0 := am_ hr0
 have HC0 := am_ hc0
 clear hr0 hc0
 have hk : sumOk l0 = true := by
  unfold checked_Sum.f at h
  by_cases c : sumOk l0 = true
  ·exact c
  ·rw [if_neg c] at h; exact absurd h (by simp)
 have hv : sumFit l0.sum = (r1, r2) := by
  unfold checked_Sum.f at h
  rw [if_pos hk] at h
  exact Option.some.inj h
 have HK := am_ hk
 have HV := am_ (sum_end _ hv)
 have HLEN := am_ (sumOk_len hk)
 clear h hk hv
 go_enter Try.func88, Try.ntmps88
 go_wp2
 go_loopg [4, 5, 11] l0.length (fun kq v4 v5 v11 w' => ∃ j : Nat, v4 = .int .i64 (highH l0 j) ∧ v5 = .int .u64 (lowH l0 j) ∧ v11 = .int .i64 j ∧ Aside0 (j + kq = l0.length) ∧ Drawn0 w w')
 case atStart => exact ⟨0, rfl, rfl, rfl, ⟨by omega⟩, Drawn0.refl _⟩
 case round =>
  obtain ⟨j, rfl, rfl, rfl, HJ, ⟨m1, rfl⟩⟩ := hrel
  cases gk with
  | zero =>
   have c1 : decide ((j : Int) < (l0.length : Int)) = false := decide_eq_false (by have := HJ.out; omega)
   have c2 : decide (j < l0.length) = false := decide_eq_false (by have := HJ.out; omega)
   have hj : j = l0.length := by have := HJ.out; omega
   have HV1 := HV.out
   rw [← hj] at HV1
   have HV2 := am_ HV1
   clear HV HV1 hj
   by_cases c3 : (highH l0 j != wrap64 (lowH l0 j) / 9223372036854775808) = true
   ·have H := HV2.out
    rw [if_pos c3] at H
    simp only [Prod.mk.injEq] at H
    obtain ⟨rfl, rfl⟩ := H
    clear HV2
    go_wp2
    go_ret2
    exact ⟨rfl, by repeat (first | exact Drawn0.refl _ | apply Drawn0.step)⟩
   ·have H := HV2.out
    rw [if_neg c3] at H
    simp only [Prod.mk.injEq] at H
    obtain ⟨rfl, rfl⟩ := H
    have c4 : (highH l0 j != wrap64 (lowH l0 j) / 9223372036854775808) = false := by simpa using c3
    clear HV2 c3
    go_wp2
    go_ret2
    exact ⟨rfl, by repeat (first | exact Drawn0.refl _ | apply Drawn0.step)⟩
  | succ gk =>
   have c1 : decide ((j : Int) < (l0.length : Int)) = true := decide_eq_true (by have := HJ.out; omega)
   have c2 : decide (j < l0.length) = true := decide_eq_true (by have := HJ.out; omega)
   obtain ⟨ad, e220, hx220⟩ := Kd.at_int HR0.out (j : Int) (by omega) (by have := HJ.out; omega)
   cases e220
   have hx : w.cell? (ad.add j) = some (.int .i64 (rd l0 (j : Int))) := by simpa using hx220
   clear hx220
   have p1 := eq_true (show (0 : Int) ≤ (j : Int) by omega)
   have p2 := eq_true (show (j : Int) < (l0.length : Int) by have := HJ.out; omega)
   have HS := am_ (high_step HK.out j (by have := HJ.out; omega))
   have HT := am_ (low_step (l := l0) j (by have := HJ.out; omega))
   have hl1 := (low_bd l0 j).1
   have hl2 : 0 ≤ IntKind.u64.wrap (rd l0 (j : Int)) := by rw [wu64]; omega
   have LB := am_ hl1
   go_wp2_with (simp only [add64_run _ _ hl1 hl2])
   go_roundg gk
   case measure => omega
   case rel => exact ⟨j + 1, congrArg (Value.int .i64) HS.out, congrArg (Value.int .u64) HT.out, congrArg (Value.int .i64) (by have := HJ.out; have := HLEN.out; rw [w64_id (by omega) (by omega)]; rfl), ⟨by have := HJ.out; omega⟩, by repeat (first | exact Drawn0.refl _ | apply Drawn0.step)⟩
def api_Move_76.l0 : Nat → List (S85) → List Int → List Int → Int → Int → Option (Int × Bool)
 | 0, _, _, _, _, _ => none
 | k + 1, x0, x8, x14, x15, x16 => if x16 < x15 then (if 0 ≤ x16 then (if x16 < (x14.length : Int) then (if 0 ≤ (rd x14 x16) then (if (rd x14 x16) < (x0.length : Int) then ((table_Moves_2.f ((rd_T85 x0 (rd x14 x16)).f0) ((rd_T85 x0 (rd x14 x16)).f1) ((rd_T85 x0 (rd x14 x16)).f2)).bind fun t135 => (if x16 < (x8.length : Int) then (api_Move_76.l0 k x0 (x8.set (x16 : Int).toNat t135) x14 x15 (wrap64 (x16 + 1))) else (none))) else (none)) else (none)) else (none)) else (none)) else ((checked_Sum.f x8).bind fun bt137 => (some (bt137.1, bt137.2)))
def api_Move_76.f (k : Nat) (l0 : List (S85)) (l1 : List Int)  : Option (Int × Bool) := if 0 ≤ (l1.length : Int) then (if ((l1.length : Int) : Int).toNat ≤ 35184372088832 then (api_Move_76.l0 k l0 (List.replicate ((l1.length : Int) : Int).toNat 0) l1 (l1.length : Int) 0) else (none)) else (none)
set_option maxHeartbeats 8000000 in
set_option maxRecDepth 100000 in
theorem api_Move_76.calls (k : Nat) (A0 : Option Addr) (c0 : Nat) (l0 : List (S85)) (A1 : Option Addr) (c1 : Nat) (l1 : List Int)  (r1 : Int) (r2 : Bool) (w : World) (hr0 : Kd.C k85 w A0 l0.length l0) (hc0 : l0.length ≤ c0) (hr1 : Kd.C (Kd.int .i64) w A1 l1.length l1) (hc1 : l1.length ≤ c1) (h : api_Move_76.f k l0 l1 = some (r1, r2)) :
  Calls Try.prog 76 #[.slice A0 l0.length c0, .slice A1 l1.length c1, .func (.func 77) #[] #[]] w fun e w' => e = .returned (.tuple #[.int .i64 r1, .bool r2]) ∧ Below w.heap.size w w' := by
 have hu85 := Try.underlying85; have HR0 := am_ hr0; have HC0 := am_ hc0; clear hr0 hc0; have HR1 := am_ hr1; have HC1 := am_ hc1; clear hr1 hc1; have HB := am_ (Below.refl w.heap.size w); have H : (if 0 ≤ (l1.length : Int) then (if ((l1.length : Int) : Int).toNat ≤ 35184372088832 then (api_Move_76.l0 k l0 (List.replicate ((l1.length : Int) : Int).toNat 0) l1 (l1.length : Int) 0) else (none)) else (none)) = some (r1, r2) := h; clear h
 replace H := ifn_ H; obtain ⟨c4, H⟩ := H
 have c4b0 := eq_true c4; have c4b1 := decide_eq_true c4; clear c4
 replace H := ifn_ H; obtain ⟨c5, H⟩ := H
 have c5b0 := eq_true c5; have c5b1 := decide_eq_true c5; clear c5; obtain ⟨y130, hy_⟩ : ∃ y_ : List Int, y_ = (List.replicate ((l1.length : Int) : Int).toNat 0) := ⟨_, rfl⟩
 replace H : (api_Move_76.l0 k l0 y130 l1 (l1.length : Int) 0) = some (r1, r2) := hyH_
 have Ny130 := am_ hy_; clear hy_; have H' := am_ H; clear H
 go_enter Try.func76, Try.ntmps76
 go_wp2_with (first | ((with_reducible refine gate_dst (N := 13) rfl ?_); refine Kd.R_make (Kd.int .i64) _ 3 rfl (N := 13) rfl 42 _ _ rfl (l1.length : Int) rfl rfl Try.underlying42 (.int .i64 0) 8 info3 rfl (by decide) (by omega) 0 (ok := fun _ => True) (okp := fun _ => True) rfl (fun _ hk => hk) trivial (of_decide_eq_true sm_) (Nat.le_trans (Nat.mul_le_mul_right _ (of_decide_eq_true sm_ : (l1.length : Int).toNat ≤ 35184372088832)) (by omega)) (Below.refl _ _) (Nat.le_refl _) ?_; intro v131 w6 ho7 hb hg_ hnew_; clear hg_ hnew_; (first | rw [← Ny130.out] at ho7 | (simp only [Int.reduceToNat] at ho7; rw [← Ny130.out] at ho7)); have HO132 := am_ (Kd.R_lower ho7 (below_size hb_)); replace HB := hst_ hb; clear hb ho7))
 go_loopg [16] k (fun kq v16 w' => ∃ (x8_1 : List Int) (x16_1 : Int), v16 = .int .i64 x16_1 ∧ Aside0 (api_Move_76.l0 kq l0 x8_1 l1 (l1.length : Int) x16_1 = some (r1, r2)) ∧ Aside0 (kq ≤ k) ∧ Aside0 (Kd.R (Kd.int .i64) 3 w' w.heap.size (fun _ => True) v131 x8_1) ∧ Aside0 (Below w.heap.size w w'))
 case atStart => exact ⟨(y130), (0), rs_, H', ⟨Nat.le_refl _⟩, ⟨rq_ HO132.out⟩, ⟨hb_⟩⟩
 case round =>
  clear H'
  try clear c1
  try clear p2
  try clear c4
  try clear c4b0
  try clear c4b1
  try clear c5
  try clear c5b0
  try clear c5b1
  try clear c7
  obtain ⟨x8_1, x16_1, rfl, HA, HK1, HO_8, HB⟩ := hrel
  cases gk with
  | zero => exact absurd HA.out (by simp [api_Move_76.l0])
  | succ k1 =>
   have H := HA.out; clear HA; simp only [api_Move_76.l0] at H
   by_cases c8 : x16_1 < (l1.length : Int)
   ·rw [if_pos c8] at H
    have c8b0 := decide_eq_true c8; clear c8
    replace H := ifn_ H; obtain ⟨c9, H⟩ := H
    have c9b0 := decide_eq_true c9; clear c9
    replace H := ifn_ H; obtain ⟨c10, H⟩ := H
    have c10b0 := decide_eq_true c10; clear c10
    replace H := ifn_ H; obtain ⟨c11, H⟩ := H
    have c11b0 := decide_eq_true c11; clear c11
    replace H := ifn_ H; obtain ⟨c12, H⟩ := H
    have c12b0 := decide_eq_true c12; clear c12; replace H := Option.bind_eq_some_iff.mp H; obtain ⟨t135, A130, H⟩ := H; replace H : (if x16_1 < (x8_1.length : Int) then (api_Move_76.l0 k1 l0 (x8_1.set (x16_1 : Int).toNat t135) l1 (l1.length : Int) (wrap64 (x16_1 + 1))) else (none)) = some (r1, r2) := H; have A13 := am_ A130; clear A130
    replace H := ifn_ H; obtain ⟨c14, H⟩ := H
    have c14b0 := decide_eq_true c14; clear c14; obtain ⟨y136, hy_⟩ : ∃ y_ : List Int, y_ = (x8_1.set (x16_1 : Int).toNat t135) := ⟨_, rfl⟩
    replace H : (api_Move_76.l0 k1 l0 y136 l1 (l1.length : Int) (wrap64 (x16_1 + 1))) = some (r1, r2) := hyH_
    have Ny136 := am_ hy_; clear hy_; have H' := am_ H; clear H; have p133 := od_ (p := 0 ≤ (x16_1 : Int)); have q133 := od_ (p := x16_1 < (l1.length : Int)); obtain ⟨ad133, e133, hx133_0⟩ := tr1_ HB.out (Kd.at_int HR1.out x16_1 p133 q133); cases e133; replace p133 := eq_true p133; replace q133 := eq_true q133; have p134 := od_ (p := 0 ≤ ((rd l1 x16_1) : Int)); have q134 := od_ (p := (rd l1 x16_1) < (l0.length : Int)); obtain ⟨ad134, e134, hx134_0, hx134_1, hx134_2⟩ := tr3_ HB.out (at_T85 HR0.out (rd l1 x16_1) p134 q134); cases e134; replace p134 := eq_true p134; replace q134 := eq_true q134
    go_wp2_with (first | ((with_reducible refine gate_calleev (t := 23) rfl ?_); refine goesV_ (some 28) rfl rfl Try.func77 (by kernel_rfl) rfl #[.agg #[.int .i64 ((rd_T85 l0 (rd l1 x16_1)).f0), .int .i64 ((rd_T85 l0 (rd l1 x16_1)).f1), .int .i64 ((rd_T85 l0 (rd l1 x16_1)).f2)]] rfl rfl mt_ ?_; (with_reducible refine (table_Moves_2.calls ((rd_T85 l0 (rd l1 x16_1)).f0) ((rd_T85 l0 (rd l1 x16_1)).f1) ((rd_T85 l0 (rd l1 x16_1)).f2) t135 _ A13.out).mono ?_); rintro e w16 ⟨rfl, hb⟩; refine ⟨_, rfl, ?_⟩; replace HO_8 := am_ (Kd.R_below (rq_ HO_8.out) hb); replace HB := hst_ hb; (try clear hb); (try clear hb2); (try clear hk); (try clear hi); have p15 : 0 ≤ (x16_1 : Int) := of_decide_eq_true sm_; have q15 : (x16_1 : Int) < ((x8_1.length : Int) : Int) := of_decide_eq_true sm_; obtain ⟨go15, co15, eo15, gb15, gl15, cl15, HG15⟩ := Kd.R_form HO_8.out (by omega); (first | cases eo15 | (injection eo15 with ea_ en_ ec_; (first | subst ea_ | (injection ea_ with ea_; subst ea_)); subst ec_; clear en_)); have GB15 := am_ gb15; have GG15 := am_ HG15; clear gb15 gl15 HG15; obtain ⟨hx15_0, hf15_0⟩ := Kd.R_celln 0 HO_8.out (x16_1 : Int) p15 q15; replace p15 := eq_true p15; replace q15 := eq_true q15; obtain ⟨hy17_, hz17_⟩ := Kd.R_celln 0 HO_8.out (x16_1 : Int) (of_decide_eq_true sm_) (of_decide_eq_true sm_); have HP17 := Kd.R_putg HO_8.out (x16_1 : Int) t135) | ((with_reducible refine gate_store (t := 3) (p := 29) rfl ?_); refine store_event (t := 3) (p := 29) (v := ?vo_w18) (w1 := (w16.setCell ⟨go15, (x16_1 : Int).toNat, none⟩ (.int .i64 t135))) ?hg ?ho ?hn ?hr ?_; (case ho => rfl); (case hg => rfl); (case hn => rfl); (case hr => first | (go_simp; done) | (go_simp; rfl)); intro w18 hw; have hg : w16.grownBy w18 (some go15) := (by rw [hw]; exact HP17.2); have hp_ : Kd.R (Kd.int .i64) 3 w18 w.heap.size (fun _ => True) (.slice (some ⟨go15, 0, none⟩) x8_1.length co15) y136 := (by rw [hw, Ny136.out]; exact HP17.1); clear HP17; replace HO_8 := am_ (hp_); replace HB := am_ ((by rw [hw]; exact below_set (HB.out) GB15.out : Below w.heap.size w w18)); clear hg hw hp_))
    go_roundg k1
    case measure => have := HK1.out; omega
    case rel => exact ⟨(y136), (wrap64 (x16_1 + 1)), rs_, H', ⟨by have := HK1.out; omega⟩, ⟨rq_ HO_8.out⟩, ⟨hb_⟩⟩
   ·rw [if_neg c8] at H
    have c8b0 := decide_eq_false c8; clear c8; replace H := Option.bind_eq_some_iff.mp H; obtain ⟨⟨t137, t138⟩, A190, H⟩ := H; replace H : (some (t137, t138)) = some (r1, r2) := H; have A19 := am_ A190; clear A190; simp only [Option.some.injEq, Prod.mk.injEq] at H; obtain ⟨rfl, rfl⟩ := H; obtain ⟨Ao20, co20, eo20⟩ := Kd.R_slice HO_8.out; subst eo20
    go_wp2_with (first | ((with_reducible refine gate_callee (f := 88) rfl ?_); refine goesL_ (some 32) rfl rfl Try.func88 (by kernel_rfl) rfl #[.slice Ao20 x8_1.length co20] rfl mt_ ?_; (with_reducible refine (checked_Sum.calls _ _ x8_1 t137 t138 _ ?side1 ?side2 A19.out).mono ?_); (case side1 => repeat (first | exact (Kd.R_reads' HO_8.out).2.2 | (with_reducible refine Kd.C_alloc ?_ _) | (with_reducible refine Kd.C_drewN ?_ _) | (with_reducible refine Kd.C_drew ?_))); (case side2 => exact (Kd.R_reads' HO_8.out).2.1); rintro e w' ⟨rfl, ⟨nd, rfl⟩⟩; refine ⟨_, rfl, ?_⟩))
    go_ret2
    exact ⟨er_, hb_⟩
end Go.Proofs.Ytfhkkbpkajfdlaa.Q
end
