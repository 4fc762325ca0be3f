/- A part of the proof: words, contracts, plain lemmas. Conditions: none. -/
import Derived.RangeFuncNested
import Derived.RangeFuncLeaves
import Derived.RangeFuncBox
import Derived.Shelf.Abstract
import Derived.OwnWalkIn
import Derived.TacticsInMore
import Derived.LoopNIn
import Derived.LoopIn
import Derived.Test.YtloebciamfbjfaaZPileOrders10
import Derived.Test.YtloebciamfbjfaaZPileOrders9
import Derived.Test.YtloebciamfbjfaaZPileOrders3
section
namespace Go.Proofs.Ytloebciamfbjfaa.Q
open Go.RowKit Go.Shelf Go.Proofs.YtloebciamfbjfaaW.PrintWords Go.Proofs.YtloebciamfbjfaaW.PrintLast Go.Proofs.YtloebciamfbjfaaW.PrintMore
set_option linter.unusedVariables false
set_option linter.unusedSimpArgs false
attribute [local go_sem] Oper.semAt_some
def encP (x : S34) : Array Value := #[.agg #[.int .i64 x.f0, .int .i64 x.f1]]
set_option maxRecDepth 100000 in
set_option maxHeartbeats 4000000 in
theorem values1_in (F : Fence) (n : Nat) (h39 : F.fn 39) (hro : F.round = none) (hn : 1 ≤ n) (l Bs : Nat) (w0 : World) (ad : Addr) (cap : Nat) (zs : List S34) (hC : Kd.C k34 w0 (some ad) zs.length zs) (hm : zs.length ≤ 1000) (J Jx : List S34 → World → Prop)
    (hY : ∀ pre x W, J pre W → pre.length < zs.length → YieldAt F (n - 1) Try.prog l (encP x) W fun e W' =>
      (e = .returned (.bool true) ∧ J (pre ++ [x]) W' ∧ Below w0.heap.size W W') ∨ (e = .returned (.bool false) ∧ Jx (pre ++ [x]) W'))
    (W : World) (hW : Below w0.heap.size w0 W) (hJ : AbidesFrom W.heap.size J) (hBs : W.cell? ⟨Bs, 0, none⟩ = some (.slice (some ad) zs.length cap)) (h0 : J [] W) :
    CallsIn F n Try.prog 39 #[.func (.yield l) #[] #[], .pointer (some ⟨Bs, 0, none⟩)] W fun e W' => (∃ v, e = .returned v) ∧
      ((∃ ys, ys = zs ∧ J ys W') ∨ (∃ pre, pre <+: zs ∧ Jx pre W')) := by
  have hu34 := Try.underlying34
  refine callsIn_of_wp Try.func39 rfl h39 ?_ hro
  simp only [Try.ntmps39, List.size_toArray, List.length_cons, List.length_nil, Nat.reduceAdd, Nat.reduceSub, Array.replicate_succ, Array.replicate_zero, List.push_toArray, List.append_toArray, List.nil_append, List.cons_append]
  gi_wp2
  gi_loopw [7] (fun i wr => ∃ k : Nat, k ≤ zs.length ∧ i = .int .i64 k ∧ J (zs.take k) wr ∧ Below w0.heap.size w0 wr)
    (fun i _ => zs.length - (intOf i).toNat)
  case atStart => exact ⟨0, Nat.zero_le _, rfl, by simpa using h0, hW⟩
  case round =>
    obtain ⟨k, hk, rfl, hJs, hnx⟩ := hrel
    by_cases hlt : k < zs.length
    · have hC1 := Kd.C_below hC hnx
      obtain ⟨ad', ea, hx0, hx1⟩ := at_T34 hC1 (k : Int) (by omega) (by omega)
      cases ea
      simp only [Int.toNat_natCast] at hx0 hx1
      have hrd : rd_T34 zs (k : Int) = zs[k] := by unfold rd_T34; rw [Int.toNat_natCast, List.getD_eq_getElem?_getD, List.getElem?_eq_getElem hlt]; rfl
      rw [hrd] at hx0 hx1
      have hJ2 : J (zs.take k) (wr.alloc (.cells #[.int .i64 zs[k].f0, .int .i64 zs[k].f1] 34)) := hJ _ wr _ none hJs (World.grownBy_alloc wr _ none) (fun r e => by cases e)
      have hB2 : Below w0.heap.size wr (wr.alloc (.cells #[.int .i64 zs[k].f0, .int .i64 zs[k].f1] 34)) := (Below.refl _ wr).alloc hnx.size _
      have htk : zs.take (k + 1) = zs.take k ++ [zs[k]] := by rw [List.take_add_one, List.getElem?_eq_getElem hlt]; rfl
      obtain ⟨fn, tmps, assign, body, hy, hR⟩ := hY _ zs[k] _ hJ2 (by rw [List.length_take]; omega)
      unfold encP at hy
      gi_wp2
      refine hR.mono ?_
      rintro e W3 (⟨rfl, hJ3, hk3⟩ | ⟨rfl, hJx3⟩)
      · gi_wp2
        go_roundw
        case rel => exact ⟨k + 1, by omega, by simp, by rw [htk]; exact hJ3, (hnx.trans hB2).trans hk3⟩
        case measure => simp [intOf]; omega
      · gi_wp2
        refine bodyPost_ret (results_none rfl _ _ _) rfl ?_
        exact ⟨⟨_, rfl⟩, .inr ⟨_, by rw [← htk]; exact List.take_prefix _ _, hJx3⟩⟩
    · obtain rfl : k = zs.length := by omega
      gi_wp2
      go_end0
      exact ⟨⟨_, rfl⟩, .inl ⟨_, by simp, hJs⟩⟩
set_option maxRecDepth 100000 in
set_option maxHeartbeats 1000000 in
theorem values1_nil_in (F : Fence) (n : Nat) (h39 : F.fn 39) (hro : F.round = none) (l Bs cap : Nat) (A : Option Addr) (J : List S34 → World → Prop) (W : World) (hBs : W.cell? ⟨Bs, 0, none⟩ = some (.slice A 0 cap)) (h0 : J [] W) :
    CallsIn F n Try.prog 39 #[.func (.yield l) #[] #[], .pointer (some ⟨Bs, 0, none⟩)] W fun e W' => (∃ v, e = .returned v) ∧ J [] W' := by
  refine callsIn_of_wp Try.func39 rfl h39 ?_ hro
  simp only [Try.ntmps39, List.size_toArray, List.length_cons, List.length_nil, Nat.reduceAdd, Nat.reduceSub, Array.replicate_succ, Array.replicate_zero, List.push_toArray, List.append_toArray, List.nil_append, List.cons_append]
  gi_wp2
  gi_loopw [7] (fun i wr => i = .int .i64 0 ∧ J [] wr) (fun _ _ => 0)
  case atStart => exact ⟨rfl, h0⟩
  case round =>
    obtain ⟨rfl, hJs⟩ := hrel
    gi_wp2
    go_end0
    exact ⟨⟨_, rfl⟩, hJs⟩
set_option maxHeartbeats 1000000 in
theorem values_in (F : Fence) (n : Nat) (h34 : F.fn 34) (hro : F.round = none) (a : Option Addr) (len cap : Nat) (w : World) :
    CallsIn F n Try.prog 34 #[.slice a len cap] w fun e w' => e = .returned (.func (.func 39) #[] #[.pointer (some ⟨w.heap.size, 0, none⟩)]) ∧ w' = w.alloc (.cells #[.slice a len cap] 38) := by
  refine callsIn_of_wp Try.func34 rfl h34 ?_ hro
  simp only [Try.ntmps34, List.size_toArray, List.length_cons, List.length_nil, Nat.reduceAdd, Nat.reduceSub, Array.replicate_succ, Array.replicate_zero, List.push_toArray, List.append_toArray, List.nil_append, List.cons_append]
  gi_wp2
  go_ret
  exact ⟨rfl, rfl⟩
theorem values_stops (F : Fence) (n : Nat) (h39 : F.fn 39) (hro : F.round = none) (hn : 1 ≤ n) (Bs : Nat) (w0 : World) (A : Option Addr) (cap : Nat) (zs : List S34) (hC : Kd.C k34 w0 A zs.length zs) (hm : zs.length ≤ 1000) (w : World) (hBs : Bs < w.heap.size) (hB : Below w0.heap.size w0 w)
    (hc : w.cell? ⟨Bs, 0, none⟩ = some (.slice A zs.length cap)) :
    SeqStopsK F n Try.prog 39 #[.pointer (some ⟨Bs, 0, none⟩)] encP (Below w0.heap.size) (fun ys => ys = zs) (fun pre => pre <+: zs) zs.length w := fun l J Jx W hW hJ _ hY h0 => by
  have hc' := (hW.cell (p := ⟨Bs, 0, none⟩) hBs).trans hc
  have hB' : Below w0.heap.size w0 W := hB.trans (hW.mono hB.size)
  by_cases h : zs.length = 0
  · obtain rfl : zs = [] := List.eq_nil_of_length_eq_zero h
    exact (values1_nil_in F n h39 hro l Bs cap A J W hc' h0).mono fun e W' ⟨he, hj⟩ => ⟨he, .inl ⟨_, rfl, hj⟩⟩
  · obtain ⟨ad, ea, _⟩ := at_T34 hC 0 (by omega) (by omega)
    subst ea
    exact values1_in F n h39 hro hn l Bs w0 ad cap zs hC hm J Jx hY W hB' hJ hc' h0
theorem info34P : (Try.prog.info? 34).map (fun i => (i.zero, i.size, i.bytes)) = some (some (.agg #[.int .i64 0, .int .i64 0]), 2, 16) := by kernel_rfl
theorem cells_new (W : World) (t : TypeId) (cs : Array Value) : ∀ j u, cs.toList[j]? = some u → (W.alloc (.cells cs t)).cell? ((⟨W.heap.size, 0, none⟩ : Addr).add j) = some u := fun j u h => by
  rw [show (Addr.add ⟨W.heap.size, 0, none⟩ j) = ⟨W.heap.size, j, none⟩ from by unfold Addr.add; split <;> simp_all]
  exact (blk_cell (World.alloc_heap_new W _) j).trans (by rw [← Array.getElem?_toList]; exact h)
def cellsP (l : List S34) : List Value := l.flatMap fun x => [.int .i64 x.f0, .int .i64 x.f1]
theorem cellsP_snoc (l : List S34) (x : S34) : cellsP (l ++ [x]) = cellsP l ++ [.int .i64 x.f0, .int .i64 x.f1] := by simp [cellsP]
set_option maxRecDepth 100000 in
set_option maxHeartbeats 4000000 in
theorem appendSeq_in (F : Fence) (n : Nat) (h39 : F.fn 39) (h41 : F.fn 41) (hro : F.round = none) (hn : 2 ≤ n) (Bs : Nat) (w0 : World) (A : Option Addr) (cap : Nat) (zs : List S34) (hC : Kd.C k34 w0 A zs.length zs) (hm : zs.length ≤ 1000) (w : World) (hBs : Bs < w.heap.size) (hB : Below w0.heap.size w0 w)
    (hc : w.cell? ⟨Bs, 0, none⟩ = some (.slice A zs.length cap)) :
    CallsIn F n Try.prog 41 #[.slice none 0 0, .func (.func 39) #[] #[.pointer (some ⟨Bs, 0, none⟩)]] w fun e W' => ∃ v, e = .returned v ∧ W'.ownsRow w.heap.size 34 2 v zs.length (cellsP zs) ∧ Below w.heap.size w W' := by
  have h1 : 1 ≤ n := by omega
  obtain ⟨i0, hi, hz0, hz1, hz2⟩ := info_parts info34P
  have hu34 := Try.underlying34
  refine callsIn_of_wp_marks Try.func41 rfl h41 ?_ hro
  simp only [Try.ntmps41, List.size_toArray, List.length_cons, List.length_nil, Nat.reduceAdd, Nat.reduceSub, Array.replicate_succ, Array.replicate_zero, List.push_toArray, List.append_toArray, List.nil_append, List.cons_append]
  gi_wp2
  have bO := Boxed.new w 38 (.slice none 0 0)
  have hB0 : Below w.heap.size w (w.alloc (.cells #[.slice none 0 0] 38)) := (Below.refl _ w).alloc (Nat.le_refl _) _
  refine wpIn_rangeFunc_ownH hro h1 (gf := 39) (lb := #[.pointer (some ⟨Bs, 0, none⟩)]) rfl h39 (enters_of Try.func39 (by kernel_rfl) rfl)
    (values_stops F (n - 1) h39 hro (by omega) Bs w0 A cap zs hC hm (w.alloc (.cells #[.slice none 0 0] 38)) (by simp; omega) (hB.trans (hB0.mono hB.size)) ((hB0.cell (p := ⟨Bs, 0, none⟩) hBs).trans hc)) belowK_t (belowK_b (by have := hB.size; simp; omega)) (Below.refl _ _) (fun _ => rfl)
    (fun pre W => (∃ v, Boxed W w.heap.size 38 v ∧ W.ownsRow w.heap.size 34 2 v pre.length (cellsP pre) ∧ True) ∧ Below w.heap.size w W)
    (fun _ _ _ => False)
    (OwnFrom.and (Own.from (holdsRow_own w.heap.size w.heap.size 38 34 2 (fun pre => pre.length) (fun pre => cellsP pre) (fun _ _ => True)) _) (ownFrom_below (Nat.le_refl _) (by simp)))
    (fun _ _ _ _ _ hs _ _ => hs)
    ⟨⟨_, bO, World.ownsRow_nil _ _ _ _, trivial⟩, hB0⟩
    (fun x a' W => ∃ Bx, w.heap.size < Bx ∧ W.heap[Bx]? = some (.cells #[.int .i64 x.f0, .int .i64 x.f1] 34 (0, 0)) ∧ a' = { tmps := #[.slice none 0 0, .func (.func 39) #[] #[.pointer (some ⟨Bs, 0, none⟩)], .pointer (some ⟨w.heap.size, 0, none⟩), undef, .slice none 0 0, .pointer (some ⟨Bx, 0, none⟩), .func (.func 39) #[] #[.pointer (some ⟨Bs, 0, none⟩)], .agg #[.int .i64 x.f0, .int .i64 x.f1], undef, undef, undef, undef, undef], defers := [] })
    (fun x a' _ X Y row hs hg hr => by
      obtain ⟨Bx, h1, h2, h3⟩ := hs
      refine ⟨Bx, h1, (hg.block Bx (Array.getElem?_eq_some_iff.1 h2).1 (fun e => ?_)).trans h2, h3⟩
      obtain ⟨_, o, ho, hcl⟩ := hr Bx e.symm
      rw [h2] at ho; cases ho; cases hcl)
    ?assign ?body ?done ?stop
  case assign =>
    rintro l pre x W K ⟨⟨v, hv, hrow, _⟩, hB1⟩ hK
    unfold encP
    gi_wp2
    have hs := hB1.size
    exact hK _ _ ((KeepsOthers.alloc _ _).from _) ((Below.refl _ W).alloc (by have := hB.size; omega) _) ⟨⟨v, hv.alloc _, hrow.alloc _, trivial⟩, hB1.alloc hs _⟩ ⟨W.heap.size, hv.lt, World.alloc_heap_new W _, rfl⟩
  case body =>
    rintro l pre x a' W _ _ ⟨⟨v, hv, hrow, _⟩, hB1⟩ ⟨Bx, hBx, bX, rfl⟩ hlt
    have hcv := hv.cell
    have hx0 : W.cell? ⟨Bx, 0, none⟩ = some (.int .i64 x.f0) := blk_cell bX 0
    have hx1 : W.cell? ⟨Bx, 1, none⟩ = some (.int .i64 x.f1) := blk_cell bX 1
    gi_wp2_with (gi_at_builtin; refine wpListIn_append_own _ rfl _ _ 38 rfl w.heap.size 34 i0 (.agg #[.int .i64 0, .int .i64 0]) 2 16 Try.underlying38 hi hz0 hz1 hz2 rfl (by decide) _ _ _ rfl (hrow.alloc _) ⟨W.heap.size, 0, none⟩ 1 1 [.int .i64 x.f0, .int .i64 x.f1] rfl rfl (cells_new _ 34 #[.int .i64 x.f0, .int .i64 x.f1]) (by intro u hu; simp only [List.mem_cons, List.not_mem_nil, or_false] at hu; rcases hu with rfl | rfl <;> rfl) (by unfold maxLen; omega) (by omega) (by have := hB1.size; simp; omega) ?_; intro v' w1 hown' hgrow _; obtain ⟨g', cap', rfl⟩ := ownsRow_succ hown'; obtain ⟨hv1, hv2, hr2, hk2, hb2⟩ := hv.appended (by decide) hrow hB1.size (Nat.le_refl _) hown' hgrow; have hc1 := hv1.cell; have hf1 := hv1.frozen)
    exact ⟨hk2.from _, hb2.mono hB.size, ⟨⟨_, hv2, by rw [cellsP_snoc]; simpa using hr2, trivial⟩, hB1.trans hb2⟩⟩
  case done =>
    rintro D ys W hD rfl ⟨⟨v, hv, hrow, _⟩, hB⟩ hK
    have hc := hv.cell
    gi_wp2
    refine ⟨by simp, .inl ⟨_, _, rfl, run_takeDeferred hK, ?_⟩⟩
    exact ⟨_, results_tmp rfl _ _ _, v, rfl, ownsRow_putObj hrow _ hK rfl, hB.trans (belowK_b (w := w) (Nat.le_refl _) W D _ _ (by simp at hD; omega) hK rfl rfl)⟩
  case stop =>
    rintro D c pre W _ _ h _
    exact h.elim
theorem cellsP_length (l : List S34) : (cellsP l).length = l.length * 2 := by
  induction l with
  | nil => rfl
  | cons x l ih => simp only [cellsP, List.flatMap_cons, List.length_append, List.length_cons, List.length_nil] at *; omega
theorem cellsP_at : ∀ (l : List S34) (j : Nat) (p : S34), l[j]? = some p → ((cellsP l).drop (j * 2)).take 2 = [.int .i64 p.f0, .int .i64 p.f1]
  | [], j, p, h => by simp at h
  | x :: l, 0, p, h => by
    obtain rfl : x = p := by simpa using h
    rfl
  | x :: l, j + 1, p, h => by
    rw [show (j + 1) * 2 = j * 2 + 1 + 1 by omega]
    exact cellsP_at l j p (by simpa using h)
theorem cellsP_R {W : World} {base : Nat} {v : Value} {zs : List S34} (h : W.ownsRow base 34 2 v zs.length (cellsP zs)) : Kd.R k34 34 W base (fun _ => True) v zs :=
  ⟨fun _ _ => trivial, cellsP zs, h, cellsP_length zs, fun j p hp => by rw [show k34.sz = 2 from rfl, cellsP_at zs j p hp]; exact k34_mkM _ _ _ _⟩
set_option maxHeartbeats 4000000 in
set_option maxRecDepth 100000 in
theorem collect_calls (Bs : Nat) (w0 : World) (A : Option Addr) (cap : Nat) (zs : List S34) (hC : Kd.C k34 w0 A zs.length zs) (hm : zs.length ≤ 1000) (w : World) (hBs : Bs < w.heap.size) (hB : Below w0.heap.size w0 w)
    (hc : w.cell? ⟨Bs, 0, none⟩ = some (.slice A zs.length cap)) :
    Calls Try.prog 37 #[.func (.func 39) #[] #[.pointer (some ⟨Bs, 0, none⟩)]] w fun e W' => ∃ v, e = .returned v ∧ Kd.R k34 34 W' w.heap.size (fun _ => True) v zs ∧ Below w.heap.size w W' := by
  have hA := callsIn_wide.1 (appendSeq_in Fence.wide 10 (by simp [Fence.wide]) (by simp [Fence.wide]) rfl (by omega) Bs w0 A cap zs hC hm w hBs hB hc)
  go_enter Try.func37, Try.ntmps37
  go_wp2_with (go_at_call 41; refine hA.mono ?_; rintro e w' ⟨v, rfl, hr, hb⟩)
  go_ret
  exact ⟨v, rfl, cellsP_R hr, hb⟩
set_option maxHeartbeats 4000000 in
set_option maxRecDepth 100000 in
theorem sortedFunc_calls (Bs : Nat) (w0 : World) (A : Option Addr) (cap : Nat) (zs : List S34) (hC : Kd.C k34 w0 A zs.length zs) (hm : zs.length ≤ 1000) (w : World) (hBs : Bs < w.heap.size) (hB : Below w0.heap.size w0 w)
    (hc : w.cell? ⟨Bs, 0, none⟩ = some (.slice A zs.length cap)) :
    Calls Try.prog 33 #[.func (.func 39) #[] #[.pointer (some ⟨Bs, 0, none⟩)], .func (.func 29) #[] #[]] w fun e W' => ∃ v, e = .returned v ∧ Kd.R k34 34 W' w.heap.size (fun _ => True) v (srtL cfPair zs) ∧ Below w.heap.size w W' := by
  have hA := collect_calls Bs w0 A cap zs hC hm w hBs hB hc
  have hS := fun (v : Value) (w' : World) (hb : Below w.heap.size w w') (hr : Kd.R k34 34 w' w.heap.size (fun _ => True) v zs) => api_Pair_38.calls (fun _ => True) v zs (srtL cfPair zs) w w' hb hr (by unfold api_Pair_38.f; rw [if_pos (by omega)])
  go_enter Try.func33, Try.ntmps33
  go_wp2_with (first | (go_at_call 37; refine hA.mono ?_; rintro e w' ⟨v, rfl, hr, hb⟩; obtain ⟨A1, c1, rfl⟩ := Kd.R_slice hr) | (go_at_call 38; refine (hS _ _ hb hr).mono ?_; rintro e w2 ⟨rfl, hr2, hb2, _⟩))
  go_ret
  exact ⟨_, rfl, Kd.R_mono hr2 (fun _ _ => trivial), hb2⟩
set_option maxHeartbeats 4000000 in
set_option maxRecDepth 100000 in
theorem pile_Sorted.calls (A : Option Addr) (cap : Nat) (zs : List S34) (w : World) (hC : Kd.C k34 w A zs.length zs) (hm : zs.length ≤ 1000) :
    Calls Try.prog 26 #[.slice A zs.length cap] w fun e W' => ∃ v, e = .returned v ∧ Kd.R k34 34 W' w.heap.size (fun _ => True) v (srtL cfPair zs) ∧ Below w.heap.size w W' := by
  have hV := callsIn_wide.1 (values_in Fence.wide 10 (by simp [Fence.wide]) rfl A zs.length cap w)
  have hb0 : Below w.heap.size w (w.alloc (.cells #[.slice A zs.length cap] 38)) := (Below.refl _ w).alloc (Nat.le_refl _) _
  have hA := sortedFunc_calls w.heap.size w A cap zs hC hm (w.alloc (.cells #[.slice A zs.length cap] 38)) (by simp) hb0 (Boxed.new w 38 _).cell
  go_enter Try.func26, Try.ntmps26
  go_wp2_with (first | (go_at_call 34; refine hV.mono ?_; rintro e w' ⟨rfl, rfl⟩) | (go_at_call 33; refine hA.mono ?_; rintro e w2 ⟨v, rfl, hr2, hb2⟩))
  go_ret
  exact ⟨_, rfl, Kd.R_lower hr2 (by simp), hb0.trans (hb2.mono (by simp))⟩
end Go.Proofs.Ytloebciamfbjfaa.Q
end
section
namespace Go.Proofs.Ytloebciamfbjfaa.Q
open Go.RowKit Go.Proofs.Ytloebciamfbjfaa.P Go.Proofs.YtloebciamfbjfaaW.PrintWords Go.Proofs.YtloebciamfbjfaaW.PrintLast Go.Proofs.YtloebciamfbjfaaW.PrintMore
set_option linter.unusedVariables false
set_option linter.unusedSimpArgs false
def insL (x : S34) : List S34 → List S34
  | [] => [x]
  | y :: s => if plt (pr y) (pr x) then y :: insL x s else x :: y :: s
theorem insL_pr (x : S34) : ∀ s, (insL x s).map pr = ins (pr x) (s.map pr)
  | [] => rfl
  | y :: s => by
    unfold insL
    rw [List.map_cons]
    unfold ins
    by_cases c : plt (pr y) (pr x)
    · rw [if_pos c, if_pos c, List.map_cons, insL_pr x s]
    · rw [if_neg c, if_neg c]; rfl
theorem insL_length (x : S34) : ∀ s, (insL x s).length = s.length + 1
  | [] => rfl
  | y :: s => by
    unfold insL
    split
    · rw [List.length_cons, insL_length x s, List.length_cons]
    · rfl
end Go.Proofs.Ytloebciamfbjfaa.Q
end
section
namespace Go.Proofs.Ytloebciamfbjfaa.Q
open Go.RowKit Go.Proofs.YtloebciamfbjfaaW.PrintWords Go.Proofs.YtloebciamfbjfaaW.PrintLast Go.Proofs.YtloebciamfbjfaaW.PrintMore
set_option linter.unusedVariables false
set_option linter.unusedSimpArgs false
theorem eqA34 (d : Nat) (w : World) (x0 y0 : Int) (x1 y1 : Int) :
  (Op.equalIn (d + 2) 34 (.agg #[.int .i64 x0, .int .i64 x1]) (.agg #[.int .i64 y0, .int .i64 y1])).run Try.prog w = .ok (x0 == y0 && (x1 == y1)) w := by
 refine eqA_of Try.underlying34 (by kernel_rfl) ?_; refine eqf_cons (by rfl) (by go_simp; rfl) (by go_simp; rfl) (by go_simp) ?_; exact eqf_last (by rfl) (by go_simp; rfl) (by go_simp; rfl) (by go_simp)
attribute [local go_sem high] eqA34
def ebbtideref02_Same.l0 : Nat → List (S34) → List (S34) → Int → Option (Bool)
 | 0, _, _, _ => none
 | k + 1, x0, x1, x5 => if x5 < (x0.length : Int) then (if 0 ≤ x5 then (if x5 < (x1.length : Int) then (if (!(((rd_T34 x0 x5).f0) == ((rd_T34 x1 x5).f0)) || (!(((rd_T34 x0 x5).f1) == ((rd_T34 x1 x5).f1)))) = true then (some false) else (ebbtideref02_Same.l0 k x0 x1 (wrap64 (x5 + 1)))) else (none)) else (none)) else (some true)
def ebbtideref02_Same.f (k : Nat) (l0 : List (S34)) (l1 : List (S34)) : Option (Bool) := if (l0.length : Int) = (l1.length : Int) then (ebbtideref02_Same.l0 k l0 l1 0) else (some false)
set_option maxHeartbeats 8000000 in
set_option maxRecDepth 100000 in
theorem ebbtideref02_Same.calls (k : Nat) (A0 : Option Addr) (c0 : Nat) (l0 : List (S34)) (A1 : Option Addr) (c1 : Nat) (l1 : List (S34)) (r : Bool) (w : World) (hr0 : Kd.C k34 w A0 l0.length l0) (hc0 : l0.length ≤ c0) (hr1 : Kd.C k34 w A1 l1.length l1) (hc1 : l1.length ≤ c1) (h : ebbtideref02_Same.f k l0 l1 = some r) :
  Calls Try.prog 25 #[.slice A0 l0.length c0, .slice A1 l1.length c1] w fun e w' => e = .returned (.bool r) ∧ Drawn0 w w' := by
 have hu34 := Try.underlying34; have HR0 := Aside0.mk hr0; have HC0 := Aside0.mk hc0; clear hr0 hc0; have HR1 := Aside0.mk hr1; have HC1 := Aside0.mk hc1; clear hr1 hc1; have H : (if (l0.length : Int) = (l1.length : Int) then (ebbtideref02_Same.l0 k l0 l1 0) else (some false)) = some r := h; clear h
 by_cases c3 : (l0.length : Int) = (l1.length : Int)
 ·rw [if_pos c3] at H
  have c3b0 : ((l0.length : Int) == (l1.length : Int)) = true := beq_iff_eq.mpr c3; have c3b1 : ((l0.length : Int) != (l1.length : Int)) = false := bne_eq_false_iff_eq.mpr c3
  have c3b2 : (l0.length == l1.length) = true := by first | simpa using c3 | (simp at c3 ⊢; omega)
  clear c3; have H' := Aside0.mk H; clear H
  go_enter Try.func25, Try.ntmps25
  go_wp2
  repeat (go_quiet (fail); try go_wp2)
  go_loopg [5] k (fun kq v5 w' => ∃ (x5_1 : Int), v5 = .int .i64 x5_1 ∧ Aside0 (ebbtideref02_Same.l0 kq l0 l1 x5_1 = some r) ∧ Aside0 (kq ≤ k) ∧ Drawn0 w w')
  case atStart => exact ⟨(0), (by first | rfl | (simp; done) | (simp [*]; done)), H', ⟨Nat.le_refl _⟩, by repeat (first | exact Drawn0.refl _ | apply Drawn0.step)⟩
  case round =>
   clear H'
   try clear c1
   try clear c2
   try clear p2
   try clear c3
   try clear c3b0
   try clear c3b1
   try clear c3b2
   obtain ⟨x5_1, rfl, HA, HK1, ⟨m1, rfl⟩⟩ := hrel
   cases gk with
   | zero => exact absurd HA.out (by simp [ebbtideref02_Same.l0])
   | succ k1 =>
    have H := HA.out; clear HA; simp only [ebbtideref02_Same.l0] at H
    by_cases c4 : x5_1 < (l0.length : Int)
    ·rw [if_pos c4] at H
     have c4b0 : decide (x5_1 < (l0.length : Int)) = true := decide_eq_true c4; clear c4
     by_cases c5 : 0 ≤ x5_1
     ·rw [if_pos c5] at H
      have c5b0 : decide (0 ≤ x5_1) = true := decide_eq_true c5; clear c5
      by_cases c6 : x5_1 < (l1.length : Int)
      ·rw [if_pos c6] at H
       have c6b0 : decide (x5_1 < (l1.length : Int)) = true := decide_eq_true c6; clear c6
       by_cases c7 : (!(((rd_T34 l0 x5_1).f0) == ((rd_T34 l1 x5_1).f0)) || (!(((rd_T34 l0 x5_1).f1) == ((rd_T34 l1 x5_1).f1)))) = true
       ·rw [if_pos c7] at H
        have c7b0 : (!(((rd_T34 l0 x5_1).f0) == ((rd_T34 l1 x5_1).f0)) || (!(((rd_T34 l0 x5_1).f1) == ((rd_T34 l1 x5_1).f1)))) = true := c7; clear c7; obtain rfl := Option.some.inj H; have p114 : 0 ≤ (x5_1 : Int) := of_decide_eq_true (by first | (with_reducible assumption) | assumption); have q114 : x5_1 < (l0.length : Int) := of_decide_eq_true (by first | (with_reducible assumption) | assumption); obtain ⟨ad114, e114, hx114_0, hx114_1⟩ := at_T34 HR0.out x5_1 p114 q114; cases e114; replace p114 := eq_true p114; replace q114 := eq_true q114; have p115 : 0 ≤ (x5_1 : Int) := of_decide_eq_true (by first | (with_reducible assumption) | assumption); have q115 : x5_1 < (l1.length : Int) := of_decide_eq_true (by first | (with_reducible assumption) | assumption); obtain ⟨ad115, e115, hx115_0, hx115_1⟩ := at_T34 HR1.out x5_1 p115 q115; cases e115; replace p115 := eq_true p115; replace q115 := eq_true q115
        go_wp2
        repeat (go_quiet (fail); try go_wp2)
        go_ret
        exact ⟨by first | rfl | (simp; done) | (simp [*]; done), by repeat (first | exact Drawn0.refl _ | apply Drawn0.step)⟩
       ·rw [if_neg c7] at H
        have c7b0 : (!(((rd_T34 l0 x5_1).f0) == ((rd_T34 l1 x5_1).f0)) || (!(((rd_T34 l0 x5_1).f1) == ((rd_T34 l1 x5_1).f1)))) = false := by simpa using c7
        clear c7; have H' := Aside0.mk H; clear H; have p114 : 0 ≤ (x5_1 : Int) := of_decide_eq_true (by first | (with_reducible assumption) | assumption); have q114 : x5_1 < (l0.length : Int) := of_decide_eq_true (by first | (with_reducible assumption) | assumption); obtain ⟨ad114, e114, hx114_0, hx114_1⟩ := at_T34 HR0.out x5_1 p114 q114; cases e114; replace p114 := eq_true p114; replace q114 := eq_true q114; have p115 : 0 ≤ (x5_1 : Int) := of_decide_eq_true (by first | (with_reducible assumption) | assumption); have q115 : x5_1 < (l1.length : Int) := of_decide_eq_true (by first | (with_reducible assumption) | assumption); obtain ⟨ad115, e115, hx115_0, hx115_1⟩ := at_T34 HR1.out x5_1 p115 q115; cases e115; replace p115 := eq_true p115; replace q115 := eq_true q115
        go_wp2
        repeat (go_quiet (fail); try go_wp2)
        go_roundg k1
        case measure => have := HK1.out; omega
        case rel => exact ⟨(wrap64 (x5_1 + 1)), (by first | rfl | (simp; done) | (simp [*]; done)), H', ⟨by have := HK1.out; omega⟩, by repeat (first | exact Drawn0.refl _ | apply Drawn0.step)⟩
      ·rw [if_neg c6] at H
       exact absurd H (by simp)
     ·rw [if_neg c5] at H
      exact absurd H (by simp)
    ·rw [if_neg c4] at H
     have c4b0 : decide (x5_1 < (l0.length : Int)) = false := decide_eq_false c4; clear c4; obtain rfl := Option.some.inj H
     go_wp2
     repeat (go_quiet (fail); try go_wp2)
     go_ret
     exact ⟨by first | rfl | (simp; done) | (simp [*]; done), by repeat (first | exact Drawn0.refl _ | apply Drawn0.step)⟩
 ·rw [if_neg c3] at H
  have c3b0 : ((l0.length : Int) == (l1.length : Int)) = false := beq_eq_false_iff_ne.mpr c3; have c3b1 : ((l0.length : Int) != (l1.length : Int)) = true := bne_iff_ne.mpr c3
  have c3b2 : (l0.length == l1.length) = false := by first | simpa using c3 | (simp at c3 ⊢; omega)
  obtain rfl := Option.some.inj H
  go_enter Try.func25, Try.ntmps25
  go_wp2
  repeat (go_quiet (fail); try go_wp2)
  go_ret
  exact ⟨by first | rfl | (simp; done) | (simp [*]; done), by repeat (first | exact Drawn0.refl _ | apply Drawn0.step)⟩
end Go.Proofs.Ytloebciamfbjfaa.Q
end
section
namespace Go.Proofs.Ytloebciamfbjfaa.Q
open Go.RowKit Go.Proofs.Ytloebciamfbjfaa.P Go.Proofs.YtloebciamfbjfaaW.PrintWords Go.Proofs.YtloebciamfbjfaaW.PrintLast Go.Proofs.YtloebciamfbjfaaW.PrintMore
set_option linter.unusedVariables false
set_option linter.unusedSimpArgs false
def sortL (l : List S34) : List S34 := l.foldl (fun c x => insL x c) []
theorem sortL_snoc (l : List S34) (x : S34) : sortL (l ++ [x]) = insL x (sortL l) := by simp [sortL]
theorem foldIns_length : ∀ (l c : List S34), (l.foldl (fun c x => insL x c) c).length = l.length + c.length
  | [], c => by simp
  | x :: l, c => by rw [List.foldl_cons, foldIns_length l, insL_length, List.length_cons]; omega
theorem sortL_length (l : List S34) : (sortL l).length = l.length := foldIns_length l []
theorem pr_inj : ∀ {a b : List S34}, a.map pr = b.map pr → a = b
  | [], [], _ => rfl
  | [], _ :: _, h => by cases h
  | _ :: _, [], h => by cases h
  | ⟨a0, a1⟩ :: a, ⟨b0, b1⟩ :: b, h => by
    simp only [List.map_cons, List.cons.injEq, pr, Prod.mk.injEq] at h
    rw [pr_inj h.2, h.1.1, h.1.2]
theorem insL_perm (x : S34) : ∀ s, (insL x s).Perm (x :: s)
  | [] => List.Perm.refl _
  | y :: s => by
    rw [insL]
    split
    · exact ((insL_perm x s).cons y).trans (List.Perm.swap x y s)
    · exact List.Perm.refl _
theorem foldIns_perm : ∀ (l c : List S34), (l.foldl (fun c x => insL x c) c).Perm (l ++ c)
  | [], c => List.Perm.refl _
  | x :: l, c => by
    rw [List.foldl_cons]
    refine (foldIns_perm l (insL x c)).trans ?_
    refine ((insL_perm x c).append_left l).trans ?_
    exact List.perm_middle
theorem foldIns_sorted : ∀ (l c : List S34), Sorted2 (c.map pr) → Sorted2 ((l.foldl (fun c x => insL x c) c).map pr)
  | [], c, h => h
  | x :: l, c, h => by
    rw [List.foldl_cons]
    exact foldIns_sorted l _ (by rw [insL_pr]; exact ins_sorted _ _ h)
theorem srt_sortL (l : List S34) : srtL cfPair l = sortL l := by
  apply pr_inj
  refine sorted_unique ?_ (foldIns_sorted l [] sorted2_nil) ?_
  · unfold Sorted2
    rw [List.pairwise_map]
    refine (srtL_spec swoPair l).2.imp (fun {a b} h => ?_)
    rw [← Bool.not_eq_true, ltPair_eq] at h
    exact h
  · refine ((srtL_spec swoPair l).1.map pr).trans ?_
    have := (foldIns_perm l []).symm
    rw [List.append_nil] at this
    exact this.map pr
theorem same_loop (l : List S34) (hl : l.length ≤ 1000) (d : Nat) : ∀ (i : Nat), i + d = l.length → ebbtideref02_Same.l0 (d + 1) l l (i : Int) = some true := by
  induction d with
  | zero =>
    intro i hi
    rw [ebbtideref02_Same.l0, if_neg (by omega)]
  | succ d ih =>
    intro i hi
    have hw : wrap64 ((i : Int) + 1) = ((i + 1 : Nat) : Int) := wrapId (by omega) (by omega)
    rw [ebbtideref02_Same.l0, if_pos (by omega), if_pos (by omega), if_pos (by omega), if_neg (by simp), hw]
    exact ih (i + 1) (by omega)
theorem same_self (l : List S34) (hl : l.length ≤ 1000) : ebbtideref02_Same.f (l.length + 1) l l = some true := by
  unfold ebbtideref02_Same.f
  rw [if_pos rfl]
  exact same_loop l hl l.length 0 (by omega)
end Go.Proofs.Ytloebciamfbjfaa.Q
end
