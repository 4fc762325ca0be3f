/- A part of the proof: words, contracts, plain lemmas. Conditions: none. -/
import Derived.RangeFuncNested
import Derived.RangeFuncLeaves
import Derived.RangeFuncBox
import Derived.Shelf.Abstract
import Derived.OwnWalkIn
import Derived.TacticsInMore
import Derived.LoopNIn
import Derived.LoopIn
import Derived.Test.YtloebciamfbjfaaZPileSorts10
import Derived.Test.YtloebciamfbjfaaZPileSorts9
section
namespace Go.Proofs.Ytloebciamfbjfaa.Q
open Go.RowKit Go.Shelf Go.Proofs.YtloebciamfbjfaaW.PrintWords Go.Proofs.YtloebciamfbjfaaW.PrintLast Go.Proofs.YtloebciamfbjfaaW.PrintMore
set_option linter.unusedVariables false
set_option linter.unusedSimpArgs false
attribute [local go_sem] Oper.semAt_some
def encP (x : S34) : Array Value := #[.agg #[.int .i64 x.f0, .int .i64 x.f1]]
set_option maxRecDepth 100000 in
set_option maxHeartbeats 4000000 in
theorem values1_in (F : Fence) (n : Nat) (h39 : F.fn 39) (hro : F.round = none) (hn : 1 ≤ n) (l Bs : Nat) (w0 : World) (ad : Addr) (cap : Nat) (zs : List S34) (hC : Kd.C k34 w0 (some ad) zs.length zs) (hm : zs.length ≤ 1000) (J Jx : List S34 → World → Prop)
    (hY : ∀ pre x W, J pre W → pre.length < zs.length → YieldAt F (n - 1) Try.prog l (encP x) W fun e W' =>
      (e = .returned (.bool true) ∧ J (pre ++ [x]) W' ∧ Below w0.heap.size W W') ∨ (e = .returned (.bool false) ∧ Jx (pre ++ [x]) W'))
    (W : World) (hW : Below w0.heap.size w0 W) (hJ : AbidesFrom W.heap.size J) (hBs : W.cell? ⟨Bs, 0, none⟩ = some (.slice (some ad) zs.length cap)) (h0 : J [] W) :
    CallsIn F n Try.prog 39 #[.func (.yield l) #[] #[], .pointer (some ⟨Bs, 0, none⟩)] W fun e W' => (∃ v, e = .returned v) ∧
      ((∃ ys, ys = zs ∧ J ys W') ∨ (∃ pre, pre <+: zs ∧ Jx pre W')) := by
  have hu34 := Try.underlying34
  refine callsIn_of_wp Try.func39 rfl h39 ?_ hro
  simp only [Try.ntmps39, List.size_toArray, List.length_cons, List.length_nil, Nat.reduceAdd, Nat.reduceSub, Array.replicate_succ, Array.replicate_zero, List.push_toArray, List.append_toArray, List.nil_append, List.cons_append]
  gi_wp2
  gi_loopw [7] (fun i wr => ∃ k : Nat, k ≤ zs.length ∧ i = .int .i64 k ∧ J (zs.take k) wr ∧ Below w0.heap.size w0 wr)
    (fun i _ => zs.length - (intOf i).toNat)
  case atStart => exact ⟨0, Nat.zero_le _, rfl, by simpa using h0, hW⟩
  case round =>
    obtain ⟨k, hk, rfl, hJs, hnx⟩ := hrel
    by_cases hlt : k < zs.length
    · have hC1 := Kd.C_below hC hnx
      obtain ⟨ad', ea, hx0, hx1⟩ := at_T34 hC1 (k : Int) (by omega) (by omega)
      cases ea
      simp only [Int.toNat_natCast] at hx0 hx1
      have hrd : rd_T34 zs (k : Int) = zs[k] := by unfold rd_T34; rw [Int.toNat_natCast, List.getD_eq_getElem?_getD, List.getElem?_eq_getElem hlt]; rfl
      rw [hrd] at hx0 hx1
      have hJ2 : J (zs.take k) (wr.alloc (.cells #[.int .i64 zs[k].f0, .int .i64 zs[k].f1] 34)) := hJ _ wr _ none hJs (World.grownBy_alloc wr _ none) (fun r e => by cases e)
      have hB2 : Below w0.heap.size wr (wr.alloc (.cells #[.int .i64 zs[k].f0, .int .i64 zs[k].f1] 34)) := (Below.refl _ wr).alloc hnx.size _
      have htk : zs.take (k + 1) = zs.take k ++ [zs[k]] := by rw [List.take_add_one, List.getElem?_eq_getElem hlt]; rfl
      obtain ⟨fn, tmps, assign, body, hy, hR⟩ := hY _ zs[k] _ hJ2 (by rw [List.length_take]; omega)
      unfold encP at hy
      gi_wp2
      refine hR.mono ?_
      rintro e W3 (⟨rfl, hJ3, hk3⟩ | ⟨rfl, hJx3⟩)
      · gi_wp2
        go_roundw
        case rel => exact ⟨k + 1, by omega, by simp, by rw [htk]; exact hJ3, (hnx.trans hB2).trans hk3⟩
        case measure => simp [intOf]; omega
      · gi_wp2
        refine bodyPost_ret (results_none rfl _ _ _) rfl ?_
        exact ⟨⟨_, rfl⟩, .inr ⟨_, by rw [← htk]; exact List.take_prefix _ _, hJx3⟩⟩
    · obtain rfl : k = zs.length := by omega
      gi_wp2
      go_end0
      exact ⟨⟨_, rfl⟩, .inl ⟨_, by simp, hJs⟩⟩
set_option maxRecDepth 100000 in
set_option maxHeartbeats 1000000 in
theorem values1_nil_in (F : Fence) (n : Nat) (h39 : F.fn 39) (hro : F.round = none) (l Bs cap : Nat) (A : Option Addr) (J : List S34 → World → Prop) (W : World) (hBs : W.cell? ⟨Bs, 0, none⟩ = some (.slice A 0 cap)) (h0 : J [] W) :
    CallsIn F n Try.prog 39 #[.func (.yield l) #[] #[], .pointer (some ⟨Bs, 0, none⟩)] W fun e W' => (∃ v, e = .returned v) ∧ J [] W' := by
  refine callsIn_of_wp Try.func39 rfl h39 ?_ hro
  simp only [Try.ntmps39, List.size_toArray, List.length_cons, List.length_nil, Nat.reduceAdd, Nat.reduceSub, Array.replicate_succ, Array.replicate_zero, List.push_toArray, List.append_toArray, List.nil_append, List.cons_append]
  gi_wp2
  gi_loopw [7] (fun i wr => i = .int .i64 0 ∧ J [] wr) (fun _ _ => 0)
  case atStart => exact ⟨rfl, h0⟩
  case round =>
    obtain ⟨rfl, hJs⟩ := hrel
    gi_wp2
    go_end0
    exact ⟨⟨_, rfl⟩, hJs⟩
set_option maxHeartbeats 1000000 in
theorem values_in (F : Fence) (n : Nat) (h34 : F.fn 34) (hro : F.round = none) (a : Option Addr) (len cap : Nat) (w : World) :
    CallsIn F n Try.prog 34 #[.slice a len cap] w fun e w' => e = .returned (.func (.func 39) #[] #[.pointer (some ⟨w.heap.size, 0, none⟩)]) ∧ w' = w.alloc (.cells #[.slice a len cap] 38) := by
  refine callsIn_of_wp Try.func34 rfl h34 ?_ hro
  simp only [Try.ntmps34, List.size_toArray, List.length_cons, List.length_nil, Nat.reduceAdd, Nat.reduceSub, Array.replicate_succ, Array.replicate_zero, List.push_toArray, List.append_toArray, List.nil_append, List.cons_append]
  gi_wp2
  go_ret
  exact ⟨rfl, rfl⟩
theorem values_stops (F : Fence) (n : Nat) (h39 : F.fn 39) (hro : F.round = none) (hn : 1 ≤ n) (Bs : Nat) (w0 : World) (A : Option Addr) (cap : Nat) (zs : List S34) (hC : Kd.C k34 w0 A zs.length zs) (hm : zs.length ≤ 1000) (w : World) (hBs : Bs < w.heap.size) (hB : Below w0.heap.size w0 w)
    (hc : w.cell? ⟨Bs, 0, none⟩ = some (.slice A zs.length cap)) :
    SeqStopsK F n Try.prog 39 #[.pointer (some ⟨Bs, 0, none⟩)] encP (Below w0.heap.size) (fun ys => ys = zs) (fun pre => pre <+: zs) zs.length w := fun l J Jx W hW hJ _ hY h0 => by
  have hc' := (hW.cell (p := ⟨Bs, 0, none⟩) hBs).trans hc
  have hB' : Below w0.heap.size w0 W := hB.trans (hW.mono hB.size)
  by_cases h : zs.length = 0
  · obtain rfl : zs = [] := List.eq_nil_of_length_eq_zero h
    exact (values1_nil_in F n h39 hro l Bs cap A J W hc' h0).mono fun e W' ⟨he, hj⟩ => ⟨he, .inl ⟨_, rfl, hj⟩⟩
  · obtain ⟨ad, ea, _⟩ := at_T34 hC 0 (by omega) (by omega)
    subst ea
    exact values1_in F n h39 hro hn l Bs w0 ad cap zs hC hm J Jx hY W hB' hJ hc' h0
theorem info34P : (Try.prog.info? 34).map (fun i => (i.zero, i.size, i.bytes)) = some (some (.agg #[.int .i64 0, .int .i64 0]), 2, 16) := by kernel_rfl
theorem cells_new (W : World) (t : TypeId) (cs : Array Value) : ∀ j u, cs.toList[j]? = some u → (W.alloc (.cells cs t)).cell? ((⟨W.heap.size, 0, none⟩ : Addr).add j) = some u := fun j u h => by
  rw [show (Addr.add ⟨W.heap.size, 0, none⟩ j) = ⟨W.heap.size, j, none⟩ from by unfold Addr.add; split <;> simp_all]
  exact (blk_cell (World.alloc_heap_new W _) j).trans (by rw [← Array.getElem?_toList]; exact h)
def cellsP (l : List S34) : List Value := l.flatMap fun x => [.int .i64 x.f0, .int .i64 x.f1]
theorem cellsP_snoc (l : List S34) (x : S34) : cellsP (l ++ [x]) = cellsP l ++ [.int .i64 x.f0, .int .i64 x.f1] := by simp [cellsP]
set_option maxRecDepth 100000 in
set_option maxHeartbeats 4000000 in
theorem appendSeq_in (F : Fence) (n : Nat) (h39 : F.fn 39) (h41 : F.fn 41) (hro : F.round = none) (hn : 2 ≤ n) (Bs : Nat) (w0 : World) (A : Option Addr) (cap : Nat) (zs : List S34) (hC : Kd.C k34 w0 A zs.length zs) (hm : zs.length ≤ 1000) (w : World) (hBs : Bs < w.heap.size) (hB : Below w0.heap.size w0 w)
    (hc : w.cell? ⟨Bs, 0, none⟩ = some (.slice A zs.length cap)) :
    CallsIn F n Try.prog 41 #[.slice none 0 0, .func (.func 39) #[] #[.pointer (some ⟨Bs, 0, none⟩)]] w fun e W' => ∃ v, e = .returned v ∧ W'.ownsRow w.heap.size 34 2 v zs.length (cellsP zs) ∧ Below w.heap.size w W' := by
  have h1 : 1 ≤ n := by omega
  obtain ⟨i0, hi, hz0, hz1, hz2⟩ := info_parts info34P
  have hu34 := Try.underlying34
  refine callsIn_of_wp_marks Try.func41 rfl h41 ?_ hro
  simp only [Try.ntmps41, List.size_toArray, List.length_cons, List.length_nil, Nat.reduceAdd, Nat.reduceSub, Array.replicate_succ, Array.replicate_zero, List.push_toArray, List.append_toArray, List.nil_append, List.cons_append]
  gi_wp2
  have bO := Boxed.new w 38 (.slice none 0 0)
  have hB0 : Below w.heap.size w (w.alloc (.cells #[.slice none 0 0] 38)) := (Below.refl _ w).alloc (Nat.le_refl _) _
  refine wpIn_rangeFunc_ownH hro h1 (gf := 39) (lb := #[.pointer (some ⟨Bs, 0, none⟩)]) rfl h39 (enters_of Try.func39 (by kernel_rfl) rfl)
    (values_stops F (n - 1) h39 hro (by omega) Bs w0 A cap zs hC hm (w.alloc (.cells #[.slice none 0 0] 38)) (by simp; omega) (hB.trans (hB0.mono hB.size)) ((hB0.cell (p := ⟨Bs, 0, none⟩) hBs).trans hc)) belowK_t (belowK_b (by have := hB.size; simp; omega)) (Below.refl _ _) (fun _ => rfl)
    (fun pre W => (∃ v, Boxed W w.heap.size 38 v ∧ W.ownsRow w.heap.size 34 2 v pre.length (cellsP pre) ∧ True) ∧ Below w.heap.size w W)
    (fun _ _ _ => False)
    (OwnFrom.and (Own.from (holdsRow_own w.heap.size w.heap.size 38 34 2 (fun pre => pre.length) (fun pre => cellsP pre) (fun _ _ => True)) _) (ownFrom_below (Nat.le_refl _) (by simp)))
    (fun _ _ _ _ _ hs _ _ => hs)
    ⟨⟨_, bO, World.ownsRow_nil _ _ _ _, trivial⟩, hB0⟩
    (fun x a' W => ∃ Bx, w.heap.size < Bx ∧ W.heap[Bx]? = some (.cells #[.int .i64 x.f0, .int .i64 x.f1] 34 (0, 0)) ∧ a' = { tmps := #[.slice none 0 0, .func (.func 39) #[] #[.pointer (some ⟨Bs, 0, none⟩)], .pointer (some ⟨w.heap.size, 0, none⟩), undef, .slice none 0 0, .pointer (some ⟨Bx, 0, none⟩), .func (.func 39) #[] #[.pointer (some ⟨Bs, 0, none⟩)], .agg #[.int .i64 x.f0, .int .i64 x.f1], undef, undef, undef, undef, undef], defers := [] })
    (fun x a' _ X Y row hs hg hr => by
      obtain ⟨Bx, h1, h2, h3⟩ := hs
      refine ⟨Bx, h1, (hg.block Bx (Array.getElem?_eq_some_iff.1 h2).1 (fun e => ?_)).trans h2, h3⟩
      obtain ⟨_, o, ho, hcl⟩ := hr Bx e.symm
      rw [h2] at ho; cases ho; cases hcl)
    ?assign ?body ?done ?stop
  case assign =>
    rintro l pre x W K ⟨⟨v, hv, hrow, _⟩, hB1⟩ hK
    unfold encP
    gi_wp2
    have hs := hB1.size
    exact hK _ _ ((KeepsOthers.alloc _ _).from _) ((Below.refl _ W).alloc (by have := hB.size; omega) _) ⟨⟨v, hv.alloc _, hrow.alloc _, trivial⟩, hB1.alloc hs _⟩ ⟨W.heap.size, hv.lt, World.alloc_heap_new W _, rfl⟩
  case body =>
    rintro l pre x a' W _ _ ⟨⟨v, hv, hrow, _⟩, hB1⟩ ⟨Bx, hBx, bX, rfl⟩ hlt
    have hcv := hv.cell
    have hx0 : W.cell? ⟨Bx, 0, none⟩ = some (.int .i64 x.f0) := blk_cell bX 0
    have hx1 : W.cell? ⟨Bx, 1, none⟩ = some (.int .i64 x.f1) := blk_cell bX 1
    gi_wp2_with (gi_at_builtin; refine wpListIn_append_own _ rfl _ _ 38 rfl w.heap.size 34 i0 (.agg #[.int .i64 0, .int .i64 0]) 2 16 Try.underlying38 hi hz0 hz1 hz2 rfl (by decide) _ _ _ rfl (hrow.alloc _) ⟨W.heap.size, 0, none⟩ 1 1 [.int .i64 x.f0, .int .i64 x.f1] rfl rfl (cells_new _ 34 #[.int .i64 x.f0, .int .i64 x.f1]) (by intro u hu; simp only [List.mem_cons, List.not_mem_nil, or_false] at hu; rcases hu with rfl | rfl <;> rfl) (by unfold maxLen; omega) (by omega) (by have := hB1.size; simp; omega) ?_; intro v' w1 hown' hgrow _; obtain ⟨g', cap', rfl⟩ := ownsRow_succ hown'; obtain ⟨hv1, hv2, hr2, hk2, hb2⟩ := hv.appended (by decide) hrow hB1.size (Nat.le_refl _) hown' hgrow; have hc1 := hv1.cell; have hf1 := hv1.frozen)
    exact ⟨hk2.from _, hb2.mono hB.size, ⟨⟨_, hv2, by rw [cellsP_snoc]; simpa using hr2, trivial⟩, hB1.trans hb2⟩⟩
  case done =>
    rintro D ys W hD rfl ⟨⟨v, hv, hrow, _⟩, hB⟩ hK
    have hc := hv.cell
    gi_wp2
    refine ⟨by simp, .inl ⟨_, _, rfl, run_takeDeferred hK, ?_⟩⟩
    exact ⟨_, results_tmp rfl _ _ _, v, rfl, ownsRow_putObj hrow _ hK rfl, hB.trans (belowK_b (w := w) (Nat.le_refl _) W D _ _ (by simp at hD; omega) hK rfl rfl)⟩
  case stop =>
    rintro D c pre W _ _ h _
    exact h.elim
theorem cellsP_length (l : List S34) : (cellsP l).length = l.length * 2 := by
  induction l with
  | nil => rfl
  | cons x l ih => simp only [cellsP, List.flatMap_cons, List.length_append, List.length_cons, List.length_nil] at *; omega
theorem cellsP_at : ∀ (l : List S34) (j : Nat) (p : S34), l[j]? = some p → ((cellsP l).drop (j * 2)).take 2 = [.int .i64 p.f0, .int .i64 p.f1]
  | [], j, p, h => by simp at h
  | x :: l, 0, p, h => by
    obtain rfl : x = p := by simpa using h
    rfl
  | x :: l, j + 1, p, h => by
    rw [show (j + 1) * 2 = j * 2 + 1 + 1 by omega]
    exact cellsP_at l j p (by simpa using h)
theorem cellsP_R {W : World} {base : Nat} {v : Value} {zs : List S34} (h : W.ownsRow base 34 2 v zs.length (cellsP zs)) : Kd.R k34 34 W base (fun _ => True) v zs :=
  ⟨fun _ _ => trivial, cellsP zs, h, cellsP_length zs, fun j p hp => by rw [show k34.sz = 2 from rfl, cellsP_at zs j p hp]; exact k34_mkM _ _ _ _⟩
set_option maxHeartbeats 4000000 in
set_option maxRecDepth 100000 in
theorem collect_calls (Bs : Nat) (w0 : World) (A : Option Addr) (cap : Nat) (zs : List S34) (hC : Kd.C k34 w0 A zs.length zs) (hm : zs.length ≤ 1000) (w : World) (hBs : Bs < w.heap.size) (hB : Below w0.heap.size w0 w)
    (hc : w.cell? ⟨Bs, 0, none⟩ = some (.slice A zs.length cap)) :
    Calls Try.prog 37 #[.func (.func 39) #[] #[.pointer (some ⟨Bs, 0, none⟩)]] w fun e W' => ∃ v, e = .returned v ∧ Kd.R k34 34 W' w.heap.size (fun _ => True) v zs ∧ Below w.heap.size w W' := by
  have hA := callsIn_wide.1 (appendSeq_in Fence.wide 10 (by simp [Fence.wide]) (by simp [Fence.wide]) rfl (by omega) Bs w0 A cap zs hC hm w hBs hB hc)
  go_enter Try.func37, Try.ntmps37
  go_wp2_with (go_at_call 41; refine hA.mono ?_; rintro e w' ⟨v, rfl, hr, hb⟩)
  go_ret
  exact ⟨v, rfl, cellsP_R hr, hb⟩
set_option maxHeartbeats 4000000 in
set_option maxRecDepth 100000 in
theorem sortedFunc_calls (Bs : Nat) (w0 : World) (A : Option Addr) (cap : Nat) (zs : List S34) (hC : Kd.C k34 w0 A zs.length zs) (hm : zs.length ≤ 1000) (w : World) (hBs : Bs < w.heap.size) (hB : Below w0.heap.size w0 w)
    (hc : w.cell? ⟨Bs, 0, none⟩ = some (.slice A zs.length cap)) :
    Calls Try.prog 33 #[.func (.func 39) #[] #[.pointer (some ⟨Bs, 0, none⟩)], .func (.func 29) #[] #[]] w fun e W' => ∃ v, e = .returned v ∧ Kd.R k34 34 W' w.heap.size (fun _ => True) v (srtL cfPair zs) ∧ Below w.heap.size w W' := by
  have hA := collect_calls Bs w0 A cap zs hC hm w hBs hB hc
  have hS := fun (v : Value) (w' : World) (hb : Below w.heap.size w w') (hr : Kd.R k34 34 w' w.heap.size (fun _ => True) v zs) => api_Pair_38.calls (fun _ => True) v zs (srtL cfPair zs) w w' hb hr (by unfold api_Pair_38.f; rw [if_pos (by omega)])
  go_enter Try.func33, Try.ntmps33
  go_wp2_with (first | (go_at_call 37; refine hA.mono ?_; rintro e w' ⟨v, rfl, hr, hb⟩; obtain ⟨A1, c1, rfl⟩ := Kd.R_slice hr) | (go_at_call 38; refine (hS _ _ hb hr).mono ?_; rintro e w2 ⟨rfl, hr2, hb2, _⟩))
  go_ret
  exact ⟨_, rfl, Kd.R_mono hr2 (fun _ _ => trivial), hb2⟩
set_option maxHeartbeats 4000000 in
set_option maxRecDepth 100000 in
theorem pile_Sorted.calls (A : Option Addr) (cap : Nat) (zs : List S34) (w : World) (hC : Kd.C k34 w A zs.length zs) (hm : zs.length ≤ 1000) :
    Calls Try.prog 26 #[.slice A zs.length cap] w fun e W' => ∃ v, e = .returned v ∧ Kd.R k34 34 W' w.heap.size (fun _ => True) v (srtL cfPair zs) ∧ Below w.heap.size w W' := by
  have hV := callsIn_wide.1 (values_in Fence.wide 10 (by simp [Fence.wide]) rfl A zs.length cap w)
  have hb0 : Below w.heap.size w (w.alloc (.cells #[.slice A zs.length cap] 38)) := (Below.refl _ w).alloc (Nat.le_refl _) _
  have hA := sortedFunc_calls w.heap.size w A cap zs hC hm (w.alloc (.cells #[.slice A zs.length cap] 38)) (by simp) hb0 (Boxed.new w 38 _).cell
  go_enter Try.func26, Try.ntmps26
  go_wp2_with (first | (go_at_call 34; refine hV.mono ?_; rintro e w' ⟨rfl, rfl⟩) | (go_at_call 33; refine hA.mono ?_; rintro e w2 ⟨v, rfl, hr2, hb2⟩))
  go_ret
  exact ⟨_, rfl, Kd.R_lower hr2 (by simp), hb0.trans (hb2.mono (by simp))⟩
end Go.Proofs.Ytloebciamfbjfaa.Q
end
section
namespace Go.Proofs.Ytloebciamfbjfaa.Q
open Go.RowKit Go.Proofs.Ytloebciamfbjfaa.P Go.Proofs.YtloebciamfbjfaaW.PrintWords Go.Proofs.YtloebciamfbjfaaW.PrintLast Go.Proofs.YtloebciamfbjfaaW.PrintMore
set_option linter.unusedVariables false
set_option linter.unusedSimpArgs false
structure RP (w : World) (base : Nat) (ok : Nat → Prop) (g : Nat) (most : Int) (v : Value) (c : List S34) : Prop where
  blk : w.heap[g]? = some (.cells #[.int .i64 most, v] 40 (0, 0))
  row : Kd.Q k34 34 w base (fun k => ok k ∧ k ≠ g) v c
  ge : base ≤ g
  le : (c.length : Int) ≤ most ∧ most ≤ 65536
section
variable {w w1 : World} {base : Nat} {ok ok' : Nat → Prop} {g : Nat} {most : Int} {v : Value} {c : List S34}
theorem RP.below (h : RP w base ok g most v c) (hb : Below w.heap.size w w1) : RP w1 base ok g most v c := ⟨blk_below h.blk hb, Kd.Q_below h.row hb, h.ge, h.le⟩
theorem RP.drew (h : RP w base ok g most v c) : RP w.drew base ok g most v c := h.below (below_drew (Below.refl _ _))
theorem RP.mono (h : RP w base ok g most v c) (hk : ∀ k, ok k → ok' k) : RP w base ok' g most v c := ⟨h.blk, Kd.Q_mono h.row (fun k hh => ⟨hk k hh.1, hh.2⟩), h.ge, h.le⟩
theorem RP.kept {S : Nat → Prop} (h : RP w base ok g most v c) (hk : Kept w w1 S) (hg : ¬ S g) (ho : ∀ k, ok k → ¬ S k) : RP w1 base ok g most v c := ⟨Kept.blk hk h.blk hg, Kd.Q_kept h.row hk (fun k hh => ho k hh.1), h.ge, h.le⟩
theorem RP.put {u : Value} {xs : List S34} (h : RP w base ok g most v c) (ho : Kd.Q k34 34 w base (fun k => ok k ∧ k ≠ g) u xs) (hl : (xs.length : Int) ≤ most) : RP (w.setCell ⟨g, 1, none⟩ u) base ok g most u xs :=
  ⟨blk_put (cs' := #[.int .i64 most, u]) h.blk 1 u rfl, Kd.Q_far (p := ⟨g, 1, none⟩) ho (fun k hk => hk.2) _, h.ge, hl, h.le.2⟩
end
theorem pairQ {w : World} {base : Nat} {ok : Nat → Prop} {g o n cap : Nat} {xs : List S34} (h : Kd.Q k34 34 w base ok (.slice (some ⟨g, o, none⟩) n cap) xs) (j : Nat) (hj : j < xs.length) :
    w.cell? ⟨g, o + j * 2, none⟩ = some (.int .i64 xs[j].f0) ∧ w.cell? ⟨g, o + j * 2 + 1, none⟩ = some (.int .i64 xs[j].f1) := by
  obtain ⟨ad, ea, h0, h1⟩ := at_T34 (Kd.Q_reads' h).2.2 (j : Int) (by omega) (by omega)
  obtain rfl := Option.some.inj ea
  have hr : rd_T34 xs (j : Int) = xs[j] := by unfold rd_T34; rw [Int.toNat_natCast, List.getD_eq_getElem?_getD, List.getElem?_eq_getElem hj]; rfl
  rw [hr, Int.toNat_natCast] at h0 h1
  have hadd : (Addr.add ⟨g, o, none⟩ (j * 2)) = ⟨g, o + j * 2, none⟩ := by unfold Addr.add; split <;> simp_all
  rw [hadd] at h0 h1
  exact ⟨h0, h1⟩
end Go.Proofs.Ytloebciamfbjfaa.Q
end
