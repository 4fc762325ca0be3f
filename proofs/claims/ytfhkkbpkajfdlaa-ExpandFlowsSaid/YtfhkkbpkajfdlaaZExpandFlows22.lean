/- A part of the proof: words, contracts, plain lemmas. Conditions: none. -/
import Derived.Test.YtfhkkbpkajfdlaaZExpandFlows4
import Derived.Test.YtfhkkbpkajfdlaaZExpandFlows18
import Derived.Test.YtfhkkbpkajfdlaaZExpandFlows21
section
namespace Go.Proofs.Ytfhkkbpkajfdlaa.Q
open Go.RowKit Go.Maps Go.Proofs.YtfhkkbpkajfdlaaW.PrintWords Go.Proofs.YtfhkkbpkajfdlaaW.PrintLast Go.Proofs.YtfhkkbpkajfdlaaW.PrintMore
set_option linter.unusedVariables false
set_option linter.unusedSimpArgs false
def ints (zs : List Int) : Array Value := (zs.map (Value.int .i64)).toArray
theorem ints_get {zs : List Int} {j : Nat} (h : j < zs.length) : (ints zs)[j]? = some (.int .i64 zs[j]) := by unfold ints; simp [h]
theorem ints_set (zs : List Int) (j : Nat) (n : Int) : (ints zs).setIfInBounds j (.int .i64 n) = ints (zs.set j n) := by unfold ints; simp [List.map_set]
theorem ints_size (zs : List Int) : (ints zs).size = zs.length := by unfold ints; simp
theorem ints_list (zs : List Int) : (ints zs).toList = zs.map (Value.int .i64) := by unfold ints; simp
theorem made_ints (n : Nat) : madeCells (Value.int .i64 0).cells (n * 1) = ints (List.replicate n 0) := by
 unfold madeCells ints
 apply Array.ext
 ·simp
 ·intro i h1 h2
  simp [Value.cells, Nat.mod_one]
theorem mk_ints {ops : Array Oper} {rest : List Oper} {o : Oper} {a : Act} {Q : Exit → Act → World → Prop} (w : World) (hg : o.guard = none) (l c : Operand) (hop : o.op = Op.makeSlice 42 l c) (n : Nat) (hl : a.eval l = .int .i64 (n : Int)) (hc : a.eval c = .int .i64 (n : Int)) (hn : n ≤ 1000000000)
 (hK : ∀ g w1, g = w.heap.size → w1.heap[g]? = some (.cells (ints (List.replicate n 0)) 3 (0, 0)) → Below w.heap.size w w1 → wpList Try.prog ops Q rest (a.put o.dst (.slice (some ⟨g, 0, none⟩) n n)) w1) : wpList Try.prog ops Q (o :: rest) a w := by
 refine wpList_plain hg fun K hK' => ?_
 obtain ⟨i3, hi, hz0, hz1, hz2⟩ := info_parts info3
 have hr := run_make (P := Try.prog) w 42 3 i3 (.int .i64 0) Try.underlying42 hi hz0 .i64 .i64 (n : Int) (n : Int) (by omega) (by omega) (by rw [hz2]; omega) (by omega)
 rw [hz1, Int.toNat_natCast, made_ints] at hr
 unfold Oper.wp
 simp [execOp, hop, hl, hc, hr, Result.andThen]
 exact hK' _ _ (hK _ _ rfl (blk_new w _) (below_alloc (Below.refl _ _) _))
theorem R_block {w : World} {g base : Nat} {d : List Int} (h : w.heap[g]? = some (.cells (ints d) 3 (0, 0))) (hb : base ≤ g) (hp : d.length ≤ 1000000) : Kd.R (Kd.int .i64) 3 w base (fun _ => True) (.slice (some ⟨g, 0, none⟩) d.length d.length) d := by
 refine Kd.R_of_own ⟨by rw [encs_length, Nat.mul_one], .inr ⟨g, d.length, ints d, rfl, hb, h, Nat.le_refl _, ?_, by rw [ints_size]; simp, ?_⟩⟩ (fun _ _ => trivial)
 ·simp only [maxLen]; omega
 ·rw [ints_list, List.take_of_length_le (by simp)]; rfl
theorem ints_at {w : World} {g : Nat} {d : List Int} (h : w.heap[g]? = some (.cells (ints d) 3 (0, 0))) (i : Int) (h0 : 0 ≤ i) (h1 : i < (d.length : Int)) : w.cell? ⟨g, i.toNat, none⟩ = some (.int .i64 (rd d i)) := by
 rw [blk_cell h, ints_get (by omega)]
 congr 2
 unfold rd
 rw [List.getD_eq_getElem?_getD, List.getElem?_eq_getElem (by omega)]; rfl
theorem ints_put {w : World} {g : Nat} {d : List Int} (h : w.heap[g]? = some (.cells (ints d) 3 (0, 0))) (i : Nat) (x : Int) : (w.setCell ⟨g, i, none⟩ (.int .i64 x)).heap[g]? = some (.cells (ints (d.set i x)) 3 (0, 0)) := by
 rw [← ints_set]; exact blk_set h i _
theorem mlook_run {o : Oper} {a : Act} {w : World} {K : TypeId} {α : Type} [DecidableEq α] (E : KeyEnc K α) (m x : Operand) (t : TypeId) (hop : o.op = Op.lookup t m x false) (ht : Try.prog.underlying t = some (.map K 3)) {b n : Nat} {es : List (α × Int)}
 (hm : a.eval m = .map (some b)) (hM : MapI E w b n es) (key : α) (hx : a.eval x = E.enc key) (hk : E.good key) (r : Int) (hr : (lookM es key).getD 0 = r) : (execOp a.eval o).run Try.prog w = .ok (.value (.int .i64 r)) w := by
 obtain ⟨c, hrun, hat, hwc⟩ := hM.1.lookup_int E.law ht Try.underlying3 (zeroInt w) (E.key key hk)
 have h2 := at_datM E hM.2 hk
 rw [hat] at h2
 have h3 : (DataW.lit (.int .i64 c) : DataW Unit) = .lit (.int .i64 ((lookM es key).getD 0)) := h2
 obtain rfl : c = (lookM es key).getD 0 := by cases h3; rfl
 subst hr
 simp [execOp, hop, hm, hx, hrun, Result.andThen]
def idxM (l1 : List ((Int × Int) × Int)) (m : S85) : Int := (lookM l1 (m.f0, m.f1)).getD 0
def out1 (l1 : List ((Int × Int) × Int)) (M : List S85) (n : Nat) : List Int := P.setAll M (fun m => (idxM l1 m).toNat) S85.f2 (List.replicate n 0)
def stockAt (xs : List (List Int)) (a v : Int) : Int := rd (rd_L3 xs a) v
def out2 (xs : List (List Int)) (l2 : List ((Int × Int) × Int)) (o : List Int) : List Int := P.setAll l2 (fun p => p.2.toNat) (fun p => stockAt xs p.1.2 p.1.1) o
def leftN (xs : List (List Int)) (s : Int) (a : Nat) : Int := if a = 0 then wrap64 (-(stockAt xs 0 s)) else wrap64 (wrap64 (-(stockAt xs (a : Int) s)) + stockAt xs ((a - 1 : Nat) : Int) s)
def cameN (xs : List (List Int)) (t : Int) (a : Nat) : Int := if a = 0 then stockAt xs 0 t else wrap64 (stockAt xs (a : Int) t - stockAt xs ((a - 1 : Nat) : Int) t)
def out3 (xs : List (List Int)) (s t : Int) (b h1 : Nat) (o : List Int) (n : Nat) : List Int := (List.range n).foldl (fun o a => (o.set (b + a) (leftN xs s a)).set (b + h1 + a) (cameN xs t a)) o
theorem out3_succ (xs : List (List Int)) (s t : Int) (b h1 : Nat) (o : List Int) (n : Nat) : out3 xs s t b h1 o (n + 1) = ((out3 xs s t b h1 o n).set (b + n) (leftN xs s n)).set (b + h1 + n) (cameN xs t n) := by
 unfold out3; rw [List.range_succ, List.foldl_append]; rfl
theorem out3_length (xs : List (List Int)) (s t : Int) (b h1 : Nat) (o : List Int) : ∀ n, (out3 xs s t b h1 o n).length = o.length
 | 0 => rfl
 | n + 1 => by rw [out3_succ, List.length_set, List.length_set, out3_length xs s t b h1 o n]
theorem out1_length (l1 : List ((Int × Int) × Int)) (M : List S85) (n : Nat) : (out1 l1 M n).length = n := by unfold out1; rw [P.setAll_length, List.length_replicate]
theorem out2_length (xs : List (List Int)) (l2 : List ((Int × Int) × Int)) (o : List Int) : (out2 xs l2 o).length = o.length := P.setAll_length _ _ _ _
theorem look_places (b n j : Nat) (h : j < n) : (lookM (placesL b n) (j : Int)).getD 0 = ((b + j : Nat) : Int) := by
 have hd : ((placesL b n).map (·.1)).Nodup := by
  unfold placesL
  rw [List.map_map, List.Nodup, List.pairwise_map]
  exact (List.pairwise_lt_range (n := n)).imp (fun {a c} hac e => by
   have e2 : (a : Int) = (c : Int) := e
   omega)
 have hm : ((j : Int), ((b + j : Nat) : Int)) ∈ placesL b n := by
  unfold placesL
  exact List.mem_map.2 ⟨j, List.mem_range.2 h, rfl⟩
 unfold lookM
 rw [lookM_mem (placesL b n) none _ hd hm]
 rfl
def flowOk (V H : Int) (l1 : List ((Int × Int) × Int)) (n : Nat) (xs : List (List Int)) (M : List S85) : Bool :=
 (decide (xs.length = H.toNat + 1) && xs.all (fun r => decide (r.length = V.toNat))) && (decide (M.length ≤ 1048576) && M.all (fun m => decide ((0 ≤ m.f0 ∧ m.f0 ≤ 1000000 ∧ 0 ≤ m.f1 ∧ m.f1 ≤ 1000000) ∧ 0 ≤ idxM l1 m ∧ idxM l1 m < (n : Int))))
def flowL (V H : Int) (hold : Bool) (s t : Int) (l0 : List S54) (xs : List (List Int)) (M : List S85) : List Int :=
 out3 xs s t (atLoop V H hold s t l0 (H.toNat + 1)).1.length (H.toNat + 1) (out2 xs (atLoop V H hold s t l0 (H.toNat + 1)).2.2 (out1 (gridMoves V H hold s t l0) M (gridArcs V H hold s t l0).length)) (H.toNat + 1)
def expand_Flow.f (k : Nat) (a0_0 : Int) (a0_1 : Bool) (l0_2 : List S54) (a1 a2 a3 : Int) (l4 : List S85) : Option (List Int × Int) := (expand_Asked.f k a0_0 a0_1 l0_2 a1 a2 a3).bind fun e => if e = 0 then ((plan_Check.f k a0_0 a0_1 l0_2 a1 a2 a3 l4).bind fun p2 => if p2.2 = 0 then ((plan_Stocks.f k a0_0 a0_1 l0_2 a1 a2 a3 l4).bind fun p3 => (table_Moves.f k l4).bind fun p4 => if (okNet a0_0 a3 l0_2 = true ∧ (0 ≤ a1 ∧ a1 < a0_0 ∧ 0 ≤ a2 ∧ a2 < a0_0)) ∧ flowOk a0_0 a3 (gridMoves a0_0 a3 a0_1 a1 a2 l0_2) (gridArcs a0_0 a3 a0_1 a1 a2 l0_2).length p3.1 p4.1 = true then some (flowL a0_0 a3 a0_1 a1 a2 l0_2 p3.1 p4.1, 0) else none) else some ([], p2.2)) else some ([], e)
def expand_Flow.T14 : Bool × List (List Nat × List Nat) := (true, [([], []), ([], []), ([1], [1]), ([2], [2]), ([3], [3]), ([], []), ([5], [5]), ([], []), ([7], [7]), ([6, 8], [6, 8]), ([4, 9], [4, 9]), ([], []), ([11], [11]), ([0, 10, 0, 1, 2, 3, 4, 5, 6, 7, 8, 9, 10, 11, 12], [0, 10]), ([13, 12, 0, 1, 2, 3, 4, 5, 6, 7, 8, 9, 10, 11, 12], [12, 13])])
def expand_Flow.B14 : List Nat := [0, 0, 2, 6, 14, 0, 32, 0, 128, 480, 1022, 0, 2048, 8191, 16383]
theorem expand_Flow.tab14 : rtab .any (opsOf Try.f28 14) = expand_Flow.T14 := by kernel_rfl
theorem expand_Flow.bits14 : waitsOk expand_Flow.T14.2 expand_Flow.B14 = true := by kernel_rfl
def expand_Flow.T19 : Bool × List (List Nat × List Nat) := (true, [([], []), ([], []), ([], []), ([], []), ([3], [3]), ([2, 4], [2, 4]), ([5], [5]), ([], []), ([7], [7]), ([6, 8], [6, 8]), ([9], [9]), ([0, 1, 0, 1, 2, 3, 4, 5, 6, 7, 8, 9, 10], [0, 1]), ([11, 10, 0, 1, 2, 3, 4, 5, 6, 7, 8, 9, 10], [10, 11])])
def expand_Flow.B19 : List Nat := [0, 0, 0, 0, 8, 28, 60, 0, 128, 508, 1020, 2047, 4095]
theorem expand_Flow.tab19 : rtab .any (opsOf Try.f28 19) = expand_Flow.T19 := by kernel_rfl
theorem expand_Flow.bits19 : waitsOk expand_Flow.T19.2 expand_Flow.B19 = true := by kernel_rfl
def expand_Flow.T27 : Bool × List (List Nat × List Nat) := (true, [([], []), ([], []), ([1], [1]), ([2], [2]), ([3], [3]), ([], []), ([4, 5], [4, 5]), ([], []), ([], []), ([8], [8]), ([9], [9]), ([10], [10]), ([], []), ([11, 12], [11, 12]), ([], []), ([], []), ([0, 6, 0, 1, 2, 3, 4, 5, 6, 11, 13, 14], [0, 6]), ([16, 14, 0, 1, 2, 3, 4, 5, 6, 11, 13, 14], [14, 16]), ([7, 13, 0, 1, 2, 3, 4, 5, 6, 7, 8, 9, 10, 11, 12, 13, 14, 15, 16, 17], [7, 13]), ([18, 15, 17, 0, 1, 2, 3, 4, 5, 6, 7, 8, 9, 10, 11, 12, 13, 14, 15, 16, 17], [15, 18])])
def expand_Flow.B27 : List Nat := [0, 0, 2, 6, 14, 0, 62, 0, 0, 256, 768, 1792, 0, 7936, 0, 0, 32639, 98175, 262143, 524287]
theorem expand_Flow.tab27 : rtab .any (opsOf Try.f28 27) = expand_Flow.T27 := by kernel_rfl
theorem expand_Flow.bits27 : waitsOk expand_Flow.T27.2 expand_Flow.B27 = true := by kernel_rfl
set_option maxHeartbeats 8000000 in
set_option maxRecDepth 100000 in
theorem expand_Flow.calls (k : Nat) (a0_0 : Int) (a0_1 : Bool) (A0_2 : Option Addr) (c0_2 : Nat) (l0_2 : List S54) (a1 a2 a3 : Int) (A4 : Option Addr) (c4 : Nat) (l4 : List S85) (r1 : List Int) (r2 : Int) (w : World) (hr0_2 : Kd.C k54 w A0_2 l0_2.length l0_2) (hc0_2 : l0_2.length ≤ c0_2) (hr4 : Kd.C k85 w A4 l4.length l4) (hc4 : l4.length ≤ c4) (h : expand_Flow.f k a0_0 a0_1 l0_2 a1 a2 a3 l4 = some (r1, r2)) :
 Calls Try.prog 28 #[.agg #[.int .i64 a0_0, .bool a0_1, .slice A0_2 l0_2.length c0_2], .int .i64 a1, .int .i64 a2, .int .i64 a3, .slice A4 l4.length c4] w fun e w' => ∃ v0_ : Value, e = .returned (.tuple #[v0_, .int .i64 r2]) ∧ Kd.R (Kd.int .i64) 3 w' w.heap.size (fun _ => True) v0_ r1 ∧ Below w.heap.size w w' := by
 have hu24 := Try.underlying24
 have hu26 := Try.underlying26
 have hu85 := Try.underlying85
 have hu54 := Try.underlying54
 have hu76 := Try.underlying76
 have HR0 := am_ hr0_2
 have HC0 := am_ hc0_2
 have HR4 := am_ hr4
 have HC4 := am_ hc4
 have HB := am_ (Below.refl w.heap.size w)
 clear hr0_2 hc0_2 hr4 hc4
 unfold expand_Flow.f at h
 replace h := Option.bind_eq_some_iff.1 h
 obtain ⟨e, he, h⟩ := h
 have HE := am_ he
 clear he
 by_cases c : e = 0
 ·rw [if_pos c] at h
  have c1 : (e == 0) = true := beq_iff_eq.2 c
  have c2 : (e != 0) = false := by rw [c]; rfl
  clear c
  replace h := Option.bind_eq_some_iff.1 h
  obtain ⟨⟨v2, e2⟩, he2, h⟩ := h
  have HE2 := am_ he2
  clear he2
  simp only at h
  by_cases d : e2 = 0
  ·rw [if_pos d] at h
   have d1 : (e2 == 0) = true := beq_iff_eq.2 d
   have d2 : (e2 != 0) = false := by rw [d]; rfl
   clear d
   replace h := Option.bind_eq_some_iff.1 h
   obtain ⟨⟨xs, e3⟩, he3, h⟩ := h
   replace h := Option.bind_eq_some_iff.1 h
   obtain ⟨⟨M, e4⟩, he4, h⟩ := h
   have HE3 := am_ he3
   have HE4 := am_ he4
   clear he3 he4
   simp only at h
   split at h
   case isFalse => cases h
   rename_i hh
   simp only [Option.some.injEq, Prod.mk.injEq] at h
   obtain ⟨hr, rfl⟩ := h
   have HOK := am_ hh.1.1
   have HEN := am_ hh.1.2
   have hfo := hh.2
   unfold gridMoves at hfo
   unfold flowL gridMoves at hr
   have HFO := am_ hfo
   have HLE := am_ hr
   have HL2 := am_ (P.log2_ok (hold := a0_1) (s := a1) (t := a2) hh.1.1)
   have HNB := am_ (show (gridArcs a0_0 a3 a0_1 a1 a2 l0_2).length ≤ 300000 ∧ (gridArcs a0_0 a3 a0_1 a1 a2 l0_2).length = (atLoop a0_0 a3 a0_1 a1 a2 l0_2 (a3.toNat + 1)).1.length + (a3.toNat + 1) + (a3.toNat + 1) ∧ 0 ≤ a3 ∧ a3 ≤ 1024 by
    refine ⟨P.grid_len hh.1.1, by unfold gridArcs; rw [List.length_append, List.length_append, firstsA_length, lastsA_length], ?_⟩
    have h5 := hh.1.1
    unfold okNet at h5
    simp only [Bool.and_eq_true, decide_eq_true_eq] at h5
    exact ⟨h5.1.2.2.1, h5.1.2.2.2.1⟩)
   clear hh hfo hr
   go_enter Try.func28, Try.ntmps28
   go_wp2_with (first
    | ((with_reducible refine gate_dst (N := 5) rfl ?_); refine box_event ?hg (N := 5) ?hd (cs := #[.int .i64 a0_0, .bool a0_1, .slice A0_2 l0_2.length c0_2]) (t := 24) ?hr ?_; (case hd => rfl); (case hg => rfl); (case hr => first | (go_simp; done) | (go_simp; rfl)); intro gn hg w2 hbox hb; replace HB := am_ (below_step HB.out hb); have BKn := am_ hbox; clear hb hbox hg; have zn0 : w2.cell? ⟨gn, 0, none⟩ = some (.int .i64 a0_0) := (blk_cell BKn.out 0).trans rfl; have zn1 : w2.cell? ⟨gn, 1, none⟩ = some (.bool a0_1) := (blk_cell BKn.out 1).trans rfl; have zn2 : w2.cell? ⟨gn, 2, none⟩ = some (.slice A0_2 l0_2.length c0_2) := (blk_cell BKn.out 2).trans rfl)
    | (go_at_call 38; (with_reducible refine (expand_Asked.calls k a0_0 a0_1 A0_2 c0_2 l0_2 a1 a2 a3 e _ ?side11 HC0.out HE.out).mono ?_); (case side11 => exact (Kd.C_below HR0.out HB.out)); rintro e4 w4 ⟨rfl, hb⟩; have n0_ := am_ (below_step HB.out hb); have n1_ := am_ (blk_below BKn.out hb); clear HB BKn zn0 zn1 zn2 hb; have HB := n0_; have BKn := n1_; clear n0_ n1_; have zn0 : w4.cell? ⟨gn, 0, none⟩ = some (.int .i64 a0_0) := (blk_cell BKn.out 0).trans rfl; have zn1 : w4.cell? ⟨gn, 1, none⟩ = some (.bool a0_1) := (blk_cell BKn.out 1).trans rfl; have zn2 : w4.cell? ⟨gn, 2, none⟩ = some (.slice A0_2 l0_2.length c0_2) := (blk_cell BKn.out 2).trans rfl)
    | (go_at_call 48; (with_reducible refine (plan_Check.calls k a0_0 a0_1 A0_2 c0_2 l0_2 a1 a2 a3 A4 c4 l4 v2 e2 _ ?side21 HC0.out ?side31 HC4.out HE2.out).mono ?_); (case side21 => exact (Kd.C_below HR0.out HB.out)); (case side31 => exact (Kd.C_below HR4.out HB.out)); rintro e5 w5 ⟨rfl, hb⟩; have n0_ := am_ (below_step HB.out hb); have n1_ := am_ (blk_below BKn.out hb); clear HB BKn zn0 zn1 zn2 hb; have HB := n0_; have BKn := n1_; clear n0_ n1_; have zn0 : w5.cell? ⟨gn, 0, none⟩ = some (.int .i64 a0_0) := (blk_cell BKn.out 0).trans rfl; have zn1 : w5.cell? ⟨gn, 1, none⟩ = some (.bool a0_1) := (blk_cell BKn.out 1).trans rfl; have zn2 : w5.cell? ⟨gn, 2, none⟩ = some (.slice A0_2 l0_2.length c0_2) := (blk_cell BKn.out 2).trans rfl)
    | (go_at_call 49; (with_reducible refine (plan_Stocks.calls k a0_0 a0_1 A0_2 c0_2 l0_2 a1 a2 a3 A4 c4 l4 xs e3 _ ?side41 HC0.out ?side51 HC4.out HE3.out).mono ?_); (case side41 => exact (Kd.C_below HR0.out HB.out)); (case side51 => exact (Kd.C_below HR4.out HB.out)); rintro e6 w6 ⟨vx, rfl, hx, hb⟩; have n0_ := am_ (below_step HB.out hb); have n1_ := am_ (blk_below BKn.out hb); have n2_ := am_ (Kd.S_lower hx (below_size HB.out)); clear HB BKn zn0 zn1 zn2 hb hx; have HB := n0_; have BKn := n1_; have HX := n2_; clear n0_ n1_ n2_; have zn0 : w6.cell? ⟨gn, 0, none⟩ = some (.int .i64 a0_0) := (blk_cell BKn.out 0).trans rfl; have zn1 : w6.cell? ⟨gn, 1, none⟩ = some (.bool a0_1) := (blk_cell BKn.out 1).trans rfl; have zn2 : w6.cell? ⟨gn, 2, none⟩ = some (.slice A0_2 l0_2.length c0_2) := (blk_cell BKn.out 2).trans rfl)
    | (go_at_call 50; (with_reducible refine (table_Moves.calls k A4 c4 l4 M e4 _ ?side61 HC4.out HE4.out).mono ?_); (case side61 => exact (Kd.C_below HR4.out HB.out)); rintro e7 w7 ⟨vm, rfl, hm, hb⟩; have n0_ := am_ (below_step HB.out hb); have n1_ := am_ (blk_below BKn.out hb); have n2_ := am_ (Kd.R_lower hm (below_size HB.out)); have n3_ := am_ (Kd.S_below HX.out hb); clear HB BKn HX zn0 zn1 zn2 hb hm; have HB := n0_; have BKn := n1_; have HM := n2_; have HX := n3_; clear n0_ n1_ n2_ n3_; have zn0 : w7.cell? ⟨gn, 0, none⟩ = some (.int .i64 a0_0) := (blk_cell BKn.out 0).trans rfl; have zn1 : w7.cell? ⟨gn, 1, none⟩ = some (.bool a0_1) := (blk_cell BKn.out 1).trans rfl; have zn2 : w7.cell? ⟨gn, 2, none⟩ = some (.slice A0_2 l0_2.length c0_2) := (blk_cell BKn.out 2).trans rfl)
    | (go_at_call 39; refine (expand_Of.calls a0_0 a3 a1 a2 a0_1 A0_2 c0_2 l0_2 _ (Kd.C_below HR0.out HB.out) HC0.out HOK.out HEN.out.1 HEN.out.2.1 HEN.out.2.2.1 HEN.out.2.2.2).mono ?_; rintro e8 w8 ⟨gg, v, m1, m2, m3, m4, rfl, hG, hb⟩; obtain ⟨Av, cv, ev⟩ := Kd.R_slice hG.row; generalize (gridArcs a0_0 a3 a0_1 a1 a2 l0_2).length = n at ev HFO HLE HL2 HNB; generalize (atLoop a0_0 a3 a0_1 a1 a2 l0_2 (a3.toNat + 1)).2.1 = l1 at hG HLE HFO; generalize (atLoop a0_0 a3 a0_1 a1 a2 l0_2 (a3.toNat + 1)).2.2 = l2 at hG HLE HL2; generalize (atLoop a0_0 a3 a0_1 a1 a2 l0_2 (a3.toNat + 1)).1.length = nb at hG HLE HNB; subst ev; have n0_ := am_ (below_step HB.out hb); have n1_ := am_ (Kd.S_below HX.out hb); have n2_ := am_ (Kd.R_below HM.out hb); have HG := am_ hG; clear HB BKn HX HM zn0 zn1 zn2 hb hG; have HB := n0_; have HX := n1_; have HM := n2_; clear n0_ n1_ n2_; have zg2 : w8.cell? ⟨gg, 2, none⟩ = some (.slice Av n cv) := (blk_cell HG.out.blk 2).trans rfl)
    | ((with_reducible refine gate_dst (N := 73) rfl ?_); refine mk_ints _ rfl _ _ rfl n rfl rfl (by have := HNB.out; omega) ?_; intro go w9 hgo hbox hb; have GEo := am_ (show w8.heap.size ≤ go by rw [hgo]; exact Nat.le_refl _); have HA := am_ hb; have BKo := am_ hbox; clear hb hbox hgo zg2; obtain ⟨Am, cm, em⟩ := Kd.R_slice HM.out; subst em; obtain ⟨Ax, cx, ex⟩ := Kd.S_slice HX.out; subst ex))
   have hfo := HFO.out
   unfold flowOk at hfo
   simp only [Bool.and_eq_true, decide_eq_true_eq] at hfo
   have HXL := am_ hfo.1
   have HML := am_ hfo.2
   clear hfo
   go_loopg [76] M.length (fun kq vi w' => ∃ (j : Nat), vi = .int .i64 (j : Int) ∧ Aside0 (j + kq = M.length) ∧ Aside0 (Below w8.heap.size w8 w') ∧ Aside0 (w'.heap[go]? = some (.cells (ints (out1 l1 (M.take j) n)) 3 (0, 0))))
   case atStart => exact ⟨0, rfl, ⟨Nat.zero_add _⟩, HA, BKo⟩
   case round =>
    clear HA BKo
    obtain ⟨j, rfl, HJ, HA, BKo⟩ := hrel
    have hJ := HJ.out
    cases gk with
    | zero =>
     have hj : j = M.length := by omega
     have b1 : decide ((j : Int) < (M.length : Int)) = false := decide_eq_false (by omega)
     subst hj
     have n0_ : Aside0 (wr.heap[go]? = some (.cells (ints (out1 l1 M n)) 3 (0, 0))) := ⟨by have h_ := BKo.out; rw [List.take_length] at h_; exact h_⟩
     clear BKo hJ HJ
     have BKo := n0_
     clear n0_
     have zg4 : wr.cell? ⟨gg, 4, none⟩ = some (.map (some m2)) := (HA.out.cell (World.block_lt_of_cell? w8 _ ((blk_cell HG.out.blk 4).trans rfl))).trans ((blk_cell HG.out.blk 4).trans rfl)
     have HRL := am_ (show ∀ i : Int, 0 ≤ i → i < (xs.length : Int) → (rd_L3 xs i).length = a0_0.toNat from fun i h0 h1 => by
      have e_ : rd_L3 xs i = xs[i.toNat]'(by omega) := by unfold rd_L3; rw [List.getD_eq_getElem?_getD, List.getElem?_eq_getElem (by omega)]; rfl
      rw [e_]
      exact of_decide_eq_true (List.all_eq_true.1 HXL.out.2 _ (List.getElem_mem _)))
     have HO1 := am_ (out1_length l1 M n)
     generalize out1 l1 M n = o1 at BKo HLE HO1
     clear b1
     go_wp2_with (first
      | (at_range; refine mrange E26 rfl _ 73 rfl Try.underlying73 rfl (HG.out.M2.below HA.out) HL2.out.keys ?_; intro r wq hr hR hg hs; clear zg4; have GEr := am_ (show w8.heap.size ≤ r by rw [hr]; exact below_size HA.out); have n0_ := am_ (Below.grown HA.out hg (below_size HA.out) (fun k_ e_ => by cases e_)); have n1_ := am_ (blk_grown BKo.out hg (fun e_ => by cases e_)); clear HA BKo hg hs hr; have HA := n0_; have BKo := n1_; have HR := am_ hR; clear n0_ n1_ hR))
     go_frame
     go_loopg [] l2.length (fun kq w' => ∃ (vis : List ((Int × Int) × Int)), Aside0 (vis.length + kq = l2.length) ∧ Aside0 (MapR E26 w' m2 r l2.length l2 vis) ∧ Aside0 (Below w8.heap.size w8 w') ∧ Aside0 (w'.heap[go]? = some (.cells (ints (out2 xs vis o1)) 3 (0, 0))))
     case atStart => exact ⟨[], ⟨Nat.zero_add _⟩, HR, HA, BKo⟩
     case round =>
      clear HA BKo HR
      obtain ⟨vis, HV, HR, HA, BKo⟩ := hrel
      go_wp2_with (first | (at_next; refine mnext E26 rfl _ rfl rfl HR.out ?_ ?_))
      ·intro hperm
       have n0_ : Aside0 (wr.heap[go]? = some (.cells (ints (out2 xs l2 o1)) 3 (0, 0))) := ⟨by have h_ := BKo.out; unfold out2 at h_ ⊢; rw [P.setAll_perm hperm _ _ o1 HL2.out.idx (fun x hx => by have h5 := (HL2.out.bd x hx).1; rw [HO1.out]; omega)] at h_; exact h_⟩
       clear BKo hperm HR HV
       have BKo := n0_
       clear n0_
       have HO2 := am_ (show (out2 xs l2 o1).length = n from (out2_length xs l2 o1).trans HO1.out)
       generalize out2 xs l2 o1 = o2 at BKo HLE HO2
       go_wp2
       go_loopg [119] (a3.toNat + 1) (fun kq vi w' => ∃ (j : Nat), vi = .int .i64 (j : Int) ∧ Aside0 (j + kq = a3.toNat + 1) ∧ Aside0 (Below w8.heap.size w8 w') ∧ Aside0 (w'.heap[go]? = some (.cells (ints (out3 xs a1 a2 nb (a3.toNat + 1) o2 j)) 3 (0, 0))))
       case atStart => exact ⟨0, rfl, ⟨Nat.zero_add _⟩, HA, BKo⟩
       case round =>
        clear HA BKo
        obtain ⟨j, rfl, HJ, HA, BKo⟩ := hrel
        have hJ := HJ.out
        cases gk with
        | zero =>
         have hj : j = a3.toNat + 1 := by omega
         have b1 : decide ((j : Int) < wrap64 (a3 + 1)) = false := by rw [wrapId (by have := HNB.out; omega) (by have := HNB.out; omega)]; exact decide_eq_false (by have := HNB.out; omega)
         have HJ2 := am_ hj
         clear hj hJ
         go_wp2
         go_ret2
         have hol := (out3_length xs a1 a2 nb (a3.toNat + 1) o2 j).trans HO2.out
         have hR := R_block BKo.out (Nat.le_trans (below_size HB.out) GEo.out) (by rw [hol]; have := HNB.out; omega)
         rw [hol] at hR
         rw [HJ2.out] at hR
         rw [HLE.out] at hR
         exact ⟨_, rfl, hR, below_step HB.out HA.out⟩
        | succ gk0 =>
         have hja : (j : Int) ≤ a3 := by have := HNB.out; omega
         have b1 : decide ((j : Int) < wrap64 (a3 + 1)) = true := by rw [wrapId (by have := HNB.out; omega) (by have := HNB.out; omega)]; exact decide_eq_true (by omega)
         have hwj : wrap64 ((j : Int) + 1) = ((j + 1 : Nat) : Int) := P.wrap1 (by have := HNB.out; omega)
         have hxl : (j : Int) < (xs.length : Int) := by have := HXL.out.1; have := HNB.out; omega
         have hrl := HRL.out (j : Int) (by omega) hxl
         obtain ⟨ad, A5, c5, ea, hx0, hl0, hi0⟩ := at_L3 (Kd.S_reads' HX.out).2.2 (j : Int) (by omega) hxl
         cases ea
         obtain ⟨af, eb, hv⟩ := Kd.at_int hi0 a1 HEN.out.1 (by rw [hrl]; have := HEN.out; omega)
         cases eb
         obtain ⟨af', eb, hu⟩ := Kd.at_int hi0 a2 HEN.out.2.2.1 (by rw [hrl]; have := HEN.out; omega)
         obtain rfl : af = af' := Option.some.inj eb
         clear eb
         rw [Int.toNat_natCast] at hx0
         have p0 := eq_true (show (0 : Int) ≤ (j : Int) by omega)
         have p1 := eq_true hxl
         have p2 := eq_true HEN.out.1
         have p3 := eq_true HEN.out.2.2.1
         have p4 := eq_true (show a1 < ((rd_L3 xs (j : Int)).length : Int) by rw [hrl]; have := HEN.out; omega)
         have p5 := eq_true (show a2 < ((rd_L3 xs (j : Int)).length : Int) by rw [hrl]; have := HEN.out; omega)
         have HWJ := am_ hwj
         have HJA := am_ hja
         have hx8 := am_ hx0
         have hv8 := am_ hv
         have hu8 := am_ hu
         replace hx0 := (HA.out.cell (World.block_lt_of_cell? w8 _ hx0)).trans hx0
         replace hv := (HA.out.cell (World.block_lt_of_cell? w8 _ hv)).trans hv
         replace hu := (HA.out.cell (World.block_lt_of_cell? w8 _ hu)).trans hu
         clear hl0 hi0 hrl hxl hwj hja hJ
         by_cases b0 : j = 0
         ·have b2 : decide ((j : Int) > 0) = false := decide_eq_false (by omega)
          have b3 : decide (0 < j) = false := decide_eq_false (by omega)
          have HLL : Aside0 (leftN xs a1 j = wrap64 (-(rd (rd_L3 xs (j : Int)) a1))) := ⟨by subst b0; rfl⟩
          have HRR : Aside0 (cameN xs a2 j = rd (rd_L3 xs (j : Int)) a2) := ⟨by subst b0; rfl⟩
          clear b0
          go_wp2
          go_quiet (fail)
          go_wp2
          have n0_ := am_ (pw_below_drewN HA.out nq)
          have n1_ := am_ (blk_drewN BKo.out nq)
          clear HA BKo hx0 hv hu b2 b3
          have HA := n0_
          have BKo := n1_
          clear n0_ n1_
          generalize wr.drewN nq = wq at HA BKo ⊢
          generalize wrap64 (-(rd (rd_L3 xs (j : Int)) a1)) = LL at HLL ⊢
          generalize rd (rd_L3 xs (j : Int)) a2 = RR at HRR ⊢
          have n0_ := am_ (below_drew1 HA.out)
          have n1_ := am_ (blk_drew BKo.out)
          clear HA BKo
          have HA := n0_
          have BKo := n1_
          clear n0_ n1_
          refine start_ (n := 20) (S := fun w' => w'.cell? ⟨gg, 5, none⟩ = some (.map (some m3)) ∧ w'.cell? ⟨gg, 6, none⟩ = some (.map (some m4)) ∧ MapI E3 w' m3 (placesL nb (a3.toNat + 1)).length (placesL nb (a3.toNat + 1)) ∧ MapI E3 w' m4 (placesL (nb + (a3.toNat + 1)) (a3.toNat + 1)).length (placesL (nb + (a3.toNat + 1)) (a3.toNat + 1))) (ds := [17, 19]) #[Ff,Ff,Ff,Ff,Ff,Ff,Ff,Ff,Ff,Ff,Ff,Ff,Ff,Ff,Ff,Ff,Ff,Ff,Ff,Ff] (by kernel_rfl) rfl rfl ⟨(blk_cell (blk_below HG.out.blk HA.out) 5).trans rfl, (blk_cell (blk_below HG.out.blk HA.out) 6).trans rfl, HG.out.M3.below HA.out, HG.out.M4.below HA.out⟩ (fun hHeld => ?_)
          generalize wq.drew = w11 at HA BKo hHeld ⊢
          obtain ⟨i1, hi1⟩ : ∃ i1 : Nat, Aside0 (i1 = nb + j) := ⟨_, ⟨rfl⟩⟩
          obtain ⟨i2, hi2⟩ : ∃ i2 : Nat, Aside0 (i2 = nb + (a3.toNat + 1) + j) := ⟨_, ⟨rfl⟩⟩
          have HI1 := am_ (show (lookM (placesL nb (a3.toNat + 1)) (j : Int)).getD 0 = (i1 : Int) from by rw [hi1.out]; exact look_places _ _ _ (by have := HJ.out; omega))
          have HI2 := am_ (show (lookM (placesL (nb + (a3.toNat + 1)) (a3.toNat + 1)) (j : Int)).getD 0 = (i2 : Int) from by rw [hi2.out]; exact look_places _ _ _ (by have := HJ.out; omega))
          have hl3 := (out3_length xs a1 a2 nb (a3.toNat + 1) o2 j).trans HO2.out
          have q0 := eq_true (show (0 : Int) ≤ (i1 : Int) by omega)
          have q1 := eq_true (show (i1 : Int) < (n : Int) by have := hi1.out; have := HNB.out; have := HJ.out; omega)
          have q2 := eq_true (show (0 : Int) ≤ (i2 : Int) by omega)
          have q3 := eq_true (show (i2 : Int) < (n : Int) by have := hi2.out; have := HNB.out; have := HJ.out; omega)
          have zo := ints_at BKo.out (i1 : Int) (by omega) (by rw [hl3]; have := hi1.out; have := HNB.out; have := HJ.out; omega)
          have zf := blk_frozen BKo.out i1
          rw [Int.toNat_natCast] at zo
          refine with_tabW expand_Flow.tab27 expand_Flow.bits27 (fun HT_ HW_ => ?_)
          refine pw_ 0 159 ?_
          refine pw_ 1 160 ?_
          refine pw_ 2 161 ?_
          refine pw_ 3 162 ?_
          refine pw_ 5 164 ?_
          refine pw_ 7 166 ?_
          refine pw_ 8 167 ?_
          refine pw_ 9 168 ?_
          refine pw_ 10 169 ?_
          refine pw_ 12 171 ?_
          refine pw_ 14 173 ?_
          refine pw_ 15 174 ?_
          refine tk_ 4 163 ?_
          refine take_ (i := 6) (N := (some 165)) (v := ?_) (a' := ?_) #[Tt,Tt,Tt,Tt,Tt,Tt,Tt,Tt,Tt,Tt,Tt,Ff,Tt,Ff,Tt,Tt,Ff,Ff,Ff,Ff] rfl rfl (take_ofW HT_.out HW_.out (by kernel_rfl)) (fun _ _ _ h => h) (Or.inl ⟨by rfl, ?_⟩) hHeld ?_ ?_
          rotate_left
          ·intro w' s0
           refine mlook_run E3 (.tmp 163) (.tmp 164) 74 ?_ Try.underlying74 ?_ s0.2.2.1 (j : Int) ?_ ?_ (i1 : Int) HI1.out
           ·rfl
           ·rfl
           ·rfl
           ·exact wf_i64B (by omega) (by have := HJA.out; have := HNB.out; omega)
          rotate_left
          exact ap_
          refine tk_ 11 170 ?_
          refine take_ (i := 13) (N := (some 172)) (v := ?_) (a' := ?_) #[Tt,Tt,Tt,Tt,Tt,Tt,Tt,Tt,Tt,Tt,Tt,Tt,Tt,Tt,Tt,Tt,Ff,Ff,Ff,Ff] rfl rfl (take_ofW HT_.out HW_.out (by kernel_rfl)) (fun _ _ _ h => h) (Or.inl ⟨by rfl, ?_⟩) hHeld ?_ ?_
          rotate_left
          ·intro w' s0
           refine mlook_run E3 (.tmp 170) (.tmp 171) 74 ?_ Try.underlying74 ?_ s0.2.2.2 (j : Int) ?_ ?_ (i2 : Int) HI2.out
           ·rfl
           ·rfl
           ·rfl
           ·exact wf_i64B (by omega) (by have := HJA.out; have := HNB.out; omega)
          rotate_left
          exact ap_
          refine pw_ 16 175 ?_
          refine last_ (i := 17) (N := none) #[Tt,Tt,Tt,Tt,Tt,Tt,Tt,Tt,Tt,Tt,Tt,Tt,Tt,Tt,Tt,Tt,Tt,Tt,Ff,Ff] rfl rfl (one_of HT_.out (by kernel_rfl)) (by decide) (fun K hK => ?_)
          refine skip_ (w1 := ?_) (by rfl) rfl ?_ ?_
          rotate_left
          ·go_simp
           rfl
          refine hK.out _ _ ?_
          clear hK K
          have n0_ := am_ (below_set HA.out GEo.out (j := i1) (v := .int .i64 LL))
          have n1_ := am_ (ints_put BKo.out i1 LL)
          clear HA BKo zo zf hHeld
          have HA := n0_
          have BKo := n1_
          clear n0_ n1_
          generalize w11.setCell ⟨go, i1, none⟩ (.int .i64 LL) = w12 at HA BKo ⊢
          have zo := ints_at BKo.out (i2 : Int) (by omega) (by rw [List.length_set, hl3]; have := hi2.out; have := HNB.out; have := HJ.out; omega)
          have zf := blk_frozen BKo.out i2
          rw [Int.toNat_natCast] at zo
          refine pw_ 18 176 ?_
          refine last_ (i := 19) (N := none) #[Tt,Tt,Tt,Tt,Tt,Tt,Tt,Tt,Tt,Tt,Tt,Tt,Tt,Tt,Tt,Tt,Tt,Tt,Tt,Tt] rfl rfl (one_of HT_.out (by kernel_rfl)) (by decide) (fun K hK => ?_)
          refine skip_ (w1 := ?_) (by rfl) rfl ?_ ?_
          rotate_left
          ·go_simp
           rfl
          refine hK.out _ _ ?_
          clear hK K
          refine done_ (done_of HT_.out (by kernel_rfl)) ?_
          have n0_ := am_ (below_set HA.out GEo.out (j := i2) (v := .int .i64 RR))
          have n1_ : Aside0 ((w12.setCell ⟨go, i2, none⟩ (.int .i64 RR)).heap[go]? = some (.cells (ints (out3 xs a1 a2 nb (a3.toNat + 1) o2 (j + 1))) 3 (0, 0))) := ⟨by rw [out3_succ, HLL.out, HRR.out, ← hi1.out, ← hi2.out]; exact ints_put BKo.out i2 _⟩
          clear HA BKo zo zf
          have HA := n0_
          have BKo := n1_
          clear n0_ n1_
          try go_wp2
          go_roundg gk0
          case measure => omega
          case rel => exact ⟨j + 1, congrArg (Value.int .i64) HWJ.out, ⟨by have := HJ.out; omega⟩, HA, BKo⟩
         ·have b2 : decide ((j : Int) > 0) = true := decide_eq_true (by omega)
          have b3 : decide (0 < j) = true := decide_eq_true (by omega)
          have hwm : wrap64 ((j : Int) - 1) = ((j - 1 : Nat) : Int) := by rw [wrapId (by have := HNB.out; have := HJA.out; omega) (by have := HNB.out; have := HJA.out; omega)]; omega
          have HLL : Aside0 (leftN xs a1 j = wrap64 (wrap64 (-(rd (rd_L3 xs (j : Int)) a1)) + rd (rd_L3 xs ((j - 1 : Nat) : Int)) a1)) := ⟨by unfold leftN; rw [if_neg b0]; rfl⟩
          have HRR : Aside0 (cameN xs a2 j = wrap64 (rd (rd_L3 xs (j : Int)) a2 - rd (rd_L3 xs ((j - 1 : Nat) : Int)) a2)) := ⟨by unfold cameN; rw [if_neg b0]; rfl⟩
          have hxl1 : ((j - 1 : Nat) : Int) < (xs.length : Int) := by have := HXL.out.1; have := HNB.out; have := HJA.out; omega
          have hrl1 := HRL.out ((j - 1 : Nat) : Int) (by omega) hxl1
          obtain ⟨ad1, A6, c6, ea1, hy0, hl1, hi1⟩ := at_L3 (Kd.S_reads' HX.out).2.2 ((j - 1 : Nat) : Int) (by omega) hxl1
          obtain rfl : ad = ad1 := Option.some.inj ea1
          obtain ⟨ag, eb1, hv1⟩ := Kd.at_int hi1 a1 HEN.out.1 (by rw [hrl1]; have := HEN.out; omega)
          cases eb1
          obtain ⟨ag', eb1, hu1⟩ := Kd.at_int hi1 a2 HEN.out.2.2.1 (by rw [hrl1]; have := HEN.out; omega)
          obtain rfl : ag = ag' := Option.some.inj eb1
          clear eb1 ea1
          have t0 := eq_true (show (0 : Int) ≤ ((j - 1 : Nat) : Int) by omega)
          have t1 := eq_true hxl1
          have t4 := eq_true (show a1 < ((rd_L3 xs ((j - 1 : Nat) : Int)).length : Int) by rw [hrl1]; have := HEN.out; omega)
          have t5 := eq_true (show a2 < ((rd_L3 xs ((j - 1 : Nat) : Int)).length : Int) by rw [hrl1]; have := HEN.out; omega)
          rw [Int.toNat_natCast] at hy0
          replace hy0 := (HA.out.cell (World.block_lt_of_cell? w8 _ hy0)).trans hy0
          replace hv1 := (HA.out.cell (World.block_lt_of_cell? w8 _ hv1)).trans hv1
          replace hu1 := (HA.out.cell (World.block_lt_of_cell? w8 _ hu1)).trans hu1
          generalize j - 1 = j1 at hwm HLL HRR t0 t1 t4 t5 hy0 hv1 hu1
          clear b0 hl1 hi1 hrl1 hxl1
          go_wp2
          go_quiet (fail)
          have hy0q := ((pw_below_drewN (Below.refl wr.heap.size wr) nq).cell (World.block_lt_of_cell? wr _ hy0)).trans hy0
          have hv1q := ((pw_below_drewN (Below.refl wr.heap.size wr) nq).cell (World.block_lt_of_cell? wr _ hv1)).trans hv1
          have hu1q := ((pw_below_drewN (Below.refl wr.heap.size wr) nq).cell (World.block_lt_of_cell? wr _ hu1)).trans hu1
          go_wp2
          have n0_ := am_ (pw_below_drewN HA.out nq)
          have n1_ := am_ (blk_drewN BKo.out nq)
          clear HA BKo hx0 hv hu b2 b3 hy0 hv1 hu1 hy0q hv1q hu1q
          have HA := n0_
          have BKo := n1_
          clear n0_ n1_
          generalize wr.drewN nq = wq at HA BKo ⊢
          generalize wrap64 (wrap64 (-(rd (rd_L3 xs (j : Int)) a1)) + rd (rd_L3 xs (j1 : Int)) a1) = LL at HLL ⊢
          generalize wrap64 (rd (rd_L3 xs (j : Int)) a2 - rd (rd_L3 xs (j1 : Int)) a2) = RR at HRR ⊢
          have n0_ := am_ (below_drew1 HA.out)
          have n1_ := am_ (blk_drew BKo.out)
          clear HA BKo
          have HA := n0_
          have BKo := n1_
          clear n0_ n1_
          refine start_ (n := 20) (S := fun w' => w'.cell? ⟨gg, 5, none⟩ = some (.map (some m3)) ∧ w'.cell? ⟨gg, 6, none⟩ = some (.map (some m4)) ∧ MapI E3 w' m3 (placesL nb (a3.toNat + 1)).length (placesL nb (a3.toNat + 1)) ∧ MapI E3 w' m4 (placesL (nb + (a3.toNat + 1)) (a3.toNat + 1)).length (placesL (nb + (a3.toNat + 1)) (a3.toNat + 1))) (ds := [17, 19]) #[Ff,Ff,Ff,Ff,Ff,Ff,Ff,Ff,Ff,Ff,Ff,Ff,Ff,Ff,Ff,Ff,Ff,Ff,Ff,Ff] (by kernel_rfl) rfl rfl ⟨(blk_cell (blk_below HG.out.blk HA.out) 5).trans rfl, (blk_cell (blk_below HG.out.blk HA.out) 6).trans rfl, HG.out.M3.below HA.out, HG.out.M4.below HA.out⟩ (fun hHeld => ?_)
          generalize wq.drew = w11 at HA BKo hHeld ⊢
          obtain ⟨i1, hi1⟩ : ∃ i1 : Nat, Aside0 (i1 = nb + j) := ⟨_, ⟨rfl⟩⟩
          obtain ⟨i2, hi2⟩ : ∃ i2 : Nat, Aside0 (i2 = nb + (a3.toNat + 1) + j) := ⟨_, ⟨rfl⟩⟩
          have HI1 := am_ (show (lookM (placesL nb (a3.toNat + 1)) (j : Int)).getD 0 = (i1 : Int) from by rw [hi1.out]; exact look_places _ _ _ (by have := HJ.out; omega))
          have HI2 := am_ (show (lookM (placesL (nb + (a3.toNat + 1)) (a3.toNat + 1)) (j : Int)).getD 0 = (i2 : Int) from by rw [hi2.out]; exact look_places _ _ _ (by have := HJ.out; omega))
          have hl3 := (out3_length xs a1 a2 nb (a3.toNat + 1) o2 j).trans HO2.out
          have q0 := eq_true (show (0 : Int) ≤ (i1 : Int) by omega)
          have q1 := eq_true (show (i1 : Int) < (n : Int) by have := hi1.out; have := HNB.out; have := HJ.out; omega)
          have q2 := eq_true (show (0 : Int) ≤ (i2 : Int) by omega)
          have q3 := eq_true (show (i2 : Int) < (n : Int) by have := hi2.out; have := HNB.out; have := HJ.out; omega)
          have zo := ints_at BKo.out (i1 : Int) (by omega) (by rw [hl3]; have := hi1.out; have := HNB.out; have := HJ.out; omega)
          have zf := blk_frozen BKo.out i1
          rw [Int.toNat_natCast] at zo
          refine with_tabW expand_Flow.tab27 expand_Flow.bits27 (fun HT_ HW_ => ?_)
          refine pw_ 0 159 ?_
          refine pw_ 1 160 ?_
          refine pw_ 2 161 ?_
          refine pw_ 3 162 ?_
          refine pw_ 5 164 ?_
          refine pw_ 7 166 ?_
          refine pw_ 8 167 ?_
          refine pw_ 9 168 ?_
          refine pw_ 10 169 ?_
          refine pw_ 12 171 ?_
          refine pw_ 14 173 ?_
          refine pw_ 15 174 ?_
          refine tk_ 4 163 ?_
          refine take_ (i := 6) (N := (some 165)) (v := ?_) (a' := ?_) #[Tt,Tt,Tt,Tt,Tt,Tt,Tt,Tt,Tt,Tt,Tt,Ff,Tt,Ff,Tt,Tt,Ff,Ff,Ff,Ff] rfl rfl (take_ofW HT_.out HW_.out (by kernel_rfl)) (fun _ _ _ h => h) (Or.inl ⟨by rfl, ?_⟩) hHeld ?_ ?_
          rotate_left
          ·intro w' s0
           refine mlook_run E3 (.tmp 163) (.tmp 164) 74 ?_ Try.underlying74 ?_ s0.2.2.1 (j : Int) ?_ ?_ (i1 : Int) HI1.out
           ·rfl
           ·rfl
           ·rfl
           ·exact wf_i64B (by omega) (by have := HJA.out; have := HNB.out; omega)
          rotate_left
          exact ap_
          refine tk_ 11 170 ?_
          refine take_ (i := 13) (N := (some 172)) (v := ?_) (a' := ?_) #[Tt,Tt,Tt,Tt,Tt,Tt,Tt,Tt,Tt,Tt,Tt,Tt,Tt,Tt,Tt,Tt,Ff,Ff,Ff,Ff] rfl rfl (take_ofW HT_.out HW_.out (by kernel_rfl)) (fun _ _ _ h => h) (Or.inl ⟨by rfl, ?_⟩) hHeld ?_ ?_
          rotate_left
          ·intro w' s0
           refine mlook_run E3 (.tmp 170) (.tmp 171) 74 ?_ Try.underlying74 ?_ s0.2.2.2 (j : Int) ?_ ?_ (i2 : Int) HI2.out
           ·rfl
           ·rfl
           ·rfl
           ·exact wf_i64B (by omega) (by have := HJA.out; have := HNB.out; omega)
          rotate_left
          exact ap_
          refine pw_ 16 175 ?_
          refine last_ (i := 17) (N := none) #[Tt,Tt,Tt,Tt,Tt,Tt,Tt,Tt,Tt,Tt,Tt,Tt,Tt,Tt,Tt,Tt,Tt,Tt,Ff,Ff] rfl rfl (one_of HT_.out (by kernel_rfl)) (by decide) (fun K hK => ?_)
          refine skip_ (w1 := ?_) (by rfl) rfl ?_ ?_
          rotate_left
          ·go_simp
           rfl
          refine hK.out _ _ ?_
          clear hK K
          have n0_ := am_ (below_set HA.out GEo.out (j := i1) (v := .int .i64 LL))
          have n1_ := am_ (ints_put BKo.out i1 LL)
          clear HA BKo zo zf hHeld
          have HA := n0_
          have BKo := n1_
          clear n0_ n1_
          generalize w11.setCell ⟨go, i1, none⟩ (.int .i64 LL) = w12 at HA BKo ⊢
          have zo := ints_at BKo.out (i2 : Int) (by omega) (by rw [List.length_set, hl3]; have := hi2.out; have := HNB.out; have := HJ.out; omega)
          have zf := blk_frozen BKo.out i2
          rw [Int.toNat_natCast] at zo
          refine pw_ 18 176 ?_
          refine last_ (i := 19) (N := none) #[Tt,Tt,Tt,Tt,Tt,Tt,Tt,Tt,Tt,Tt,Tt,Tt,Tt,Tt,Tt,Tt,Tt,Tt,Tt,Tt] rfl rfl (one_of HT_.out (by kernel_rfl)) (by decide) (fun K hK => ?_)
          refine skip_ (w1 := ?_) (by rfl) rfl ?_ ?_
          rotate_left
          ·go_simp
           rfl
          refine hK.out _ _ ?_
          clear hK K
          refine done_ (done_of HT_.out (by kernel_rfl)) ?_
          have n0_ := am_ (below_set HA.out GEo.out (j := i2) (v := .int .i64 RR))
          have n1_ : Aside0 ((w12.setCell ⟨go, i2, none⟩ (.int .i64 RR)).heap[go]? = some (.cells (ints (out3 xs a1 a2 nb (a3.toNat + 1) o2 (j + 1))) 3 (0, 0))) := ⟨by rw [out3_succ, HLL.out, HRR.out, ← hi1.out, ← hi2.out]; exact ints_put BKo.out i2 _⟩
          clear HA BKo zo zf
          have HA := n0_
          have BKo := n1_
          clear n0_ n1_
          try go_wp2
          go_roundg gk0
          case measure => omega
          case rel => exact ⟨j + 1, congrArg (Value.int .i64) HWJ.out, ⟨by have := HJ.out; omega⟩, HA, BKo⟩
      ·intro pv pa pi w' hp hnv hR2 hg hs hen
       have n0_ := am_ (Below.grown HA.out hg (below_size HA.out) (fun k_ e_ => by injection e_ with e_; subst e_; exact GEr.out))
       have n1_ := am_ (blk_grown BKo.out hg (fun e_ => (HR.out.ne BKo.out).2 (Option.some.inj e_)))
       have hbd := HL2.out.bd _ hp
       have hV2 : vis.length + 1 ≤ l2.length := by have := hR2.le; rw [List.length_append] at this; exact this
       have hT : out2 xs (vis ++ [((pv, pa), pi)]) o1 = (out2 xs vis o1).set pi.toNat (rd (rd_L3 xs pa) pv) := by unfold out2; rw [P.setAll_snoc]; rfl
       clear HA BKo HR hg hs hnv hp
       have HA := n0_
       have BKo := n1_
       have HR := am_ hR2
       have HV2 := am_ hV2
       have HT := am_ hT
       clear n0_ n1_ hR2 hV2 hT
       have hbd : (0 ≤ pi ∧ pi < (n : Int)) ∧ (0 ≤ pa ∧ pa ≤ a3) ∧ 0 ≤ pv ∧ pv < a0_0 := hbd
       obtain ⟨⟨pi0, pi1⟩, ⟨pa0, pa1⟩, pv0, pv1⟩ := hbd
       have hxl : pa < (xs.length : Int) := by have := HXL.out.1; have := HNB.out; omega
       have hrl := HRL.out pa pa0 hxl
       obtain ⟨ad, A5, c5, ea, hx0, hl0, hi0⟩ := at_L3 (Kd.S_reads' HX.out).2.2 pa pa0 hxl
       cases ea
       obtain ⟨af, eb, hv⟩ := Kd.at_int hi0 pv pv0 (by rw [hrl]; omega)
       cases eb
       have hpv : pv < ((rd_L3 xs pa).length : Int) := by rw [hrl]; omega
       replace hx0 := (HA.out.cell (World.block_lt_of_cell? w8 _ hx0)).trans hx0
       replace hv := (HA.out.cell (World.block_lt_of_cell? w8 _ hv)).trans hv
       clear hl0 hi0 hrl
       have HPI := am_ (And.intro pi0 pi1)
       replace pi0 := eq_true pi0
       replace pi1 := eq_true pi1
       replace pa0 := eq_true pa0
       replace hxl := eq_true hxl
       replace pv0 := eq_true pv0
       replace hpv := eq_true hpv
       clear pa1 pv1
       rw [show E26.enc (pv, pa) = .agg #[.int .i64 pv, .int .i64 pa] from rfl] at hen ⊢
       go_wp2
       have n0_ := am_ (below_alloc HA.out (.cells #[.int .i64 pv, .int .i64 pa] 26 (0, 0)))
       have n1_ := am_ (blk_alloc BKo.out (.cells #[.int .i64 pv, .int .i64 pa] 26 (0, 0)))
       have n2_ := am_ (HR.out.alloc (.cells #[.int .i64 pv, .int .i64 pa] 26 (0, 0)))
       have BKx := am_ (blk_new w' (.cells #[.int .i64 pv, .int .i64 pa] 26 (0, 0)))
       have hx1 := ((below_alloc (Below.refl w'.heap.size w') (.cells #[.int .i64 pv, .int .i64 pa] 26 (0, 0))).cell (World.block_lt_of_cell? w' _ hx0)).trans hx0
       have hv1 := ((below_alloc (Below.refl w'.heap.size w') (.cells #[.int .i64 pv, .int .i64 pa] 26 (0, 0))).cell (World.block_lt_of_cell? w' _ hv)).trans hv
       clear HA BKo HR hen hx0 hv
       have HA := n0_
       have BKo := n1_
       have HR := n2_
       clear n0_ n1_ n2_
       generalize hw2 : w'.alloc (.cells #[.int .i64 pv, .int .i64 pa] 26 (0, 0)) = w10 at HA BKo BKx HR hx1 hv1 ⊢
       generalize hgx : w'.heap.size = gx at BKx ⊢
       clear hw2 hgx w'
       have n0_ := am_ (below_drew1 HA.out)
       have n1_ := am_ (blk_drew BKo.out)
       have n2_ := am_ HR.out.drew
       clear HA BKo HR
       have HA := n0_
       have BKo := n1_
       have HR := n2_
       clear n0_ n1_ n2_
       refine start_ (n := 13) (S := fun w' => w'.cell? ⟨gx, 0, none⟩ = some (.int .i64 pv) ∧ w'.cell? ⟨gx, 1, none⟩ = some (.int .i64 pa) ∧ w'.cell? (ad.add pa.toNat) = some (.slice (some af) (rd_L3 xs pa).length c5) ∧ w'.cell? (af.add pv.toNat) = some (.int .i64 (rd (rd_L3 xs pa) pv))) (ds := [12]) #[Ff,Ff,Ff,Ff,Ff,Ff,Ff,Ff,Ff,Ff,Ff,Ff,Ff] (by kernel_rfl) rfl rfl ⟨(blk_cell BKx.out 0).trans rfl, (blk_cell BKx.out 1).trans rfl, hx1, hv1⟩ (fun hHeld => ?_)
       clear hx1 hv1 BKx
       generalize w10.drew = w11 at HA BKo HR hHeld ⊢
       have zo := ints_at BKo.out pi HPI.out.1 (by rw [out2_length, HO1.out]; exact HPI.out.2)
       have zf := blk_frozen BKo.out pi.toNat
       refine with_tabW expand_Flow.tab19 expand_Flow.bits19 (fun HT_ HW_ => ?_)
       refine pw_ 0 105 ?_
       refine pw_ 1 106 ?_
       refine pw_ 2 107 ?_
       refine pw_ 3 108 ?_
       refine pw_ 7 112 ?_
       refine tk_ 4 109 ?_
       refine pw_ 5 110 ?_
       refine tk_ 6 111 ?_
       refine tk_ 8 113 ?_
       refine pw_ 9 114 ?_
       refine tk_ 10 115 ?_
       refine pw_ 11 116 ?_
       refine last_ (i := 12) (N := none) #[Tt,Tt,Tt,Tt,Tt,Tt,Tt,Tt,Tt,Tt,Tt,Tt,Tt] rfl rfl (one_of HT_.out (by kernel_rfl)) (by decide) (fun K hK => ?_)
       refine skip_ (w1 := ?_) (by rfl) rfl ?_ ?_
       rotate_left
       ·go_simp
        rfl
       refine hK.out _ _ ?_
       clear hK K
       refine done_ (done_of HT_.out (by kernel_rfl)) ?_
       have n0_ := am_ (below_set HA.out GEo.out (j := pi.toNat) (v := .int .i64 (rd (rd_L3 xs pa) pv)))
       have n1_ : Aside0 ((w11.setCell ⟨go, pi.toNat, none⟩ (.int .i64 (rd (rd_L3 xs pa) pv))).heap[go]? = some (.cells (ints (out2 xs (vis ++ [((pv, pa), pi)]) o1)) 3 (0, 0))) := ⟨by rw [HT.out]; exact ints_put BKo.out pi.toNat _⟩
       have n2_ := am_ (HR.out.farg BKo.out (j := pi.toNat) (.int .i64 (rd (rd_L3 xs pa) pv)))
       clear HA BKo HR zo zf hHeld HT
       have HA := n0_
       have BKo := n1_
       have HR := n2_
       clear n0_ n1_ n2_
       try go_wp2
       go_roundg (gk - 1)
       case measure => have := HV.out; have := HV2.out; omega
       case rel => exact ⟨vis ++ [((pv, pa), pi)], ⟨by rw [List.length_append]; have := HV.out; have := HV2.out; simp only [List.length_singleton]; omega⟩, HR, HA, BKo⟩
    | succ gk0 =>
     have hjl : j < M.length := by omega
     have b1 : decide ((j : Int) < (M.length : Int)) = true := decide_eq_true (by omega)
     have hwj : wrap64 ((j : Int) + 1) = ((j + 1 : Nat) : Int) := P.wrap1 (by have := HML.out.1; omega)
     obtain ⟨am, ea, y0, y1, y2⟩ := at_T85 (Kd.R_reads' HM.out).2.2 (j : Int) (by omega) (by omega)
     cases ea
     rw [Int.toNat_natCast] at y0 y1 y2
     replace y0 := (HA.out.cell (World.block_lt_of_cell? w8 _ y0)).trans y0
     replace y1 := (HA.out.cell (World.block_lt_of_cell? w8 _ y1)).trans y1
     replace y2 := (HA.out.cell (World.block_lt_of_cell? w8 _ y2)).trans y2
     have p0 := eq_true (show (0 : Int) ≤ (j : Int) by omega)
     have p1 := eq_true (show (j : Int) < (M.length : Int) by omega)
     have hX : rd_T85 M (j : Int) = M[j] := P.rdM_of hjl
     have hQ := of_decide_eq_true (List.all_eq_true.1 HML.out.2 M[j] (List.getElem_mem hjl))
     have hT : out1 l1 (M.take (j + 1)) n = (out1 l1 (M.take j) n).set (idxM l1 M[j]).toNat M[j].f2 := by unfold out1; rw [List.take_succ_eq_append_getElem hjl, P.setAll_snoc]
     rw [hX] at y0 y1 y2
     generalize M[j] = X at y0 y1 y2 hQ hT
     obtain ⟨X0, X1, X2⟩ := X
     have HT := am_ hT
     have HQ := am_ hQ
     have HJL := am_ hjl
     have HWJ := am_ hwj
     clear hX hjl hwj hJ hQ hT
     go_wp2
     have n0_ := am_ (below_alloc HA.out (.cells #[.int .i64 X0, .int .i64 X1, .int .i64 X2] 85 (0, 0)))
     have n1_ := am_ (blk_alloc BKo.out (.cells #[.int .i64 X0, .int .i64 X1, .int .i64 X2] 85 (0, 0)))
     have BKx := am_ (blk_new wr (.cells #[.int .i64 X0, .int .i64 X1, .int .i64 X2] 85 (0, 0)))
     clear HA BKo y0 y1 y2
     have HA := n0_
     have BKo := n1_
     clear n0_ n1_
     generalize hw2 : wr.alloc (.cells #[.int .i64 X0, .int .i64 X1, .int .i64 X2] 85 (0, 0)) = w10 at HA BKo BKx ⊢
     generalize hgx : wr.heap.size = gx at BKx ⊢
     clear hw2 hgx
     have n0_ := am_ (below_drew1 HA.out)
     have n1_ := am_ (blk_drew BKo.out)
     have n2_ := am_ (blk_drew BKx.out)
     clear HA BKo BKx
     have HA := n0_
     have BKo := n1_
     have BKx := n2_
     clear n0_ n1_ n2_
     refine start_ (n := 15) (S := fun w' => w'.cell? ⟨gg, 3, none⟩ = some (.map (some m1)) ∧ w'.cell? ⟨gx, 0, none⟩ = some (.int .i64 X0) ∧ w'.cell? ⟨gx, 1, none⟩ = some (.int .i64 X1) ∧ w'.cell? ⟨gx, 2, none⟩ = some (.int .i64 X2) ∧ MapI E26 w' m1 l1.length l1) (ds := [14]) #[Ff,Ff,Ff,Ff,Ff,Ff,Ff,Ff,Ff,Ff,Ff,Ff,Ff,Ff,Ff] (by kernel_rfl) rfl rfl ⟨(blk_cell (blk_below HG.out.blk HA.out) 3).trans rfl, (blk_cell BKx.out 0).trans rfl, (blk_cell BKx.out 1).trans rfl, (blk_cell BKx.out 2).trans rfl, HG.out.M1.below HA.out⟩ (fun hHeld => ?_)
     generalize w10.drew = w11 at HA BKo BKx hHeld ⊢
     have hix : idxM l1 ⟨X0, X1, X2⟩ = idxM l1 ⟨X0, X1, X2⟩ := rfl
     generalize hi : idxM l1 ⟨X0, X1, X2⟩ = ix at HQ HT
     clear hix
     have HI := am_ (show (lookM l1 (X0, X1)).getD 0 = ix from hi)
     have q0 := eq_true HQ.out.2.1
     have q1 := eq_true HQ.out.2.2
     have zo := ints_at BKo.out ix HQ.out.2.1 (by rw [out1_length]; exact HQ.out.2.2)
     have zf := blk_frozen BKo.out ix.toNat
     clear hi
     refine with_tabW expand_Flow.tab14 expand_Flow.bits14 (fun HT_ HW_ => ?_)
     refine pw_ 0 80 ?_
     refine pw_ 1 81 ?_
     refine pw_ 2 82 ?_
     refine pw_ 3 83 ?_
     refine pw_ 5 85 ?_
     refine pw_ 7 87 ?_
     refine pw_ 11 91 ?_
     refine tk_ 4 84 ?_
     refine tk_ 6 86 ?_
     refine tk_ 8 88 ?_
     refine pw_ 9 89 ?_
     refine take_ (i := 10) (N := (some 90)) (v := ?_) (a' := ?_) #[Tt,Tt,Tt,Tt,Tt,Tt,Tt,Tt,Tt,Tt,Tt,Tt,Ff,Ff,Ff] rfl rfl (take_ofW HT_.out HW_.out (by kernel_rfl)) (fun _ _ _ h => h) (Or.inl ⟨by rfl, ?_⟩) hHeld ?_ ?_
     rotate_left
     ·intro w' s0
      refine mlook_run E26 (.tmp 84) (.tmp 89) 73 ?_ Try.underlying73 ?_ s0.2.2.2.2 (X0, X1) ?_ ?_ ix HI.out
      ·rfl
      ·rfl
      ·rfl
      ·have hg : 0 ≤ X0 ∧ X0 ≤ 1000000 ∧ 0 ≤ X1 ∧ X1 ≤ 1000000 := HQ.out.1
       exact ⟨wf_i64B (by show -9223372036854775808 ≤ X0; omega) (by show X0 ≤ _; omega), wf_i64B (by show -9223372036854775808 ≤ X1; omega) (by show X1 ≤ _; omega)⟩
     rotate_left
     exact ap_
     refine tk_ 12 92 ?_
     refine pw_ 13 93 ?_
     refine last_ (i := 14) (N := none) #[Tt,Tt,Tt,Tt,Tt,Tt,Tt,Tt,Tt,Tt,Tt,Tt,Tt,Tt,Tt] rfl rfl (one_of HT_.out (by kernel_rfl)) (by decide) (fun K hK => ?_)
     refine skip_ (w1 := ?_) (by rfl) rfl ?_ ?_
     rotate_left
     ·go_simp
      rfl
     refine hK.out _ _ ?_
     clear hK K
     refine done_ (done_of HT_.out (by kernel_rfl)) ?_
     have n0_ := am_ (below_set HA.out GEo.out (j := ix.toNat) (v := .int .i64 X2))
     have n1_ : Aside0 ((w11.setCell ⟨go, ix.toNat, none⟩ (.int .i64 X2)).heap[go]? = some (.cells (ints (out1 l1 (M.take (j + 1)) n)) 3 (0, 0))) := ⟨by rw [HT.out]; exact ints_put BKo.out ix.toNat X2⟩
     clear HA BKo zo zf hHeld BKx HT
     have HA := n0_
     have BKo := n1_
     clear n0_ n1_
     try go_wp2
     go_roundg gk0
     case measure => omega
     case rel => exact ⟨j + 1, congrArg (Value.int .i64) HWJ.out, ⟨by have := HJ.out; omega⟩, HA, BKo⟩
  ·rw [if_neg d] at h
   simp only [Option.some.injEq, Prod.mk.injEq] at h
   obtain ⟨rfl, rfl⟩ := h
   have d1 : (e2 == 0) = false := beq_eq_false_iff_ne.2 d
   have d2 : (e2 != 0) = true := bne_iff_ne.2 d
   clear d
   have HOK := am_ (trivial : True)
   have HEN := HOK
   have HLE := HOK
   have HFO := HOK
   have HL2 := HOK
   have HNB := HOK
   have HE3 := HOK
   have HE4 := HOK
   have xs := HOK
   have e3 := HOK
   have M := HOK
   have e4 := HOK
   go_enter Try.func28, Try.ntmps28
   go_wp2_with (first
    | ((with_reducible refine gate_dst (N := 5) rfl ?_); refine box_event ?hg (N := 5) ?hd (cs := #[.int .i64 a0_0, .bool a0_1, .slice A0_2 l0_2.length c0_2]) (t := 24) ?hr ?_; (case hd => rfl); (case hg => rfl); (case hr => first | (go_simp; done) | (go_simp; rfl)); intro gn hg w2 hbox hb; replace HB := am_ (below_step HB.out hb); have BKn := am_ hbox; clear hb hbox hg; have zn0 : w2.cell? ⟨gn, 0, none⟩ = some (.int .i64 a0_0) := (blk_cell BKn.out 0).trans rfl; have zn1 : w2.cell? ⟨gn, 1, none⟩ = some (.bool a0_1) := (blk_cell BKn.out 1).trans rfl; have zn2 : w2.cell? ⟨gn, 2, none⟩ = some (.slice A0_2 l0_2.length c0_2) := (blk_cell BKn.out 2).trans rfl)
    | (go_at_call 38; (with_reducible refine (expand_Asked.calls k a0_0 a0_1 A0_2 c0_2 l0_2 a1 a2 a3 e _ ?side14 HC0.out HE.out).mono ?_); (case side14 => exact (Kd.C_below HR0.out HB.out)); rintro e4 w4 ⟨rfl, hb⟩; have n0_ := am_ (below_step HB.out hb); have n1_ := am_ (blk_below BKn.out hb); clear HB BKn zn0 zn1 zn2 hb; have HB := n0_; have BKn := n1_; clear n0_ n1_; have zn0 : w4.cell? ⟨gn, 0, none⟩ = some (.int .i64 a0_0) := (blk_cell BKn.out 0).trans rfl; have zn1 : w4.cell? ⟨gn, 1, none⟩ = some (.bool a0_1) := (blk_cell BKn.out 1).trans rfl; have zn2 : w4.cell? ⟨gn, 2, none⟩ = some (.slice A0_2 l0_2.length c0_2) := (blk_cell BKn.out 2).trans rfl)
    | (go_at_call 48; (with_reducible refine (plan_Check.calls k a0_0 a0_1 A0_2 c0_2 l0_2 a1 a2 a3 A4 c4 l4 v2 e2 _ ?side24 HC0.out ?side34 HC4.out HE2.out).mono ?_); (case side24 => exact (Kd.C_below HR0.out HB.out)); (case side34 => exact (Kd.C_below HR4.out HB.out)); rintro e5 w5 ⟨rfl, hb⟩; have n0_ := am_ (below_step HB.out hb); have n1_ := am_ (blk_below BKn.out hb); clear HB BKn zn0 zn1 zn2 hb; have HB := n0_; have BKn := n1_; clear n0_ n1_; have zn0 : w5.cell? ⟨gn, 0, none⟩ = some (.int .i64 a0_0) := (blk_cell BKn.out 0).trans rfl; have zn1 : w5.cell? ⟨gn, 1, none⟩ = some (.bool a0_1) := (blk_cell BKn.out 1).trans rfl; have zn2 : w5.cell? ⟨gn, 2, none⟩ = some (.slice A0_2 l0_2.length c0_2) := (blk_cell BKn.out 2).trans rfl))
   go_ret2
   exact ⟨_, rfl, Kd.R_nil _ _ _ _ _, HB.out⟩
 ·rw [if_neg c] at h
  simp only [Option.some.injEq, Prod.mk.injEq] at h
  obtain ⟨rfl, rfl⟩ := h
  have c1 : (e == 0) = false := beq_eq_false_iff_ne.2 c
  have c2 : (e != 0) = true := bne_iff_ne.2 c
  clear c
  have HOK := am_ (trivial : True)
  have HEN := HOK
  have HLE := HOK
  have HFO := HOK
  have HL2 := HOK
  have HNB := HOK
  have HE2 := HOK
  have HE3 := HOK
  have HE4 := HOK
  have v2 := HOK
  have e2 := HOK
  have xs := HOK
  have e3 := HOK
  have M := HOK
  have e4 := HOK
  go_enter Try.func28, Try.ntmps28
  go_wp2_with (first
   | ((with_reducible refine gate_dst (N := 5) rfl ?_); refine box_event ?hg (N := 5) ?hd (cs := #[.int .i64 a0_0, .bool a0_1, .slice A0_2 l0_2.length c0_2]) (t := 24) ?hr ?_; (case hd => rfl); (case hg => rfl); (case hr => first | (go_simp; done) | (go_simp; rfl)); intro gn hg w2 hbox hb; replace HB := am_ (below_step HB.out hb); have BKn := am_ hbox; clear hb hbox hg; have zn0 : w2.cell? ⟨gn, 0, none⟩ = some (.int .i64 a0_0) := (blk_cell BKn.out 0).trans rfl; have zn1 : w2.cell? ⟨gn, 1, none⟩ = some (.bool a0_1) := (blk_cell BKn.out 1).trans rfl; have zn2 : w2.cell? ⟨gn, 2, none⟩ = some (.slice A0_2 l0_2.length c0_2) := (blk_cell BKn.out 2).trans rfl)
   | (go_at_call 38; (with_reducible refine (expand_Asked.calls k a0_0 a0_1 A0_2 c0_2 l0_2 a1 a2 a3 e _ ?side15 HC0.out HE.out).mono ?_); (case side15 => exact (Kd.C_below HR0.out HB.out)); rintro e4 w4 ⟨rfl, hb⟩; have n0_ := am_ (below_step HB.out hb); have n1_ := am_ (blk_below BKn.out hb); clear HB BKn zn0 zn1 zn2 hb; have HB := n0_; have BKn := n1_; clear n0_ n1_; have zn0 : w4.cell? ⟨gn, 0, none⟩ = some (.int .i64 a0_0) := (blk_cell BKn.out 0).trans rfl; have zn1 : w4.cell? ⟨gn, 1, none⟩ = some (.bool a0_1) := (blk_cell BKn.out 1).trans rfl; have zn2 : w4.cell? ⟨gn, 2, none⟩ = some (.slice A0_2 l0_2.length c0_2) := (blk_cell BKn.out 2).trans rfl))
  go_ret2
  exact ⟨_, rfl, Kd.R_nil _ _ _ _ _, HB.out⟩
end Go.Proofs.Ytfhkkbpkajfdlaa.Q
end
