/- A part of the proof: words, contracts, plain lemmas. Conditions: none. -/
import Derived.Test.YtfhkkbpkajfdlaaZExpandPlans9
set_option linter.unusedSimpArgs false
set_option linter.unusedVariables false
section
namespace Go.Proofs.Ytfhkkbpkajfdlaa.Q
open Go.RowKit Go.Maps Go.Proofs.YtfhkkbpkajfdlaaW.PrintWords Go.Proofs.YtfhkkbpkajfdlaaW.PrintLast Go.Proofs.YtfhkkbpkajfdlaaW.PrintMore
def ints (zs : List Int) : Array Value := (zs.map (Value.int .i64)).toArray
theorem ints_get {zs : List Int} {j : Nat} (h : j < zs.length) : (ints zs)[j]? = some (.int .i64 zs[j]) := by unfold ints; simp [h]
theorem ints_set (zs : List Int) (j : Nat) (n : Int) : (ints zs).setIfInBounds j (.int .i64 n) = ints (zs.set j n) := by unfold ints; simp [List.map_set]
theorem ints_size (zs : List Int) : (ints zs).size = zs.length := by unfold ints; simp
theorem ints_list (zs : List Int) : (ints zs).toList = zs.map (Value.int .i64) := by unfold ints; simp
theorem made_ints (n : Nat) : madeCells (Value.int .i64 0).cells (n * 1) = ints (List.replicate n 0) := by
 unfold madeCells ints
 apply Array.ext
 ·simp
 ·intro i h1 h2
  simp [Value.cells, Nat.mod_one]
theorem mk_ints {ops : Array Oper} {rest : List Oper} {o : Oper} {a : Act} {Q : Exit → Act → World → Prop} (w : World) (hg : o.guard = none) (l c : Operand) (hop : o.op = Op.makeSlice 42 l c) (n : Nat) (hl : a.eval l = .int .i64 (n : Int)) (hc : a.eval c = .int .i64 (n : Int)) (hn : n ≤ 1000000000)
 (hK : ∀ g w1, g = w.heap.size → w1.heap[g]? = some (.cells (ints (List.replicate n 0)) 3 (0, 0)) → Below w.heap.size w w1 → wpList Try.prog ops Q rest (a.put o.dst (.slice (some ⟨g, 0, none⟩) n n)) w1) : wpList Try.prog ops Q (o :: rest) a w := by
 refine wpList_plain hg fun K hK' => ?_
 obtain ⟨i3, hi, hz0, hz1, hz2⟩ := info_parts info3
 have hr := run_make (P := Try.prog) w 42 3 i3 (.int .i64 0) Try.underlying42 hi hz0 .i64 .i64 (n : Int) (n : Int) (by omega) (by omega) (by rw [hz2]; omega) (by omega)
 rw [hz1, Int.toNat_natCast, made_ints] at hr
 unfold Oper.wp
 simp [execOp, hop, hl, hc, hr, Result.andThen]
 exact hK' _ _ (hK _ _ rfl (blk_new w _) (below_alloc (Below.refl _ _) _))
theorem R_block {w : World} {g base : Nat} {d : List Int} (h : w.heap[g]? = some (.cells (ints d) 3 (0, 0))) (hb : base ≤ g) (hp : d.length ≤ 1000000) : Kd.R (Kd.int .i64) 3 w base (fun _ => True) (.slice (some ⟨g, 0, none⟩) d.length d.length) d := by
 refine Kd.R_of_own ⟨by rw [encs_length, Nat.mul_one], .inr ⟨g, d.length, ints d, rfl, hb, h, Nat.le_refl _, ?_, by rw [ints_size]; simp, ?_⟩⟩ (fun _ _ => trivial)
 ·simp only [maxLen]; omega
 ·rw [ints_list, List.take_of_length_le (by simp)]; rfl
theorem ints_at {w : World} {g : Nat} {d : List Int} (h : w.heap[g]? = some (.cells (ints d) 3 (0, 0))) (i : Int) (h0 : 0 ≤ i) (h1 : i < (d.length : Int)) : w.cell? ⟨g, i.toNat, none⟩ = some (.int .i64 (rd d i)) := by
 rw [blk_cell h, ints_get (by omega)]
 congr 2
 unfold rd
 rw [List.getD_eq_getElem?_getD, List.getElem?_eq_getElem (by omega)]; rfl
theorem ints_put {w : World} {g : Nat} {d : List Int} (h : w.heap[g]? = some (.cells (ints d) 3 (0, 0))) (i : Nat) (x : Int) : (w.setCell ⟨g, i, none⟩ (.int .i64 x)).heap[g]? = some (.cells (ints (d.set i x)) 3 (0, 0)) := by
 rw [← ints_set]; exact blk_set h i _
theorem mlook_run {o : Oper} {a : Act} {w : World} {K : TypeId} {α : Type} [DecidableEq α] (E : KeyEnc K α) (m x : Operand) (t : TypeId) (hop : o.op = Op.lookup t m x false) (ht : Try.prog.underlying t = some (.map K 3)) {b n : Nat} {es : List (α × Int)}
 (hm : a.eval m = .map (some b)) (hM : MapI E w b n es) (key : α) (hx : a.eval x = E.enc key) (hk : E.good key) (r : Int) (hr : (lookM es key).getD 0 = r) : (execOp a.eval o).run Try.prog w = .ok (.value (.int .i64 r)) w := by
 obtain ⟨c, hrun, hat, hwc⟩ := hM.1.lookup_int E.law ht Try.underlying3 (zeroInt w) (E.key key hk)
 have h2 := at_datM E hM.2 hk
 rw [hat] at h2
 have h3 : (DataW.lit (.int .i64 c) : DataW Unit) = .lit (.int .i64 ((lookM es key).getD 0)) := h2
 obtain rfl : c = (lookM es key).getD 0 := by cases h3; rfl
 subst hr
 simp [execOp, hop, hm, hx, hrun, Result.andThen]
def idxM (l1 : List ((Int × Int) × Int)) (m : S85) : Int := (lookM l1 (m.f0, m.f1)).getD 0
def out1 (l1 : List ((Int × Int) × Int)) (M : List S85) (n : Nat) : List Int := P.setAll M (fun m => (idxM l1 m).toNat) S85.f2 (List.replicate n 0)
def stockAt (xs : List (List Int)) (a v : Int) : Int := rd (rd_L3 xs a) v
def out2 (xs : List (List Int)) (l2 : List ((Int × Int) × Int)) (o : List Int) : List Int := P.setAll l2 (fun p => p.2.toNat) (fun p => stockAt xs p.1.2 p.1.1) o
def leftN (xs : List (List Int)) (s : Int) (a : Nat) : Int := if a = 0 then wrap64 (-(stockAt xs 0 s)) else wrap64 (wrap64 (-(stockAt xs (a : Int) s)) + stockAt xs ((a - 1 : Nat) : Int) s)
def cameN (xs : List (List Int)) (t : Int) (a : Nat) : Int := if a = 0 then stockAt xs 0 t else wrap64 (stockAt xs (a : Int) t - stockAt xs ((a - 1 : Nat) : Int) t)
def out3 (xs : List (List Int)) (s t : Int) (b h1 : Nat) (o : List Int) (n : Nat) : List Int := (List.range n).foldl (fun o a => (o.set (b + a) (leftN xs s a)).set (b + h1 + a) (cameN xs t a)) o
theorem out3_succ (xs : List (List Int)) (s t : Int) (b h1 : Nat) (o : List Int) (n : Nat) : out3 xs s t b h1 o (n + 1) = ((out3 xs s t b h1 o n).set (b + n) (leftN xs s n)).set (b + h1 + n) (cameN xs t n) := by
 unfold out3; rw [List.range_succ, List.foldl_append]; rfl
theorem out3_length (xs : List (List Int)) (s t : Int) (b h1 : Nat) (o : List Int) : ∀ n, (out3 xs s t b h1 o n).length = o.length
 | 0 => rfl
 | n + 1 => by rw [out3_succ, List.length_set, List.length_set, out3_length xs s t b h1 o n]
theorem out1_length (l1 : List ((Int × Int) × Int)) (M : List S85) (n : Nat) : (out1 l1 M n).length = n := by unfold out1; rw [P.setAll_length, List.length_replicate]
theorem out2_length (xs : List (List Int)) (l2 : List ((Int × Int) × Int)) (o : List Int) : (out2 xs l2 o).length = o.length := P.setAll_length _ _ _ _
theorem look_places (b n j : Nat) (h : j < n) : (lookM (placesL b n) (j : Int)).getD 0 = ((b + j : Nat) : Int) := by
 have hd : ((placesL b n).map (·.1)).Nodup := by
  unfold placesL
  rw [List.map_map, List.Nodup, List.pairwise_map]
  exact (List.pairwise_lt_range (n := n)).imp (fun {a c} hac e => by
   have e2 : (a : Int) = (c : Int) := e
   omega)
 have hm : ((j : Int), ((b + j : Nat) : Int)) ∈ placesL b n := by
  unfold placesL
  exact List.mem_map.2 ⟨j, List.mem_range.2 h, rfl⟩
 unfold lookM
 rw [lookM_mem (placesL b n) none _ hd hm]
 rfl
def flowOk (V H : Int) (l1 : List ((Int × Int) × Int)) (n : Nat) (xs : List (List Int)) (M : List S85) : Bool :=
 (decide (xs.length = H.toNat + 1) && xs.all (fun r => decide (r.length = V.toNat))) && (decide (M.length ≤ 1048576) && M.all (fun m => decide ((0 ≤ m.f0 ∧ m.f0 ≤ 1000000 ∧ 0 ≤ m.f1 ∧ m.f1 ≤ 1000000) ∧ 0 ≤ idxM l1 m ∧ idxM l1 m < (n : Int))))
def flowL (V H : Int) (hold : Bool) (s t : Int) (l0 : List S54) (xs : List (List Int)) (M : List S85) : List Int :=
 out3 xs s t (atLoop V H hold s t l0 (H.toNat + 1)).1.length (H.toNat + 1) (out2 xs (atLoop V H hold s t l0 (H.toNat + 1)).2.2 (out1 (gridMoves V H hold s t l0) M (gridArcs V H hold s t l0).length)) (H.toNat + 1)
def expand_Flow.f (k : Nat) (a0_0 : Int) (a0_1 : Bool) (l0_2 : List S54) (a1 a2 a3 : Int) (l4 : List S85) : Option (List Int × Int) := (expand_Asked.f k a0_0 a0_1 l0_2 a1 a2 a3).bind fun e => if e = 0 then ((plan_Check.f k a0_0 a0_1 l0_2 a1 a2 a3 l4).bind fun p2 => if p2.2 = 0 then ((plan_Stocks.f k a0_0 a0_1 l0_2 a1 a2 a3 l4).bind fun p3 => (table_Moves.f k l4).bind fun p4 => if (okNet a0_0 a3 l0_2 = true ∧ (0 ≤ a1 ∧ a1 < a0_0 ∧ 0 ≤ a2 ∧ a2 < a0_0)) ∧ flowOk a0_0 a3 (gridMoves a0_0 a3 a0_1 a1 a2 l0_2) (gridArcs a0_0 a3 a0_1 a1 a2 l0_2).length p3.1 p4.1 = true then some (flowL a0_0 a3 a0_1 a1 a2 l0_2 p3.1 p4.1, 0) else none) else some ([], p2.2)) else some ([], e)
def expand_Flow.T14 : Bool × List (List Nat × List Nat) := (true, [([], []), ([], []), ([1], [1]), ([2], [2]), ([3], [3]), ([], []), ([5], [5]), ([], []), ([7], [7]), ([6, 8], [6, 8]), ([4, 9], [4, 9]), ([], []), ([11], [11]), ([0, 10, 0, 1, 2, 3, 4, 5, 6, 7, 8, 9, 10, 11, 12], [0, 10]), ([13, 12, 0, 1, 2, 3, 4, 5, 6, 7, 8, 9, 10, 11, 12], [12, 13])])
def expand_Flow.B14 : List Nat := [0, 0, 2, 6, 14, 0, 32, 0, 128, 480, 1022, 0, 2048, 8191, 16383]
theorem expand_Flow.tab14 : rtab .any (opsOf Try.f28 14) = expand_Flow.T14 := by kernel_rfl
theorem expand_Flow.bits14 : waitsOk expand_Flow.T14.2 expand_Flow.B14 = true := by kernel_rfl
def expand_Flow.T19 : Bool × List (List Nat × List Nat) := (true, [([], []), ([], []), ([], []), ([], []), ([3], [3]), ([2, 4], [2, 4]), ([5], [5]), ([], []), ([7], [7]), ([6, 8], [6, 8]), ([9], [9]), ([0, 1, 0, 1, 2, 3, 4, 5, 6, 7, 8, 9, 10], [0, 1]), ([11, 10, 0, 1, 2, 3, 4, 5, 6, 7, 8, 9, 10], [10, 11])])
def expand_Flow.B19 : List Nat := [0, 0, 0, 0, 8, 28, 60, 0, 128, 508, 1020, 2047, 4095]
theorem expand_Flow.tab19 : rtab .any (opsOf Try.f28 19) = expand_Flow.T19 := by kernel_rfl
theorem expand_Flow.bits19 : waitsOk expand_Flow.T19.2 expand_Flow.B19 = true := by kernel_rfl
def expand_Flow.T27 : Bool × List (List Nat × List Nat) := (true, [([], []), ([], []), ([1], [1]), ([2], [2]), ([3], [3]), ([], []), ([4, 5], [4, 5]), ([], []), ([], []), ([8], [8]), ([9], [9]), ([10], [10]), ([], []), ([11, 12], [11, 12]), ([], []), ([], []), ([0, 6, 0, 1, 2, 3, 4, 5, 6, 11, 13, 14], [0, 6]), ([16, 14, 0, 1, 2, 3, 4, 5, 6, 11, 13, 14], [14, 16]), ([7, 13, 0, 1, 2, 3, 4, 5, 6, 7, 8, 9, 10, 11, 12, 13, 14, 15, 16, 17], [7, 13]), ([18, 15, 17, 0, 1, 2, 3, 4, 5, 6, 7, 8, 9, 10, 11, 12, 13, 14, 15, 16, 17], [15, 18])])
def expand_Flow.B27 : List Nat := [0, 0, 2, 6, 14, 0, 62, 0, 0, 256, 768, 1792, 0, 7936, 0, 0, 32639, 98175, 262143, 524287]
theorem expand_Flow.tab27 : rtab .any (opsOf Try.f28 27) = expand_Flow.T27 := by kernel_rfl
theorem expand_Flow.bits27 : waitsOk expand_Flow.T27.2 expand_Flow.B27 = true := by kernel_rfl
set_option maxHeartbeats 8000000 in
set_option maxRecDepth 100000 in
theorem expand_Flow.calls (k : Nat) (a0_0 : Int) (a0_1 : Bool) (A0_2 : Option Addr) (c0_2 : Nat) (l0_2 : List S54) (a1 a2 a3 : Int) (A4 : Option Addr) (c4 : Nat) (l4 : List S85) (r1 : List Int) (r2 : Int) (w : World) (hr0_2 : Kd.C k54 w A0_2 l0_2.length l0_2) (hc0_2 : l0_2.length ≤ c0_2) (hr4 : Kd.C k85 w A4 l4.length l4) (hc4 : l4.length ≤ c4) (h : expand_Flow.f k a0_0 a0_1 l0_2 a1 a2 a3 l4 = some (r1, r2)) :
 Calls Try.prog 28 #[.agg #[.int .i64 a0_0, .bool a0_1, .slice A0_2 l0_2.length c0_2], .int .i64 a1, .int .i64 a2, .int .i64 a3, .slice A4 l4.length c4] w fun e w' => ∃ v0_ : Value, e = .returned (.tuple #[v0_, .int .i64 r2]) ∧ Kd.R (Kd.int .i64) 3 w' w.heap.size (fun _ => True) v0_ r1 ∧ Below w.heap.size w w' := by
 have hu24 := Try.underlying24
 have hu26 := Try.underlying26
 have hu85 := Try.underlying85
 have hu54 := Try.underlying54
 have hu76 := Try.underlying76
 have HR0 := am_ hr0_2
 have HC0 := am_ hc0_2
 have HR4 := am_ hr4
 have HC4 := am_ hc4
 have HB := am_ (Below.refl w.heap.size w)
 clear hr0_2 hc0_2 hr4 hc4
 unfold expand_Flow.f at h
 replace h := Option.bind_eq_some_iff.1 h
 obtain ⟨e, he, h⟩ := h
 have HE := am_ he
 clear he
 by_cases c : e = 0
 ·rw [if_pos c] at h
  have c1 : (e == 0) = true := beq_iff_eq.2 c
  have c2 : (e != 0) = false := by rw [c]; rfl
  clear c
  replace h := Option.bind_eq_some_iff.1 h
  obtain ⟨⟨v2, e2⟩, he2, h⟩ := h
  have HE2 := am_ he2
  clear he2
  simp only at h
  by_cases d : e2 = 0
  ·rw [if_pos d] at h
   have d1 : (e2 == 0) = true := beq_iff_eq.2 d
   have d2 : (e2 != 0) = false := by rw [d]; rfl
   clear d
   replace h := Option.bind_eq_some_iff.1 h
   obtain ⟨⟨xs, e3⟩, he3, h⟩ := h
   replace h := Option.bind_eq_some_iff.1 h
   obtain ⟨⟨M, e4⟩, he4, h⟩ := h
   have HE3 := am_ he3
   have HE4 := am_ he4
   clear he3 he4
   simp only at h
   split at h
   case isFalse => cases h
   rename_i hh
   simp only [Option.some.injEq, Prod.mk.injEq] at h
   obtain ⟨hr, rfl⟩ := h
   have HOK := am_ hh.1.1
   have HEN := am_ hh.1.2
   have hfo := hh.2
   unfold gridMoves at hfo
   unfold flowL gridMoves at hr
   have HFO := am_ hfo
   have HLE := am_ hr
   have HL2 := am_ (P.log2_ok (hold := a0_1) (s := a1) (t := a2) hh.1.1)
   have HNB := am_ (show (gridArcs a0_0 a3 a0_1 a1 a2 l0_2).length ≤ 300000 ∧ (gridArcs a0_0 a3 a0_1 a1 a2 l0_2).length = (atLoop a0_0 a3 a0_1 a1 a2 l0_2 (a3.toNat + 1)).1.length + (a3.toNat + 1) + (a3.toNat + 1) ∧ 0 ≤ a3 ∧ a3 ≤ 1024 by
    refine ⟨P.grid_len hh.1.1, by unfold gridArcs; rw [List.length_append, List.length_append, firstsA_length, lastsA_length], ?_⟩
    have h5 := hh.1.1
    unfold okNet at h5
    simp only [Bool.and_eq_true, decide_eq_true_eq] at h5
    exact ⟨h5.1.2.2.1, h5.1.2.2.2.1⟩)
   clear hh hfo hr
   go_enter Try.func28, Try.ntmps28
   go_wp2_with (first
    | ((with_reducible refine gate_dst (N := 5) rfl ?_); refine box_event ?hg (N := 5) ?hd (cs := #[.int .i64 a0_0, .bool a0_1, .slice A0_2 l0_2.length c0_2]) (t := 24) ?hr ?_; (case hd => rfl); (case hg => rfl); (case hr => first | (go_simp; done) | (go_simp; rfl)); intro gn hg w2 hbox hb; replace HB := am_ (below_step HB.out hb); have BKn := am_ hbox; clear hb hbox hg; have zn0 : w2.cell? ⟨gn, 0, none⟩ = some (.int .i64 a0_0) := (blk_cell BKn.out 0).trans rfl; have zn1 : w2.cell? ⟨gn, 1, none⟩ = some (.bool a0_1) := (blk_cell BKn.out 1).trans rfl; have zn2 : w2.cell? ⟨gn, 2, none⟩ = some (.slice A0_2 l0_2.length c0_2) := (blk_cell BKn.out 2).trans rfl)
    | (go_at_call 38; (with_reducible refine (expand_Asked.calls k a0_0 a0_1 A0_2 c0_2 l0_2 a1 a2 a3 e _ ?side11 HC0.out HE.out).mono ?_); (case side11 => exact (Kd.C_below HR0.out HB.out)); rintro e4 w4 ⟨rfl, hb⟩; have n0_ := am_ (below_step HB.out hb); have n1_ := am_ (blk_below BKn.out hb); clear HB BKn zn0 zn1 zn2 hb; have HB := n0_; have BKn := n1_; clear n0_ n1_; have zn0 : w4.cell? ⟨gn, 0, none⟩ = some (.int .i64 a0_0) := (blk_cell BKn.out 0).trans rfl; have zn1 : w4.cell? ⟨gn, 1, none⟩ = some (.bool a0_1) := (blk_cell BKn.out 1).trans rfl; have zn2 : w4.cell? ⟨gn, 2, none⟩ = some (.slice A0_2 l0_2.length c0_2) := (blk_cell BKn.out 2).trans rfl)
    | (go_at_call 48; (with_reducible refine (plan_Check.calls k a0_0 a0_1 A0_2 c0_2 l0_2 a1 a2 a3 A4 c4 l4 v2 e2 _ ?side21 HC0.out ?side31 HC4.out HE2.out).mono ?_); (case side21 => exact (Kd.C_below HR0.out HB.out)); (case side31 => exact (Kd.C_below HR4.out HB.out)); rintro e5 w5 ⟨rfl, hb⟩; have n0_ := am_ (below_step HB.out hb); have n1_ := am_ (blk_below BKn.out hb); clear HB BKn zn0 zn1 zn2 hb; have HB := n0_; have BKn := n1_; clear n0_ n1_; have zn0 : w5.cell? ⟨gn, 0, none⟩ = some (.int .i64 a0_0) := (blk_cell BKn.out 0).trans rfl; have zn1 : w5.cell? ⟨gn, 1, none⟩ = some (.bool a0_1) := (blk_cell BKn.out 1).trans rfl; have zn2 : w5.cell? ⟨gn, 2, none⟩ = some (.slice A0_2 l0_2.length c0_2) := (blk_cell BKn.out 2).trans rfl)
    | (go_at_call 49; (with_reducible refine (plan_Stocks.calls k a0_0 a0_1 A0_2 c0_2 l0_2 a1 a2 a3 A4 c4 l4 xs e3 _ ?side41 HC0.out ?side51 HC4.out HE3.out).mono ?_); (case side41 => exact (Kd.C_below HR0.out HB.out)); (case side51 => exact (Kd.C_below HR4.out HB.out)); rintro e6 w6 ⟨vx, rfl, hx, hb⟩; have n0_ := am_ (below_step HB.out hb); have n1_ := am_ (blk_below BKn.out hb); have n2_ := am_ (Kd.S_lower hx (below_size HB.out)); clear HB BKn zn0 zn1 zn2 hb hx; have HB := n0_; have BKn := n1_; have HX := n2_; clear n0_ n1_ n2_; have zn0 : w6.cell? ⟨gn, 0, none⟩ = some (.int .i64 a0_0) := (blk_cell BKn.out 0).trans rfl; have zn1 : w6.cell? ⟨gn, 1, none⟩ = some (.bool a0_1) := (blk_cell BKn.out 1).trans rfl; have zn2 : w6.cell? ⟨gn, 2, none⟩ = some (.slice A0_2 l0_2.length c0_2) := (blk_cell BKn.out 2).trans rfl)
    | (go_at_call 50; (with_reducible refine (table_Moves.calls k A4 c4 l4 M e4 _ ?side61 HC4.out HE4.out).mono ?_); (case side61 => exact (Kd.C_below HR4.out HB.out)); rintro e7 w7 ⟨vm, rfl, hm, hb⟩; have n0_ := am_ (below_step HB.out hb); have n1_ := am_ (blk_below BKn.out hb); have n2_ := am_ (Kd.R_lower hm (below_size HB.out)); have n3_ := am_ (Kd.S_below HX.out hb); clear HB BKn HX zn0 zn1 zn2 hb hm; have HB := n0_; have BKn := n1_; have HM := n2_; have HX := n3_; clear n0_ n1_ n2_ n3_; have zn0 : w7.cell? ⟨gn, 0, none⟩ = some (.int .i64 a0_0) := (blk_cell BKn.out 0).trans rfl; have zn1 : w7.cell? ⟨gn, 1, none⟩ = some (.bool a0_1) := (blk_cell BKn.out 1).trans rfl; have zn2 : w7.cell? ⟨gn, 2, none⟩ = some (.slice A0_2 l0_2.length c0_2) := (blk_cell BKn.out 2).trans rfl)
    | (go_at_call 39; refine (expand_Of.calls a0_0 a3 a1 a2 a0_1 A0_2 c0_2 l0_2 _ (Kd.C_below HR0.out HB.out) HC0.out HOK.out HEN.out.1 HEN.out.2.1 HEN.out.2.2.1 HEN.out.2.2.2).mono ?_; rintro e8 w8 ⟨gg, v, m1, m2, m3, m4, rfl, hG, hb⟩; obtain ⟨Av, cv, ev⟩ := Kd.R_slice hG.row; generalize (gridArcs a0_0 a3 a0_1 a1 a2 l0_2).length = n at ev HFO HLE HL2 HNB; generalize (atLoop a0_0 a3 a0_1 a1 a2 l0_2 (a3.toNat + 1)).2.1 = l1 at hG HLE HFO; generalize (atLoop a0_0 a3 a0_1 a1 a2 l0_2 (a3.toNat + 1)).2.2 = l2 at hG HLE HL2; generalize (atLoop a0_0 a3 a0_1 a1 a2 l0_2 (a3.toNat + 1)).1.length = nb at hG HLE HNB; subst ev; have n0_ := am_ (below_step HB.out hb); have n1_ := am_ (Kd.S_below HX.out hb); have n2_ := am_ (Kd.R_below HM.out hb); have HG := am_ hG; clear HB BKn HX HM zn0 zn1 zn2 hb hG; have HB := n0_; have HX := n1_; have HM := n2_; clear n0_ n1_ n2_; have zg2 : w8.cell? ⟨gg, 2, none⟩ = some (.slice Av n cv) := (blk_cell HG.out.blk 2).trans rfl)
    | ((with_reducible refine gate_dst (N := 73) rfl ?_); refine mk_ints _ rfl _ _ rfl n rfl rfl (by have := HNB.out; omega) ?_; intro go w9 hgo hbox hb; have GEo := am_ (show w8.heap.size ≤ go by rw [hgo]; exact Nat.le_refl _); have HA := am_ hb; have BKo := am_ hbox; clear hb hbox hgo zg2; obtain ⟨Am, cm, em⟩ := Kd.R_slice HM.out; subst em; obtain ⟨Ax, cx, ex⟩ := Kd.S_slice HX.out; subst ex))
   have hfo := HFO.out
   unfold flowOk at hfo
   simp only [Bool.and_eq_true, decide_eq_true_eq] at hfo
   have HXL := am_ hfo.1
   have HML := am_ hfo.2
   clear hfo
   go_loopg [76] M.length (fun kq vi w' => ∃ (j : Nat), vi = .int .i64 (j : Int) ∧ Aside0 (j + kq = M.length) ∧ Aside0 (Below w8.heap.size w8 w') ∧ Aside0 (w'.heap[go]? = some (.cells (ints (out1 l1 (M.take j) n)) 3 (0, 0))))
   case atStart => exact ⟨0, rfl, ⟨Nat.zero_add _⟩, HA, BKo⟩
   case round =>
    clear HA BKo
    obtain ⟨j, rfl, HJ, HA, BKo⟩ := hrel
    have hJ := HJ.out
    cases gk with
    | zero =>
     have hj : j = M.length := by omega
     have b1 : decide ((j : Int) < (M.length : Int)) = false := decide_eq_false (by omega)
     subst hj
     have n0_ : Aside0 (wr.heap[go]? = some (.cells (ints (out1 l1 M n)) 3 (0, 0))) := ⟨by have h_ := BKo.out; rw [List.take_length] at h_; exact h_⟩
     clear BKo hJ HJ
     have BKo := n0_
     clear n0_
     have zg4 : wr.cell? ⟨gg, 4, none⟩ = some (.map (some m2)) := (HA.out.cell (World.block_lt_of_cell? w8 _ ((blk_cell HG.out.blk 4).trans rfl))).trans ((blk_cell HG.out.blk 4).trans rfl)
     have HRL := am_ (show ∀ i : Int, 0 ≤ i → i < (xs.length : Int) → (rd_L3 xs i).length = a0_0.toNat from fun i h0 h1 => by
      have e_ : rd_L3 xs i = xs[i.toNat]'(by omega) := by unfold rd_L3; rw [List.getD_eq_getElem?_getD, List.getElem?_eq_getElem (by omega)]; rfl
      rw [e_]
      exact of_decide_eq_true (List.all_eq_true.1 HXL.out.2 _ (List.getElem_mem _)))
     have HO1 := am_ (out1_length l1 M n)
     generalize out1 l1 M n = o1 at BKo HLE HO1
     clear b1
     go_wp2_with (first
      | (at_range; refine mrange E26 rfl _ 73 rfl Try.underlying73 rfl (HG.out.M2.below HA.out) HL2.out.keys ?_; intro r wq hr hR hg hs; clear zg4; have GEr := am_ (show w8.heap.size ≤ r by rw [hr]; exact below_size HA.out); have n0_ := am_ (Below.grown HA.out hg (below_size HA.out) (fun k_ e_ => by cases e_)); have n1_ := am_ (blk_grown BKo.out hg (fun e_ => by cases e_)); clear HA BKo hg hs hr; have HA := n0_; have BKo := n1_; have HR := am_ hR; clear n0_ n1_ hR))
     go_frame
     go_loopg [] l2.length (fun kq w' => ∃ (vis : List ((Int × Int) × Int)), Aside0 (vis.length + kq = l2.length) ∧ Aside0 (MapR E26 w' m2 r l2.length l2 vis) ∧ Aside0 (Below w8.heap.size w8 w') ∧ Aside0 (w'.heap[go]? = some (.cells (ints (out2 xs vis o1)) 3 (0, 0))))
     case atStart => exact ⟨[], ⟨Nat.zero_add _⟩, HR, HA, BKo⟩
     case round =>
      clear HA BKo HR
      obtain ⟨vis, HV, HR, HA, BKo⟩ := hrel
      go_wp2_with (first | (at_next; refine mnext E26 rfl _ rfl rfl HR.out ?_ ?_))
      ·intro hperm
       have n0_ : Aside0 (wr.heap[go]? = some (.cells (ints (out2 xs l2 o1)) 3 (0, 0))) := ⟨by have h_ := BKo.out; unfold out2 at h_ ⊢; rw [P.setAll_perm hperm _ _ o1 HL2.out.idx (fun x hx => by have h5 := (HL2.out.bd x hx).1; rw [HO1.out]; omega)] at h_; exact h_⟩
       clear BKo hperm HR HV
       have BKo := n0_
       clear n0_
       have HO2 := am_ (show (out2 xs l2 o1).length = n from (out2_length xs l2 o1).trans HO1.out)
       generalize out2 xs l2 o1 = o2 at BKo HLE HO2
       go_wp2
       go_loopg [119] (a3.toNat + 1) (fun kq vi w' => ∃ (j : Nat), vi = .int .i64 (j : Int) ∧ Aside0 (j + kq = a3.toNat + 1) ∧ Aside0 (Below w8.heap.size w8 w') ∧ Aside0 (w'.heap[go]? = some (.cells (ints (out3 xs a1 a2 nb (a3.toNat + 1) o2 j)) 3 (0, 0))))
       case atStart => exact ⟨0, rfl, ⟨Nat.zero_add _⟩, HA, BKo⟩
       case round =>
        clear HA BKo
        obtain ⟨j, rfl, HJ, HA, BKo⟩ := hrel
        have hJ := HJ.out
        cases gk with
        | zero =>
         have hj : j = a3.toNat + 1 := by omega
         have b1 : decide ((j : Int) < wrap64 (a3 + 1)) = false := by rw [wrapId (by have := HNB.out; omega) (by have := HNB.out; omega)]; exact decide_eq_false (by have := HNB.out; omega)
         have HJ2 := am_ hj
         clear hj hJ
         go_wp2
         go_ret2
         have hol := (out3_length xs a1 a2 nb (a3.toNat + 1) o2 j).trans HO2.out
         have hR := R_block BKo.out (Nat.le_trans (below_size HB.out) GEo.out) (by rw [hol]; have := HNB.out; omega)
         rw [hol] at hR
         rw [HJ2.out] at hR
         rw [HLE.out] at hR
         exact ⟨_, rfl, hR, below_step HB.out HA.out⟩
        | succ gk0 =>
         have hja : (j : Int) ≤ a3 := by have := HNB.out; omega
         have b1 : decide ((j : Int) < wrap64 (a3 + 1)) = true := by rw [wrapId (by have := HNB.out; omega) (by have := HNB.out; omega)]; exact decide_eq_true (by omega)
         have hwj : wrap64 ((j : Int) + 1) = ((j + 1 : Nat) : Int) := P.wrap1 (by have := HNB.out; omega)
         have hxl : (j : Int) < (xs.length : Int) := by have := HXL.out.1; have := HNB.out; omega
         have hrl := HRL.out (j : Int) (by omega) hxl
         obtain ⟨ad, A5, c5, ea, hx0, hl0, hi0⟩ := at_L3 (Kd.S_reads' HX.out).2.2 (j : Int) (by omega) hxl
         cases ea
         obtain ⟨af, eb, hv⟩ := Kd.at_int hi0 a1 HEN.out.1 (by rw [hrl]; have := HEN.out; omega)
         cases eb
         obtain ⟨af', eb, hu⟩ := Kd.at_int hi0 a2 HEN.out.2.2.1 (by rw [hrl]; have := HEN.out; omega)
         obtain rfl : af = af' := Option.some.inj eb
         clear eb
         rw [Int.toNat_natCast] at hx0
         have p0 := eq_true (show (0 : Int) ≤ (j : Int) by omega)
         have p1 := eq_true hxl
         have p2 := eq_true HEN.out.1
         have p3 := eq_true HEN.out.2.2.1
         have p4 := eq_true (show a1 < ((rd_L3 xs (j : Int)).length : Int) by rw [hrl]; have := HEN.out; omega)
         have p5 := eq_true (show a2 < ((rd_L3 xs (j : Int)).length : Int) by rw [hrl]; have := HEN.out; omega)
         have HWJ := am_ hwj
         have HJA := am_ hja
         have hx8 := am_ hx0
         have hv8 := am_ hv
         have hu8 := am_ hu
         replace hx0 := (HA.out.cell (World.block_lt_of_cell? w8 _ hx0)).trans hx0
         replace hv := (HA.out.cell (World.block_lt_of_cell? w8 _ hv)).trans hv
         replace hu := (HA.out.cell (World.block_lt_of_cell? w8 _ hu)).trans hu
         clear hl0 hi0 hrl hxl hwj hja hJ
         by_cases b0 : j = 0
         ·have b2 : decide ((j : Int) > 0) = false := decide_eq_false (by omega)
          have b3 : decide (0 < j) = false := decide_eq_false (by omega)
          have HLL : Aside0 (leftN xs a1 j = wrap64 (-(rd (rd_L3 xs (j : Int)) a1))) := ⟨by subst b0; rfl⟩
          have HRR : Aside0 (cameN xs a2 j = rd (rd_L3 xs (j : Int)) a2) := ⟨by subst b0; rfl⟩
          clear b0
          go_wp2
          go_quiet (fail)
          go_wp2
          have n0_ := am_ (pw_below_drewN HA.out nq)
          have n1_ := am_ (blk_drewN BKo.out nq)
          clear HA BKo hx0 hv hu b2 b3
          have HA := n0_
          have BKo := n1_
          clear n0_ n1_
          generalize wr.drewN nq = wq at HA BKo ⊢
          generalize wrap64 (-(rd (rd_L3 xs (j : Int)) a1)) = LL at HLL ⊢
          generalize rd (rd_L3 xs (j : Int)) a2 = RR at HRR ⊢
          have n0_ := am_ (below_drew1 HA.out)
          have n1_ := am_ (blk_drew BKo.out)
          clear HA BKo
          have HA := n0_
          have BKo := n1_
          clear n0_ n1_
          refine start_ (n := 20) (S := fun w' => w'.cell? ⟨gg, 5, none⟩ = some (.map (some m3)) ∧ w'.cell? ⟨gg, 6, none⟩ = some (.map (some m4)) ∧ MapI E3 w' m3 (placesL nb (a3.toNat + 1)).length (placesL nb (a3.toNat + 1)) ∧ MapI E3 w' m4 (placesL (nb + (a3.toNat + 1)) (a3.toNat + 1)).length (placesL (nb + (a3.toNat + 1)) (a3.toNat + 1))) (ds := [17, 19]) #[Ff,Ff,Ff,Ff,Ff,Ff,Ff,Ff,Ff,Ff,Ff,Ff,Ff,Ff,Ff,Ff,Ff,Ff,Ff,Ff] (by kernel_rfl) rfl rfl ⟨(blk_cell (blk_below HG.out.blk HA.out) 5).trans rfl, (blk_cell (blk_below HG.out.blk HA.out) 6).trans rfl, HG.out.M3.below HA.out, HG.out.M4.below HA.out⟩ (fun hHeld => ?_)
          generalize wq.drew = w11 at HA BKo hHeld ⊢
          obtain ⟨i1, hi1⟩ : ∃ i1 : Nat, Aside0 (i1 = nb + j) := ⟨_, ⟨rfl⟩⟩
          obtain ⟨i2, hi2⟩ : ∃ i2 : Nat, Aside0 (i2 = nb + (a3.toNat + 1) + j) := ⟨_, ⟨rfl⟩⟩
          have HI1 := am_ (show (lookM (placesL nb (a3.toNat + 1)) (j : Int)).getD 0 = (i1 : Int) from by rw [hi1.out]; exact look_places _ _ _ (by have := HJ.out; omega))
          have HI2 := am_ (show (lookM (placesL (nb + (a3.toNat + 1)) (a3.toNat + 1)) (j : Int)).getD 0 = (i2 : Int) from by rw [hi2.out]; exact look_places _ _ _ (by have := HJ.out; omega))
          have hl3 := (out3_length xs a1 a2 nb (a3.toNat + 1) o2 j).trans HO2.out
          have q0 := eq_true (show (0 : Int) ≤ (i1 : Int) by omega)
          have q1 := eq_true (show (i1 : Int) < (n : Int) by have := hi1.out; have := HNB.out; have := HJ.out; omega)
          have q2 := eq_true (show (0 : Int) ≤ (i2 : Int) by omega)
          have q3 := eq_true (show (i2 : Int) < (n : Int) by have := hi2.out; have := HNB.out; have := HJ.out; omega)
          have zo := ints_at BKo.out (i1 : Int) (by omega) (by rw [hl3]; have := hi1.out; have := HNB.out; have := HJ.out; omega)
          have zf := blk_frozen BKo.out i1
          rw [Int.toNat_natCast] at zo
          refine with_tabW expand_Flow.tab27 expand_Flow.bits27 (fun HT_ HW_ => ?_)
          refine pw_ 0 159 ?_
          refine pw_ 1 160 ?_
          refine pw_ 2 161 ?_
          refine pw_ 3 162 ?_
          refine pw_ 5 164 ?_
          refine pw_ 7 166 ?_
          refine pw_ 8 167 ?_
          refine pw_ 9 168 ?_
          refine pw_ 10 169 ?_
          refine pw_ 12 171 ?_
          refine pw_ 14 173 ?_
          refine pw_ 15 174 ?_
          refine tk_ 4 163 ?_
          refine take_ (i := 6) (N := (some 165)) (v := ?_) (a' := ?_) #[Tt,Tt,Tt,Tt,Tt,Tt,Tt,Tt,Tt,Tt,Tt,Ff,Tt,Ff,Tt,Tt,Ff,Ff,Ff,Ff] rfl rfl (take_ofW HT_.out HW_.out (by kernel_rfl)) (fun _ _ _ h => h) (Or.inl ⟨by rfl, ?_⟩) hHeld ?_ ?_
          rotate_left
          ·intro w' s0
           refine mlook_run E3 (.tmp 163) (.tmp 164) 74 ?_ Try.underlying74 ?_ s0.2.2.1 (j : Int) ?_ ?_ (i1 : Int) HI1.out
           ·rfl
           ·rfl
           ·rfl
           ·exact wf_i64B (by omega) (by have := HJA.out; have := HNB.out; omega)
          rotate_left
          exact ap_
          refine tk_ 11 170 ?_
          refine take_ (i := 13) (N := (some 172)) (v := ?_) (a' := ?_) #[Tt,Tt,Tt,Tt,Tt,Tt,Tt,Tt,Tt,Tt,Tt,Tt,Tt,Tt,Tt,Tt,Ff,Ff,Ff,Ff] rfl rfl (take_ofW HT_.out HW_.out (by kernel_rfl)) (fun _ _ _ h => h) (Or.inl ⟨by rfl, ?_⟩) hHeld ?_ ?_
          rotate_left
          ·intro w' s0
           refine mlook_run E3 (.tmp 170) (.tmp 171) 74 ?_ Try.underlying74 ?_ s0.2.2.2 (j : Int) ?_ ?_ (i2 : Int) HI2.out
           ·rfl
           ·rfl
           ·rfl
           ·exact wf_i64B (by omega) (by have := HJA.out; have := HNB.out; omega)
          rotate_left
          exact ap_
          refine pw_ 16 175 ?_
          refine last_ (i := 17) (N := none) #[Tt,Tt,Tt,Tt,Tt,Tt,Tt,Tt,Tt,Tt,Tt,Tt,Tt,Tt,Tt,Tt,Tt,Tt,Ff,Ff] rfl rfl (one_of HT_.out (by kernel_rfl)) (by decide) (fun K hK => ?_)
          refine skip_ (w1 := ?_) (by rfl) rfl ?_ ?_
          rotate_left
          ·go_simp
           rfl
          refine hK.out _ _ ?_
          clear hK K
          have n0_ := am_ (below_set HA.out GEo.out (j := i1) (v := .int .i64 LL))
          have n1_ := am_ (ints_put BKo.out i1 LL)
          clear HA BKo zo zf hHeld
          have HA := n0_
          have BKo := n1_
          clear n0_ n1_
          generalize w11.setCell ⟨go, i1, none⟩ (.int .i64 LL) = w12 at HA BKo ⊢
          have zo := ints_at BKo.out (i2 : Int) (by omega) (by rw [List.length_set, hl3]; have := hi2.out; have := HNB.out; have := HJ.out; omega)
          have zf := blk_frozen BKo.out i2
          rw [Int.toNat_natCast] at zo
          refine pw_ 18 176 ?_
          refine last_ (i := 19) (N := none) #[Tt,Tt,Tt,Tt,Tt,Tt,Tt,Tt,Tt,Tt,Tt,Tt,Tt,Tt,Tt,Tt,Tt,Tt,Tt,Tt] rfl rfl (one_of HT_.out (by kernel_rfl)) (by decide) (fun K hK => ?_)
          refine skip_ (w1 := ?_) (by rfl) rfl ?_ ?_
          rotate_left
          ·go_simp
           rfl
          refine hK.out _ _ ?_
          clear hK K
          refine done_ (done_of HT_.out (by kernel_rfl)) ?_
          have n0_ := am_ (below_set HA.out GEo.out (j := i2) (v := .int .i64 RR))
          have n1_ : Aside0 ((w12.setCell ⟨go, i2, none⟩ (.int .i64 RR)).heap[go]? = some (.cells (ints (out3 xs a1 a2 nb (a3.toNat + 1) o2 (j + 1))) 3 (0, 0))) := ⟨by rw [out3_succ, HLL.out, HRR.out, ← hi1.out, ← hi2.out]; exact ints_put BKo.out i2 _⟩
          clear HA BKo zo zf
          have HA := n0_
          have BKo := n1_
          clear n0_ n1_
          try go_wp2
          go_roundg gk0
          case measure => omega
          case rel => exact ⟨j + 1, congrArg (Value.int .i64) HWJ.out, ⟨by have := HJ.out; omega⟩, HA, BKo⟩
         ·have b2 : decide ((j : Int) > 0) = true := decide_eq_true (by omega)
          have b3 : decide (0 < j) = true := decide_eq_true (by omega)
          have hwm : wrap64 ((j : Int) - 1) = ((j - 1 : Nat) : Int) := by rw [wrapId (by have := HNB.out; have := HJA.out; omega) (by have := HNB.out; have := HJA.out; omega)]; omega
          have HLL : Aside0 (leftN xs a1 j = wrap64 (wrap64 (-(rd (rd_L3 xs (j : Int)) a1)) + rd (rd_L3 xs ((j - 1 : Nat) : Int)) a1)) := ⟨by unfold leftN; rw [if_neg b0]; rfl⟩
          have HRR : Aside0 (cameN xs a2 j = wrap64 (rd (rd_L3 xs (j : Int)) a2 - rd (rd_L3 xs ((j - 1 : Nat) : Int)) a2)) := ⟨by unfold cameN; rw [if_neg b0]; rfl⟩
          have hxl1 : ((j - 1 : Nat) : Int) < (xs.length : Int) := by have := HXL.out.1; have := HNB.out; have := HJA.out; omega
          have hrl1 := HRL.out ((j - 1 : Nat) : Int) (by omega) hxl1
          obtain ⟨ad1, A6, c6, ea1, hy0, hl1, hi1⟩ := at_L3 (Kd.S_reads' HX.out).2.2 ((j - 1 : Nat) : Int) (by omega) hxl1
          obtain rfl : ad = ad1 := Option.some.inj ea1
          obtain ⟨ag, eb1, hv1⟩ := Kd.at_int hi1 a1 HEN.out.1 (by rw [hrl1]; have := HEN.out; omega)
          cases eb1
          obtain ⟨ag', eb1, hu1⟩ := Kd.at_int hi1 a2 HEN.out.2.2.1 (by rw [hrl1]; have := HEN.out; omega)
          obtain rfl : ag = ag' := Option.some.inj eb1
          clear eb1 ea1
          have t0 := eq_true (show (0 : Int) ≤ ((j - 1 : Nat) : Int) by omega)
          have t1 := eq_true hxl1
          have t4 := eq_true (show a1 < ((rd_L3 xs ((j - 1 : Nat) : Int)).length : Int) by rw [hrl1]; have := HEN.out; omega)
          have t5 := eq_true (show a2 < ((rd_L3 xs ((j - 1 : Nat) : Int)).length : Int) by rw [hrl1]; have := HEN.out; omega)
          rw [Int.toNat_natCast] at hy0
          replace hy0 := (HA.out.cell (World.block_lt_of_cell? w8 _ hy0)).trans hy0
          replace hv1 := (HA.out.cell (World.block_lt_of_cell? w8 _ hv1)).trans hv1
          replace hu1 := (HA.out.cell (World.block_lt_of_cell? w8 _ hu1)).trans hu1
          generalize j - 1 = j1 at hwm HLL HRR t0 t1 t4 t5 hy0 hv1 hu1
          clear b0 hl1 hi1 hrl1 hxl1
          go_wp2
          go_quiet (fail)
          have hy0q := ((pw_below_drewN (Below.refl wr.heap.size wr) nq).cell (World.block_lt_of_cell? wr _ hy0)).trans hy0
          have hv1q := ((pw_below_drewN (Below.refl wr.heap.size wr) nq).cell (World.block_lt_of_cell? wr _ hv1)).trans hv1
          have hu1q := ((pw_below_drewN (Below.refl wr.heap.size wr) nq).cell (World.block_lt_of_cell? wr _ hu1)).trans hu1
          go_wp2
          have n0_ := am_ (pw_below_drewN HA.out nq)
          have n1_ := am_ (blk_drewN BKo.out nq)
          clear HA BKo hx0 hv hu b2 b3 hy0 hv1 hu1 hy0q hv1q hu1q
          have HA := n0_
          have BKo := n1_
          clear n0_ n1_
          generalize wr.drewN nq = wq at HA BKo ⊢
          generalize wrap64 (wrap64 (-(rd (rd_L3 xs (j : Int)) a1)) + rd (rd_L3 xs (j1 : Int)) a1) = LL at HLL ⊢
          generalize wrap64 (rd (rd_L3 xs (j : Int)) a2 - rd (rd_L3 xs (j1 : Int)) a2) = RR at HRR ⊢
          have n0_ := am_ (below_drew1 HA.out)
          have n1_ := am_ (blk_drew BKo.out)
          clear HA BKo
          have HA := n0_
          have BKo := n1_
          clear n0_ n1_
          refine start_ (n := 20) (S := fun w' => w'.cell? ⟨gg, 5, none⟩ = some (.map (some m3)) ∧ w'.cell? ⟨gg, 6, none⟩ = some (.map (some m4)) ∧ MapI E3 w' m3 (placesL nb (a3.toNat + 1)).length (placesL nb (a3.toNat + 1)) ∧ MapI E3 w' m4 (placesL (nb + (a3.toNat + 1)) (a3.toNat + 1)).length (placesL (nb + (a3.toNat + 1)) (a3.toNat + 1))) (ds := [17, 19]) #[Ff,Ff,Ff,Ff,Ff,Ff,Ff,Ff,Ff,Ff,Ff,Ff,Ff,Ff,Ff,Ff,Ff,Ff,Ff,Ff] (by kernel_rfl) rfl rfl ⟨(blk_cell (blk_below HG.out.blk HA.out) 5).trans rfl, (blk_cell (blk_below HG.out.blk HA.out) 6).trans rfl, HG.out.M3.below HA.out, HG.out.M4.below HA.out⟩ (fun hHeld => ?_)
          generalize wq.drew = w11 at HA BKo hHeld ⊢
          obtain ⟨i1, hi1⟩ : ∃ i1 : Nat, Aside0 (i1 = nb + j) := ⟨_, ⟨rfl⟩⟩
          obtain ⟨i2, hi2⟩ : ∃ i2 : Nat, Aside0 (i2 = nb + (a3.toNat + 1) + j) := ⟨_, ⟨rfl⟩⟩
          have HI1 := am_ (show (lookM (placesL nb (a3.toNat + 1)) (j : Int)).getD 0 = (i1 : Int) from by rw [hi1.out]; exact look_places _ _ _ (by have := HJ.out; omega))
          have HI2 := am_ (show (lookM (placesL (nb + (a3.toNat + 1)) (a3.toNat + 1)) (j : Int)).getD 0 = (i2 : Int) from by rw [hi2.out]; exact look_places _ _ _ (by have := HJ.out; omega))
          have hl3 := (out3_length xs a1 a2 nb (a3.toNat + 1) o2 j).trans HO2.out
          have q0 := eq_true (show (0 : Int) ≤ (i1 : Int) by omega)
          have q1 := eq_true (show (i1 : Int) < (n : Int) by have := hi1.out; have := HNB.out; have := HJ.out; omega)
          have q2 := eq_true (show (0 : Int) ≤ (i2 : Int) by omega)
          have q3 := eq_true (show (i2 : Int) < (n : Int) by have := hi2.out; have := HNB.out; have := HJ.out; omega)
          have zo := ints_at BKo.out (i1 : Int) (by omega) (by rw [hl3]; have := hi1.out; have := HNB.out; have := HJ.out; omega)
          have zf := blk_frozen BKo.out i1
          rw [Int.toNat_natCast] at zo
          refine with_tabW expand_Flow.tab27 expand_Flow.bits27 (fun HT_ HW_ => ?_)
          refine pw_ 0 159 ?_
          refine pw_ 1 160 ?_
          refine pw_ 2 161 ?_
          refine pw_ 3 162 ?_
          refine pw_ 5 164 ?_
          refine pw_ 7 166 ?_
          refine pw_ 8 167 ?_
          refine pw_ 9 168 ?_
          refine pw_ 10 169 ?_
          refine pw_ 12 171 ?_
          refine pw_ 14 173 ?_
          refine pw_ 15 174 ?_
          refine tk_ 4 163 ?_
          refine take_ (i := 6) (N := (some 165)) (v := ?_) (a' := ?_) #[Tt,Tt,Tt,Tt,Tt,Tt,Tt,Tt,Tt,Tt,Tt,Ff,Tt,Ff,Tt,Tt,Ff,Ff,Ff,Ff] rfl rfl (take_ofW HT_.out HW_.out (by kernel_rfl)) (fun _ _ _ h => h) (Or.inl ⟨by rfl, ?_⟩) hHeld ?_ ?_
          rotate_left
          ·intro w' s0
           refine mlook_run E3 (.tmp 163) (.tmp 164) 74 ?_ Try.underlying74 ?_ s0.2.2.1 (j : Int) ?_ ?_ (i1 : Int) HI1.out
           ·rfl
           ·rfl
           ·rfl
           ·exact wf_i64B (by omega) (by have := HJA.out; have := HNB.out; omega)
          rotate_left
          exact ap_
          refine tk_ 11 170 ?_
          refine take_ (i := 13) (N := (some 172)) (v := ?_) (a' := ?_) #[Tt,Tt,Tt,Tt,Tt,Tt,Tt,Tt,Tt,Tt,Tt,Tt,Tt,Tt,Tt,Tt,Ff,Ff,Ff,Ff] rfl rfl (take_ofW HT_.out HW_.out (by kernel_rfl)) (fun _ _ _ h => h) (Or.inl ⟨by rfl, ?_⟩) hHeld ?_ ?_
          rotate_left
          ·intro w' s0
           refine mlook_run E3 (.tmp 170) (.tmp 171) 74 ?_ Try.underlying74 ?_ s0.2.2.2 (j : Int) ?_ ?_ (i2 : Int) HI2.out
           ·rfl
           ·rfl
           ·rfl
           ·exact wf_i64B (by omega) (by have := HJA.out; have := HNB.out; omega)
          rotate_left
          exact ap_
          refine pw_ 16 175 ?_
          refine last_ (i := 17) (N := none) #[Tt,Tt,Tt,Tt,Tt,Tt,Tt,Tt,Tt,Tt,Tt,Tt,Tt,Tt,Tt,Tt,Tt,Tt,Ff,Ff] rfl rfl (one_of HT_.out (by kernel_rfl)) (by decide) (fun K hK => ?_)
          refine skip_ (w1 := ?_) (by rfl) rfl ?_ ?_
          rotate_left
          ·go_simp
           rfl
          refine hK.out _ _ ?_
          clear hK K
          have n0_ := am_ (below_set HA.out GEo.out (j := i1) (v := .int .i64 LL))
          have n1_ := am_ (ints_put BKo.out i1 LL)
          clear HA BKo zo zf hHeld
          have HA := n0_
          have BKo := n1_
          clear n0_ n1_
          generalize w11.setCell ⟨go, i1, none⟩ (.int .i64 LL) = w12 at HA BKo ⊢
          have zo := ints_at BKo.out (i2 : Int) (by omega) (by rw [List.length_set, hl3]; have := hi2.out; have := HNB.out; have := HJ.out; omega)
          have zf := blk_frozen BKo.out i2
          rw [Int.toNat_natCast] at zo
          refine pw_ 18 176 ?_
          refine last_ (i := 19) (N := none) #[Tt,Tt,Tt,Tt,Tt,Tt,Tt,Tt,Tt,Tt,Tt,Tt,Tt,Tt,Tt,Tt,Tt,Tt,Tt,Tt] rfl rfl (one_of HT_.out (by kernel_rfl)) (by decide) (fun K hK => ?_)
          refine skip_ (w1 := ?_) (by rfl) rfl ?_ ?_
          rotate_left
          ·go_simp
           rfl
          refine hK.out _ _ ?_
          clear hK K
          refine done_ (done_of HT_.out (by kernel_rfl)) ?_
          have n0_ := am_ (below_set HA.out GEo.out (j := i2) (v := .int .i64 RR))
          have n1_ : Aside0 ((w12.setCell ⟨go, i2, none⟩ (.int .i64 RR)).heap[go]? = some (.cells (ints (out3 xs a1 a2 nb (a3.toNat + 1) o2 (j + 1))) 3 (0, 0))) := ⟨by rw [out3_succ, HLL.out, HRR.out, ← hi1.out, ← hi2.out]; exact ints_put BKo.out i2 _⟩
          clear HA BKo zo zf
          have HA := n0_
          have BKo := n1_
          clear n0_ n1_
          try go_wp2
          go_roundg gk0
          case measure => omega
          case rel => exact ⟨j + 1, congrArg (Value.int .i64) HWJ.out, ⟨by have := HJ.out; omega⟩, HA, BKo⟩
      ·intro pv pa pi w' hp hnv hR2 hg hs hen
       have n0_ := am_ (Below.grown HA.out hg (below_size HA.out) (fun k_ e_ => by injection e_ with e_; subst e_; exact GEr.out))
       have n1_ := am_ (blk_grown BKo.out hg (fun e_ => (HR.out.ne BKo.out).2 (Option.some.inj e_)))
       have hbd := HL2.out.bd _ hp
       have hV2 : vis.length + 1 ≤ l2.length := by have := hR2.le; rw [List.length_append] at this; exact this
       have hT : out2 xs (vis ++ [((pv, pa), pi)]) o1 = (out2 xs vis o1).set pi.toNat (rd (rd_L3 xs pa) pv) := by unfold out2; rw [P.setAll_snoc]; rfl
       clear HA BKo HR hg hs hnv hp
       have HA := n0_
       have BKo := n1_
       have HR := am_ hR2
       have HV2 := am_ hV2
       have HT := am_ hT
       clear n0_ n1_ hR2 hV2 hT
       have hbd : (0 ≤ pi ∧ pi < (n : Int)) ∧ (0 ≤ pa ∧ pa ≤ a3) ∧ 0 ≤ pv ∧ pv < a0_0 := hbd
       obtain ⟨⟨pi0, pi1⟩, ⟨pa0, pa1⟩, pv0, pv1⟩ := hbd
       have hxl : pa < (xs.length : Int) := by have := HXL.out.1; have := HNB.out; omega
       have hrl := HRL.out pa pa0 hxl
       obtain ⟨ad, A5, c5, ea, hx0, hl0, hi0⟩ := at_L3 (Kd.S_reads' HX.out).2.2 pa pa0 hxl
       cases ea
       obtain ⟨af, eb, hv⟩ := Kd.at_int hi0 pv pv0 (by rw [hrl]; omega)
       cases eb
       have hpv : pv < ((rd_L3 xs pa).length : Int) := by rw [hrl]; omega
       replace hx0 := (HA.out.cell (World.block_lt_of_cell? w8 _ hx0)).trans hx0
       replace hv := (HA.out.cell (World.block_lt_of_cell? w8 _ hv)).trans hv
       clear hl0 hi0 hrl
       have HPI := am_ (And.intro pi0 pi1)
       replace pi0 := eq_true pi0
       replace pi1 := eq_true pi1
       replace pa0 := eq_true pa0
       replace hxl := eq_true hxl
       replace pv0 := eq_true pv0
       replace hpv := eq_true hpv
       clear pa1 pv1
       rw [show E26.enc (pv, pa) = .agg #[.int .i64 pv, .int .i64 pa] from rfl] at hen ⊢
       go_wp2
       have n0_ := am_ (below_alloc HA.out (.cells #[.int .i64 pv, .int .i64 pa] 26 (0, 0)))
       have n1_ := am_ (blk_alloc BKo.out (.cells #[.int .i64 pv, .int .i64 pa] 26 (0, 0)))
       have n2_ := am_ (HR.out.alloc (.cells #[.int .i64 pv, .int .i64 pa] 26 (0, 0)))
       have BKx := am_ (blk_new w' (.cells #[.int .i64 pv, .int .i64 pa] 26 (0, 0)))
       have hx1 := ((below_alloc (Below.refl w'.heap.size w') (.cells #[.int .i64 pv, .int .i64 pa] 26 (0, 0))).cell (World.block_lt_of_cell? w' _ hx0)).trans hx0
       have hv1 := ((below_alloc (Below.refl w'.heap.size w') (.cells #[.int .i64 pv, .int .i64 pa] 26 (0, 0))).cell (World.block_lt_of_cell? w' _ hv)).trans hv
       clear HA BKo HR hen hx0 hv
       have HA := n0_
       have BKo := n1_
       have HR := n2_
       clear n0_ n1_ n2_
       generalize hw2 : w'.alloc (.cells #[.int .i64 pv, .int .i64 pa] 26 (0, 0)) = w10 at HA BKo BKx HR hx1 hv1 ⊢
       generalize hgx : w'.heap.size = gx at BKx ⊢
       clear hw2 hgx w'
       have n0_ := am_ (below_drew1 HA.out)
       have n1_ := am_ (blk_drew BKo.out)
       have n2_ := am_ HR.out.drew
       clear HA BKo HR
       have HA := n0_
       have BKo := n1_
       have HR := n2_
       clear n0_ n1_ n2_
       refine start_ (n := 13) (S := fun w' => w'.cell? ⟨gx, 0, none⟩ = some (.int .i64 pv) ∧ w'.cell? ⟨gx, 1, none⟩ = some (.int .i64 pa) ∧ w'.cell? (ad.add pa.toNat) = some (.slice (some af) (rd_L3 xs pa).length c5) ∧ w'.cell? (af.add pv.toNat) = some (.int .i64 (rd (rd_L3 xs pa) pv))) (ds := [12]) #[Ff,Ff,Ff,Ff,Ff,Ff,Ff,Ff,Ff,Ff,Ff,Ff,Ff] (by kernel_rfl) rfl rfl ⟨(blk_cell BKx.out 0).trans rfl, (blk_cell BKx.out 1).trans rfl, hx1, hv1⟩ (fun hHeld => ?_)
       clear hx1 hv1 BKx
       generalize w10.drew = w11 at HA BKo HR hHeld ⊢
       have zo := ints_at BKo.out pi HPI.out.1 (by rw [out2_length, HO1.out]; exact HPI.out.2)
       have zf := blk_frozen BKo.out pi.toNat
       refine with_tabW expand_Flow.tab19 expand_Flow.bits19 (fun HT_ HW_ => ?_)
       refine pw_ 0 105 ?_
       refine pw_ 1 106 ?_
       refine pw_ 2 107 ?_
       refine pw_ 3 108 ?_
       refine pw_ 7 112 ?_
       refine tk_ 4 109 ?_
       refine pw_ 5 110 ?_
       refine tk_ 6 111 ?_
       refine tk_ 8 113 ?_
       refine pw_ 9 114 ?_
       refine tk_ 10 115 ?_
       refine pw_ 11 116 ?_
       refine last_ (i := 12) (N := none) #[Tt,Tt,Tt,Tt,Tt,Tt,Tt,Tt,Tt,Tt,Tt,Tt,Tt] rfl rfl (one_of HT_.out (by kernel_rfl)) (by decide) (fun K hK => ?_)
       refine skip_ (w1 := ?_) (by rfl) rfl ?_ ?_
       rotate_left
       ·go_simp
        rfl
       refine hK.out _ _ ?_
       clear hK K
       refine done_ (done_of HT_.out (by kernel_rfl)) ?_
       have n0_ := am_ (below_set HA.out GEo.out (j := pi.toNat) (v := .int .i64 (rd (rd_L3 xs pa) pv)))
       have n1_ : Aside0 ((w11.setCell ⟨go, pi.toNat, none⟩ (.int .i64 (rd (rd_L3 xs pa) pv))).heap[go]? = some (.cells (ints (out2 xs (vis ++ [((pv, pa), pi)]) o1)) 3 (0, 0))) := ⟨by rw [HT.out]; exact ints_put BKo.out pi.toNat _⟩
       have n2_ := am_ (HR.out.farg BKo.out (j := pi.toNat) (.int .i64 (rd (rd_L3 xs pa) pv)))
       clear HA BKo HR zo zf hHeld HT
       have HA := n0_
       have BKo := n1_
       have HR := n2_
       clear n0_ n1_ n2_
       try go_wp2
       go_roundg (gk - 1)
       case measure => have := HV.out; have := HV2.out; omega
       case rel => exact ⟨vis ++ [((pv, pa), pi)], ⟨by rw [List.length_append]; have := HV.out; have := HV2.out; simp only [List.length_singleton]; omega⟩, HR, HA, BKo⟩
    | succ gk0 =>
     have hjl : j < M.length := by omega
     have b1 : decide ((j : Int) < (M.length : Int)) = true := decide_eq_true (by omega)
     have hwj : wrap64 ((j : Int) + 1) = ((j + 1 : Nat) : Int) := P.wrap1 (by have := HML.out.1; omega)
     obtain ⟨am, ea, y0, y1, y2⟩ := at_T85 (Kd.R_reads' HM.out).2.2 (j : Int) (by omega) (by omega)
     cases ea
     rw [Int.toNat_natCast] at y0 y1 y2
     replace y0 := (HA.out.cell (World.block_lt_of_cell? w8 _ y0)).trans y0
     replace y1 := (HA.out.cell (World.block_lt_of_cell? w8 _ y1)).trans y1
     replace y2 := (HA.out.cell (World.block_lt_of_cell? w8 _ y2)).trans y2
     have p0 := eq_true (show (0 : Int) ≤ (j : Int) by omega)
     have p1 := eq_true (show (j : Int) < (M.length : Int) by omega)
     have hX : rd_T85 M (j : Int) = M[j] := P.rdM_of hjl
     have hQ := of_decide_eq_true (List.all_eq_true.1 HML.out.2 M[j] (List.getElem_mem hjl))
     have hT : out1 l1 (M.take (j + 1)) n = (out1 l1 (M.take j) n).set (idxM l1 M[j]).toNat M[j].f2 := by unfold out1; rw [List.take_succ_eq_append_getElem hjl, P.setAll_snoc]
     rw [hX] at y0 y1 y2
     generalize M[j] = X at y0 y1 y2 hQ hT
     obtain ⟨X0, X1, X2⟩ := X
     have HT := am_ hT
     have HQ := am_ hQ
     have HJL := am_ hjl
     have HWJ := am_ hwj
     clear hX hjl hwj hJ hQ hT
     go_wp2
     have n0_ := am_ (below_alloc HA.out (.cells #[.int .i64 X0, .int .i64 X1, .int .i64 X2] 85 (0, 0)))
     have n1_ := am_ (blk_alloc BKo.out (.cells #[.int .i64 X0, .int .i64 X1, .int .i64 X2] 85 (0, 0)))
     have BKx := am_ (blk_new wr (.cells #[.int .i64 X0, .int .i64 X1, .int .i64 X2] 85 (0, 0)))
     clear HA BKo y0 y1 y2
     have HA := n0_
     have BKo := n1_
     clear n0_ n1_
     generalize hw2 : wr.alloc (.cells #[.int .i64 X0, .int .i64 X1, .int .i64 X2] 85 (0, 0)) = w10 at HA BKo BKx ⊢
     generalize hgx : wr.heap.size = gx at BKx ⊢
     clear hw2 hgx
     have n0_ := am_ (below_drew1 HA.out)
     have n1_ := am_ (blk_drew BKo.out)
     have n2_ := am_ (blk_drew BKx.out)
     clear HA BKo BKx
     have HA := n0_
     have BKo := n1_
     have BKx := n2_
     clear n0_ n1_ n2_
     refine start_ (n := 15) (S := fun w' => w'.cell? ⟨gg, 3, none⟩ = some (.map (some m1)) ∧ w'.cell? ⟨gx, 0, none⟩ = some (.int .i64 X0) ∧ w'.cell? ⟨gx, 1, none⟩ = some (.int .i64 X1) ∧ w'.cell? ⟨gx, 2, none⟩ = some (.int .i64 X2) ∧ MapI E26 w' m1 l1.length l1) (ds := [14]) #[Ff,Ff,Ff,Ff,Ff,Ff,Ff,Ff,Ff,Ff,Ff,Ff,Ff,Ff,Ff] (by kernel_rfl) rfl rfl ⟨(blk_cell (blk_below HG.out.blk HA.out) 3).trans rfl, (blk_cell BKx.out 0).trans rfl, (blk_cell BKx.out 1).trans rfl, (blk_cell BKx.out 2).trans rfl, HG.out.M1.below HA.out⟩ (fun hHeld => ?_)
     generalize w10.drew = w11 at HA BKo BKx hHeld ⊢
     have hix : idxM l1 ⟨X0, X1, X2⟩ = idxM l1 ⟨X0, X1, X2⟩ := rfl
     generalize hi : idxM l1 ⟨X0, X1, X2⟩ = ix at HQ HT
     clear hix
     have HI := am_ (show (lookM l1 (X0, X1)).getD 0 = ix from hi)
     have q0 := eq_true HQ.out.2.1
     have q1 := eq_true HQ.out.2.2
     have zo := ints_at BKo.out ix HQ.out.2.1 (by rw [out1_length]; exact HQ.out.2.2)
     have zf := blk_frozen BKo.out ix.toNat
     clear hi
     refine with_tabW expand_Flow.tab14 expand_Flow.bits14 (fun HT_ HW_ => ?_)
     refine pw_ 0 80 ?_
     refine pw_ 1 81 ?_
     refine pw_ 2 82 ?_
     refine pw_ 3 83 ?_
     refine pw_ 5 85 ?_
     refine pw_ 7 87 ?_
     refine pw_ 11 91 ?_
     refine tk_ 4 84 ?_
     refine tk_ 6 86 ?_
     refine tk_ 8 88 ?_
     refine pw_ 9 89 ?_
     refine take_ (i := 10) (N := (some 90)) (v := ?_) (a' := ?_) #[Tt,Tt,Tt,Tt,Tt,Tt,Tt,Tt,Tt,Tt,Tt,Tt,Ff,Ff,Ff] rfl rfl (take_ofW HT_.out HW_.out (by kernel_rfl)) (fun _ _ _ h => h) (Or.inl ⟨by rfl, ?_⟩) hHeld ?_ ?_
     rotate_left
     ·intro w' s0
      refine mlook_run E26 (.tmp 84) (.tmp 89) 73 ?_ Try.underlying73 ?_ s0.2.2.2.2 (X0, X1) ?_ ?_ ix HI.out
      ·rfl
      ·rfl
      ·rfl
      ·have hg : 0 ≤ X0 ∧ X0 ≤ 1000000 ∧ 0 ≤ X1 ∧ X1 ≤ 1000000 := HQ.out.1
       exact ⟨wf_i64B (by show -9223372036854775808 ≤ X0; omega) (by show X0 ≤ _; omega), wf_i64B (by show -9223372036854775808 ≤ X1; omega) (by show X1 ≤ _; omega)⟩
     rotate_left
     exact ap_
     refine tk_ 12 92 ?_
     refine pw_ 13 93 ?_
     refine last_ (i := 14) (N := none) #[Tt,Tt,Tt,Tt,Tt,Tt,Tt,Tt,Tt,Tt,Tt,Tt,Tt,Tt,Tt] rfl rfl (one_of HT_.out (by kernel_rfl)) (by decide) (fun K hK => ?_)
     refine skip_ (w1 := ?_) (by rfl) rfl ?_ ?_
     rotate_left
     ·go_simp
      rfl
     refine hK.out _ _ ?_
     clear hK K
     refine done_ (done_of HT_.out (by kernel_rfl)) ?_
     have n0_ := am_ (below_set HA.out GEo.out (j := ix.toNat) (v := .int .i64 X2))
     have n1_ : Aside0 ((w11.setCell ⟨go, ix.toNat, none⟩ (.int .i64 X2)).heap[go]? = some (.cells (ints (out1 l1 (M.take (j + 1)) n)) 3 (0, 0))) := ⟨by rw [HT.out]; exact ints_put BKo.out ix.toNat X2⟩
     clear HA BKo zo zf hHeld BKx HT
     have HA := n0_
     have BKo := n1_
     clear n0_ n1_
     try go_wp2
     go_roundg gk0
     case measure => omega
     case rel => exact ⟨j + 1, congrArg (Value.int .i64) HWJ.out, ⟨by have := HJ.out; omega⟩, HA, BKo⟩
  ·rw [if_neg d] at h
   simp only [Option.some.injEq, Prod.mk.injEq] at h
   obtain ⟨rfl, rfl⟩ := h
   have d1 : (e2 == 0) = false := beq_eq_false_iff_ne.2 d
   have d2 : (e2 != 0) = true := bne_iff_ne.2 d
   clear d
   have HOK := am_ (trivial : True)
   have HEN := HOK
   have HLE := HOK
   have HFO := HOK
   have HL2 := HOK
   have HNB := HOK
   have HE3 := HOK
   have HE4 := HOK
   have xs := HOK
   have e3 := HOK
   have M := HOK
   have e4 := HOK
   go_enter Try.func28, Try.ntmps28
   go_wp2_with (first
    | ((with_reducible refine gate_dst (N := 5) rfl ?_); refine box_event ?hg (N := 5) ?hd (cs := #[.int .i64 a0_0, .bool a0_1, .slice A0_2 l0_2.length c0_2]) (t := 24) ?hr ?_; (case hd => rfl); (case hg => rfl); (case hr => first | (go_simp; done) | (go_simp; rfl)); intro gn hg w2 hbox hb; replace HB := am_ (below_step HB.out hb); have BKn := am_ hbox; clear hb hbox hg; have zn0 : w2.cell? ⟨gn, 0, none⟩ = some (.int .i64 a0_0) := (blk_cell BKn.out 0).trans rfl; have zn1 : w2.cell? ⟨gn, 1, none⟩ = some (.bool a0_1) := (blk_cell BKn.out 1).trans rfl; have zn2 : w2.cell? ⟨gn, 2, none⟩ = some (.slice A0_2 l0_2.length c0_2) := (blk_cell BKn.out 2).trans rfl)
    | (go_at_call 38; (with_reducible refine (expand_Asked.calls k a0_0 a0_1 A0_2 c0_2 l0_2 a1 a2 a3 e _ ?side14 HC0.out HE.out).mono ?_); (case side14 => exact (Kd.C_below HR0.out HB.out)); rintro e4 w4 ⟨rfl, hb⟩; have n0_ := am_ (below_step HB.out hb); have n1_ := am_ (blk_below BKn.out hb); clear HB BKn zn0 zn1 zn2 hb; have HB := n0_; have BKn := n1_; clear n0_ n1_; have zn0 : w4.cell? ⟨gn, 0, none⟩ = some (.int .i64 a0_0) := (blk_cell BKn.out 0).trans rfl; have zn1 : w4.cell? ⟨gn, 1, none⟩ = some (.bool a0_1) := (blk_cell BKn.out 1).trans rfl; have zn2 : w4.cell? ⟨gn, 2, none⟩ = some (.slice A0_2 l0_2.length c0_2) := (blk_cell BKn.out 2).trans rfl)
    | (go_at_call 48; (with_reducible refine (plan_Check.calls k a0_0 a0_1 A0_2 c0_2 l0_2 a1 a2 a3 A4 c4 l4 v2 e2 _ ?side24 HC0.out ?side34 HC4.out HE2.out).mono ?_); (case side24 => exact (Kd.C_below HR0.out HB.out)); (case side34 => exact (Kd.C_below HR4.out HB.out)); rintro e5 w5 ⟨rfl, hb⟩; have n0_ := am_ (below_step HB.out hb); have n1_ := am_ (blk_below BKn.out hb); clear HB BKn zn0 zn1 zn2 hb; have HB := n0_; have BKn := n1_; clear n0_ n1_; have zn0 : w5.cell? ⟨gn, 0, none⟩ = some (.int .i64 a0_0) := (blk_cell BKn.out 0).trans rfl; have zn1 : w5.cell? ⟨gn, 1, none⟩ = some (.bool a0_1) := (blk_cell BKn.out 1).trans rfl; have zn2 : w5.cell? ⟨gn, 2, none⟩ = some (.slice A0_2 l0_2.length c0_2) := (blk_cell BKn.out 2).trans rfl))
   go_ret2
   exact ⟨_, rfl, Kd.R_nil _ _ _ _ _, HB.out⟩
 ·rw [if_neg c] at h
  simp only [Option.some.injEq, Prod.mk.injEq] at h
  obtain ⟨rfl, rfl⟩ := h
  have c1 : (e == 0) = false := beq_eq_false_iff_ne.2 c
  have c2 : (e != 0) = true := bne_iff_ne.2 c
  clear c
  have HOK := am_ (trivial : True)
  have HEN := HOK
  have HLE := HOK
  have HFO := HOK
  have HL2 := HOK
  have HNB := HOK
  have HE2 := HOK
  have HE3 := HOK
  have HE4 := HOK
  have v2 := HOK
  have e2 := HOK
  have xs := HOK
  have e3 := HOK
  have M := HOK
  have e4 := HOK
  go_enter Try.func28, Try.ntmps28
  go_wp2_with (first
   | ((with_reducible refine gate_dst (N := 5) rfl ?_); refine box_event ?hg (N := 5) ?hd (cs := #[.int .i64 a0_0, .bool a0_1, .slice A0_2 l0_2.length c0_2]) (t := 24) ?hr ?_; (case hd => rfl); (case hg => rfl); (case hr => first | (go_simp; done) | (go_simp; rfl)); intro gn hg w2 hbox hb; replace HB := am_ (below_step HB.out hb); have BKn := am_ hbox; clear hb hbox hg; have zn0 : w2.cell? ⟨gn, 0, none⟩ = some (.int .i64 a0_0) := (blk_cell BKn.out 0).trans rfl; have zn1 : w2.cell? ⟨gn, 1, none⟩ = some (.bool a0_1) := (blk_cell BKn.out 1).trans rfl; have zn2 : w2.cell? ⟨gn, 2, none⟩ = some (.slice A0_2 l0_2.length c0_2) := (blk_cell BKn.out 2).trans rfl)
   | (go_at_call 38; (with_reducible refine (expand_Asked.calls k a0_0 a0_1 A0_2 c0_2 l0_2 a1 a2 a3 e _ ?side15 HC0.out HE.out).mono ?_); (case side15 => exact (Kd.C_below HR0.out HB.out)); rintro e4 w4 ⟨rfl, hb⟩; have n0_ := am_ (below_step HB.out hb); have n1_ := am_ (blk_below BKn.out hb); clear HB BKn zn0 zn1 zn2 hb; have HB := n0_; have BKn := n1_; clear n0_ n1_; have zn0 : w4.cell? ⟨gn, 0, none⟩ = some (.int .i64 a0_0) := (blk_cell BKn.out 0).trans rfl; have zn1 : w4.cell? ⟨gn, 1, none⟩ = some (.bool a0_1) := (blk_cell BKn.out 1).trans rfl; have zn2 : w4.cell? ⟨gn, 2, none⟩ = some (.slice A0_2 l0_2.length c0_2) := (blk_cell BKn.out 2).trans rfl))
  go_ret2
  exact ⟨_, rfl, Kd.R_nil _ _ _ _ _, HB.out⟩
end Go.Proofs.Ytfhkkbpkajfdlaa.Q
end
section
namespace Go.Proofs.Ytfhkkbpkajfdlaa.Q
open Go.RowKit Go.Proofs.YtfhkkbpkajfdlaaW.PrintWords Go.Proofs.YtfhkkbpkajfdlaaW.PrintLast Go.Proofs.YtfhkkbpkajfdlaaW.PrintMore
attribute [local go_sem] max2_int min2_int max_two min_two min_four
theorem eqA85 (d : Nat) (w : World) (x0 y0 : Int) (x1 y1 : Int) (x2 y2 : Int) :
  (Op.equalIn (d + 2) 85 (.agg #[.int .i64 x0, .int .i64 x1, .int .i64 x2]) (.agg #[.int .i64 y0, .int .i64 y1, .int .i64 y2])).run Try.prog w = .ok (x0 == y0 && (x1 == y1 && (x2 == y2))) w := by
 refine eqA_of Try.underlying85 (by kernel_rfl) ?_; refine eqf_cons (by rfl) (by go_simp; rfl) (by go_simp; rfl) (by go_simp) ?_; refine eqf_cons (by rfl) (by go_simp; rfl) (by go_simp; rfl) (by go_simp) ?_; exact eqf_last (by rfl) (by go_simp; rfl) (by go_simp; rfl) (by go_simp)
end Go.Proofs.Ytfhkkbpkajfdlaa.Q
end
section
namespace Go.Proofs.Ytfhkkbpkajfdlaa.Q
open Go.RowKit Go.Proofs.YtfhkkbpkajfdlaaW.PrintWords Go.Proofs.YtfhkkbpkajfdlaaW.PrintLast Go.Proofs.YtfhkkbpkajfdlaaW.PrintMore
attribute [local go_sem high] eqA85
def ebbtideref03_SameMoves.l0 : Nat → List (S85) → List (S85) → Int → Option (Bool)
 | 0, _, _, _ => none
 | k + 1, x0, x1, x5 => if x5 < (x0.length : Int) then (if 0 ≤ x5 then (if x5 < (x1.length : Int) then (if (!(((rd_T85 x0 x5).f0) == ((rd_T85 x1 x5).f0)) || (!(((rd_T85 x0 x5).f1) == ((rd_T85 x1 x5).f1)) || (!(((rd_T85 x0 x5).f2) == ((rd_T85 x1 x5).f2))))) = true then (some false) else (ebbtideref03_SameMoves.l0 k x0 x1 (wrap64 (x5 + 1)))) else (none)) else (none)) else (some true)
def ebbtideref03_SameMoves.f (k : Nat) (l0 : List (S85)) (l1 : List (S85)) : Option (Bool) := if (l0.length : Int) = (l1.length : Int) then (ebbtideref03_SameMoves.l0 k l0 l1 0) else (some false)
set_option maxHeartbeats 8000000 in
set_option maxRecDepth 100000 in
theorem ebbtideref03_SameMoves.calls (k : Nat) (A0 : Option Addr) (c0 : Nat) (l0 : List (S85)) (A1 : Option Addr) (c1 : Nat) (l1 : List (S85)) (r : Bool) (w : World) (hr0 : Kd.C k85 w A0 l0.length l0) (hc0 : l0.length ≤ c0) (hr1 : Kd.C k85 w A1 l1.length l1) (hc1 : l1.length ≤ c1) (h : ebbtideref03_SameMoves.f k l0 l1 = some r) :
  Calls Try.prog 23 #[.slice A0 l0.length c0, .slice A1 l1.length c1] w fun e w' => e = .returned (.bool r) ∧ Drawn0 w w' := by
 have hu85 := Try.underlying85; have HR0 := am_ hr0; have HC0 := am_ hc0; clear hr0 hc0; have HR1 := am_ hr1; have HC1 := am_ hc1; clear hr1 hc1; have H : (if (l0.length : Int) = (l1.length : Int) then (ebbtideref03_SameMoves.l0 k l0 l1 0) else (some false)) = some r := h; clear h
 by_cases c3 : (l0.length : Int) = (l1.length : Int)
 ·rw [if_pos c3] at H
  obtain ⟨c3b0, c3b1⟩ := eqb_ c3
  have c3b2 : (l0.length == l1.length) = true := by first | simpa using c3 | (simp at c3 ⊢; omega)
  clear c3; have H' := am_ H; clear H
  go_enter Try.func23, Try.ntmps23
  go_wp2
  repeat (go_quiet (fail); try go_wp2)
  go_loopg [5] k (fun kq v5 w' => ∃ (x5_1 : Int), v5 = .int .i64 x5_1 ∧ Aside0 (ebbtideref03_SameMoves.l0 kq l0 l1 x5_1 = some r) ∧ Aside0 (kq ≤ k) ∧ Drawn0 w w')
  case atStart => exact ⟨(0), rs_, H', ⟨Nat.le_refl _⟩, by repeat (first | exact Drawn0.refl _ | apply Drawn0.step)⟩
  case round =>
   clear H'
   try clear c1
   try clear c2
   try clear p2
   try clear c3
   try clear c3b0
   try clear c3b1
   try clear c3b2
   obtain ⟨x5_1, rfl, HA, HK1, ⟨m1, rfl⟩⟩ := hrel
   cases gk with
   | zero => exact absurd HA.out (by simp [ebbtideref03_SameMoves.l0])
   | succ k1 =>
    have H := HA.out; clear HA; simp only [ebbtideref03_SameMoves.l0] at H
    by_cases c4 : x5_1 < (l0.length : Int)
    ·rw [if_pos c4] at H
     have c4b0 := decide_eq_true c4; clear c4
     replace H := ifn_ H; obtain ⟨c5, H⟩ := H
     have c5b0 := decide_eq_true c5; clear c5
     replace H := ifn_ H; obtain ⟨c6, H⟩ := H
     have c6b0 := decide_eq_true c6; clear c6
     by_cases c7 : (!(((rd_T85 l0 x5_1).f0) == ((rd_T85 l1 x5_1).f0)) || (!(((rd_T85 l0 x5_1).f1) == ((rd_T85 l1 x5_1).f1)) || (!(((rd_T85 l0 x5_1).f2) == ((rd_T85 l1 x5_1).f2))))) = true
     ·rw [if_pos c7] at H
      have c7b0 : (!(((rd_T85 l0 x5_1).f0) == ((rd_T85 l1 x5_1).f0)) || (!(((rd_T85 l0 x5_1).f1) == ((rd_T85 l1 x5_1).f1)) || (!(((rd_T85 l0 x5_1).f2) == ((rd_T85 l1 x5_1).f2))))) = true := c7; clear c7; obtain rfl := Option.some.inj H; have p420 : 0 ≤ (x5_1 : Int) := of_decide_eq_true sm_; have q420 : x5_1 < (l0.length : Int) := of_decide_eq_true sm_; obtain ⟨ad420, e420, hx420_0, hx420_1, hx420_2⟩ := at_T85 HR0.out x5_1 p420 q420; cases e420; replace p420 := eq_true p420; replace q420 := eq_true q420; have p421 : 0 ≤ (x5_1 : Int) := of_decide_eq_true sm_; have q421 : x5_1 < (l1.length : Int) := of_decide_eq_true sm_; obtain ⟨ad421, e421, hx421_0, hx421_1, hx421_2⟩ := at_T85 HR1.out x5_1 p421 q421; cases e421; replace p421 := eq_true p421; replace q421 := eq_true q421
      go_wp2
      repeat (go_quiet (fail); try go_wp2)
      go_ret
      exact ⟨by first | rfl | (simp; done) | (simp [*]; done), by repeat (first | exact Drawn0.refl _ | apply Drawn0.step)⟩
     ·rw [if_neg c7] at H
      have c7b0 : (!(((rd_T85 l0 x5_1).f0) == ((rd_T85 l1 x5_1).f0)) || (!(((rd_T85 l0 x5_1).f1) == ((rd_T85 l1 x5_1).f1)) || (!(((rd_T85 l0 x5_1).f2) == ((rd_T85 l1 x5_1).f2))))) = false := by simpa using c7
      clear c7; have H' := am_ H; clear H; have p420 : 0 ≤ (x5_1 : Int) := of_decide_eq_true sm_; have q420 : x5_1 < (l0.length : Int) := of_decide_eq_true sm_; obtain ⟨ad420, e420, hx420_0, hx420_1, hx420_2⟩ := at_T85 HR0.out x5_1 p420 q420; cases e420; replace p420 := eq_true p420; replace q420 := eq_true q420; have p421 : 0 ≤ (x5_1 : Int) := of_decide_eq_true sm_; have q421 : x5_1 < (l1.length : Int) := of_decide_eq_true sm_; obtain ⟨ad421, e421, hx421_0, hx421_1, hx421_2⟩ := at_T85 HR1.out x5_1 p421 q421; cases e421; replace p421 := eq_true p421; replace q421 := eq_true q421
      go_wp2
      repeat (go_quiet (fail); try go_wp2)
      go_roundg k1
      case measure => have := HK1.out; omega
      case rel => exact ⟨(wrap64 (x5_1 + 1)), rs_, H', ⟨by have := HK1.out; omega⟩, by repeat (first | exact Drawn0.refl _ | apply Drawn0.step)⟩
    ·rw [if_neg c4] at H
     have c4b0 := decide_eq_false c4; clear c4; obtain rfl := Option.some.inj H
     go_wp2
     repeat (go_quiet (fail); try go_wp2)
     go_ret
     exact ⟨by first | rfl | (simp; done) | (simp [*]; done), by repeat (first | exact Drawn0.refl _ | apply Drawn0.step)⟩
 ·rw [if_neg c3] at H
  obtain ⟨c3b0, c3b1⟩ := neb_ c3
  have c3b2 : (l0.length == l1.length) = false := by first | simpa using c3 | (simp at c3 ⊢; omega)
  obtain rfl := Option.some.inj H
  go_enter Try.func23, Try.ntmps23
  go_wp2
  repeat (go_quiet (fail); try go_wp2)
  go_ret
  exact ⟨by first | rfl | (simp; done) | (simp [*]; done), by repeat (first | exact Drawn0.refl _ | apply Drawn0.step)⟩
end Go.Proofs.Ytfhkkbpkajfdlaa.Q
end
section
namespace Go.Proofs.Ytfhkkbpkajfdlaa.P
open Go.RowKit Go.Proofs.Ytfhkkbpkajfdlaa.Q Go.Proofs.YtfhkkbpkajfdlaaW.PrintWords Go.Proofs.YtfhkkbpkajfdlaaW.PrintLast Go.Proofs.YtfhkkbpkajfdlaaW.PrintMore
def movesR (n : Int) (b : Bool) (l : List S54) (s t h : Int) (lf : List Int) : List S85 × Int :=
 if expErr n l s t h = 0 then (if lf.length = (gridArcs n h b s t l).length then (if withinB lf (gridArcs n h b s t l) = true then (toldL lf (gridMoves n h b s t l), 0) else ([], 71)) else ([], 71)) else ([], expErr n l s t h)
theorem moves15_ev (n : Int) (b : Bool) (l : List S54) (s t h : Int) (lf : List Int) : Ev (fun k => expand_Moves.f k n b l s t h lf) (movesR n b l s t h lf) := by
 unfold expand_Moves.f movesR
 refine Ev.bind (easked_ev n b l s t h) ?_
 by_cases c : expErr n l s t h = 0
 ·obtain ⟨h1, h2, h3, h4⟩ := expErr_ok c
  simp only [c, if_true]
  refine ev_cst fun _ => ?_
  rw [if_pos ⟨okNet_of h1 h4, h2.1, h2.2, h3.1, h3.2⟩]
  split
  ·split <;> rfl
  ·rfl
 ·simp only [c, if_false]; exact Ev.now _
section
variable {V H s t : Int} {hold : Bool} {l0 : List S54}
theorem kinds_eq : gridKinds V H hold s t l0 = kindsB V H hold s t l0 (H.toNat + 1) ++ kEnds s (H.toNat + 1) ++ kEnds t (H.toNat + 1) := by unfold gridKinds; rw [rAts_kinds]
theorem kEnds_mem {v : Int} {n : Nat} {k : S83} (h : k ∈ kEnds v n) : k.f0 = false ∧ k.f1 = false ∧ k.f3 = v := by
 unfold kEnds at h
 obtain ⟨a, _, rfl⟩ := List.mem_map.1 h
 exact ⟨rfl, rfl, rfl⟩
theorem movesK_ends {K E : List S83} (h : ∀ k ∈ E, k.f0 = false) : movesK (K ++ E) = movesK K := by
 unfold movesK
 have e0 : (E.zipIdx (0 + K.length)).filterMap mvK = [] := by
  rw [List.filterMap_eq_nil_iff]
  rintro ⟨k, i⟩ hk
  have := h k (by
   have := List.mem_zipIdx hk
   obtain ⟨_, _, e⟩ := this
   rw [e]; exact List.getElem_mem _)
  unfold mvK
  rw [if_neg (by simp only [this]; exact Bool.false_ne_true)]
 rw [List.zipIdx_append, List.filterMap_append, e0, List.append_nil]
theorem gridMoves_eq : gridMoves V H hold s t l0 = movesK (gridKinds V H hold s t l0) := by
 unfold gridMoves
 rw [log1, kinds_eq, movesK_ends (fun k hk => (kEnds_mem hk).1), movesK_ends (fun k hk => (kEnds_mem hk).1)]
theorem gridKinds_length : (gridKinds V H hold s t l0).length = (gridArcs V H hold s t l0).length := by
 rw [kinds_eq]
 unfold gridArcs
 rw [arcs1, List.length_append, List.length_append, List.length_append, List.length_append, List.length_map, kEnds_length, kEnds_length, firstsA_length, lastsA_length]
theorem movesK_take {K : List S83} {i : Nat} (hi : i < K.length) : movesK (K.take (i + 1)) = movesK (K.take i) ++ (mvK (K[i], i)).toList := by
 rw [List.take_succ_eq_append_getElem hi, movesK_snoc, List.length_take, Nat.min_eq_left (by omega)]
theorem toldL_append (lf : List Int) (A B : List ((Int × Int) × Int)) : toldL lf (A ++ B) = toldL lf A ++ toldL lf B := by unfold toldL; exact List.filterMap_append
end
theorem sameMoves_ev (l : List S85) (hl : l.length ≤ 4611686018427387904) : Ev (fun k => ebbtideref03_SameMoves.f k l l) true := by
 have hloop : ∀ d i, i + d = l.length → Ev (fun k => ebbtideref03_SameMoves.l0 k l l (i : Int)) true := by
  intro d
  induction d with
  | zero => intro i hi; exact ev_cst fun k => by rw [ebbtideref03_SameMoves.l0, if_neg (by omega)]
  | succ d ih =>
   intro i hi
   refine Ev.step (fun k => ?_) (ih (i + 1) (by omega))
   rw [ebbtideref03_SameMoves.l0, if_pos (by omega), if_pos (by omega), if_pos (by omega), if_neg (by simp), wrap1 (by omega)]
 refine Ev.congr (fun k => ?_) (hloop l.length 0 (by omega))
 unfold ebbtideref03_SameMoves.f
 rw [if_pos rfl]
 rfl
end Go.Proofs.Ytfhkkbpkajfdlaa.P
end
section
namespace Go.Proofs.Ytfhkkbpkajfdlaa.Q
open Go.RowKit Go.Proofs.YtfhkkbpkajfdlaaW.PrintWords Go.Proofs.YtfhkkbpkajfdlaaW.PrintLast Go.Proofs.YtfhkkbpkajfdlaaW.PrintMore
mutual
def ebbtideref03_Moves.l0 : Nat → List (S85) → List (S85) → Int → Option ((List (S85)) × Int)
 | 0, _, _, _ => none
 | k + 1, x0, x4, x5 => if x5 < (x0.length : Int) then (ebbtideref03_Moves.l1 k x0 x4 x5 true 0) else (some (x4, 0))
def ebbtideref03_Moves.l1 : Nat → List (S85) → List (S85) → Int → Bool → Int → Option ((List (S85)) × Int)
 | 0, _, _, _, _, _ => none
 | k + 1, x0, x4, x5, x6, x7 => if x7 < x5 then (if x6 = true then (if 0 ≤ x7 then (if x7 < (x0.length : Int) then (if 0 ≤ x5 then (if x5 < (x0.length : Int) then (if ((rd_T85 x0 x7).f0) = ((rd_T85 x0 x5).f0) then (ebbtideref03_Moves.l1 k x0 x4 x5 (((rd_T85 x0 x7).f1) != ((rd_T85 x0 x5).f1)) (wrap64 (x7 + 1))) else (ebbtideref03_Moves.l1 k x0 x4 x5 true (wrap64 (x7 + 1)))) else (none)) else (none)) else (none)) else (none)) else (ebbtideref03_Moves.l1 k x0 x4 x5 false (wrap64 (x7 + 1)))) else (if x6 = true then (ebbtideref03_Moves.l2 k x0 x4 x5 ([] : List Int) x5) else (ebbtideref03_Moves.l0 k x0 x4 (wrap64 (x5 + 1))))
def ebbtideref03_Moves.l2 : Nat → List (S85) → List (S85) → Int → List Int → Int → Option ((List (S85)) × Int)
 | 0, _, _, _, _, _ => none
 | k + 1, x0, x4, x5, x8, x9 => if x9 < (x0.length : Int) then (if 0 ≤ x9 then (if 0 ≤ x5 then (if x5 < (x0.length : Int) then (if ((rd_T85 x0 x9).f0) = ((rd_T85 x0 x5).f0) then (if ((rd_T85 x0 x9).f1) = ((rd_T85 x0 x5).f1) then (if x8.length < 17592186044416 then (ebbtideref03_Moves.l2 k x0 x4 x5 (x8 ++ [(rd_T85 x0 x9).f2]) (wrap64 (x9 + 1))) else (none)) else (ebbtideref03_Moves.l2 k x0 x4 x5 x8 (wrap64 (x9 + 1)))) else (ebbtideref03_Moves.l2 k x0 x4 x5 x8 (wrap64 (x9 + 1)))) else (none)) else (none)) else (none)) else ((ebbtideref01_Sum.f k x8).bind fun bt575 => (if bt575.2 = true then (if bt575.1 = 0 then (ebbtideref03_Moves.l0 k x0 x4 (wrap64 (x5 + 1))) else (if 0 ≤ x5 then (if x5 < (x0.length : Int) then (if x4.length < 5864062014805 then ((some (x4 ++ [(⟨(rd_T85 x0 x5).f0, (rd_T85 x0 x5).f1, bt575.1⟩ : S85)] : List (S85))).bind fun y579 => (ebbtideref03_Moves.l3 k x0 y579 x5 (wrap64 ((y579.length : Int) - 1)))) else (none)) else (none)) else (none))) else (some (([] : List (S85)), 10))))
def ebbtideref03_Moves.l3 : Nat → List (S85) → List (S85) → Int → Int → Option ((List (S85)) × Int)
 | 0, _, _, _, _ => none
 | k + 1, x0, x4, x5, x12 => if x12 > 0 then (if 0 ≤ x12 then (if x12 < (x4.length : Int) then (if 0 ≤ (wrap64 (x12 - 1)) then (if (wrap64 (x12 - 1)) < (x4.length : Int) then (if ((rd_T85 x4 x12).f1) < ((rd_T85 x4 (wrap64 (x12 - 1))).f1) then (ebbtideref03_Moves.l3 k x0 ((x4.set (x12 : Int).toNat (⟨(rd_T85 x4 (wrap64 (x12 - 1))).f0, (rd_T85 x4 (wrap64 (x12 - 1))).f1, (rd_T85 x4 (wrap64 (x12 - 1))).f2⟩ : S85)).set ((wrap64 (x12 - 1)) : Int).toNat (⟨(rd_T85 x4 x12).f0, (rd_T85 x4 x12).f1, (rd_T85 x4 x12).f2⟩ : S85)) x5 (wrap64 (x12 - 1))) else (if ((rd_T85 x4 x12).f1) = ((rd_T85 x4 (wrap64 (x12 - 1))).f1) then (if ((rd_T85 x4 x12).f0) < ((rd_T85 x4 (wrap64 (x12 - 1))).f0) then (ebbtideref03_Moves.l3 k x0 ((x4.set (x12 : Int).toNat (⟨(rd_T85 x4 (wrap64 (x12 - 1))).f0, (rd_T85 x4 (wrap64 (x12 - 1))).f1, (rd_T85 x4 (wrap64 (x12 - 1))).f2⟩ : S85)).set ((wrap64 (x12 - 1)) : Int).toNat (⟨(rd_T85 x4 x12).f0, (rd_T85 x4 x12).f1, (rd_T85 x4 x12).f2⟩ : S85)) x5 (wrap64 (x12 - 1))) else (ebbtideref03_Moves.l0 k x0 x4 (wrap64 (x5 + 1)))) else (ebbtideref03_Moves.l0 k x0 x4 (wrap64 (x5 + 1))))) else (none)) else (none)) else (none)) else (none)) else (ebbtideref03_Moves.l0 k x0 x4 (wrap64 (x5 + 1)))
end
def ebbtideref03_Moves.f (k : Nat) (l0 : List (S85)) : Option ((List (S85)) × Int) := ebbtideref03_Moves.l0 k l0 ([] : List (S85)) 0
def ebbtideref03_Moves.T21 : Bool × List (List Nat × List Nat) := (true, [([], []), ([], []), ([], []), ([1, 2], [1, 2]), ([3], [3]), ([4], [4]), ([], []), ([], []), ([6, 7], [6, 7]), ([8], [8]), ([9], [9]), ([], []), ([5, 10, 11], [5, 10, 11]), ([12], [12]), ([0, 13], [0, 13]), ([14, 14, 0, 1, 2, 3, 4, 5, 6, 7, 8, 9, 10, 11, 12, 13, 14], [0, 14])])
def ebbtideref03_Moves.B21 : List Nat := [0, 0, 0, 6, 14, 30, 0, 0, 192, 448, 960, 0, 4094, 8190, 16383, 32767]
theorem ebbtideref03_Moves.tab21 : rtab .any (opsOf Try.f31 21) = ebbtideref03_Moves.T21 := by kernel_rfl
theorem ebbtideref03_Moves.bits21 : waitsOk ebbtideref03_Moves.T21.2 ebbtideref03_Moves.B21 = true := by kernel_rfl
def ebbtideref03_Moves.T25 : Bool × List (List Nat × List Nat) := (true, [([], []), ([], []), ([], []), ([], []), ([3], [3]), ([], []), ([], []), ([6], [6]), ([5, 7], [5, 7]), ([8], [8]), ([], []), ([], []), ([10, 11], [10, 11]), ([12], [12]), ([0, 1, 0, 1, 5, 6, 7, 8, 9, 13], [0, 1]), ([14, 9, 0, 1, 5, 6, 7, 8, 9, 13], [9, 14]), ([2, 4, 0, 1, 2, 3, 4, 5, 6, 7, 8, 9, 10, 11, 12, 13, 14, 15], [2, 4]), ([16, 13, 15, 0, 1, 2, 3, 4, 5, 6, 7, 8, 9, 10, 11, 12, 13, 14, 15], [13, 16])])
def ebbtideref03_Moves.B25 : List Nat := [0, 0, 0, 0, 8, 0, 0, 64, 224, 480, 0, 0, 3072, 7168, 16355, 32739, 65535, 131071]
theorem ebbtideref03_Moves.tab25 : rtab .any (opsOf Try.f31 25) = ebbtideref03_Moves.T25 := by kernel_rfl
theorem ebbtideref03_Moves.bits25 : waitsOk ebbtideref03_Moves.T25.2 ebbtideref03_Moves.B25 = true := by kernel_rfl
set_option maxHeartbeats 8000000 in
set_option maxRecDepth 100000 in
theorem ebbtideref03_Moves.calls (k : Nat) (A0 : Option Addr) (c0 : Nat) (l0 : List (S85)) (r1 : List (S85)) (r2 : Int) (w : World) (hr0 : Kd.C k85 w A0 l0.length l0) (hc0 : l0.length ≤ c0) (h : ebbtideref03_Moves.f k l0 = some (r1, r2)) :
  Calls Try.prog 31 #[.slice A0 l0.length c0] w fun e w' => ∃ v0_ : Value, e = .returned (.tuple #[v0_, .int .i64 r2]) ∧ Kd.R k85 85 w' w.heap.size (fun _ => True) v0_ r1 ∧ Below w.heap.size w w' := by
 have hu85 := Try.underlying85; have HR0 := am_ hr0; have HC0 := am_ hc0; clear hr0 hc0; have HB := am_ (Below.refl w.heap.size w); have H : (ebbtideref03_Moves.l0 k l0 ([] : List (S85)) 0) = some (r1, r2) := h; clear h; have H' := am_ H; clear H
 go_enter Try.func31, Try.ntmps31
 go_wp2
 go_loopg [4, 5] k (fun kq v4 v5 w' => ∃ (x4_1 : List (S85)) (x5_1 : Int), v5 = .int .i64 x5_1 ∧ Aside0 (ebbtideref03_Moves.l0 kq l0 x4_1 x5_1 = some (r1, r2)) ∧ Aside0 (kq ≤ k) ∧ Aside0 (Kd.R k85 85 w' w.heap.size (fun _ => True) v4 x4_1) ∧ Aside0 (Below w.heap.size w w'))
 case atStart => exact ⟨(([] : List (S85))), (0), rs_, H', ⟨Nat.le_refl _⟩, ⟨ni_⟩, ⟨hb_⟩⟩
 case round =>
  clear H'; obtain ⟨x4_1, x5_1, rfl, HA, HK1, HO_4, HB⟩ := hrel
  cases gk with
  | zero => exact absurd HA.out (by simp [ebbtideref03_Moves.l0])
  | succ k1 =>
   have H := HA.out; clear HA; simp only [ebbtideref03_Moves.l0] at H
   by_cases c2 : x5_1 < (l0.length : Int)
   ·rw [if_pos c2] at H
    have c2b0 := decide_eq_true c2; clear c2; have H' := am_ H; clear H
    go_wp2
    go_loopg [6, 7] k1 (fun kq v6 v7 w' => ∃ (x6_2 : Bool) (x7_2 : Int), v6 = .bool x6_2 ∧ v7 = .int .i64 x7_2 ∧ Aside0 (ebbtideref03_Moves.l1 kq l0 x4_1 x5_1 x6_2 x7_2 = some (r1, r2)) ∧ Aside0 (kq ≤ k1) ∧ Aside0 (Kd.R k85 85 w' w.heap.size (fun _ => True) u4 x4_1) ∧ Aside0 (Below w.heap.size w w'))
    case atStart => exact ⟨(true), (0), rs_, rs_, H', ⟨Nat.le_refl _⟩, ⟨rq_ HO_4.out⟩, ⟨hb_⟩⟩
    case round =>
     clear H'
     try clear c2
     try clear c2b0
     try clear p2
     obtain ⟨x6_2, x7_2, rfl, rfl, HA, HK2, HO_4, HB⟩ := hrel
     cases gk with
     | zero => exact absurd HA.out (by simp [ebbtideref03_Moves.l1])
     | succ k2 =>
      have H := HA.out; clear HA; simp only [ebbtideref03_Moves.l1] at H
      by_cases c3 : x7_2 < x5_1
      ·rw [if_pos c3] at H
       have c3b0 := decide_eq_true c3; clear c3
       by_cases c4 : x6_2 = true
       ·subst c4
        have H1 : (if 0 ≤ x7_2 then (if x7_2 < (l0.length : Int) then (if 0 ≤ x5_1 then (if x5_1 < (l0.length : Int) then (if ((rd_T85 l0 x7_2).f0) = ((rd_T85 l0 x5_1).f0) then (ebbtideref03_Moves.l1 k2 l0 x4_1 x5_1 (((rd_T85 l0 x7_2).f1) != ((rd_T85 l0 x5_1).f1)) (wrap64 (x7_2 + 1))) else (ebbtideref03_Moves.l1 k2 l0 x4_1 x5_1 true (wrap64 (x7_2 + 1)))) else (none)) else (none)) else (none)) else (none)) = some (r1, r2) := by rw [if_pos rfl] at H; exact H
        clear H; have H := H1; clear H1
        replace H := ifn_ H; obtain ⟨c5, H⟩ := H
        have c5b0 := decide_eq_true c5; clear c5
        replace H := ifn_ H; obtain ⟨c6, H⟩ := H
        have c6b0 := decide_eq_true c6; clear c6
        replace H := ifn_ H; obtain ⟨c7, H⟩ := H
        have c7b0 := decide_eq_true c7; clear c7
        replace H := ifn_ H; obtain ⟨c8, H⟩ := H
        have c8b0 := decide_eq_true c8; clear c8
        by_cases c9 : ((rd_T85 l0 x7_2).f0) = ((rd_T85 l0 x5_1).f0)
        ·rw [if_pos c9] at H
         obtain ⟨c9b0, c9b1⟩ := eqb_ c9; clear c9
         as_aux_lemma =>
          have H' := am_ H; clear H
          try go_wp2
          have p563 := od_ (p := 0 ≤ (x7_2 : Int)); have q563 := od_ (p := x7_2 < (l0.length : Int)); obtain ⟨ad563, e563, hx563_0, hx563_1, hx563_2⟩ := tr3_ HB.out (at_T85 HR0.out x7_2 p563 q563); cases e563; replace p563 := eq_true p563; replace q563 := eq_true q563; have p564 := od_ (p := 0 ≤ (x5_1 : Int)); have q564 := od_ (p := x5_1 < (l0.length : Int)); obtain ⟨ad564, e564, hx564_0, hx564_1, hx564_2⟩ := tr3_ HB.out (at_T85 HR0.out x5_1 p564 q564); obtain rfl : ad563 = ad564 := (by injection e564); replace p564 := eq_true p564; replace q564 := eq_true q564; have p565 := od_ (p := 0 ≤ (x7_2 : Int)); have q565 := od_ (p := x7_2 < (l0.length : Int)); obtain ⟨ad565, e565, hx565_0, hx565_1, hx565_2⟩ := tr3_ HB.out (at_T85 HR0.out x7_2 p565 q565); obtain rfl : ad563 = ad565 := (by injection e565); replace p565 := eq_true p565; replace q565 := eq_true q565; go_quiet (fail); replace HO_4 := am_ (Kd.R_drewN HO_4.out nq); replace HB := am_ (pw_below_drewN HB.out nq); generalize wr.drewN nq = w10 at HO_4 HB ⊢
          try go_wp2
          go_roundg k2
          case measure => have := HK1.out; have := HK2.out; omega
          case rel => exact ⟨((((rd_T85 l0 x7_2).f1) != ((rd_T85 l0 x5_1).f1))), (wrap64 (x7_2 + 1)), rs_, rs_, H', ⟨by have := HK1.out; have := HK2.out; omega⟩, ⟨rq_ HO_4.out⟩, ⟨hb_⟩⟩
        ·rw [if_neg c9] at H
         obtain ⟨c9b0, c9b1⟩ := neb_ c9
         as_aux_lemma =>
          have H' := am_ H; clear H
          try go_wp2
          have p563 := od_ (p := 0 ≤ (x7_2 : Int)); have q563 := od_ (p := x7_2 < (l0.length : Int)); obtain ⟨ad563, e563, hx563_0, hx563_1, hx563_2⟩ := tr3_ HB.out (at_T85 HR0.out x7_2 p563 q563); cases e563; replace p563 := eq_true p563; replace q563 := eq_true q563; have p564 := od_ (p := 0 ≤ (x5_1 : Int)); have q564 := od_ (p := x5_1 < (l0.length : Int)); obtain ⟨ad564, e564, hx564_0, hx564_1, hx564_2⟩ := tr3_ HB.out (at_T85 HR0.out x5_1 p564 q564); obtain rfl : ad563 = ad564 := (by injection e564); replace p564 := eq_true p564; replace q564 := eq_true q564; go_quiet (fail); replace HO_4 := am_ (Kd.R_drewN HO_4.out nq); replace HB := am_ (pw_below_drewN HB.out nq); generalize wr.drewN nq = w11 at HO_4 HB ⊢
          try go_wp2
          go_roundg k2
          case measure => have := HK1.out; have := HK2.out; omega
          case rel => exact ⟨(true), (wrap64 (x7_2 + 1)), rs_, rs_, H', ⟨by have := HK1.out; have := HK2.out; omega⟩, ⟨rq_ HO_4.out⟩, ⟨hb_⟩⟩
       ·replace c4 := Bool.eq_false_iff.mpr c4
        subst c4
        have H1 : (ebbtideref03_Moves.l1 k2 l0 x4_1 x5_1 false (wrap64 (x7_2 + 1))) = some (r1, r2) := by rw [if_neg (show ¬ (false = true) by decide)] at H; exact H
        clear H; have H := H1; clear H1
        as_aux_lemma =>
         have H' := am_ H; clear H
         try go_wp2
         go_quiet (fail); replace HO_4 := am_ (Kd.R_drewN HO_4.out nq); replace HB := am_ (pw_below_drewN HB.out nq); generalize wr.drewN nq = w12 at HO_4 HB ⊢
         try go_wp2
         go_roundg k2
         case measure => have := HK1.out; have := HK2.out; omega
         case rel => exact ⟨(false), (wrap64 (x7_2 + 1)), rs_, rs_, H', ⟨by have := HK1.out; have := HK2.out; omega⟩, ⟨rq_ HO_4.out⟩, ⟨hb_⟩⟩
      ·rw [if_neg c3] at H
       have c3b0 := decide_eq_false c3; clear c3
       by_cases c13 : x6_2 = true
       ·subst c13
        have H1 : (ebbtideref03_Moves.l2 k2 l0 x4_1 x5_1 ([] : List Int) x5_1) = some (r1, r2) := by rw [if_pos rfl] at H; exact H
        clear H; have H := H1; clear H1; have H' := am_ H; clear H
        go_wp2
        go_loopg [8, 9] k2 (fun kq v8 v9 w' => ∃ (x8_3 : List Int) (x9_3 : Int), v9 = .int .i64 x9_3 ∧ Aside0 (ebbtideref03_Moves.l2 kq l0 x4_1 x5_1 x8_3 x9_3 = some (r1, r2)) ∧ Aside0 (kq ≤ k2) ∧ Aside0 (Kd.R k85 85 w' w.heap.size (fun _ => True) u4 x4_1) ∧ Aside0 (Kd.R (Kd.int .i64) 3 w' w.heap.size (fun _ => True) v8 x8_3) ∧ Aside0 (Below w.heap.size w w'))
        case atStart => exact ⟨(([] : List Int)), (x5_1), rs_, H', ⟨Nat.le_refl _⟩, ⟨rq_ HO_4.out⟩, ⟨ni_⟩, ⟨hb_⟩⟩
        case round =>
         clear H'
         try clear c1
         try clear p2
         try clear c3
         try clear c3b0
         try clear c4
         try clear c5
         try clear p5
         try clear q5
         try clear hx5
         try clear c6
         try clear p6
         try clear c7
         try clear c8
         try clear c9
         try clear c9b0
         try clear c9b1
         try clear c13
         try clear hx563_0
         try clear hx563_1
         try clear hx563_2
         try clear hx564_0
         try clear hx564_1
         try clear hx564_2
         try clear p563
         try clear p564
         try clear q563
         try clear q564
         obtain ⟨x8_3, x9_3, rfl, HA, HK3, HO_4, HO_8, HB⟩ := hrel
         cases gk with
         | zero => exact absurd HA.out (by simp [ebbtideref03_Moves.l2])
         | succ k3 =>
          have H := HA.out; clear HA; simp only [ebbtideref03_Moves.l2] at H
          by_cases c14 : x9_3 < (l0.length : Int)
          ·rw [if_pos c14] at H
           have c14b0 := decide_eq_true c14; clear c14
           replace H := ifn_ H; obtain ⟨c15, H⟩ := H
           have c15b0 := decide_eq_true c15; clear c15
           replace H := ifn_ H; obtain ⟨c16, H⟩ := H
           have c16b0 := decide_eq_true c16; clear c16
           replace H := ifn_ H; obtain ⟨c17, H⟩ := H
           have c17b0 := decide_eq_true c17; clear c17
           by_cases c18 : ((rd_T85 l0 x9_3).f0) = ((rd_T85 l0 x5_1).f0)
           ·rw [if_pos c18] at H
            obtain ⟨c18b0, c18b1⟩ := eqb_ c18; clear c18
            by_cases c19 : ((rd_T85 l0 x9_3).f1) = ((rd_T85 l0 x5_1).f1)
            ·rw [if_pos c19] at H
             obtain ⟨c19b0, c19b1⟩ := eqb_ c19; clear c19
             replace H := ifn_ H; obtain ⟨c20, H⟩ := H
             have LMc20 := am_ c20; clear c20; obtain ⟨y572, hy_⟩ : ∃ y_ : List Int, y_ = (x8_3 ++ [(rd_T85 l0 x9_3).f2]) := ⟨_, rfl⟩
             replace H : (ebbtideref03_Moves.l2 k3 l0 x4_1 x5_1 y572 (wrap64 (x9_3 + 1))) = some (r1, r2) := hyH_
             have Ny572 := am_ hy_; clear hy_
             as_aux_lemma =>
              have H' := am_ H; clear H
              try go_wp2
              have p567 := od_ (p := 0 ≤ (x9_3 : Int)); have q567 := od_ (p := x9_3 < (l0.length : Int)); obtain ⟨ad567, e567, hx567_0, hx567_1, hx567_2⟩ := tr3_ HB.out (at_T85 HR0.out x9_3 p567 q567); cases e567; replace p567 := eq_true p567; replace q567 := eq_true q567; have p568 := od_ (p := 0 ≤ (x5_1 : Int)); have q568 := od_ (p := x5_1 < (l0.length : Int)); obtain ⟨ad568, e568, hx568_0, hx568_1, hx568_2⟩ := tr3_ HB.out (at_T85 HR0.out x5_1 p568 q568); obtain rfl : ad567 = ad568 := (by injection e568); replace p568 := eq_true p568; replace q568 := eq_true q568; have p569 := od_ (p := 0 ≤ (x9_3 : Int)); have q569 := od_ (p := x9_3 < (l0.length : Int)); obtain ⟨ad569, e569, hx569_0, hx569_1, hx569_2⟩ := tr3_ HB.out (at_T85 HR0.out x9_3 p569 q569); obtain rfl : ad567 = ad569 := (by injection e569); replace p569 := eq_true p569; replace q569 := eq_true q569; go_quiet (fail); replace HO_4 := am_ (Kd.R_drewN HO_4.out nq); replace HO_8 := am_ (Kd.R_drewN HO_8.out nq); replace HB := am_ (pw_below_drewN HB.out nq); generalize wr.drewN nq = w21 at HO_4 HO_8 HB ⊢; have p571 := od_ (p := 0 ≤ (x9_3 : Int)); have q571 := od_ (p := x9_3 < (l0.length : Int)); obtain ⟨ad571, e571, hx571_0, hx571_1, hx571_2⟩ := tr3_ HB.out (at_T85 HR0.out x9_3 p571 q571); obtain rfl : ad567 = ad571 := (by injection e571); replace p571 := eq_true p571; replace q571 := eq_true q571
              try go_wp2_with (first | ((with_reducible refine gate_builtin (b := .append) (xs := #[.tmp 84, .tmp 90]) rfl ?_); at_builtin; refine Kd.R_append (Kd.int .i64) (w0 := w) w.heap.size rfl (.tmp 84) (.tmp 90) 42 3 (.int .i64 0) 8 rfl Try.underlying42 info3 rfl (by decide) (by omega) u8 x8_3 ((rd_T85 l0 x9_3).f2) [.int .i64 ((rd_T85 l0 x9_3).f2)] (fun _ => True) (fun _ => False) rfl rfl ?aP (fun _ hk => hk.elim) ?aF ?aO ?aB ?aS ?aL ?_; (case aP => exact rfl); (case aB => exact hb_); (case aF => exact (fun _ _ => trivial)); (case aO => exact (rq_ HO_8.out)); (case aS => exact (below_size hb_)); (case aL => have := LMc20.out; omega); intro v573 w22 ho hb hg hat; rw [← Ny572.out] at ho; replace HO_4 := am_ (Kd.R_over' (rq_ HO_4.out) (Kd.R_typed (rq_ HO_8.out)) (by decide) hg); replace HB := am_ (hb); have HO574 := am_ (ho); clear HO_8; clear ho hb hg hat))
              go_roundg k3
              case measure => have := HK1.out; have := HK2.out; have := HK3.out; omega
              case rel => exact ⟨(y572), (wrap64 (x9_3 + 1)), rs_, H', ⟨by have := HK1.out; have := HK2.out; have := HK3.out; omega⟩, ⟨rq_ HO_4.out⟩, ⟨rq_ HO574.out⟩, ⟨hb_⟩⟩
            ·rw [if_neg c19] at H
             obtain ⟨c19b0, c19b1⟩ := neb_ c19
             as_aux_lemma =>
              have H' := am_ H; clear H
              try go_wp2
              have p567 := od_ (p := 0 ≤ (x9_3 : Int)); have q567 := od_ (p := x9_3 < (l0.length : Int)); obtain ⟨ad567, e567, hx567_0, hx567_1, hx567_2⟩ := tr3_ HB.out (at_T85 HR0.out x9_3 p567 q567); cases e567; replace p567 := eq_true p567; replace q567 := eq_true q567; have p568 := od_ (p := 0 ≤ (x5_1 : Int)); have q568 := od_ (p := x5_1 < (l0.length : Int)); obtain ⟨ad568, e568, hx568_0, hx568_1, hx568_2⟩ := tr3_ HB.out (at_T85 HR0.out x5_1 p568 q568); obtain rfl : ad567 = ad568 := (by injection e568); replace p568 := eq_true p568; replace q568 := eq_true q568; have p569 := od_ (p := 0 ≤ (x9_3 : Int)); have q569 := od_ (p := x9_3 < (l0.length : Int)); obtain ⟨ad569, e569, hx569_0, hx569_1, hx569_2⟩ := tr3_ HB.out (at_T85 HR0.out x9_3 p569 q569); obtain rfl : ad567 = ad569 := (by injection e569); replace p569 := eq_true p569; replace q569 := eq_true q569; go_quiet (fail); replace HO_4 := am_ (Kd.R_drewN HO_4.out nq); replace HO_8 := am_ (Kd.R_drewN HO_8.out nq); replace HB := am_ (pw_below_drewN HB.out nq); generalize wr.drewN nq = w23 at HO_4 HO_8 HB ⊢
              try go_wp2
              go_roundg k3
              case measure => have := HK1.out; have := HK2.out; have := HK3.out; omega
              case rel => exact ⟨(x8_3), (wrap64 (x9_3 + 1)), rs_, H', ⟨by have := HK1.out; have := HK2.out; have := HK3.out; omega⟩, ⟨rq_ HO_4.out⟩, ⟨rq_ HO_8.out⟩, ⟨hb_⟩⟩
           ·rw [if_neg c18] at H
            obtain ⟨c18b0, c18b1⟩ := neb_ c18
            as_aux_lemma =>
             have H' := am_ H; clear H
             try go_wp2
             have p567 := od_ (p := 0 ≤ (x9_3 : Int)); have q567 := od_ (p := x9_3 < (l0.length : Int)); obtain ⟨ad567, e567, hx567_0, hx567_1, hx567_2⟩ := tr3_ HB.out (at_T85 HR0.out x9_3 p567 q567); cases e567; replace p567 := eq_true p567; replace q567 := eq_true q567; have p568 := od_ (p := 0 ≤ (x5_1 : Int)); have q568 := od_ (p := x5_1 < (l0.length : Int)); obtain ⟨ad568, e568, hx568_0, hx568_1, hx568_2⟩ := tr3_ HB.out (at_T85 HR0.out x5_1 p568 q568); obtain rfl : ad567 = ad568 := (by injection e568); replace p568 := eq_true p568; replace q568 := eq_true q568; go_quiet (fail); replace HO_4 := am_ (Kd.R_drewN HO_4.out nq); replace HO_8 := am_ (Kd.R_drewN HO_8.out nq); replace HB := am_ (pw_below_drewN HB.out nq); generalize wr.drewN nq = w24 at HO_4 HO_8 HB ⊢
             try go_wp2
             go_roundg k3
             case measure => have := HK1.out; have := HK2.out; have := HK3.out; omega
             case rel => exact ⟨(x8_3), (wrap64 (x9_3 + 1)), rs_, H', ⟨by have := HK1.out; have := HK2.out; have := HK3.out; omega⟩, ⟨rq_ HO_4.out⟩, ⟨rq_ HO_8.out⟩, ⟨hb_⟩⟩
          ·rw [if_neg c14] at H
           have c14b0 := decide_eq_false c14; clear c14; replace H := Option.bind_eq_some_iff.mp H; obtain ⟨⟨t575, t576⟩, A250, H⟩ := H; replace H : (if t576 = true then (if t575 = 0 then (ebbtideref03_Moves.l0 k3 l0 x4_1 (wrap64 (x5_1 + 1))) else (if 0 ≤ x5_1 then (if x5_1 < (l0.length : Int) then (if x4_1.length < 5864062014805 then ((some (x4_1 ++ [(⟨(rd_T85 l0 x5_1).f0, (rd_T85 l0 x5_1).f1, t575⟩ : S85)] : List (S85))).bind fun y579 => (ebbtideref03_Moves.l3 k3 l0 y579 x5_1 (wrap64 ((y579.length : Int) - 1)))) else (none)) else (none)) else (none))) else (some (([] : List (S85)), 10))) = some (r1, r2) := H; have A25 := am_ A250; clear A250
           by_cases c26 : t576 = true
           ·subst c26
            have H1 : (if t575 = 0 then (ebbtideref03_Moves.l0 k3 l0 x4_1 (wrap64 (x5_1 + 1))) else (if 0 ≤ x5_1 then (if x5_1 < (l0.length : Int) then (if x4_1.length < 5864062014805 then ((some (x4_1 ++ [(⟨(rd_T85 l0 x5_1).f0, (rd_T85 l0 x5_1).f1, t575⟩ : S85)] : List (S85))).bind fun y579 => (ebbtideref03_Moves.l3 k3 l0 y579 x5_1 (wrap64 ((y579.length : Int) - 1)))) else (none)) else (none)) else (none))) = some (r1, r2) := by rw [if_pos rfl] at H; exact H
            clear H; have H := H1; clear H1
            by_cases c27 : t575 = 0
            ·rw [if_pos c27] at H
             obtain ⟨c27b0, c27b1⟩ := eqb_ c27; clear c27
             as_aux_lemma =>
              have H' := am_ H; clear H; obtain ⟨Ao28, co28, eo28⟩ := Kd.R_slice HO_8.out; subst eo28
              go_wp2_with (first | ((with_reducible refine gate_callee (f := 53) rfl ?_); refine goesL_ (some 94) rfl rfl Try.func53 (by kernel_rfl) rfl #[.slice Ao28 x8_3.length co28] rfl mt_ ?_; (with_reducible refine (ebbtideref01_Sum.calls k3 _ _ x8_3 t575 true _ ?side1 ?side2 A25.out).mono ?_); (case side1 => repeat (first | exact (Kd.R_reads' HO_8.out).2.2 | (with_reducible refine Kd.C_alloc ?_ _) | (with_reducible refine Kd.C_drewN ?_ _) | (with_reducible refine Kd.C_drew ?_))); (case side2 => exact (Kd.R_reads' HO_8.out).2.1); rintro e w' ⟨rfl, ⟨nd, rfl⟩⟩; refine ⟨_, rfl, ?_⟩))
              go_roundg k3
              case measure => have := HK1.out; have := HK2.out; have := HK3.out; omega
              case rel => exact ⟨(x4_1), (wrap64 (x5_1 + 1)), rs_, H', ⟨by have := HK1.out; have := HK2.out; have := HK3.out; omega⟩, ⟨rq_ HO_4.out⟩, ⟨hb_⟩⟩
            ·rw [if_neg c27] at H
             obtain ⟨c27b0, c27b1⟩ := neb_ c27
             replace H := ifn_ H; obtain ⟨c29, H⟩ := H
             have c29b0 := decide_eq_true c29; clear c29
             replace H := ifn_ H; obtain ⟨c30, H⟩ := H
             have c30b0 := decide_eq_true c30; clear c30
             replace H := ifn_ H; obtain ⟨c31, H⟩ := H
             have LMc31 := am_ c31; clear c31; obtain ⟨y579, hy_⟩ : ∃ y_ : List (S85), y_ = (x4_1 ++ [(⟨(rd_T85 l0 x5_1).f0, (rd_T85 l0 x5_1).f1, t575⟩ : S85)]) := ⟨_, rfl⟩
             replace H : (ebbtideref03_Moves.l3 k3 l0 y579 x5_1 (wrap64 ((y579.length : Int) - 1))) = some (r1, r2) := hyH_
             have Ny579 := am_ hy_; clear hy_; have H' := am_ H; clear H; obtain ⟨Ao32, co32, eo32⟩ := Kd.R_slice HO_8.out; subst eo32
             try go_wp2_with (first | ((with_reducible refine gate_callee (f := 53) rfl ?_); refine goesL_ (some 94) rfl rfl Try.func53 (by kernel_rfl) rfl #[.slice Ao32 x8_3.length co32] rfl mt_ ?_; (with_reducible refine (ebbtideref01_Sum.calls k3 _ _ x8_3 t575 true _ ?side1 ?side2 A25.out).mono ?_); (case side1 => repeat (first | exact (Kd.R_reads' HO_8.out).2.2 | (with_reducible refine Kd.C_alloc ?_ _) | (with_reducible refine Kd.C_drewN ?_ _) | (with_reducible refine Kd.C_drew ?_))); (case side2 => exact (Kd.R_reads' HO_8.out).2.1); rintro e w' ⟨rfl, ⟨nd, rfl⟩⟩; refine ⟨_, rfl, ?_⟩))
             (try (rw [drewN_self wr]; generalize hq_ : World.drewN wr _ = wr; have n0_ : Aside0 (Kd.R k85 85 wr w.heap.size (fun _ => True) u4 x4_1) := ⟨by rw [← hq_]; exact (rq_ HO_4.out)⟩; have n1_ : Aside0 (Kd.R (Kd.int .i64) 3 wr w.heap.size (fun _ => True) (.slice Ao32 x8_3.length co32) x8_3) := ⟨by rw [← hq_]; exact (rq_ HO_8.out)⟩; have n2_ : Aside0 (Below w.heap.size w wr) := ⟨by rw [← hq_]; exact hb_⟩; clear HO_4 HO_8 HB hq_; have HO_4 := n0_; have HO_8 := n1_; have HB := n2_; clear n0_ n1_ n2_))
             replace HO_4 := am_ (Kd.R_drew HO_4.out); replace HO_8 := am_ (Kd.R_drew HO_8.out); replace HB := am_ (below_drew1 HB.out); have p577 : 0 ≤ (x5_1 : Int) := of_decide_eq_true sm_; have q577 : x5_1 < (l0.length : Int) := of_decide_eq_true sm_; obtain ⟨ad577, e577, hx577_0, hx577_1, hx577_2⟩ := at_T85 HR0.out x5_1 p577 q577; have hw577_2 := hx577_2; have hw577_1 := hx577_1; have hw577_0 := hx577_0; cases e577; replace hx577_0 := (HB.out.cell (World.block_lt_of_cell? w _ hx577_0)).trans hx577_0; replace hx577_1 := (HB.out.cell (World.block_lt_of_cell? w _ hx577_1)).trans hx577_1; replace hx577_2 := (HB.out.cell (World.block_lt_of_cell? w _ hx577_2)).trans hx577_2; replace p577 := eq_true p577; replace q577 := eq_true q577; have p578 : 0 ≤ (x5_1 : Int) := of_decide_eq_true sm_; have q578 : x5_1 < (l0.length : Int) := of_decide_eq_true sm_; obtain ⟨ad578, e578, hx578_0, hx578_1, hx578_2⟩ := at_T85 HR0.out x5_1 p578 q578; have hw578_2 := hx578_2; have hw578_1 := hx578_1; have hw578_0 := hx578_0; obtain rfl : ad577 = ad578 := (by injection e578); replace hx578_0 := (HB.out.cell (World.block_lt_of_cell? w _ hx578_0)).trans hx578_0; replace hx578_1 := (HB.out.cell (World.block_lt_of_cell? w _ hx578_1)).trans hx578_1; replace hx578_2 := (HB.out.cell (World.block_lt_of_cell? w _ hx578_2)).trans hx578_2; replace p578 := eq_true p578; replace q578 := eq_true q578; refine start_ (n := 16) (S := fun w' => w'.cell? (ad577.add ((x5_1).toNat * 3)) = some (.int .i64 ((rd_T85 l0 x5_1).f0)) ∧ w'.cell? ⟨(ad577.add ((x5_1).toNat * 3)).block, (ad577.add ((x5_1).toNat * 3)).off + 1, none⟩ = some (.int .i64 ((rd_T85 l0 x5_1).f1)) ∧ w'.cell? ⟨(ad577.add ((x5_1).toNat * 3)).block, (ad577.add ((x5_1).toNat * 3)).off + 2, none⟩ = some (.int .i64 ((rd_T85 l0 x5_1).f2)) ∧ w'.cell? (ad577.add ((x5_1).toNat * 3)) = some (.int .i64 ((rd_T85 l0 x5_1).f0)) ∧ w'.cell? ⟨(ad577.add ((x5_1).toNat * 3)).block, (ad577.add ((x5_1).toNat * 3)).off + 1, none⟩ = some (.int .i64 ((rd_T85 l0 x5_1).f1)) ∧ w'.cell? ⟨(ad577.add ((x5_1).toNat * 3)).block, (ad577.add ((x5_1).toNat * 3)).off + 2, none⟩ = some (.int .i64 ((rd_T85 l0 x5_1).f2))) (ds := []) #[Ff,Ff,Ff,Ff,Ff,Ff,Ff,Ff,Ff,Ff,Ff,Ff,Ff,Ff,Ff,Ff] (by kernel_rfl) rfl rfl ⟨((HB.out.cell (World.block_lt_of_cell? w _ hw577_0)).trans hw577_0), ((HB.out.cell (World.block_lt_of_cell? w _ hw577_1)).trans hw577_1), ((HB.out.cell (World.block_lt_of_cell? w _ hw577_2)).trans hw577_2), ((HB.out.cell (World.block_lt_of_cell? w _ hw578_0)).trans hw578_0), ((HB.out.cell (World.block_lt_of_cell? w _ hw578_1)).trans hw578_1), ((HB.out.cell (World.block_lt_of_cell? w _ hw578_2)).trans hw578_2)⟩ (fun hHeld => ?_); refine with_tabW ebbtideref03_Moves.tab21 ebbtideref03_Moves.bits21 (fun HT_ HW_ => ?_); generalize wr.drew = w33 at HO_4 HO_8 HB hx577_0 hx577_1 hx577_2 hx578_0 hx578_1 hx578_2 hHeld ⊢; refine pw_ 0 101 ?_; refine pw_ 1 102 ?_; refine pw_ 2 103 ?_; refine pw_ 3 104 ?_; refine pw_ 4 105 ?_; refine pw_ 6 107 ?_; refine pw_ 7 108 ?_; refine pw_ 8 109 ?_; refine pw_ 9 110 ?_; refine pw_ 11 112 ?_; refine tk_ 5 106 ?_; refine tk_ 10 111 ?_; refine pw_ 12 113 ?_; refine one_ (i := 13) (N := some 114) #[Tt,Tt,Tt,Tt,Tt,Tt,Tt,Tt,Tt,Tt,Tt,Tt,Tt,Tt,Ff,Ff] rfl rfl (one_of HT_.out (by kernel_rfl)) (by decide) (fun K hK => ?_); refine value_ (w1 := ?_) (v := ?_) (by rfl) rfl ?_ ?_; rotate_left 2
             ·go_simp
              constructor
              ·rfl
              ·rfl
             refine hK.out _ _ ⟨(World.cell?_alloc_lt _ _ _ (World.block_lt_of_cell? _ _ (((HB.out.cell (World.block_lt_of_cell? w _ hw577_0)).trans hw577_0)))).trans (((HB.out.cell (World.block_lt_of_cell? w _ hw577_0)).trans hw577_0)), (World.cell?_alloc_lt _ _ _ (World.block_lt_of_cell? _ _ (((HB.out.cell (World.block_lt_of_cell? w _ hw577_1)).trans hw577_1)))).trans (((HB.out.cell (World.block_lt_of_cell? w _ hw577_1)).trans hw577_1)), (World.cell?_alloc_lt _ _ _ (World.block_lt_of_cell? _ _ (((HB.out.cell (World.block_lt_of_cell? w _ hw577_2)).trans hw577_2)))).trans (((HB.out.cell (World.block_lt_of_cell? w _ hw577_2)).trans hw577_2)), (World.cell?_alloc_lt _ _ _ (World.block_lt_of_cell? _ _ (((HB.out.cell (World.block_lt_of_cell? w _ hw578_0)).trans hw578_0)))).trans (((HB.out.cell (World.block_lt_of_cell? w _ hw578_0)).trans hw578_0)), (World.cell?_alloc_lt _ _ _ (World.block_lt_of_cell? _ _ (((HB.out.cell (World.block_lt_of_cell? w _ hw578_1)).trans hw578_1)))).trans (((HB.out.cell (World.block_lt_of_cell? w _ hw578_1)).trans hw578_1)), (World.cell?_alloc_lt _ _ _ (World.block_lt_of_cell? _ _ (((HB.out.cell (World.block_lt_of_cell? w _ hw578_2)).trans hw578_2)))).trans (((HB.out.cell (World.block_lt_of_cell? w _ hw578_2)).trans hw578_2))⟩ (fun hHeld => ?_); clear hK K; refine norm_ (a' := ?_) ?_ ?_; rotate_left
             ·show Act.put _ (some 114) _ = _
              simp only [Act.put, List.setIfInBounds_toArray, List.set_cons_zero, List.set_cons_succ, i64_w, i32_w]; rfl
             refine one_ (i := 14) (N := some 115) #[Tt,Tt,Tt,Tt,Tt,Tt,Tt,Tt,Tt,Tt,Tt,Tt,Tt,Tt,Tt,Ff] rfl rfl (one_of HT_.out (by kernel_rfl)) (by decide) (fun K hK => ?_); refine Kd.R_append_step k85 (w0 := w) w.heap.size (by rfl) (.tmp 101) (.tmp 114) 45 85 (.agg #[(.int .i64 0), (.int .i64 0), (.int .i64 0)]) 24 rfl Try.underlying45 info85 rfl (by decide) (by omega) u4 x4_1 (⟨(rd_T85 l0 x5_1).f0, (rd_T85 l0 x5_1).f1, t575⟩ : S85) [.int .i64 ((rd_T85 l0 x5_1).f0), .int .i64 ((rd_T85 l0 x5_1).f1), .int .i64 t575] (fun _ => True) (fun _ => False) rfl rfl ?aP (fun _ hk => hk.elim) ?aF ?aO ?aB ?aS ?aL ?_
             (case aP => exact k85_mkM _ _ _ (⟨(rd_T85 l0 x5_1).f0, (rd_T85 l0 x5_1).f1, t575⟩ : S85))
             (case aB => exact hb_)
             (case aF => exact (fun _ _ => trivial))
             (case aO => exact (rq_ HO_4.out))
             (case aS => exact (below_size hb_))
             (case aL => have := LMc31.out; omega)
             intro v580 w34 ho hb hg hat; rw [← Ny579.out] at ho; replace HO_8 := am_ (Kd.R_over' (rq_ HO_8.out) (Kd.R_typed (rq_ HO_4.out)) (by decide) hg); replace HB := am_ (hb); have HO581 := am_ (ho); clear HO_4; clear ho hb hg hat; refine hK.out _ _ ⟨((HB.out.cell (World.block_lt_of_cell? w _ hw577_0)).trans hw577_0), ((HB.out.cell (World.block_lt_of_cell? w _ hw577_1)).trans hw577_1), ((HB.out.cell (World.block_lt_of_cell? w _ hw577_2)).trans hw577_2), ((HB.out.cell (World.block_lt_of_cell? w _ hw578_0)).trans hw578_0), ((HB.out.cell (World.block_lt_of_cell? w _ hw578_1)).trans hw578_1), ((HB.out.cell (World.block_lt_of_cell? w _ hw578_2)).trans hw578_2)⟩ (fun hHeld => ?_); clear hK K; refine norm_ (a' := ?_) ?_ ?_; rotate_left
             ·show Act.put _ (some 115) _ = _
              simp only [Act.put, List.setIfInBounds_toArray, List.set_cons_zero, List.set_cons_succ, i64_w, i32_w]; rfl
             refine pw_ 15 4 ?_; refine done_ (done_of HT_.out (by kernel_rfl)) ?_; obtain ⟨Ao35, co35, eo35⟩ := Kd.R_slice HO581.out; subst eo35
             try go_wp2
             go_loopg [12] k3 (fun kq v12 w' => ∃ (x4_4 : List (S85)) (x12_4 : Int), v12 = .int .i64 x12_4 ∧ Aside0 (ebbtideref03_Moves.l3 kq l0 x4_4 x5_1 x12_4 = some (r1, r2)) ∧ Aside0 (kq ≤ k3) ∧ Aside0 (Kd.R k85 85 w' w.heap.size (fun _ => True) (.slice Ao35 y579.length co35) x4_4) ∧ Aside0 (Below w.heap.size w w'))
             case atStart => exact ⟨(y579), (wrap64 ((y579.length : Int) - 1)), rs_, H', ⟨Nat.le_refl _⟩, ⟨rq_ HO581.out⟩, ⟨hb_⟩⟩
             case round =>
              clear H'
              try clear c1
              try clear c2
              try clear p2
              try clear c3
              try clear c5
              try clear p5
              try clear q5
              try clear hx5
              try clear p6
              try clear c14
              try clear c14b0
              try clear c15
              try clear c16
              try clear c17
              try clear c18
              try clear c18b0
              try clear c18b1
              try clear c26
              try clear c27
              try clear c27b0
              try clear c27b1
              try clear c29
              try clear c29b0
              try clear c30
              try clear c30b0
              try clear c31
              try clear hx567_0
              try clear hx567_1
              try clear hx567_2
              try clear hx568_0
              try clear hx568_1
              try clear hx568_2
              try clear hx577_0
              try clear hx577_1
              try clear hx577_2
              try clear hx578_0
              try clear hx578_1
              try clear hx578_2
              try clear p567
              try clear p568
              try clear p577
              try clear p578
              try clear q567
              try clear q568
              try clear q577
              try clear q578
              obtain ⟨x4_4, x12_4, rfl, HA, HK4, HO_4, HB⟩ := hrel; have hl4_4 := (Kd.R_reads' HO_4.out).1; rw [hl4_4] at HO_4
              (try simp only [hl4_4])
              cases gk with
              | zero => exact absurd HA.out (by simp [ebbtideref03_Moves.l3])
              | succ k4 =>
               have H := HA.out; clear HA; simp only [ebbtideref03_Moves.l3] at H
               by_cases c36 : x12_4 > 0
               ·rw [if_pos c36] at H
                have c36b0 := decide_eq_true c36; clear c36
                replace H := ifn_ H; obtain ⟨c37, H⟩ := H
                have c37b0 := decide_eq_true c37; clear c37
                replace H := ifn_ H; obtain ⟨c38, H⟩ := H
                have c38b0 := decide_eq_true c38
                (try (have c38b0r0 := c38b0; simp only [hl4_4] at c38b0r0))
                clear c38; obtain ⟨ji39, hji39⟩ : ∃ j_ : Int, (wrap64 (x12_4 - 1)) = j_ := ⟨_, rfl⟩
                replace H : (if 0 ≤ (ji39) then (if (ji39) < (x4_4.length : Int) then (if ((rd_T85 x4_4 x12_4).f1) < ((rd_T85 x4_4 (ji39)).f1) then (ebbtideref03_Moves.l3 k4 l0 ((x4_4.set (x12_4 : Int).toNat (⟨(rd_T85 x4_4 (ji39)).f0, (rd_T85 x4_4 (ji39)).f1, (rd_T85 x4_4 (ji39)).f2⟩ : S85)).set ((ji39) : Int).toNat (⟨(rd_T85 x4_4 x12_4).f0, (rd_T85 x4_4 x12_4).f1, (rd_T85 x4_4 x12_4).f2⟩ : S85)) x5_1 ji39) else (if ((rd_T85 x4_4 x12_4).f1) = ((rd_T85 x4_4 (ji39)).f1) then (if ((rd_T85 x4_4 x12_4).f0) < ((rd_T85 x4_4 (ji39)).f0) then (ebbtideref03_Moves.l3 k4 l0 ((x4_4.set (x12_4 : Int).toNat (⟨(rd_T85 x4_4 (ji39)).f0, (rd_T85 x4_4 (ji39)).f1, (rd_T85 x4_4 (ji39)).f2⟩ : S85)).set ((ji39) : Int).toNat (⟨(rd_T85 x4_4 x12_4).f0, (rd_T85 x4_4 x12_4).f1, (rd_T85 x4_4 x12_4).f2⟩ : S85)) x5_1 ji39) else (ebbtideref03_Moves.l0 k4 l0 x4_4 (wrap64 (x5_1 + 1)))) else (ebbtideref03_Moves.l0 k4 l0 x4_4 (wrap64 (x5_1 + 1))))) else (none)) else (none)) = some (r1, r2) := by first | (rw [hji39] at H; exact H) | (simp only [hji39] at H ⊢; exact H)
                have hji39w : (IntKind.i64.wrap (x12_4 - 1)) = ji39 := (i64_w _).trans hji39
                replace H := ifn_ H; obtain ⟨c40, H⟩ := H
                have c40b0 := decide_eq_true c40; clear c40
                replace H := ifn_ H; obtain ⟨c41, H⟩ := H
                have c41b0 := decide_eq_true c41
                (try (have c41b0r0 := c41b0; simp only [hl4_4] at c41b0r0))
                clear c41
                by_cases c42 : ((rd_T85 x4_4 x12_4).f1) < ((rd_T85 x4_4 (ji39)).f1)
                ·rw [if_pos c42] at H
                 have c42b0 := decide_eq_true c42; clear c42; obtain ⟨y586, hy_⟩ : ∃ y_ : List (S85), y_ = (x4_4.set (x12_4 : Int).toNat (⟨(rd_T85 x4_4 (ji39)).f0, (rd_T85 x4_4 (ji39)).f1, (rd_T85 x4_4 (ji39)).f2⟩ : S85)) := ⟨_, rfl⟩
                 replace H : (ebbtideref03_Moves.l3 k4 l0 (y586.set ((ji39) : Int).toNat (⟨(rd_T85 x4_4 x12_4).f0, (rd_T85 x4_4 x12_4).f1, (rd_T85 x4_4 x12_4).f2⟩ : S85)) x5_1 ji39) = some (r1, r2) := hyH_
                 have Ny586 := am_ hy_; clear hy_; obtain ⟨y587, hy_⟩ : ∃ y_ : List (S85), y_ = (y586.set ((ji39) : Int).toNat (⟨(rd_T85 x4_4 x12_4).f0, (rd_T85 x4_4 x12_4).f1, (rd_T85 x4_4 x12_4).f2⟩ : S85)) := ⟨_, rfl⟩
                 replace H : (ebbtideref03_Moves.l3 k4 l0 y587 x5_1 ji39) = some (r1, r2) := hyH_
                 have Ny587 := am_ hy_; clear hy_
                 as_aux_lemma =>
                  have H' := am_ H; clear H
                  try go_wp2
                  have p582 : 0 ≤ (x12_4 : Int) := of_decide_eq_true sm_; have q582 : x12_4 < (x4_4.length : Int) := of_decide_eq_true sm_; obtain ⟨ad582, e582, hx582_0, hx582_1, hx582_2⟩ := at_T85 (Kd.R_reads' HO_4.out).2.2 x12_4 p582 q582; cases e582; replace p582 := eq_true p582; replace q582 := eq_true q582; have p583 : 0 ≤ ((ji39) : Int) := of_decide_eq_true sm_; have q583 : (ji39) < (x4_4.length : Int) := of_decide_eq_true sm_; obtain ⟨ad583, e583, hx583_0, hx583_1, hx583_2⟩ := at_T85 (Kd.R_reads' HO_4.out).2.2 (ji39) p583 q583; obtain rfl : ad582 = ad583 := (by injection e583); replace p583 := eq_true p583; replace q583 := eq_true q583; go_quiet (fail); replace HO_4 := am_ (Kd.R_drewN HO_4.out nq); replace HB := am_ (pw_below_drewN HB.out nq); generalize wr.drewN nq = w45 at HO_4 HB ⊢
                  try go_wp2
                  replace HO_4 := am_ (Kd.R_drew HO_4.out); replace HB := am_ (below_drew1 HB.out); have p584 : 0 ≤ ((ji39) : Int) := of_decide_eq_true sm_; have q584 : (ji39) < (x4_4.length : Int) := of_decide_eq_true sm_; obtain ⟨ad584, e584, hx584_0, hx584_1, hx584_2⟩ := at_T85 (Kd.R_reads' HO_4.out).2.2 (ji39) p584 q584; obtain rfl : ad582 = ad584 := (by injection e584); replace p584 := eq_true p584; replace q584 := eq_true q584; have p585 : 0 ≤ (x12_4 : Int) := of_decide_eq_true sm_; have q585 : x12_4 < (x4_4.length : Int) := of_decide_eq_true sm_; obtain ⟨ad585, e585, hx585_0, hx585_1, hx585_2⟩ := at_T85 (Kd.R_reads' HO_4.out).2.2 x12_4 p585 q585; obtain rfl : ad582 = ad585 := (by injection e585); replace p585 := eq_true p585; replace q585 := eq_true q585; have p43 : 0 ≤ (x12_4 : Int) := of_decide_eq_true sm_; have q43 : (x12_4 : Int) < ((x4_4.length : Int) : Int) := of_decide_eq_true sm_; obtain ⟨go43, co43, eo43, gb43, gl43, cl43, HG43⟩ := Kd.R_form HO_4.out (by omega)
                  (first | cases eo43 | (injection eo43 with ea_ en_ ec_; (first | subst ea_ | (injection ea_ with ea_; subst ea_)); subst ec_; clear en_))
                  have GB43 := am_ gb43; have GG43 := am_ HG43; clear gb43 gl43 HG43
                  (first | simp only [add_plain] at hx582_0 | skip)
                  (first | simp only [add_plain] at hx582_1 | skip)
                  (first | simp only [add_plain] at hx582_2 | skip)
                  (first | simp only [add_plain] at hx583_0 | skip)
                  (first | simp only [add_plain] at hx583_1 | skip)
                  (first | simp only [add_plain] at hx583_2 | skip)
                  (first | simp only [add_plain] at hx584_0 | skip)
                  (first | simp only [add_plain] at hx584_1 | skip)
                  (first | simp only [add_plain] at hx584_2 | skip)
                  (first | simp only [add_plain] at hx585_0 | skip)
                  (first | simp only [add_plain] at hx585_1 | skip)
                  (first | simp only [add_plain] at hx585_2 | skip)
                  obtain ⟨ce43, hcl43, hM43, hcc43, hfr43⟩ := Kd.R_elem HO_4.out z85 (x12_4 : Int) p43 q43; obtain rfl := k85_openM hM43; have hx43_0 : World.cell? _ ⟨go43, (x12_4 : Int).toNat * 3, none⟩ = some (.int .i64 ((rd_T85 x4_4 x12_4).f0)) := hcc43 0 _ rfl; have hx43_1 : World.cell? _ ⟨go43, (x12_4 : Int).toNat * 3 + 1, none⟩ = some (.int .i64 ((rd_T85 x4_4 x12_4).f1)) := hcc43 1 _ rfl; have hx43_2 : World.cell? _ ⟨go43, (x12_4 : Int).toNat * 3 + 2, none⟩ = some (.int .i64 ((rd_T85 x4_4 x12_4).f2)) := hcc43 2 _ rfl; have hf43_0 : World.frozen? _ ⟨go43, (x12_4 : Int).toNat * 3, none⟩ = false := hfr43 0; have hf43_1 : World.frozen? _ ⟨go43, (x12_4 : Int).toNat * 3 + 1, none⟩ = false := hfr43 1; have hf43_2 : World.frozen? _ ⟨go43, (x12_4 : Int).toNat * 3 + 2, none⟩ = false := hfr43 2; clear hcl43 hcc43 hfr43 hM43; replace p43 := eq_true p43; replace q43 := eq_true q43; obtain ⟨ce47, hcl47, hM47, hcc47, hfr47⟩ := Kd.R_elem HO_4.out z85 (x12_4 : Int) (of_decide_eq_true sm_) (by have h_ : (x12_4 : Int) < ((x4_4.length : Int) : Int) := of_decide_eq_true sm_; first | exact h_ | (have e_ := (Kd.R_reads' HO_4.out).1; omega) | simpa using h_); obtain rfl := k85_openM hM47; have HP47 := (Kd.R_seg HO_4.out (x12_4 : Int) (of_decide_eq_true sm_) (by have h_ : (x12_4 : Int) < ((x4_4.length : Int) : Int) := of_decide_eq_true sm_; first | exact h_ | (have e_ := (Kd.R_reads' HO_4.out).1; omega) | simpa using h_) (seg := [.int .i64 ((rd_T85 x4_4 (ji39)).f0), .int .i64 ((rd_T85 x4_4 (ji39)).f1), .int .i64 ((rd_T85 x4_4 (ji39)).f2)]) (j := 0) hcl47 hcc47 (show 3 ≤ 3 from by decide) (x' := (⟨(rd_T85 x4_4 (ji39)).f0, (rd_T85 x4_4 (ji39)).f1, (rd_T85 x4_4 (ji39)).f2⟩ : S85)) (k85_mkM _ _ _ (⟨(rd_T85 x4_4 (ji39)).f0, (rd_T85 x4_4 (ji39)).f1, (rd_T85 x4_4 (ji39)).f2⟩ : S85) ) (fun _ hk => hk)).1; rw [← Ny586.out] at HP47; have HQ47 := am_ HP47; clear hcl47 hcc47 hfr47 hM47 HP47; have p44 : 0 ≤ ((ji39) : Int) := of_decide_eq_true sm_; have q44 : ((ji39) : Int) < ((x4_4.length : Int) : Int) := of_decide_eq_true sm_; obtain ⟨ce44, hcl44, hM44, hcc44, hfr44⟩ := Kd.R_elem HQ47.out z85 ((ji39) : Int) p44 q44; obtain rfl := k85_openM hM44; have hx44_0 : World.cell? _ ⟨go43, ((ji39) : Int).toNat * 3, none⟩ = some (.int .i64 ((rd_T85 y586 (ji39)).f0)) := hcc44 0 _ rfl; have hx44_1 : World.cell? _ ⟨go43, ((ji39) : Int).toNat * 3 + 1, none⟩ = some (.int .i64 ((rd_T85 y586 (ji39)).f1)) := hcc44 1 _ rfl; have hx44_2 : World.cell? _ ⟨go43, ((ji39) : Int).toNat * 3 + 2, none⟩ = some (.int .i64 ((rd_T85 y586 (ji39)).f2)) := hcc44 2 _ rfl; have hf44_0 : World.frozen? _ ⟨go43, ((ji39) : Int).toNat * 3, none⟩ = false := hfr44 0; have hf44_1 : World.frozen? _ ⟨go43, ((ji39) : Int).toNat * 3 + 1, none⟩ = false := hfr44 1; have hf44_2 : World.frozen? _ ⟨go43, ((ji39) : Int).toNat * 3 + 2, none⟩ = false := hfr44 2; clear hcl44 hcc44 hfr44 hM44; replace p44 := eq_true p44; replace q44 := eq_true q44; obtain ⟨ce48, hcl48, hM48, hcc48, hfr48⟩ := Kd.R_elem HQ47.out z85 ((ji39) : Int) (of_decide_eq_true sm_) (by have h_ : ((ji39) : Int) < ((x4_4.length : Int) : Int) := of_decide_eq_true sm_; first | exact h_ | (have e_ := (Kd.R_reads' HO_4.out).1; omega) | simpa using h_); obtain rfl := k85_openM hM48; have HP48 := (Kd.R_seg HQ47.out ((ji39) : Int) (of_decide_eq_true sm_) (by have h_ : ((ji39) : Int) < ((x4_4.length : Int) : Int) := of_decide_eq_true sm_; first | exact h_ | (have e_ := (Kd.R_reads' HO_4.out).1; omega) | simpa using h_) (seg := [.int .i64 ((rd_T85 x4_4 x12_4).f0), .int .i64 ((rd_T85 x4_4 x12_4).f1), .int .i64 ((rd_T85 x4_4 x12_4).f2)]) (j := 0) hcl48 hcc48 (show 3 ≤ 3 from by decide) (x' := (⟨(rd_T85 x4_4 x12_4).f0, (rd_T85 x4_4 x12_4).f1, (rd_T85 x4_4 x12_4).f2⟩ : S85)) (k85_mkM _ _ _ (⟨(rd_T85 x4_4 x12_4).f0, (rd_T85 x4_4 x12_4).f1, (rd_T85 x4_4 x12_4).f2⟩ : S85) ) (fun _ hk => hk)).1; rw [← Ny587.out] at HP48; have HQ48 := am_ HP48; clear hcl48 hcc48 hfr48 hM48 HP48; refine start_ (n := 18) (S := fun w' => w'.cell? ⟨go43, (((ji39)).toNat * 3), none⟩ = some (.int .i64 ((rd_T85 x4_4 (ji39)).f0)) ∧ w'.cell? ⟨go43, (((ji39)).toNat * 3) + 1, none⟩ = some (.int .i64 ((rd_T85 x4_4 (ji39)).f1)) ∧ w'.cell? ⟨go43, (((ji39)).toNat * 3) + 2, none⟩ = some (.int .i64 ((rd_T85 x4_4 (ji39)).f2)) ∧ w'.cell? ⟨go43, ((x12_4).toNat * 3), none⟩ = some (.int .i64 ((rd_T85 x4_4 x12_4).f0)) ∧ w'.cell? ⟨go43, ((x12_4).toNat * 3) + 1, none⟩ = some (.int .i64 ((rd_T85 x4_4 x12_4).f1)) ∧ w'.cell? ⟨go43, ((x12_4).toNat * 3) + 2, none⟩ = some (.int .i64 ((rd_T85 x4_4 x12_4).f2))) (ds := [15, 17]) #[Ff,Ff,Ff,Ff,Ff,Ff,Ff,Ff,Ff,Ff,Ff,Ff,Ff,Ff,Ff,Ff,Ff,Ff] (by kernel_rfl) rfl rfl ⟨hx584_0, hx584_1, hx584_2, hx585_0, hx585_1, hx585_2⟩ (fun hHeld => ?_); refine with_tabW ebbtideref03_Moves.tab25 ebbtideref03_Moves.bits25 (fun HT_ HW_ => ?_); generalize w45.drew = w46 at HO_4 HB GG43 HQ47 HQ48 hf43_0 hf43_1 hf43_2 hf44_0 hf44_1 hf44_2 hx43_0 hx43_1 hx43_2 hx44_0 hx44_1 hx44_2 hx582_0 hx582_1 hx582_2 hx583_0 hx583_1 hx583_2 hx584_0 hx584_1 hx584_2 hx585_0 hx585_1 hx585_2 hHeld ⊢; simp only [World.setCells, Nat.add_zero, show k85.sz = 3 from rfl, Nat.add_assoc, Nat.reduceAdd] at hf44_0 hf44_1 hf44_2 hx44_0 hx44_1 hx44_2; refine pw_ 0 165 ?_; refine pw_ 1 166 ?_; refine pw_ 2 167 ?_; refine pw_ 3 168 ?_; refine pw_ 4 169 ?_; refine pw_ 5 170 ?_; refine pw_ 6 171 ?_; refine pw_ 7 172 ?_; refine pw_ 8 173 ?_; refine pw_ 10 175 ?_; refine pw_ 11 176 ?_; refine pw_ 12 177 ?_; refine tk_ 9 174 ?_; refine tk_ 13 178 ?_; refine pw_ 14 179 ?_; refine last_ (i := 15) (N := none) #[Tt,Tt,Tt,Tt,Tt,Tt,Tt,Tt,Tt,Tt,Tt,Tt,Tt,Tt,Tt,Tt,Ff,Ff] rfl rfl (one_of HT_.out (by kernel_rfl)) (by decide) (fun K hK => ?_); refine skip_ (w1 := ?_) (by rfl) rfl ?_ ?_; rotate_left; (· go_simp; rfl); refine hK.out _ _ ?_; clear hK K; refine pw_ 16 180 ?_; refine last_ (i := 17) (N := none) #[Tt,Tt,Tt,Tt,Tt,Tt,Tt,Tt,Tt,Tt,Tt,Tt,Tt,Tt,Tt,Tt,Tt,Tt] rfl rfl (one_of HT_.out (by kernel_rfl)) (by decide) (fun K hK => ?_); refine skip_ (w1 := ?_) (by rfl) rfl ?_ ?_; rotate_left; (· go_simp; rfl); refine hK.out _ _ ?_; clear hK K; refine done_ (done_of HT_.out (by kernel_rfl)) ?_
                  try go_wp2
                  (try simp only [← hl4_4])
                  go_roundg k4
                  case measure => have := HK1.out; have := HK2.out; have := HK3.out; have := HK4.out; omega
                  case rel => exact ⟨(y587), (ji39), (by first | rfl | (simp; done) | (simp only [← hji39] <;> (first | rfl | simp)) | (simp [*]; done)), H', ⟨by have := HK1.out; have := HK2.out; have := HK3.out; have := HK4.out; omega⟩, ⟨by (try simp only [hl4_4]); refine rq_ ?_; exact HQ48.out⟩, ⟨hb_⟩⟩
                ·rw [if_neg c42] at H
                 have c42b0 := decide_eq_false c42; clear c42
                 by_cases c49 : ((rd_T85 x4_4 x12_4).f1) = ((rd_T85 x4_4 (ji39)).f1)
                 ·rw [if_pos c49] at H
                  obtain ⟨c49b0, c49b1⟩ := eqb_ c49; clear c49
                  by_cases c50 : ((rd_T85 x4_4 x12_4).f0) < ((rd_T85 x4_4 (ji39)).f0)
                  ·rw [if_pos c50] at H
                   have c50b0 := decide_eq_true c50; clear c50; obtain ⟨y594, hy_⟩ : ∃ y_ : List (S85), y_ = (x4_4.set (x12_4 : Int).toNat (⟨(rd_T85 x4_4 (ji39)).f0, (rd_T85 x4_4 (ji39)).f1, (rd_T85 x4_4 (ji39)).f2⟩ : S85)) := ⟨_, rfl⟩
                   replace H : (ebbtideref03_Moves.l3 k4 l0 (y594.set ((ji39) : Int).toNat (⟨(rd_T85 x4_4 x12_4).f0, (rd_T85 x4_4 x12_4).f1, (rd_T85 x4_4 x12_4).f2⟩ : S85)) x5_1 ji39) = some (r1, r2) := hyH_
                   have Ny594 := am_ hy_; clear hy_; obtain ⟨y595, hy_⟩ : ∃ y_ : List (S85), y_ = (y594.set ((ji39) : Int).toNat (⟨(rd_T85 x4_4 x12_4).f0, (rd_T85 x4_4 x12_4).f1, (rd_T85 x4_4 x12_4).f2⟩ : S85)) := ⟨_, rfl⟩
                   replace H : (ebbtideref03_Moves.l3 k4 l0 y595 x5_1 ji39) = some (r1, r2) := hyH_
                   have Ny595 := am_ hy_; clear hy_
                   as_aux_lemma =>
                    have H' := am_ H; clear H
                    try go_wp2
                    have p582 : 0 ≤ (x12_4 : Int) := of_decide_eq_true sm_; have q582 : x12_4 < (x4_4.length : Int) := of_decide_eq_true sm_; obtain ⟨ad582, e582, hx582_0, hx582_1, hx582_2⟩ := at_T85 (Kd.R_reads' HO_4.out).2.2 x12_4 p582 q582; cases e582; replace p582 := eq_true p582; replace q582 := eq_true q582; have p583 : 0 ≤ ((ji39) : Int) := of_decide_eq_true sm_; have q583 : (ji39) < (x4_4.length : Int) := of_decide_eq_true sm_; obtain ⟨ad583, e583, hx583_0, hx583_1, hx583_2⟩ := at_T85 (Kd.R_reads' HO_4.out).2.2 (ji39) p583 q583; obtain rfl : ad582 = ad583 := (by injection e583); replace p583 := eq_true p583; replace q583 := eq_true q583; have p588 : 0 ≤ (x12_4 : Int) := of_decide_eq_true sm_; have q588 : x12_4 < (x4_4.length : Int) := of_decide_eq_true sm_; obtain ⟨ad588, e588, hx588_0, hx588_1, hx588_2⟩ := at_T85 (Kd.R_reads' HO_4.out).2.2 x12_4 p588 q588; obtain rfl : ad582 = ad588 := (by injection e588); replace p588 := eq_true p588; replace q588 := eq_true q588; go_quiet (fail); replace HO_4 := am_ (Kd.R_drewN HO_4.out nq); replace HB := am_ (pw_below_drewN HB.out nq); generalize wr.drewN nq = w53 at HO_4 HB ⊢
                    try go_wp2
                    replace HO_4 := am_ (Kd.R_drew HO_4.out); replace HB := am_ (below_drew1 HB.out); have p592 : 0 ≤ ((ji39) : Int) := of_decide_eq_true sm_; have q592 : (ji39) < (x4_4.length : Int) := of_decide_eq_true sm_; obtain ⟨ad592, e592, hx592_0, hx592_1, hx592_2⟩ := at_T85 (Kd.R_reads' HO_4.out).2.2 (ji39) p592 q592; obtain rfl : ad582 = ad592 := (by injection e592); replace p592 := eq_true p592; replace q592 := eq_true q592; have p593 : 0 ≤ (x12_4 : Int) := of_decide_eq_true sm_; have q593 : x12_4 < (x4_4.length : Int) := of_decide_eq_true sm_; obtain ⟨ad593, e593, hx593_0, hx593_1, hx593_2⟩ := at_T85 (Kd.R_reads' HO_4.out).2.2 x12_4 p593 q593; obtain rfl : ad582 = ad593 := (by injection e593); replace p593 := eq_true p593; replace q593 := eq_true q593; have p51 : 0 ≤ (x12_4 : Int) := of_decide_eq_true sm_; have q51 : (x12_4 : Int) < ((x4_4.length : Int) : Int) := of_decide_eq_true sm_; obtain ⟨go51, co51, eo51, gb51, gl51, cl51, HG51⟩ := Kd.R_form HO_4.out (by omega)
                    (first | cases eo51 | (injection eo51 with ea_ en_ ec_; (first | subst ea_ | (injection ea_ with ea_; subst ea_)); subst ec_; clear en_))
                    have GB51 := am_ gb51; have GG51 := am_ HG51; clear gb51 gl51 HG51
                    (first | simp only [add_plain] at hx582_0 | skip)
                    (first | simp only [add_plain] at hx582_1 | skip)
                    (first | simp only [add_plain] at hx582_2 | skip)
                    (first | simp only [add_plain] at hx583_0 | skip)
                    (first | simp only [add_plain] at hx583_1 | skip)
                    (first | simp only [add_plain] at hx583_2 | skip)
                    (first | simp only [add_plain] at hx588_0 | skip)
                    (first | simp only [add_plain] at hx588_1 | skip)
                    (first | simp only [add_plain] at hx588_2 | skip)
                    (first | simp only [add_plain] at hx583_0 | skip)
                    (first | simp only [add_plain] at hx583_1 | skip)
                    (first | simp only [add_plain] at hx583_2 | skip)
                    (first | simp only [add_plain] at hx588_0 | skip)
                    (first | simp only [add_plain] at hx588_1 | skip)
                    (first | simp only [add_plain] at hx588_2 | skip)
                    (first | simp only [add_plain] at hx583_0 | skip)
                    (first | simp only [add_plain] at hx583_1 | skip)
                    (first | simp only [add_plain] at hx583_2 | skip)
                    (first | simp only [add_plain] at hx592_0 | skip)
                    (first | simp only [add_plain] at hx592_1 | skip)
                    (first | simp only [add_plain] at hx592_2 | skip)
                    (first | simp only [add_plain] at hx593_0 | skip)
                    (first | simp only [add_plain] at hx593_1 | skip)
                    (first | simp only [add_plain] at hx593_2 | skip)
                    obtain ⟨ce51, hcl51, hM51, hcc51, hfr51⟩ := Kd.R_elem HO_4.out z85 (x12_4 : Int) p51 q51; obtain rfl := k85_openM hM51; have hx51_0 : World.cell? _ ⟨go51, (x12_4 : Int).toNat * 3, none⟩ = some (.int .i64 ((rd_T85 x4_4 x12_4).f0)) := hcc51 0 _ rfl; have hx51_1 : World.cell? _ ⟨go51, (x12_4 : Int).toNat * 3 + 1, none⟩ = some (.int .i64 ((rd_T85 x4_4 x12_4).f1)) := hcc51 1 _ rfl; have hx51_2 : World.cell? _ ⟨go51, (x12_4 : Int).toNat * 3 + 2, none⟩ = some (.int .i64 ((rd_T85 x4_4 x12_4).f2)) := hcc51 2 _ rfl; have hf51_0 : World.frozen? _ ⟨go51, (x12_4 : Int).toNat * 3, none⟩ = false := hfr51 0; have hf51_1 : World.frozen? _ ⟨go51, (x12_4 : Int).toNat * 3 + 1, none⟩ = false := hfr51 1; have hf51_2 : World.frozen? _ ⟨go51, (x12_4 : Int).toNat * 3 + 2, none⟩ = false := hfr51 2; clear hcl51 hcc51 hfr51 hM51; replace p51 := eq_true p51; replace q51 := eq_true q51; obtain ⟨ce55, hcl55, hM55, hcc55, hfr55⟩ := Kd.R_elem HO_4.out z85 (x12_4 : Int) (of_decide_eq_true sm_) (by have h_ : (x12_4 : Int) < ((x4_4.length : Int) : Int) := of_decide_eq_true sm_; first | exact h_ | (have e_ := (Kd.R_reads' HO_4.out).1; omega) | simpa using h_); obtain rfl := k85_openM hM55; have HP55 := (Kd.R_seg HO_4.out (x12_4 : Int) (of_decide_eq_true sm_) (by have h_ : (x12_4 : Int) < ((x4_4.length : Int) : Int) := of_decide_eq_true sm_; first | exact h_ | (have e_ := (Kd.R_reads' HO_4.out).1; omega) | simpa using h_) (seg := [.int .i64 ((rd_T85 x4_4 (ji39)).f0), .int .i64 ((rd_T85 x4_4 (ji39)).f1), .int .i64 ((rd_T85 x4_4 (ji39)).f2)]) (j := 0) hcl55 hcc55 (show 3 ≤ 3 from by decide) (x' := (⟨(rd_T85 x4_4 (ji39)).f0, (rd_T85 x4_4 (ji39)).f1, (rd_T85 x4_4 (ji39)).f2⟩ : S85)) (k85_mkM _ _ _ (⟨(rd_T85 x4_4 (ji39)).f0, (rd_T85 x4_4 (ji39)).f1, (rd_T85 x4_4 (ji39)).f2⟩ : S85) ) (fun _ hk => hk)).1; rw [← Ny594.out] at HP55; have HQ55 := am_ HP55; clear hcl55 hcc55 hfr55 hM55 HP55; have p52 : 0 ≤ ((ji39) : Int) := of_decide_eq_true sm_; have q52 : ((ji39) : Int) < ((x4_4.length : Int) : Int) := of_decide_eq_true sm_; obtain ⟨ce52, hcl52, hM52, hcc52, hfr52⟩ := Kd.R_elem HQ55.out z85 ((ji39) : Int) p52 q52; obtain rfl := k85_openM hM52; have hx52_0 : World.cell? _ ⟨go51, ((ji39) : Int).toNat * 3, none⟩ = some (.int .i64 ((rd_T85 y594 (ji39)).f0)) := hcc52 0 _ rfl; have hx52_1 : World.cell? _ ⟨go51, ((ji39) : Int).toNat * 3 + 1, none⟩ = some (.int .i64 ((rd_T85 y594 (ji39)).f1)) := hcc52 1 _ rfl; have hx52_2 : World.cell? _ ⟨go51, ((ji39) : Int).toNat * 3 + 2, none⟩ = some (.int .i64 ((rd_T85 y594 (ji39)).f2)) := hcc52 2 _ rfl; have hf52_0 : World.frozen? _ ⟨go51, ((ji39) : Int).toNat * 3, none⟩ = false := hfr52 0; have hf52_1 : World.frozen? _ ⟨go51, ((ji39) : Int).toNat * 3 + 1, none⟩ = false := hfr52 1; have hf52_2 : World.frozen? _ ⟨go51, ((ji39) : Int).toNat * 3 + 2, none⟩ = false := hfr52 2; clear hcl52 hcc52 hfr52 hM52; replace p52 := eq_true p52; replace q52 := eq_true q52; obtain ⟨ce56, hcl56, hM56, hcc56, hfr56⟩ := Kd.R_elem HQ55.out z85 ((ji39) : Int) (of_decide_eq_true sm_) (by have h_ : ((ji39) : Int) < ((x4_4.length : Int) : Int) := of_decide_eq_true sm_; first | exact h_ | (have e_ := (Kd.R_reads' HO_4.out).1; omega) | simpa using h_); obtain rfl := k85_openM hM56; have HP56 := (Kd.R_seg HQ55.out ((ji39) : Int) (of_decide_eq_true sm_) (by have h_ : ((ji39) : Int) < ((x4_4.length : Int) : Int) := of_decide_eq_true sm_; first | exact h_ | (have e_ := (Kd.R_reads' HO_4.out).1; omega) | simpa using h_) (seg := [.int .i64 ((rd_T85 x4_4 x12_4).f0), .int .i64 ((rd_T85 x4_4 x12_4).f1), .int .i64 ((rd_T85 x4_4 x12_4).f2)]) (j := 0) hcl56 hcc56 (show 3 ≤ 3 from by decide) (x' := (⟨(rd_T85 x4_4 x12_4).f0, (rd_T85 x4_4 x12_4).f1, (rd_T85 x4_4 x12_4).f2⟩ : S85)) (k85_mkM _ _ _ (⟨(rd_T85 x4_4 x12_4).f0, (rd_T85 x4_4 x12_4).f1, (rd_T85 x4_4 x12_4).f2⟩ : S85) ) (fun _ hk => hk)).1; rw [← Ny595.out] at HP56; have HQ56 := am_ HP56; clear hcl56 hcc56 hfr56 hM56 HP56; refine start_ (n := 18) (S := fun w' => w'.cell? ⟨go51, (((ji39)).toNat * 3), none⟩ = some (.int .i64 ((rd_T85 x4_4 (ji39)).f0)) ∧ w'.cell? ⟨go51, (((ji39)).toNat * 3) + 1, none⟩ = some (.int .i64 ((rd_T85 x4_4 (ji39)).f1)) ∧ w'.cell? ⟨go51, (((ji39)).toNat * 3) + 2, none⟩ = some (.int .i64 ((rd_T85 x4_4 (ji39)).f2)) ∧ w'.cell? ⟨go51, ((x12_4).toNat * 3), none⟩ = some (.int .i64 ((rd_T85 x4_4 x12_4).f0)) ∧ w'.cell? ⟨go51, ((x12_4).toNat * 3) + 1, none⟩ = some (.int .i64 ((rd_T85 x4_4 x12_4).f1)) ∧ w'.cell? ⟨go51, ((x12_4).toNat * 3) + 2, none⟩ = some (.int .i64 ((rd_T85 x4_4 x12_4).f2))) (ds := [15, 17]) #[Ff,Ff,Ff,Ff,Ff,Ff,Ff,Ff,Ff,Ff,Ff,Ff,Ff,Ff,Ff,Ff,Ff,Ff] (by kernel_rfl) rfl rfl ⟨hx592_0, hx592_1, hx592_2, hx593_0, hx593_1, hx593_2⟩ (fun hHeld => ?_); refine with_tabW ebbtideref03_Moves.tab25 ebbtideref03_Moves.bits25 (fun HT_ HW_ => ?_); generalize w53.drew = w54 at HO_4 HB GG51 HQ55 HQ56 hf51_0 hf51_1 hf51_2 hf52_0 hf52_1 hf52_2 hx51_0 hx51_1 hx51_2 hx52_0 hx52_1 hx52_2 hx582_0 hx582_1 hx582_2 hx583_0 hx583_1 hx583_2 hx588_0 hx588_1 hx588_2 hx583_0 hx583_1 hx583_2 hx588_0 hx588_1 hx588_2 hx583_0 hx583_1 hx583_2 hx592_0 hx592_1 hx592_2 hx593_0 hx593_1 hx593_2 hHeld ⊢; simp only [World.setCells, Nat.add_zero, show k85.sz = 3 from rfl, Nat.add_assoc, Nat.reduceAdd] at hf52_0 hf52_1 hf52_2 hx52_0 hx52_1 hx52_2; refine pw_ 0 165 ?_; refine pw_ 1 166 ?_; refine pw_ 2 167 ?_; refine pw_ 3 168 ?_; refine pw_ 4 169 ?_; refine pw_ 5 170 ?_; refine pw_ 6 171 ?_; refine pw_ 7 172 ?_; refine pw_ 8 173 ?_; refine pw_ 10 175 ?_; refine pw_ 11 176 ?_; refine pw_ 12 177 ?_; refine tk_ 9 174 ?_; refine tk_ 13 178 ?_; refine pw_ 14 179 ?_; refine last_ (i := 15) (N := none) #[Tt,Tt,Tt,Tt,Tt,Tt,Tt,Tt,Tt,Tt,Tt,Tt,Tt,Tt,Tt,Tt,Ff,Ff] rfl rfl (one_of HT_.out (by kernel_rfl)) (by decide) (fun K hK => ?_); refine skip_ (w1 := ?_) (by rfl) rfl ?_ ?_; rotate_left; (· go_simp; rfl); refine hK.out _ _ ?_; clear hK K; refine pw_ 16 180 ?_; refine last_ (i := 17) (N := none) #[Tt,Tt,Tt,Tt,Tt,Tt,Tt,Tt,Tt,Tt,Tt,Tt,Tt,Tt,Tt,Tt,Tt,Tt] rfl rfl (one_of HT_.out (by kernel_rfl)) (by decide) (fun K hK => ?_); refine skip_ (w1 := ?_) (by rfl) rfl ?_ ?_; rotate_left; (· go_simp; rfl); refine hK.out _ _ ?_; clear hK K; refine done_ (done_of HT_.out (by kernel_rfl)) ?_
                    try go_wp2
                    (try simp only [← hl4_4])
                    go_roundg k4
                    case measure => have := HK1.out; have := HK2.out; have := HK3.out; have := HK4.out; omega
                    case rel => exact ⟨(y595), (ji39), (by first | rfl | (simp; done) | (simp only [← hji39] <;> (first | rfl | simp)) | (simp [*]; done)), H', ⟨by have := HK1.out; have := HK2.out; have := HK3.out; have := HK4.out; omega⟩, ⟨by (try simp only [hl4_4]); refine rq_ ?_; exact HQ56.out⟩, ⟨hb_⟩⟩
                  ·rw [if_neg c50] at H
                   have c50b0 := decide_eq_false c50; clear c50
                   as_aux_lemma =>
                    have H' := am_ H; clear H
                    try go_wp2
                    have p582 : 0 ≤ (x12_4 : Int) := of_decide_eq_true sm_; have q582 : x12_4 < (x4_4.length : Int) := of_decide_eq_true sm_; obtain ⟨ad582, e582, hx582_0, hx582_1, hx582_2⟩ := at_T85 (Kd.R_reads' HO_4.out).2.2 x12_4 p582 q582; cases e582; replace p582 := eq_true p582; replace q582 := eq_true q582; have p583 : 0 ≤ ((ji39) : Int) := of_decide_eq_true sm_; have q583 : (ji39) < (x4_4.length : Int) := of_decide_eq_true sm_; obtain ⟨ad583, e583, hx583_0, hx583_1, hx583_2⟩ := at_T85 (Kd.R_reads' HO_4.out).2.2 (ji39) p583 q583; obtain rfl : ad582 = ad583 := (by injection e583); replace p583 := eq_true p583; replace q583 := eq_true q583; have p588 : 0 ≤ (x12_4 : Int) := of_decide_eq_true sm_; have q588 : x12_4 < (x4_4.length : Int) := of_decide_eq_true sm_; obtain ⟨ad588, e588, hx588_0, hx588_1, hx588_2⟩ := at_T85 (Kd.R_reads' HO_4.out).2.2 x12_4 p588 q588; obtain rfl : ad582 = ad588 := (by injection e588); replace p588 := eq_true p588; replace q588 := eq_true q588; go_quiet (fail); replace HO_4 := am_ (Kd.R_drewN HO_4.out nq); replace HB := am_ (pw_below_drewN HB.out nq); generalize wr.drewN nq = w57 at HO_4 HB ⊢
                    try go_wp2
                    (try simp only [← hl4_4])
                    go_roundg k4
                    case measure => have := HK1.out; have := HK2.out; have := HK3.out; have := HK4.out; omega
                    case rel => exact ⟨(x4_4), (wrap64 (x5_1 + 1)), rs_, H', ⟨by have := HK1.out; have := HK2.out; have := HK3.out; have := HK4.out; omega⟩, ⟨by (try simp only [hl4_4]); refine rq_ ?_; exact HO_4.out⟩, ⟨hb_⟩⟩
                 ·rw [if_neg c49] at H
                  obtain ⟨c49b0, c49b1⟩ := neb_ c49
                  as_aux_lemma =>
                   have H' := am_ H; clear H
                   try go_wp2
                   have p582 : 0 ≤ (x12_4 : Int) := of_decide_eq_true sm_; have q582 : x12_4 < (x4_4.length : Int) := of_decide_eq_true sm_; obtain ⟨ad582, e582, hx582_0, hx582_1, hx582_2⟩ := at_T85 (Kd.R_reads' HO_4.out).2.2 x12_4 p582 q582; cases e582; replace p582 := eq_true p582; replace q582 := eq_true q582; have p583 : 0 ≤ ((ji39) : Int) := of_decide_eq_true sm_; have q583 : (ji39) < (x4_4.length : Int) := of_decide_eq_true sm_; obtain ⟨ad583, e583, hx583_0, hx583_1, hx583_2⟩ := at_T85 (Kd.R_reads' HO_4.out).2.2 (ji39) p583 q583; obtain rfl : ad582 = ad583 := (by injection e583); replace p583 := eq_true p583; replace q583 := eq_true q583; have p588 : 0 ≤ (x12_4 : Int) := of_decide_eq_true sm_; have q588 : x12_4 < (x4_4.length : Int) := of_decide_eq_true sm_; obtain ⟨ad588, e588, hx588_0, hx588_1, hx588_2⟩ := at_T85 (Kd.R_reads' HO_4.out).2.2 x12_4 p588 q588; obtain rfl : ad582 = ad588 := (by injection e588); replace p588 := eq_true p588; replace q588 := eq_true q588; go_quiet (fail); replace HO_4 := am_ (Kd.R_drewN HO_4.out nq); replace HB := am_ (pw_below_drewN HB.out nq); generalize wr.drewN nq = w58 at HO_4 HB ⊢
                   try go_wp2
                   (try simp only [← hl4_4])
                   go_roundg k4
                   case measure => have := HK1.out; have := HK2.out; have := HK3.out; have := HK4.out; omega
                   case rel => exact ⟨(x4_4), (wrap64 (x5_1 + 1)), rs_, H', ⟨by have := HK1.out; have := HK2.out; have := HK3.out; have := HK4.out; omega⟩, ⟨by (try simp only [hl4_4]); refine rq_ ?_; exact HO_4.out⟩, ⟨hb_⟩⟩
               ·rw [if_neg c36] at H
                have c36b0 := decide_eq_false c36; clear c36
                as_aux_lemma =>
                 have H' := am_ H; clear H
                 try go_wp2
                 go_quiet (fail); replace HO_4 := am_ (Kd.R_drewN HO_4.out nq); replace HB := am_ (pw_below_drewN HB.out nq); generalize wr.drewN nq = w59 at HO_4 HB ⊢
                 try go_wp2
                 (try simp only [← hl4_4])
                 go_roundg k4
                 case measure => have := HK1.out; have := HK2.out; have := HK3.out; have := HK4.out; omega
                 case rel => exact ⟨(x4_4), (wrap64 (x5_1 + 1)), rs_, H', ⟨by have := HK1.out; have := HK2.out; have := HK3.out; have := HK4.out; omega⟩, ⟨by (try simp only [hl4_4]); refine rq_ ?_; exact HO_4.out⟩, ⟨hb_⟩⟩
           ·replace c26 := Bool.eq_false_iff.mpr c26
            subst c26
            have H1 : (some (([] : List (S85)), 10)) = some (r1, r2) := by rw [if_neg (show ¬ (false = true) by decide)] at H; exact H
            clear H; have H := H1; clear H1
            as_aux_lemma =>
             simp only [Option.some.injEq, Prod.mk.injEq] at H; obtain ⟨rfl, rfl⟩ := H; obtain ⟨Ao60, co60, eo60⟩ := Kd.R_slice HO_8.out; subst eo60
             go_wp2_with (first | ((with_reducible refine gate_callee (f := 53) rfl ?_); refine goesL_ (some 94) rfl rfl Try.func53 (by kernel_rfl) rfl #[.slice Ao60 x8_3.length co60] rfl mt_ ?_; (with_reducible refine (ebbtideref01_Sum.calls k3 _ _ x8_3 t575 false _ ?side1 ?side2 A25.out).mono ?_); (case side1 => repeat (first | exact (Kd.R_reads' HO_8.out).2.2 | (with_reducible refine Kd.C_alloc ?_ _) | (with_reducible refine Kd.C_drewN ?_ _) | (with_reducible refine Kd.C_drew ?_))); (case side2 => exact (Kd.R_reads' HO_8.out).2.1); rintro e w' ⟨rfl, ⟨nd, rfl⟩⟩; refine ⟨_, rfl, ?_⟩))
             go_ret2
             exact ⟨_, er_, ni_, hb_⟩
       ·replace c13 := Bool.eq_false_iff.mpr c13
        subst c13
        have H1 : (ebbtideref03_Moves.l0 k2 l0 x4_1 (wrap64 (x5_1 + 1))) = some (r1, r2) := by rw [if_neg (show ¬ (false = true) by decide)] at H; exact H
        clear H; have H := H1; clear H1
        as_aux_lemma =>
         have H' := am_ H; clear H
         go_wp2
         go_roundg k2
         case measure => have := HK1.out; have := HK2.out; omega
         case rel => exact ⟨(x4_1), (wrap64 (x5_1 + 1)), rs_, H', ⟨by have := HK1.out; have := HK2.out; omega⟩, ⟨rq_ HO_4.out⟩, ⟨hb_⟩⟩
   ·rw [if_neg c2] at H
    have c2b0 := decide_eq_false c2; clear c2
    as_aux_lemma =>
     simp only [Option.some.injEq, Prod.mk.injEq] at H; obtain ⟨rfl, rfl⟩ := H
     go_wp2
     go_ret2
     exact ⟨_, er_, by refine rq_ ?_; exact HO_4.out, hb_⟩
end Go.Proofs.Ytfhkkbpkajfdlaa.Q
end
