/- A part of the proof: words, contracts, plain lemmas. Conditions: none. -/
import Derived.Sort.Grow
import Derived.Test.YtfhkkbpkajfdlaaZExpandPlans5
set_option linter.unusedSimpArgs false
set_option linter.unusedVariables false
section
namespace Go.Proofs.Ytfhkkbpkajfdlaa.Q
open Go.RowKit Go.Proofs.YtfhkkbpkajfdlaaW.PrintWords Go.Proofs.YtfhkkbpkajfdlaaW.PrintLast Go.Proofs.YtfhkkbpkajfdlaaW.PrintMore
def expand_Asked.f (k : Nat) (a0_0 : Int) (a0_1 : Bool) (l0_2 : List (S54)) (a1 : Int) (a2 : Int) (a3 : Int) : Option (Int) := (span_Asked.f k a0_0 a0_1 l0_2 a1 a2 a3).bind fun t128 => (if t128 = 0 then ((expand_Fits.f k a0_0 a0_1 l0_2 a3).bind fun t129 => (if t129 = true then (some 0) else (some 2))) else (some t128))
theorem expand_Asked.mono : ∀ a0 a1 a2 a3 a4 a5 k, LeO (expand_Asked.f k a0 a1 a2 a3 a4 a5) (expand_Asked.f (k + 1) a0 a1 a2 a3 a4 a5) := by
 intro a0 a1 a2 a3 a4 a5 k
 unfold expand_Asked.f
 repeat' first
   | (with_reducible exact expand_Fits.mono _ _ _ _ _)
   | (with_reducible exact span_Asked.mono _ _ _ _ _ _ _)
   | (with_reducible exact LeO.refl _)
   | (with_reducible exact LeO.none _)
   | (with_reducible refine LeO.ite ?_ ?_)
   | (with_reducible refine LeO.bind ?_ (fun _ => ?_))
   | exact expand_Fits.mono _ _ _ _ _
   | exact span_Asked.mono _ _ _ _ _ _ _
   | exact LeO.none _
   | refine LeO.ite ?_ ?_
   | refine LeO.bind ?_ (fun _ => ?_)
set_option maxHeartbeats 8000000 in
set_option maxRecDepth 100000 in
theorem expand_Asked.calls (k : Nat) (a0_0 : Int) (a0_1 : Bool) (A0_2 : Option Addr) (c0_2 : Nat) (l0_2 : List (S54)) (a1 : Int) (a2 : Int) (a3 : Int) (r : Int) (w : World) (hr0_2 : Kd.C k54 w A0_2 l0_2.length l0_2) (hc0_2 : l0_2.length ≤ c0_2) (h : expand_Asked.f k a0_0 a0_1 l0_2 a1 a2 a3 = some r) :
  Calls Try.prog 38 #[.agg #[.int .i64 a0_0, .bool a0_1, .slice A0_2 l0_2.length c0_2], .int .i64 a1, .int .i64 a2, .int .i64 a3] w fun e w' => e = .returned (.int .i64 r) ∧ Below w.heap.size w w' := by
 have hu24 := Try.underlying24; have HR0_2 := am_ hr0_2; have HC0_2 := am_ hc0_2; clear hr0_2 hc0_2; have HB := am_ (Below.refl w.heap.size w); have H : ((span_Asked.f k a0_0 a0_1 l0_2 a1 a2 a3).bind fun t128 => (if t128 = 0 then ((expand_Fits.f k a0_0 a0_1 l0_2 a3).bind fun t129 => (if t129 = true then (some 0) else (some 2))) else (some t128))) = some r := h; clear h; replace H := Option.bind_eq_some_iff.mp H; obtain ⟨t128, A50, H⟩ := H; replace H : (if t128 = 0 then ((expand_Fits.f k a0_0 a0_1 l0_2 a3).bind fun t129 => (if t129 = true then (some 0) else (some 2))) else (some t128)) = some r := H; have A5 := am_ A50; clear A50
 by_cases c6 : t128 = 0
 ·rw [if_pos c6] at H
  obtain ⟨c6b0, c6b1⟩ := eqb_ c6; clear c6; replace H := Option.bind_eq_some_iff.mp H; obtain ⟨t129, A70, H⟩ := H; replace H : (if t129 = true then (some 0) else (some 2)) = some r := H; have A7 := am_ A70; clear A70
  by_cases c8 : t129 = true
  ·subst c8
   have H1 : (some 0) = some r := by rw [if_pos rfl] at H; exact H
   clear H; have H := H1; clear H1; obtain rfl := Option.some.inj H
   go_enter Try.func38, Try.ntmps38
   go_wp2_with (first | ((with_reducible refine gate_dst (N := 4) rfl ?_); refine bx_ 4 #[.int .i64 a0_0, .bool a0_1, .slice A0_2 l0_2.length c0_2] 24 ?_; intro gb127 hg w9 BK127 hb; have GE127 := ge_ (w := w) hg; replace HB := hst_ hb; clear hb hg; obtain ⟨hcz10_0, hcz10_1, hcz10_2, hfz10_0, hfz10_1, hfz10_2⟩ := cf3_ BK127.out) | ((with_reducible refine gate_callee (f := 58) rfl ?_); refine cl_ 14 Try.func58 (span_Asked.calls k a0_0 a0_1 _ _ l0_2 a1 a2 a3 t128 _ (cb_ HR0_2.out) HC0_2.out A5.out) ?_; rintro e w11 ⟨rfl, hb⟩; refine ⟨_, rfl, ?_⟩; replace BK127 := am_ (bb_ BK127.out hb); replace HB := hst_ hb; (try clear hb); (try clear hb2); (try clear hk); (try clear hi); obtain ⟨hcz12_0, hcz12_1, hcz12_2, hfz12_0, hfz12_1, hfz12_2⟩ := cf3_ BK127.out) | ((with_reducible refine gate_callee (f := 15) rfl ?_); refine cl_ 20 Try.func15 (expand_Fits.calls k a0_0 a0_1 _ _ l0_2 a3 true _ (cb_ HR0_2.out) HC0_2.out A7.out) ?_; rintro e w13 ⟨rfl, hb⟩; refine ⟨_, rfl, ?_⟩; replace BK127 := am_ (bb_ BK127.out hb); replace HB := hst_ hb; (try clear hb); (try clear hb2); (try clear hk); (try clear hi)))
   go_ret
   exact ⟨er_, hb_⟩
  ·replace c8 := Bool.eq_false_iff.mpr c8
   subst c8
   have H1 : (some 2) = some r := by rw [if_neg (show ¬ (false = true) by decide)] at H; exact H
   clear H; have H := H1; clear H1; obtain rfl := Option.some.inj H
   go_enter Try.func38, Try.ntmps38
   go_wp2_with (first | ((with_reducible refine gate_dst (N := 4) rfl ?_); refine bx_ 4 #[.int .i64 a0_0, .bool a0_1, .slice A0_2 l0_2.length c0_2] 24 ?_; intro gb127 hg w14 BK127 hb; have GE127 := ge_ (w := w) hg; replace HB := hst_ hb; clear hb hg; obtain ⟨hcz15_0, hcz15_1, hcz15_2, hfz15_0, hfz15_1, hfz15_2⟩ := cf3_ BK127.out) | ((with_reducible refine gate_callee (f := 58) rfl ?_); refine cl_ 14 Try.func58 (span_Asked.calls k a0_0 a0_1 _ _ l0_2 a1 a2 a3 t128 _ (cb_ HR0_2.out) HC0_2.out A5.out) ?_; rintro e w16 ⟨rfl, hb⟩; refine ⟨_, rfl, ?_⟩; replace BK127 := am_ (bb_ BK127.out hb); replace HB := hst_ hb; (try clear hb); (try clear hb2); (try clear hk); (try clear hi); obtain ⟨hcz17_0, hcz17_1, hcz17_2, hfz17_0, hfz17_1, hfz17_2⟩ := cf3_ BK127.out) | ((with_reducible refine gate_callee (f := 15) rfl ?_); refine cl_ 20 Try.func15 (expand_Fits.calls k a0_0 a0_1 _ _ l0_2 a3 false _ (cb_ HR0_2.out) HC0_2.out A7.out) ?_; rintro e w18 ⟨rfl, hb⟩; refine ⟨_, rfl, ?_⟩; replace BK127 := am_ (bb_ BK127.out hb); replace HB := hst_ hb; (try clear hb); (try clear hb2); (try clear hk); (try clear hi)))
   go_ret
   exact ⟨er_, hb_⟩
 ·rw [if_neg c6] at H
  obtain ⟨c6b0, c6b1⟩ := neb_ c6; obtain rfl := Option.some.inj H
  go_enter Try.func38, Try.ntmps38
  go_wp2_with (first | ((with_reducible refine gate_dst (N := 4) rfl ?_); refine bx_ 4 #[.int .i64 a0_0, .bool a0_1, .slice A0_2 l0_2.length c0_2] 24 ?_; intro gb127 hg w19 BK127 hb; have GE127 := ge_ (w := w) hg; replace HB := hst_ hb; clear hb hg; obtain ⟨hcz20_0, hcz20_1, hcz20_2, hfz20_0, hfz20_1, hfz20_2⟩ := cf3_ BK127.out) | ((with_reducible refine gate_callee (f := 58) rfl ?_); refine cl_ 14 Try.func58 (span_Asked.calls k a0_0 a0_1 _ _ l0_2 a1 a2 a3 t128 _ (cb_ HR0_2.out) HC0_2.out A5.out) ?_; rintro e w21 ⟨rfl, hb⟩; refine ⟨_, rfl, ?_⟩; replace BK127 := am_ (bb_ BK127.out hb); replace HB := hst_ hb; (try clear hb); (try clear hb2); (try clear hk); (try clear hi)))
  go_ret
  exact ⟨er_, hb_⟩
end Go.Proofs.Ytfhkkbpkajfdlaa.Q
end
section
namespace Go.Proofs.Ytfhkkbpkajfdlaa.Q
open Go.RowKit Go.Maps Go.Proofs.YtfhkkbpkajfdlaaW.PrintWords Go.Proofs.YtfhkkbpkajfdlaaW.PrintLast Go.Proofs.YtfhkkbpkajfdlaaW.PrintMore
def firstsA (V H s : Int) (n : Nat) : List S54 := (List.range n).map (fun a : Nat => (⟨(H + 1) * V, (a : Int) * V + s, 1099511627776, 0⟩ : S54))
def lastsA (V H t : Int) (n : Nat) : List S54 := (List.range n).map (fun a : Nat => (⟨(a : Int) * V + t, (H + 1) * V + 1, 1099511627776, 0⟩ : S54))
def placesL (b n : Nat) : List (Int × Int) := (List.range n).map (fun a : Nat => ((a : Int), ((b + a : Nat) : Int)))
theorem firstsA_succ (V H s : Int) (n : Nat) : firstsA V H s (n + 1) = firstsA V H s n ++ [(⟨(H + 1) * V, (n : Int) * V + s, 1099511627776, 0⟩ : S54)] := by unfold firstsA; rw [List.range_succ, List.map_append]; rfl
theorem lastsA_succ (V H t : Int) (n : Nat) : lastsA V H t (n + 1) = lastsA V H t n ++ [(⟨(n : Int) * V + t, (H + 1) * V + 1, 1099511627776, 0⟩ : S54)] := by unfold lastsA; rw [List.range_succ, List.map_append]; rfl
theorem placesL_succ (b n : Nat) : placesL b (n + 1) = placesL b n ++ [((n : Int), ((b + n : Nat) : Int))] := by unfold placesL; rw [List.range_succ, List.map_append]; rfl
theorem firstsA_length (V H s : Int) (n : Nat) : (firstsA V H s n).length = n := by unfold firstsA; rw [List.length_map, List.length_range]
theorem lastsA_length (V H t : Int) (n : Nat) : (lastsA V H t n).length = n := by unfold lastsA; rw [List.length_map, List.length_range]
theorem placesL_length (b n : Nat) : (placesL b n).length = n := by unfold placesL; rw [List.length_map, List.length_range]
theorem GridW.apart {w : World} {base : Nat} {ok : Nat → Prop} {gg : Nat} {N V : Int} {v : Value} {arcs : List S54} {m1 m2 m3 m4 : Nat} {l1 l2 : List ((Int × Int) × Int)} {l3 l4 : List (Int × Int)}
 (h : GridW w base ok gg N V v arcs m1 m2 m3 m4 l1 l2 l3 l4) {g : Nat} (hg : g < base) : GridW w base (fun k => ok k ∧ k ≠ g) gg N V v arcs m1 m2 m3 m4 l1 l2 l3 l4 :=
 ⟨h.blk, Kd.R_mono (Kd.R_bound h.row) (fun k hh => ⟨⟨hh.1.1, by have := hh.2.1; omega⟩, hh.1.2⟩), h.ge, h.M1, h.M2, h.M3, h.M4, h.o1, h.o2, h.o3, h.o4⟩
def gridArcs (V H : Int) (hold : Bool) (s t : Int) (l0 : List S54) : List S54 := (atLoop V H hold s t l0 (H.toNat + 1)).1 ++ firstsA V H s (H.toNat + 1) ++ lastsA V H t (H.toNat + 1)
def expand_Of.T6 : Bool × List (List Nat × List Nat) := (true, [([], []), ([0], [0]), ([1], [1]), ([2], [2]), ([], []), ([], []), ([], []), ([], []), ([], []), ([], []), ([7, 8, 9], [7, 8, 9]), ([5, 6, 10, 10], [5, 6, 10]), ([3, 4, 11, 11, 0, 1, 2, 3, 4, 5, 6, 7, 8, 9, 10, 11], [3, 4, 11])])
def expand_Of.B6 : List Nat := [0, 1, 3, 7, 0, 0, 0, 0, 0, 0, 896, 2016, 4095]
theorem expand_Of.tab6 : rtab .any (opsOf Try.f39 6) = expand_Of.T6 := by kernel_rfl
theorem expand_Of.bits6 : waitsOk expand_Of.T6.2 expand_Of.B6 = true := by kernel_rfl
def expand_Of.T11 : Bool × List (List Nat × List Nat) := (true, [([], []), ([0], [0]), ([1], [1]), ([2], [2]), ([], []), ([], []), ([], []), ([], []), ([], []), ([6, 7, 8], [6, 7, 8]), ([], []), ([5, 9, 10, 9], [5, 9, 10]), ([3, 4, 11, 11, 0, 1, 2, 3, 4, 5, 6, 7, 8, 9, 10, 11], [3, 4, 11])])
def expand_Of.B11 : List Nat := [0, 1, 3, 7, 0, 0, 0, 0, 0, 448, 0, 2016, 4095]
theorem expand_Of.tab11 : rtab .any (opsOf Try.f39 11) = expand_Of.T11 := by kernel_rfl
theorem expand_Of.bits11 : waitsOk expand_Of.T11.2 expand_Of.B11 = true := by kernel_rfl
set_option maxHeartbeats 8000000 in
set_option maxRecDepth 100000 in
theorem expand_Of.calls (V H s t : Int) (hold : Bool) (A0 : Option Addr) (c0 : Nat) (l0 : List S54) (w : World) (hr0 : Kd.C k54 w A0 l0.length l0) (hc0 : l0.length ≤ c0) (hok : okNet V H l0 = true) (hs0 : 0 ≤ s) (hs1 : s < V) (ht0 : 0 ≤ t) (ht1 : t < V) :
 Calls Try.prog 39 #[.agg #[.int .i64 V, .bool hold, .slice A0 l0.length c0], .int .i64 s, .int .i64 t, .int .i64 H] w fun e w' =>
  ∃ gg v m1 m2 m3 m4, e = .returned (.pointer (some ⟨gg, 0, none⟩)) ∧ GridW w' w.heap.size (fun _ => True) gg ((H + 1) * V + 2) V v (gridArcs V H hold s t l0) m1 m2 m3 m4 (atLoop V H hold s t l0 (H.toNat + 1)).2.1 (atLoop V H hold s t l0 (H.toNat + 1)).2.2 (placesL (atLoop V H hold s t l0 (H.toNat + 1)).1.length (H.toNat + 1)) (placesL ((atLoop V H hold s t l0 (H.toNat + 1)).1.length + (H.toNat + 1)) (H.toNat + 1)) ∧ Below w.heap.size w w' := by
 have hu54 := Try.underlying54
 have hu24 := Try.underlying24
 have hu76 := Try.underlying76
 have HOK := am_ hok
 unfold okNet at hok
 simp only [Bool.and_eq_true, decide_eq_true_eq] at hok
 obtain ⟨⟨hV0, hV1, hH0, hH1, hlen⟩, _⟩ := hok
 have hbal := atLoop_bal (V := V) (H := H) (s := s) (t := t) (hold := hold) (l0 := l0) hV1 hlen (H.toNat + 1)
 have hlA : (atLoop V H hold s t l0 (H.toNat + 1)).1.length ≤ 300000 := by have := hbal.2; omega
 have hm1 := mulB (a := H + 1) (b := V) (by omega) (by omega) hV0 hV1
 have hN2 : wrap64 ((H + 1) * V + 2 - 2) = (H + 1) * V := by rw [show (H + 1) * V + 2 - 2 = (H + 1) * V by omega]; exact wrapId (by omega) (by omega)
 have hN1 : wrap64 ((H + 1) * V + 2 - 1) = (H + 1) * V + 1 := by rw [show (H + 1) * V + 2 - 1 = (H + 1) * V + 1 by omega]; exact wrapId (by omega) (by omega)
 have hHW : wrap64 (H + 1) = H + 1 := wrapId (by omega) (by omega)
 have HR0 := am_ hr0
 have HC0 := am_ hc0
 have HV0 := am_ hV0
 have HV1 := am_ hV1
 have HH0 := am_ hH0
 have HH1 := am_ hH1
 have HS0 := am_ hs0
 have HS1 := am_ hs1
 have HT0 := am_ ht0
 have HT1 := am_ ht1
 have HLA := am_ hlA
 have HN2 := am_ hN2
 have HN1 := am_ hN1
 have HW1 := am_ hHW
 have HB := am_ (Below.refl w.heap.size w)
 clear hr0 hc0 hV0 hV1 hH0 hH1 hlen hbal hlA hm1 hN2 hN1 hHW hs0 hs1 ht0 ht1
 unfold gridArcs
 obtain ⟨G, hG⟩ : ∃ G, atLoop V H hold s t l0 (H.toNat + 1) = G := ⟨_, rfl⟩
 rw [hG] at HLA ⊢
 have HGE := am_ hG
 clear hG
 go_enter Try.func39, Try.ntmps39
 go_wp2_with (first
  | ((with_reducible refine gate_dst (N := 4) rfl ?_); refine box_event ?hg (N := 4) ?hd (cs := #[.int .i64 V, .bool hold, .slice A0 l0.length c0]) (t := 24) ?hr ?_; (case hd => rfl); (case hg => rfl); (case hr => first | (go_simp; done) | (go_simp; rfl)); intro gn hg w2 hbox hb; replace HB := am_ (below_step HB.out hb); have BKn := am_ hbox; clear hb hbox hg)
  | ((with_reducible refine gate_dst (N := 5) rfl ?_); refine box_event ?hg (N := 5) ?hd (cs := #[.int .i64 s]) (t := 3) ?hr ?_; (case hd => rfl); (case hg => rfl); (case hr => first | (go_simp; done) | (go_simp; rfl)); intro gs hg w3 hbox hb; have n0_ := am_ (below_step HB.out hb); have n1_ := am_ hbox; have n2_ := am_ (blk_below BKn.out hb); clear HB BKn; have HB := n0_; have BKs := n1_; have BKn := n2_; clear n0_ n1_ n2_; clear hb hbox hg)
  | ((with_reducible refine gate_dst (N := 6) rfl ?_); refine box_event ?hg (N := 6) ?hd (cs := #[.int .i64 t]) (t := 3) ?hr ?_; (case hd => rfl); (case hg => rfl); (case hr => first | (go_simp; done) | (go_simp; rfl)); intro gt hg w4 hbox hb; have n0_ := am_ (below_step HB.out hb); have n1_ := am_ hbox; have n2_ := am_ (blk_below BKn.out hb); have n3_ := am_ (blk_below BKs.out hb); clear HB BKn BKs; have HB := n0_; have BKt := n1_; have BKn := n2_; have BKs := n3_; clear n0_ n1_ n2_ n3_; clear hb hbox hg; have zn0 : w4.cell? ⟨gn, 0, none⟩ = some (.int .i64 V) := (blk_cell BKn.out 0).trans rfl; have zn1 : w4.cell? ⟨gn, 1, none⟩ = some (.bool hold) := (blk_cell BKn.out 1).trans rfl; have zn2 : w4.cell? ⟨gn, 2, none⟩ = some (.slice A0 l0.length c0) := (blk_cell BKn.out 2).trans rfl)
  | (go_at_call 59; refine (expand_Begin.calls V H s t hold A0 c0 l0 gs gt gn _ (Kd.C_below HR0.out HB.out) HC0.out BKs.out BKt.out BKn.out HOK.out).mono ?_; rintro e w5 ⟨gg, v, m1, m2, m3, m4, rfl, hG, hb⟩; rw [HGE.out] at hG; have n0_ := am_ ((((hG.apart (blk_lt BKs.out)).apart (blk_lt BKt.out)).lower (below_size HB.out)).mono (ok' := fun k => k ≠ gs ∧ k ≠ gt) (fun k hk => ⟨hk.1.2, hk.2⟩)); have n1_ := am_ (below_step HB.out hb); have n2_ := am_ (blk_below BKs.out hb); have n3_ := am_ (blk_below BKt.out hb); have NBs := am_ (show gs ≠ gg from fun e_ => absurd hG.ge (by rw [← e_]; exact Nat.not_le_of_lt (blk_lt BKs.out))); have NBt := am_ (show gt ≠ gg from fun e_ => absurd hG.ge (by rw [← e_]; exact Nat.not_le_of_lt (blk_lt BKt.out))); clear HB BKn BKs BKt hG hb zn0 zn1 zn2; have HG := n0_; have HB := n1_; have BKs := n2_; have BKt := n3_; clear n0_ n1_ n2_ n3_)
  | (go_at_call 62; refine (Grid_Ends.calls gg _ V _ _ _ _ _ _ HG.out.blk).mono ?_; rintro e w6 ⟨rfl, hb⟩; rw [HN2.out, HN1.out]; have n0_ := am_ (HG.out.below hb); have n1_ := am_ (below_step HB.out hb); have n2_ := am_ (blk_below BKs.out hb); have n3_ := am_ (blk_below BKt.out hb); clear HB HG BKs BKt hb; have HG := n0_; have HB := n1_; have BKs := n2_; have BKt := n3_; clear n0_ n1_ n2_ n3_))
 go_loopg [26] (H.toNat + 1) (fun kq vi w' => ∃ (j : Nat) (v : Value), vi = .int .i64 (j : Int) ∧ Aside0 (j + kq = H.toNat + 1) ∧ Aside0 (Below w.heap.size w w') ∧ Aside0 (GridW w' w.heap.size (fun k => k ≠ gs ∧ k ≠ gt) gg ((H + 1) * V + 2) V v (G.1 ++ firstsA V H s j) m1 m2 m3 m4 G.2.1 G.2.2 (placesL G.1.length j) ([])) ∧ Aside0 (w'.heap[gs]? = some (.cells #[.int .i64 s] 3 (0, 0))) ∧ Aside0 (w'.heap[gt]? = some (.cells #[.int .i64 t] 3 (0, 0))))
 case atStart => exact ⟨0, v, rfl, ⟨by omega⟩, HB, ⟨by rw [show firstsA V H s 0 = [] from rfl, List.append_nil]; exact HG.out⟩, BKs, BKt⟩
 case round =>
  clear HB HG BKs BKt
  obtain ⟨j, v, rfl, HJ, HB, HG, BKs, BKt⟩ := hrel
  cases gk with
  | zero =>
   have hj : j = H.toNat + 1 := by have := HJ.out; omega
   have c1 : decide ((j : Int) < wrap64 (H + 1)) = false := by rw [HW1.out]; exact decide_eq_false (by have := HH0.out; omega)
   have HJ2 := am_ hj
   clear hj
   go_wp2
   rw [HJ2.out] at HG
   go_loopg [44] (H.toNat + 1) (fun kq vi w' => ∃ (j : Nat) (v : Value), vi = .int .i64 (j : Int) ∧ Aside0 (j + kq = H.toNat + 1) ∧ Aside0 (Below w.heap.size w w') ∧ Aside0 (GridW w' w.heap.size (fun k => k ≠ gs ∧ k ≠ gt) gg ((H + 1) * V + 2) V v (G.1 ++ firstsA V H s (H.toNat + 1) ++ lastsA V H t j) m1 m2 m3 m4 G.2.1 G.2.2 (placesL G.1.length (H.toNat + 1)) (placesL (G.1.length + (H.toNat + 1)) j)) ∧ Aside0 (w'.heap[gs]? = some (.cells #[.int .i64 s] 3 (0, 0))) ∧ Aside0 (w'.heap[gt]? = some (.cells #[.int .i64 t] 3 (0, 0))))
   case atStart => exact ⟨0, v, rfl, ⟨by omega⟩, HB, ⟨by rw [show lastsA V H t 0 = [] from rfl, List.append_nil]; exact HG.out⟩, BKs, BKt⟩
   case round =>
    clear HB HG BKs BKt
    obtain ⟨j, v, rfl, HJ, HB, HG, BKs, BKt⟩ := hrel
    cases gk with
    | zero =>
     have hj : j = H.toNat + 1 := by have := HJ.out; omega
     have c1 : decide ((j : Int) < wrap64 (H + 1)) = false := by rw [HW1.out]; exact decide_eq_false (by have := HH0.out; omega)
     have HJ3 := am_ hj
     clear hj
     go_wp2
     go_ret
     exact ⟨gg, v, m1, m2, m3, m4, rfl, by have h_ := HG.out; rw [HJ3.out] at h_; exact h_.mono (fun _ _ => trivial), HB.out⟩
    | succ gk0 =>
     have hjb : (j : Int) ≤ H := by have := HJ.out; have := HH0.out; omega
     have c1 : decide ((j : Int) < wrap64 (H + 1)) = true := by rw [HW1.out]; exact decide_eq_true (by omega)
     have hjn : j ≤ 1025 := by have := HH1.out; omega
     have hm1 := mulB (a := (j : Int)) (b := V) (by omega) (by omega) HV0.out HV1.out
     have q1 : -1000000000000 ≤ (j : Int) * V + t ∧ (j : Int) * V + t ≤ 1000000000000 := by have := HS0.out; have := HS1.out; have := HT0.out; have := HT1.out; have := HV1.out; omega
     have hwa : wrap64 (wrap64 ((j : Int) * V) + t) = (j : Int) * V + t := by rw [wrapId (n := (j : Int) * V) (by omega) (by omega), wrapId q1.1 q1.2]
     have hwi : wrap64 ((j : Int) + 1) = ((j + 1 : Nat) : Int) := wrapId (by omega) (by omega)
     have hkv : w64 (((G.1.length + (H.toNat + 1)) + j : Nat) : Int) := by have := HLA.out; have := HH1.out; exact wf_i64B (by omega) (by omega)
     have hkey : w64 (j : Int) := wf_i64B (by omega) (by omega)
     have hal : (G.1 ++ firstsA V H s (H.toNat + 1) ++ lastsA V H t j).length = (G.1.length + (H.toNat + 1)) + j := by simp only [List.length_append, firstsA_length, lastsA_length]
     have hln : (placesL (G.1.length + (H.toNat + 1)) j).length = j := placesL_length _ _
     have HWA := am_ hwa
     have HWI := am_ hwi
     have HKV := am_ hkv
     have HKEY := am_ hkey
     have HAL := am_ hal
     have HLN := am_ hln
     have HJN := am_ hjn
     clear hjb hjn hm1 q1 hwa hwi hkv hkey hal hln
     go_wp2
     have hz3 : wr.cell? ⟨gg, 6, none⟩ = some (.map (some m4)) := (blk_cell HG.out.blk 6).trans rfl
     have hz4 : wr.cell? ⟨gt, 0, none⟩ = some (.int .i64 t) := (blk_cell BKt.out 0).trans rfl
     have n0_ := am_ HG.out.drew
     have n1_ := am_ (below_drew1 HB.out)
     have n2_ := am_ (blk_drew BKs.out)
     have n3_ := am_ (blk_drew BKt.out)
     clear HG HB BKs BKt
     have HG := n0_
     have HB := n1_
     have BKs := n2_
     have BKt := n3_
     clear n0_ n1_ n2_ n3_
     refine start_ (n := 13) (S := fun w' => w'.cell? ⟨gg, 6, none⟩ = some (.map (some m4)) ∧ w'.cell? ⟨gt, 0, none⟩ = some (.int .i64 t)) (ds := [12]) #[Ff,Ff,Ff,Ff,Ff,Ff,Ff,Ff,Ff,Ff,Ff,Ff,Ff] (by kernel_rfl) rfl rfl ⟨hz3, hz4⟩ (fun hHeld => ?_)
     clear hz3 hz4
     generalize wr.drew = w10 at HG HB BKs BKt hHeld ⊢
     refine with_tabW expand_Of.tab11 expand_Of.bits11 (fun HT_ HW_ => ?_)
     refine pw_ 0 47 ?_
     refine pw_ 1 48 ?_
     refine pw_ 2 49 ?_
     refine pw_ 4 51 ?_
     refine pw_ 5 52 ?_
     refine pw_ 6 53 ?_
     refine pw_ 8 55 ?_
     refine pw_ 10 57 ?_
     refine tk_ 3 50 ?_
     refine tk_ 7 54 ?_
     refine one_ (i := 9) (N := (some 56)) #[Tt,Tt,Tt,Tt,Tt,Tt,Tt,Tt,Tt,Tt,Tt,Ff,Ff] rfl rfl (one_of HT_.out (by kernel_rfl)) (by decide) (fun K hK => ?_)
     refine goes_ Try.func64 (by kernel_rfl) rfl #[.pointer (some ⟨gg, 0, none⟩), .int .i64 t, .int .i64 (j : Int)] (by rfl) rfl rfl q7_ ?_
     refine (Grid_At.calls gg _ V t (j : Int) _ _ _ _ _ _ HG.out.blk).mono ?_
     rintro e w' ⟨rfl, hw'⟩
     subst hw'
     rw [HWA.out]
     refine ⟨_, rfl, ?_⟩
     refine hK.out _ _ hHeld (fun hHeld => ?_)
     clear hK K
     refine norm_ (a' := ?_) ?_ ?_
     rotate_left
     ·show Act.put _ (some 56) _ = _
      simp only [Act.put, List.setIfInBounds_toArray, List.set_cons_zero, List.set_cons_succ, i64_w, i32_w]
      rfl
     refine one_ (i := 11) (N := (some 58)) #[Tt,Tt,Tt,Tt,Tt,Tt,Tt,Tt,Tt,Tt,Tt,Tt,Ff] rfl rfl (one_of HT_.out (by kernel_rfl)) (by decide) (fun K hK => ?_)
     refine goes_ Try.func63 (by kernel_rfl) rfl #[.pointer (some ⟨gg, 0, none⟩), .int .i64 ((j : Int) * V + t), .int .i64 ((H + 1) * V + 1), .int .i64 1099511627776] (by rfl) rfl rfl q7_ ?_
     refine (Grid_Add.calls (fun k => k ≠ gs ∧ k ≠ gt) gg _ V v (G.1 ++ firstsA V H s (H.toNat + 1) ++ lastsA V H t j) m1 m2 m3 m4 G.2.1 G.2.2 (placesL G.1.length (H.toNat + 1)) (placesL (G.1.length + (H.toNat + 1)) j) ((j : Int) * V + t) ((H + 1) * V + 1) 1099511627776 w _ HB.out HG.out (fun k hk => ⟨fun e_ => by have := blk_lt BKs.out; omega, fun e_ => by have := blk_lt BKt.out; omega⟩) (by rw [HAL.out]; have := HLA.out; have := HJN.out; have := HH1.out; omega)).mono ?_
     rintro e w11 ⟨rfl, v2, hG, hb, hk⟩
     refine ⟨_, rfl, ?_⟩
     have n0_ := am_ (Kept.blk (S := fun k => k = gg ∨ (k ≠ gs ∧ k ≠ gt)) hk BKs.out (fun hc => by rcases hc with hc | hc; (exact NBs.out hc); (exact hc.1 rfl)))
     have n1_ := am_ (Kept.blk (S := fun k => k = gg ∨ (k ≠ gs ∧ k ≠ gt)) hk BKt.out (fun hc => by rcases hc with hc | hc; (exact NBt.out hc); (exact hc.2 rfl)))
     clear HG HB BKs BKt hk hHeld
     have HG := am_ hG
     have HB := am_ hb
     have BKs := n0_
     have BKt := n1_
     clear n0_ n1_ hG hb
     rw [HAL.out]
     refine hK.out _ _ ⟨(blk_cell HG.out.blk 6).trans rfl, (blk_cell BKt.out 0).trans rfl⟩ (fun hHeld => ?_)
     clear hK K
     refine norm_ (a' := ?_) ?_ ?_
     rotate_left
     ·show Act.put _ (some 58) _ = _
      simp only [Act.put, List.setIfInBounds_toArray, List.set_cons_zero, List.set_cons_succ, i64_w, i32_w]
      rfl
     refine last_ (i := 12) (N := none) #[Tt,Tt,Tt,Tt,Tt,Tt,Tt,Tt,Tt,Tt,Tt,Tt,Tt] rfl rfl (one_of HT_.out (by kernel_rfl)) (by decide) (fun K hK => ?_)
     refine mput_step E3 (by rfl) rfl (.tmp 50) (.tmp 51) (.tmp 58) 74 rfl Try.underlying74 rfl HG.out.M4 (j : Int) (((G.1.length + (H.toNat + 1)) + j : Nat) : Int) rfl rfl HKEY.out HKV.out (by rw [HLN.out]; have := HJN.out; unfold maxLen; omega) ?_
     intro w12 hM hg
     refine hK.out _ _ ?_
     clear hK K
     have n0_ := am_ (HG.out.put4 hg hM)
     have n1_ := am_ (Below.grown HB.out hg (below_size HB.out) (fun k_ e_ => by injection e_ with e_; subst e_; exact Nat.le_trans HG.out.o1 (Nat.le_trans (Nat.le_of_lt HG.out.o2) (Nat.le_trans (Nat.le_of_lt HG.out.o3) (Nat.le_of_lt HG.out.o4)))))
     have n2_ := am_ (blk_grown BKs.out hg (fun e_ => HG.out.M4.ne BKs.out (Option.some.inj e_)))
     have n3_ := am_ (blk_grown BKt.out hg (fun e_ => HG.out.M4.ne BKt.out (Option.some.inj e_)))
     clear HG HB BKs BKt hM hg
     have HG := n0_
     have HB := n1_
     have BKs := n2_
     have BKt := n3_
     clear n0_ n1_ n2_ n3_
     refine done_ (done_of HT_.out (by kernel_rfl)) ?_
     try go_wp2
     go_roundg gk0
     case measure => omega
     case rel =>
      refine ⟨j + 1, v2, by first | exact congrArg (Value.int .i64) (by omega) | exact congrArg (Value.int .i64) HWI.out, ⟨by have := HJ.out; omega⟩, HB, ⟨?_⟩, BKs, BKt⟩
      rw [lastsA_succ, placesL_succ _ j, ← List.append_assoc]
      exact HG.out
  | succ gk0 =>
   have hjb : (j : Int) ≤ H := by have := HJ.out; have := HH0.out; omega
   have c1 : decide ((j : Int) < wrap64 (H + 1)) = true := by rw [HW1.out]; exact decide_eq_true (by omega)
   have hjn : j ≤ 1025 := by have := HH1.out; omega
   have hm1 := mulB (a := (j : Int)) (b := V) (by omega) (by omega) HV0.out HV1.out
   have q1 : -1000000000000 ≤ (j : Int) * V + s ∧ (j : Int) * V + s ≤ 1000000000000 := by have := HS0.out; have := HS1.out; have := HT0.out; have := HT1.out; have := HV1.out; omega
   have hwa : wrap64 (wrap64 ((j : Int) * V) + s) = (j : Int) * V + s := by rw [wrapId (n := (j : Int) * V) (by omega) (by omega), wrapId q1.1 q1.2]
   have hwi : wrap64 ((j : Int) + 1) = ((j + 1 : Nat) : Int) := wrapId (by omega) (by omega)
   have hkv : w64 (((G.1.length) + j : Nat) : Int) := by have := HLA.out; have := HH1.out; exact wf_i64B (by omega) (by omega)
   have hkey : w64 (j : Int) := wf_i64B (by omega) (by omega)
   have hal : (G.1 ++ firstsA V H s j).length = (G.1.length) + j := by simp only [List.length_append, firstsA_length, lastsA_length]
   have hln : (placesL G.1.length j).length = j := placesL_length _ _
   have HWA := am_ hwa
   have HWI := am_ hwi
   have HKV := am_ hkv
   have HKEY := am_ hkey
   have HAL := am_ hal
   have HLN := am_ hln
   have HJN := am_ hjn
   clear hjb hjn hm1 q1 hwa hwi hkv hkey hal hln
   go_wp2
   have hz3 : wr.cell? ⟨gg, 5, none⟩ = some (.map (some m3)) := (blk_cell HG.out.blk 5).trans rfl
   have hz4 : wr.cell? ⟨gs, 0, none⟩ = some (.int .i64 s) := (blk_cell BKs.out 0).trans rfl
   have n0_ := am_ HG.out.drew
   have n1_ := am_ (below_drew1 HB.out)
   have n2_ := am_ (blk_drew BKs.out)
   have n3_ := am_ (blk_drew BKt.out)
   clear HG HB BKs BKt
   have HG := n0_
   have HB := n1_
   have BKs := n2_
   have BKt := n3_
   clear n0_ n1_ n2_ n3_
   refine start_ (n := 13) (S := fun w' => w'.cell? ⟨gg, 5, none⟩ = some (.map (some m3)) ∧ w'.cell? ⟨gs, 0, none⟩ = some (.int .i64 s)) (ds := [12]) #[Ff,Ff,Ff,Ff,Ff,Ff,Ff,Ff,Ff,Ff,Ff,Ff,Ff] (by kernel_rfl) rfl rfl ⟨hz3, hz4⟩ (fun hHeld => ?_)
   clear hz3 hz4
   generalize wr.drew = w10 at HG HB BKs BKt hHeld ⊢
   refine with_tabW expand_Of.tab6 expand_Of.bits6 (fun HT_ HW_ => ?_)
   refine pw_ 0 29 ?_
   refine pw_ 1 30 ?_
   refine pw_ 2 31 ?_
   refine pw_ 4 33 ?_
   refine pw_ 5 34 ?_
   refine pw_ 6 35 ?_
   refine pw_ 7 36 ?_
   refine pw_ 9 38 ?_
   refine tk_ 3 32 ?_
   refine tk_ 8 37 ?_
   refine one_ (i := 10) (N := (some 39)) #[Tt,Tt,Tt,Tt,Tt,Tt,Tt,Tt,Tt,Tt,Tt,Ff,Ff] rfl rfl (one_of HT_.out (by kernel_rfl)) (by decide) (fun K hK => ?_)
   refine goes_ Try.func64 (by kernel_rfl) rfl #[.pointer (some ⟨gg, 0, none⟩), .int .i64 s, .int .i64 (j : Int)] (by rfl) rfl rfl q7_ ?_
   refine (Grid_At.calls gg _ V s (j : Int) _ _ _ _ _ _ HG.out.blk).mono ?_
   rintro e w' ⟨rfl, hw'⟩
   subst hw'
   rw [HWA.out]
   refine ⟨_, rfl, ?_⟩
   refine hK.out _ _ hHeld (fun hHeld => ?_)
   clear hK K
   refine norm_ (a' := ?_) ?_ ?_
   rotate_left
   ·show Act.put _ (some 39) _ = _
    simp only [Act.put, List.setIfInBounds_toArray, List.set_cons_zero, List.set_cons_succ, i64_w, i32_w]
    rfl
   refine one_ (i := 11) (N := (some 40)) #[Tt,Tt,Tt,Tt,Tt,Tt,Tt,Tt,Tt,Tt,Tt,Tt,Ff] rfl rfl (one_of HT_.out (by kernel_rfl)) (by decide) (fun K hK => ?_)
   refine goes_ Try.func63 (by kernel_rfl) rfl #[.pointer (some ⟨gg, 0, none⟩), .int .i64 ((H + 1) * V), .int .i64 ((j : Int) * V + s), .int .i64 1099511627776] (by rfl) rfl rfl q7_ ?_
   refine (Grid_Add.calls (fun k => k ≠ gs ∧ k ≠ gt) gg _ V v (G.1 ++ firstsA V H s j) m1 m2 m3 m4 G.2.1 G.2.2 (placesL G.1.length j) ([]) ((H + 1) * V) ((j : Int) * V + s) 1099511627776 w _ HB.out HG.out (fun k hk => ⟨fun e_ => by have := blk_lt BKs.out; omega, fun e_ => by have := blk_lt BKt.out; omega⟩) (by rw [HAL.out]; have := HLA.out; have := HJN.out; have := HH1.out; omega)).mono ?_
   rintro e w11 ⟨rfl, v2, hG, hb, hk⟩
   refine ⟨_, rfl, ?_⟩
   have n0_ := am_ (Kept.blk (S := fun k => k = gg ∨ (k ≠ gs ∧ k ≠ gt)) hk BKs.out (fun hc => by rcases hc with hc | hc; (exact NBs.out hc); (exact hc.1 rfl)))
   have n1_ := am_ (Kept.blk (S := fun k => k = gg ∨ (k ≠ gs ∧ k ≠ gt)) hk BKt.out (fun hc => by rcases hc with hc | hc; (exact NBt.out hc); (exact hc.2 rfl)))
   clear HG HB BKs BKt hk hHeld
   have HG := am_ hG
   have HB := am_ hb
   have BKs := n0_
   have BKt := n1_
   clear n0_ n1_ hG hb
   rw [HAL.out]
   refine hK.out _ _ ⟨(blk_cell HG.out.blk 5).trans rfl, (blk_cell BKs.out 0).trans rfl⟩ (fun hHeld => ?_)
   clear hK K
   refine norm_ (a' := ?_) ?_ ?_
   rotate_left
   ·show Act.put _ (some 40) _ = _
    simp only [Act.put, List.setIfInBounds_toArray, List.set_cons_zero, List.set_cons_succ, i64_w, i32_w]
    rfl
   refine last_ (i := 12) (N := none) #[Tt,Tt,Tt,Tt,Tt,Tt,Tt,Tt,Tt,Tt,Tt,Tt,Tt] rfl rfl (one_of HT_.out (by kernel_rfl)) (by decide) (fun K hK => ?_)
   refine mput_step E3 (by rfl) rfl (.tmp 32) (.tmp 33) (.tmp 40) 74 rfl Try.underlying74 rfl HG.out.M3 (j : Int) (((G.1.length) + j : Nat) : Int) rfl rfl HKEY.out HKV.out (by rw [HLN.out]; have := HJN.out; unfold maxLen; omega) ?_
   intro w12 hM hg
   refine hK.out _ _ ?_
   clear hK K
   have n0_ := am_ (HG.out.put3 hg hM)
   have n1_ := am_ (Below.grown HB.out hg (below_size HB.out) (fun k_ e_ => by injection e_ with e_; subst e_; exact Nat.le_trans HG.out.o1 (Nat.le_trans (Nat.le_of_lt HG.out.o2) (Nat.le_of_lt HG.out.o3))))
   have n2_ := am_ (blk_grown BKs.out hg (fun e_ => HG.out.M3.ne BKs.out (Option.some.inj e_)))
   have n3_ := am_ (blk_grown BKt.out hg (fun e_ => HG.out.M3.ne BKt.out (Option.some.inj e_)))
   clear HG HB BKs BKt hM hg
   have HG := n0_
   have HB := n1_
   have BKs := n2_
   have BKt := n3_
   clear n0_ n1_ n2_ n3_
   refine done_ (done_of HT_.out (by kernel_rfl)) ?_
   try go_wp2
   go_roundg gk0
   case measure => omega
   case rel =>
    refine ⟨j + 1, v2, by first | exact congrArg (Value.int .i64) (by omega) | exact congrArg (Value.int .i64) HWI.out, ⟨by have := HJ.out; omega⟩, HB, ⟨?_⟩, BKs, BKt⟩
    rw [firstsA_succ, placesL_succ _ j, ← List.append_assoc]
    exact HG.out
def expand_Build.f (k : Nat) (a0_0 : Int) (a0_1 : Bool) (l0_2 : List S54) (a1 a2 a3 : Int) : Option (Int × Bool × List S54 × Int) := (expand_Asked.f k a0_0 a0_1 l0_2 a1 a2 a3).bind fun e => if e = 0 then (if okNet a0_0 a3 l0_2 = true ∧ (0 ≤ a1 ∧ a1 < a0_0 ∧ 0 ≤ a2 ∧ a2 < a0_0) then some ((a3 + 1) * a0_0 + 2, false, gridArcs a0_0 a3 a0_1 a1 a2 l0_2, 0) else none) else some (0, false, [], e)
theorem expand_Build.mono : ∀ a0 a1 a2 a3 a4 a5 k, LeO (expand_Build.f k a0 a1 a2 a3 a4 a5) (expand_Build.f (k + 1) a0 a1 a2 a3 a4 a5) := fun a0 a1 a2 a3 a4 a5 k => LeO.bind (expand_Asked.mono _ _ _ _ _ _ _) (fun _ => LeO.refl _)
set_option maxHeartbeats 8000000 in
set_option maxRecDepth 100000 in
theorem expand_Build.calls (k : Nat) (a0_0 : Int) (a0_1 : Bool) (A0_2 : Option Addr) (c0_2 : Nat) (l0_2 : List S54) (a1 a2 a3 : Int) (r1 : Int) (r2 : Bool) (r3 : List S54) (r4 : Int) (w : World) (hr0_2 : Kd.C k54 w A0_2 l0_2.length l0_2) (hc0_2 : l0_2.length ≤ c0_2) (h : expand_Build.f k a0_0 a0_1 l0_2 a1 a2 a3 = some (r1, r2, r3, r4)) :
 Calls Try.prog 17 #[.agg #[.int .i64 a0_0, .bool a0_1, .slice A0_2 l0_2.length c0_2], .int .i64 a1, .int .i64 a2, .int .i64 a3] w fun e w' => ∃ v2_ : Value, e = .returned (.tuple #[.agg #[.int .i64 r1, .bool r2, v2_], .int .i64 r4]) ∧ Kd.R k54 54 w' w.heap.size (fun _ => True) v2_ r3 ∧ Below w.heap.size w w' := by
 have hu24 := Try.underlying24
 have hu76 := Try.underlying76
 have HR0 := am_ hr0_2
 have HC0 := am_ hc0_2
 have HB := am_ (Below.refl w.heap.size w)
 clear hr0_2 hc0_2
 unfold expand_Build.f at h
 obtain ⟨e, he, h⟩ := Option.bind_eq_some_iff.1 h
 have HE := am_ he
 clear he
 by_cases c : e = 0
 ·rw [if_pos c] at h
  split at h
  case isFalse => cases h
  rename_i hh
  simp only [Option.some.injEq, Prod.mk.injEq] at h
  obtain ⟨rfl, rfl, rfl, rfl⟩ := h
  have HOK := am_ hh.1
  have HEN := am_ hh.2
  have c1 : (e == 0) = true := beq_iff_eq.2 c
  have c2 : (e != 0) = false := by rw [c]; rfl
  clear hh c
  go_enter Try.func17, Try.ntmps17
  go_wp2_with (first
   | ((with_reducible refine gate_dst (N := 4) rfl ?_); refine box_event ?hg (N := 4) ?hd (cs := #[.int .i64 a0_0, .bool a0_1, .slice A0_2 l0_2.length c0_2]) (t := 24) ?hr ?_; (case hd => rfl); (case hg => rfl); (case hr => first | (go_simp; done) | (go_simp; rfl)); intro gn hg w2 hbox hb; replace HB := am_ (below_step HB.out hb); have BKn := am_ hbox; clear hb hbox hg)
   | ((with_reducible refine gate_dst (N := 8) rfl ?_); refine box_event ?hg (N := 8) ?hd (cs := #[.int .i64 0, .bool false, .slice none 0 0]) (t := 24) ?hr ?_; (case hd => rfl); (case hg => rfl); (case hr => first | (go_simp; done) | (go_simp; rfl)); intro gr hg w3 hbox hb; have n0_ := am_ (below_step HB.out hb); have n1_ := am_ hbox; have n2_ := am_ (blk_below BKn.out hb); have n3_ := am_ (by rw [hg]; exact below_size HB.out : w.heap.size ≤ gr); clear HB BKn; have HB := n0_; have BKr := n1_; have BKn := n2_; have GEr := n3_; clear n0_ n1_ n2_ n3_; clear hb hbox hg; have zn0 : w3.cell? ⟨gn, 0, none⟩ = some (.int .i64 a0_0) := (blk_cell BKn.out 0).trans rfl; have zn1 : w3.cell? ⟨gn, 1, none⟩ = some (.bool a0_1) := (blk_cell BKn.out 1).trans rfl; have zn2 : w3.cell? ⟨gn, 2, none⟩ = some (.slice A0_2 l0_2.length c0_2) := (blk_cell BKn.out 2).trans rfl)
   | (go_at_call 38; (with_reducible refine (expand_Asked.calls k a0_0 a0_1 A0_2 c0_2 l0_2 a1 a2 a3 e _ ?side11 HC0.out HE.out).mono ?_); (case side11 => exact (Kd.C_below HR0.out HB.out)); rintro e4 w4 ⟨rfl, hb⟩; have n0_ := am_ (below_step HB.out hb); have n1_ := am_ (blk_below BKn.out hb); have n2_ := am_ (blk_below BKr.out hb); clear HB BKn BKr zn0 zn1 zn2 hb; have HB := n0_; have BKn := n1_; have BKr := n2_; clear n0_ n1_ n2_; have zn0 : w4.cell? ⟨gn, 0, none⟩ = some (.int .i64 a0_0) := (blk_cell BKn.out 0).trans rfl; have zn1 : w4.cell? ⟨gn, 1, none⟩ = some (.bool a0_1) := (blk_cell BKn.out 1).trans rfl; have zn2 : w4.cell? ⟨gn, 2, none⟩ = some (.slice A0_2 l0_2.length c0_2) := (blk_cell BKn.out 2).trans rfl; have zr0 : w4.cell? ⟨gr, 0, none⟩ = some (.int .i64 0) := (blk_cell BKr.out 0).trans rfl; have zr1 : w4.cell? ⟨gr, 1, none⟩ = some (.bool false) := (blk_cell BKr.out 1).trans rfl; have zr2 : w4.cell? ⟨gr, 2, none⟩ = some (.slice none 0 0) := (blk_cell BKr.out 2).trans rfl; have yr0 := blk_frozen BKr.out 0; have yr1 := blk_frozen BKr.out 1; have yr2 := blk_frozen BKr.out 2)
   | (go_at_call 39; refine (expand_Of.calls a0_0 a3 a1 a2 a0_1 A0_2 c0_2 l0_2 _ (Kd.C_below HR0.out HB.out) HC0.out HOK.out HEN.out.1 HEN.out.2.1 HEN.out.2.2.1 HEN.out.2.2.2).mono ?_; rintro e5 w5 ⟨gg, v, m1, m2, m3, m4, rfl, hG, hb⟩; obtain ⟨Av, cv, ev⟩ := Kd.R_slice hG.row; generalize (gridArcs a0_0 a3 a0_1 a1 a2 l0_2).length = nv at ev; subst ev; have NBr := am_ (show gr ≠ gg from fun e_ => absurd hG.ge (by rw [← e_]; exact Nat.not_le_of_lt (blk_lt BKr.out))); have n0_ := am_ (((hG.apart (blk_lt BKr.out)).lower (below_size HB.out))); have n1_ := am_ (below_step HB.out hb); have n2_ := am_ (blk_below BKr.out hb); clear HB BKn BKr zn0 zn1 zn2 zr0 zr1 zr2 yr0 yr1 yr2 hb hG; have HG := n0_; have HB := n1_; have BKr := n2_; clear n0_ n1_ n2_; have zg0 : w5.cell? ⟨gg, 0, none⟩ = some (.int .i64 ((a3 + 1) * a0_0 + 2)) := (blk_cell HG.out.blk 0).trans rfl; have zg1 : w5.cell? ⟨gg, 1, none⟩ = some (.bool false) := (blk_cell HG.out.blk 1).trans rfl; have zg2 : w5.cell? ⟨gg, 2, none⟩ = some (.slice Av nv cv) := (blk_cell HG.out.blk 2).trans rfl; have zr0 : w5.cell? ⟨gr, 0, none⟩ = some (.int .i64 0) := (blk_cell BKr.out 0).trans rfl; have zr1 : w5.cell? ⟨gr, 1, none⟩ = some (.bool false) := (blk_cell BKr.out 1).trans rfl; have zr2 : w5.cell? ⟨gr, 2, none⟩ = some (.slice none 0 0) := (blk_cell BKr.out 2).trans rfl; have yr0 := blk_frozen BKr.out 0; have yr1 := blk_frozen BKr.out 1; have yr2 := blk_frozen BKr.out 2))
  refine bodyPost_ret (results_ct rfl _ _ gr 24 #[.int .i64 ((a3 + 1) * a0_0 + 2), .bool false, .slice Av nv cv] (0, 0) _ rfl (blk_put (cs' := #[.int .i64 ((a3 + 1) * a0_0 + 2), .bool false, .slice Av nv cv]) (blk_put (cs' := #[.int .i64 ((a3 + 1) * a0_0 + 2), .bool false, .slice none 0 0]) (blk_put (cs' := #[.int .i64 ((a3 + 1) * a0_0 + 2), .bool false, .slice none 0 0]) BKr.out 0 (.int .i64 ((a3 + 1) * a0_0 + 2)) rfl) 1 (.bool false) rfl) 2 (.slice Av nv cv) rfl) Try.underlying24 rfl (by kernel_rfl)) rfl ?_
  exact ⟨_, rfl, Kd.R_mono (Kd.R_far (p := ⟨gr, 2, none⟩) (Kd.R_far (p := ⟨gr, 1, none⟩) (Kd.R_far (p := ⟨gr, 0, none⟩) HG.out.row (fun _ hk => hk.1.2) _) (fun _ hk => hk.1.2) _) (fun _ hk => hk.1.2) _) (fun _ _ => trivial), below_set (below_set (below_set HB.out GEr.out) GEr.out) GEr.out⟩
 ·rw [if_neg c] at h
  simp only [Option.some.injEq, Prod.mk.injEq] at h
  obtain ⟨rfl, rfl, rfl, rfl⟩ := h
  have c1 : (e == 0) = false := beq_eq_false_iff_ne.2 c
  have c2 : (e != 0) = true := bne_iff_ne.2 c
  clear c
  have HOK := am_ (trivial : True)
  have HEN := HOK
  go_enter Try.func17, Try.ntmps17
  go_wp2_with (first
   | ((with_reducible refine gate_dst (N := 4) rfl ?_); refine box_event ?hg (N := 4) ?hd (cs := #[.int .i64 a0_0, .bool a0_1, .slice A0_2 l0_2.length c0_2]) (t := 24) ?hr ?_; (case hd => rfl); (case hg => rfl); (case hr => first | (go_simp; done) | (go_simp; rfl)); intro gn hg w2 hbox hb; replace HB := am_ (below_step HB.out hb); have BKn := am_ hbox; clear hb hbox hg)
   | ((with_reducible refine gate_dst (N := 8) rfl ?_); refine box_event ?hg (N := 8) ?hd (cs := #[.int .i64 0, .bool false, .slice none 0 0]) (t := 24) ?hr ?_; (case hd => rfl); (case hg => rfl); (case hr => first | (go_simp; done) | (go_simp; rfl)); intro gr hg w3 hbox hb; have n0_ := am_ (below_step HB.out hb); have n1_ := am_ hbox; have n2_ := am_ (blk_below BKn.out hb); have n3_ := am_ (by rw [hg]; exact below_size HB.out : w.heap.size ≤ gr); clear HB BKn; have HB := n0_; have BKr := n1_; have BKn := n2_; have GEr := n3_; clear n0_ n1_ n2_ n3_; clear hb hbox hg; have zn0 : w3.cell? ⟨gn, 0, none⟩ = some (.int .i64 a0_0) := (blk_cell BKn.out 0).trans rfl; have zn1 : w3.cell? ⟨gn, 1, none⟩ = some (.bool a0_1) := (blk_cell BKn.out 1).trans rfl; have zn2 : w3.cell? ⟨gn, 2, none⟩ = some (.slice A0_2 l0_2.length c0_2) := (blk_cell BKn.out 2).trans rfl)
   | (go_at_call 38; (with_reducible refine (expand_Asked.calls k a0_0 a0_1 A0_2 c0_2 l0_2 a1 a2 a3 e _ ?side12 HC0.out HE.out).mono ?_); (case side12 => exact (Kd.C_below HR0.out HB.out)); rintro e4 w4 ⟨rfl, hb⟩; have n0_ := am_ (below_step HB.out hb); have n1_ := am_ (blk_below BKn.out hb); have n2_ := am_ (blk_below BKr.out hb); clear HB BKn BKr zn0 zn1 zn2 hb; have HB := n0_; have BKn := n1_; have BKr := n2_; clear n0_ n1_ n2_; have zn0 : w4.cell? ⟨gn, 0, none⟩ = some (.int .i64 a0_0) := (blk_cell BKn.out 0).trans rfl; have zn1 : w4.cell? ⟨gn, 1, none⟩ = some (.bool a0_1) := (blk_cell BKn.out 1).trans rfl; have zn2 : w4.cell? ⟨gn, 2, none⟩ = some (.slice A0_2 l0_2.length c0_2) := (blk_cell BKn.out 2).trans rfl; have zr0 : w4.cell? ⟨gr, 0, none⟩ = some (.int .i64 0) := (blk_cell BKr.out 0).trans rfl; have zr1 : w4.cell? ⟨gr, 1, none⟩ = some (.bool false) := (blk_cell BKr.out 1).trans rfl; have zr2 : w4.cell? ⟨gr, 2, none⟩ = some (.slice none 0 0) := (blk_cell BKr.out 2).trans rfl; have yr0 := blk_frozen BKr.out 0; have yr1 := blk_frozen BKr.out 1; have yr2 := blk_frozen BKr.out 2)
   | (go_at_call 39; refine (expand_Of.calls a0_0 a3 a1 a2 a0_1 A0_2 c0_2 l0_2 _ (Kd.C_below HR0.out HB.out) HC0.out HOK.out HEN.out.1 HEN.out.2.1 HEN.out.2.2.1 HEN.out.2.2.2).mono ?_; rintro e5 w5 ⟨gg, v, m1, m2, m3, m4, rfl, hG, hb⟩; obtain ⟨Av, cv, ev⟩ := Kd.R_slice hG.row; generalize (gridArcs a0_0 a3 a0_1 a1 a2 l0_2).length = nv at ev; subst ev; have NBr := am_ (show gr ≠ gg from fun e_ => absurd hG.ge (by rw [← e_]; exact Nat.not_le_of_lt (blk_lt BKr.out))); have n0_ := am_ (((hG.apart (blk_lt BKr.out)).lower (below_size HB.out))); have n1_ := am_ (below_step HB.out hb); have n2_ := am_ (blk_below BKr.out hb); clear HB BKn BKr zn0 zn1 zn2 zr0 zr1 zr2 yr0 yr1 yr2 hb hG; have HG := n0_; have HB := n1_; have BKr := n2_; clear n0_ n1_ n2_; have zg0 : w5.cell? ⟨gg, 0, none⟩ = some (.int .i64 ((a3 + 1) * a0_0 + 2)) := (blk_cell HG.out.blk 0).trans rfl; have zg1 : w5.cell? ⟨gg, 1, none⟩ = some (.bool false) := (blk_cell HG.out.blk 1).trans rfl; have zg2 : w5.cell? ⟨gg, 2, none⟩ = some (.slice Av nv cv) := (blk_cell HG.out.blk 2).trans rfl; have zr0 : w5.cell? ⟨gr, 0, none⟩ = some (.int .i64 0) := (blk_cell BKr.out 0).trans rfl; have zr1 : w5.cell? ⟨gr, 1, none⟩ = some (.bool false) := (blk_cell BKr.out 1).trans rfl; have zr2 : w5.cell? ⟨gr, 2, none⟩ = some (.slice none 0 0) := (blk_cell BKr.out 2).trans rfl; have yr0 := blk_frozen BKr.out 0; have yr1 := blk_frozen BKr.out 1; have yr2 := blk_frozen BKr.out 2))
  refine bodyPost_ret (results_ct rfl _ _ gr 24 #[.int .i64 0, .bool false, .slice none 0 0] (0, 0) _ rfl (blk_put (cs' := #[.int .i64 0, .bool false, .slice none 0 0]) (blk_put (cs' := #[.int .i64 0, .bool false, .slice none 0 0]) (blk_put (cs' := #[.int .i64 0, .bool false, .slice none 0 0]) BKr.out 0 (.int .i64 0) rfl) 1 (.bool false) rfl) 2 (.slice none 0 0) rfl) Try.underlying24 rfl (by kernel_rfl)) rfl ?_
  exact ⟨_, rfl, Kd.R_nil _ _ _ _ _, below_set (below_set (below_set HB.out GEr.out) GEr.out) GEr.out⟩
end Go.Proofs.Ytfhkkbpkajfdlaa.Q
end
section
namespace Go.Proofs.Ytfhkkbpkajfdlaa.Q
open Go.RowKit Go.Proofs.YtfhkkbpkajfdlaaW.PrintWords Go.Proofs.YtfhkkbpkajfdlaaW.PrintLast Go.Proofs.YtfhkkbpkajfdlaaW.PrintMore
def cmp_Or_int.l0 : Nat → Int → List Int → Int → Int → Option (Int)
 | 0, _, _, _, _ => none
 | k + 1, x3, x6, x7, x8 => if x8 < x7 then (if 0 ≤ x8 then (if x8 < (x6.length : Int) then (if (rd x6 x8) = x3 then (cmp_Or_int.l0 k x3 x6 x7 (wrap64 (x8 + 1))) else (some (rd x6 x8))) else (none)) else (none)) else (some x3)
def cmp_Or_int.f (k : Nat) (l0 : List Int) : Option (Int) := cmp_Or_int.l0 k 0 l0 (l0.length : Int) 0
set_option maxHeartbeats 8000000 in
set_option maxRecDepth 100000 in
theorem cmp_Or_int.calls (k : Nat) (A0 : Option Addr) (c0 : Nat) (l0 : List Int) (r : Int) (w : World) (hr0 : Kd.C (Kd.int .i64) w A0 l0.length l0) (hc0 : l0.length ≤ c0) (h : cmp_Or_int.f k l0 = some r) :
  Calls Try.prog 80 #[.slice A0 l0.length c0] w fun e w' => e = .returned (.int .i64 r) ∧ Drawn0 w w' := by
 have HR0 := am_ hr0; have HC0 := am_ hc0; clear hr0 hc0; have H : (cmp_Or_int.l0 k 0 l0 (l0.length : Int) 0) = some r := h; clear h; have H' := am_ H; clear H
 go_enter Try.func80, Try.ntmps80
 go_wp2
 go_loopg [8] k (fun kq v8 w' => ∃ (x8_1 : Int), v8 = .int .i64 x8_1 ∧ Aside0 (cmp_Or_int.l0 kq 0 l0 (l0.length : Int) x8_1 = some r) ∧ Aside0 (kq ≤ k) ∧ Drawn0 w w')
 case atStart => exact ⟨(0), rs_, H', ⟨Nat.le_refl _⟩, by repeat (first | exact Drawn0.refl _ | apply Drawn0.step)⟩
 case round =>
  clear H'; obtain ⟨x8_1, rfl, HA, HK1, ⟨m1, rfl⟩⟩ := hrel
  cases gk with
  | zero => exact absurd HA.out (by simp [cmp_Or_int.l0])
  | succ k1 =>
   have H := HA.out; clear HA; simp only [cmp_Or_int.l0] at H
   by_cases c2 : x8_1 < (l0.length : Int)
   ·rw [if_pos c2] at H
    have c2b0 := decide_eq_true c2; clear c2
    replace H := ifn_ H; obtain ⟨c3, H⟩ := H
    have c3b0 := decide_eq_true c3; clear c3
    replace H := ifn_ H; obtain ⟨c4, H⟩ := H
    have c4b0 := decide_eq_true c4; clear c4
    by_cases c5 : (rd l0 x8_1) = 0
    ·rw [if_pos c5] at H
     obtain ⟨c5b0, c5b1⟩ := eqb_ c5; clear c5; have H' := am_ H; clear H; have p102 : 0 ≤ (x8_1 : Int) := of_decide_eq_true sm_; have q102 : x8_1 < (l0.length : Int) := of_decide_eq_true sm_; obtain ⟨ad102, e102, hx102_0⟩ := Kd.at_int HR0.out x8_1 p102 q102; cases e102; replace p102 := eq_true p102; replace q102 := eq_true q102
     go_wp2
     go_roundg k1
     case measure => have := HK1.out; omega
     case rel => exact ⟨(wrap64 (x8_1 + 1)), rs_, H', ⟨by have := HK1.out; omega⟩, by repeat (first | exact Drawn0.refl _ | apply Drawn0.step)⟩
    ·rw [if_neg c5] at H
     obtain ⟨c5b0, c5b1⟩ := neb_ c5; obtain rfl := Option.some.inj H; have p102 : 0 ≤ (x8_1 : Int) := of_decide_eq_true sm_; have q102 : x8_1 < (l0.length : Int) := of_decide_eq_true sm_; obtain ⟨ad102, e102, hx102_0⟩ := Kd.at_int HR0.out x8_1 p102 q102; cases e102; replace p102 := eq_true p102; replace q102 := eq_true q102
     go_wp2
     go_ret
     exact ⟨by first | rfl | (simp; done) | (simp [*]; done), by repeat (first | exact Drawn0.refl _ | apply Drawn0.step)⟩
   ·rw [if_neg c2] at H
    have c2b0 := decide_eq_false c2; clear c2; obtain rfl := Option.some.inj H
    go_wp2
    go_ret
    exact ⟨by first | rfl | (simp; done) | (simp [*]; done), by repeat (first | exact Drawn0.refl _ | apply Drawn0.step)⟩
def cmp_isNaN_int.f (a0 : Int) : Option (Bool) := some (a0 != a0)
set_option maxHeartbeats 8000000 in
set_option maxRecDepth 100000 in
theorem cmp_isNaN_int.calls (a0 : Int) (r : Bool) (w : World) (h : cmp_isNaN_int.f a0 = some r) :
  Calls Try.prog 91 #[.int .i64 a0] w fun e w' => e = .returned (.bool r) ∧ Drawn0 w w' := by
 have H : (some (a0 != a0)) = some r := h; clear h; obtain rfl := Option.some.inj H
 go_enter Try.func91, Try.ntmps91
 go_wp2
 go_ret
 exact ⟨by first | rfl | (simp; done) | (simp [*]; done), by repeat (first | exact Drawn0.refl _ | apply Drawn0.step)⟩
def cmp_Compare_int.f (a0 : Int) (a1 : Int) : Option (Int) := (cmp_isNaN_int.f a0).bind fun t103 => ((cmp_isNaN_int.f a1).bind fun t104 => (if t103 = true then (if t104 = true then (some 0) else (some (-1))) else (if t104 = true then (some 1) else (if a0 < a1 then (some (-1)) else (if a0 > a1 then (some 1) else (some 0))))))
set_option maxHeartbeats 8000000 in
set_option maxRecDepth 100000 in
theorem cmp_Compare_int.calls (a0 : Int) (a1 : Int) (r : Int) (w : World) (h : cmp_Compare_int.f a0 a1 = some r) :
  Calls Try.prog 81 #[.int .i64 a0, .int .i64 a1] w fun e w' => e = .returned (.int .i64 r) ∧ Drawn0 w w' := by
 have H : ((cmp_isNaN_int.f a0).bind fun t103 => ((cmp_isNaN_int.f a1).bind fun t104 => (if t103 = true then (if t104 = true then (some 0) else (some (-1))) else (if t104 = true then (some 1) else (if a0 < a1 then (some (-1)) else (if a0 > a1 then (some 1) else (some 0))))))) = some r := h; clear h; replace H := Option.bind_eq_some_iff.mp H; obtain ⟨t103, A30, H⟩ := H; replace H : ((cmp_isNaN_int.f a1).bind fun t104 => (if t103 = true then (if t104 = true then (some 0) else (some (-1))) else (if t104 = true then (some 1) else (if a0 < a1 then (some (-1)) else (if a0 > a1 then (some 1) else (some 0)))))) = some r := H; have A3 := am_ A30; clear A30; replace H := Option.bind_eq_some_iff.mp H; obtain ⟨t104, A40, H⟩ := H; replace H : (if t103 = true then (if t104 = true then (some 0) else (some (-1))) else (if t104 = true then (some 1) else (if a0 < a1 then (some (-1)) else (if a0 > a1 then (some 1) else (some 0))))) = some r := H; have A4 := am_ A40; clear A40
 by_cases c5 : t103 = true
 ·subst c5
  have H1 : (if t104 = true then (some 0) else (some (-1))) = some r := by rw [if_pos rfl] at H; exact H
  clear H; have H := H1; clear H1
  by_cases c6 : t104 = true
  ·subst c6
   have H1 : (some 0) = some r := by rw [if_pos rfl] at H; exact H
   clear H; have H := H1; clear H1; obtain rfl := Option.some.inj H
   go_enter Try.func81, Try.ntmps81
   go_wp2_with (first | ((with_reducible refine gate_callee (f := 91) rfl ?_); refine cl_ 8 Try.func91 (cmp_isNaN_int.calls a0 true _ A3.out) ?_; rintro e w' ⟨rfl, ⟨nd, rfl⟩⟩; refine ⟨_, rfl, ?_⟩) | ((with_reducible refine gate_callee (f := 91) rfl ?_); refine cl_ 10 Try.func91 (cmp_isNaN_int.calls a1 true _ A4.out) ?_; rintro e w' ⟨rfl, ⟨nd, rfl⟩⟩; refine ⟨_, rfl, ?_⟩))
   go_ret
   exact ⟨by first | rfl | (simp; done) | (simp [*]; done), by repeat (first | exact Drawn0.refl _ | apply Drawn0.step)⟩
  ·replace c6 := Bool.eq_false_iff.mpr c6
   subst c6
   have H1 : (some (-1)) = some r := by rw [if_neg (show ¬ (false = true) by decide)] at H; exact H
   clear H; have H := H1; clear H1; obtain rfl := Option.some.inj H
   go_enter Try.func81, Try.ntmps81
   go_wp2_with (first | ((with_reducible refine gate_callee (f := 91) rfl ?_); refine cl_ 8 Try.func91 (cmp_isNaN_int.calls a0 true _ A3.out) ?_; rintro e w' ⟨rfl, ⟨nd, rfl⟩⟩; refine ⟨_, rfl, ?_⟩) | ((with_reducible refine gate_callee (f := 91) rfl ?_); refine cl_ 10 Try.func91 (cmp_isNaN_int.calls a1 false _ A4.out) ?_; rintro e w' ⟨rfl, ⟨nd, rfl⟩⟩; refine ⟨_, rfl, ?_⟩))
   go_ret
   exact ⟨by first | rfl | (simp; done) | (simp [*]; done), by repeat (first | exact Drawn0.refl _ | apply Drawn0.step)⟩
 ·replace c5 := Bool.eq_false_iff.mpr c5
  subst c5
  have H1 : (if t104 = true then (some 1) else (if a0 < a1 then (some (-1)) else (if a0 > a1 then (some 1) else (some 0)))) = some r := by rw [if_neg (show ¬ (false = true) by decide)] at H; exact H
  clear H; have H := H1; clear H1
  by_cases c7 : t104 = true
  ·subst c7
   have H1 : (some 1) = some r := by rw [if_pos rfl] at H; exact H
   clear H; have H := H1; clear H1; obtain rfl := Option.some.inj H
   go_enter Try.func81, Try.ntmps81
   go_wp2_with (first | ((with_reducible refine gate_callee (f := 91) rfl ?_); refine cl_ 8 Try.func91 (cmp_isNaN_int.calls a0 false _ A3.out) ?_; rintro e w' ⟨rfl, ⟨nd, rfl⟩⟩; refine ⟨_, rfl, ?_⟩) | ((with_reducible refine gate_callee (f := 91) rfl ?_); refine cl_ 10 Try.func91 (cmp_isNaN_int.calls a1 true _ A4.out) ?_; rintro e w' ⟨rfl, ⟨nd, rfl⟩⟩; refine ⟨_, rfl, ?_⟩))
   go_ret
   exact ⟨by first | rfl | (simp; done) | (simp [*]; done), by repeat (first | exact Drawn0.refl _ | apply Drawn0.step)⟩
  ·replace c7 := Bool.eq_false_iff.mpr c7
   subst c7
   have H1 : (if a0 < a1 then (some (-1)) else (if a0 > a1 then (some 1) else (some 0))) = some r := by rw [if_neg (show ¬ (false = true) by decide)] at H; exact H
   clear H; have H := H1; clear H1
   by_cases c8 : a0 < a1
   ·rw [if_pos c8] at H
    have c8b0 := decide_eq_true c8; clear c8; obtain rfl := Option.some.inj H
    go_enter Try.func81, Try.ntmps81
    go_wp2_with (first | ((with_reducible refine gate_callee (f := 91) rfl ?_); refine cl_ 8 Try.func91 (cmp_isNaN_int.calls a0 false _ A3.out) ?_; rintro e w' ⟨rfl, ⟨nd, rfl⟩⟩; refine ⟨_, rfl, ?_⟩) | ((with_reducible refine gate_callee (f := 91) rfl ?_); refine cl_ 10 Try.func91 (cmp_isNaN_int.calls a1 false _ A4.out) ?_; rintro e w' ⟨rfl, ⟨nd, rfl⟩⟩; refine ⟨_, rfl, ?_⟩))
    go_ret
    exact ⟨by first | rfl | (simp; done) | (simp [*]; done), by repeat (first | exact Drawn0.refl _ | apply Drawn0.step)⟩
   ·rw [if_neg c8] at H
    have c8b0 := decide_eq_false c8; clear c8
    by_cases c9 : a0 > a1
    ·rw [if_pos c9] at H
     have c9b0 := decide_eq_true c9; clear c9; obtain rfl := Option.some.inj H
     go_enter Try.func81, Try.ntmps81
     go_wp2_with (first | ((with_reducible refine gate_callee (f := 91) rfl ?_); refine cl_ 8 Try.func91 (cmp_isNaN_int.calls a0 false _ A3.out) ?_; rintro e w' ⟨rfl, ⟨nd, rfl⟩⟩; refine ⟨_, rfl, ?_⟩) | ((with_reducible refine gate_callee (f := 91) rfl ?_); refine cl_ 10 Try.func91 (cmp_isNaN_int.calls a1 false _ A4.out) ?_; rintro e w' ⟨rfl, ⟨nd, rfl⟩⟩; refine ⟨_, rfl, ?_⟩))
     go_ret
     exact ⟨by first | rfl | (simp; done) | (simp [*]; done), by repeat (first | exact Drawn0.refl _ | apply Drawn0.step)⟩
    ·rw [if_neg c9] at H
     have c9b0 := decide_eq_false c9; clear c9; obtain rfl := Option.some.inj H
     go_enter Try.func81, Try.ntmps81
     go_wp2_with (first | ((with_reducible refine gate_callee (f := 91) rfl ?_); refine cl_ 8 Try.func91 (cmp_isNaN_int.calls a0 false _ A3.out) ?_; rintro e w' ⟨rfl, ⟨nd, rfl⟩⟩; refine ⟨_, rfl, ?_⟩) | ((with_reducible refine gate_callee (f := 91) rfl ?_); refine cl_ 10 Try.func91 (cmp_isNaN_int.calls a1 false _ A4.out) ?_; rintro e w' ⟨rfl, ⟨nd, rfl⟩⟩; refine ⟨_, rfl, ?_⟩))
     go_ret
     exact ⟨by first | rfl | (simp; done) | (simp [*]; done), by repeat (first | exact Drawn0.refl _ | apply Drawn0.step)⟩
end Go.Proofs.Ytfhkkbpkajfdlaa.Q
end
section
namespace Go.Proofs.Ytfhkkbpkajfdlaa.Q
open Go.RowKit Go.Proofs.YtfhkkbpkajfdlaaW.PrintWords Go.Proofs.YtfhkkbpkajfdlaaW.PrintLast Go.Proofs.YtfhkkbpkajfdlaaW.PrintMore
attribute [local go_sem] max2_int min2_int max_two min_two min_four
def table_Moves_3.f (k : Nat) (a0_0 : Int) (a0_1 : Int) (a0_2 : Int) (a1_0 : Int) (a1_1 : Int) (a1_2 : Int) : Option (Int) := (cmp_Compare_int.f a0_1 a1_1).bind fun t107 => ((cmp_Compare_int.f a0_0 a1_0).bind fun t108 => ((cmp_Or_int.f k (([t107, t108] : List Int))).bind fun t112 => (some t112)))
def table_Moves_3.T1 : Bool × List (List Nat × List Nat) := (true, [([], []), ([0], [0]), ([], []), ([2], [2]), ([1, 3], [1, 3]), ([], []), ([5], [5]), ([], []), ([7], [7]), ([6, 8, 4], [6, 8]), ([4, 9], [4, 9]), ([10, 9], [10]), ([11, 11, 0, 1, 2, 3, 4, 5, 6, 7, 8, 9, 10, 11], [11])])
def table_Moves_3.B1 : List Nat := [0, 1, 0, 4, 15, 0, 32, 0, 128, 511, 1023, 2047, 4095]
theorem table_Moves_3.tab1 : rtab .any (opsOf Try.f79 1) = table_Moves_3.T1 := by kernel_rfl
theorem table_Moves_3.bits1 : waitsOk table_Moves_3.T1.2 table_Moves_3.B1 = true := by kernel_rfl
end Go.Proofs.Ytfhkkbpkajfdlaa.Q
end
section
namespace Go.Proofs.Ytfhkkbpkajfdlaa.Q
open Go.RowKit Go.Proofs.YtfhkkbpkajfdlaaW.PrintWords Go.Proofs.YtfhkkbpkajfdlaaW.PrintLast Go.Proofs.YtfhkkbpkajfdlaaW.PrintMore
def BelowD (B : Nat) (w w' : World) : Prop := Below B w w' ∧ w.drawn ≤ w'.drawn
theorem BelowD.refl (B : Nat) (w : World) : BelowD B w w := ⟨Below.refl _ _, Nat.le_refl _⟩
theorem belowD_size {w W : World} (h : BelowD w.heap.size w W) : w.heap.size ≤ W.heap.size := h.1.size
theorem belowD_alloc {w W : World} (h : BelowD w.heap.size w W) (o : Obj) : BelowD w.heap.size w (W.alloc o) := ⟨below_alloc h.1 o, h.2⟩
theorem pw_belowD_drewN {B : Nat} {w W : World} (h : BelowD B w W) (n : Nat) : BelowD B w (W.drewN n) := ⟨pw_below_drewN h.1 n, Nat.le_trans h.2 (Nat.le_add_right _ _)⟩
theorem belowD_drew1 {base : Nat} {w W : World} (h : BelowD base w W) : BelowD base w W.drew := ⟨below_drew1 h.1, Nat.le_trans h.2 (Nat.le_add_right _ _)⟩
theorem setCell_drawn (W : World) (p : Addr) (v : Value) : (W.setCell p v).drawn = W.drawn := by
 unfold World.setCell
 split <;> rfl
theorem belowD_set {w W : World} {g j : Nat} {v : Value} (h : BelowD w.heap.size w W) (hg : w.heap.size ≤ g) : BelowD w.heap.size w (W.setCell ⟨g, j, none⟩ v) := ⟨below_set h.1 hg, by rw [setCell_drawn]; exact h.2⟩
theorem belowD_step {w W w2 : World} (h : BelowD w.heap.size w W) (k : BelowD W.heap.size W w2) : BelowD w.heap.size w w2 := ⟨below_step h.1 k.1, Nat.le_trans h.2 k.2⟩
theorem BelowD.grow {w w' : World} (h : BelowD w.heap.size w w') : ∃ q os', w' = Go.Sort.grow (w.drewN q) os' := by
 obtain ⟨⟨h1, h2, h3, h4, h5⟩, hd⟩ := h
 refine ⟨w'.drawn - w.drawn, w'.heap.extract w.heap.size w'.heap.size, ?_⟩
 obtain ⟨hp, tp, dr, os, ou⟩ := w'
 obtain ⟨hp0, tp0, dr0, os0, ou0⟩ := w
 simp only at h1 h2 h3 h4 h5 hd
 subst h1 h2 h3
 unfold Go.Sort.grow World.drewN
 simp only [World.mk.injEq, and_true, true_and]
 refine ⟨?_, by omega⟩
 apply Array.ext_getElem?
 intro i
 by_cases hi : i < hp0.size
 ·rw [h5 i hi, Array.getElem?_append_left hi]
 ·rw [Array.getElem?_append_right (by omega)]
  by_cases h2 : i < hp.size
  ·rw [Array.getElem?_eq_getElem h2, Array.getElem?_eq_getElem (by simp; omega)]
   simp [Array.getElem_extract, show hp0.size + (i - hp0.size) = i from by omega]
  ·rw [Array.getElem?_eq_none (by omega), Array.getElem?_eq_none (by simp; omega)]
section
variable {P : Program} {ops : Array Oper} {rest : List Oper} {o : Oper} {a : Act} {Q : Exit → Act → World → Prop}
theorem box_eventD {W : World} (hgd : o.guard = none) {N : Tmp} (_hd : o.dst = some N) {cs : Array Value} {t : TypeId}
 (hrun : (execOp a.eval o).run P W = .ok (.value (.pointer (some ⟨W.heap.size, 0, none⟩))) (W.alloc (.cells cs t (0, 0))))
 (h : ∀ g, g = W.heap.size → ∀ w1, w1.heap[g]? = some (.cells cs t (0, 0)) → BelowD W.heap.size W w1 → wpList P ops Q rest (a.put o.dst (.pointer (some ⟨g, 0, none⟩))) w1) : wpList P ops Q (o :: rest) a W :=
 Kd.event_run hgd hrun (h _ rfl _ (blk_new W _) (belowD_alloc (BelowD.refl _ _) _))
end
section
variable {P : Program} {ops : Array Oper} {o : Oper} {a : Act} {Q : Exit → Act → World → Prop} {Kc : Act → World → Prop} {α : Type}
theorem R_lit_stepD (d : Kd α) {W : World} (e : Nat) (hw : Region.wanted o (yielded ops a.tmps) = true) {N : Tmp} (hd : o.dst = some N) {xs : List α} {inner : List Value} {ok okp : Nat → Prop}
 (hrun : (execOp a.eval o).run P W = .ok (.value (.slice (some ⟨W.heap.size, 0, none⟩) xs.length xs.length)) (W.alloc (.cells inner.toArray e)))
 (hrep : Reps (d.M W W.heap.size okp) d.sz xs inner) (hok : ∀ k, okp k → ok k) (hfresh : ok W.heap.size) (HB : Below W.heap.size W W) (hbase : W.heap.size ≤ W.heap.size) (hm : xs.length ≤ 9223372036854775807)
 (h : ∀ v1 w1, d.R e w1 W.heap.size ok v1 xs → BelowD W.heap.size W w1 → W.grownBy w1 none → (∃ b, v1.ownBlock = some b ∧ W.heap.size ≤ b) → Kc (a.put o.dst v1) w1) : if Region.wanted o (yielded ops a.tmps) = true then Oper.wp P o a W Kc Q else Kc (a.put o.dst undef) W := by
 refine event_step hw hrun (h _ _ ⟨fun k hk => ?_, inner, ?_, ?_⟩ (belowD_alloc (BelowD.refl _ _) _) (World.grownBy_alloc W _ none) ⟨W.heap.size, by simp [Value.ownBlock], Nat.le_refl _⟩)
 ·have : W.heap.size = k := by simpa [Value.ownBlock] using hk
  subst this
  exact hfresh
 ·have h2 := World.ownsRow_lit (base := W.heap.size) (e := e) (size := d.sz) W inner.toArray xs.length hbase (by simpa [maxLen] using hm) (by simpa using hrep.1)
  simpa using h2
 ·refine hrep.imp_ (fun p c hp => d.M_mono (fun k hk => ⟨hok k hk.1, fun he => ?_⟩) (Kd.M_below (d.M_bound hp) (below_alloc (Below.refl _ _) _)))
  have h3 : k = W.heap.size := by simpa [Value.ownBlock] using he
  have := hk.2.2.1
  omega
end
set_option maxHeartbeats 8000000 in
set_option maxRecDepth 100000 in
theorem table_Moves_3.callsD (k : Nat) (a0_0 : Int) (a0_1 : Int) (a0_2 : Int) (a1_0 : Int) (a1_1 : Int) (a1_2 : Int) (r : Int) (w : World) (h : table_Moves_3.f k a0_0 a0_1 a0_2 a1_0 a1_1 a1_2 = some r) :
 Calls Try.prog 79 #[.agg #[.int .i64 a0_0, .int .i64 a0_1, .int .i64 a0_2], .agg #[.int .i64 a1_0, .int .i64 a1_1, .int .i64 a1_2]] w fun e w' => e = .returned (.int .i64 r) ∧ BelowD w.heap.size w w' := by
 have hu85 := Try.underlying85
 have HB := am_ (BelowD.refl w.heap.size w)
 have H : ((cmp_Compare_int.f a0_1 a1_1).bind fun t107 => ((cmp_Compare_int.f a0_0 a1_0).bind fun t108 => ((cmp_Or_int.f k (([t107, t108] : List Int))).bind fun t112 => (some t112)))) = some r := h
 clear h
 replace H := Option.bind_eq_some_iff.mp H
 obtain ⟨t107, A30, H⟩ := H
 replace H : ((cmp_Compare_int.f a0_0 a1_0).bind fun t108 => ((cmp_Or_int.f k (([t107, t108] : List Int))).bind fun t112 => (some t112))) = some r := H
 have A3 := am_ A30
 clear A30
 replace H := Option.bind_eq_some_iff.mp H
 obtain ⟨t108, A40, H⟩ := H
 replace H : ((cmp_Or_int.f k (([t107, t108] : List Int))).bind fun t112 => (some t112)) = some r := H
 have A4 := am_ A40
 clear A40
 obtain ⟨y109, hy109⟩ : ∃ y_ : List Int, y_ = (([t107, t108] : List Int)) := ⟨_, rfl⟩
 replace H : ((cmp_Or_int.f k y109).bind fun t112 => (some t112)) = some r := by first | (rw [hy109]; with_reducible exact H) | (have H2_ := (Option.bind_some _ _).symm.trans H; rw [hy109]; with_reducible exact H2_) | (have H2_ := (Option.bind_some _ _).symm.trans H; with_reducible exact H2_) | with_reducible exact H | (rw [hy109]; exact H) | exact H
 have Ny109 := am_ hy109
 clear hy109
 replace H := Option.bind_eq_some_iff.mp H
 obtain ⟨t112, A50, H⟩ := H
 replace H : (some t112) = some r := H
 have A5 := am_ A50
 clear A50
 obtain rfl := Option.some.inj H
 go_enter Try.func79, Try.ntmps79
 try go_wp2_with (first | ((with_reducible refine gate_dst (N := 2) rfl ?_); refine box_eventD ?hg (N := 2) ?hd (cs := #[.int .i64 a0_0, .int .i64 a0_1, .int .i64 a0_2]) (t := 85) ?hr ?_; (case hd => rfl); (case hg => rfl); (case hr => first | (go_simp; done) | (go_simp; rfl)); intro gb105 hg w6 hbox hb; have BK105 := am_ (hbox); have GE105 := am_ ((by rw [hg]; exact (belowD_size (by repeat (first | (with_reducible first | exact HB.out | apply belowD_alloc | apply pw_belowD_drewN | apply belowD_drew1) | exact HB.out))) : w.heap.size ≤ gb105)); replace HB := am_ (belowD_step (by repeat (first | (with_reducible first | exact HB.out | apply belowD_alloc | apply pw_belowD_drewN | apply belowD_drew1) | exact HB.out)) hb); clear hb hbox hg) | ((with_reducible refine gate_dst (N := 3) rfl ?_); refine box_eventD ?hg (N := 3) ?hd (cs := #[.int .i64 a1_0, .int .i64 a1_1, .int .i64 a1_2]) (t := 85) ?hr ?_; (case hd => rfl); (case hg => rfl); (case hr => first | (go_simp; done) | (go_simp; rfl)); intro gb106 hg w7 hbox hb; have BK106 := am_ (hbox); have GE106 := am_ ((by rw [hg]; exact (belowD_size (by repeat (first | (with_reducible first | exact HB.out | apply belowD_alloc | apply pw_belowD_drewN | apply belowD_drew1 | refine belowD_set ?_ GE105.out) | exact HB.out))) : w.heap.size ≤ gb106)); replace HB := am_ (belowD_step (by repeat (first | (with_reducible first | exact HB.out | apply belowD_alloc | apply pw_belowD_drewN | apply belowD_drew1 | refine belowD_set ?_ GE105.out) | exact HB.out)) hb); have NB105_106 := am_ (nl_ BK105.out hg); have NB106_105 := am_ (ng_ BK105.out hg); replace BK105 := am_ (bb_ BK105.out hb.1); clear hb hbox hg))
 have n0_ := am_ (blk_drew BK105.out)
 have n1_ := am_ (blk_drew BK106.out)
 have n2_ := am_ (belowD_drew1 HB.out)
 clear BK105
 clear BK106
 clear HB
 have BK105 := n0_
 have BK106 := n1_
 have HB := n2_
 clear n0_ n1_ n2_
 refine start_ (n := 13) (S := fun w' => w'.cell? ⟨gb105, 0, none⟩ = some (.int .i64 a0_0) ∧ w'.cell? ⟨gb105, 1, none⟩ = some (.int .i64 a0_1) ∧ w'.cell? ⟨gb105, 2, none⟩ = some (.int .i64 a0_2) ∧ w'.cell? ⟨gb106, 0, none⟩ = some (.int .i64 a1_0) ∧ w'.cell? ⟨gb106, 1, none⟩ = some (.int .i64 a1_1) ∧ w'.cell? ⟨gb106, 2, none⟩ = some (.int .i64 a1_2)) (ds := []) #[false, false, false, false, false, false, false, false, false, false, false, false, false] (by kernel_rfl) rfl rfl ⟨(blk_cell BK105.out 0).trans rfl, (blk_cell BK105.out 1).trans rfl, (blk_cell BK105.out 2).trans rfl, (blk_cell BK106.out 0).trans rfl, (blk_cell BK106.out 1).trans rfl, (blk_cell BK106.out 2).trans rfl⟩ (fun hHeld => ?_); refine with_tabW table_Moves_3.tab1 table_Moves_3.bits1 (fun HT_ HW_ => ?_)
 generalize w7.drew = w8 at BK105 BK106 HB hHeld ⊢
 refine pure_ (i := 0) (N := some 5) (v := ?_) (a' := ?_) #[true, false, false, false, false, false, false, false, false, false, false, false, false] rfl rfl (any_of HT_.out (by kernel_rfl)) (fun _ _ _ h => h) (Or.inl ⟨by rfl, ?_⟩) ?_ ?_
 rotate_left
 ·intro w'
  go_simp
  with_reducible rfl
 rotate_left
 ·simp only [Act.put, List.setIfInBounds_toArray, List.set_cons_zero, List.set_cons_succ, i64_w, i32_w]
  rfl
 refine pure_ (i := 2) (N := some 7) (v := ?_) (a' := ?_) #[true, false, true, false, false, false, false, false, false, false, false, false, false] rfl rfl (any_of HT_.out (by kernel_rfl)) (fun _ _ _ h => h) (Or.inl ⟨by rfl, ?_⟩) ?_ ?_
 rotate_left
 ·intro w'
  go_simp
  with_reducible rfl
 rotate_left
 ·simp only [Act.put, List.setIfInBounds_toArray, List.set_cons_zero, List.set_cons_succ, i64_w, i32_w]
  rfl
 refine pure_ (i := 5) (N := some 10) (v := ?_) (a' := ?_) #[true, false, true, false, false, true, false, false, false, false, false, false, false] rfl rfl (any_of HT_.out (by kernel_rfl)) (fun _ _ _ h => h) (Or.inl ⟨by rfl, ?_⟩) ?_ ?_
 rotate_left
 ·intro w'
  go_simp
  with_reducible rfl
 rotate_left
 ·simp only [Act.put, List.setIfInBounds_toArray, List.set_cons_zero, List.set_cons_succ, i64_w, i32_w]
  rfl
 refine pure_ (i := 7) (N := some 12) (v := ?_) (a' := ?_) #[true, false, true, false, false, true, false, true, false, false, false, false, false] rfl rfl (any_of HT_.out (by kernel_rfl)) (fun _ _ _ h => h) (Or.inl ⟨by rfl, ?_⟩) ?_ ?_
 rotate_left
 ·intro w'
  go_simp
  with_reducible rfl
 rotate_left
 ·simp only [Act.put, List.setIfInBounds_toArray, List.set_cons_zero, List.set_cons_succ, i64_w, i32_w]
  rfl
 refine take_ (i := 1) (N := some 6) (v := ?_) (a' := ?_) #[true, true, true, false, false, true, false, true, false, false, false, false, false] rfl rfl (take_ofW HT_.out HW_.out (by kernel_rfl)) (fun _ _ _ h => h) (Or.inl ⟨by rfl, ?_⟩) hHeld ?_ ?_
 rotate_left
 ·rintro w' ⟨s0, s1, s2, s3, s4, s5⟩
  go_simp
  with_reducible rfl
 rotate_left
 ·simp only [Act.put, List.setIfInBounds_toArray, List.set_cons_zero, List.set_cons_succ, i64_w, i32_w]
  rfl
 refine take_ (i := 3) (N := some 8) (v := ?_) (a' := ?_) #[true, true, true, true, false, true, false, true, false, false, false, false, false] rfl rfl (take_ofW HT_.out HW_.out (by kernel_rfl)) (fun _ _ _ h => h) (Or.inl ⟨by rfl, ?_⟩) hHeld ?_ ?_
 rotate_left
 ·rintro w' ⟨s0, s1, s2, s3, s4, s5⟩
  go_simp
  with_reducible rfl
 rotate_left
 ·simp only [Act.put, List.setIfInBounds_toArray, List.set_cons_zero, List.set_cons_succ, i64_w, i32_w]
  rfl
 refine take_ (i := 6) (N := some 11) (v := ?_) (a' := ?_) #[true, true, true, true, false, true, true, true, false, false, false, false, false] rfl rfl (take_ofW HT_.out HW_.out (by kernel_rfl)) (fun _ _ _ h => h) (Or.inl ⟨by rfl, ?_⟩) hHeld ?_ ?_
 rotate_left
 ·rintro w' ⟨s0, s1, s2, s3, s4, s5⟩
  go_simp
  with_reducible rfl
 rotate_left
 ·simp only [Act.put, List.setIfInBounds_toArray, List.set_cons_zero, List.set_cons_succ, i64_w, i32_w]
  rfl
 refine take_ (i := 8) (N := some 13) (v := ?_) (a' := ?_) #[true, true, true, true, false, true, true, true, true, false, false, false, false] rfl rfl (take_ofW HT_.out HW_.out (by kernel_rfl)) (fun _ _ _ h => h) (Or.inl ⟨by rfl, ?_⟩) hHeld ?_ ?_
 rotate_left
 ·rintro w' ⟨s0, s1, s2, s3, s4, s5⟩
  go_simp
  with_reducible rfl
 rotate_left
 ·simp only [Act.put, List.setIfInBounds_toArray, List.set_cons_zero, List.set_cons_succ, i64_w, i32_w]
  rfl
 refine one_ (i := 4) (N := some 9) #[true, true, true, true, true, true, true, true, true, false, false, false, false] rfl rfl (one_of HT_.out (by kernel_rfl)) (by decide) (fun K hK => ?_)
 refine goes_ Try.func81 (by kernel_rfl) rfl #[.int .i64 a0_1, .int .i64 a1_1] (by rfl) rfl rfl mt_ ?_
 with_reducible refine (cmp_Compare_int.calls a0_1 a1_1 t107 _ A3.out).mono ?_
 rintro e w' ⟨rfl, ⟨nd, rfl⟩⟩
 refine ⟨_, rfl, ?_⟩
 refine hK.out _ _ ⟨(blk_cell BK105.out 0).trans rfl, (blk_cell BK105.out 1).trans rfl, (blk_cell BK105.out 2).trans rfl, (blk_cell BK106.out 0).trans rfl, (blk_cell BK106.out 1).trans rfl, (blk_cell BK106.out 2).trans rfl⟩ (fun hHeld => ?_)
 clear hK K
 refine norm_ (a' := ?_) ?_ ?_
 rotate_left
 ·show Act.put _ (some 9) _ = _
  simp only [Act.put, List.setIfInBounds_toArray, List.set_cons_zero, List.set_cons_succ, i64_w, i32_w]
  rfl
 refine one_ (i := 9) (N := some 14) #[true, true, true, true, true, true, true, true, true, true, false, false, false] rfl rfl (one_of HT_.out (by kernel_rfl)) (by decide) (fun K hK => ?_)
 refine goes_ Try.func81 (by kernel_rfl) rfl #[.int .i64 a0_0, .int .i64 a1_0] (by rfl) rfl rfl mt_ ?_
 with_reducible refine (cmp_Compare_int.calls a0_0 a1_0 t108 _ A4.out).mono ?_
 rintro e w' ⟨rfl, ⟨nd, rfl⟩⟩
 refine ⟨_, rfl, ?_⟩
 refine hK.out _ _ ⟨(blk_cell BK105.out 0).trans rfl, (blk_cell BK105.out 1).trans rfl, (blk_cell BK105.out 2).trans rfl, (blk_cell BK106.out 0).trans rfl, (blk_cell BK106.out 1).trans rfl, (blk_cell BK106.out 2).trans rfl⟩ (fun hHeld => ?_)
 clear hK K
 refine norm_ (a' := ?_) ?_ ?_
 rotate_left
 ·show Act.put _ (some 14) _ = _
  simp only [Act.put, List.setIfInBounds_toArray, List.set_cons_zero, List.set_cons_succ, i64_w, i32_w]
  rfl
 refine one_ (i := 10) (N := some 15) #[true, true, true, true, true, true, true, true, true, true, true, false, false] rfl rfl (one_of HT_.out (by kernel_rfl)) (by decide) (fun K hK => ?_)
 refine R_lit_stepD (Kd.int .i64) 3 ?hg (N := 15) ?hd (xs := ([t107, t108] : List Int)) (inner := [.int .i64 t107, .int .i64 t108]) (ok := fun _ => True) (okp := fun _ => True) ?hr ?hp (fun _ hk => hk) trivial (Below.refl _ _) (Nat.le_refl _) (by simp) ?_; (case hd => rfl); (case hg => rfl); (case hr => first | (go_simp; done) | (go_simp; rfl)); (case hp => exact (Reps.one (show Kd.M (Kd.int .i64) _ _ _ t107 [.int .i64 t107] from rfl) (Reps.one (show Kd.M (Kd.int .i64) _ _ _ t108 [.int .i64 t108] from rfl) (Reps.none _ _))))
 intro v110 w9 ho10 hb hg_ hnew_
 clear hg_ hnew_
 (first | rw [← Ny109.out] at ho10 | (simp only [Int.reduceToNat] at ho10; rw [← Ny109.out] at ho10))
 have n0_ := am_ (Kd.R_lower ho10 (belowD_size (by repeat (first | (with_reducible first | exact HB.out | apply belowD_alloc | apply pw_belowD_drewN | apply belowD_drew1 | refine belowD_set ?_ GE105.out | refine belowD_set ?_ GE106.out) | exact HB.out))))
 have n1_ := am_ (bb_ BK105.out hb.1)
 have n2_ := am_ (bb_ BK106.out hb.1)
 have n3_ := am_ (belowD_step (by repeat (first | (with_reducible first | exact HB.out | apply belowD_alloc | apply pw_belowD_drewN | apply belowD_drew1 | refine belowD_set ?_ GE105.out | refine belowD_set ?_ GE106.out) | exact HB.out)) hb)
 clear BK105
 clear BK106
 clear HB
 have HO111 := n0_
 have BK105 := n1_
 have BK106 := n2_
 have HB := n3_
 clear n0_ n1_ n2_ n3_
 clear hb ho10
 obtain ⟨Ao11, co11, eo11⟩ := Kd.R_slice HO111.out
 (first | subst eo11 | (injection eo11 with f1_ f2_ f3_; have f4_ := f1_.symm; have f5_ := f3_.symm; clear f1_ f2_ f3_; subst f4_; subst f5_))
 refine hK.out _ _ ⟨(blk_cell BK105.out 0).trans rfl, (blk_cell BK105.out 1).trans rfl, (blk_cell BK105.out 2).trans rfl, (blk_cell BK106.out 0).trans rfl, (blk_cell BK106.out 1).trans rfl, (blk_cell BK106.out 2).trans rfl⟩ (fun hHeld => ?_)
 clear hK K
 refine norm_ (a' := ?_) ?_ ?_
 rotate_left
 ·show Act.put _ (some 15) _ = _
  simp only [Act.put, List.setIfInBounds_toArray, List.set_cons_zero, List.set_cons_succ, i64_w, i32_w]
  rfl
 refine one_ (i := 11) (N := some 16) #[true, true, true, true, true, true, true, true, true, true, true, true, false] rfl rfl (one_of HT_.out (by kernel_rfl)) (by decide) (fun K hK => ?_)
 refine goes_ Try.func80 (by kernel_rfl) rfl #[.slice Ao11 y109.length co11] (by rfl) rfl rfl mt_ ?_
 with_reducible refine (cmp_Or_int.calls k _ _ y109 t112 _ ?side1 ?side2 A5.out).mono ?_
 (case side1 => repeat (first | exact (Kd.R_reads' HO111.out).2.2 | (with_reducible refine Kd.C_alloc ?_ _) | (with_reducible refine Kd.C_drewN ?_ _) | (with_reducible refine Kd.C_drew ?_)))
 (case side2 => exact (Kd.R_reads' HO111.out).2.1)
 rintro e w' ⟨rfl, ⟨nd, rfl⟩⟩
 refine ⟨_, rfl, ?_⟩
 refine hK.out _ _ ⟨(blk_cell BK105.out 0).trans rfl, (blk_cell BK105.out 1).trans rfl, (blk_cell BK105.out 2).trans rfl, (blk_cell BK106.out 0).trans rfl, (blk_cell BK106.out 1).trans rfl, (blk_cell BK106.out 2).trans rfl⟩ (fun hHeld => ?_)
 clear hK K
 refine norm_ (a' := ?_) ?_ ?_
 rotate_left
 ·show Act.put _ (some 16) _ = _
  simp only [Act.put, List.setIfInBounds_toArray, List.set_cons_zero, List.set_cons_succ, i64_w, i32_w]
  rfl
 refine pure_ (i := 12) (N := some 4) (v := ?_) (a' := ?_) #[true, true, true, true, true, true, true, true, true, true, true, true, true] rfl rfl (any_of HT_.out (by kernel_rfl)) (fun _ _ _ h => h) (Or.inl ⟨by rfl, ?_⟩) ?_ ?_
 rotate_left
 ·intro w'
  go_simp
  with_reducible rfl
 rotate_left
 ·simp only [Act.put, List.setIfInBounds_toArray, List.set_cons_zero, List.set_cons_succ, i64_w, i32_w]
  rfl
 refine done_ (done_of HT_.out (by kernel_rfl)) ?_
 try go_wp2
 go_ret
 exact ⟨er_, by repeat (first | (with_reducible first | exact HB.out | apply belowD_alloc | apply pw_belowD_drewN | apply belowD_drew1 | refine belowD_set ?_ GE105.out | refine belowD_set ?_ GE106.out) | exact HB.out)⟩
end Go.Proofs.Ytfhkkbpkajfdlaa.Q
end
section
namespace Go.Proofs.Ytfhkkbpkajfdlaa.Q
open Go.RowKit Go.Proofs.YtfhkkbpkajfdlaaW.PrintWords Go.Proofs.YtfhkkbpkajfdlaaW.PrintLast Go.Proofs.YtfhkkbpkajfdlaaW.PrintMore
attribute [local go_sem] max2_int min2_int max_two min_two min_four
def ebbtideref05_nodes.f (a0 : Int) : Option (Int) := if a0 < 1 then (some 51) else (if a0 > 50 then (some 2) else (some 0))
set_option maxHeartbeats 8000000 in
set_option maxRecDepth 100000 in
theorem ebbtideref05_nodes.calls (a0 : Int) (r : Int) (w : World) (h : ebbtideref05_nodes.f a0 = some r) :
  Calls Try.prog 56 #[.int .i64 a0] w fun e w' => e = .returned (.int .i64 r) ∧ Drawn0 w w' := by
 have H : (if a0 < 1 then (some 51) else (if a0 > 50 then (some 2) else (some 0))) = some r := h; clear h
 by_cases c2 : a0 < 1
 ·rw [if_pos c2] at H
  have c2b0 : decide (a0 < 1) = true := decide_eq_true c2; clear c2; obtain rfl := Option.some.inj H
  go_enter Try.func56, Try.ntmps56
  go_wp2
  go_ret
  exact ⟨by first | rfl | (simp; done) | (simp [*]; done), by repeat (first | exact Drawn0.refl _ | apply Drawn0.step)⟩
 ·rw [if_neg c2] at H
  have c2b0 : decide (a0 < 1) = false := decide_eq_false c2; clear c2
  by_cases c3 : a0 > 50
  ·rw [if_pos c3] at H
   have c3b0 : decide (50 < a0) = true := decide_eq_true c3; clear c3; obtain rfl := Option.some.inj H
   go_enter Try.func56, Try.ntmps56
   go_wp2
   go_ret
   exact ⟨by first | rfl | (simp; done) | (simp [*]; done), by repeat (first | exact Drawn0.refl _ | apply Drawn0.step)⟩
  ·rw [if_neg c3] at H
   have c3b0 : decide (50 < a0) = false := decide_eq_false c3; clear c3; obtain rfl := Option.some.inj H
   go_enter Try.func56, Try.ntmps56
   go_wp2
   go_ret
   exact ⟨by first | rfl | (simp; done) | (simp [*]; done), by repeat (first | exact Drawn0.refl _ | apply Drawn0.step)⟩
end Go.Proofs.Ytfhkkbpkajfdlaa.Q
end
section
namespace Go.Proofs.Ytfhkkbpkajfdlaa.Q
open Go.RowKit Go.Proofs.YtfhkkbpkajfdlaaW.PrintWords Go.Proofs.YtfhkkbpkajfdlaaW.PrintLast Go.Proofs.YtfhkkbpkajfdlaaW.PrintMore
def ebbtideref05_Arc.j0 : Nat → Bool → Int → Int → Int → Int → Option (Int)
 | 0, _, _, _, _, _ => none
 | k + 1, x34, x225000, x225001, x225002, x225003 => if x34 = true then (some 51) else (if x225002 > 1048576 then (some 2) else (if x225003 > 1048576 then (some 2) else (some 0)))
def ebbtideref05_Arc.f (k : Nat) (a0 : Int) (a1_0 : Int) (a1_1 : Int) (a1_2 : Int) (a1_3 : Int) : Option (Int) := if a1_0 < 0 then (ebbtideref05_Arc.j0 k true a1_0 a1_1 a1_2 a1_3) else (if a1_0 ≥ a0 then (ebbtideref05_Arc.j0 k true a1_0 a1_1 a1_2 a1_3) else (if a1_1 < 0 then (ebbtideref05_Arc.j0 k true a1_0 a1_1 a1_2 a1_3) else (if a1_1 ≥ a0 then (ebbtideref05_Arc.j0 k true a1_0 a1_1 a1_2 a1_3) else (if a1_2 < 0 then (ebbtideref05_Arc.j0 k true a1_0 a1_1 a1_2 a1_3) else (ebbtideref05_Arc.j0 k (decide (a1_3 < 0)) a1_0 a1_1 a1_2 a1_3)))))
set_option maxHeartbeats 8000000 in
set_option maxRecDepth 100000 in
theorem ebbtideref05_Arc.calls (k : Nat) (a0 : Int) (a1_0 : Int) (a1_1 : Int) (a1_2 : Int) (a1_3 : Int) (r : Int) (w : World) (h : ebbtideref05_Arc.f k a0 a1_0 a1_1 a1_2 a1_3 = some r) :
  Calls Try.prog 57 #[.int .i64 a0, .agg #[.int .i64 a1_0, .int .i64 a1_1, .int .i64 a1_2, .int .i64 a1_3]] w fun e w' => e = .returned (.int .i64 r) ∧ Below w.heap.size w w' := by
 have hu54 := Try.underlying54; have HB := am_ (Below.refl w.heap.size w); have H : (if a1_0 < 0 then (ebbtideref05_Arc.j0 k true a1_0 a1_1 a1_2 a1_3) else (if a1_0 ≥ a0 then (ebbtideref05_Arc.j0 k true a1_0 a1_1 a1_2 a1_3) else (if a1_1 < 0 then (ebbtideref05_Arc.j0 k true a1_0 a1_1 a1_2 a1_3) else (if a1_1 ≥ a0 then (ebbtideref05_Arc.j0 k true a1_0 a1_1 a1_2 a1_3) else (if a1_2 < 0 then (ebbtideref05_Arc.j0 k true a1_0 a1_1 a1_2 a1_3) else (ebbtideref05_Arc.j0 k (decide (a1_3 < 0)) a1_0 a1_1 a1_2 a1_3)))))) = some r := h; clear h; have HC3 := am_ H; clear H
 go_enter Try.func57, Try.ntmps57
 go_upto_region 1 with (first | ((with_reducible refine gate_dst (N := 3) rfl ?_); refine bx_ 3 #[.int .i64 a1_0, .int .i64 a1_1, .int .i64 a1_2, .int .i64 a1_3] 54 ?_; intro gb224 hg w4 BK224 hb; have GE224 := ge_ (w := w) hg; replace HB := hst_ hb; clear hb hg))
 (try simp only [Act.put, List.setIfInBounds_toArray, List.set_cons_zero, List.set_cons_succ])
 go_cut [34] (fun v34 wc => ∃ (kq : Nat) (x34_2 : Bool), v34 = .bool x34_2 ∧ Aside0 (ebbtideref05_Arc.j0 kq x34_2 a1_0 a1_1 a1_2 a1_3 = some r) ∧ Aside0 (kq ≤ k) ∧ Aside0 (wc.heap[gb224]? = some (.cells #[.int .i64 a1_0, .int .i64 a1_1, .int .i64 a1_2, .int .i64 a1_3] 54 (0, 0))) ∧ Aside0 (Below w.heap.size w wc))
 case first =>
  have H := HC3.out; clear HC3
  by_cases c5 : a1_0 < 0
  ·rw [if_pos c5] at H
   have c5b0 := decide_eq_true c5; clear c5
   (first | rw [c5b0] | (simp only [i64_w, i32_w]; rw [c5b0]) | skip)
   have H' := am_ H; clear H; obtain ⟨hcz6_0, hcz6_1, hcz6_2, hcz6_3, hfz6_0, hfz6_1, hfz6_2, hfz6_3⟩ := cf4_ BK224.out
   go_wp2
   go_meet
   case rel => exact ⟨_, (true), rs_, H', ⟨by first | omega | exact Nat.le_refl _⟩, ⟨bq_ BK224.out⟩, ⟨hb_⟩⟩
  ·rw [if_neg c5] at H
   have c5b0 := decide_eq_false c5; clear c5
   (first | rw [c5b0] | (simp only [i64_w, i32_w]; rw [c5b0]) | skip)
   by_cases c7 : a1_0 ≥ a0
   ·rw [if_pos c7] at H
    have c7b0 := decide_eq_true c7; clear c7; have H' := am_ H; clear H; obtain ⟨hcz8_0, hcz8_1, hcz8_2, hcz8_3, hfz8_0, hfz8_1, hfz8_2, hfz8_3⟩ := cf4_ BK224.out
    go_wp2
    go_meet
    case rel => exact ⟨_, (true), rs_, H', ⟨by first | omega | exact Nat.le_refl _⟩, ⟨bq_ BK224.out⟩, ⟨hb_⟩⟩
   ·rw [if_neg c7] at H
    have c7b0 := decide_eq_false c7; clear c7
    by_cases c9 : a1_1 < 0
    ·rw [if_pos c9] at H
     have c9b0 := decide_eq_true c9; clear c9; have H' := am_ H; clear H; obtain ⟨hcz10_0, hcz10_1, hcz10_2, hcz10_3, hfz10_0, hfz10_1, hfz10_2, hfz10_3⟩ := cf4_ BK224.out
     go_wp2
     go_meet
     case rel => exact ⟨_, (true), rs_, H', ⟨by first | omega | exact Nat.le_refl _⟩, ⟨bq_ BK224.out⟩, ⟨hb_⟩⟩
    ·rw [if_neg c9] at H
     have c9b0 := decide_eq_false c9; clear c9
     by_cases c11 : a1_1 ≥ a0
     ·rw [if_pos c11] at H
      have c11b0 := decide_eq_true c11; clear c11; have H' := am_ H; clear H; obtain ⟨hcz12_0, hcz12_1, hcz12_2, hcz12_3, hfz12_0, hfz12_1, hfz12_2, hfz12_3⟩ := cf4_ BK224.out
      go_wp2
      go_meet
      case rel => exact ⟨_, (true), rs_, H', ⟨by first | omega | exact Nat.le_refl _⟩, ⟨bq_ BK224.out⟩, ⟨hb_⟩⟩
     ·rw [if_neg c11] at H
      have c11b0 := decide_eq_false c11; clear c11
      by_cases c13 : a1_2 < 0
      ·rw [if_pos c13] at H
       have c13b0 := decide_eq_true c13; clear c13; have H' := am_ H; clear H; obtain ⟨hcz14_0, hcz14_1, hcz14_2, hcz14_3, hfz14_0, hfz14_1, hfz14_2, hfz14_3⟩ := cf4_ BK224.out
       go_wp2
       go_meet
       case rel => exact ⟨_, (true), rs_, H', ⟨by first | omega | exact Nat.le_refl _⟩, ⟨bq_ BK224.out⟩, ⟨hb_⟩⟩
      ·rw [if_neg c13] at H
       have c13b0 := decide_eq_false c13; clear c13; have H' := am_ H; clear H; obtain ⟨hcz15_0, hcz15_1, hcz15_2, hcz15_3, hfz15_0, hfz15_1, hfz15_2, hfz15_3⟩ := cf4_ BK224.out
       go_wp2
       go_meet
       case rel => exact ⟨_, (decide (a1_3 < 0)), rs_, H', ⟨by first | omega | exact Nat.le_refl _⟩, ⟨bq_ BK224.out⟩, ⟨hb_⟩⟩
 case rest =>
  clear HC3
  try clear c1
  try clear p2
  try clear c5
  try clear c5b0
  try clear c7
  try clear c7b0
  try clear c9
  try clear c9b0
  try clear c11
  try clear c11b0
  try clear c13
  try clear c13b0
  try clear hcz10_0 hcz10_1 hcz10_2 hcz10_3
  try clear hcz12_0 hcz12_1 hcz12_2 hcz12_3
  try clear hcz14_0 hcz14_1 hcz14_2 hcz14_3
  try clear hcz15_0 hcz15_1 hcz15_2 hcz15_3
  try clear hcz6_0 hcz6_1 hcz6_2 hcz6_3
  try clear hcz8_0 hcz8_1 hcz8_2 hcz8_3
  try clear hfz10_0 hfz10_1 hfz10_2 hfz10_3
  try clear hfz12_0 hfz12_1 hfz12_2 hfz12_3
  try clear hfz14_0 hfz14_1 hfz14_2 hfz14_3
  try clear hfz15_0 hfz15_1 hfz15_2 hfz15_3
  try clear hfz6_0 hfz6_1 hfz6_2 hfz6_3
  try clear hfz8_0 hfz8_1 hfz8_2 hfz8_3
  obtain ⟨kq, x34_2, rfl, HA, HJ2, BK224, HB⟩ := hcut
  cases kq with
  | zero => exact absurd HA.out (by simp [ebbtideref05_Arc.j0])
  | succ kj2 =>
   have H := HA.out; clear HA; simp only [ebbtideref05_Arc.j0] at H
   by_cases c16 : x34_2 = true
   ·subst c16
    have H1 : (some 51) = some r := by rw [if_pos rfl] at H; exact H
    clear H; have H := H1; clear H1; obtain rfl := Option.some.inj H
    go_wp2
    go_ret
    exact ⟨er_, hb_⟩
   ·replace c16 := Bool.eq_false_iff.mpr c16
    subst c16
    have H1 : (if a1_2 > 1048576 then (some 2) else (if a1_3 > 1048576 then (some 2) else (some 0))) = some r := by rw [if_neg (show ¬ (false = true) by decide)] at H; exact H
    clear H; have H := H1; clear H1
    by_cases c17 : a1_2 > 1048576
    ·rw [if_pos c17] at H
     have c17b0 := decide_eq_true c17; clear c17; obtain rfl := Option.some.inj H; obtain ⟨hcz18_0, hcz18_1, hcz18_2, hcz18_3, hfz18_0, hfz18_1, hfz18_2, hfz18_3⟩ := cf4_ BK224.out
     go_wp2
     go_ret
     exact ⟨er_, hb_⟩
    ·rw [if_neg c17] at H
     have c17b0 := decide_eq_false c17; clear c17
     by_cases c19 : a1_3 > 1048576
     ·rw [if_pos c19] at H
      have c19b0 := decide_eq_true c19; clear c19; obtain rfl := Option.some.inj H; obtain ⟨hcz20_0, hcz20_1, hcz20_2, hcz20_3, hfz20_0, hfz20_1, hfz20_2, hfz20_3⟩ := cf4_ BK224.out
      go_wp2
      go_ret
      exact ⟨er_, hb_⟩
     ·rw [if_neg c19] at H
      have c19b0 := decide_eq_false c19; clear c19; obtain rfl := Option.some.inj H; obtain ⟨hcz21_0, hcz21_1, hcz21_2, hcz21_3, hfz21_0, hfz21_1, hfz21_2, hfz21_3⟩ := cf4_ BK224.out
      go_wp2
      go_ret
      exact ⟨er_, hb_⟩
def ebbtideref05_Check.l0 : Nat → Int → Int → Bool → List (S54) → Option (Int)
 | 0, _, _, _, _ => none
 | k + 1, x4, x226000, x226001, x226002 => if x4 < (x226002.length : Int) then (if 0 ≤ x4 then ((ebbtideref05_Arc.f k x226000 ((rd_T54 x226002 x4).f0) ((rd_T54 x226002 x4).f1) ((rd_T54 x226002 x4).f2) ((rd_T54 x226002 x4).f3)).bind fun t228 => (if t228 = 0 then (ebbtideref05_Check.l0 k (wrap64 (x4 + 1)) x226000 x226001 x226002) else (some t228))) else (none)) else (some 0)
def ebbtideref05_Check.f (k : Nat) (a0_0 : Int) (a0_1 : Bool) (l0_2 : List (S54)) : Option (Int) := (ebbtideref05_nodes.f a0_0).bind fun t226 => (if t226 = 0 then (if (l0_2.length : Int) > 200 then (some 2) else (ebbtideref05_Check.l0 k 0 a0_0 a0_1 l0_2)) else (some t226))
def ebbtideref05_Check.T9 : Bool × List (List Nat × List Nat) := (true, [([], []), ([0], [0]), ([], []), ([2], [2]), ([], []), ([3, 4], [3, 4]), ([5], [5]), ([1, 6], [1, 6]), ([7, 7, 0, 1, 2, 3, 4, 5, 6, 7], [7])])
def ebbtideref05_Check.B9 : List Nat := [0, 1, 0, 4, 0, 28, 60, 127, 255]
theorem ebbtideref05_Check.tab9 : rtab .any (opsOf Try.f36 9) = ebbtideref05_Check.T9 := by kernel_rfl
theorem ebbtideref05_Check.bits9 : waitsOk ebbtideref05_Check.T9.2 ebbtideref05_Check.B9 = true := by kernel_rfl
set_option maxHeartbeats 8000000 in
set_option maxRecDepth 100000 in
theorem ebbtideref05_Check.calls (k : Nat) (a0_0 : Int) (a0_1 : Bool) (A0_2 : Option Addr) (c0_2 : Nat) (l0_2 : List (S54)) (r : Int) (w : World) (hr0_2 : Kd.C k54 w A0_2 l0_2.length l0_2) (hc0_2 : l0_2.length ≤ c0_2) (h : ebbtideref05_Check.f k a0_0 a0_1 l0_2 = some r) :
  Calls Try.prog 36 #[.agg #[.int .i64 a0_0, .bool a0_1, .slice A0_2 l0_2.length c0_2]] w fun e w' => e = .returned (.int .i64 r) ∧ Below w.heap.size w w' := by
 have hu24 := Try.underlying24; have hu54 := Try.underlying54; have HR0_2 := am_ hr0_2; have HC0_2 := am_ hc0_2; clear hr0_2 hc0_2; have HB := am_ (Below.refl w.heap.size w); have H : ((ebbtideref05_nodes.f a0_0).bind fun t226 => (if t226 = 0 then (if (l0_2.length : Int) > 200 then (some 2) else (ebbtideref05_Check.l0 k 0 a0_0 a0_1 l0_2)) else (some t226))) = some r := h; clear h; replace H := Option.bind_eq_some_iff.mp H; obtain ⟨t226, A20, H⟩ := H; replace H : (if t226 = 0 then (if (l0_2.length : Int) > 200 then (some 2) else (ebbtideref05_Check.l0 k 0 a0_0 a0_1 l0_2)) else (some t226)) = some r := H; have A2 := am_ A20; clear A20
 by_cases c3 : t226 = 0
 ·rw [if_pos c3] at H
  obtain ⟨c3b0, c3b1⟩ := eqb_ c3; clear c3
  by_cases c4 : (l0_2.length : Int) > 200
  ·rw [if_pos c4] at H
   have c4b0 := decide_eq_true c4; have c4b1 : decide (200 < l0_2.length) = true := decide_eq_true (by omega); clear c4; obtain rfl := Option.some.inj H
   go_enter Try.func36, Try.ntmps36
   go_wp2_with (first | ((with_reducible refine gate_dst (N := 1) rfl ?_); refine bx_ 1 #[.int .i64 a0_0, .bool a0_1, .slice A0_2 l0_2.length c0_2] 24 ?_; intro gb225 hg w5 BK225 hb; have GE225 := ge_ (w := w) hg; replace HB := hst_ hb; clear hb hg; obtain ⟨hcz6_0, hcz6_1, hcz6_2, hfz6_0, hfz6_1, hfz6_2⟩ := cf3_ BK225.out) | ((with_reducible refine gate_callee (f := 56) rfl ?_); refine cl_ 8 Try.func56 (ebbtideref05_nodes.calls a0_0 t226 _ A2.out) ?_; rintro e w' ⟨rfl, ⟨nd, rfl⟩⟩; refine ⟨_, rfl, ?_⟩))
   go_ret
   exact ⟨er_, hb_⟩
  ·rw [if_neg c4] at H
   have c4b0 := decide_eq_false c4; have c4b1 : decide (200 < l0_2.length) = false := decide_eq_false (by omega); clear c4; have H' := am_ H; clear H
   go_enter Try.func36, Try.ntmps36
   go_wp2_with (first | ((with_reducible refine gate_dst (N := 1) rfl ?_); refine bx_ 1 #[.int .i64 a0_0, .bool a0_1, .slice A0_2 l0_2.length c0_2] 24 ?_; intro gb225 hg w7 BK225 hb; have GE225 := ge_ (w := w) hg; replace HB := hst_ hb; clear hb hg; obtain ⟨hcz8_0, hcz8_1, hcz8_2, hfz8_0, hfz8_1, hfz8_2⟩ := cf3_ BK225.out) | ((with_reducible refine gate_callee (f := 56) rfl ?_); refine cl_ 8 Try.func56 (ebbtideref05_nodes.calls a0_0 t226 _ A2.out) ?_; rintro e w' ⟨rfl, ⟨nd, rfl⟩⟩; refine ⟨_, rfl, ?_⟩))
   go_loopg [4] k (fun kq v4 w' => ∃ (x4_1 : Int), v4 = .int .i64 x4_1 ∧ Aside0 (ebbtideref05_Check.l0 kq x4_1 a0_0 a0_1 l0_2 = some r) ∧ Aside0 (kq ≤ k) ∧ Aside0 (w'.heap[gb225]? = some (.cells #[.int .i64 a0_0, .bool a0_1, (.slice A0_2 l0_2.length c0_2)] 24 (0, 0))) ∧ Aside0 (Below w.heap.size w w'))
   case atStart => exact ⟨(0), rs_, H', ⟨Nat.le_refl _⟩, ⟨bq_ BK225.out⟩, ⟨hb_⟩⟩
   case round =>
    clear H'
    try clear p2
    try clear c3
    try clear c3b0
    try clear c3b1
    try clear c4
    try clear c4b0
    try clear c4b1
    try clear c5
    try clear hcz6_0 hcz6_1 hcz6_2
    try clear hcz8_0 hcz8_1 hcz8_2
    try clear hfz6_0 hfz6_1 hfz6_2
    try clear hfz8_0 hfz8_1 hfz8_2
    obtain ⟨x4_1, rfl, HA, HK1, BK225, HB⟩ := hrel
    cases gk with
    | zero => exact absurd HA.out (by simp [ebbtideref05_Check.l0])
    | succ k1 =>
     have H := HA.out; clear HA; simp only [ebbtideref05_Check.l0] at H
     by_cases c9 : x4_1 < (l0_2.length : Int)
     ·rw [if_pos c9] at H
      have c9b0 := decide_eq_true c9; clear c9
      replace H := ifn_ H; obtain ⟨c10, H⟩ := H
      have c10b0 := decide_eq_true c10; clear c10; replace H := Option.bind_eq_some_iff.mp H; obtain ⟨t228, A110, H⟩ := H; replace H : (if t228 = 0 then (ebbtideref05_Check.l0 k1 (wrap64 (x4_1 + 1)) a0_0 a0_1 l0_2) else (some t228)) = some r := H; have A11 := am_ A110; clear A110
      by_cases c12 : t228 = 0
      ·rw [if_pos c12] at H
       obtain ⟨c12b0, c12b1⟩ := eqb_ c12; clear c12; have H' := am_ H; clear H; obtain ⟨hcz13_0, hcz13_1, hcz13_2, hfz13_0, hfz13_1, hfz13_2⟩ := cf3_ BK225.out
       try go_wp2
       replace BK225 := am_ (blk_drew BK225.out); replace HB := am_ (below_drew1 HB.out); have p227 : 0 ≤ (x4_1 : Int) := of_decide_eq_true sm_; have q227 : x4_1 < (l0_2.length : Int) := of_decide_eq_true sm_; obtain ⟨ad227, e227, hx227_0, hx227_1, hx227_2, hx227_3⟩ := at_T54 HR0_2.out x4_1 p227 q227; have hw227_3 := hx227_3; have hw227_2 := hx227_2; have hw227_1 := hx227_1; have hw227_0 := hx227_0; cases e227; replace hx227_0 := (HB.out.cell (World.block_lt_of_cell? w _ hx227_0)).trans hx227_0; replace hx227_1 := (HB.out.cell (World.block_lt_of_cell? w _ hx227_1)).trans hx227_1; replace hx227_2 := (HB.out.cell (World.block_lt_of_cell? w _ hx227_2)).trans hx227_2; replace hx227_3 := (HB.out.cell (World.block_lt_of_cell? w _ hx227_3)).trans hx227_3; replace p227 := eq_true p227; replace q227 := eq_true q227; refine start_ (n := 9) (S := fun w' => w'.cell? ⟨gb225, 0, none⟩ = some (.int .i64 a0_0) ∧ w'.cell? ⟨gb225, 1, none⟩ = some (.bool a0_1) ∧ w'.cell? ⟨gb225, 2, none⟩ = some (.slice (some ad227) l0_2.length c0_2) ∧ w'.cell? (ad227.add ((x4_1).toNat * 4)) = some (.int .i64 ((rd_T54 l0_2 x4_1).f0)) ∧ w'.cell? ⟨(ad227.add ((x4_1).toNat * 4)).block, (ad227.add ((x4_1).toNat * 4)).off + 1, none⟩ = some (.int .i64 ((rd_T54 l0_2 x4_1).f1)) ∧ w'.cell? ⟨(ad227.add ((x4_1).toNat * 4)).block, (ad227.add ((x4_1).toNat * 4)).off + 2, none⟩ = some (.int .i64 ((rd_T54 l0_2 x4_1).f2)) ∧ w'.cell? ⟨(ad227.add ((x4_1).toNat * 4)).block, (ad227.add ((x4_1).toNat * 4)).off + 3, none⟩ = some (.int .i64 ((rd_T54 l0_2 x4_1).f3))) (ds := []) #[Ff,Ff,Ff,Ff,Ff,Ff,Ff,Ff,Ff] (by kernel_rfl) rfl rfl ⟨(blk_cell BK225.out 0).trans rfl, (blk_cell BK225.out 1).trans rfl, (blk_cell BK225.out 2).trans rfl, ((HB.out.cell (World.block_lt_of_cell? w _ hw227_0)).trans hw227_0), ((HB.out.cell (World.block_lt_of_cell? w _ hw227_1)).trans hw227_1), ((HB.out.cell (World.block_lt_of_cell? w _ hw227_2)).trans hw227_2), ((HB.out.cell (World.block_lt_of_cell? w _ hw227_3)).trans hw227_3)⟩ (fun hHeld => ?_); refine with_tabW ebbtideref05_Check.tab9 ebbtideref05_Check.bits9 (fun HT_ HW_ => ?_); generalize wr.drew = w14 at BK225 HB hx227_0 hx227_1 hx227_2 hx227_3 hHeld ⊢; refine pw_ 0 23 ?_; refine pw_ 2 25 ?_; refine pw_ 4 27 ?_; refine tk_ 1 24 ?_; refine tk_ 3 26 ?_; refine pw_ 5 28 ?_; refine tk_ 6 29 ?_; refine one_ (i := 7) (N := some 30) #[Tt,Tt,Tt,Tt,Tt,Tt,Tt,Tt,Ff] rfl rfl (one_of HT_.out (by kernel_rfl)) (by decide) (fun K hK => ?_); refine goes_ Try.func57 (by kernel_rfl) rfl #[.int .i64 a0_0, .agg #[.int .i64 ((rd_T54 l0_2 x4_1).f0), .int .i64 ((rd_T54 l0_2 x4_1).f1), .int .i64 ((rd_T54 l0_2 x4_1).f2), .int .i64 ((rd_T54 l0_2 x4_1).f3)]] (by rfl) rfl rfl mt_ ?_
       with_reducible refine (ebbtideref05_Arc.calls k1 a0_0 ((rd_T54 l0_2 x4_1).f0) ((rd_T54 l0_2 x4_1).f1) ((rd_T54 l0_2 x4_1).f2) ((rd_T54 l0_2 x4_1).f3) t228 _ A11.out).mono ?_
       rintro e w15 ⟨rfl, hb⟩; refine ⟨_, rfl, ?_⟩; replace BK225 := am_ (bb_ BK225.out hb); replace HB := hst_ hb
       (try clear hb)
       (try clear hb2)
       (try clear hk)
       (try clear hi)
       refine hK.out _ _ ⟨(blk_cell BK225.out 0).trans rfl, (blk_cell BK225.out 1).trans rfl, (blk_cell BK225.out 2).trans rfl, ((HB.out.cell (World.block_lt_of_cell? w _ hw227_0)).trans hw227_0), ((HB.out.cell (World.block_lt_of_cell? w _ hw227_1)).trans hw227_1), ((HB.out.cell (World.block_lt_of_cell? w _ hw227_2)).trans hw227_2), ((HB.out.cell (World.block_lt_of_cell? w _ hw227_3)).trans hw227_3)⟩ (fun hHeld => ?_); clear hK K; refine norm_ (a' := ?_) ?_ ?_; rotate_left
       ·show Act.put _ (some 30) _ = _
        simp only [Act.put, List.setIfInBounds_toArray, List.set_cons_zero, List.set_cons_succ, i64_w, i32_w]; rfl
       refine pw_ 8 5 ?_; refine done_ (done_of HT_.out (by kernel_rfl)) ?_
       try go_wp2
       go_roundg k1
       case measure => have := HK1.out; omega
       case rel => exact ⟨(wrap64 (x4_1 + 1)), rs_, H', ⟨by have := HK1.out; omega⟩, ⟨bq_ BK225.out⟩, ⟨hb_⟩⟩
      ·rw [if_neg c12] at H
       obtain ⟨c12b0, c12b1⟩ := neb_ c12; obtain rfl := Option.some.inj H; obtain ⟨hcz16_0, hcz16_1, hcz16_2, hfz16_0, hfz16_1, hfz16_2⟩ := cf3_ BK225.out
       try go_wp2
       replace BK225 := am_ (blk_drew BK225.out); replace HB := am_ (below_drew1 HB.out); have p227 : 0 ≤ (x4_1 : Int) := of_decide_eq_true sm_; have q227 : x4_1 < (l0_2.length : Int) := of_decide_eq_true sm_; obtain ⟨ad227, e227, hx227_0, hx227_1, hx227_2, hx227_3⟩ := at_T54 HR0_2.out x4_1 p227 q227; have hw227_3 := hx227_3; have hw227_2 := hx227_2; have hw227_1 := hx227_1; have hw227_0 := hx227_0; cases e227; replace hx227_0 := (HB.out.cell (World.block_lt_of_cell? w _ hx227_0)).trans hx227_0; replace hx227_1 := (HB.out.cell (World.block_lt_of_cell? w _ hx227_1)).trans hx227_1; replace hx227_2 := (HB.out.cell (World.block_lt_of_cell? w _ hx227_2)).trans hx227_2; replace hx227_3 := (HB.out.cell (World.block_lt_of_cell? w _ hx227_3)).trans hx227_3; replace p227 := eq_true p227; replace q227 := eq_true q227; refine start_ (n := 9) (S := fun w' => w'.cell? ⟨gb225, 0, none⟩ = some (.int .i64 a0_0) ∧ w'.cell? ⟨gb225, 1, none⟩ = some (.bool a0_1) ∧ w'.cell? ⟨gb225, 2, none⟩ = some (.slice (some ad227) l0_2.length c0_2) ∧ w'.cell? (ad227.add ((x4_1).toNat * 4)) = some (.int .i64 ((rd_T54 l0_2 x4_1).f0)) ∧ w'.cell? ⟨(ad227.add ((x4_1).toNat * 4)).block, (ad227.add ((x4_1).toNat * 4)).off + 1, none⟩ = some (.int .i64 ((rd_T54 l0_2 x4_1).f1)) ∧ w'.cell? ⟨(ad227.add ((x4_1).toNat * 4)).block, (ad227.add ((x4_1).toNat * 4)).off + 2, none⟩ = some (.int .i64 ((rd_T54 l0_2 x4_1).f2)) ∧ w'.cell? ⟨(ad227.add ((x4_1).toNat * 4)).block, (ad227.add ((x4_1).toNat * 4)).off + 3, none⟩ = some (.int .i64 ((rd_T54 l0_2 x4_1).f3))) (ds := []) #[Ff,Ff,Ff,Ff,Ff,Ff,Ff,Ff,Ff] (by kernel_rfl) rfl rfl ⟨(blk_cell BK225.out 0).trans rfl, (blk_cell BK225.out 1).trans rfl, (blk_cell BK225.out 2).trans rfl, ((HB.out.cell (World.block_lt_of_cell? w _ hw227_0)).trans hw227_0), ((HB.out.cell (World.block_lt_of_cell? w _ hw227_1)).trans hw227_1), ((HB.out.cell (World.block_lt_of_cell? w _ hw227_2)).trans hw227_2), ((HB.out.cell (World.block_lt_of_cell? w _ hw227_3)).trans hw227_3)⟩ (fun hHeld => ?_); refine with_tabW ebbtideref05_Check.tab9 ebbtideref05_Check.bits9 (fun HT_ HW_ => ?_); generalize wr.drew = w17 at BK225 HB hx227_0 hx227_1 hx227_2 hx227_3 hHeld ⊢; refine pw_ 0 23 ?_; refine pw_ 2 25 ?_; refine pw_ 4 27 ?_; refine tk_ 1 24 ?_; refine tk_ 3 26 ?_; refine pw_ 5 28 ?_; refine tk_ 6 29 ?_; refine one_ (i := 7) (N := some 30) #[Tt,Tt,Tt,Tt,Tt,Tt,Tt,Tt,Ff] rfl rfl (one_of HT_.out (by kernel_rfl)) (by decide) (fun K hK => ?_); refine goes_ Try.func57 (by kernel_rfl) rfl #[.int .i64 a0_0, .agg #[.int .i64 ((rd_T54 l0_2 x4_1).f0), .int .i64 ((rd_T54 l0_2 x4_1).f1), .int .i64 ((rd_T54 l0_2 x4_1).f2), .int .i64 ((rd_T54 l0_2 x4_1).f3)]] (by rfl) rfl rfl mt_ ?_
       with_reducible refine (ebbtideref05_Arc.calls k1 a0_0 ((rd_T54 l0_2 x4_1).f0) ((rd_T54 l0_2 x4_1).f1) ((rd_T54 l0_2 x4_1).f2) ((rd_T54 l0_2 x4_1).f3) t228 _ A11.out).mono ?_
       rintro e w18 ⟨rfl, hb⟩; refine ⟨_, rfl, ?_⟩; replace BK225 := am_ (bb_ BK225.out hb); replace HB := hst_ hb
       (try clear hb)
       (try clear hb2)
       (try clear hk)
       (try clear hi)
       refine hK.out _ _ ⟨(blk_cell BK225.out 0).trans rfl, (blk_cell BK225.out 1).trans rfl, (blk_cell BK225.out 2).trans rfl, ((HB.out.cell (World.block_lt_of_cell? w _ hw227_0)).trans hw227_0), ((HB.out.cell (World.block_lt_of_cell? w _ hw227_1)).trans hw227_1), ((HB.out.cell (World.block_lt_of_cell? w _ hw227_2)).trans hw227_2), ((HB.out.cell (World.block_lt_of_cell? w _ hw227_3)).trans hw227_3)⟩ (fun hHeld => ?_); clear hK K; refine norm_ (a' := ?_) ?_ ?_; rotate_left
       ·show Act.put _ (some 30) _ = _
        simp only [Act.put, List.setIfInBounds_toArray, List.set_cons_zero, List.set_cons_succ, i64_w, i32_w]; rfl
       refine pw_ 8 5 ?_; refine done_ (done_of HT_.out (by kernel_rfl)) ?_
       try go_wp2
       go_ret
       exact ⟨er_, hb_⟩
     ·rw [if_neg c9] at H
      have c9b0 := decide_eq_false c9; clear c9; obtain rfl := Option.some.inj H; obtain ⟨hcz19_0, hcz19_1, hcz19_2, hfz19_0, hfz19_1, hfz19_2⟩ := cf3_ BK225.out
      go_wp2
      go_ret
      exact ⟨er_, hb_⟩
 ·rw [if_neg c3] at H
  obtain ⟨c3b0, c3b1⟩ := neb_ c3; obtain rfl := Option.some.inj H
  go_enter Try.func36, Try.ntmps36
  go_wp2_with (first | ((with_reducible refine gate_dst (N := 1) rfl ?_); refine bx_ 1 #[.int .i64 a0_0, .bool a0_1, .slice A0_2 l0_2.length c0_2] 24 ?_; intro gb225 hg w20 BK225 hb; have GE225 := ge_ (w := w) hg; replace HB := hst_ hb; clear hb hg; obtain ⟨hcz21_0, hcz21_1, hcz21_2, hfz21_0, hfz21_1, hfz21_2⟩ := cf3_ BK225.out) | ((with_reducible refine gate_callee (f := 56) rfl ?_); refine cl_ 8 Try.func56 (ebbtideref05_nodes.calls a0_0 t226 _ A2.out) ?_; rintro e w' ⟨rfl, ⟨nd, rfl⟩⟩; refine ⟨_, rfl, ?_⟩))
  go_ret
  exact ⟨er_, hb_⟩
end Go.Proofs.Ytfhkkbpkajfdlaa.Q
end
section
namespace Go.Proofs.Ytfhkkbpkajfdlaa.Q
open Go.RowKit Go.Proofs.YtfhkkbpkajfdlaaW.PrintWords Go.Proofs.YtfhkkbpkajfdlaaW.PrintLast Go.Proofs.YtfhkkbpkajfdlaaW.PrintMore
attribute [local go_sem] max2_int min2_int max_two min_two min_four
def ebbtideref12_Span.f (a0 : Int) : Option (Int) := if a0 < 0 then (some 1) else (if a0 > 1024 then (some 2) else (some 0))
set_option maxHeartbeats 8000000 in
set_option maxRecDepth 100000 in
theorem ebbtideref12_Span.calls (a0 : Int) (r : Int) (w : World) (h : ebbtideref12_Span.f a0 = some r) :
  Calls Try.prog 37 #[.int .i64 a0] w fun e w' => e = .returned (.int .i64 r) ∧ Drawn0 w w' := by
 have H : (if a0 < 0 then (some 1) else (if a0 > 1024 then (some 2) else (some 0))) = some r := h; clear h
 by_cases c2 : a0 < 0
 ·rw [if_pos c2] at H
  have c2b0 : decide (a0 < 0) = true := decide_eq_true c2; clear c2; obtain rfl := Option.some.inj H
  go_enter Try.func37, Try.ntmps37
  go_wp2
  go_ret
  exact ⟨by first | rfl | (simp; done) | (simp [*]; done), by repeat (first | exact Drawn0.refl _ | apply Drawn0.step)⟩
 ·rw [if_neg c2] at H
  have c2b0 : decide (a0 < 0) = false := decide_eq_false c2; clear c2
  by_cases c3 : a0 > 1024
  ·rw [if_pos c3] at H
   have c3b0 : decide (1024 < a0) = true := decide_eq_true c3; clear c3; obtain rfl := Option.some.inj H
   go_enter Try.func37, Try.ntmps37
   go_wp2
   go_ret
   exact ⟨by first | rfl | (simp; done) | (simp [*]; done), by repeat (first | exact Drawn0.refl _ | apply Drawn0.step)⟩
  ·rw [if_neg c3] at H
   have c3b0 : decide (1024 < a0) = false := decide_eq_false c3; clear c3; obtain rfl := Option.some.inj H
   go_enter Try.func37, Try.ntmps37
   go_wp2
   go_ret
   exact ⟨by first | rfl | (simp; done) | (simp [*]; done), by repeat (first | exact Drawn0.refl _ | apply Drawn0.step)⟩
end Go.Proofs.Ytfhkkbpkajfdlaa.Q
end
section
namespace Go.Proofs.Ytfhkkbpkajfdlaa.Q
open Go.RowKit Go.Proofs.YtfhkkbpkajfdlaaW.PrintWords Go.Proofs.YtfhkkbpkajfdlaaW.PrintLast Go.Proofs.YtfhkkbpkajfdlaaW.PrintMore
def ebbtideref06_Node.f (a0_0 : Int) (a0_1 : Bool) (l0_2 : List (S54)) (a1 : Int) : Option (Bool) := if a1 ≥ 0 then (some (decide (a1 < a0_0))) else (some false)
set_option maxHeartbeats 8000000 in
set_option maxRecDepth 100000 in
theorem ebbtideref06_Node.calls (a0_0 : Int) (a0_1 : Bool) (A0_2 : Option Addr) (c0_2 : Nat) (l0_2 : List (S54)) (a1 : Int) (r : Bool) (w : World) (hr0_2 : Kd.C k54 w A0_2 l0_2.length l0_2) (hc0_2 : l0_2.length ≤ c0_2) (h : ebbtideref06_Node.f a0_0 a0_1 l0_2 a1 = some r) :
  Calls Try.prog 92 #[.agg #[.int .i64 a0_0, .bool a0_1, .slice A0_2 l0_2.length c0_2], .int .i64 a1] w fun e w' => e = .returned (.bool r) ∧ Below w.heap.size w w' := by
 have hu24 := Try.underlying24; have HR0_2 := am_ hr0_2; have HC0_2 := am_ hc0_2; clear hr0_2 hc0_2; have HB := am_ (Below.refl w.heap.size w); have H : (if a1 ≥ 0 then (some (decide (a1 < a0_0))) else (some false)) = some r := h; clear h
 by_cases c3 : a1 ≥ 0
 ·rw [if_pos c3] at H
  have c3b0 := decide_eq_true c3; clear c3; obtain rfl := Option.some.inj H
  go_enter Try.func92, Try.ntmps92
  go_wp2_with (first | ((with_reducible refine gate_dst (N := 2) rfl ?_); refine bx_ 2 #[.int .i64 a0_0, .bool a0_1, .slice A0_2 l0_2.length c0_2] 24 ?_; intro gb332 hg w4 BK332 hb; have GE332 := ge_ (w := w) hg; replace HB := hst_ hb; clear hb hg; obtain ⟨hcz5_0, hcz5_1, hcz5_2, hfz5_0, hfz5_1, hfz5_2⟩ := cf3_ BK332.out))
  go_ret
  exact ⟨er_, hb_⟩
 ·rw [if_neg c3] at H
  have c3b0 := decide_eq_false c3; clear c3; obtain rfl := Option.some.inj H
  go_enter Try.func92, Try.ntmps92
  go_wp2_with (first | ((with_reducible refine gate_dst (N := 2) rfl ?_); refine bx_ 2 #[.int .i64 a0_0, .bool a0_1, .slice A0_2 l0_2.length c0_2] 24 ?_; intro gb332 hg w6 BK332 hb; have GE332 := ge_ (w := w) hg; replace HB := hst_ hb; clear hb hg))
  go_ret
  exact ⟨er_, hb_⟩
def ebbtideref07_Ends.f (k : Nat) (a0_0 : Int) (a0_1 : Bool) (l0_2 : List (S54)) (a1 : Int) (a2 : Int) : Option (Int) := (ebbtideref05_Check.f k a0_0 a0_1 l0_2).bind fun t334 => (if t334 = 0 then ((ebbtideref06_Node.f a0_0 a0_1 l0_2 a1).bind fun t335 => (if t335 = true then ((ebbtideref06_Node.f a0_0 a0_1 l0_2 a2).bind fun t336 => (if t336 = true then (if a1 = a2 then (some 70) else (some 0)) else (some 70))) else (some 70))) else (some t334))
set_option maxHeartbeats 8000000 in
set_option maxRecDepth 100000 in
theorem ebbtideref07_Ends.calls (k : Nat) (a0_0 : Int) (a0_1 : Bool) (A0_2 : Option Addr) (c0_2 : Nat) (l0_2 : List (S54)) (a1 : Int) (a2 : Int) (r : Int) (w : World) (hr0_2 : Kd.C k54 w A0_2 l0_2.length l0_2) (hc0_2 : l0_2.length ≤ c0_2) (h : ebbtideref07_Ends.f k a0_0 a0_1 l0_2 a1 a2 = some r) :
  Calls Try.prog 84 #[.agg #[.int .i64 a0_0, .bool a0_1, .slice A0_2 l0_2.length c0_2], .int .i64 a1, .int .i64 a2] w fun e w' => e = .returned (.int .i64 r) ∧ Below w.heap.size w w' := by
 have hu24 := Try.underlying24; have HR0_2 := am_ hr0_2; have HC0_2 := am_ hc0_2; clear hr0_2 hc0_2; have HB := am_ (Below.refl w.heap.size w); have H : ((ebbtideref05_Check.f k a0_0 a0_1 l0_2).bind fun t334 => (if t334 = 0 then ((ebbtideref06_Node.f a0_0 a0_1 l0_2 a1).bind fun t335 => (if t335 = true then ((ebbtideref06_Node.f a0_0 a0_1 l0_2 a2).bind fun t336 => (if t336 = true then (if a1 = a2 then (some 70) else (some 0)) else (some 70))) else (some 70))) else (some t334))) = some r := h; clear h; replace H := Option.bind_eq_some_iff.mp H; obtain ⟨t334, A40, H⟩ := H; replace H : (if t334 = 0 then ((ebbtideref06_Node.f a0_0 a0_1 l0_2 a1).bind fun t335 => (if t335 = true then ((ebbtideref06_Node.f a0_0 a0_1 l0_2 a2).bind fun t336 => (if t336 = true then (if a1 = a2 then (some 70) else (some 0)) else (some 70))) else (some 70))) else (some t334)) = some r := H; have A4 := am_ A40; clear A40
 by_cases c5 : t334 = 0
 ·rw [if_pos c5] at H
  obtain ⟨c5b0, c5b1⟩ := eqb_ c5; clear c5; replace H := Option.bind_eq_some_iff.mp H; obtain ⟨t335, A60, H⟩ := H; replace H : (if t335 = true then ((ebbtideref06_Node.f a0_0 a0_1 l0_2 a2).bind fun t336 => (if t336 = true then (if a1 = a2 then (some 70) else (some 0)) else (some 70))) else (some 70)) = some r := H; have A6 := am_ A60; clear A60
  by_cases c7 : t335 = true
  ·subst c7
   have H1 : ((ebbtideref06_Node.f a0_0 a0_1 l0_2 a2).bind fun t336 => (if t336 = true then (if a1 = a2 then (some 70) else (some 0)) else (some 70))) = some r := by rw [if_pos rfl] at H; exact H
   clear H; have H := H1; clear H1; replace H := Option.bind_eq_some_iff.mp H; obtain ⟨t336, A80, H⟩ := H; replace H : (if t336 = true then (if a1 = a2 then (some 70) else (some 0)) else (some 70)) = some r := H; have A8 := am_ A80; clear A80
   by_cases c9 : t336 = true
   ·subst c9
    have H1 : (if a1 = a2 then (some 70) else (some 0)) = some r := by rw [if_pos rfl] at H; exact H
    clear H; have H := H1; clear H1
    by_cases c10 : a1 = a2
    ·rw [if_pos c10] at H
     obtain ⟨c10b0, c10b1⟩ := eqb_ c10; clear c10; obtain rfl := Option.some.inj H
     go_enter Try.func84, Try.ntmps84
     go_wp2_with (first | ((with_reducible refine gate_dst (N := 3) rfl ?_); refine bx_ 3 #[.int .i64 a0_0, .bool a0_1, .slice A0_2 l0_2.length c0_2] 24 ?_; intro gb333 hg w11 BK333 hb; have GE333 := ge_ (w := w) hg; replace HB := hst_ hb; clear hb hg; obtain ⟨hcz12_0, hcz12_1, hcz12_2, hfz12_0, hfz12_1, hfz12_2⟩ := cf3_ BK333.out) | ((with_reducible refine gate_callee (f := 36) rfl ?_); refine cl_ 9 Try.func36 (ebbtideref05_Check.calls k a0_0 a0_1 _ _ l0_2 t334 _ (cb_ HR0_2.out) HC0_2.out A4.out) ?_; rintro e w13 ⟨rfl, hb⟩; refine ⟨_, rfl, ?_⟩; replace BK333 := am_ (bb_ BK333.out hb); replace HB := hst_ hb; (try clear hb); (try clear hb2); (try clear hk); (try clear hi); obtain ⟨hcz14_0, hcz14_1, hcz14_2, hfz14_0, hfz14_1, hfz14_2⟩ := cf3_ BK333.out) | ((with_reducible refine gate_callee (f := 92) rfl ?_); refine cl_ 15 Try.func92 (ebbtideref06_Node.calls a0_0 a0_1 _ _ l0_2 a1 true _ (cb_ HR0_2.out) HC0_2.out A6.out) ?_; rintro e w15 ⟨rfl, hb⟩; refine ⟨_, rfl, ?_⟩; replace BK333 := am_ (bb_ BK333.out hb); replace HB := hst_ hb; (try clear hb); (try clear hb2); (try clear hk); (try clear hi); obtain ⟨hcz16_0, hcz16_1, hcz16_2, hfz16_0, hfz16_1, hfz16_2⟩ := cf3_ BK333.out) | (go_at_call 92; (with_reducible refine (ebbtideref06_Node.calls a0_0 a0_1 _ _ l0_2 a2 true _ ?side1 ?side2 A8.out).mono ?_); (case side1 => exact cb_ HR0_2.out); (case side2 => exact HC0_2.out); rintro e w17 ⟨rfl, hb⟩; replace BK333 := am_ (bb_ BK333.out hb); replace HB := hst_ hb; (try clear hb); (try clear hb2); (try clear hk); (try clear hi)))
     go_ret
     exact ⟨er_, hb_⟩
    ·rw [if_neg c10] at H
     obtain ⟨c10b0, c10b1⟩ := neb_ c10; obtain rfl := Option.some.inj H
     go_enter Try.func84, Try.ntmps84
     go_wp2_with (first | ((with_reducible refine gate_dst (N := 3) rfl ?_); refine bx_ 3 #[.int .i64 a0_0, .bool a0_1, .slice A0_2 l0_2.length c0_2] 24 ?_; intro gb333 hg w18 BK333 hb; have GE333 := ge_ (w := w) hg; replace HB := hst_ hb; clear hb hg; obtain ⟨hcz19_0, hcz19_1, hcz19_2, hfz19_0, hfz19_1, hfz19_2⟩ := cf3_ BK333.out) | ((with_reducible refine gate_callee (f := 36) rfl ?_); refine cl_ 9 Try.func36 (ebbtideref05_Check.calls k a0_0 a0_1 _ _ l0_2 t334 _ (cb_ HR0_2.out) HC0_2.out A4.out) ?_; rintro e w20 ⟨rfl, hb⟩; refine ⟨_, rfl, ?_⟩; replace BK333 := am_ (bb_ BK333.out hb); replace HB := hst_ hb; (try clear hb); (try clear hb2); (try clear hk); (try clear hi); obtain ⟨hcz21_0, hcz21_1, hcz21_2, hfz21_0, hfz21_1, hfz21_2⟩ := cf3_ BK333.out) | ((with_reducible refine gate_callee (f := 92) rfl ?_); refine cl_ 15 Try.func92 (ebbtideref06_Node.calls a0_0 a0_1 _ _ l0_2 a1 true _ (cb_ HR0_2.out) HC0_2.out A6.out) ?_; rintro e w22 ⟨rfl, hb⟩; refine ⟨_, rfl, ?_⟩; replace BK333 := am_ (bb_ BK333.out hb); replace HB := hst_ hb; (try clear hb); (try clear hb2); (try clear hk); (try clear hi); obtain ⟨hcz23_0, hcz23_1, hcz23_2, hfz23_0, hfz23_1, hfz23_2⟩ := cf3_ BK333.out) | (go_at_call 92; (with_reducible refine (ebbtideref06_Node.calls a0_0 a0_1 _ _ l0_2 a2 true _ ?side1 ?side2 A8.out).mono ?_); (case side1 => exact cb_ HR0_2.out); (case side2 => exact HC0_2.out); rintro e w24 ⟨rfl, hb⟩; replace BK333 := am_ (bb_ BK333.out hb); replace HB := hst_ hb; (try clear hb); (try clear hb2); (try clear hk); (try clear hi)))
     go_ret
     exact ⟨er_, hb_⟩
   ·replace c9 := Bool.eq_false_iff.mpr c9
    subst c9
    have H1 : (some 70) = some r := by rw [if_neg (show ¬ (false = true) by decide)] at H; exact H
    clear H; have H := H1; clear H1; obtain rfl := Option.some.inj H
    go_enter Try.func84, Try.ntmps84
    go_wp2_with (first | ((with_reducible refine gate_dst (N := 3) rfl ?_); refine bx_ 3 #[.int .i64 a0_0, .bool a0_1, .slice A0_2 l0_2.length c0_2] 24 ?_; intro gb333 hg w25 BK333 hb; have GE333 := ge_ (w := w) hg; replace HB := hst_ hb; clear hb hg; obtain ⟨hcz26_0, hcz26_1, hcz26_2, hfz26_0, hfz26_1, hfz26_2⟩ := cf3_ BK333.out) | ((with_reducible refine gate_callee (f := 36) rfl ?_); refine cl_ 9 Try.func36 (ebbtideref05_Check.calls k a0_0 a0_1 _ _ l0_2 t334 _ (cb_ HR0_2.out) HC0_2.out A4.out) ?_; rintro e w27 ⟨rfl, hb⟩; refine ⟨_, rfl, ?_⟩; replace BK333 := am_ (bb_ BK333.out hb); replace HB := hst_ hb; (try clear hb); (try clear hb2); (try clear hk); (try clear hi); obtain ⟨hcz28_0, hcz28_1, hcz28_2, hfz28_0, hfz28_1, hfz28_2⟩ := cf3_ BK333.out) | ((with_reducible refine gate_callee (f := 92) rfl ?_); refine cl_ 15 Try.func92 (ebbtideref06_Node.calls a0_0 a0_1 _ _ l0_2 a1 true _ (cb_ HR0_2.out) HC0_2.out A6.out) ?_; rintro e w29 ⟨rfl, hb⟩; refine ⟨_, rfl, ?_⟩; replace BK333 := am_ (bb_ BK333.out hb); replace HB := hst_ hb; (try clear hb); (try clear hb2); (try clear hk); (try clear hi); obtain ⟨hcz30_0, hcz30_1, hcz30_2, hfz30_0, hfz30_1, hfz30_2⟩ := cf3_ BK333.out) | (go_at_call 92; (with_reducible refine (ebbtideref06_Node.calls a0_0 a0_1 _ _ l0_2 a2 false _ ?side1 ?side2 A8.out).mono ?_); (case side1 => exact cb_ HR0_2.out); (case side2 => exact HC0_2.out); rintro e w31 ⟨rfl, hb⟩; replace BK333 := am_ (bb_ BK333.out hb); replace HB := hst_ hb; (try clear hb); (try clear hb2); (try clear hk); (try clear hi)))
    go_ret
    exact ⟨er_, hb_⟩
  ·replace c7 := Bool.eq_false_iff.mpr c7
   subst c7
   have H1 : (some 70) = some r := by rw [if_neg (show ¬ (false = true) by decide)] at H; exact H
   clear H; have H := H1; clear H1; obtain rfl := Option.some.inj H
   go_enter Try.func84, Try.ntmps84
   go_wp2_with (first | ((with_reducible refine gate_dst (N := 3) rfl ?_); refine bx_ 3 #[.int .i64 a0_0, .bool a0_1, .slice A0_2 l0_2.length c0_2] 24 ?_; intro gb333 hg w32 BK333 hb; have GE333 := ge_ (w := w) hg; replace HB := hst_ hb; clear hb hg; obtain ⟨hcz33_0, hcz33_1, hcz33_2, hfz33_0, hfz33_1, hfz33_2⟩ := cf3_ BK333.out) | ((with_reducible refine gate_callee (f := 36) rfl ?_); refine cl_ 9 Try.func36 (ebbtideref05_Check.calls k a0_0 a0_1 _ _ l0_2 t334 _ (cb_ HR0_2.out) HC0_2.out A4.out) ?_; rintro e w34 ⟨rfl, hb⟩; refine ⟨_, rfl, ?_⟩; replace BK333 := am_ (bb_ BK333.out hb); replace HB := hst_ hb; (try clear hb); (try clear hb2); (try clear hk); (try clear hi); obtain ⟨hcz35_0, hcz35_1, hcz35_2, hfz35_0, hfz35_1, hfz35_2⟩ := cf3_ BK333.out) | ((with_reducible refine gate_callee (f := 92) rfl ?_); refine cl_ 15 Try.func92 (ebbtideref06_Node.calls a0_0 a0_1 _ _ l0_2 a1 false _ (cb_ HR0_2.out) HC0_2.out A6.out) ?_; rintro e w36 ⟨rfl, hb⟩; refine ⟨_, rfl, ?_⟩; replace BK333 := am_ (bb_ BK333.out hb); replace HB := hst_ hb; (try clear hb); (try clear hb2); (try clear hk); (try clear hi)))
   go_ret
   exact ⟨er_, hb_⟩
 ·rw [if_neg c5] at H
  obtain ⟨c5b0, c5b1⟩ := neb_ c5; obtain rfl := Option.some.inj H
  go_enter Try.func84, Try.ntmps84
  go_wp2_with (first | ((with_reducible refine gate_dst (N := 3) rfl ?_); refine bx_ 3 #[.int .i64 a0_0, .bool a0_1, .slice A0_2 l0_2.length c0_2] 24 ?_; intro gb333 hg w37 BK333 hb; have GE333 := ge_ (w := w) hg; replace HB := hst_ hb; clear hb hg; obtain ⟨hcz38_0, hcz38_1, hcz38_2, hfz38_0, hfz38_1, hfz38_2⟩ := cf3_ BK333.out) | ((with_reducible refine gate_callee (f := 36) rfl ?_); refine cl_ 9 Try.func36 (ebbtideref05_Check.calls k a0_0 a0_1 _ _ l0_2 t334 _ (cb_ HR0_2.out) HC0_2.out A4.out) ?_; rintro e w39 ⟨rfl, hb⟩; refine ⟨_, rfl, ?_⟩; replace BK333 := am_ (bb_ BK333.out hb); replace HB := hst_ hb; (try clear hb); (try clear hb2); (try clear hk); (try clear hi)))
  go_ret
  exact ⟨er_, hb_⟩
def ebbtideref12_Asked.f (k : Nat) (a0_0 : Int) (a0_1 : Bool) (l0_2 : List (S54)) (a1 : Int) (a2 : Int) (a3 : Int) : Option (Int) := (ebbtideref07_Ends.f k a0_0 a0_1 l0_2 a1 a2).bind fun t338 => (if t338 = 0 then ((ebbtideref12_Span.f a3).bind fun t339 => (some t339)) else (some t338))
set_option maxHeartbeats 8000000 in
set_option maxRecDepth 100000 in
theorem ebbtideref12_Asked.calls (k : Nat) (a0_0 : Int) (a0_1 : Bool) (A0_2 : Option Addr) (c0_2 : Nat) (l0_2 : List (S54)) (a1 : Int) (a2 : Int) (a3 : Int) (r : Int) (w : World) (hr0_2 : Kd.C k54 w A0_2 l0_2.length l0_2) (hc0_2 : l0_2.length ≤ c0_2) (h : ebbtideref12_Asked.f k a0_0 a0_1 l0_2 a1 a2 a3 = some r) :
  Calls Try.prog 65 #[.agg #[.int .i64 a0_0, .bool a0_1, .slice A0_2 l0_2.length c0_2], .int .i64 a1, .int .i64 a2, .int .i64 a3] w fun e w' => e = .returned (.int .i64 r) ∧ Below w.heap.size w w' := by
 have hu24 := Try.underlying24; have HR0_2 := am_ hr0_2; have HC0_2 := am_ hc0_2; clear hr0_2 hc0_2; have HB := am_ (Below.refl w.heap.size w); have H : ((ebbtideref07_Ends.f k a0_0 a0_1 l0_2 a1 a2).bind fun t338 => (if t338 = 0 then ((ebbtideref12_Span.f a3).bind fun t339 => (some t339)) else (some t338))) = some r := h; clear h; replace H := Option.bind_eq_some_iff.mp H; obtain ⟨t338, A50, H⟩ := H; replace H : (if t338 = 0 then ((ebbtideref12_Span.f a3).bind fun t339 => (some t339)) else (some t338)) = some r := H; have A5 := am_ A50; clear A50
 by_cases c6 : t338 = 0
 ·rw [if_pos c6] at H
  obtain ⟨c6b0, c6b1⟩ := eqb_ c6; clear c6; replace H := Option.bind_eq_some_iff.mp H; obtain ⟨t339, A70, H⟩ := H; replace H : (some t339) = some r := H; have A7 := am_ A70; clear A70; obtain rfl := Option.some.inj H
  go_enter Try.func65, Try.ntmps65
  go_wp2_with (first | ((with_reducible refine gate_dst (N := 4) rfl ?_); refine bx_ 4 #[.int .i64 a0_0, .bool a0_1, .slice A0_2 l0_2.length c0_2] 24 ?_; intro gb337 hg w8 BK337 hb; have GE337 := ge_ (w := w) hg; replace HB := hst_ hb; clear hb hg; obtain ⟨hcz9_0, hcz9_1, hcz9_2, hfz9_0, hfz9_1, hfz9_2⟩ := cf3_ BK337.out) | ((with_reducible refine gate_callee (f := 84) rfl ?_); refine cl_ 13 Try.func84 (ebbtideref07_Ends.calls k a0_0 a0_1 _ _ l0_2 a1 a2 t338 _ (cb_ HR0_2.out) HC0_2.out A5.out) ?_; rintro e w10 ⟨rfl, hb⟩; refine ⟨_, rfl, ?_⟩; replace BK337 := am_ (bb_ BK337.out hb); replace HB := hst_ hb; (try clear hb); (try clear hb2); (try clear hk); (try clear hi)) | ((with_reducible refine gate_callee (f := 37) rfl ?_); refine cl_ 18 Try.func37 (ebbtideref12_Span.calls a3 t339 _ A7.out) ?_; rintro e w' ⟨rfl, ⟨nd, rfl⟩⟩; refine ⟨_, rfl, ?_⟩))
  go_ret
  exact ⟨er_, hb_⟩
 ·rw [if_neg c6] at H
  obtain ⟨c6b0, c6b1⟩ := neb_ c6; obtain rfl := Option.some.inj H
  go_enter Try.func65, Try.ntmps65
  go_wp2_with (first | ((with_reducible refine gate_dst (N := 4) rfl ?_); refine bx_ 4 #[.int .i64 a0_0, .bool a0_1, .slice A0_2 l0_2.length c0_2] 24 ?_; intro gb337 hg w11 BK337 hb; have GE337 := ge_ (w := w) hg; replace HB := hst_ hb; clear hb hg; obtain ⟨hcz12_0, hcz12_1, hcz12_2, hfz12_0, hfz12_1, hfz12_2⟩ := cf3_ BK337.out) | ((with_reducible refine gate_callee (f := 84) rfl ?_); refine cl_ 13 Try.func84 (ebbtideref07_Ends.calls k a0_0 a0_1 _ _ l0_2 a1 a2 t338 _ (cb_ HR0_2.out) HC0_2.out A5.out) ?_; rintro e w13 ⟨rfl, hb⟩; refine ⟨_, rfl, ?_⟩; replace BK337 := am_ (bb_ BK337.out hb); replace HB := hst_ hb; (try clear hb); (try clear hb2); (try clear hk); (try clear hi)))
  go_ret
  exact ⟨er_, hb_⟩
end Go.Proofs.Ytfhkkbpkajfdlaa.Q
end
section
namespace Go.Proofs.Ytfhkkbpkajfdlaa.Q
open Go.RowKit Go.Proofs.YtfhkkbpkajfdlaaW.PrintWords Go.Proofs.YtfhkkbpkajfdlaaW.PrintLast Go.Proofs.YtfhkkbpkajfdlaaW.PrintMore
attribute [local go_sem] max2_int min2_int max_two min_two min_four
theorem eqA54 (d : Nat) (w : World) (x0 y0 : Int) (x1 y1 : Int) (x2 y2 : Int) (x3 y3 : Int) :
  (Op.equalIn (d + 2) 54 (.agg #[.int .i64 x0, .int .i64 x1, .int .i64 x2, .int .i64 x3]) (.agg #[.int .i64 y0, .int .i64 y1, .int .i64 y2, .int .i64 y3])).run Try.prog w = .ok (x0 == y0 && (x1 == y1 && (x2 == y2 && (x3 == y3)))) w := by
 refine eqA_of Try.underlying54 (by kernel_rfl) ?_; refine eqf_cons (by rfl) (by go_simp; rfl) (by go_simp; rfl) (by go_simp) ?_; refine eqf_cons (by rfl) (by go_simp; rfl) (by go_simp; rfl) (by go_simp) ?_; refine eqf_cons (by rfl) (by go_simp; rfl) (by go_simp; rfl) (by go_simp) ?_; exact eqf_last (by rfl) (by go_simp; rfl) (by go_simp; rfl) (by go_simp)
def expand_Index.f (k : Nat) (a0_0 : Int) (a0_1 : Bool) (l0_2 : List (S54)) (a1 : Int) (a2_0 : Int) (a2_1 : Int) : Option (Int × Int) := (expand_Fits.f k a0_0 a0_1 l0_2 a1).bind fun t223 => (if t223 = true then (if (mn a2_0 a2_1) < 0 then (some (0, 180)) else (if a2_0 ≥ a0_0 then (some (0, 180)) else (if a2_1 > a1 then (some (0, 180)) else (some (wrap64 ((wrap64 (a2_1 * a0_0)) + a2_0), 0))))) else (some (0, 2)))
theorem expand_Index.mono : ∀ a0 a1 a2 a3 a4 a5 k, LeO (expand_Index.f k a0 a1 a2 a3 a4 a5) (expand_Index.f (k + 1) a0 a1 a2 a3 a4 a5) := by
 intro a0 a1 a2 a3 a4 a5 k
 unfold expand_Index.f
 repeat' first
   | (with_reducible exact expand_Fits.mono _ _ _ _ _)
   | (with_reducible exact LeO.refl _)
   | (with_reducible exact LeO.none _)
   | (with_reducible refine LeO.ite ?_ ?_)
   | (with_reducible refine LeO.bind ?_ (fun _ => ?_))
   | exact expand_Fits.mono _ _ _ _ _
   | exact LeO.none _
   | refine LeO.ite ?_ ?_
   | refine LeO.bind ?_ (fun _ => ?_)
set_option maxHeartbeats 8000000 in
set_option maxRecDepth 100000 in
theorem expand_Index.calls (k : Nat) (a0_0 : Int) (a0_1 : Bool) (A0_2 : Option Addr) (c0_2 : Nat) (l0_2 : List (S54)) (a1 : Int) (a2_0 : Int) (a2_1 : Int) (r1 : Int) (r2 : Int) (w : World) (hr0_2 : Kd.C k54 w A0_2 l0_2.length l0_2) (hc0_2 : l0_2.length ≤ c0_2) (h : expand_Index.f k a0_0 a0_1 l0_2 a1 a2_0 a2_1 = some (r1, r2)) :
  Calls Try.prog 10 #[.agg #[.int .i64 a0_0, .bool a0_1, .slice A0_2 l0_2.length c0_2], .int .i64 a1, .agg #[.int .i64 a2_0, .int .i64 a2_1]] w fun e w' => e = .returned (.tuple #[.int .i64 r1, .int .i64 r2]) ∧ Below w.heap.size w w' := by
 have hu24 := Try.underlying24; have hu26 := Try.underlying26; have HR0_2 := am_ hr0_2; have HC0_2 := am_ hc0_2; clear hr0_2 hc0_2; have HB := am_ (Below.refl w.heap.size w); have H : ((expand_Fits.f k a0_0 a0_1 l0_2 a1).bind fun t223 => (if t223 = true then (if (mn a2_0 a2_1) < 0 then (some (0, 180)) else (if a2_0 ≥ a0_0 then (some (0, 180)) else (if a2_1 > a1 then (some (0, 180)) else (some (wrap64 ((wrap64 (a2_1 * a0_0)) + a2_0), 0))))) else (some (0, 2)))) = some (r1, r2) := h; clear h; replace H := Option.bind_eq_some_iff.mp H; obtain ⟨t223, A40, H⟩ := H; replace H : (if t223 = true then (if (mn a2_0 a2_1) < 0 then (some (0, 180)) else (if a2_0 ≥ a0_0 then (some (0, 180)) else (if a2_1 > a1 then (some (0, 180)) else (some (wrap64 ((wrap64 (a2_1 * a0_0)) + a2_0), 0))))) else (some (0, 2))) = some (r1, r2) := H; have A4 := am_ A40; clear A40
 by_cases c5 : t223 = true
 ·subst c5
  have H1 : (if (mn a2_0 a2_1) < 0 then (some (0, 180)) else (if a2_0 ≥ a0_0 then (some (0, 180)) else (if a2_1 > a1 then (some (0, 180)) else (some (wrap64 ((wrap64 (a2_1 * a0_0)) + a2_0), 0))))) = some (r1, r2) := by rw [if_pos rfl] at H; exact H
  clear H; have H := H1; clear H1; obtain ⟨ji6, hji6⟩ : ∃ j_ : Int, (mn a2_0 a2_1) = j_ := ⟨_, rfl⟩
  replace H : (if (ji6) < 0 then (some (0, 180)) else (if a2_0 ≥ a0_0 then (some (0, 180)) else (if a2_1 > a1 then (some (0, 180)) else (some (wrap64 ((wrap64 (a2_1 * a0_0)) + a2_0), 0))))) = some (r1, r2) := by first | (rw [hji6] at H; exact H) | (simp only [hji6] at H ⊢; exact H)
  (try rw [hji6] at A4)
  have hji6_ : (if a2_1 < a2_0 then a2_1 else a2_0) = ji6 := hji6
  by_cases c7 : (ji6) < 0
  ·rw [if_pos c7] at H
   have c7b0 := decide_eq_true c7; clear c7; simp only [Option.some.injEq, Prod.mk.injEq] at H; obtain ⟨rfl, rfl⟩ := H
   go_enter Try.func10, Try.ntmps10
   go_wp2_with (first | ((with_reducible refine gate_dst (N := 3) rfl ?_); refine bx_ 3 #[.int .i64 a0_0, .bool a0_1, .slice A0_2 l0_2.length c0_2] 24 ?_; intro gb221 hg w8 BK221 hb; have GE221 := ge_ (w := w) hg; replace HB := hst_ hb; clear hb hg) | ((with_reducible refine gate_dst (N := 5) rfl ?_); refine bx_ 5 #[.int .i64 a2_0, .int .i64 a2_1] 26 ?_; intro gb222 hg w9 BK222 hb; have GE222 := ge_ (w := w) hg; replace HB := hst_ hb; have NB221_222 := am_ (nl_ BK221.out hg); have NB222_221 := am_ (ng_ BK221.out hg); replace BK221 := am_ (bb_ BK221.out hb); clear hb hg; have hnb10 := NB221_222.out; have hnc10 := NB222_221.out; obtain ⟨hcz11_0, hcz11_1, hcz11_2, hfz11_0, hfz11_1, hfz11_2⟩ := cf3_ BK221.out) | ((with_reducible refine gate_callee (f := 15) rfl ?_); refine cl_ 11 Try.func15 (expand_Fits.calls k a0_0 a0_1 _ _ l0_2 a1 true _ (cb_ HR0_2.out) HC0_2.out A4.out) ?_; rintro e w12 ⟨rfl, hb⟩; refine ⟨_, rfl, ?_⟩; replace BK221 := am_ (bb_ BK221.out hb); replace BK222 := am_ (bb_ BK222.out hb); replace HB := hst_ hb; (try clear hb); (try clear hb2); (try clear hk); (try clear hi); obtain ⟨hcz13_0, hcz13_1, hfz13_0, hfz13_1⟩ := cf2_ BK222.out))
   go_ret2
   exact ⟨by first | rfl | (simp [errW_none, errW_some] <;> rfl) | (simp only [← hji6]; first | rfl | (simp [errW_none, errW_some] <;> rfl)) | (simp [*, errW_none, errW_some] <;> rfl), hb_⟩
  ·rw [if_neg c7] at H
   have c7b0 := decide_eq_false c7; clear c7
   by_cases c14 : a2_0 ≥ a0_0
   ·rw [if_pos c14] at H
    have c14b0 := decide_eq_true c14; clear c14; simp only [Option.some.injEq, Prod.mk.injEq] at H; obtain ⟨rfl, rfl⟩ := H
    go_enter Try.func10, Try.ntmps10
    go_wp2_with (first | ((with_reducible refine gate_dst (N := 3) rfl ?_); refine bx_ 3 #[.int .i64 a0_0, .bool a0_1, .slice A0_2 l0_2.length c0_2] 24 ?_; intro gb221 hg w15 BK221 hb; have GE221 := ge_ (w := w) hg; replace HB := hst_ hb; clear hb hg) | ((with_reducible refine gate_dst (N := 5) rfl ?_); refine bx_ 5 #[.int .i64 a2_0, .int .i64 a2_1] 26 ?_; intro gb222 hg w16 BK222 hb; have GE222 := ge_ (w := w) hg; replace HB := hst_ hb; have NB221_222 := am_ (nl_ BK221.out hg); have NB222_221 := am_ (ng_ BK221.out hg); replace BK221 := am_ (bb_ BK221.out hb); clear hb hg; have hnb17 := NB221_222.out; have hnc17 := NB222_221.out; obtain ⟨hcz18_0, hcz18_1, hcz18_2, hfz18_0, hfz18_1, hfz18_2⟩ := cf3_ BK221.out) | ((with_reducible refine gate_callee (f := 15) rfl ?_); refine cl_ 11 Try.func15 (expand_Fits.calls k a0_0 a0_1 _ _ l0_2 a1 true _ (cb_ HR0_2.out) HC0_2.out A4.out) ?_; rintro e w19 ⟨rfl, hb⟩; refine ⟨_, rfl, ?_⟩; replace BK221 := am_ (bb_ BK221.out hb); replace BK222 := am_ (bb_ BK222.out hb); replace HB := hst_ hb; (try clear hb); (try clear hb2); (try clear hk); (try clear hi); obtain ⟨hcz20_0, hcz20_1, hfz20_0, hfz20_1⟩ := cf2_ BK222.out; obtain ⟨hcz21_0, hcz21_1, hcz21_2, hfz21_0, hfz21_1, hfz21_2⟩ := cf3_ BK221.out))
    go_ret2
    exact ⟨by first | rfl | (simp [errW_none, errW_some] <;> rfl) | (simp only [← hji6]; first | rfl | (simp [errW_none, errW_some] <;> rfl)) | (simp [*, errW_none, errW_some] <;> rfl), hb_⟩
   ·rw [if_neg c14] at H
    have c14b0 := decide_eq_false c14; clear c14
    by_cases c22 : a2_1 > a1
    ·rw [if_pos c22] at H
     have c22b0 := decide_eq_true c22; clear c22; simp only [Option.some.injEq, Prod.mk.injEq] at H; obtain ⟨rfl, rfl⟩ := H
     go_enter Try.func10, Try.ntmps10
     go_wp2_with (first | ((with_reducible refine gate_dst (N := 3) rfl ?_); refine bx_ 3 #[.int .i64 a0_0, .bool a0_1, .slice A0_2 l0_2.length c0_2] 24 ?_; intro gb221 hg w23 BK221 hb; have GE221 := ge_ (w := w) hg; replace HB := hst_ hb; clear hb hg) | ((with_reducible refine gate_dst (N := 5) rfl ?_); refine bx_ 5 #[.int .i64 a2_0, .int .i64 a2_1] 26 ?_; intro gb222 hg w24 BK222 hb; have GE222 := ge_ (w := w) hg; replace HB := hst_ hb; have NB221_222 := am_ (nl_ BK221.out hg); have NB222_221 := am_ (ng_ BK221.out hg); replace BK221 := am_ (bb_ BK221.out hb); clear hb hg; have hnb25 := NB221_222.out; have hnc25 := NB222_221.out; obtain ⟨hcz26_0, hcz26_1, hcz26_2, hfz26_0, hfz26_1, hfz26_2⟩ := cf3_ BK221.out) | ((with_reducible refine gate_callee (f := 15) rfl ?_); refine cl_ 11 Try.func15 (expand_Fits.calls k a0_0 a0_1 _ _ l0_2 a1 true _ (cb_ HR0_2.out) HC0_2.out A4.out) ?_; rintro e w27 ⟨rfl, hb⟩; refine ⟨_, rfl, ?_⟩; replace BK221 := am_ (bb_ BK221.out hb); replace BK222 := am_ (bb_ BK222.out hb); replace HB := hst_ hb; (try clear hb); (try clear hb2); (try clear hk); (try clear hi); obtain ⟨hcz28_0, hcz28_1, hfz28_0, hfz28_1⟩ := cf2_ BK222.out; obtain ⟨hcz29_0, hcz29_1, hcz29_2, hfz29_0, hfz29_1, hfz29_2⟩ := cf3_ BK221.out))
     go_ret2
     exact ⟨by first | rfl | (simp [errW_none, errW_some] <;> rfl) | (simp only [← hji6]; first | rfl | (simp [errW_none, errW_some] <;> rfl)) | (simp [*, errW_none, errW_some] <;> rfl), hb_⟩
    ·rw [if_neg c22] at H
     have c22b0 := decide_eq_false c22; clear c22; simp only [Option.some.injEq, Prod.mk.injEq] at H; obtain ⟨rfl, rfl⟩ := H
     go_enter Try.func10, Try.ntmps10
     go_wp2_with (first | ((with_reducible refine gate_dst (N := 3) rfl ?_); refine bx_ 3 #[.int .i64 a0_0, .bool a0_1, .slice A0_2 l0_2.length c0_2] 24 ?_; intro gb221 hg w30 BK221 hb; have GE221 := ge_ (w := w) hg; replace HB := hst_ hb; clear hb hg) | ((with_reducible refine gate_dst (N := 5) rfl ?_); refine bx_ 5 #[.int .i64 a2_0, .int .i64 a2_1] 26 ?_; intro gb222 hg w31 BK222 hb; have GE222 := ge_ (w := w) hg; replace HB := hst_ hb; have NB221_222 := am_ (nl_ BK221.out hg); have NB222_221 := am_ (ng_ BK221.out hg); replace BK221 := am_ (bb_ BK221.out hb); clear hb hg; have hnb32 := NB221_222.out; have hnc32 := NB222_221.out; obtain ⟨hcz33_0, hcz33_1, hcz33_2, hfz33_0, hfz33_1, hfz33_2⟩ := cf3_ BK221.out) | ((with_reducible refine gate_callee (f := 15) rfl ?_); refine cl_ 11 Try.func15 (expand_Fits.calls k a0_0 a0_1 _ _ l0_2 a1 true _ (cb_ HR0_2.out) HC0_2.out A4.out) ?_; rintro e w34 ⟨rfl, hb⟩; refine ⟨_, rfl, ?_⟩; replace BK221 := am_ (bb_ BK221.out hb); replace BK222 := am_ (bb_ BK222.out hb); replace HB := hst_ hb; (try clear hb); (try clear hb2); (try clear hk); (try clear hi); obtain ⟨hcz35_0, hcz35_1, hfz35_0, hfz35_1⟩ := cf2_ BK222.out; obtain ⟨hcz36_0, hcz36_1, hcz36_2, hfz36_0, hfz36_1, hfz36_2⟩ := cf3_ BK221.out))
     go_ret2
     exact ⟨by first | rfl | (simp [errW_none, errW_some] <;> rfl) | (simp only [← hji6]; first | rfl | (simp [errW_none, errW_some] <;> rfl)) | (simp [*, errW_none, errW_some] <;> rfl), hb_⟩
 ·replace c5 := Bool.eq_false_iff.mpr c5
  subst c5
  have H1 : (some (0, 2)) = some (r1, r2) := by rw [if_neg (show ¬ (false = true) by decide)] at H; exact H
  clear H; have H := H1; clear H1; simp only [Option.some.injEq, Prod.mk.injEq] at H; obtain ⟨rfl, rfl⟩ := H
  go_enter Try.func10, Try.ntmps10
  go_wp2_with (first | ((with_reducible refine gate_dst (N := 3) rfl ?_); refine bx_ 3 #[.int .i64 a0_0, .bool a0_1, .slice A0_2 l0_2.length c0_2] 24 ?_; intro gb221 hg w37 BK221 hb; have GE221 := ge_ (w := w) hg; replace HB := hst_ hb; clear hb hg) | ((with_reducible refine gate_dst (N := 5) rfl ?_); refine bx_ 5 #[.int .i64 a2_0, .int .i64 a2_1] 26 ?_; intro gb222 hg w38 BK222 hb; have GE222 := ge_ (w := w) hg; replace HB := hst_ hb; have NB221_222 := am_ (nl_ BK221.out hg); have NB222_221 := am_ (ng_ BK221.out hg); replace BK221 := am_ (bb_ BK221.out hb); clear hb hg; have hnb39 := NB221_222.out; have hnc39 := NB222_221.out; obtain ⟨hcz40_0, hcz40_1, hcz40_2, hfz40_0, hfz40_1, hfz40_2⟩ := cf3_ BK221.out) | ((with_reducible refine gate_callee (f := 15) rfl ?_); refine cl_ 11 Try.func15 (expand_Fits.calls k a0_0 a0_1 _ _ l0_2 a1 false _ (cb_ HR0_2.out) HC0_2.out A4.out) ?_; rintro e w41 ⟨rfl, hb⟩; refine ⟨_, rfl, ?_⟩; replace BK221 := am_ (bb_ BK221.out hb); replace BK222 := am_ (bb_ BK222.out hb); replace HB := hst_ hb; (try clear hb); (try clear hb2); (try clear hk); (try clear hi)))
  go_ret2
  exact ⟨er_, hb_⟩
end Go.Proofs.Ytfhkkbpkajfdlaa.Q
end
section
namespace Go.Proofs.Ytfhkkbpkajfdlaa.Q
open Go.RowKit Go.Proofs.YtfhkkbpkajfdlaaW.PrintWords Go.Proofs.YtfhkkbpkajfdlaaW.PrintLast Go.Proofs.YtfhkkbpkajfdlaaW.PrintMore
def expand_Place.f (k : Nat) (a0_0 : Int) (a0_1 : Bool) (l0_2 : List (S54)) (a1 : Int) (a2 : Int) : Option (Int × Int × Int) := (expand_Fits.f k a0_0 a0_1 l0_2 a1).bind fun t240 => (if t240 = true then (if a2 < 0 then (some (0, 0, 180)) else (if a2 ≥ (wrap64 ((wrap64 (a1 + 1)) * a0_0)) then (some (0, 0, 180)) else (if a0_0 = 0 then (none) else (some (Int.tmod a2 a0_0, wrap64 (Int.tdiv a2 a0_0), 0))))) else (some (0, 0, 2)))
theorem expand_Place.mono : ∀ a0 a1 a2 a3 a4 k, LeO (expand_Place.f k a0 a1 a2 a3 a4) (expand_Place.f (k + 1) a0 a1 a2 a3 a4) := by
 intro a0 a1 a2 a3 a4 k
 unfold expand_Place.f
 repeat' first
   | (with_reducible exact expand_Fits.mono _ _ _ _ _)
   | (with_reducible exact LeO.refl _)
   | (with_reducible exact LeO.none _)
   | (with_reducible refine LeO.ite ?_ ?_)
   | (with_reducible refine LeO.bind ?_ (fun _ => ?_))
   | exact expand_Fits.mono _ _ _ _ _
   | exact LeO.none _
   | refine LeO.ite ?_ ?_
   | refine LeO.bind ?_ (fun _ => ?_)
def expand_Place.T5 : Bool × List (List Nat × List Nat) := (true, [([], []), ([], []), ([1], [1]), ([0, 2], [0, 2]), ([], []), ([], []), ([5], [5]), ([4, 6], [4, 6]), ([3, 7], [3, 7]), ([8, 0, 1, 2, 3, 4, 5, 6, 7, 8], [8]), ([9, 0, 1, 2, 3, 4, 5, 6, 7, 8, 9], [])])
def expand_Place.B5 : List Nat := [0, 0, 2, 7, 0, 0, 32, 112, 255, 511, 1023]
theorem expand_Place.tab5 : rtab .any (opsOf Try.f12 5) = expand_Place.T5 := by kernel_rfl
theorem expand_Place.bits5 : waitsOk expand_Place.T5.2 expand_Place.B5 = true := by kernel_rfl
set_option maxHeartbeats 8000000 in
set_option maxRecDepth 100000 in
theorem expand_Place.calls (k : Nat) (a0_0 : Int) (a0_1 : Bool) (A0_2 : Option Addr) (c0_2 : Nat) (l0_2 : List (S54)) (a1 : Int) (a2 : Int) (r1 : Int) (r2 : Int) (r3 : Int) (w : World) (hr0_2 : Kd.C k54 w A0_2 l0_2.length l0_2) (hc0_2 : l0_2.length ≤ c0_2) (h : expand_Place.f k a0_0 a0_1 l0_2 a1 a2 = some (r1, r2, r3)) :
  Calls Try.prog 12 #[.agg #[.int .i64 a0_0, .bool a0_1, .slice A0_2 l0_2.length c0_2], .int .i64 a1, .int .i64 a2] w fun e w' => e = .returned (.tuple #[.agg #[.int .i64 r1, .int .i64 r2], .int .i64 r3]) ∧ Below w.heap.size w w' := by
 have hu24 := Try.underlying24; have hu26 := Try.underlying26; have HR0_2 := am_ hr0_2; have HC0_2 := am_ hc0_2; clear hr0_2 hc0_2; have HB := am_ (Below.refl w.heap.size w); have H : ((expand_Fits.f k a0_0 a0_1 l0_2 a1).bind fun t240 => (if t240 = true then (if a2 < 0 then (some (0, 0, 180)) else (if a2 ≥ (wrap64 ((wrap64 (a1 + 1)) * a0_0)) then (some (0, 0, 180)) else (if a0_0 = 0 then (none) else (some (Int.tmod a2 a0_0, wrap64 (Int.tdiv a2 a0_0), 0))))) else (some (0, 0, 2)))) = some (r1, r2, r3) := h; clear h; replace H := Option.bind_eq_some_iff.mp H; obtain ⟨t240, A40, H⟩ := H; replace H : (if t240 = true then (if a2 < 0 then (some (0, 0, 180)) else (if a2 ≥ (wrap64 ((wrap64 (a1 + 1)) * a0_0)) then (some (0, 0, 180)) else (if a0_0 = 0 then (none) else (some (Int.tmod a2 a0_0, wrap64 (Int.tdiv a2 a0_0), 0))))) else (some (0, 0, 2))) = some (r1, r2, r3) := H; have A4 := am_ A40; clear A40
 by_cases c5 : t240 = true
 ·subst c5
  have H1 : (if a2 < 0 then (some (0, 0, 180)) else (if a2 ≥ (wrap64 ((wrap64 (a1 + 1)) * a0_0)) then (some (0, 0, 180)) else (if a0_0 = 0 then (none) else (some (Int.tmod a2 a0_0, wrap64 (Int.tdiv a2 a0_0), 0))))) = some (r1, r2, r3) := by rw [if_pos rfl] at H; exact H
  clear H; have H := H1; clear H1
  by_cases c6 : a2 < 0
  ·rw [if_pos c6] at H
   have c6b0 := decide_eq_true c6; clear c6; simp only [Option.some.injEq, Prod.mk.injEq] at H; obtain ⟨rfl, rfl, rfl⟩ := H
   go_enter Try.func12, Try.ntmps12
   go_wp2_with (first | ((with_reducible refine gate_dst (N := 3) rfl ?_); refine bx_ 3 #[.int .i64 a0_0, .bool a0_1, .slice A0_2 l0_2.length c0_2] 24 ?_; intro gb238 hg w7 BK238 hb; have GE238 := ge_ (w := w) hg; replace HB := hst_ hb; clear hb hg) | ((with_reducible refine gate_dst (N := 6) rfl ?_); refine bx_ 6 #[.int .i64 0, .int .i64 0] 26 ?_; intro gb239 hg w8 BK239 hb; have GE239 := ge_ (w := w) hg; replace HB := hst_ hb; have NB238_239 := am_ (nl_ BK238.out hg); have NB239_238 := am_ (ng_ BK238.out hg); replace BK238 := am_ (bb_ BK238.out hb); clear hb hg; have hnb9 := NB238_239.out; have hnc9 := NB239_238.out; obtain ⟨hcz10_0, hcz10_1, hcz10_2, hfz10_0, hfz10_1, hfz10_2⟩ := cf3_ BK238.out) | ((with_reducible refine gate_callee (f := 15) rfl ?_); refine cl_ 11 Try.func15 (expand_Fits.calls k a0_0 a0_1 _ _ l0_2 a1 true _ (cb_ HR0_2.out) HC0_2.out A4.out) ?_; rintro e w11 ⟨rfl, hb⟩; refine ⟨_, rfl, ?_⟩; replace BK238 := am_ (bb_ BK238.out hb); replace BK239 := am_ (bb_ BK239.out hb); replace HB := hst_ hb; (try clear hb); (try clear hb2); (try clear hk); (try clear hi); obtain ⟨hcz12_0, hcz12_1, hfz12_0, hfz12_1⟩ := cf2_ BK239.out))
   refine bodyPost_ret (results_ct rfl _ _ gb239 26 #[.int .i64 0, .int .i64 0] (0, 0) _ rfl q18_ Try.underlying26 rfl (by kernel_rfl)) rfl ?_; exact ⟨er_, hb_⟩
  ·rw [if_neg c6] at H
   have c6b0 := decide_eq_false c6; clear c6
   by_cases c13 : a2 ≥ (wrap64 ((wrap64 (a1 + 1)) * a0_0))
   ·rw [if_pos c13] at H
    have c13b0 := decide_eq_true c13; clear c13; simp only [Option.some.injEq, Prod.mk.injEq] at H; obtain ⟨rfl, rfl, rfl⟩ := H
    go_enter Try.func12, Try.ntmps12
    go_wp2_with (first | ((with_reducible refine gate_dst (N := 3) rfl ?_); refine bx_ 3 #[.int .i64 a0_0, .bool a0_1, .slice A0_2 l0_2.length c0_2] 24 ?_; intro gb238 hg w14 BK238 hb; have GE238 := ge_ (w := w) hg; replace HB := hst_ hb; clear hb hg) | ((with_reducible refine gate_dst (N := 6) rfl ?_); refine bx_ 6 #[.int .i64 0, .int .i64 0] 26 ?_; intro gb239 hg w15 BK239 hb; have GE239 := ge_ (w := w) hg; replace HB := hst_ hb; have NB238_239 := am_ (nl_ BK238.out hg); have NB239_238 := am_ (ng_ BK238.out hg); replace BK238 := am_ (bb_ BK238.out hb); clear hb hg; have hnb16 := NB238_239.out; have hnc16 := NB239_238.out; obtain ⟨hcz17_0, hcz17_1, hcz17_2, hfz17_0, hfz17_1, hfz17_2⟩ := cf3_ BK238.out) | ((with_reducible refine gate_callee (f := 15) rfl ?_); refine cl_ 11 Try.func15 (expand_Fits.calls k a0_0 a0_1 _ _ l0_2 a1 true _ (cb_ HR0_2.out) HC0_2.out A4.out) ?_; rintro e w18 ⟨rfl, hb⟩; refine ⟨_, rfl, ?_⟩; replace BK238 := am_ (bb_ BK238.out hb); replace BK239 := am_ (bb_ BK239.out hb); replace HB := hst_ hb; (try clear hb); (try clear hb2); (try clear hk); (try clear hi); obtain ⟨hcz19_0, hcz19_1, hcz19_2, hfz19_0, hfz19_1, hfz19_2⟩ := cf3_ BK238.out; obtain ⟨hcz20_0, hcz20_1, hfz20_0, hfz20_1⟩ := cf2_ BK239.out))
    refine bodyPost_ret (results_ct rfl _ _ gb239 26 #[.int .i64 0, .int .i64 0] (0, 0) _ rfl q18_ Try.underlying26 rfl (by kernel_rfl)) rfl ?_; exact ⟨er_, hb_⟩
   ·rw [if_neg c13] at H
    have c13b0 := decide_eq_false c13; clear c13
    by_cases c21 : a0_0 = 0
    ·rw [if_pos c21] at H
     exact absurd H (by simp)
    ·rw [if_neg c21] at H
     obtain ⟨c21b0, c21b1⟩ := neb_ c21; simp only [Option.some.injEq, Prod.mk.injEq] at H; obtain ⟨rfl, rfl, rfl⟩ := H
     go_enter Try.func12, Try.ntmps12
     try go_wp2_with (first | ((with_reducible refine gate_dst (N := 3) rfl ?_); refine bx_ 3 #[.int .i64 a0_0, .bool a0_1, .slice A0_2 l0_2.length c0_2] 24 ?_; intro gb238 hg w22 BK238 hb; have GE238 := ge_ (w := w) hg; replace HB := hst_ hb; clear hb hg) | ((with_reducible refine gate_dst (N := 6) rfl ?_); refine bx_ 6 #[.int .i64 0, .int .i64 0] 26 ?_; intro gb239 hg w23 BK239 hb; have GE239 := ge_ (w := w) hg; replace HB := hst_ hb; have NB238_239 := am_ (nl_ BK238.out hg); have NB239_238 := am_ (ng_ BK238.out hg); replace BK238 := am_ (bb_ BK238.out hb); clear hb hg; have hnb24 := NB238_239.out; have hnc24 := NB239_238.out; obtain ⟨hcz25_0, hcz25_1, hcz25_2, hfz25_0, hfz25_1, hfz25_2⟩ := cf3_ BK238.out) | ((with_reducible refine gate_callee (f := 15) rfl ?_); refine cl_ 11 Try.func15 (expand_Fits.calls k a0_0 a0_1 _ _ l0_2 a1 true _ (cb_ HR0_2.out) HC0_2.out A4.out) ?_; rintro e w26 ⟨rfl, hb⟩; refine ⟨_, rfl, ?_⟩; replace BK238 := am_ (bb_ BK238.out hb); replace BK239 := am_ (bb_ BK239.out hb); replace HB := hst_ hb; (try clear hb); (try clear hb2); (try clear hk); (try clear hi); obtain ⟨hcz27_0, hcz27_1, hcz27_2, hfz27_0, hfz27_1, hfz27_2⟩ := cf3_ BK238.out))
     replace BK238 := am_ (blk_drew BK238.out); replace BK239 := am_ (blk_drew BK239.out); replace HB := am_ (below_drew1 HB.out); refine start_ (n := 11) (S := fun w' => w'.cell? ⟨gb238, 0, none⟩ = some (.int .i64 a0_0) ∧ w'.cell? ⟨gb238, 1, none⟩ = some (.bool a0_1) ∧ w'.cell? ⟨gb238, 2, none⟩ = some (.slice A0_2 l0_2.length c0_2)) (ds := []) #[Ff,Ff,Ff,Ff,Ff,Ff,Ff,Ff,Ff,Ff,Ff] (by kernel_rfl) rfl rfl ⟨(blk_cell BK238.out 0).trans rfl, (blk_cell BK238.out 1).trans rfl, (blk_cell BK238.out 2).trans rfl⟩ (fun hHeld => ?_); refine with_tabW expand_Place.tab5 expand_Place.bits5 (fun HT_ HW_ => ?_); generalize w26.drew = w28 at BK238 BK239 HB hHeld ⊢; refine pw_ 0 27 ?_; refine pw_ 1 28 ?_; refine pw_ 4 31 ?_; refine pw_ 5 32 ?_; refine tk_ 2 29 ?_; refine pw_ 3 30 ?_; refine tk_ 6 33 ?_; refine pw_ 7 34 ?_; refine pw_ 8 35 ?_; refine one_ (i := 9) (N := none) #[Tt,Tt,Tt,Tt,Tt,Tt,Tt,Tt,Tt,Tt,Ff] rfl rfl (one_of HT_.out (by kernel_rfl)) (by decide) (fun K hK => ?_); have hs29 : w28.cell? ⟨gb239, 0, none⟩ = some (.int .i64 0) := (blk_cell BK239.out 0).trans rfl; have hfs29 := blk_frozen BK239.out 0; have hns29_0 := NB238_239.out; have hms29_0 := NB239_238.out; have hs30 : w28.cell? ⟨gb239, 1, none⟩ = some (.int .i64 0) := (blk_cell BK239.out 1).trans rfl; have hfs30 := blk_frozen BK239.out 1; have hns30_0 := NB238_239.out; have hms30_0 := NB239_238.out; refine skip_ (w1 := ?_) (by rfl) rfl ?_ ?_; rotate_left; (· go_simp; rfl); refine hK.out _ _ ⟨((cell_far (p := ⟨gb239, _, none⟩) NB238_239.out _).trans (((cell_far (p := ⟨gb239, _, none⟩) NB238_239.out _).trans (hHeld.1)))), ((cell_far (p := ⟨gb239, _, none⟩) NB238_239.out _).trans (((cell_far (p := ⟨gb239, _, none⟩) NB238_239.out _).trans (hHeld.2.1)))), ((cell_far (p := ⟨gb239, _, none⟩) NB238_239.out _).trans (((cell_far (p := ⟨gb239, _, none⟩) NB238_239.out _).trans (hHeld.2.2))))⟩ (fun hHeld => ?_); clear hK K; refine pw_ 10 7 ?_; refine done_ (done_of HT_.out (by kernel_rfl)) ?_
     try go_wp2
     refine bodyPost_ret (results_ct rfl _ _ gb239 26 #[.int .i64 (Int.tmod a2 a0_0), .int .i64 (wrap64 (Int.tdiv a2 a0_0))] (0, 0) _ rfl (by refine bq_ ?_; refine blk_put (cs := #[.int .i64 (Int.tmod a2 a0_0), .int .i64 0]) ?_ 1 _ rfl; refine bq_ ?_; refine blk_put (cs := #[.int .i64 0, .int .i64 0]) ?_ 0 _ rfl; refine bq_ ?_; exact BK239.out) Try.underlying26 rfl (by kernel_rfl)) rfl ?_; exact ⟨er_, hb_⟩
 ·replace c5 := Bool.eq_false_iff.mpr c5
  subst c5
  have H1 : (some (0, 0, 2)) = some (r1, r2, r3) := by rw [if_neg (show ¬ (false = true) by decide)] at H; exact H
  clear H; have H := H1; clear H1; simp only [Option.some.injEq, Prod.mk.injEq] at H; obtain ⟨rfl, rfl, rfl⟩ := H
  go_enter Try.func12, Try.ntmps12
  go_wp2_with (first | ((with_reducible refine gate_dst (N := 3) rfl ?_); refine bx_ 3 #[.int .i64 a0_0, .bool a0_1, .slice A0_2 l0_2.length c0_2] 24 ?_; intro gb238 hg w31 BK238 hb; have GE238 := ge_ (w := w) hg; replace HB := hst_ hb; clear hb hg) | ((with_reducible refine gate_dst (N := 6) rfl ?_); refine bx_ 6 #[.int .i64 0, .int .i64 0] 26 ?_; intro gb239 hg w32 BK239 hb; have GE239 := ge_ (w := w) hg; replace HB := hst_ hb; have NB238_239 := am_ (nl_ BK238.out hg); have NB239_238 := am_ (ng_ BK238.out hg); replace BK238 := am_ (bb_ BK238.out hb); clear hb hg; have hnb33 := NB238_239.out; have hnc33 := NB239_238.out; obtain ⟨hcz34_0, hcz34_1, hcz34_2, hfz34_0, hfz34_1, hfz34_2⟩ := cf3_ BK238.out) | ((with_reducible refine gate_callee (f := 15) rfl ?_); refine cl_ 11 Try.func15 (expand_Fits.calls k a0_0 a0_1 _ _ l0_2 a1 false _ (cb_ HR0_2.out) HC0_2.out A4.out) ?_; rintro e w35 ⟨rfl, hb⟩; refine ⟨_, rfl, ?_⟩; replace BK238 := am_ (bb_ BK238.out hb); replace BK239 := am_ (bb_ BK239.out hb); replace HB := hst_ hb; (try clear hb); (try clear hb2); (try clear hk); (try clear hi); obtain ⟨hcz36_0, hcz36_1, hfz36_0, hfz36_1⟩ := cf2_ BK239.out))
  refine bodyPost_ret (results_ct rfl _ _ gb239 26 #[.int .i64 0, .int .i64 0] (0, 0) _ rfl q18_ Try.underlying26 rfl (by kernel_rfl)) rfl ?_; exact ⟨er_, hb_⟩
end Go.Proofs.Ytfhkkbpkajfdlaa.Q
end
