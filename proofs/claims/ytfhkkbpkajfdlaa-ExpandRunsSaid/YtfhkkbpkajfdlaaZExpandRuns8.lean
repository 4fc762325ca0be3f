/- A part of the proof: words, contracts, plain lemmas. Conditions: none. -/
import Derived.Test.YtfhkkbpkajfdlaaZExpandRuns6
import Derived.Test.YtfhkkbpkajfdlaaZExpandRuns7
set_option linter.unusedSimpArgs false
set_option linter.unusedVariables false
section
namespace Go.Proofs.Ytfhkkbpkajfdlaa.Q
open Go.RowKit Go.Proofs.YtfhkkbpkajfdlaaW.PrintWords Go.Proofs.YtfhkkbpkajfdlaaW.PrintLast Go.Proofs.YtfhkkbpkajfdlaaW.PrintMore
def expand_Asked.f (k : Nat) (a0_0 : Int) (a0_1 : Bool) (l0_2 : List (S54)) (a1 : Int) (a2 : Int) (a3 : Int) : Option (Int) := (span_Asked.f k a0_0 a0_1 l0_2 a1 a2 a3).bind fun t128 => (if t128 = 0 then ((expand_Fits.f k a0_0 a0_1 l0_2 a3).bind fun t129 => (if t129 = true then (some 0) else (some 2))) else (some t128))
theorem expand_Asked.mono : ∀ a0 a1 a2 a3 a4 a5 k, LeO (expand_Asked.f k a0 a1 a2 a3 a4 a5) (expand_Asked.f (k + 1) a0 a1 a2 a3 a4 a5) := by
 intro a0 a1 a2 a3 a4 a5 k
 unfold expand_Asked.f
 repeat' first
   | (with_reducible exact expand_Fits.mono _ _ _ _ _)
   | (with_reducible exact span_Asked.mono _ _ _ _ _ _ _)
   | (with_reducible exact LeO.refl _)
   | (with_reducible exact LeO.none _)
   | (with_reducible refine LeO.ite ?_ ?_)
   | (with_reducible refine LeO.bind ?_ (fun _ => ?_))
   | exact expand_Fits.mono _ _ _ _ _
   | exact span_Asked.mono _ _ _ _ _ _ _
   | exact LeO.none _
   | refine LeO.ite ?_ ?_
   | refine LeO.bind ?_ (fun _ => ?_)
set_option maxHeartbeats 8000000 in
set_option maxRecDepth 100000 in
theorem expand_Asked.calls (k : Nat) (a0_0 : Int) (a0_1 : Bool) (A0_2 : Option Addr) (c0_2 : Nat) (l0_2 : List (S54)) (a1 : Int) (a2 : Int) (a3 : Int) (r : Int) (w : World) (hr0_2 : Kd.C k54 w A0_2 l0_2.length l0_2) (hc0_2 : l0_2.length ≤ c0_2) (h : expand_Asked.f k a0_0 a0_1 l0_2 a1 a2 a3 = some r) :
  Calls Try.prog 38 #[.agg #[.int .i64 a0_0, .bool a0_1, .slice A0_2 l0_2.length c0_2], .int .i64 a1, .int .i64 a2, .int .i64 a3] w fun e w' => e = .returned (.int .i64 r) ∧ Below w.heap.size w w' := by
 have hu24 := Try.underlying24; have HR0_2 := am_ hr0_2; have HC0_2 := am_ hc0_2; clear hr0_2 hc0_2; have HB := am_ (Below.refl w.heap.size w); have H : ((span_Asked.f k a0_0 a0_1 l0_2 a1 a2 a3).bind fun t128 => (if t128 = 0 then ((expand_Fits.f k a0_0 a0_1 l0_2 a3).bind fun t129 => (if t129 = true then (some 0) else (some 2))) else (some t128))) = some r := h; clear h; replace H := Option.bind_eq_some_iff.mp H; obtain ⟨t128, A50, H⟩ := H; replace H : (if t128 = 0 then ((expand_Fits.f k a0_0 a0_1 l0_2 a3).bind fun t129 => (if t129 = true then (some 0) else (some 2))) else (some t128)) = some r := H; have A5 := am_ A50; clear A50
 by_cases c6 : t128 = 0
 ·rw [if_pos c6] at H
  obtain ⟨c6b0, c6b1⟩ := eqb_ c6; clear c6; replace H := Option.bind_eq_some_iff.mp H; obtain ⟨t129, A70, H⟩ := H; replace H : (if t129 = true then (some 0) else (some 2)) = some r := H; have A7 := am_ A70; clear A70
  by_cases c8 : t129 = true
  ·subst c8
   have H1 : (some 0) = some r := by rw [if_pos rfl] at H; exact H
   clear H; have H := H1; clear H1; obtain rfl := Option.some.inj H
   go_enter Try.func38, Try.ntmps38
   go_wp2_with (first | ((with_reducible refine gate_dst (N := 4) rfl ?_); refine bx_ 4 #[.int .i64 a0_0, .bool a0_1, .slice A0_2 l0_2.length c0_2] 24 ?_; intro gb127 hg w9 BK127 hb; have GE127 := ge_ (w := w) hg; replace HB := hst_ hb; clear hb hg; obtain ⟨hcz10_0, hcz10_1, hcz10_2, hfz10_0, hfz10_1, hfz10_2⟩ := cf3_ BK127.out) | ((with_reducible refine gate_callee (f := 58) rfl ?_); refine cl_ 14 Try.func58 (span_Asked.calls k a0_0 a0_1 _ _ l0_2 a1 a2 a3 t128 _ (cb_ HR0_2.out) HC0_2.out A5.out) ?_; rintro e w11 ⟨rfl, hb⟩; refine ⟨_, rfl, ?_⟩; replace BK127 := am_ (bb_ BK127.out hb); replace HB := hst_ hb; (try clear hb); (try clear hb2); (try clear hk); (try clear hi); obtain ⟨hcz12_0, hcz12_1, hcz12_2, hfz12_0, hfz12_1, hfz12_2⟩ := cf3_ BK127.out) | ((with_reducible refine gate_callee (f := 15) rfl ?_); refine cl_ 20 Try.func15 (expand_Fits.calls k a0_0 a0_1 _ _ l0_2 a3 true _ (cb_ HR0_2.out) HC0_2.out A7.out) ?_; rintro e w13 ⟨rfl, hb⟩; refine ⟨_, rfl, ?_⟩; replace BK127 := am_ (bb_ BK127.out hb); replace HB := hst_ hb; (try clear hb); (try clear hb2); (try clear hk); (try clear hi)))
   go_ret
   exact ⟨er_, hb_⟩
  ·replace c8 := Bool.eq_false_iff.mpr c8
   subst c8
   have H1 : (some 2) = some r := by rw [if_neg (show ¬ (false = true) by decide)] at H; exact H
   clear H; have H := H1; clear H1; obtain rfl := Option.some.inj H
   go_enter Try.func38, Try.ntmps38
   go_wp2_with (first | ((with_reducible refine gate_dst (N := 4) rfl ?_); refine bx_ 4 #[.int .i64 a0_0, .bool a0_1, .slice A0_2 l0_2.length c0_2] 24 ?_; intro gb127 hg w14 BK127 hb; have GE127 := ge_ (w := w) hg; replace HB := hst_ hb; clear hb hg; obtain ⟨hcz15_0, hcz15_1, hcz15_2, hfz15_0, hfz15_1, hfz15_2⟩ := cf3_ BK127.out) | ((with_reducible refine gate_callee (f := 58) rfl ?_); refine cl_ 14 Try.func58 (span_Asked.calls k a0_0 a0_1 _ _ l0_2 a1 a2 a3 t128 _ (cb_ HR0_2.out) HC0_2.out A5.out) ?_; rintro e w16 ⟨rfl, hb⟩; refine ⟨_, rfl, ?_⟩; replace BK127 := am_ (bb_ BK127.out hb); replace HB := hst_ hb; (try clear hb); (try clear hb2); (try clear hk); (try clear hi); obtain ⟨hcz17_0, hcz17_1, hcz17_2, hfz17_0, hfz17_1, hfz17_2⟩ := cf3_ BK127.out) | ((with_reducible refine gate_callee (f := 15) rfl ?_); refine cl_ 20 Try.func15 (expand_Fits.calls k a0_0 a0_1 _ _ l0_2 a3 false _ (cb_ HR0_2.out) HC0_2.out A7.out) ?_; rintro e w18 ⟨rfl, hb⟩; refine ⟨_, rfl, ?_⟩; replace BK127 := am_ (bb_ BK127.out hb); replace HB := hst_ hb; (try clear hb); (try clear hb2); (try clear hk); (try clear hi)))
   go_ret
   exact ⟨er_, hb_⟩
 ·rw [if_neg c6] at H
  obtain ⟨c6b0, c6b1⟩ := neb_ c6; obtain rfl := Option.some.inj H
  go_enter Try.func38, Try.ntmps38
  go_wp2_with (first | ((with_reducible refine gate_dst (N := 4) rfl ?_); refine bx_ 4 #[.int .i64 a0_0, .bool a0_1, .slice A0_2 l0_2.length c0_2] 24 ?_; intro gb127 hg w19 BK127 hb; have GE127 := ge_ (w := w) hg; replace HB := hst_ hb; clear hb hg; obtain ⟨hcz20_0, hcz20_1, hcz20_2, hfz20_0, hfz20_1, hfz20_2⟩ := cf3_ BK127.out) | ((with_reducible refine gate_callee (f := 58) rfl ?_); refine cl_ 14 Try.func58 (span_Asked.calls k a0_0 a0_1 _ _ l0_2 a1 a2 a3 t128 _ (cb_ HR0_2.out) HC0_2.out A5.out) ?_; rintro e w21 ⟨rfl, hb⟩; refine ⟨_, rfl, ?_⟩; replace BK127 := am_ (bb_ BK127.out hb); replace HB := hst_ hb; (try clear hb); (try clear hb2); (try clear hk); (try clear hi)))
  go_ret
  exact ⟨er_, hb_⟩
end Go.Proofs.Ytfhkkbpkajfdlaa.Q
end
section
namespace Go.Proofs.Ytfhkkbpkajfdlaa.Q
open Go.RowKit Go.Maps Go.Proofs.YtfhkkbpkajfdlaaW.PrintWords Go.Proofs.YtfhkkbpkajfdlaaW.PrintLast Go.Proofs.YtfhkkbpkajfdlaaW.PrintMore
def firstsA (V H s : Int) (n : Nat) : List S54 := (List.range n).map (fun a : Nat => (⟨(H + 1) * V, (a : Int) * V + s, 1099511627776, 0⟩ : S54))
def lastsA (V H t : Int) (n : Nat) : List S54 := (List.range n).map (fun a : Nat => (⟨(a : Int) * V + t, (H + 1) * V + 1, 1099511627776, 0⟩ : S54))
def placesL (b n : Nat) : List (Int × Int) := (List.range n).map (fun a : Nat => ((a : Int), ((b + a : Nat) : Int)))
theorem firstsA_succ (V H s : Int) (n : Nat) : firstsA V H s (n + 1) = firstsA V H s n ++ [(⟨(H + 1) * V, (n : Int) * V + s, 1099511627776, 0⟩ : S54)] := by unfold firstsA; rw [List.range_succ, List.map_append]; rfl
theorem lastsA_succ (V H t : Int) (n : Nat) : lastsA V H t (n + 1) = lastsA V H t n ++ [(⟨(n : Int) * V + t, (H + 1) * V + 1, 1099511627776, 0⟩ : S54)] := by unfold lastsA; rw [List.range_succ, List.map_append]; rfl
theorem placesL_succ (b n : Nat) : placesL b (n + 1) = placesL b n ++ [((n : Int), ((b + n : Nat) : Int))] := by unfold placesL; rw [List.range_succ, List.map_append]; rfl
theorem firstsA_length (V H s : Int) (n : Nat) : (firstsA V H s n).length = n := by unfold firstsA; rw [List.length_map, List.length_range]
theorem lastsA_length (V H t : Int) (n : Nat) : (lastsA V H t n).length = n := by unfold lastsA; rw [List.length_map, List.length_range]
theorem placesL_length (b n : Nat) : (placesL b n).length = n := by unfold placesL; rw [List.length_map, List.length_range]
theorem GridW.apart {w : World} {base : Nat} {ok : Nat → Prop} {gg : Nat} {N V : Int} {v : Value} {arcs : List S54} {m1 m2 m3 m4 : Nat} {l1 l2 : List ((Int × Int) × Int)} {l3 l4 : List (Int × Int)}
 (h : GridW w base ok gg N V v arcs m1 m2 m3 m4 l1 l2 l3 l4) {g : Nat} (hg : g < base) : GridW w base (fun k => ok k ∧ k ≠ g) gg N V v arcs m1 m2 m3 m4 l1 l2 l3 l4 :=
 ⟨h.blk, Kd.R_mono (Kd.R_bound h.row) (fun k hh => ⟨⟨hh.1.1, by have := hh.2.1; omega⟩, hh.1.2⟩), h.ge, h.M1, h.M2, h.M3, h.M4, h.o1, h.o2, h.o3, h.o4⟩
def gridArcs (V H : Int) (hold : Bool) (s t : Int) (l0 : List S54) : List S54 := (atLoop V H hold s t l0 (H.toNat + 1)).1 ++ firstsA V H s (H.toNat + 1) ++ lastsA V H t (H.toNat + 1)
def expand_Of.T6 : Bool × List (List Nat × List Nat) := (true, [([], []), ([0], [0]), ([1], [1]), ([2], [2]), ([], []), ([], []), ([], []), ([], []), ([], []), ([], []), ([7, 8, 9], [7, 8, 9]), ([5, 6, 10, 10], [5, 6, 10]), ([3, 4, 11, 11, 0, 1, 2, 3, 4, 5, 6, 7, 8, 9, 10, 11], [3, 4, 11])])
def expand_Of.B6 : List Nat := [0, 1, 3, 7, 0, 0, 0, 0, 0, 0, 896, 2016, 4095]
theorem expand_Of.tab6 : rtab .any (opsOf Try.f39 6) = expand_Of.T6 := by kernel_rfl
theorem expand_Of.bits6 : waitsOk expand_Of.T6.2 expand_Of.B6 = true := by kernel_rfl
def expand_Of.T11 : Bool × List (List Nat × List Nat) := (true, [([], []), ([0], [0]), ([1], [1]), ([2], [2]), ([], []), ([], []), ([], []), ([], []), ([], []), ([6, 7, 8], [6, 7, 8]), ([], []), ([5, 9, 10, 9], [5, 9, 10]), ([3, 4, 11, 11, 0, 1, 2, 3, 4, 5, 6, 7, 8, 9, 10, 11], [3, 4, 11])])
def expand_Of.B11 : List Nat := [0, 1, 3, 7, 0, 0, 0, 0, 0, 448, 0, 2016, 4095]
theorem expand_Of.tab11 : rtab .any (opsOf Try.f39 11) = expand_Of.T11 := by kernel_rfl
theorem expand_Of.bits11 : waitsOk expand_Of.T11.2 expand_Of.B11 = true := by kernel_rfl
set_option maxHeartbeats 8000000 in
set_option maxRecDepth 100000 in
theorem expand_Of.calls (V H s t : Int) (hold : Bool) (A0 : Option Addr) (c0 : Nat) (l0 : List S54) (w : World) (hr0 : Kd.C k54 w A0 l0.length l0) (hc0 : l0.length ≤ c0) (hok : okNet V H l0 = true) (hs0 : 0 ≤ s) (hs1 : s < V) (ht0 : 0 ≤ t) (ht1 : t < V) :
 Calls Try.prog 39 #[.agg #[.int .i64 V, .bool hold, .slice A0 l0.length c0], .int .i64 s, .int .i64 t, .int .i64 H] w fun e w' =>
  ∃ gg v m1 m2 m3 m4, e = .returned (.pointer (some ⟨gg, 0, none⟩)) ∧ GridW w' w.heap.size (fun _ => True) gg ((H + 1) * V + 2) V v (gridArcs V H hold s t l0) m1 m2 m3 m4 (atLoop V H hold s t l0 (H.toNat + 1)).2.1 (atLoop V H hold s t l0 (H.toNat + 1)).2.2 (placesL (atLoop V H hold s t l0 (H.toNat + 1)).1.length (H.toNat + 1)) (placesL ((atLoop V H hold s t l0 (H.toNat + 1)).1.length + (H.toNat + 1)) (H.toNat + 1)) ∧ Below w.heap.size w w' := by
 have hu54 := Try.underlying54
 have hu24 := Try.underlying24
 have hu76 := Try.underlying76
 have HOK := am_ hok
 unfold okNet at hok
 simp only [Bool.and_eq_true, decide_eq_true_eq] at hok
 obtain ⟨⟨hV0, hV1, hH0, hH1, hlen⟩, _⟩ := hok
 have hbal := atLoop_bal (V := V) (H := H) (s := s) (t := t) (hold := hold) (l0 := l0) hV1 hlen (H.toNat + 1)
 have hlA : (atLoop V H hold s t l0 (H.toNat + 1)).1.length ≤ 300000 := by have := hbal.2; omega
 have hm1 := mulB (a := H + 1) (b := V) (by omega) (by omega) hV0 hV1
 have hN2 : wrap64 ((H + 1) * V + 2 - 2) = (H + 1) * V := by rw [show (H + 1) * V + 2 - 2 = (H + 1) * V by omega]; exact wrapId (by omega) (by omega)
 have hN1 : wrap64 ((H + 1) * V + 2 - 1) = (H + 1) * V + 1 := by rw [show (H + 1) * V + 2 - 1 = (H + 1) * V + 1 by omega]; exact wrapId (by omega) (by omega)
 have hHW : wrap64 (H + 1) = H + 1 := wrapId (by omega) (by omega)
 have HR0 := am_ hr0
 have HC0 := am_ hc0
 have HV0 := am_ hV0
 have HV1 := am_ hV1
 have HH0 := am_ hH0
 have HH1 := am_ hH1
 have HS0 := am_ hs0
 have HS1 := am_ hs1
 have HT0 := am_ ht0
 have HT1 := am_ ht1
 have HLA := am_ hlA
 have HN2 := am_ hN2
 have HN1 := am_ hN1
 have HW1 := am_ hHW
 have HB := am_ (Below.refl w.heap.size w)
 clear hr0 hc0 hV0 hV1 hH0 hH1 hlen hbal hlA hm1 hN2 hN1 hHW hs0 hs1 ht0 ht1
 unfold gridArcs
 obtain ⟨G, hG⟩ : ∃ G, atLoop V H hold s t l0 (H.toNat + 1) = G := ⟨_, rfl⟩
 rw [hG] at HLA ⊢
 have HGE := am_ hG
 clear hG
 go_enter Try.func39, Try.ntmps39
 go_wp2_with (first
  | ((with_reducible refine gate_dst (N := 4) rfl ?_); refine box_event ?hg (N := 4) ?hd (cs := #[.int .i64 V, .bool hold, .slice A0 l0.length c0]) (t := 24) ?hr ?_; (case hd => rfl); (case hg => rfl); (case hr => first | (go_simp; done) | (go_simp; rfl)); intro gn hg w2 hbox hb; replace HB := am_ (below_step HB.out hb); have BKn := am_ hbox; clear hb hbox hg)
  | ((with_reducible refine gate_dst (N := 5) rfl ?_); refine box_event ?hg (N := 5) ?hd (cs := #[.int .i64 s]) (t := 3) ?hr ?_; (case hd => rfl); (case hg => rfl); (case hr => first | (go_simp; done) | (go_simp; rfl)); intro gs hg w3 hbox hb; have n0_ := am_ (below_step HB.out hb); have n1_ := am_ hbox; have n2_ := am_ (blk_below BKn.out hb); clear HB BKn; have HB := n0_; have BKs := n1_; have BKn := n2_; clear n0_ n1_ n2_; clear hb hbox hg)
  | ((with_reducible refine gate_dst (N := 6) rfl ?_); refine box_event ?hg (N := 6) ?hd (cs := #[.int .i64 t]) (t := 3) ?hr ?_; (case hd => rfl); (case hg => rfl); (case hr => first | (go_simp; done) | (go_simp; rfl)); intro gt hg w4 hbox hb; have n0_ := am_ (below_step HB.out hb); have n1_ := am_ hbox; have n2_ := am_ (blk_below BKn.out hb); have n3_ := am_ (blk_below BKs.out hb); clear HB BKn BKs; have HB := n0_; have BKt := n1_; have BKn := n2_; have BKs := n3_; clear n0_ n1_ n2_ n3_; clear hb hbox hg; have zn0 : w4.cell? ⟨gn, 0, none⟩ = some (.int .i64 V) := (blk_cell BKn.out 0).trans rfl; have zn1 : w4.cell? ⟨gn, 1, none⟩ = some (.bool hold) := (blk_cell BKn.out 1).trans rfl; have zn2 : w4.cell? ⟨gn, 2, none⟩ = some (.slice A0 l0.length c0) := (blk_cell BKn.out 2).trans rfl)
  | (go_at_call 59; refine (expand_Begin.calls V H s t hold A0 c0 l0 gs gt gn _ (Kd.C_below HR0.out HB.out) HC0.out BKs.out BKt.out BKn.out HOK.out).mono ?_; rintro e w5 ⟨gg, v, m1, m2, m3, m4, rfl, hG, hb⟩; rw [HGE.out] at hG; have n0_ := am_ ((((hG.apart (blk_lt BKs.out)).apart (blk_lt BKt.out)).lower (below_size HB.out)).mono (ok' := fun k => k ≠ gs ∧ k ≠ gt) (fun k hk => ⟨hk.1.2, hk.2⟩)); have n1_ := am_ (below_step HB.out hb); have n2_ := am_ (blk_below BKs.out hb); have n3_ := am_ (blk_below BKt.out hb); have NBs := am_ (show gs ≠ gg from fun e_ => absurd hG.ge (by rw [← e_]; exact Nat.not_le_of_lt (blk_lt BKs.out))); have NBt := am_ (show gt ≠ gg from fun e_ => absurd hG.ge (by rw [← e_]; exact Nat.not_le_of_lt (blk_lt BKt.out))); clear HB BKn BKs BKt hG hb zn0 zn1 zn2; have HG := n0_; have HB := n1_; have BKs := n2_; have BKt := n3_; clear n0_ n1_ n2_ n3_)
  | (go_at_call 62; refine (Grid_Ends.calls gg _ V _ _ _ _ _ _ HG.out.blk).mono ?_; rintro e w6 ⟨rfl, hb⟩; rw [HN2.out, HN1.out]; have n0_ := am_ (HG.out.below hb); have n1_ := am_ (below_step HB.out hb); have n2_ := am_ (blk_below BKs.out hb); have n3_ := am_ (blk_below BKt.out hb); clear HB HG BKs BKt hb; have HG := n0_; have HB := n1_; have BKs := n2_; have BKt := n3_; clear n0_ n1_ n2_ n3_))
 go_loopg [26] (H.toNat + 1) (fun kq vi w' => ∃ (j : Nat) (v : Value), vi = .int .i64 (j : Int) ∧ Aside0 (j + kq = H.toNat + 1) ∧ Aside0 (Below w.heap.size w w') ∧ Aside0 (GridW w' w.heap.size (fun k => k ≠ gs ∧ k ≠ gt) gg ((H + 1) * V + 2) V v (G.1 ++ firstsA V H s j) m1 m2 m3 m4 G.2.1 G.2.2 (placesL G.1.length j) ([])) ∧ Aside0 (w'.heap[gs]? = some (.cells #[.int .i64 s] 3 (0, 0))) ∧ Aside0 (w'.heap[gt]? = some (.cells #[.int .i64 t] 3 (0, 0))))
 case atStart => exact ⟨0, v, rfl, ⟨by omega⟩, HB, ⟨by rw [show firstsA V H s 0 = [] from rfl, List.append_nil]; exact HG.out⟩, BKs, BKt⟩
 case round =>
  clear HB HG BKs BKt
  obtain ⟨j, v, rfl, HJ, HB, HG, BKs, BKt⟩ := hrel
  cases gk with
  | zero =>
   have hj : j = H.toNat + 1 := by have := HJ.out; omega
   have c1 : decide ((j : Int) < wrap64 (H + 1)) = false := by rw [HW1.out]; exact decide_eq_false (by have := HH0.out; omega)
   have HJ2 := am_ hj
   clear hj
   go_wp2
   rw [HJ2.out] at HG
   go_loopg [44] (H.toNat + 1) (fun kq vi w' => ∃ (j : Nat) (v : Value), vi = .int .i64 (j : Int) ∧ Aside0 (j + kq = H.toNat + 1) ∧ Aside0 (Below w.heap.size w w') ∧ Aside0 (GridW w' w.heap.size (fun k => k ≠ gs ∧ k ≠ gt) gg ((H + 1) * V + 2) V v (G.1 ++ firstsA V H s (H.toNat + 1) ++ lastsA V H t j) m1 m2 m3 m4 G.2.1 G.2.2 (placesL G.1.length (H.toNat + 1)) (placesL (G.1.length + (H.toNat + 1)) j)) ∧ Aside0 (w'.heap[gs]? = some (.cells #[.int .i64 s] 3 (0, 0))) ∧ Aside0 (w'.heap[gt]? = some (.cells #[.int .i64 t] 3 (0, 0))))
   case atStart => exact ⟨0, v, rfl, ⟨by omega⟩, HB, ⟨by rw [show lastsA V H t 0 = [] from rfl, List.append_nil]; exact HG.out⟩, BKs, BKt⟩
   case round =>
    clear HB HG BKs BKt
    obtain ⟨j, v, rfl, HJ, HB, HG, BKs, BKt⟩ := hrel
    cases gk with
    | zero =>
     have hj : j = H.toNat + 1 := by have := HJ.out; omega
     have c1 : decide ((j : Int) < wrap64 (H + 1)) = false := by rw [HW1.out]; exact decide_eq_false (by have := HH0.out; omega)
     have HJ3 := am_ hj
     clear hj
     go_wp2
     go_ret
     exact ⟨gg, v, m1, m2, m3, m4, rfl, by have h_ := HG.out; rw [HJ3.out] at h_; exact h_.mono (fun _ _ => trivial), HB.out⟩
    | succ gk0 =>
     have hjb : (j : Int) ≤ H := by have := HJ.out; have := HH0.out; omega
     have c1 : decide ((j : Int) < wrap64 (H + 1)) = true := by rw [HW1.out]; exact decide_eq_true (by omega)
     have hjn : j ≤ 1025 := by have := HH1.out; omega
     have hm1 := mulB (a := (j : Int)) (b := V) (by omega) (by omega) HV0.out HV1.out
     have q1 : -1000000000000 ≤ (j : Int) * V + t ∧ (j : Int) * V + t ≤ 1000000000000 := by have := HS0.out; have := HS1.out; have := HT0.out; have := HT1.out; have := HV1.out; omega
     have hwa : wrap64 (wrap64 ((j : Int) * V) + t) = (j : Int) * V + t := by rw [wrapId (n := (j : Int) * V) (by omega) (by omega), wrapId q1.1 q1.2]
     have hwi : wrap64 ((j : Int) + 1) = ((j + 1 : Nat) : Int) := wrapId (by omega) (by omega)
     have hkv : w64 (((G.1.length + (H.toNat + 1)) + j : Nat) : Int) := by have := HLA.out; have := HH1.out; exact wf_i64B (by omega) (by omega)
     have hkey : w64 (j : Int) := wf_i64B (by omega) (by omega)
     have hal : (G.1 ++ firstsA V H s (H.toNat + 1) ++ lastsA V H t j).length = (G.1.length + (H.toNat + 1)) + j := by simp only [List.length_append, firstsA_length, lastsA_length]
     have hln : (placesL (G.1.length + (H.toNat + 1)) j).length = j := placesL_length _ _
     have HWA := am_ hwa
     have HWI := am_ hwi
     have HKV := am_ hkv
     have HKEY := am_ hkey
     have HAL := am_ hal
     have HLN := am_ hln
     have HJN := am_ hjn
     clear hjb hjn hm1 q1 hwa hwi hkv hkey hal hln
     go_wp2
     have hz3 : wr.cell? ⟨gg, 6, none⟩ = some (.map (some m4)) := (blk_cell HG.out.blk 6).trans rfl
     have hz4 : wr.cell? ⟨gt, 0, none⟩ = some (.int .i64 t) := (blk_cell BKt.out 0).trans rfl
     have n0_ := am_ HG.out.drew
     have n1_ := am_ (below_drew1 HB.out)
     have n2_ := am_ (blk_drew BKs.out)
     have n3_ := am_ (blk_drew BKt.out)
     clear HG HB BKs BKt
     have HG := n0_
     have HB := n1_
     have BKs := n2_
     have BKt := n3_
     clear n0_ n1_ n2_ n3_
     refine start_ (n := 13) (S := fun w' => w'.cell? ⟨gg, 6, none⟩ = some (.map (some m4)) ∧ w'.cell? ⟨gt, 0, none⟩ = some (.int .i64 t)) (ds := [12]) #[Ff,Ff,Ff,Ff,Ff,Ff,Ff,Ff,Ff,Ff,Ff,Ff,Ff] (by kernel_rfl) rfl rfl ⟨hz3, hz4⟩ (fun hHeld => ?_)
     clear hz3 hz4
     generalize wr.drew = w10 at HG HB BKs BKt hHeld ⊢
     refine with_tabW expand_Of.tab11 expand_Of.bits11 (fun HT_ HW_ => ?_)
     refine pw_ 0 47 ?_
     refine pw_ 1 48 ?_
     refine pw_ 2 49 ?_
     refine pw_ 4 51 ?_
     refine pw_ 5 52 ?_
     refine pw_ 6 53 ?_
     refine pw_ 8 55 ?_
     refine pw_ 10 57 ?_
     refine tk_ 3 50 ?_
     refine tk_ 7 54 ?_
     refine one_ (i := 9) (N := (some 56)) #[Tt,Tt,Tt,Tt,Tt,Tt,Tt,Tt,Tt,Tt,Tt,Ff,Ff] rfl rfl (one_of HT_.out (by kernel_rfl)) (by decide) (fun K hK => ?_)
     refine goes_ Try.func64 (by kernel_rfl) rfl #[.pointer (some ⟨gg, 0, none⟩), .int .i64 t, .int .i64 (j : Int)] (by rfl) rfl rfl q9_ ?_
     refine (Grid_At.calls gg _ V t (j : Int) _ _ _ _ _ _ HG.out.blk).mono ?_
     rintro e w' ⟨rfl, hw'⟩
     subst hw'
     rw [HWA.out]
     refine ⟨_, rfl, ?_⟩
     refine hK.out _ _ hHeld (fun hHeld => ?_)
     clear hK K
     refine norm_ (a' := ?_) ?_ ?_
     rotate_left
     ·show Act.put _ (some 56) _ = _
      simp only [Act.put, List.setIfInBounds_toArray, List.set_cons_zero, List.set_cons_succ, i64_w, i32_w]
      rfl
     refine one_ (i := 11) (N := (some 58)) #[Tt,Tt,Tt,Tt,Tt,Tt,Tt,Tt,Tt,Tt,Tt,Tt,Ff] rfl rfl (one_of HT_.out (by kernel_rfl)) (by decide) (fun K hK => ?_)
     refine goes_ Try.func63 (by kernel_rfl) rfl #[.pointer (some ⟨gg, 0, none⟩), .int .i64 ((j : Int) * V + t), .int .i64 ((H + 1) * V + 1), .int .i64 1099511627776] (by rfl) rfl rfl q9_ ?_
     refine (Grid_Add.calls (fun k => k ≠ gs ∧ k ≠ gt) gg _ V v (G.1 ++ firstsA V H s (H.toNat + 1) ++ lastsA V H t j) m1 m2 m3 m4 G.2.1 G.2.2 (placesL G.1.length (H.toNat + 1)) (placesL (G.1.length + (H.toNat + 1)) j) ((j : Int) * V + t) ((H + 1) * V + 1) 1099511627776 w _ HB.out HG.out (fun k hk => ⟨fun e_ => by have := blk_lt BKs.out; omega, fun e_ => by have := blk_lt BKt.out; omega⟩) (by rw [HAL.out]; have := HLA.out; have := HJN.out; have := HH1.out; omega)).mono ?_
     rintro e w11 ⟨rfl, v2, hG, hb, hk⟩
     refine ⟨_, rfl, ?_⟩
     have n0_ := am_ (Kept.blk (S := fun k => k = gg ∨ (k ≠ gs ∧ k ≠ gt)) hk BKs.out (fun hc => by rcases hc with hc | hc; (exact NBs.out hc); (exact hc.1 rfl)))
     have n1_ := am_ (Kept.blk (S := fun k => k = gg ∨ (k ≠ gs ∧ k ≠ gt)) hk BKt.out (fun hc => by rcases hc with hc | hc; (exact NBt.out hc); (exact hc.2 rfl)))
     clear HG HB BKs BKt hk hHeld
     have HG := am_ hG
     have HB := am_ hb
     have BKs := n0_
     have BKt := n1_
     clear n0_ n1_ hG hb
     rw [HAL.out]
     refine hK.out _ _ ⟨(blk_cell HG.out.blk 6).trans rfl, (blk_cell BKt.out 0).trans rfl⟩ (fun hHeld => ?_)
     clear hK K
     refine norm_ (a' := ?_) ?_ ?_
     rotate_left
     ·show Act.put _ (some 58) _ = _
      simp only [Act.put, List.setIfInBounds_toArray, List.set_cons_zero, List.set_cons_succ, i64_w, i32_w]
      rfl
     refine last_ (i := 12) (N := none) #[Tt,Tt,Tt,Tt,Tt,Tt,Tt,Tt,Tt,Tt,Tt,Tt,Tt] rfl rfl (one_of HT_.out (by kernel_rfl)) (by decide) (fun K hK => ?_)
     refine mput_step E3 (by rfl) rfl (.tmp 50) (.tmp 51) (.tmp 58) 74 rfl Try.underlying74 rfl HG.out.M4 (j : Int) (((G.1.length + (H.toNat + 1)) + j : Nat) : Int) rfl rfl HKEY.out HKV.out (by rw [HLN.out]; have := HJN.out; unfold maxLen; omega) ?_
     intro w12 hM hg
     refine hK.out _ _ ?_
     clear hK K
     have n0_ := am_ (HG.out.put4 hg hM)
     have n1_ := am_ (Below.grown HB.out hg (below_size HB.out) (fun k_ e_ => by injection e_ with e_; subst e_; exact Nat.le_trans HG.out.o1 (Nat.le_trans (Nat.le_of_lt HG.out.o2) (Nat.le_trans (Nat.le_of_lt HG.out.o3) (Nat.le_of_lt HG.out.o4)))))
     have n2_ := am_ (blk_grown BKs.out hg (fun e_ => HG.out.M4.ne BKs.out (Option.some.inj e_)))
     have n3_ := am_ (blk_grown BKt.out hg (fun e_ => HG.out.M4.ne BKt.out (Option.some.inj e_)))
     clear HG HB BKs BKt hM hg
     have HG := n0_
     have HB := n1_
     have BKs := n2_
     have BKt := n3_
     clear n0_ n1_ n2_ n3_
     refine done_ (done_of HT_.out (by kernel_rfl)) ?_
     try go_wp2
     go_roundg gk0
     case measure => omega
     case rel =>
      refine ⟨j + 1, v2, by first | exact congrArg (Value.int .i64) (by omega) | exact congrArg (Value.int .i64) HWI.out, ⟨by have := HJ.out; omega⟩, HB, ⟨?_⟩, BKs, BKt⟩
      rw [lastsA_succ, placesL_succ _ j, ← List.append_assoc]
      exact HG.out
  | succ gk0 =>
   have hjb : (j : Int) ≤ H := by have := HJ.out; have := HH0.out; omega
   have c1 : decide ((j : Int) < wrap64 (H + 1)) = true := by rw [HW1.out]; exact decide_eq_true (by omega)
   have hjn : j ≤ 1025 := by have := HH1.out; omega
   have hm1 := mulB (a := (j : Int)) (b := V) (by omega) (by omega) HV0.out HV1.out
   have q1 : -1000000000000 ≤ (j : Int) * V + s ∧ (j : Int) * V + s ≤ 1000000000000 := by have := HS0.out; have := HS1.out; have := HT0.out; have := HT1.out; have := HV1.out; omega
   have hwa : wrap64 (wrap64 ((j : Int) * V) + s) = (j : Int) * V + s := by rw [wrapId (n := (j : Int) * V) (by omega) (by omega), wrapId q1.1 q1.2]
   have hwi : wrap64 ((j : Int) + 1) = ((j + 1 : Nat) : Int) := wrapId (by omega) (by omega)
   have hkv : w64 (((G.1.length) + j : Nat) : Int) := by have := HLA.out; have := HH1.out; exact wf_i64B (by omega) (by omega)
   have hkey : w64 (j : Int) := wf_i64B (by omega) (by omega)
   have hal : (G.1 ++ firstsA V H s j).length = (G.1.length) + j := by simp only [List.length_append, firstsA_length, lastsA_length]
   have hln : (placesL G.1.length j).length = j := placesL_length _ _
   have HWA := am_ hwa
   have HWI := am_ hwi
   have HKV := am_ hkv
   have HKEY := am_ hkey
   have HAL := am_ hal
   have HLN := am_ hln
   have HJN := am_ hjn
   clear hjb hjn hm1 q1 hwa hwi hkv hkey hal hln
   go_wp2
   have hz3 : wr.cell? ⟨gg, 5, none⟩ = some (.map (some m3)) := (blk_cell HG.out.blk 5).trans rfl
   have hz4 : wr.cell? ⟨gs, 0, none⟩ = some (.int .i64 s) := (blk_cell BKs.out 0).trans rfl
   have n0_ := am_ HG.out.drew
   have n1_ := am_ (below_drew1 HB.out)
   have n2_ := am_ (blk_drew BKs.out)
   have n3_ := am_ (blk_drew BKt.out)
   clear HG HB BKs BKt
   have HG := n0_
   have HB := n1_
   have BKs := n2_
   have BKt := n3_
   clear n0_ n1_ n2_ n3_
   refine start_ (n := 13) (S := fun w' => w'.cell? ⟨gg, 5, none⟩ = some (.map (some m3)) ∧ w'.cell? ⟨gs, 0, none⟩ = some (.int .i64 s)) (ds := [12]) #[Ff,Ff,Ff,Ff,Ff,Ff,Ff,Ff,Ff,Ff,Ff,Ff,Ff] (by kernel_rfl) rfl rfl ⟨hz3, hz4⟩ (fun hHeld => ?_)
   clear hz3 hz4
   generalize wr.drew = w10 at HG HB BKs BKt hHeld ⊢
   refine with_tabW expand_Of.tab6 expand_Of.bits6 (fun HT_ HW_ => ?_)
   refine pw_ 0 29 ?_
   refine pw_ 1 30 ?_
   refine pw_ 2 31 ?_
   refine pw_ 4 33 ?_
   refine pw_ 5 34 ?_
   refine pw_ 6 35 ?_
   refine pw_ 7 36 ?_
   refine pw_ 9 38 ?_
   refine tk_ 3 32 ?_
   refine tk_ 8 37 ?_
   refine one_ (i := 10) (N := (some 39)) #[Tt,Tt,Tt,Tt,Tt,Tt,Tt,Tt,Tt,Tt,Tt,Ff,Ff] rfl rfl (one_of HT_.out (by kernel_rfl)) (by decide) (fun K hK => ?_)
   refine goes_ Try.func64 (by kernel_rfl) rfl #[.pointer (some ⟨gg, 0, none⟩), .int .i64 s, .int .i64 (j : Int)] (by rfl) rfl rfl q9_ ?_
   refine (Grid_At.calls gg _ V s (j : Int) _ _ _ _ _ _ HG.out.blk).mono ?_
   rintro e w' ⟨rfl, hw'⟩
   subst hw'
   rw [HWA.out]
   refine ⟨_, rfl, ?_⟩
   refine hK.out _ _ hHeld (fun hHeld => ?_)
   clear hK K
   refine norm_ (a' := ?_) ?_ ?_
   rotate_left
   ·show Act.put _ (some 39) _ = _
    simp only [Act.put, List.setIfInBounds_toArray, List.set_cons_zero, List.set_cons_succ, i64_w, i32_w]
    rfl
   refine one_ (i := 11) (N := (some 40)) #[Tt,Tt,Tt,Tt,Tt,Tt,Tt,Tt,Tt,Tt,Tt,Tt,Ff] rfl rfl (one_of HT_.out (by kernel_rfl)) (by decide) (fun K hK => ?_)
   refine goes_ Try.func63 (by kernel_rfl) rfl #[.pointer (some ⟨gg, 0, none⟩), .int .i64 ((H + 1) * V), .int .i64 ((j : Int) * V + s), .int .i64 1099511627776] (by rfl) rfl rfl q9_ ?_
   refine (Grid_Add.calls (fun k => k ≠ gs ∧ k ≠ gt) gg _ V v (G.1 ++ firstsA V H s j) m1 m2 m3 m4 G.2.1 G.2.2 (placesL G.1.length j) ([]) ((H + 1) * V) ((j : Int) * V + s) 1099511627776 w _ HB.out HG.out (fun k hk => ⟨fun e_ => by have := blk_lt BKs.out; omega, fun e_ => by have := blk_lt BKt.out; omega⟩) (by rw [HAL.out]; have := HLA.out; have := HJN.out; have := HH1.out; omega)).mono ?_
   rintro e w11 ⟨rfl, v2, hG, hb, hk⟩
   refine ⟨_, rfl, ?_⟩
   have n0_ := am_ (Kept.blk (S := fun k => k = gg ∨ (k ≠ gs ∧ k ≠ gt)) hk BKs.out (fun hc => by rcases hc with hc | hc; (exact NBs.out hc); (exact hc.1 rfl)))
   have n1_ := am_ (Kept.blk (S := fun k => k = gg ∨ (k ≠ gs ∧ k ≠ gt)) hk BKt.out (fun hc => by rcases hc with hc | hc; (exact NBt.out hc); (exact hc.2 rfl)))
   clear HG HB BKs BKt hk hHeld
   have HG := am_ hG
   have HB := am_ hb
   have BKs := n0_
   have BKt := n1_
   clear n0_ n1_ hG hb
   rw [HAL.out]
   refine hK.out _ _ ⟨(blk_cell HG.out.blk 5).trans rfl, (blk_cell BKs.out 0).trans rfl⟩ (fun hHeld => ?_)
   clear hK K
   refine norm_ (a' := ?_) ?_ ?_
   rotate_left
   ·show Act.put _ (some 40) _ = _
    simp only [Act.put, List.setIfInBounds_toArray, List.set_cons_zero, List.set_cons_succ, i64_w, i32_w]
    rfl
   refine last_ (i := 12) (N := none) #[Tt,Tt,Tt,Tt,Tt,Tt,Tt,Tt,Tt,Tt,Tt,Tt,Tt] rfl rfl (one_of HT_.out (by kernel_rfl)) (by decide) (fun K hK => ?_)
   refine mput_step E3 (by rfl) rfl (.tmp 32) (.tmp 33) (.tmp 40) 74 rfl Try.underlying74 rfl HG.out.M3 (j : Int) (((G.1.length) + j : Nat) : Int) rfl rfl HKEY.out HKV.out (by rw [HLN.out]; have := HJN.out; unfold maxLen; omega) ?_
   intro w12 hM hg
   refine hK.out _ _ ?_
   clear hK K
   have n0_ := am_ (HG.out.put3 hg hM)
   have n1_ := am_ (Below.grown HB.out hg (below_size HB.out) (fun k_ e_ => by injection e_ with e_; subst e_; exact Nat.le_trans HG.out.o1 (Nat.le_trans (Nat.le_of_lt HG.out.o2) (Nat.le_of_lt HG.out.o3))))
   have n2_ := am_ (blk_grown BKs.out hg (fun e_ => HG.out.M3.ne BKs.out (Option.some.inj e_)))
   have n3_ := am_ (blk_grown BKt.out hg (fun e_ => HG.out.M3.ne BKt.out (Option.some.inj e_)))
   clear HG HB BKs BKt hM hg
   have HG := n0_
   have HB := n1_
   have BKs := n2_
   have BKt := n3_
   clear n0_ n1_ n2_ n3_
   refine done_ (done_of HT_.out (by kernel_rfl)) ?_
   try go_wp2
   go_roundg gk0
   case measure => omega
   case rel =>
    refine ⟨j + 1, v2, by first | exact congrArg (Value.int .i64) (by omega) | exact congrArg (Value.int .i64) HWI.out, ⟨by have := HJ.out; omega⟩, HB, ⟨?_⟩, BKs, BKt⟩
    rw [firstsA_succ, placesL_succ _ j, ← List.append_assoc]
    exact HG.out
def expand_Build.f (k : Nat) (a0_0 : Int) (a0_1 : Bool) (l0_2 : List S54) (a1 a2 a3 : Int) : Option (Int × Bool × List S54 × Int) := (expand_Asked.f k a0_0 a0_1 l0_2 a1 a2 a3).bind fun e => if e = 0 then (if okNet a0_0 a3 l0_2 = true ∧ (0 ≤ a1 ∧ a1 < a0_0 ∧ 0 ≤ a2 ∧ a2 < a0_0) then some ((a3 + 1) * a0_0 + 2, false, gridArcs a0_0 a3 a0_1 a1 a2 l0_2, 0) else none) else some (0, false, [], e)
theorem expand_Build.mono : ∀ a0 a1 a2 a3 a4 a5 k, LeO (expand_Build.f k a0 a1 a2 a3 a4 a5) (expand_Build.f (k + 1) a0 a1 a2 a3 a4 a5) := fun a0 a1 a2 a3 a4 a5 k => LeO.bind (expand_Asked.mono _ _ _ _ _ _ _) (fun _ => LeO.refl _)
set_option maxHeartbeats 8000000 in
set_option maxRecDepth 100000 in
theorem expand_Build.calls (k : Nat) (a0_0 : Int) (a0_1 : Bool) (A0_2 : Option Addr) (c0_2 : Nat) (l0_2 : List S54) (a1 a2 a3 : Int) (r1 : Int) (r2 : Bool) (r3 : List S54) (r4 : Int) (w : World) (hr0_2 : Kd.C k54 w A0_2 l0_2.length l0_2) (hc0_2 : l0_2.length ≤ c0_2) (h : expand_Build.f k a0_0 a0_1 l0_2 a1 a2 a3 = some (r1, r2, r3, r4)) :
 Calls Try.prog 17 #[.agg #[.int .i64 a0_0, .bool a0_1, .slice A0_2 l0_2.length c0_2], .int .i64 a1, .int .i64 a2, .int .i64 a3] w fun e w' => ∃ v2_ : Value, e = .returned (.tuple #[.agg #[.int .i64 r1, .bool r2, v2_], .int .i64 r4]) ∧ Kd.R k54 54 w' w.heap.size (fun _ => True) v2_ r3 ∧ Below w.heap.size w w' := by
 have hu24 := Try.underlying24
 have hu76 := Try.underlying76
 have HR0 := am_ hr0_2
 have HC0 := am_ hc0_2
 have HB := am_ (Below.refl w.heap.size w)
 clear hr0_2 hc0_2
 unfold expand_Build.f at h
 obtain ⟨e, he, h⟩ := Option.bind_eq_some_iff.1 h
 have HE := am_ he
 clear he
 by_cases c : e = 0
 ·rw [if_pos c] at h
  split at h
  case isFalse => cases h
  rename_i hh
  simp only [Option.some.injEq, Prod.mk.injEq] at h
  obtain ⟨rfl, rfl, rfl, rfl⟩ := h
  have HOK := am_ hh.1
  have HEN := am_ hh.2
  have c1 : (e == 0) = true := beq_iff_eq.2 c
  have c2 : (e != 0) = false := by rw [c]; rfl
  clear hh c
  go_enter Try.func17, Try.ntmps17
  go_wp2_with (first
   | ((with_reducible refine gate_dst (N := 4) rfl ?_); refine box_event ?hg (N := 4) ?hd (cs := #[.int .i64 a0_0, .bool a0_1, .slice A0_2 l0_2.length c0_2]) (t := 24) ?hr ?_; (case hd => rfl); (case hg => rfl); (case hr => first | (go_simp; done) | (go_simp; rfl)); intro gn hg w2 hbox hb; replace HB := am_ (below_step HB.out hb); have BKn := am_ hbox; clear hb hbox hg)
   | ((with_reducible refine gate_dst (N := 8) rfl ?_); refine box_event ?hg (N := 8) ?hd (cs := #[.int .i64 0, .bool false, .slice none 0 0]) (t := 24) ?hr ?_; (case hd => rfl); (case hg => rfl); (case hr => first | (go_simp; done) | (go_simp; rfl)); intro gr hg w3 hbox hb; have n0_ := am_ (below_step HB.out hb); have n1_ := am_ hbox; have n2_ := am_ (blk_below BKn.out hb); have n3_ := am_ (by rw [hg]; exact below_size HB.out : w.heap.size ≤ gr); clear HB BKn; have HB := n0_; have BKr := n1_; have BKn := n2_; have GEr := n3_; clear n0_ n1_ n2_ n3_; clear hb hbox hg; have zn0 : w3.cell? ⟨gn, 0, none⟩ = some (.int .i64 a0_0) := (blk_cell BKn.out 0).trans rfl; have zn1 : w3.cell? ⟨gn, 1, none⟩ = some (.bool a0_1) := (blk_cell BKn.out 1).trans rfl; have zn2 : w3.cell? ⟨gn, 2, none⟩ = some (.slice A0_2 l0_2.length c0_2) := (blk_cell BKn.out 2).trans rfl)
   | (go_at_call 38; (with_reducible refine (expand_Asked.calls k a0_0 a0_1 A0_2 c0_2 l0_2 a1 a2 a3 e _ ?side11 HC0.out HE.out).mono ?_); (case side11 => exact (Kd.C_below HR0.out HB.out)); rintro e4 w4 ⟨rfl, hb⟩; have n0_ := am_ (below_step HB.out hb); have n1_ := am_ (blk_below BKn.out hb); have n2_ := am_ (blk_below BKr.out hb); clear HB BKn BKr zn0 zn1 zn2 hb; have HB := n0_; have BKn := n1_; have BKr := n2_; clear n0_ n1_ n2_; have zn0 : w4.cell? ⟨gn, 0, none⟩ = some (.int .i64 a0_0) := (blk_cell BKn.out 0).trans rfl; have zn1 : w4.cell? ⟨gn, 1, none⟩ = some (.bool a0_1) := (blk_cell BKn.out 1).trans rfl; have zn2 : w4.cell? ⟨gn, 2, none⟩ = some (.slice A0_2 l0_2.length c0_2) := (blk_cell BKn.out 2).trans rfl; have zr0 : w4.cell? ⟨gr, 0, none⟩ = some (.int .i64 0) := (blk_cell BKr.out 0).trans rfl; have zr1 : w4.cell? ⟨gr, 1, none⟩ = some (.bool false) := (blk_cell BKr.out 1).trans rfl; have zr2 : w4.cell? ⟨gr, 2, none⟩ = some (.slice none 0 0) := (blk_cell BKr.out 2).trans rfl; have yr0 := blk_frozen BKr.out 0; have yr1 := blk_frozen BKr.out 1; have yr2 := blk_frozen BKr.out 2)
   | (go_at_call 39; refine (expand_Of.calls a0_0 a3 a1 a2 a0_1 A0_2 c0_2 l0_2 _ (Kd.C_below HR0.out HB.out) HC0.out HOK.out HEN.out.1 HEN.out.2.1 HEN.out.2.2.1 HEN.out.2.2.2).mono ?_; rintro e5 w5 ⟨gg, v, m1, m2, m3, m4, rfl, hG, hb⟩; obtain ⟨Av, cv, ev⟩ := Kd.R_slice hG.row; generalize (gridArcs a0_0 a3 a0_1 a1 a2 l0_2).length = nv at ev; subst ev; have NBr := am_ (show gr ≠ gg from fun e_ => absurd hG.ge (by rw [← e_]; exact Nat.not_le_of_lt (blk_lt BKr.out))); have n0_ := am_ (((hG.apart (blk_lt BKr.out)).lower (below_size HB.out))); have n1_ := am_ (below_step HB.out hb); have n2_ := am_ (blk_below BKr.out hb); clear HB BKn BKr zn0 zn1 zn2 zr0 zr1 zr2 yr0 yr1 yr2 hb hG; have HG := n0_; have HB := n1_; have BKr := n2_; clear n0_ n1_ n2_; have zg0 : w5.cell? ⟨gg, 0, none⟩ = some (.int .i64 ((a3 + 1) * a0_0 + 2)) := (blk_cell HG.out.blk 0).trans rfl; have zg1 : w5.cell? ⟨gg, 1, none⟩ = some (.bool false) := (blk_cell HG.out.blk 1).trans rfl; have zg2 : w5.cell? ⟨gg, 2, none⟩ = some (.slice Av nv cv) := (blk_cell HG.out.blk 2).trans rfl; have zr0 : w5.cell? ⟨gr, 0, none⟩ = some (.int .i64 0) := (blk_cell BKr.out 0).trans rfl; have zr1 : w5.cell? ⟨gr, 1, none⟩ = some (.bool false) := (blk_cell BKr.out 1).trans rfl; have zr2 : w5.cell? ⟨gr, 2, none⟩ = some (.slice none 0 0) := (blk_cell BKr.out 2).trans rfl; have yr0 := blk_frozen BKr.out 0; have yr1 := blk_frozen BKr.out 1; have yr2 := blk_frozen BKr.out 2))
  refine bodyPost_ret (results_ct rfl _ _ gr 24 #[.int .i64 ((a3 + 1) * a0_0 + 2), .bool false, .slice Av nv cv] (0, 0) _ rfl (blk_put (cs' := #[.int .i64 ((a3 + 1) * a0_0 + 2), .bool false, .slice Av nv cv]) (blk_put (cs' := #[.int .i64 ((a3 + 1) * a0_0 + 2), .bool false, .slice none 0 0]) (blk_put (cs' := #[.int .i64 ((a3 + 1) * a0_0 + 2), .bool false, .slice none 0 0]) BKr.out 0 (.int .i64 ((a3 + 1) * a0_0 + 2)) rfl) 1 (.bool false) rfl) 2 (.slice Av nv cv) rfl) Try.underlying24 rfl (by kernel_rfl)) rfl ?_
  exact ⟨_, rfl, Kd.R_mono (Kd.R_far (p := ⟨gr, 2, none⟩) (Kd.R_far (p := ⟨gr, 1, none⟩) (Kd.R_far (p := ⟨gr, 0, none⟩) HG.out.row (fun _ hk => hk.1.2) _) (fun _ hk => hk.1.2) _) (fun _ hk => hk.1.2) _) (fun _ _ => trivial), below_set (below_set (below_set HB.out GEr.out) GEr.out) GEr.out⟩
 ·rw [if_neg c] at h
  simp only [Option.some.injEq, Prod.mk.injEq] at h
  obtain ⟨rfl, rfl, rfl, rfl⟩ := h
  have c1 : (e == 0) = false := beq_eq_false_iff_ne.2 c
  have c2 : (e != 0) = true := bne_iff_ne.2 c
  clear c
  have HOK := am_ (trivial : True)
  have HEN := HOK
  go_enter Try.func17, Try.ntmps17
  go_wp2_with (first
   | ((with_reducible refine gate_dst (N := 4) rfl ?_); refine box_event ?hg (N := 4) ?hd (cs := #[.int .i64 a0_0, .bool a0_1, .slice A0_2 l0_2.length c0_2]) (t := 24) ?hr ?_; (case hd => rfl); (case hg => rfl); (case hr => first | (go_simp; done) | (go_simp; rfl)); intro gn hg w2 hbox hb; replace HB := am_ (below_step HB.out hb); have BKn := am_ hbox; clear hb hbox hg)
   | ((with_reducible refine gate_dst (N := 8) rfl ?_); refine box_event ?hg (N := 8) ?hd (cs := #[.int .i64 0, .bool false, .slice none 0 0]) (t := 24) ?hr ?_; (case hd => rfl); (case hg => rfl); (case hr => first | (go_simp; done) | (go_simp; rfl)); intro gr hg w3 hbox hb; have n0_ := am_ (below_step HB.out hb); have n1_ := am_ hbox; have n2_ := am_ (blk_below BKn.out hb); have n3_ := am_ (by rw [hg]; exact below_size HB.out : w.heap.size ≤ gr); clear HB BKn; have HB := n0_; have BKr := n1_; have BKn := n2_; have GEr := n3_; clear n0_ n1_ n2_ n3_; clear hb hbox hg; have zn0 : w3.cell? ⟨gn, 0, none⟩ = some (.int .i64 a0_0) := (blk_cell BKn.out 0).trans rfl; have zn1 : w3.cell? ⟨gn, 1, none⟩ = some (.bool a0_1) := (blk_cell BKn.out 1).trans rfl; have zn2 : w3.cell? ⟨gn, 2, none⟩ = some (.slice A0_2 l0_2.length c0_2) := (blk_cell BKn.out 2).trans rfl)
   | (go_at_call 38; (with_reducible refine (expand_Asked.calls k a0_0 a0_1 A0_2 c0_2 l0_2 a1 a2 a3 e _ ?side12 HC0.out HE.out).mono ?_); (case side12 => exact (Kd.C_below HR0.out HB.out)); rintro e4 w4 ⟨rfl, hb⟩; have n0_ := am_ (below_step HB.out hb); have n1_ := am_ (blk_below BKn.out hb); have n2_ := am_ (blk_below BKr.out hb); clear HB BKn BKr zn0 zn1 zn2 hb; have HB := n0_; have BKn := n1_; have BKr := n2_; clear n0_ n1_ n2_; have zn0 : w4.cell? ⟨gn, 0, none⟩ = some (.int .i64 a0_0) := (blk_cell BKn.out 0).trans rfl; have zn1 : w4.cell? ⟨gn, 1, none⟩ = some (.bool a0_1) := (blk_cell BKn.out 1).trans rfl; have zn2 : w4.cell? ⟨gn, 2, none⟩ = some (.slice A0_2 l0_2.length c0_2) := (blk_cell BKn.out 2).trans rfl; have zr0 : w4.cell? ⟨gr, 0, none⟩ = some (.int .i64 0) := (blk_cell BKr.out 0).trans rfl; have zr1 : w4.cell? ⟨gr, 1, none⟩ = some (.bool false) := (blk_cell BKr.out 1).trans rfl; have zr2 : w4.cell? ⟨gr, 2, none⟩ = some (.slice none 0 0) := (blk_cell BKr.out 2).trans rfl; have yr0 := blk_frozen BKr.out 0; have yr1 := blk_frozen BKr.out 1; have yr2 := blk_frozen BKr.out 2)
   | (go_at_call 39; refine (expand_Of.calls a0_0 a3 a1 a2 a0_1 A0_2 c0_2 l0_2 _ (Kd.C_below HR0.out HB.out) HC0.out HOK.out HEN.out.1 HEN.out.2.1 HEN.out.2.2.1 HEN.out.2.2.2).mono ?_; rintro e5 w5 ⟨gg, v, m1, m2, m3, m4, rfl, hG, hb⟩; obtain ⟨Av, cv, ev⟩ := Kd.R_slice hG.row; generalize (gridArcs a0_0 a3 a0_1 a1 a2 l0_2).length = nv at ev; subst ev; have NBr := am_ (show gr ≠ gg from fun e_ => absurd hG.ge (by rw [← e_]; exact Nat.not_le_of_lt (blk_lt BKr.out))); have n0_ := am_ (((hG.apart (blk_lt BKr.out)).lower (below_size HB.out))); have n1_ := am_ (below_step HB.out hb); have n2_ := am_ (blk_below BKr.out hb); clear HB BKn BKr zn0 zn1 zn2 zr0 zr1 zr2 yr0 yr1 yr2 hb hG; have HG := n0_; have HB := n1_; have BKr := n2_; clear n0_ n1_ n2_; have zg0 : w5.cell? ⟨gg, 0, none⟩ = some (.int .i64 ((a3 + 1) * a0_0 + 2)) := (blk_cell HG.out.blk 0).trans rfl; have zg1 : w5.cell? ⟨gg, 1, none⟩ = some (.bool false) := (blk_cell HG.out.blk 1).trans rfl; have zg2 : w5.cell? ⟨gg, 2, none⟩ = some (.slice Av nv cv) := (blk_cell HG.out.blk 2).trans rfl; have zr0 : w5.cell? ⟨gr, 0, none⟩ = some (.int .i64 0) := (blk_cell BKr.out 0).trans rfl; have zr1 : w5.cell? ⟨gr, 1, none⟩ = some (.bool false) := (blk_cell BKr.out 1).trans rfl; have zr2 : w5.cell? ⟨gr, 2, none⟩ = some (.slice none 0 0) := (blk_cell BKr.out 2).trans rfl; have yr0 := blk_frozen BKr.out 0; have yr1 := blk_frozen BKr.out 1; have yr2 := blk_frozen BKr.out 2))
  refine bodyPost_ret (results_ct rfl _ _ gr 24 #[.int .i64 0, .bool false, .slice none 0 0] (0, 0) _ rfl (blk_put (cs' := #[.int .i64 0, .bool false, .slice none 0 0]) (blk_put (cs' := #[.int .i64 0, .bool false, .slice none 0 0]) (blk_put (cs' := #[.int .i64 0, .bool false, .slice none 0 0]) BKr.out 0 (.int .i64 0) rfl) 1 (.bool false) rfl) 2 (.slice none 0 0) rfl) Try.underlying24 rfl (by kernel_rfl)) rfl ?_
  exact ⟨_, rfl, Kd.R_nil _ _ _ _ _, below_set (below_set (below_set HB.out GEr.out) GEr.out) GEr.out⟩
end Go.Proofs.Ytfhkkbpkajfdlaa.Q
end
section
namespace Go.Proofs.Ytfhkkbpkajfdlaa.Q
open Go.RowKit Go.Proofs.YtfhkkbpkajfdlaaW.PrintWords Go.Proofs.YtfhkkbpkajfdlaaW.PrintLast Go.Proofs.YtfhkkbpkajfdlaaW.PrintMore
def cmp_Or_int.l0 : Nat → Int → List Int → Int → Int → Option (Int)
 | 0, _, _, _, _ => none
 | k + 1, x3, x6, x7, x8 => if x8 < x7 then (if 0 ≤ x8 then (if x8 < (x6.length : Int) then (if (rd x6 x8) = x3 then (cmp_Or_int.l0 k x3 x6 x7 (wrap64 (x8 + 1))) else (some (rd x6 x8))) else (none)) else (none)) else (some x3)
def cmp_Or_int.f (k : Nat) (l0 : List Int) : Option (Int) := cmp_Or_int.l0 k 0 l0 (l0.length : Int) 0
set_option maxHeartbeats 8000000 in
set_option maxRecDepth 100000 in
theorem cmp_Or_int.calls (k : Nat) (A0 : Option Addr) (c0 : Nat) (l0 : List Int) (r : Int) (w : World) (hr0 : Kd.C (Kd.int .i64) w A0 l0.length l0) (hc0 : l0.length ≤ c0) (h : cmp_Or_int.f k l0 = some r) :
  Calls Try.prog 80 #[.slice A0 l0.length c0] w fun e w' => e = .returned (.int .i64 r) ∧ Drawn0 w w' := by
 have HR0 := am_ hr0; have HC0 := am_ hc0; clear hr0 hc0; have H : (cmp_Or_int.l0 k 0 l0 (l0.length : Int) 0) = some r := h; clear h; have H' := am_ H; clear H
 go_enter Try.func80, Try.ntmps80
 go_wp2
 go_loopg [8] k (fun kq v8 w' => ∃ (x8_1 : Int), v8 = .int .i64 x8_1 ∧ Aside0 (cmp_Or_int.l0 kq 0 l0 (l0.length : Int) x8_1 = some r) ∧ Aside0 (kq ≤ k) ∧ Drawn0 w w')
 case atStart => exact ⟨(0), rs_, H', ⟨Nat.le_refl _⟩, by repeat (first | exact Drawn0.refl _ | apply Drawn0.step)⟩
 case round =>
  clear H'; obtain ⟨x8_1, rfl, HA, HK1, ⟨m1, rfl⟩⟩ := hrel
  cases gk with
  | zero => exact absurd HA.out (by simp [cmp_Or_int.l0])
  | succ k1 =>
   have H := HA.out; clear HA; simp only [cmp_Or_int.l0] at H
   by_cases c2 : x8_1 < (l0.length : Int)
   ·rw [if_pos c2] at H
    have c2b0 := decide_eq_true c2; clear c2
    replace H := ifn_ H; obtain ⟨c3, H⟩ := H
    have c3b0 := decide_eq_true c3; clear c3
    replace H := ifn_ H; obtain ⟨c4, H⟩ := H
    have c4b0 := decide_eq_true c4; clear c4
    by_cases c5 : (rd l0 x8_1) = 0
    ·rw [if_pos c5] at H
     obtain ⟨c5b0, c5b1⟩ := eqb_ c5; clear c5; have H' := am_ H; clear H; have p102 : 0 ≤ (x8_1 : Int) := of_decide_eq_true sm_; have q102 : x8_1 < (l0.length : Int) := of_decide_eq_true sm_; obtain ⟨ad102, e102, hx102_0⟩ := Kd.at_int HR0.out x8_1 p102 q102; cases e102; replace p102 := eq_true p102; replace q102 := eq_true q102
     go_wp2
     go_roundg k1
     case measure => have := HK1.out; omega
     case rel => exact ⟨(wrap64 (x8_1 + 1)), rs_, H', ⟨by have := HK1.out; omega⟩, by repeat (first | exact Drawn0.refl _ | apply Drawn0.step)⟩
    ·rw [if_neg c5] at H
     obtain ⟨c5b0, c5b1⟩ := neb_ c5; obtain rfl := Option.some.inj H; have p102 : 0 ≤ (x8_1 : Int) := of_decide_eq_true sm_; have q102 : x8_1 < (l0.length : Int) := of_decide_eq_true sm_; obtain ⟨ad102, e102, hx102_0⟩ := Kd.at_int HR0.out x8_1 p102 q102; cases e102; replace p102 := eq_true p102; replace q102 := eq_true q102
     go_wp2
     go_ret
     exact ⟨by first | rfl | (simp; done) | (simp [*]; done), by repeat (first | exact Drawn0.refl _ | apply Drawn0.step)⟩
   ·rw [if_neg c2] at H
    have c2b0 := decide_eq_false c2; clear c2; obtain rfl := Option.some.inj H
    go_wp2
    go_ret
    exact ⟨by first | rfl | (simp; done) | (simp [*]; done), by repeat (first | exact Drawn0.refl _ | apply Drawn0.step)⟩
def cmp_isNaN_int.f (a0 : Int) : Option (Bool) := some (a0 != a0)
set_option maxHeartbeats 8000000 in
set_option maxRecDepth 100000 in
theorem cmp_isNaN_int.calls (a0 : Int) (r : Bool) (w : World) (h : cmp_isNaN_int.f a0 = some r) :
  Calls Try.prog 91 #[.int .i64 a0] w fun e w' => e = .returned (.bool r) ∧ Drawn0 w w' := by
 have H : (some (a0 != a0)) = some r := h; clear h; obtain rfl := Option.some.inj H
 go_enter Try.func91, Try.ntmps91
 go_wp2
 go_ret
 exact ⟨by first | rfl | (simp; done) | (simp [*]; done), by repeat (first | exact Drawn0.refl _ | apply Drawn0.step)⟩
end Go.Proofs.Ytfhkkbpkajfdlaa.Q
end
