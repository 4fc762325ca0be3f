/- A part of the proof: words, contracts, plain lemmas. Conditions: none. -/
import Derived.Test.YtfhkkbpkajfdlaaZExpandRuns32
set_option linter.unusedSimpArgs false
set_option linter.unusedVariables false
section
namespace Go.Proofs.Ytfhkkbpkajfdlaa.Q
open Go.RowKit Go.Proofs.YtfhkkbpkajfdlaaW.PrintWords Go.Proofs.YtfhkkbpkajfdlaaW.PrintLast Go.Proofs.YtfhkkbpkajfdlaaW.PrintMore
mutual
def ebbtidelaw15_ExpandRuns.j0 : Nat → Bool → Int → Int → Int → Bool → Int → Bool → List (S54) → Int → Bool → List (S54) → Option (Bool)
 | 0, _, _, _, _, _, _, _, _, _, _, _ => none
 | k + 1, x3, x5, x6, x7, x49, x377000, x377001, x377002, x384000, x384001, x384002 => if x49 = true then (some false) else (ebbtidelaw15_ExpandRuns.l0 k x3 x5 x6 x7 0 x377000 x377001 x377002 x384000 x384001 x384002)
def ebbtidelaw15_ExpandRuns.l0 : Nat → Bool → Int → Int → Int → Int → Int → Bool → List (S54) → Int → Bool → List (S54) → Option (Bool)
 | 0, _, _, _, _, _, _, _, _, _, _, _ => none
 | k + 1, x3, x5, x6, x7, x10, x377000, x377001, x377002, x384000, x384001, x384002 => if x10 < (x384002.length : Int) then (if 0 ≤ x10 then (if ((rd_T54 x384002 x10).f0) < 0 then (some false) else (if ((rd_T54 x384002 x10).f0) ≥ x384000 then (some false) else (if ((rd_T54 x384002 x10).f1) < 0 then (some false) else (if ((rd_T54 x384002 x10).f1) ≥ x384000 then (some false) else (if ((rd_T54 x384002 x10).f2) < 0 then (some false) else (ebbtidelaw15_ExpandRuns.l0 k x3 x5 x6 x7 (wrap64 (x10 + 1)) x377000 x377001 x377002 x384000 x384001 x384002)))))) else (none)) else ((ebbtideref09_Best.f k x384000 x384001 x384002 (wrap64 (x384000 - 2)) (wrap64 (x384000 - 1))).bind fun t386 => (ebbtidelaw15_ExpandRuns.l1 k x3 x5 x6 x7 t386 0 0 x377000 x377001 x377002 x384000 x384001 x384002))
def ebbtidelaw15_ExpandRuns.l1 : Nat → Bool → Int → Int → Int → List Int → Int → Int → Int → Bool → List (S54) → Int → Bool → List (S54) → Option (Bool)
 | 0, _, _, _, _, _, _, _, _, _, _, _, _, _ => none
 | k + 1, x3, x5, x6, x7, x12, x13, x14, x377000, x377001, x377002, x384000, x384001, x384002 => if x14 < (x12.length : Int) then (if 0 ≤ x14 then (if x14 < (x384002.length : Int) then (if ((rd_T54 x384002 x14).f0) = (wrap64 (x384000 - 2)) then (ebbtidelaw15_ExpandRuns.l1 k x3 x5 x6 x7 x12 (wrap64 (x13 + (rd x12 x14))) (wrap64 (x14 + 1)) x377000 x377001 x377002 x384000 x384001 x384002) else (ebbtidelaw15_ExpandRuns.l1 k x3 x5 x6 x7 x12 x13 (wrap64 (x14 + 1)) x377000 x377001 x377002 x384000 x384001 x384002)) else (none)) else (none)) else ((expand_Moves.f k x377000 x377001 x377002 x5 x6 x7 x12).bind fun bt391 => ((ebbtideref14_Check.f k x377000 x377001 x377002 x5 x6 x7 bt391.1).bind fun bt395 => (if x3 = true then (if bt391.2 = 0 then (if bt395.2 = 0 then (some (bt395.1 == x13)) else (some false)) else (some false)) else (some false))))
end
def ebbtidelaw15_ExpandRuns.f (k : Nat) (a0_0 : Int) (a0_1 : Bool) (l0_2 : List (S80)) (a0_3 : Int) (a0_4 : Int) (a0_5 : Int) : Option (Bool) := (ebbtidelaw15_awake.f k).bind fun t367 => (if t367 = true then ((ebbtidelaw12_Read.f k a0_0 a0_1 l0_2 a0_3 a0_4 a0_5 6).bind fun bt368 => ((expand_Build.f k bt368.1 bt368.2.1 bt368.2.2.1 bt368.2.2.2.1 bt368.2.2.2.2.1 bt368.2.2.2.2.2).bind fun bt377 => (if bt377.2.2.2 = 0 then (ebbtidelaw15_ExpandRuns.j0 k t367 bt368.2.2.2.1 bt368.2.2.2.2.1 bt368.2.2.2.2.2 (bt377.1 != (wrap64 ((wrap64 ((wrap64 (bt368.2.2.2.2.2 + 1)) * bt368.1)) + 2))) bt368.1 bt368.2.1 bt368.2.2.1 bt377.1 bt377.2.1 bt377.2.2.1) else (ebbtidelaw15_ExpandRuns.j0 k t367 bt368.2.2.2.1 bt368.2.2.2.2.1 bt368.2.2.2.2.2 true bt368.1 bt368.2.1 bt368.2.2.1 bt377.1 bt377.2.1 bt377.2.2.1)))) else (some false))
set_option maxHeartbeats 8000000 in
set_option maxRecDepth 100000 in
theorem ebbtidelaw15_ExpandRuns.calls (k : Nat) (a0_0 : Int) (a0_1 : Bool) (A0_2 : Option Addr) (c0_2 : Nat) (l0_2 : List (S80)) (a0_3 : Int) (a0_4 : Int) (a0_5 : Int) (r : Bool) (w : World) (hr0_2 : Kd.C k80 w A0_2 l0_2.length l0_2) (hc0_2 : l0_2.length ≤ c0_2) (h : ebbtidelaw15_ExpandRuns.f k a0_0 a0_1 l0_2 a0_3 a0_4 a0_5 = some r) (hrt : r = true := by first | rfl | exact HRT.out | assumption) :
  Calls Try.prog 7 #[.agg #[.int .u8 a0_0, .bool a0_1, .slice A0_2 l0_2.length c0_2, .int .u8 a0_3, .int .u8 a0_4, .int .u8 a0_5]] w fun e w' => e = .returned (.bool r) ∧ Below w.heap.size w w' := by
 have HRT := am_ hrt; clear hrt; have hu41 := Try.underlying41; have hu24 := Try.underlying24; have hu54 := Try.underlying54; have HR0_2 := am_ hr0_2; have HC0_2 := am_ hc0_2; clear hr0_2 hc0_2; have HB := am_ (Below.refl w.heap.size w); have H : ((ebbtidelaw15_awake.f k).bind fun t367 => (if t367 = true then ((ebbtidelaw12_Read.f k a0_0 a0_1 l0_2 a0_3 a0_4 a0_5 6).bind fun bt368 => ((expand_Build.f k bt368.1 bt368.2.1 bt368.2.2.1 bt368.2.2.2.1 bt368.2.2.2.2.1 bt368.2.2.2.2.2).bind fun bt377 => (if bt377.2.2.2 = 0 then (ebbtidelaw15_ExpandRuns.j0 k t367 bt368.2.2.2.1 bt368.2.2.2.2.1 bt368.2.2.2.2.2 (bt377.1 != (wrap64 ((wrap64 ((wrap64 (bt368.2.2.2.2.2 + 1)) * bt368.1)) + 2))) bt368.1 bt368.2.1 bt368.2.2.1 bt377.1 bt377.2.1 bt377.2.2.1) else (ebbtidelaw15_ExpandRuns.j0 k t367 bt368.2.2.2.1 bt368.2.2.2.2.1 bt368.2.2.2.2.2 true bt368.1 bt368.2.1 bt368.2.2.1 bt377.1 bt377.2.1 bt377.2.2.1)))) else (some false))) = some r := h; clear h; replace H := Option.bind_eq_some_iff.mp H; obtain ⟨t367, A20, H⟩ := H; replace H : (if t367 = true then ((ebbtidelaw12_Read.f k a0_0 a0_1 l0_2 a0_3 a0_4 a0_5 6).bind fun bt368 => ((expand_Build.f k bt368.1 bt368.2.1 bt368.2.2.1 bt368.2.2.2.1 bt368.2.2.2.2.1 bt368.2.2.2.2.2).bind fun bt377 => (if bt377.2.2.2 = 0 then (ebbtidelaw15_ExpandRuns.j0 k t367 bt368.2.2.2.1 bt368.2.2.2.2.1 bt368.2.2.2.2.2 (bt377.1 != (wrap64 ((wrap64 ((wrap64 (bt368.2.2.2.2.2 + 1)) * bt368.1)) + 2))) bt368.1 bt368.2.1 bt368.2.2.1 bt377.1 bt377.2.1 bt377.2.2.1) else (ebbtidelaw15_ExpandRuns.j0 k t367 bt368.2.2.2.1 bt368.2.2.2.2.1 bt368.2.2.2.2.2 true bt368.1 bt368.2.1 bt368.2.2.1 bt377.1 bt377.2.1 bt377.2.2.1)))) else (some false)) = some r := H; have A2 := am_ A20; clear A20
 by_cases c3 : t367 = true
 ·subst c3
  have H1 : ((ebbtidelaw12_Read.f k a0_0 a0_1 l0_2 a0_3 a0_4 a0_5 6).bind fun bt368 => ((expand_Build.f k bt368.1 bt368.2.1 bt368.2.2.1 bt368.2.2.2.1 bt368.2.2.2.2.1 bt368.2.2.2.2.2).bind fun bt377 => (if bt377.2.2.2 = 0 then (ebbtidelaw15_ExpandRuns.j0 k true bt368.2.2.2.1 bt368.2.2.2.2.1 bt368.2.2.2.2.2 (bt377.1 != (wrap64 ((wrap64 ((wrap64 (bt368.2.2.2.2.2 + 1)) * bt368.1)) + 2))) bt368.1 bt368.2.1 bt368.2.2.1 bt377.1 bt377.2.1 bt377.2.2.1) else (ebbtidelaw15_ExpandRuns.j0 k true bt368.2.2.2.1 bt368.2.2.2.2.1 bt368.2.2.2.2.2 true bt368.1 bt368.2.1 bt368.2.2.1 bt377.1 bt377.2.1 bt377.2.2.1)))) = some r := by rw [if_pos rfl] at H; exact H
  clear H; have H := H1; clear H1; replace H := Option.bind_eq_some_iff.mp H; obtain ⟨⟨t368, t369, t370, t373, t374, t375⟩, A40, H⟩ := H; replace H : ((expand_Build.f k t368 t369 t370 t373 t374 t375).bind fun bt377 => (if bt377.2.2.2 = 0 then (ebbtidelaw15_ExpandRuns.j0 k true t373 t374 t375 (bt377.1 != (wrap64 ((wrap64 ((wrap64 (t375 + 1)) * t368)) + 2))) t368 t369 t370 bt377.1 bt377.2.1 bt377.2.2.1) else (ebbtidelaw15_ExpandRuns.j0 k true t373 t374 t375 true t368 t369 t370 bt377.1 bt377.2.1 bt377.2.2.1))) = some r := H; have A4 := am_ A40; clear A40; replace H := Option.bind_eq_some_iff.mp H; obtain ⟨⟨t377, t378, t379, t382⟩, A50, H⟩ := H; replace H : (if t382 = 0 then (ebbtidelaw15_ExpandRuns.j0 k true t373 t374 t375 (t377 != (wrap64 ((wrap64 ((wrap64 (t375 + 1)) * t368)) + 2))) t368 t369 t370 t377 t378 t379) else (ebbtidelaw15_ExpandRuns.j0 k true t373 t374 t375 true t368 t369 t370 t377 t378 t379)) = some r := H; have A5 := am_ A50; clear A50; have HC6 := am_ H; clear H
  go_enter Try.func7, Try.ntmps7
  go_upto_region 6 with (first | ((with_reducible refine gate_dst (N := 1) rfl ?_); refine bx_ 1 #[.int .u8 a0_0, .bool a0_1, .slice A0_2 l0_2.length c0_2, .int .u8 a0_3, .int .u8 a0_4, .int .u8 a0_5] 41 ?_; intro gb366 hg w7 BK366 hb; have GE366 := ge_ (w := w) hg; replace HB := hst_ hb; clear hb hg) | (go_at_call 14; (with_reducible refine (ebbtidelaw15_awake.calls k  true _ A2.out).mono ?_); rintro e w8 ⟨rfl, hb⟩; replace BK366 := am_ (bb_ BK366.out hb); replace HB := hst_ hb; (try clear hb); (try clear hb2); (try clear hk); (try clear hi); obtain ⟨hcz9_0, hcz9_1, hcz9_2, hcz9_3, hcz9_4, hcz9_5, hfz9_0, hfz9_1, hfz9_2, hfz9_3, hfz9_4, hfz9_5⟩ := cf6_ BK366.out) | (go_at_call 20; (with_reducible refine (ebbtidelaw12_Read.calls k a0_0 a0_1 _ _ l0_2 a0_3 a0_4 a0_5 6 t368 t369 t370 t373 t374 t375 _ ?side1 ?side2 A4.out).mono ?_); (case side1 => exact cb_ HR0_2.out); (case side2 => exact HC0_2.out); rintro e w10 ⟨v371, rfl, ho0, hb⟩; have HO372 := am_ (Kd.R_lower ho0 (below_size hb_)); replace BK366 := am_ (bb_ BK366.out hb); replace HB := hst_ hb; (try clear hb); (try clear hb2); (try clear hk); (try clear hi); (try clear ho0)) | ((with_reducible refine gate_dst (N := 4) rfl ?_); refine bx_ 4 #[.int .i64 0, .bool false, .slice none 0 0] 24 ?_; intro gb376 hg w11 BK376 hb; replace HO372 := am_ (Kd.R_below (rq_ HO372.out) hb); have GE376 := ge_ (w := w) hg; replace HB := hst_ hb; have NB366_376 := am_ (nl_ BK366.out hg); have NB376_366 := am_ (ng_ BK366.out hg); replace BK366 := am_ (bb_ BK366.out hb); clear hb hg; have hnb12 := NB376_366.out; have hnc12 := NB366_376.out; obtain ⟨hcz13_0, hcz13_1, hcz13_2, hfz13_0, hfz13_1, hfz13_2⟩ := cf3_ BK376.out; obtain ⟨Ao14, co14, eo14⟩ := Kd.R_slice HO372.out; subst eo14) | (go_at_call 17; (with_reducible refine (expand_Build.calls k t368 t369 _ _ t370 t373 t374 t375 t377 t378 t379 t382 _ ?side1 ?side2 A5.out).mono ?_); (case side1 => refine (Kd.R_reads' (e := 54) (base := w.heap.size) (ok := fun k_ => True) (n := t370.length) (c := co14) ?_).2.2; exact q1_); (case side2 => exact (Kd.R_reads' HO372.out).2.1); rintro e w15 ⟨v380, rfl, ho0, hb⟩; have HO381 := am_ (Kd.R_lower (Kd.R_new' ho0 (Kd.R_lt q1_)) (below_size hb_)); replace HO372 := am_ (Kd.R_elder' q1_ (Kd.R_base ho0) hb); replace BK366 := am_ (blk_below (g := gb366) (o := .cells #[.int .u8 a0_0, .bool a0_1, .slice A0_2 l0_2.length c0_2, .int .u8 a0_3, .int .u8 a0_4, .int .u8 a0_5] 41 (0, 0)) q20_ hb); replace BK376 := am_ (blk_below (g := gb376) (o := .cells #[.int .i64 t368, .bool t369, .slice Ao14 t370.length co14] 24 (0, 0)) q10_ hb); replace HB := hst_ hb; (try clear hb); (try clear hb2); (try clear hk); (try clear hi); (try clear ho0)) | ((with_reducible refine gate_dst (N := 8) rfl ?_); refine bx_ 8 #[.int .i64 0, .bool false, .slice none 0 0] 24 ?_; intro gb383 hg w16 BK383 hb; replace HO372 := am_ (Kd.R_below (rq_ HO372.out) hb); replace HO381 := am_ (Kd.R_below (rq_ HO381.out) hb); have GE383 := ge_ (w := w) hg; replace HB := hst_ hb; have NB366_383 := am_ (nl_ BK366.out hg); have NB383_366 := am_ (ng_ BK366.out hg); replace BK366 := am_ (bb_ BK366.out hb); have NB376_383 := am_ (nl_ BK376.out hg); have NB383_376 := am_ (ng_ BK376.out hg); replace BK376 := am_ (bb_ BK376.out hb); clear hb hg; have hnb17 := NB383_366.out; have hnc17 := NB366_383.out; have hnb18 := NB383_376.out; have hnc18 := NB376_383.out; obtain ⟨hcz19_0, hcz19_1, hcz19_2, hfz19_0, hfz19_1, hfz19_2⟩ := cf3_ BK383.out; obtain ⟨Ao20, co20, eo20⟩ := Kd.R_slice HO381.out; subst eo20))
  repeat (go_quiet (first | ((with_reducible refine gate_dst (N := 1) rfl ?_); refine bx_ 1 #[.int .u8 a0_0, .bool a0_1, .slice A0_2 l0_2.length c0_2, .int .u8 a0_3, .int .u8 a0_4, .int .u8 a0_5] 41 ?_; intro gb366 hg w7 BK366 hb; have GE366 := ge_ (w := w) hg; replace HB := hst_ hb; clear hb hg) | (go_at_call 14; (with_reducible refine (ebbtidelaw15_awake.calls k  true _ A2.out).mono ?_); rintro e w8 ⟨rfl, hb⟩; replace BK366 := am_ (bb_ BK366.out hb); replace HB := hst_ hb; (try clear hb); (try clear hb2); (try clear hk); (try clear hi); obtain ⟨hcz9_0, hcz9_1, hcz9_2, hcz9_3, hcz9_4, hcz9_5, hfz9_0, hfz9_1, hfz9_2, hfz9_3, hfz9_4, hfz9_5⟩ := cf6_ BK366.out) | (go_at_call 20; (with_reducible refine (ebbtidelaw12_Read.calls k a0_0 a0_1 _ _ l0_2 a0_3 a0_4 a0_5 6 t368 t369 t370 t373 t374 t375 _ ?side1 ?side2 A4.out).mono ?_); (case side1 => exact cb_ HR0_2.out); (case side2 => exact HC0_2.out); rintro e w10 ⟨v371, rfl, ho0, hb⟩; have HO372 := am_ (Kd.R_lower ho0 (below_size hb_)); replace BK366 := am_ (bb_ BK366.out hb); replace HB := hst_ hb; (try clear hb); (try clear hb2); (try clear hk); (try clear hi); (try clear ho0)) | ((with_reducible refine gate_dst (N := 4) rfl ?_); refine bx_ 4 #[.int .i64 0, .bool false, .slice none 0 0] 24 ?_; intro gb376 hg w11 BK376 hb; replace HO372 := am_ (Kd.R_below (rq_ HO372.out) hb); have GE376 := ge_ (w := w) hg; replace HB := hst_ hb; have NB366_376 := am_ (nl_ BK366.out hg); have NB376_366 := am_ (ng_ BK366.out hg); replace BK366 := am_ (bb_ BK366.out hb); clear hb hg; have hnb12 := NB376_366.out; have hnc12 := NB366_376.out; obtain ⟨hcz13_0, hcz13_1, hcz13_2, hfz13_0, hfz13_1, hfz13_2⟩ := cf3_ BK376.out; obtain ⟨Ao14, co14, eo14⟩ := Kd.R_slice HO372.out; subst eo14) | (go_at_call 17; (with_reducible refine (expand_Build.calls k t368 t369 _ _ t370 t373 t374 t375 t377 t378 t379 t382 _ ?side1 ?side2 A5.out).mono ?_); (case side1 => refine (Kd.R_reads' (e := 54) (base := w.heap.size) (ok := fun k_ => True) (n := t370.length) (c := co14) ?_).2.2; exact q1_); (case side2 => exact (Kd.R_reads' HO372.out).2.1); rintro e w15 ⟨v380, rfl, ho0, hb⟩; have HO381 := am_ (Kd.R_lower (Kd.R_new' ho0 (Kd.R_lt q1_)) (below_size hb_)); replace HO372 := am_ (Kd.R_elder' q1_ (Kd.R_base ho0) hb); replace BK366 := am_ (blk_below (g := gb366) (o := .cells #[.int .u8 a0_0, .bool a0_1, .slice A0_2 l0_2.length c0_2, .int .u8 a0_3, .int .u8 a0_4, .int .u8 a0_5] 41 (0, 0)) q20_ hb); replace BK376 := am_ (blk_below (g := gb376) (o := .cells #[.int .i64 t368, .bool t369, .slice Ao14 t370.length co14] 24 (0, 0)) q10_ hb); replace HB := hst_ hb; (try clear hb); (try clear hb2); (try clear hk); (try clear hi); (try clear ho0)) | ((with_reducible refine gate_dst (N := 8) rfl ?_); refine bx_ 8 #[.int .i64 0, .bool false, .slice none 0 0] 24 ?_; intro gb383 hg w16 BK383 hb; replace HO372 := am_ (Kd.R_below (rq_ HO372.out) hb); replace HO381 := am_ (Kd.R_below (rq_ HO381.out) hb); have GE383 := ge_ (w := w) hg; replace HB := hst_ hb; have NB366_383 := am_ (nl_ BK366.out hg); have NB383_366 := am_ (ng_ BK366.out hg); replace BK366 := am_ (bb_ BK366.out hb); have NB376_383 := am_ (nl_ BK376.out hg); have NB383_376 := am_ (ng_ BK376.out hg); replace BK376 := am_ (bb_ BK376.out hb); clear hb hg; have hnb17 := NB383_366.out; have hnc17 := NB366_383.out; have hnb18 := NB383_376.out; have hnc18 := NB376_383.out; obtain ⟨hcz19_0, hcz19_1, hcz19_2, hfz19_0, hfz19_1, hfz19_2⟩ := cf3_ BK383.out; obtain ⟨Ao20, co20, eo20⟩ := Kd.R_slice HO381.out; subst eo20)); go_upto_region 6 with (first | ((with_reducible refine gate_dst (N := 1) rfl ?_); refine bx_ 1 #[.int .u8 a0_0, .bool a0_1, .slice A0_2 l0_2.length c0_2, .int .u8 a0_3, .int .u8 a0_4, .int .u8 a0_5] 41 ?_; intro gb366 hg w7 BK366 hb; have GE366 := ge_ (w := w) hg; replace HB := hst_ hb; clear hb hg) | (go_at_call 14; (with_reducible refine (ebbtidelaw15_awake.calls k  true _ A2.out).mono ?_); rintro e w8 ⟨rfl, hb⟩; replace BK366 := am_ (bb_ BK366.out hb); replace HB := hst_ hb; (try clear hb); (try clear hb2); (try clear hk); (try clear hi); obtain ⟨hcz9_0, hcz9_1, hcz9_2, hcz9_3, hcz9_4, hcz9_5, hfz9_0, hfz9_1, hfz9_2, hfz9_3, hfz9_4, hfz9_5⟩ := cf6_ BK366.out) | (go_at_call 20; (with_reducible refine (ebbtidelaw12_Read.calls k a0_0 a0_1 _ _ l0_2 a0_3 a0_4 a0_5 6 t368 t369 t370 t373 t374 t375 _ ?side1 ?side2 A4.out).mono ?_); (case side1 => exact cb_ HR0_2.out); (case side2 => exact HC0_2.out); rintro e w10 ⟨v371, rfl, ho0, hb⟩; have HO372 := am_ (Kd.R_lower ho0 (below_size hb_)); replace BK366 := am_ (bb_ BK366.out hb); replace HB := hst_ hb; (try clear hb); (try clear hb2); (try clear hk); (try clear hi); (try clear ho0)) | ((with_reducible refine gate_dst (N := 4) rfl ?_); refine bx_ 4 #[.int .i64 0, .bool false, .slice none 0 0] 24 ?_; intro gb376 hg w11 BK376 hb; replace HO372 := am_ (Kd.R_below (rq_ HO372.out) hb); have GE376 := ge_ (w := w) hg; replace HB := hst_ hb; have NB366_376 := am_ (nl_ BK366.out hg); have NB376_366 := am_ (ng_ BK366.out hg); replace BK366 := am_ (bb_ BK366.out hb); clear hb hg; have hnb12 := NB376_366.out; have hnc12 := NB366_376.out; obtain ⟨hcz13_0, hcz13_1, hcz13_2, hfz13_0, hfz13_1, hfz13_2⟩ := cf3_ BK376.out; obtain ⟨Ao14, co14, eo14⟩ := Kd.R_slice HO372.out; subst eo14) | (go_at_call 17; (with_reducible refine (expand_Build.calls k t368 t369 _ _ t370 t373 t374 t375 t377 t378 t379 t382 _ ?side1 ?side2 A5.out).mono ?_); (case side1 => refine (Kd.R_reads' (e := 54) (base := w.heap.size) (ok := fun k_ => True) (n := t370.length) (c := co14) ?_).2.2; exact q1_); (case side2 => exact (Kd.R_reads' HO372.out).2.1); rintro e w15 ⟨v380, rfl, ho0, hb⟩; have HO381 := am_ (Kd.R_lower (Kd.R_new' ho0 (Kd.R_lt q1_)) (below_size hb_)); replace HO372 := am_ (Kd.R_elder' q1_ (Kd.R_base ho0) hb); replace BK366 := am_ (blk_below (g := gb366) (o := .cells #[.int .u8 a0_0, .bool a0_1, .slice A0_2 l0_2.length c0_2, .int .u8 a0_3, .int .u8 a0_4, .int .u8 a0_5] 41 (0, 0)) q20_ hb); replace BK376 := am_ (blk_below (g := gb376) (o := .cells #[.int .i64 t368, .bool t369, .slice Ao14 t370.length co14] 24 (0, 0)) q10_ hb); replace HB := hst_ hb; (try clear hb); (try clear hb2); (try clear hk); (try clear hi); (try clear ho0)) | ((with_reducible refine gate_dst (N := 8) rfl ?_); refine bx_ 8 #[.int .i64 0, .bool false, .slice none 0 0] 24 ?_; intro gb383 hg w16 BK383 hb; replace HO372 := am_ (Kd.R_below (rq_ HO372.out) hb); replace HO381 := am_ (Kd.R_below (rq_ HO381.out) hb); have GE383 := ge_ (w := w) hg; replace HB := hst_ hb; have NB366_383 := am_ (nl_ BK366.out hg); have NB383_366 := am_ (ng_ BK366.out hg); replace BK366 := am_ (bb_ BK366.out hb); have NB376_383 := am_ (nl_ BK376.out hg); have NB383_376 := am_ (ng_ BK376.out hg); replace BK376 := am_ (bb_ BK376.out hb); clear hb hg; have hnb17 := NB383_366.out; have hnc17 := NB366_383.out; have hnb18 := NB383_376.out; have hnc18 := NB376_383.out; obtain ⟨hcz19_0, hcz19_1, hcz19_2, hfz19_0, hfz19_1, hfz19_2⟩ := cf3_ BK383.out; obtain ⟨Ao20, co20, eo20⟩ := Kd.R_slice HO381.out; subst eo20)))
  (try simp only [Act.put, List.setIfInBounds_toArray, List.set_cons_zero, List.set_cons_succ])
  go_cut [49] (fun v49 wc => ∃ (kq : Nat) (x49_5 : Bool), v49 = .bool x49_5 ∧ Aside0 (ebbtidelaw15_ExpandRuns.j0 kq true t373 t374 t375 x49_5 t368 t369 t370 t377 t378 t379 = some r) ∧ Aside0 (kq ≤ k) ∧ Aside0 (Kd.R k54 54 wc w.heap.size (fun k_ => some k_ ≠ ((.slice Ao20 t379.length co20) : Value).ownBlock) (.slice Ao14 t370.length co14) t370) ∧ Aside0 (Kd.R k54 54 wc w.heap.size (fun k_ => some k_ ≠ ((.slice Ao14 t370.length co14) : Value).ownBlock) (.slice Ao20 t379.length co20) t379) ∧ Aside0 (wc.heap[gb366]? = some (.cells #[.int .u8 a0_0, .bool a0_1, (.slice A0_2 l0_2.length c0_2), .int .u8 a0_3, .int .u8 a0_4, .int .u8 a0_5] 41 (0, 0))) ∧ Aside0 (wc.heap[gb376]? = some (.cells #[.int .i64 t368, .bool t369, (.slice Ao14 t370.length co14)] 24 (0, 0))) ∧ Aside0 (wc.heap[gb383]? = some (.cells #[.int .i64 t377, .bool t378, (.slice Ao20 t379.length co20)] 24 (0, 0))) ∧ Aside0 (Below w.heap.size w wc))
  case first =>
   have H := HC6.out; clear HC6
   by_cases c21 : t382 = 0
   ·rw [if_pos c21] at H
    obtain ⟨c21b0, c21b1⟩ := eqb_ c21; clear c21
    (first | rw [c21b0] | (simp only [i64_w, i32_w]; rw [c21b0]) | skip)
    have H' := am_ H; clear H; have hnb22 := NB383_366.out; have hnc22 := NB366_383.out; have hnb23 := NB383_376.out; have hnc23 := NB376_383.out; obtain ⟨hcz24_0, hcz24_1, hcz24_2, hfz24_0, hfz24_1, hfz24_2⟩ := cf3_ BK383.out; have hnb25 := NB376_366.out; have hnc25 := NB366_376.out; obtain ⟨hcz26_0, hcz26_1, hcz26_2, hfz26_0, hfz26_1, hfz26_2⟩ := cf3_ BK376.out
    go_wp2
    repeat (go_quiet (fail); try go_wp2)
    go_meet
    case rel => exact ⟨_, ((t377 != (wrap64 ((wrap64 ((wrap64 (t375 + 1)) * t368)) + 2)))), rs_, H', ⟨by first | omega | exact Nat.le_refl _⟩, ⟨by refine rq_ ?_; exact Kd.R_mono (rf3_ (Kd.R_types HO372.out BK383.out (by decide))) (fun _ hk => hk.1.2)⟩, ⟨by refine rq_ ?_; exact Kd.R_mono (rf3_ (Kd.R_types HO381.out BK383.out (by decide))) (fun _ hk => hk.1.2)⟩, ⟨by refine bq_ ?_; refine blk_far ?_ NB366_383.out _; refine bq_ ?_; refine blk_far ?_ NB366_383.out _; refine bq_ ?_; refine blk_far ?_ NB366_383.out _; refine bq_ ?_; exact BK366.out⟩, ⟨by refine bq_ ?_; refine blk_far ?_ NB376_383.out _; refine bq_ ?_; refine blk_far ?_ NB376_383.out _; refine bq_ ?_; refine blk_far ?_ NB376_383.out _; refine bq_ ?_; exact BK376.out⟩, ⟨by refine bq_ ?_; refine blk_put (cs := #[.int .i64 t377, .bool t378, .slice none 0 0]) ?_ 2 _ rfl; refine bq_ ?_; refine blk_put (cs := #[.int .i64 t377, .bool false, .slice none 0 0]) ?_ 1 _ rfl; refine bq_ ?_; refine blk_put (cs := #[.int .i64 0, .bool false, .slice none 0 0]) ?_ 0 _ rfl; refine bq_ ?_; exact BK383.out⟩, ⟨hb_⟩⟩
   ·rw [if_neg c21] at H
    obtain ⟨c21b0, c21b1⟩ := neb_ c21
    (first | rw [c21b0] | (simp only [i64_w, i32_w]; rw [c21b0]) | skip)
    have H' := am_ H; clear H
    go_wp2
    repeat (go_quiet (fail); try go_wp2)
    go_meet
    case rel => exact ⟨_, (true), rs_, H', ⟨by first | omega | exact Nat.le_refl _⟩, ⟨by refine rq_ ?_; exact Kd.R_mono (rf3_ (Kd.R_types HO372.out BK383.out (by decide))) (fun _ hk => hk.1.2)⟩, ⟨by refine rq_ ?_; exact Kd.R_mono (rf3_ (Kd.R_types HO381.out BK383.out (by decide))) (fun _ hk => hk.1.2)⟩, ⟨by refine bq_ ?_; refine blk_far ?_ NB366_383.out _; refine bq_ ?_; refine blk_far ?_ NB366_383.out _; refine bq_ ?_; refine blk_far ?_ NB366_383.out _; refine bq_ ?_; exact BK366.out⟩, ⟨by refine bq_ ?_; refine blk_far ?_ NB376_383.out _; refine bq_ ?_; refine blk_far ?_ NB376_383.out _; refine bq_ ?_; refine blk_far ?_ NB376_383.out _; refine bq_ ?_; exact BK376.out⟩, ⟨by refine bq_ ?_; refine blk_put (cs := #[.int .i64 t377, .bool t378, .slice none 0 0]) ?_ 2 _ rfl; refine bq_ ?_; refine blk_put (cs := #[.int .i64 t377, .bool false, .slice none 0 0]) ?_ 1 _ rfl; refine bq_ ?_; refine blk_put (cs := #[.int .i64 0, .bool false, .slice none 0 0]) ?_ 0 _ rfl; refine bq_ ?_; exact BK383.out⟩, ⟨hb_⟩⟩
  case rest =>
   clear HC6
   try clear c1
   try clear c2
   try clear p2
   try clear c3
   try clear p6
   try clear c7
   try clear c12
   try clear c17
   try clear c18
   try clear c21
   try clear c21b0
   try clear c21b1
   try clear c22
   try clear c23
   try clear c25
   try clear hcz13_0 hcz13_1 hcz13_2
   try clear hcz19_0 hcz19_1 hcz19_2
   try clear hcz24_0 hcz24_1 hcz24_2
   try clear hcz26_0 hcz26_1 hcz26_2
   try clear hcz9_0 hcz9_1 hcz9_2 hcz9_3 hcz9_4 hcz9_5
   try clear hfz13_0 hfz13_1 hfz13_2
   try clear hfz19_0 hfz19_1 hfz19_2
   try clear hfz24_0 hfz24_1 hfz24_2
   try clear hfz26_0 hfz26_1 hfz26_2
   try clear hfz9_0 hfz9_1 hfz9_2 hfz9_3 hfz9_4 hfz9_5
   obtain ⟨kq, x49_5, rfl, HA, HJ5, HO_377002, HO_384002, BK366, BK376, BK383, HB⟩ := hcut
   cases kq with
   | zero => exact absurd HA.out (by simp [ebbtidelaw15_ExpandRuns.j0])
   | succ kj5 =>
    have H := HA.out; clear HA; simp only [ebbtidelaw15_ExpandRuns.j0] at H
    by_cases c27 : x49_5 = true
    ·subst c27
     have H1 : (some false) = some r := by rw [if_pos rfl] at H; exact H
     clear H; have H := H1; clear H1; exact absurd ((Option.some.inj H).trans HRT.out) (by decide)
    ·replace c27 := Bool.eq_false_iff.mpr c27
     subst c27
     have H1 : (ebbtidelaw15_ExpandRuns.l0 kj5 true t373 t374 t375 0 t368 t369 t370 t377 t378 t379) = some r := by rw [if_neg (show ¬ (false = true) by decide)] at H; exact H
     clear H; have H := H1; clear H1; have H' := am_ H; clear H
     go_wp2
     repeat (go_quiet (fail); try go_wp2)
     go_loopg [10] kj5 (fun kq v10 w' => ∃ (x10_2 : Int), v10 = .int .i64 x10_2 ∧ Aside0 (ebbtidelaw15_ExpandRuns.l0 kq true t373 t374 t375 x10_2 t368 t369 t370 t377 t378 t379 = some r) ∧ Aside0 (kq ≤ kj5) ∧ Aside0 (Kd.R k54 54 w' w.heap.size (fun k_ => some k_ ≠ ((.slice Ao20 t379.length co20) : Value).ownBlock) (.slice Ao14 t370.length co14) t370) ∧ Aside0 (Kd.R k54 54 w' w.heap.size (fun k_ => some k_ ≠ ((.slice Ao14 t370.length co14) : Value).ownBlock) (.slice Ao20 t379.length co20) t379) ∧ Aside0 (w'.heap[gb366]? = some (.cells #[.int .u8 a0_0, .bool a0_1, (.slice A0_2 l0_2.length c0_2), .int .u8 a0_3, .int .u8 a0_4, .int .u8 a0_5] 41 (0, 0))) ∧ Aside0 (w'.heap[gb376]? = some (.cells #[.int .i64 t368, .bool t369, (.slice Ao14 t370.length co14)] 24 (0, 0))) ∧ Aside0 (w'.heap[gb383]? = some (.cells #[.int .i64 t377, .bool t378, (.slice Ao20 t379.length co20)] 24 (0, 0))) ∧ Aside0 (Below w.heap.size w w'))
     case atStart => exact ⟨(0), rs_, H', ⟨Nat.le_refl _⟩, ⟨rq_ HO_377002.out⟩, ⟨rq_ HO_384002.out⟩, ⟨bq_ BK366.out⟩, ⟨bq_ BK376.out⟩, ⟨bq_ BK383.out⟩, ⟨hb_⟩⟩
     case round =>
      clear H'
      try clear c1
      try clear c2
      try clear p2
      try clear c3
      try clear p6
      try clear c7
      try clear c12
      try clear c17
      try clear c18
      try clear c21
      try clear c21b0
      try clear c21b1
      try clear c22
      try clear c23
      try clear c25
      try clear c27
      try clear hcz13_0 hcz13_1 hcz13_2
      try clear hcz19_0 hcz19_1 hcz19_2
      try clear hcz24_0 hcz24_1 hcz24_2
      try clear hcz26_0 hcz26_1 hcz26_2
      try clear hcz9_0 hcz9_1 hcz9_2 hcz9_3 hcz9_4 hcz9_5
      try clear hfz13_0 hfz13_1 hfz13_2
      try clear hfz19_0 hfz19_1 hfz19_2
      try clear hfz24_0 hfz24_1 hfz24_2
      try clear hfz26_0 hfz26_1 hfz26_2
      try clear hfz9_0 hfz9_1 hfz9_2 hfz9_3 hfz9_4 hfz9_5
      try clear p2
      try clear p6
      obtain ⟨x10_2, rfl, HA, HK2, HO_377002, HO_384002, BK366, BK376, BK383, HB⟩ := hrel
      cases gk with
      | zero => exact absurd HA.out (by simp [ebbtidelaw15_ExpandRuns.l0])
      | succ k2 =>
       have H := HA.out; clear HA; simp only [ebbtidelaw15_ExpandRuns.l0] at H
       by_cases c28 : x10_2 < (t379.length : Int)
       ·rw [if_pos c28] at H
        have c28b0 := decide_eq_true c28; clear c28
        replace H := ifn_ H; obtain ⟨c29, H⟩ := H
        have c29b0 := decide_eq_true c29; clear c29
        by_cases c30 : ((rd_T54 t379 x10_2).f0) < 0
        ·rw [if_pos c30] at H
         have c30b0 := decide_eq_true c30; clear c30; exact absurd ((Option.some.inj H).trans HRT.out) (by decide)
        ·rw [if_neg c30] at H
         have c30b0 := decide_eq_false c30; clear c30
         by_cases c31 : ((rd_T54 t379 x10_2).f0) ≥ t377
         ·rw [if_pos c31] at H
          have c31b0 := decide_eq_true c31; clear c31; exact absurd ((Option.some.inj H).trans HRT.out) (by decide)
         ·rw [if_neg c31] at H
          have c31b0 := decide_eq_false c31; clear c31
          by_cases c32 : ((rd_T54 t379 x10_2).f1) < 0
          ·rw [if_pos c32] at H
           have c32b0 := decide_eq_true c32; clear c32; exact absurd ((Option.some.inj H).trans HRT.out) (by decide)
          ·rw [if_neg c32] at H
           have c32b0 := decide_eq_false c32; clear c32
           by_cases c33 : ((rd_T54 t379 x10_2).f1) ≥ t377
           ·rw [if_pos c33] at H
            have c33b0 := decide_eq_true c33; clear c33; exact absurd ((Option.some.inj H).trans HRT.out) (by decide)
           ·rw [if_neg c33] at H
            have c33b0 := decide_eq_false c33; clear c33
            by_cases c34 : ((rd_T54 t379 x10_2).f2) < 0
            ·rw [if_pos c34] at H
             have c34b0 := decide_eq_true c34; clear c34; exact absurd ((Option.some.inj H).trans HRT.out) (by decide)
            ·rw [if_neg c34] at H
             have c34b0 := decide_eq_false c34; clear c34; have H' := am_ H; clear H; have hnb35 := NB383_366.out; have hnc35 := NB366_383.out; have hnb36 := NB383_376.out; have hnc36 := NB376_383.out; obtain ⟨hcz37_0, hcz37_1, hcz37_2, hfz37_0, hfz37_1, hfz37_2⟩ := cf3_ BK383.out; have p384 : 0 ≤ (x10_2 : Int) := of_decide_eq_true sm_; have q384 : x10_2 < (t379.length : Int) := of_decide_eq_true sm_; obtain ⟨ad384, e384, hx384_0, hx384_1, hx384_2, hx384_3⟩ := at_T54 (Kd.R_reads' HO_384002.out).2.2 x10_2 p384 q384; cases e384; replace p384 := eq_true p384; replace q384 := eq_true q384
             go_wp2_with (first | ((with_reducible refine gate_dst (N := 11) rfl ?_); refine bx_ 11 #[.int .i64 0, .int .i64 0, .int .i64 0, .int .i64 0] 54 ?_; intro gb385 hg w38 BK385 hb; replace HO_377002 := am_ (Kd.R_below (Kd.R_elderB (rq_ HO_377002.out) gb385 (Nat.le_of_eq hg.symm)) hb); replace HO_384002 := am_ (Kd.R_below (Kd.R_elderB (rq_ HO_384002.out) gb385 (Nat.le_of_eq hg.symm)) hb); have GE385 := ge_ (w := w) hg; replace HB := hst_ hb; have NB366_385 := am_ (nl_ BK366.out hg); have NB385_366 := am_ (ng_ BK366.out hg); replace BK366 := am_ (bb_ BK366.out hb); have NB376_385 := am_ (nl_ BK376.out hg); have NB385_376 := am_ (ng_ BK376.out hg); replace BK376 := am_ (bb_ BK376.out hb); have NB383_385 := am_ (nl_ BK383.out hg); have NB385_383 := am_ (ng_ BK383.out hg); replace BK383 := am_ (bb_ BK383.out hb); clear hb hg; have hnb39 := NB385_366.out; have hnc39 := NB366_385.out; have hnb40 := NB385_376.out; have hnc40 := NB376_385.out; have hnb41 := NB385_383.out; have hnc41 := NB383_385.out; obtain ⟨hcz42_0, hcz42_1, hcz42_2, hcz42_3, hfz42_0, hfz42_1, hfz42_2, hfz42_3⟩ := cf4_ BK385.out; obtain ⟨hcz43_0, hcz43_1, hcz43_2, hfz43_0, hfz43_1, hfz43_2⟩ := cf3_ BK383.out))
             repeat (go_quiet (first | ((with_reducible refine gate_dst (N := 11) rfl ?_); refine bx_ 11 #[.int .i64 0, .int .i64 0, .int .i64 0, .int .i64 0] 54 ?_; intro gb385 hg w38 BK385 hb; replace HO_377002 := am_ (Kd.R_below (Kd.R_elderB (rq_ HO_377002.out) gb385 (Nat.le_of_eq hg.symm)) hb); replace HO_384002 := am_ (Kd.R_below (Kd.R_elderB (rq_ HO_384002.out) gb385 (Nat.le_of_eq hg.symm)) hb); have GE385 := ge_ (w := w) hg; replace HB := hst_ hb; have NB366_385 := am_ (nl_ BK366.out hg); have NB385_366 := am_ (ng_ BK366.out hg); replace BK366 := am_ (bb_ BK366.out hb); have NB376_385 := am_ (nl_ BK376.out hg); have NB385_376 := am_ (ng_ BK376.out hg); replace BK376 := am_ (bb_ BK376.out hb); have NB383_385 := am_ (nl_ BK383.out hg); have NB385_383 := am_ (ng_ BK383.out hg); replace BK383 := am_ (bb_ BK383.out hb); clear hb hg; have hnb39 := NB385_366.out; have hnc39 := NB366_385.out; have hnb40 := NB385_376.out; have hnc40 := NB376_385.out; have hnb41 := NB385_383.out; have hnc41 := NB383_385.out; obtain ⟨hcz42_0, hcz42_1, hcz42_2, hcz42_3, hfz42_0, hfz42_1, hfz42_2, hfz42_3⟩ := cf4_ BK385.out; obtain ⟨hcz43_0, hcz43_1, hcz43_2, hfz43_0, hfz43_1, hfz43_2⟩ := cf3_ BK383.out)); try go_wp2_with (first | ((with_reducible refine gate_dst (N := 11) rfl ?_); refine bx_ 11 #[.int .i64 0, .int .i64 0, .int .i64 0, .int .i64 0] 54 ?_; intro gb385 hg w38 BK385 hb; replace HO_377002 := am_ (Kd.R_below (Kd.R_elderB (rq_ HO_377002.out) gb385 (Nat.le_of_eq hg.symm)) hb); replace HO_384002 := am_ (Kd.R_below (Kd.R_elderB (rq_ HO_384002.out) gb385 (Nat.le_of_eq hg.symm)) hb); have GE385 := ge_ (w := w) hg; replace HB := hst_ hb; have NB366_385 := am_ (nl_ BK366.out hg); have NB385_366 := am_ (ng_ BK366.out hg); replace BK366 := am_ (bb_ BK366.out hb); have NB376_385 := am_ (nl_ BK376.out hg); have NB385_376 := am_ (ng_ BK376.out hg); replace BK376 := am_ (bb_ BK376.out hb); have NB383_385 := am_ (nl_ BK383.out hg); have NB385_383 := am_ (ng_ BK383.out hg); replace BK383 := am_ (bb_ BK383.out hb); clear hb hg; have hnb39 := NB385_366.out; have hnc39 := NB366_385.out; have hnb40 := NB385_376.out; have hnc40 := NB376_385.out; have hnb41 := NB385_383.out; have hnc41 := NB383_385.out; obtain ⟨hcz42_0, hcz42_1, hcz42_2, hcz42_3, hfz42_0, hfz42_1, hfz42_2, hfz42_3⟩ := cf4_ BK385.out; obtain ⟨hcz43_0, hcz43_1, hcz43_2, hfz43_0, hfz43_1, hfz43_2⟩ := cf3_ BK383.out)))
             go_roundg k2
             case measure => have := HJ5.out; have := HK2.out; omega
             case rel => exact ⟨(wrap64 (x10_2 + 1)), rs_, H', ⟨by have := HJ5.out; have := HK2.out; omega⟩, ⟨by refine rq_ ?_; exact Kd.R_mono (rf4_ (Kd.R_mono HO_377002.out (fun k_ hk => (⟨hk, hk.2⟩ : _ ∧ k_ ≠ gb385)))) (fun _ hk => hk.1.1)⟩, ⟨by refine rq_ ?_; exact Kd.R_mono (rf4_ (Kd.R_mono HO_384002.out (fun k_ hk => (⟨hk, hk.2⟩ : _ ∧ k_ ≠ gb385)))) (fun _ hk => hk.1.1)⟩, ⟨by refine bq_ ?_; refine blk_far ?_ NB366_385.out _; refine bq_ ?_; refine blk_far ?_ NB366_385.out _; refine bq_ ?_; refine blk_far ?_ NB366_385.out _; refine bq_ ?_; refine blk_far ?_ NB366_385.out _; refine bq_ ?_; exact BK366.out⟩, ⟨by refine bq_ ?_; refine blk_far ?_ NB376_385.out _; refine bq_ ?_; refine blk_far ?_ NB376_385.out _; refine bq_ ?_; refine blk_far ?_ NB376_385.out _; refine bq_ ?_; refine blk_far ?_ NB376_385.out _; refine bq_ ?_; exact BK376.out⟩, ⟨by refine bq_ ?_; refine blk_far ?_ NB383_385.out _; refine bq_ ?_; refine blk_far ?_ NB383_385.out _; refine bq_ ?_; refine blk_far ?_ NB383_385.out _; refine bq_ ?_; refine blk_far ?_ NB383_385.out _; refine bq_ ?_; exact BK383.out⟩, ⟨hb_⟩⟩
       ·rw [if_neg c28] at H
        have c28b0 := decide_eq_false c28; clear c28; replace H := Option.bind_eq_some_iff.mp H; obtain ⟨t386, A440, H⟩ := H; replace H : (ebbtidelaw15_ExpandRuns.l1 k2 true t373 t374 t375 t386 0 0 t368 t369 t370 t377 t378 t379) = some r := H; have A44 := am_ A440; clear A440; have H' := am_ H; clear H; have hnb45 := NB383_366.out; have hnc45 := NB366_383.out; have hnb46 := NB383_376.out; have hnc46 := NB376_383.out; obtain ⟨hcz47_0, hcz47_1, hcz47_2, hfz47_0, hfz47_1, hfz47_2⟩ := cf3_ BK383.out
        go_wp2_with (first | (go_at_call 25; (with_reducible refine (ebbtideref09_Best.calls k2 t377 t378 _ _ t379 (wrap64 (t377 - 2)) (wrap64 (t377 - 1)) t386 _ ?side1 ?side2 A44.out).mono ?_); (case side1 => repeat (first | exact (Kd.R_reads' HO_384002.out).2.2 | (with_reducible refine Kd.C_alloc ?_ _) | (with_reducible refine Kd.C_drewN ?_ _) | (with_reducible refine Kd.C_drew ?_))); (case side2 => exact (Kd.R_reads' HO_384002.out).2.1); rintro e w48 ⟨v387, rfl, ho0, hb⟩; replace HO_377002 := am_ (Kd.R_below (rq_ HO_377002.out) hb); replace HO_384002 := am_ (Kd.R_below (rq_ HO_384002.out) hb); have HO388 := am_ (Kd.R_lower ho0 (below_size hb_)); replace BK366 := am_ (bb_ BK366.out hb); replace BK376 := am_ (bb_ BK376.out hb); replace BK383 := am_ (bb_ BK383.out hb); replace HB := hst_ hb; (try clear hb); (try clear hb2); (try clear hk); (try clear hi); (try clear ho0)))
        repeat (go_quiet (first | (go_at_call 25; (with_reducible refine (ebbtideref09_Best.calls k2 t377 t378 _ _ t379 (wrap64 (t377 - 2)) (wrap64 (t377 - 1)) t386 _ ?side1 ?side2 A44.out).mono ?_); (case side1 => repeat (first | exact (Kd.R_reads' HO_384002.out).2.2 | (with_reducible refine Kd.C_alloc ?_ _) | (with_reducible refine Kd.C_drewN ?_ _) | (with_reducible refine Kd.C_drew ?_))); (case side2 => exact (Kd.R_reads' HO_384002.out).2.1); rintro e w48 ⟨v387, rfl, ho0, hb⟩; replace HO_377002 := am_ (Kd.R_below (rq_ HO_377002.out) hb); replace HO_384002 := am_ (Kd.R_below (rq_ HO_384002.out) hb); have HO388 := am_ (Kd.R_lower ho0 (below_size hb_)); replace BK366 := am_ (bb_ BK366.out hb); replace BK376 := am_ (bb_ BK376.out hb); replace BK383 := am_ (bb_ BK383.out hb); replace HB := hst_ hb; (try clear hb); (try clear hb2); (try clear hk); (try clear hi); (try clear ho0))); try go_wp2_with (first | (go_at_call 25; (with_reducible refine (ebbtideref09_Best.calls k2 t377 t378 _ _ t379 (wrap64 (t377 - 2)) (wrap64 (t377 - 1)) t386 _ ?side1 ?side2 A44.out).mono ?_); (case side1 => repeat (first | exact (Kd.R_reads' HO_384002.out).2.2 | (with_reducible refine Kd.C_alloc ?_ _) | (with_reducible refine Kd.C_drewN ?_ _) | (with_reducible refine Kd.C_drew ?_))); (case side2 => exact (Kd.R_reads' HO_384002.out).2.1); rintro e w48 ⟨v387, rfl, ho0, hb⟩; replace HO_377002 := am_ (Kd.R_below (rq_ HO_377002.out) hb); replace HO_384002 := am_ (Kd.R_below (rq_ HO_384002.out) hb); have HO388 := am_ (Kd.R_lower ho0 (below_size hb_)); replace BK366 := am_ (bb_ BK366.out hb); replace BK376 := am_ (bb_ BK376.out hb); replace BK383 := am_ (bb_ BK383.out hb); replace HB := hst_ hb; (try clear hb); (try clear hb2); (try clear hk); (try clear hi); (try clear ho0))))
        go_loopg [13, 14] k2 (fun kq v13 v14 w' => ∃ (x13_3 : Int) (x14_3 : Int), v13 = .int .i64 x13_3 ∧ v14 = .int .i64 x14_3 ∧ Aside0 (ebbtidelaw15_ExpandRuns.l1 kq true t373 t374 t375 t386 x13_3 x14_3 t368 t369 t370 t377 t378 t379 = some r) ∧ Aside0 (kq ≤ k2) ∧ Aside0 (Kd.R (Kd.int .i64) 3 w' w.heap.size (fun _ => True) v387 t386) ∧ Aside0 (Kd.R k54 54 w' w.heap.size (fun k_ => some k_ ≠ ((.slice Ao20 t379.length co20) : Value).ownBlock) (.slice Ao14 t370.length co14) t370) ∧ Aside0 (Kd.R k54 54 w' w.heap.size (fun k_ => some k_ ≠ ((.slice Ao14 t370.length co14) : Value).ownBlock) (.slice Ao20 t379.length co20) t379) ∧ Aside0 (w'.heap[gb366]? = some (.cells #[.int .u8 a0_0, .bool a0_1, (.slice A0_2 l0_2.length c0_2), .int .u8 a0_3, .int .u8 a0_4, .int .u8 a0_5] 41 (0, 0))) ∧ Aside0 (w'.heap[gb376]? = some (.cells #[.int .i64 t368, .bool t369, (.slice Ao14 t370.length co14)] 24 (0, 0))) ∧ Aside0 (w'.heap[gb383]? = some (.cells #[.int .i64 t377, .bool t378, (.slice Ao20 t379.length co20)] 24 (0, 0))) ∧ Aside0 (Below w.heap.size w w'))
        case atStart => exact ⟨(0), (0), rs_, rs_, H', ⟨Nat.le_refl _⟩, ⟨rq_ HO388.out⟩, ⟨rq_ HO_377002.out⟩, ⟨rq_ HO_384002.out⟩, ⟨bq_ BK366.out⟩, ⟨bq_ BK376.out⟩, ⟨bq_ BK383.out⟩, ⟨hb_⟩⟩
        case round =>
         clear H'
         try clear c1
         try clear c2
         try clear p2
         try clear c3
         try clear p3
         try clear q3
         try clear hx3
         try clear c4
         try clear p6
         try clear c7
         try clear c12
         try clear c17
         try clear c18
         try clear c21
         try clear c21b0
         try clear c21b1
         try clear c22
         try clear c23
         try clear c25
         try clear c27
         try clear c28
         try clear c28b0
         try clear c29
         try clear c29b0
         try clear c30
         try clear c30b0
         try clear c31
         try clear c31b0
         try clear c32
         try clear c32b0
         try clear c33
         try clear c33b0
         try clear c34
         try clear c34b0
         try clear c35
         try clear c36
         try clear p38
         try clear q38
         try clear hx38
         try clear c39
         try clear c40
         try clear c41
         try clear c45
         try clear c46
         try clear hcz13_0 hcz13_1 hcz13_2
         try clear hcz19_0 hcz19_1 hcz19_2
         try clear hcz24_0 hcz24_1 hcz24_2
         try clear hcz26_0 hcz26_1 hcz26_2
         try clear hcz37_0 hcz37_1 hcz37_2
         try clear hcz42_0 hcz42_1 hcz42_2 hcz42_3
         try clear hcz43_0 hcz43_1 hcz43_2
         try clear hcz47_0 hcz47_1 hcz47_2
         try clear hcz9_0 hcz9_1 hcz9_2 hcz9_3 hcz9_4 hcz9_5
         try clear hfz13_0 hfz13_1 hfz13_2
         try clear hfz19_0 hfz19_1 hfz19_2
         try clear hfz24_0 hfz24_1 hfz24_2
         try clear hfz26_0 hfz26_1 hfz26_2
         try clear hfz37_0 hfz37_1 hfz37_2
         try clear hfz42_0 hfz42_1 hfz42_2 hfz42_3
         try clear hfz43_0 hfz43_1 hfz43_2
         try clear hfz47_0 hfz47_1 hfz47_2
         try clear hfz9_0 hfz9_1 hfz9_2 hfz9_3 hfz9_4 hfz9_5
         try clear hx384_0
         try clear hx384_1
         try clear hx384_2
         try clear hx384_3
         try clear p2
         try clear p384
         try clear p6
         try clear q384
         obtain ⟨x13_3, x14_3, rfl, rfl, HA, HK3, HO_12, HO_377002, HO_384002, BK366, BK376, BK383, HB⟩ := hrel
         cases gk with
         | zero => exact absurd HA.out (by simp [ebbtidelaw15_ExpandRuns.l1])
         | succ k3 =>
          have H := HA.out; clear HA; simp only [ebbtidelaw15_ExpandRuns.l1] at H
          by_cases c49 : x14_3 < (t386.length : Int)
          ·rw [if_pos c49] at H
           have c49b0 := decide_eq_true c49; clear c49
           replace H := ifn_ H; obtain ⟨c50, H⟩ := H
           have c50b0 := decide_eq_true c50; clear c50
           replace H := ifn_ H; obtain ⟨c51, H⟩ := H
           have c51b0 := decide_eq_true c51; clear c51
           by_cases c52 : ((rd_T54 t379 x14_3).f0) = (wrap64 (t377 - 2))
           ·rw [if_pos c52] at H
            obtain ⟨c52b0, c52b1⟩ := eqb_ c52; clear c52; have H' := am_ H; clear H; obtain ⟨Ao53, co53, eo53⟩ := Kd.R_slice HO_12.out; subst eo53; have hnb54 := NB383_366.out; have hnc54 := NB366_383.out; have hnb55 := NB383_376.out; have hnc55 := NB376_383.out; obtain ⟨hcz56_0, hcz56_1, hcz56_2, hfz56_0, hfz56_1, hfz56_2⟩ := cf3_ BK383.out; have p389 : 0 ≤ (x14_3 : Int) := of_decide_eq_true sm_; have q389 : x14_3 < (t379.length : Int) := of_decide_eq_true sm_; obtain ⟨ad389, e389, hx389_0, hx389_1, hx389_2, hx389_3⟩ := at_T54 (Kd.R_reads' HO_384002.out).2.2 x14_3 p389 q389; cases e389; replace p389 := eq_true p389; replace q389 := eq_true q389; have p390 : 0 ≤ (x14_3 : Int) := of_decide_eq_true sm_; have q390 : x14_3 < (t386.length : Int) := of_decide_eq_true sm_; obtain ⟨ad390, e390, hx390_0⟩ := Kd.at_int (Kd.R_reads' HO_12.out).2.2 x14_3 p390 q390; cases e390; replace p390 := eq_true p390; replace q390 := eq_true q390
            go_wp2
            repeat (go_quiet (fail); try go_wp2)
            go_roundg k3
            case measure => have := HJ5.out; have := HK2.out; have := HK3.out; omega
            case rel => exact ⟨(wrap64 (x13_3 + (rd t386 x14_3))), (wrap64 (x14_3 + 1)), rs_, rs_, H', ⟨by have := HJ5.out; have := HK2.out; have := HK3.out; omega⟩, ⟨rq_ HO_12.out⟩, ⟨rq_ HO_377002.out⟩, ⟨rq_ HO_384002.out⟩, ⟨bq_ BK366.out⟩, ⟨bq_ BK376.out⟩, ⟨bq_ BK383.out⟩, ⟨hb_⟩⟩
           ·rw [if_neg c52] at H
            obtain ⟨c52b0, c52b1⟩ := neb_ c52; have H' := am_ H; clear H; obtain ⟨Ao57, co57, eo57⟩ := Kd.R_slice HO_12.out; subst eo57; have hnb58 := NB383_366.out; have hnc58 := NB366_383.out; have hnb59 := NB383_376.out; have hnc59 := NB376_383.out; obtain ⟨hcz60_0, hcz60_1, hcz60_2, hfz60_0, hfz60_1, hfz60_2⟩ := cf3_ BK383.out; have p389 : 0 ≤ (x14_3 : Int) := of_decide_eq_true sm_; have q389 : x14_3 < (t379.length : Int) := of_decide_eq_true sm_; obtain ⟨ad389, e389, hx389_0, hx389_1, hx389_2, hx389_3⟩ := at_T54 (Kd.R_reads' HO_384002.out).2.2 x14_3 p389 q389; cases e389; replace p389 := eq_true p389; replace q389 := eq_true q389
            go_wp2
            repeat (go_quiet (fail); try go_wp2)
            go_roundg k3
            case measure => have := HJ5.out; have := HK2.out; have := HK3.out; omega
            case rel => exact ⟨(x13_3), (wrap64 (x14_3 + 1)), rs_, rs_, H', ⟨by have := HJ5.out; have := HK2.out; have := HK3.out; omega⟩, ⟨rq_ HO_12.out⟩, ⟨rq_ HO_377002.out⟩, ⟨rq_ HO_384002.out⟩, ⟨bq_ BK366.out⟩, ⟨bq_ BK376.out⟩, ⟨bq_ BK383.out⟩, ⟨hb_⟩⟩
          ·rw [if_neg c49] at H
           have c49b0 := decide_eq_false c49; clear c49; replace H := Option.bind_eq_some_iff.mp H; obtain ⟨⟨t391, t394⟩, A610, H⟩ := H; replace H : ((ebbtideref14_Check.f k3 t368 t369 t370 t373 t374 t375 t391).bind fun bt395 => (if true = true then (if t394 = 0 then (if bt395.2 = 0 then (some (bt395.1 == x13_3)) else (some false)) else (some false)) else (some false))) = some r := H; have A61 := am_ A610; clear A610; replace H := Option.bind_eq_some_iff.mp H; obtain ⟨⟨t395, t396⟩, A620, H⟩ := H; replace H : (if true = true then (if t394 = 0 then (if t396 = 0 then (some (t395 == x13_3)) else (some false)) else (some false)) else (some false)) = some r := H; have A62 := am_ A620; clear A620; rw [if_pos rfl] at H
           by_cases c63 : t394 = 0
           ·rw [if_pos c63] at H
            obtain ⟨c63b0, c63b1⟩ := eqb_ c63; clear c63
            by_cases c64 : t396 = 0
            ·rw [if_pos c64] at H
             obtain ⟨c64b0, c64b1⟩ := eqb_ c64; clear c64; obtain rfl := Option.some.inj H; obtain ⟨Ao65, co65, eo65⟩ := Kd.R_slice HO_12.out; subst eo65; have hnb66 := NB376_366.out; have hnc66 := NB366_376.out; have hnb67 := NB376_383.out; have hnc67 := NB383_376.out; obtain ⟨hcz68_0, hcz68_1, hcz68_2, hfz68_0, hfz68_1, hfz68_2⟩ := cf3_ BK376.out
             go_wp2_with (first | (go_at_call 21; (with_reducible refine (expand_Moves.calls k3 t368 t369 _ _ t370 t373 t374 t375 _ _ t386 t391 t394 _ ?side1 ?side2 ?side3 ?side4 A61.out).mono ?_); (case side1 => repeat (first | exact (Kd.R_reads' HO_377002.out).2.2 | (with_reducible refine Kd.C_alloc ?_ _) | (with_reducible refine Kd.C_drewN ?_ _) | (with_reducible refine Kd.C_drew ?_))); (case side2 => exact (Kd.R_reads' HO_377002.out).2.1); (case side3 => repeat (first | exact (Kd.R_reads' HO_12.out).2.2 | (with_reducible refine Kd.C_alloc ?_ _) | (with_reducible refine Kd.C_drewN ?_ _) | (with_reducible refine Kd.C_drew ?_))); (case side4 => exact (Kd.R_reads' HO_12.out).2.1); rintro e w69 ⟨v392, rfl, ho0, hb⟩; replace HO_12 := am_ (Kd.R_below (rq_ HO_12.out) hb); replace HO_377002 := am_ (Kd.R_below (rq_ HO_377002.out) hb); replace HO_384002 := am_ (Kd.R_below (rq_ HO_384002.out) hb); have HO393 := am_ (Kd.R_lower ho0 (below_size hb_)); replace BK366 := am_ (bb_ BK366.out hb); replace BK376 := am_ (bb_ BK376.out hb); replace BK383 := am_ (bb_ BK383.out hb); replace HB := hst_ hb; (try clear hb); (try clear hb2); (try clear hk); (try clear hi); (try clear ho0); obtain ⟨hcz70_0, hcz70_1, hcz70_2, hfz70_0, hfz70_1, hfz70_2⟩ := cf3_ BK376.out; obtain ⟨Ao71, co71, eo71⟩ := Kd.R_slice HO393.out; subst eo71) | (go_at_call 26; (with_reducible refine (ebbtideref14_Check.calls k3 t368 t369 _ _ t370 t373 t374 t375 _ _ t391 t395 t396 _ ?side1 ?side2 ?side3 ?side4 A62.out).mono ?_); (case side1 => repeat (first | exact (Kd.R_reads' HO_377002.out).2.2 | (with_reducible refine Kd.C_alloc ?_ _) | (with_reducible refine Kd.C_drewN ?_ _) | (with_reducible refine Kd.C_drew ?_))); (case side2 => exact (Kd.R_reads' HO_377002.out).2.1); (case side3 => repeat (first | exact (Kd.R_reads' HO393.out).2.2 | (with_reducible refine Kd.C_alloc ?_ _) | (with_reducible refine Kd.C_drewN ?_ _) | (with_reducible refine Kd.C_drew ?_))); (case side4 => exact (Kd.R_reads' HO393.out).2.1); rintro e w72 ⟨rfl, hb⟩; replace HO_12 := am_ (Kd.R_below (rq_ HO_12.out) hb); replace HO_377002 := am_ (Kd.R_below (rq_ HO_377002.out) hb); replace HO_384002 := am_ (Kd.R_below (rq_ HO_384002.out) hb); replace HO393 := am_ (Kd.R_below (rq_ HO393.out) hb); replace BK366 := am_ (bb_ BK366.out hb); replace BK376 := am_ (bb_ BK376.out hb); replace BK383 := am_ (bb_ BK383.out hb); replace HB := hst_ hb; (try clear hb); (try clear hb2); (try clear hk); (try clear hi)))
             repeat (go_quiet (first | (go_at_call 21; (with_reducible refine (expand_Moves.calls k3 t368 t369 _ _ t370 t373 t374 t375 _ _ t386 t391 t394 _ ?side1 ?side2 ?side3 ?side4 A61.out).mono ?_); (case side1 => repeat (first | exact (Kd.R_reads' HO_377002.out).2.2 | (with_reducible refine Kd.C_alloc ?_ _) | (with_reducible refine Kd.C_drewN ?_ _) | (with_reducible refine Kd.C_drew ?_))); (case side2 => exact (Kd.R_reads' HO_377002.out).2.1); (case side3 => repeat (first | exact (Kd.R_reads' HO_12.out).2.2 | (with_reducible refine Kd.C_alloc ?_ _) | (with_reducible refine Kd.C_drewN ?_ _) | (with_reducible refine Kd.C_drew ?_))); (case side4 => exact (Kd.R_reads' HO_12.out).2.1); rintro e w69 ⟨v392, rfl, ho0, hb⟩; replace HO_12 := am_ (Kd.R_below (rq_ HO_12.out) hb); replace HO_377002 := am_ (Kd.R_below (rq_ HO_377002.out) hb); replace HO_384002 := am_ (Kd.R_below (rq_ HO_384002.out) hb); have HO393 := am_ (Kd.R_lower ho0 (below_size hb_)); replace BK366 := am_ (bb_ BK366.out hb); replace BK376 := am_ (bb_ BK376.out hb); replace BK383 := am_ (bb_ BK383.out hb); replace HB := hst_ hb; (try clear hb); (try clear hb2); (try clear hk); (try clear hi); (try clear ho0); obtain ⟨hcz70_0, hcz70_1, hcz70_2, hfz70_0, hfz70_1, hfz70_2⟩ := cf3_ BK376.out; obtain ⟨Ao71, co71, eo71⟩ := Kd.R_slice HO393.out; subst eo71) | (go_at_call 26; (with_reducible refine (ebbtideref14_Check.calls k3 t368 t369 _ _ t370 t373 t374 t375 _ _ t391 t395 t396 _ ?side1 ?side2 ?side3 ?side4 A62.out).mono ?_); (case side1 => repeat (first | exact (Kd.R_reads' HO_377002.out).2.2 | (with_reducible refine Kd.C_alloc ?_ _) | (with_reducible refine Kd.C_drewN ?_ _) | (with_reducible refine Kd.C_drew ?_))); (case side2 => exact (Kd.R_reads' HO_377002.out).2.1); (case side3 => repeat (first | exact (Kd.R_reads' HO393.out).2.2 | (with_reducible refine Kd.C_alloc ?_ _) | (with_reducible refine Kd.C_drewN ?_ _) | (with_reducible refine Kd.C_drew ?_))); (case side4 => exact (Kd.R_reads' HO393.out).2.1); rintro e w72 ⟨rfl, hb⟩; replace HO_12 := am_ (Kd.R_below (rq_ HO_12.out) hb); replace HO_377002 := am_ (Kd.R_below (rq_ HO_377002.out) hb); replace HO_384002 := am_ (Kd.R_below (rq_ HO_384002.out) hb); replace HO393 := am_ (Kd.R_below (rq_ HO393.out) hb); replace BK366 := am_ (bb_ BK366.out hb); replace BK376 := am_ (bb_ BK376.out hb); replace BK383 := am_ (bb_ BK383.out hb); replace HB := hst_ hb; (try clear hb); (try clear hb2); (try clear hk); (try clear hi))); try go_wp2_with (first | (go_at_call 21; (with_reducible refine (expand_Moves.calls k3 t368 t369 _ _ t370 t373 t374 t375 _ _ t386 t391 t394 _ ?side1 ?side2 ?side3 ?side4 A61.out).mono ?_); (case side1 => repeat (first | exact (Kd.R_reads' HO_377002.out).2.2 | (with_reducible refine Kd.C_alloc ?_ _) | (with_reducible refine Kd.C_drewN ?_ _) | (with_reducible refine Kd.C_drew ?_))); (case side2 => exact (Kd.R_reads' HO_377002.out).2.1); (case side3 => repeat (first | exact (Kd.R_reads' HO_12.out).2.2 | (with_reducible refine Kd.C_alloc ?_ _) | (with_reducible refine Kd.C_drewN ?_ _) | (with_reducible refine Kd.C_drew ?_))); (case side4 => exact (Kd.R_reads' HO_12.out).2.1); rintro e w69 ⟨v392, rfl, ho0, hb⟩; replace HO_12 := am_ (Kd.R_below (rq_ HO_12.out) hb); replace HO_377002 := am_ (Kd.R_below (rq_ HO_377002.out) hb); replace HO_384002 := am_ (Kd.R_below (rq_ HO_384002.out) hb); have HO393 := am_ (Kd.R_lower ho0 (below_size hb_)); replace BK366 := am_ (bb_ BK366.out hb); replace BK376 := am_ (bb_ BK376.out hb); replace BK383 := am_ (bb_ BK383.out hb); replace HB := hst_ hb; (try clear hb); (try clear hb2); (try clear hk); (try clear hi); (try clear ho0); obtain ⟨hcz70_0, hcz70_1, hcz70_2, hfz70_0, hfz70_1, hfz70_2⟩ := cf3_ BK376.out; obtain ⟨Ao71, co71, eo71⟩ := Kd.R_slice HO393.out; subst eo71) | (go_at_call 26; (with_reducible refine (ebbtideref14_Check.calls k3 t368 t369 _ _ t370 t373 t374 t375 _ _ t391 t395 t396 _ ?side1 ?side2 ?side3 ?side4 A62.out).mono ?_); (case side1 => repeat (first | exact (Kd.R_reads' HO_377002.out).2.2 | (with_reducible refine Kd.C_alloc ?_ _) | (with_reducible refine Kd.C_drewN ?_ _) | (with_reducible refine Kd.C_drew ?_))); (case side2 => exact (Kd.R_reads' HO_377002.out).2.1); (case side3 => repeat (first | exact (Kd.R_reads' HO393.out).2.2 | (with_reducible refine Kd.C_alloc ?_ _) | (with_reducible refine Kd.C_drewN ?_ _) | (with_reducible refine Kd.C_drew ?_))); (case side4 => exact (Kd.R_reads' HO393.out).2.1); rintro e w72 ⟨rfl, hb⟩; replace HO_12 := am_ (Kd.R_below (rq_ HO_12.out) hb); replace HO_377002 := am_ (Kd.R_below (rq_ HO_377002.out) hb); replace HO_384002 := am_ (Kd.R_below (rq_ HO_384002.out) hb); replace HO393 := am_ (Kd.R_below (rq_ HO393.out) hb); replace BK366 := am_ (bb_ BK366.out hb); replace BK376 := am_ (bb_ BK376.out hb); replace BK383 := am_ (bb_ BK383.out hb); replace HB := hst_ hb; (try clear hb); (try clear hb2); (try clear hk); (try clear hi))))
             go_ret
             exact ⟨er_, hb_⟩
            ·rw [if_neg c64] at H
             obtain ⟨c64b0, c64b1⟩ := neb_ c64; exact absurd ((Option.some.inj H).trans HRT.out) (by decide)
           ·rw [if_neg c63] at H
            obtain ⟨c63b0, c63b1⟩ := neb_ c63; exact absurd ((Option.some.inj H).trans HRT.out) (by decide)
 ·replace c3 := Bool.eq_false_iff.mpr c3
  subst c3
  have H1 : (some false) = some r := by rw [if_neg (show ¬ (false = true) by decide)] at H; exact H
  clear H; have H := H1; clear H1; exact absurd ((Option.some.inj H).trans HRT.out) (by decide)
end Go.Proofs.Ytfhkkbpkajfdlaa.Q
end
