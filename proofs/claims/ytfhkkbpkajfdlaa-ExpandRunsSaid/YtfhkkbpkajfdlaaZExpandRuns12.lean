/- A part of the proof: words, contracts, plain lemmas. Conditions: none. -/
import Derived.Test.YtfhkkbpkajfdlaaZExpandRuns11
set_option linter.unusedSimpArgs false
set_option linter.unusedVariables false
section
namespace Go.Proofs.Ytfhkkbpkajfdlaa.Q
open Go.RowKit Go.Proofs.YtfhkkbpkajfdlaaW.PrintWords Go.Proofs.YtfhkkbpkajfdlaaW.PrintLast Go.Proofs.YtfhkkbpkajfdlaaW.PrintMore
attribute [local go_sem high] eqA26
def ebbtidelaw15_awake.f (k : Nat)  : Option (Bool) := (ebbtidelaw14_Line.f true).bind fun bt248 => ((expand_Build.f k bt248.1 bt248.2.1 bt248.2.2 0 2 2).bind fun bt253 => ((ebbtidelaw14_Line.f true).bind fun bt260 => ((expand_Index.f k bt260.1 bt260.2.1 bt260.2.2 2 1 2).bind fun bt265 => ((ebbtidelaw14_Line.f true).bind fun bt267 => ((expand_Place.f k bt267.1 bt267.2.1 bt267.2.2 2 7).bind fun bt272 => (if bt253.2.2.2 = 0 then (if bt253.1 = 11 then (if (bt253.2.2.1.length : Int) = 12 then (if bt265.2 = 0 then (if bt265.1 = 7 then (if bt272.2.2 = 0 then (if (bt272.1 == 1 && (bt272.2.1 == 2)) = true then ((ebbtidelaw14_Line.f true).bind fun bt276 => ((expand_Fits.f k bt276.1 bt276.2.1 bt276.2.2 1000).bind fun t281 => (if t281 = true then ((ebbtidelaw14_Line.f true).bind fun bt282 => ((expand_Fits.f k bt282.1 bt282.2.1 bt282.2.2 (-1)).bind fun t287 => (some (!t287)))) else (some false)))) else (some false)) else (some false)) else (some false)) else (some false)) else (some false)) else (some false)) else (some false)))))))
theorem ebbtidelaw15_awake.mono : ∀ k, LeO (ebbtidelaw15_awake.f k ) (ebbtidelaw15_awake.f (k + 1) ) := by
 intro  k
 unfold ebbtidelaw15_awake.f
 repeat' first
   | (with_reducible exact expand_Build.mono _ _ _ _ _ _ _)
   | (with_reducible exact expand_Fits.mono _ _ _ _ _)
   | (with_reducible exact expand_Index.mono _ _ _ _ _ _ _)
   | (with_reducible exact expand_Place.mono _ _ _ _ _ _)
   | (with_reducible exact LeO.refl _)
   | (with_reducible exact LeO.none _)
   | (with_reducible refine LeO.ite ?_ ?_)
   | (with_reducible refine LeO.bind ?_ (fun _ => ?_))
   | exact expand_Build.mono _ _ _ _ _ _ _
   | exact expand_Fits.mono _ _ _ _ _
   | exact expand_Index.mono _ _ _ _ _ _ _
   | exact expand_Place.mono _ _ _ _ _ _
   | exact LeO.none _
   | refine LeO.ite ?_ ?_
   | refine LeO.bind ?_ (fun _ => ?_)
set_option maxHeartbeats 8000000 in
set_option maxRecDepth 100000 in
theorem ebbtidelaw15_awake.calls (k : Nat)  (r : Bool) (w : World) (h : ebbtidelaw15_awake.f k  = some r) (hrt : r = true := by first | rfl | exact HRT.out | assumption) :
  Calls Try.prog 14 #[] w fun e w' => e = .returned (.bool r) ∧ Below w.heap.size w w' := by
 have HRT := am_ hrt; clear hrt; have hu24 := Try.underlying24; have hu26 := Try.underlying26; have HB := am_ (Below.refl w.heap.size w); have H : ((ebbtidelaw14_Line.f true).bind fun bt248 => ((expand_Build.f k bt248.1 bt248.2.1 bt248.2.2 0 2 2).bind fun bt253 => ((ebbtidelaw14_Line.f true).bind fun bt260 => ((expand_Index.f k bt260.1 bt260.2.1 bt260.2.2 2 1 2).bind fun bt265 => ((ebbtidelaw14_Line.f true).bind fun bt267 => ((expand_Place.f k bt267.1 bt267.2.1 bt267.2.2 2 7).bind fun bt272 => (if bt253.2.2.2 = 0 then (if bt253.1 = 11 then (if (bt253.2.2.1.length : Int) = 12 then (if bt265.2 = 0 then (if bt265.1 = 7 then (if bt272.2.2 = 0 then (if (bt272.1 == 1 && (bt272.2.1 == 2)) = true then ((ebbtidelaw14_Line.f true).bind fun bt276 => ((expand_Fits.f k bt276.1 bt276.2.1 bt276.2.2 1000).bind fun t281 => (if t281 = true then ((ebbtidelaw14_Line.f true).bind fun bt282 => ((expand_Fits.f k bt282.1 bt282.2.1 bt282.2.2 (-1)).bind fun t287 => (some (!t287)))) else (some false)))) else (some false)) else (some false)) else (some false)) else (some false)) else (some false)) else (some false)) else (some false)))))))) = some r := h; clear h; replace H := Option.bind_eq_some_iff.mp H; obtain ⟨⟨t248, t249, t250⟩, A10, H⟩ := H; replace H : ((expand_Build.f k t248 t249 t250 0 2 2).bind fun bt253 => ((ebbtidelaw14_Line.f true).bind fun bt260 => ((expand_Index.f k bt260.1 bt260.2.1 bt260.2.2 2 1 2).bind fun bt265 => ((ebbtidelaw14_Line.f true).bind fun bt267 => ((expand_Place.f k bt267.1 bt267.2.1 bt267.2.2 2 7).bind fun bt272 => (if bt253.2.2.2 = 0 then (if bt253.1 = 11 then (if (bt253.2.2.1.length : Int) = 12 then (if bt265.2 = 0 then (if bt265.1 = 7 then (if bt272.2.2 = 0 then (if (bt272.1 == 1 && (bt272.2.1 == 2)) = true then ((ebbtidelaw14_Line.f true).bind fun bt276 => ((expand_Fits.f k bt276.1 bt276.2.1 bt276.2.2 1000).bind fun t281 => (if t281 = true then ((ebbtidelaw14_Line.f true).bind fun bt282 => ((expand_Fits.f k bt282.1 bt282.2.1 bt282.2.2 (-1)).bind fun t287 => (some (!t287)))) else (some false)))) else (some false)) else (some false)) else (some false)) else (some false)) else (some false)) else (some false)) else (some false))))))) = some r := H; have A1 := am_ A10; clear A10; replace H := Option.bind_eq_some_iff.mp H; obtain ⟨⟨t253, t254, t255, t258⟩, A20, H⟩ := H; replace H : ((ebbtidelaw14_Line.f true).bind fun bt260 => ((expand_Index.f k bt260.1 bt260.2.1 bt260.2.2 2 1 2).bind fun bt265 => ((ebbtidelaw14_Line.f true).bind fun bt267 => ((expand_Place.f k bt267.1 bt267.2.1 bt267.2.2 2 7).bind fun bt272 => (if t258 = 0 then (if t253 = 11 then (if (t255.length : Int) = 12 then (if bt265.2 = 0 then (if bt265.1 = 7 then (if bt272.2.2 = 0 then (if (bt272.1 == 1 && (bt272.2.1 == 2)) = true then ((ebbtidelaw14_Line.f true).bind fun bt276 => ((expand_Fits.f k bt276.1 bt276.2.1 bt276.2.2 1000).bind fun t281 => (if t281 = true then ((ebbtidelaw14_Line.f true).bind fun bt282 => ((expand_Fits.f k bt282.1 bt282.2.1 bt282.2.2 (-1)).bind fun t287 => (some (!t287)))) else (some false)))) else (some false)) else (some false)) else (some false)) else (some false)) else (some false)) else (some false)) else (some false)))))) = some r := H; have A2 := am_ A20; clear A20; replace H := Option.bind_eq_some_iff.mp H; obtain ⟨⟨t260, t261, t262⟩, A30, H⟩ := H; replace H : ((expand_Index.f k t260 t261 t262 2 1 2).bind fun bt265 => ((ebbtidelaw14_Line.f true).bind fun bt267 => ((expand_Place.f k bt267.1 bt267.2.1 bt267.2.2 2 7).bind fun bt272 => (if t258 = 0 then (if t253 = 11 then (if (t255.length : Int) = 12 then (if bt265.2 = 0 then (if bt265.1 = 7 then (if bt272.2.2 = 0 then (if (bt272.1 == 1 && (bt272.2.1 == 2)) = true then ((ebbtidelaw14_Line.f true).bind fun bt276 => ((expand_Fits.f k bt276.1 bt276.2.1 bt276.2.2 1000).bind fun t281 => (if t281 = true then ((ebbtidelaw14_Line.f true).bind fun bt282 => ((expand_Fits.f k bt282.1 bt282.2.1 bt282.2.2 (-1)).bind fun t287 => (some (!t287)))) else (some false)))) else (some false)) else (some false)) else (some false)) else (some false)) else (some false)) else (some false)) else (some false))))) = some r := H; have A3 := am_ A30; clear A30; replace H := Option.bind_eq_some_iff.mp H; obtain ⟨⟨t265, t266⟩, A40, H⟩ := H; replace H : ((ebbtidelaw14_Line.f true).bind fun bt267 => ((expand_Place.f k bt267.1 bt267.2.1 bt267.2.2 2 7).bind fun bt272 => (if t258 = 0 then (if t253 = 11 then (if (t255.length : Int) = 12 then (if t266 = 0 then (if t265 = 7 then (if bt272.2.2 = 0 then (if (bt272.1 == 1 && (bt272.2.1 == 2)) = true then ((ebbtidelaw14_Line.f true).bind fun bt276 => ((expand_Fits.f k bt276.1 bt276.2.1 bt276.2.2 1000).bind fun t281 => (if t281 = true then ((ebbtidelaw14_Line.f true).bind fun bt282 => ((expand_Fits.f k bt282.1 bt282.2.1 bt282.2.2 (-1)).bind fun t287 => (some (!t287)))) else (some false)))) else (some false)) else (some false)) else (some false)) else (some false)) else (some false)) else (some false)) else (some false)))) = some r := H; have A4 := am_ A40; clear A40; replace H := Option.bind_eq_some_iff.mp H; obtain ⟨⟨t267, t268, t269⟩, A50, H⟩ := H; replace H : ((expand_Place.f k t267 t268 t269 2 7).bind fun bt272 => (if t258 = 0 then (if t253 = 11 then (if (t255.length : Int) = 12 then (if t266 = 0 then (if t265 = 7 then (if bt272.2.2 = 0 then (if (bt272.1 == 1 && (bt272.2.1 == 2)) = true then ((ebbtidelaw14_Line.f true).bind fun bt276 => ((expand_Fits.f k bt276.1 bt276.2.1 bt276.2.2 1000).bind fun t281 => (if t281 = true then ((ebbtidelaw14_Line.f true).bind fun bt282 => ((expand_Fits.f k bt282.1 bt282.2.1 bt282.2.2 (-1)).bind fun t287 => (some (!t287)))) else (some false)))) else (some false)) else (some false)) else (some false)) else (some false)) else (some false)) else (some false)) else (some false))) = some r := H; have A5 := am_ A50; clear A50; replace H := Option.bind_eq_some_iff.mp H; obtain ⟨⟨t272, t273, t274⟩, A60, H⟩ := H; replace H : (if t258 = 0 then (if t253 = 11 then (if (t255.length : Int) = 12 then (if t266 = 0 then (if t265 = 7 then (if t274 = 0 then (if (t272 == 1 && (t273 == 2)) = true then ((ebbtidelaw14_Line.f true).bind fun bt276 => ((expand_Fits.f k bt276.1 bt276.2.1 bt276.2.2 1000).bind fun t281 => (if t281 = true then ((ebbtidelaw14_Line.f true).bind fun bt282 => ((expand_Fits.f k bt282.1 bt282.2.1 bt282.2.2 (-1)).bind fun t287 => (some (!t287)))) else (some false)))) else (some false)) else (some false)) else (some false)) else (some false)) else (some false)) else (some false)) else (some false)) = some r := H; have A6 := am_ A60; clear A60
 by_cases c7 : t258 = 0
 ·rw [if_pos c7] at H
  obtain ⟨c7b0, c7b1⟩ := eqb_ c7; clear c7
  by_cases c8 : t253 = 11
  ·rw [if_pos c8] at H
   obtain ⟨c8b0, c8b1⟩ := eqb_ c8; clear c8
   by_cases c9 : (t255.length : Int) = 12
   ·rw [if_pos c9] at H
    obtain ⟨c9b0, c9b1⟩ := eqb_ c9; clear c9
    by_cases c10 : t266 = 0
    ·rw [if_pos c10] at H
     obtain ⟨c10b0, c10b1⟩ := eqb_ c10; clear c10
     by_cases c11 : t265 = 7
     ·rw [if_pos c11] at H
      obtain ⟨c11b0, c11b1⟩ := eqb_ c11; clear c11
      by_cases c12 : t274 = 0
      ·rw [if_pos c12] at H
       obtain ⟨c12b0, c12b1⟩ := eqb_ c12; clear c12
       by_cases c13 : (t272 == 1 && (t273 == 2)) = true
       ·rw [if_pos c13] at H
        have c13b0 : (t272 == 1 && (t273 == 2)) = true := c13
        (try (have c13b1 : decide (t272 = 1 && (t273 == 2)) = true := by simpa using c13))
        (try (have c13b2 : (t272 == 1 && (t273 == 2)) = true := by simpa using c13))
        (try (have c13b3 : (!(t272 == 1 && (t273 == 2))) = false := by simpa using c13))
        clear c13; replace H := Option.bind_eq_some_iff.mp H; obtain ⟨⟨t276, t277, t278⟩, A140, H⟩ := H; replace H : ((expand_Fits.f k t276 t277 t278 1000).bind fun t281 => (if t281 = true then ((ebbtidelaw14_Line.f true).bind fun bt282 => ((expand_Fits.f k bt282.1 bt282.2.1 bt282.2.2 (-1)).bind fun t287 => (some (!t287)))) else (some false))) = some r := H; have A14 := am_ A140; clear A140; replace H := Option.bind_eq_some_iff.mp H; obtain ⟨t281, A150, H⟩ := H; replace H : (if t281 = true then ((ebbtidelaw14_Line.f true).bind fun bt282 => ((expand_Fits.f k bt282.1 bt282.2.1 bt282.2.2 (-1)).bind fun t287 => (some (!t287)))) else (some false)) = some r := H; have A15 := am_ A150; clear A150
        by_cases c16 : t281 = true
        ·subst c16
         have H1 : ((ebbtidelaw14_Line.f true).bind fun bt282 => ((expand_Fits.f k bt282.1 bt282.2.1 bt282.2.2 (-1)).bind fun t287 => (some (!t287)))) = some r := by rw [if_pos rfl] at H; exact H
         clear H; have H := H1; clear H1; replace H := Option.bind_eq_some_iff.mp H; obtain ⟨⟨t282, t283, t284⟩, A170, H⟩ := H; replace H : ((expand_Fits.f k t282 t283 t284 (-1)).bind fun t287 => (some (!t287))) = some r := H; have A17 := am_ A170; clear A170; replace H := Option.bind_eq_some_iff.mp H; obtain ⟨t287, A180, H⟩ := H; replace H : (some (!t287)) = some r := H; have A18 := am_ A180; clear A180; obtain rfl := Option.some.inj H
         go_enter Try.func14, Try.ntmps14
         go_wp2_with (first | ((with_reducible refine gate_callee (f := 33) rfl ?_); refine cl_ 8 Try.func33 (ebbtidelaw14_Line.calls true t248 t249 t250 _ A1.out) ?_; rintro e w19 ⟨v251, rfl, ho0, hb⟩; refine ⟨_, rfl, ?_⟩; have HO252 := am_ (Kd.R_lower ho0 (below_size hb_)); replace HB := hst_ hb; (try clear hb); (try clear hb2); (try clear hk); (try clear hi); (try clear ho0); obtain ⟨Ao20, co20, eo20⟩ := Kd.R_slice HO252.out; subst eo20) | ((with_reducible refine gate_callee (f := 17) rfl ?_); refine goesL_ (some 9) rfl rfl Try.func17 (by kernel_rfl) rfl #[.agg #[.int .i64 t248, .bool t249, .slice Ao20 t250.length co20], .int .i64 0, .int .i64 2, .int .i64 2] rfl mt_ ?_; (with_reducible refine (expand_Build.calls k t248 t249 _ _ t250 0 2 2 t253 t254 t255 t258 _ ?side1 ?side2 A2.out).mono ?_); (case side1 => repeat (first | exact (Kd.R_reads' HO252.out).2.2 | (with_reducible refine Kd.C_alloc ?_ _) | (with_reducible refine Kd.C_drewN ?_ _) | (with_reducible refine Kd.C_drew ?_))); (case side2 => exact (Kd.R_reads' HO252.out).2.1); rintro e w21 ⟨v256, rfl, ho0, hb⟩; refine ⟨_, rfl, ?_⟩; have HO257 := am_ (Kd.R_lower (Kd.R_new' ho0 (Kd.R_lt (rq_ HO252.out))) (below_size hb_)); replace HO252 := am_ (Kd.R_elder' (rq_ HO252.out) (Kd.R_base ho0) hb); replace HB := hst_ hb; (try clear hb); (try clear hb2); (try clear hk); (try clear hi); (try clear ho0)) | ((with_reducible refine gate_dst (N := 1) rfl ?_); (try (refine gate_guard (by rfl) ?_; dsimp only)); refine bx_ 1 #[.int .i64 0, .bool false, .slice none 0 0] 24 ?_; intro gb259 hg w22 BK259 hb; replace HO252 := am_ (Kd.R_below (rq_ HO252.out) hb); replace HO257 := am_ (Kd.R_below (rq_ HO257.out) hb); have GE259 := ge_ (w := w) hg; replace HB := hst_ hb; clear hb hg; obtain ⟨hcz23_0, hcz23_1, hcz23_2, hfz23_0, hfz23_1, hfz23_2⟩ := cf3_ BK259.out; obtain ⟨Ao24, co24, eo24⟩ := Kd.R_slice HO257.out; subst eo24) | ((with_reducible refine gate_callee (f := 33) rfl ?_); refine cl_ 13 Try.func33 (ebbtidelaw14_Line.calls true t260 t261 t262 _ A3.out) ?_; rintro e w25 ⟨v263, rfl, ho0, hb⟩; refine ⟨_, rfl, ?_⟩; have HO264 := am_ (Kd.R_lower (Kd.R_new' (Kd.R_new' ho0 (Kd.R_lt q21_)) (Kd.R_lt q22_)) (below_size hb_)); replace HO252 := am_ (Kd.R_elder' q21_ (Kd.R_base ho0) hb); replace HO257 := am_ (Kd.R_elder' q22_ (Kd.R_base ho0) hb); replace BK259 := am_ (blk_below (g := gb259) (o := .cells #[.int .i64 t253, .bool t254, .slice Ao24 t255.length co24] 24 (0, 0)) (by refine bq_ ?_; refine blk_put (cs := #[.int .i64 t253, .bool t254, .slice none 0 0]) ?_ 2 _ rfl; refine bq_ ?_; refine blk_put (cs := #[.int .i64 t253, .bool false, .slice none 0 0]) ?_ 1 _ rfl; refine bq_ ?_; refine blk_put (cs := #[.int .i64 0, .bool false, .slice none 0 0]) ?_ 0 _ rfl; refine bq_ ?_; exact BK259.out) hb); replace HB := hst_ hb; (try clear hb); (try clear hb2); (try clear hk); (try clear hi); (try clear ho0); obtain ⟨Ao26, co26, eo26⟩ := Kd.R_slice HO264.out; subst eo26) | ((with_reducible refine gate_callee (f := 10) rfl ?_); refine goesL_ (some 15) rfl rfl Try.func10 (by kernel_rfl) rfl #[.agg #[.int .i64 t260, .bool t261, .slice Ao26 t262.length co26], .int .i64 2, .agg #[.int .i64 1, .int .i64 2]] rfl mt_ ?_; (with_reducible refine (expand_Index.calls k t260 t261 _ _ t262 2 1 2 t265 t266 _ ?side1 ?side2 A4.out).mono ?_); (case side1 => repeat (first | exact (Kd.R_reads' HO264.out).2.2 | (with_reducible refine Kd.C_alloc ?_ _) | (with_reducible refine Kd.C_drewN ?_ _) | (with_reducible refine Kd.C_drew ?_))); (case side2 => exact (Kd.R_reads' HO264.out).2.1); rintro e w27 ⟨rfl, hb⟩; refine ⟨_, rfl, ?_⟩; replace HO252 := am_ (Kd.R_below (rq_ HO252.out) hb); replace HO257 := am_ (Kd.R_below (rq_ HO257.out) hb); replace HO264 := am_ (Kd.R_below (rq_ HO264.out) hb); replace BK259 := am_ (bb_ BK259.out hb); replace HB := hst_ hb; (try clear hb); (try clear hb2); (try clear hk); (try clear hi)) | ((with_reducible refine gate_callee (f := 33) rfl ?_); refine cl_ 19 Try.func33 (ebbtidelaw14_Line.calls true t267 t268 t269 _ A5.out) ?_; rintro e w28 ⟨v270, rfl, ho0, hb⟩; refine ⟨_, rfl, ?_⟩; have HO271 := am_ (Kd.R_lower (Kd.R_new' (Kd.R_new' (Kd.R_new' ho0 (Kd.R_lt (rq_ HO252.out))) (Kd.R_lt (rq_ HO257.out))) (Kd.R_lt (rq_ HO264.out))) (below_size hb_)); replace HO252 := am_ (Kd.R_elder' (rq_ HO252.out) (Kd.R_base ho0) hb); replace HO257 := am_ (Kd.R_elder' (rq_ HO257.out) (Kd.R_base ho0) hb); replace HO264 := am_ (Kd.R_elder' (rq_ HO264.out) (Kd.R_base ho0) hb); replace BK259 := am_ (bb_ BK259.out hb); replace HB := hst_ hb; (try clear hb); (try clear hb2); (try clear hk); (try clear hi); (try clear ho0); obtain ⟨Ao29, co29, eo29⟩ := Kd.R_slice HO271.out; subst eo29) | ((with_reducible refine gate_callee (f := 12) rfl ?_); refine goesL_ (some 20) rfl rfl Try.func12 (by kernel_rfl) rfl #[.agg #[.int .i64 t267, .bool t268, .slice Ao29 t269.length co29], .int .i64 2, .int .i64 7] rfl mt_ ?_; (with_reducible refine (expand_Place.calls k t267 t268 _ _ t269 2 7 t272 t273 t274 _ ?side1 ?side2 A6.out).mono ?_); (case side1 => repeat (first | exact (Kd.R_reads' HO271.out).2.2 | (with_reducible refine Kd.C_alloc ?_ _) | (with_reducible refine Kd.C_drewN ?_ _) | (with_reducible refine Kd.C_drew ?_))); (case side2 => exact (Kd.R_reads' HO271.out).2.1); rintro e w30 ⟨rfl, hb⟩; refine ⟨_, rfl, ?_⟩; replace HO252 := am_ (Kd.R_below (rq_ HO252.out) hb); replace HO257 := am_ (Kd.R_below (rq_ HO257.out) hb); replace HO264 := am_ (Kd.R_below (rq_ HO264.out) hb); replace HO271 := am_ (Kd.R_below (rq_ HO271.out) hb); replace BK259 := am_ (bb_ BK259.out hb); replace HB := hst_ hb; (try clear hb); (try clear hb2); (try clear hk); (try clear hi)) | ((with_reducible refine gate_dst (N := 5) rfl ?_); (try (refine gate_guard (by rfl) ?_; dsimp only)); refine bx_ 5 #[.int .i64 0, .int .i64 0] 26 ?_; intro gb275 hg w31 BK275 hb; replace HO252 := am_ (Kd.R_below (rq_ HO252.out) hb); replace HO257 := am_ (Kd.R_below (rq_ HO257.out) hb); replace HO264 := am_ (Kd.R_below (rq_ HO264.out) hb); replace HO271 := am_ (Kd.R_below (rq_ HO271.out) hb); have GE275 := ge_ (w := w) hg; replace HB := hst_ hb; have NB259_275 := am_ (nl_ BK259.out hg); have NB275_259 := am_ (ng_ BK259.out hg); replace BK259 := am_ (bb_ BK259.out hb); clear hb hg; have hnb32 := NB275_259.out; have hnc32 := NB259_275.out; obtain ⟨hcz33_0, hcz33_1, hfz33_0, hfz33_1⟩ := cf2_ BK275.out; obtain ⟨hcz34_0, hcz34_1, hcz34_2, hfz34_0, hfz34_1, hfz34_2⟩ := cf3_ BK259.out) | (go_at_call 33; (with_reducible refine (ebbtidelaw14_Line.calls true t276 t277 t278 _ A14.out).mono ?_); rintro e w35 ⟨v279, rfl, ho0, hb⟩; have HO280 := am_ (Kd.R_lower (Kd.R_new' (Kd.R_new' (Kd.R_new' (Kd.R_new' ho0 (Kd.R_lt (by refine rq_ ?_; exact (Kd.R_mono (rf2_ (Kd.R_types HO252.out BK275.out (by decide))) (fun _ h_ => h_.1))))) (Kd.R_lt (by refine rq_ ?_; exact (Kd.R_mono (rf2_ (Kd.R_types HO257.out BK275.out (by decide))) (fun _ h_ => h_.1))))) (Kd.R_lt (by refine rq_ ?_; exact (Kd.R_mono (rf2_ (Kd.R_types HO264.out BK275.out (by decide))) (fun _ h_ => h_.1))))) (Kd.R_lt (by refine rq_ ?_; exact (Kd.R_mono (rf2_ (Kd.R_types HO271.out BK275.out (by decide))) (fun _ h_ => h_.1))))) (below_size hb_)); replace HO252 := am_ (Kd.R_elder' (by refine rq_ ?_; exact (Kd.R_mono (rf2_ (Kd.R_types HO252.out BK275.out (by decide))) (fun _ h_ => h_.1))) (Kd.R_base ho0) hb); replace HO257 := am_ (Kd.R_elder' (by refine rq_ ?_; exact (Kd.R_mono (rf2_ (Kd.R_types HO257.out BK275.out (by decide))) (fun _ h_ => h_.1))) (Kd.R_base ho0) hb); replace HO264 := am_ (Kd.R_elder' (by refine rq_ ?_; exact (Kd.R_mono (rf2_ (Kd.R_types HO264.out BK275.out (by decide))) (fun _ h_ => h_.1))) (Kd.R_base ho0) hb); replace HO271 := am_ (Kd.R_elder' (by refine rq_ ?_; exact (Kd.R_mono (rf2_ (Kd.R_types HO271.out BK275.out (by decide))) (fun _ h_ => h_.1))) (Kd.R_base ho0) hb); replace BK259 := am_ (blk_below (g := gb259) (o := .cells #[.int .i64 t253, .bool t254, .slice Ao24 t255.length co24] 24 (0, 0)) (by refine bq_ ?_; refine blk_far ?_ NB259_275.out _; refine bq_ ?_; refine blk_far ?_ NB259_275.out _; refine bq_ ?_; exact BK259.out) hb); replace BK275 := am_ (blk_below (g := gb275) (o := .cells #[.int .i64 t272, .int .i64 t273] 26 (0, 0)) (by refine bq_ ?_; refine blk_put (cs := #[.int .i64 t272, .int .i64 0]) ?_ 1 _ rfl; refine bq_ ?_; refine blk_put (cs := #[.int .i64 0, .int .i64 0]) ?_ 0 _ rfl; refine bq_ ?_; exact BK275.out) hb); replace HB := hst_ hb; (try clear hb); (try clear hb2); (try clear hk); (try clear hi); (try clear ho0); obtain ⟨Ao36, co36, eo36⟩ := Kd.R_slice HO280.out; subst eo36) | (go_at_call 15; (with_reducible refine (expand_Fits.calls k t276 t277 _ _ t278 1000 true _ ?side1 ?side2 A15.out).mono ?_); (case side1 => repeat (first | exact (Kd.R_reads' HO280.out).2.2 | (with_reducible refine Kd.C_alloc ?_ _) | (with_reducible refine Kd.C_drewN ?_ _) | (with_reducible refine Kd.C_drew ?_))); (case side2 => exact (Kd.R_reads' HO280.out).2.1); rintro e w37 ⟨rfl, hb⟩; replace HO252 := am_ (Kd.R_below (rq_ HO252.out) hb); replace HO257 := am_ (Kd.R_below (rq_ HO257.out) hb); replace HO264 := am_ (Kd.R_below (rq_ HO264.out) hb); replace HO271 := am_ (Kd.R_below (rq_ HO271.out) hb); replace HO280 := am_ (Kd.R_below (rq_ HO280.out) hb); replace BK259 := am_ (bb_ BK259.out hb); replace BK275 := am_ (bb_ BK275.out hb); replace HB := hst_ hb; (try clear hb); (try clear hb2); (try clear hk); (try clear hi)) | (go_at_call 33; (with_reducible refine (ebbtidelaw14_Line.calls true t282 t283 t284 _ A17.out).mono ?_); rintro e w38 ⟨v285, rfl, ho0, hb⟩; have HO286 := am_ (Kd.R_lower (Kd.R_new' (Kd.R_new' (Kd.R_new' (Kd.R_new' (Kd.R_new' ho0 (Kd.R_lt (rq_ HO252.out))) (Kd.R_lt (rq_ HO257.out))) (Kd.R_lt (rq_ HO264.out))) (Kd.R_lt (rq_ HO271.out))) (Kd.R_lt (rq_ HO280.out))) (below_size hb_)); replace HO252 := am_ (Kd.R_elder' (rq_ HO252.out) (Kd.R_base ho0) hb); replace HO257 := am_ (Kd.R_elder' (rq_ HO257.out) (Kd.R_base ho0) hb); replace HO264 := am_ (Kd.R_elder' (rq_ HO264.out) (Kd.R_base ho0) hb); replace HO271 := am_ (Kd.R_elder' (rq_ HO271.out) (Kd.R_base ho0) hb); replace HO280 := am_ (Kd.R_elder' (rq_ HO280.out) (Kd.R_base ho0) hb); replace BK259 := am_ (bb_ BK259.out hb); replace BK275 := am_ (bb_ BK275.out hb); replace HB := hst_ hb; (try clear hb); (try clear hb2); (try clear hk); (try clear hi); (try clear ho0); obtain ⟨Ao39, co39, eo39⟩ := Kd.R_slice HO286.out; subst eo39) | (go_at_call 15; (with_reducible refine (expand_Fits.calls k t282 t283 _ _ t284 (-1) t287 _ ?side1 ?side2 A18.out).mono ?_); (case side1 => repeat (first | exact (Kd.R_reads' HO286.out).2.2 | (with_reducible refine Kd.C_alloc ?_ _) | (with_reducible refine Kd.C_drewN ?_ _) | (with_reducible refine Kd.C_drew ?_))); (case side2 => exact (Kd.R_reads' HO286.out).2.1); rintro e w40 ⟨rfl, hb⟩; replace HO252 := am_ (Kd.R_below (rq_ HO252.out) hb); replace HO257 := am_ (Kd.R_below (rq_ HO257.out) hb); replace HO264 := am_ (Kd.R_below (rq_ HO264.out) hb); replace HO271 := am_ (Kd.R_below (rq_ HO271.out) hb); replace HO280 := am_ (Kd.R_below (rq_ HO280.out) hb); replace HO286 := am_ (Kd.R_below (rq_ HO286.out) hb); replace BK259 := am_ (bb_ BK259.out hb); replace BK275 := am_ (bb_ BK275.out hb); replace HB := hst_ hb; (try clear hb); (try clear hb2); (try clear hk); (try clear hi)))
         go_ret
         exact ⟨er_, hb_⟩
        ·replace c16 := Bool.eq_false_iff.mpr c16
         subst c16
         have H1 : (some false) = some r := by rw [if_neg (show ¬ (false = true) by decide)] at H; exact H
         clear H; have H := H1; clear H1; exact absurd ((Option.some.inj H).trans HRT.out) (by decide)
       ·rw [if_neg c13] at H
        have c13b0 : (t272 == 1 && (t273 == 2)) = false := by simpa using c13
        (try (have c13b1 : decide (t272 = 1 && (t273 == 2)) = false := by simpa using c13))
        (try (have c13b2 : (t272 == 1 && (t273 == 2)) = false := by simpa using c13))
        (try (have c13b3 : ¬ (t272 = 1 && (t273 == 2)) := by simpa using c13))
        (try (have c13b4 : (!(t272 == 1 && (t273 == 2))) = true := by simpa using c13))
        clear c13; exact absurd ((Option.some.inj H).trans HRT.out) (by decide)
      ·rw [if_neg c12] at H
       obtain ⟨c12b0, c12b1⟩ := neb_ c12; exact absurd ((Option.some.inj H).trans HRT.out) (by decide)
     ·rw [if_neg c11] at H
      obtain ⟨c11b0, c11b1⟩ := neb_ c11; exact absurd ((Option.some.inj H).trans HRT.out) (by decide)
    ·rw [if_neg c10] at H
     obtain ⟨c10b0, c10b1⟩ := neb_ c10; exact absurd ((Option.some.inj H).trans HRT.out) (by decide)
   ·rw [if_neg c9] at H
    obtain ⟨c9b0, c9b1⟩ := neb_ c9; exact absurd ((Option.some.inj H).trans HRT.out) (by decide)
  ·rw [if_neg c8] at H
   obtain ⟨c8b0, c8b1⟩ := neb_ c8; exact absurd ((Option.some.inj H).trans HRT.out) (by decide)
 ·rw [if_neg c7] at H
  obtain ⟨c7b0, c7b1⟩ := neb_ c7; exact absurd ((Option.some.inj H).trans HRT.out) (by decide)
end Go.Proofs.Ytfhkkbpkajfdlaa.Q
end
section
namespace Go.Proofs.Ytfhkkbpkajfdlaa.P
open Go.RowKit Go.Proofs.Ytfhkkbpkajfdlaa.Q Go.Proofs.YtfhkkbpkajfdlaaW.PrintWords Go.Proofs.YtfhkkbpkajfdlaaW.PrintLast Go.Proofs.YtfhkkbpkajfdlaaW.PrintMore
theorem ev_cst {α : Type} {g : Nat → Option α} {r : α} (h : ∀ k, g (k + 1) = some r) : Ev g r := Ev.step h (Ev.now r)
theorem wrap1 {i : Nat} (h : i ≤ 4611686018427387904) : wrap64 ((i : Int) + 1) = ((i + 1 : Nat) : Int) := by unfold wrap64; omega
theorem rdA_of {l : List S54} {i : Nat} (h : i < l.length) : rd_T54 l (i : Int) = l[i] := by unfold rd_T54; simp [List.getD_eq_getElem?_getD, List.getElem?_eq_getElem h]
def arcErr (n : Int) (a : S54) : Int := if a.f0 < 0 ∨ a.f1 < 0 ∨ a.f2 < 0 ∨ a.f3 < 0 ∨ n ≤ a.f0 ∨ n ≤ a.f1 then 51 else if 1048576 < a.f2 ∨ 1048576 < a.f3 then 2 else 0
def firstErr (n : Int) : List S54 → Int
 | [] => 0
 | a :: r => if arcErr n a = 0 then firstErr n r else arcErr n a
def checkErr (n : Int) (l : List S54) : Int := if n < 1 then 51 else if 50 < n then 2 else if 200 < l.length then 2 else firstErr n l
def endsErr (n : Int) (l : List S54) (s t : Int) : Int := if checkErr n l = 0 then (if s < 0 ∨ t < 0 ∨ n ≤ s ∨ n ≤ t ∨ s = t then 70 else 0) else checkErr n l
def spanErr (h : Int) : Int := if h < 0 then 1 else if 1024 < h then 2 else 0
def askErr (n : Int) (l : List S54) (s t h : Int) : Int := if endsErr n l s t = 0 then spanErr h else endsErr n l s t
structure ArcOk (n : Int) (a : S54) : Prop where
 f0 : 0 ≤ a.f0 ∧ a.f0 < n
 f1 : 0 ≤ a.f1 ∧ a.f1 < n
 f2 : 0 ≤ a.f2 ∧ a.f2 ≤ 1048576
 f3 : 0 ≤ a.f3 ∧ a.f3 ≤ 1048576
theorem arcErr_ok {n : Int} {a : S54} : arcErr n a = 0 ↔ ArcOk n a := by
 unfold arcErr
 constructor
 ·intro h
  split at h
  ·cases h
  ·split at h
   ·cases h
   ·exact ⟨by omega, by omega, by omega, by omega⟩
 ·rintro ⟨h0, h1, h2, h3⟩
  rw [if_neg (by omega), if_neg (by omega)]
theorem firstErr_ok {n : Int} {l : List S54} : firstErr n l = 0 ↔ ∀ a ∈ l, ArcOk n a := by
 induction l with
 | nil => simp [firstErr]
 | cons a l ih =>
  rw [firstErr]
  by_cases h : arcErr n a = 0
  ·rw [if_pos h, ih]
   constructor
   ·intro h2 x hx
    rcases List.mem_cons.1 hx with rfl | hx
    ·exact arcErr_ok.1 h
    ·exact h2 x hx
   ·intro h2 x hx; exact h2 x (List.mem_cons_of_mem _ hx)
  ·rw [if_neg h]
   constructor
   ·intro h2; exact absurd h2 h
   ·intro h2; exact absurd (arcErr_ok.2 (h2 a List.mem_cons_self)) h
structure NetOk (n : Int) (l : List S54) : Prop where
 lo : 1 ≤ n
 hi : n ≤ 50
 len : l.length ≤ 200
 arcs : ∀ a ∈ l, ArcOk n a
theorem checkErr_ok {n : Int} {l : List S54} : checkErr n l = 0 ↔ NetOk n l := by
 unfold checkErr
 constructor
 ·intro h
  split at h
  ·cases h
  ·split at h
   ·cases h
   ·split at h
    ·cases h
    ·exact ⟨by omega, by omega, by omega, firstErr_ok.1 h⟩
 ·rintro ⟨h0, h1, h2, h3⟩
  rw [if_neg (by omega), if_neg (by omega), if_neg (by omega)]
  exact firstErr_ok.2 h3
theorem askErr_ok {n : Int} {l : List S54} {s t h : Int} : askErr n l s t h = 0 ↔ NetOk n l ∧ 0 ≤ s ∧ s < n ∧ 0 ≤ t ∧ t < n ∧ s ≠ t ∧ 0 ≤ h ∧ h ≤ 1024 := by
 unfold askErr endsErr spanErr
 by_cases hc : checkErr n l = 0
 ·rw [if_pos hc]
  have hn := checkErr_ok.1 hc
  by_cases hs : s < 0 ∨ t < 0 ∨ n ≤ s ∨ n ≤ t ∨ s = t
  ·rw [if_pos hs, if_neg (by decide)]
   constructor
   ·intro h; cases h
   ·rintro ⟨_, h⟩; omega
  ·rw [if_neg hs, if_pos rfl]
   constructor
   ·intro h2
    refine ⟨hn, by omega, by omega, by omega, by omega, by omega, ?_, ?_⟩
    ·by_cases c : h < 0
     ·rw [if_pos c] at h2; cases h2
     ·omega
    ·by_cases c : h < 0
     ·rw [if_pos c] at h2; cases h2
     ·rw [if_neg c] at h2
      by_cases c2 : 1024 < h
      ·rw [if_pos c2] at h2; cases h2
      ·omega
   ·rintro ⟨_, _, _, _, _, _, h5, h6⟩
    rw [if_neg (by omega), if_neg (by omega)]
 ·rw [if_neg hc, if_neg hc]
  constructor
  ·intro h; exact absurd h hc
  ·rintro ⟨h, _⟩; exact absurd (checkErr_ok.2 h) hc
theorem arc_ev (n : Int) (a : S54) : Ev (fun k => netfmt_arc.f k n a.f0 a.f1 a.f2 a.f3) (arcErr n a) := by
 refine ev_cst fun k => ?_
 unfold netfmt_arc.f arcErr
 by_cases c : mn (mn (mn a.f0 a.f1) a.f2) a.f3 < 0
 ·rw [if_pos c, netfmt_arc.j0, if_pos rfl, if_pos (by unfold mn at c; (repeat' split at c) <;> omega)]
 ·rw [if_neg c, netfmt_arc.j0]
  have hc : 0 ≤ a.f0 ∧ 0 ≤ a.f1 ∧ 0 ≤ a.f2 ∧ 0 ≤ a.f3 := by unfold mn at c; (repeat' split at c) <;> omega
  by_cases c2 : mx a.f0 a.f1 ≥ n
  ·rw [decide_eq_true c2, if_pos rfl, if_pos (by unfold mx at c2; split at c2 <;> omega)]
  ·rw [decide_eq_false c2, if_neg (by decide)]
   have hc2 : a.f0 < n ∧ a.f1 < n := by unfold mx at c2; split at c2 <;> omega
   rw [if_neg (show ¬ (a.f0 < 0 ∨ a.f1 < 0 ∨ a.f2 < 0 ∨ a.f3 < 0 ∨ n ≤ a.f0 ∨ n ≤ a.f1) by omega)]
   by_cases c3 : a.f2 > 1048576
   ·rw [if_pos c3, if_pos (by omega)]
   ·rw [if_neg c3]
    by_cases c4 : a.f3 > 1048576
    ·rw [if_pos c4, if_pos (by omega)]
    ·rw [if_neg c4, if_neg (by omega)]
theorem rarc_ev (n : Int) (a : S54) : Ev (fun k => ebbtideref05_Arc.f k n a.f0 a.f1 a.f2 a.f3) (arcErr n a) := by
 refine ev_cst fun k => ?_
 unfold ebbtideref05_Arc.f arcErr
 simp only [ebbtideref05_Arc.j0]
 by_cases c0 : a.f0 < 0
 ·rw [if_pos c0, if_pos trivial, if_pos (by omega)]
 ·rw [if_neg c0]
  by_cases c1 : a.f0 ≥ n
  ·rw [if_pos c1, if_pos trivial, if_pos (by omega)]
  ·rw [if_neg c1]
   by_cases c2 : a.f1 < 0
   ·rw [if_pos c2, if_pos trivial, if_pos (by omega)]
   ·rw [if_neg c2]
    by_cases c3 : a.f1 ≥ n
    ·rw [if_pos c3, if_pos trivial, if_pos (by omega)]
    ·rw [if_neg c3]
     by_cases c4 : a.f2 < 0
     ·rw [if_pos c4, if_pos trivial, if_pos (by omega)]
     ·rw [if_neg c4]
      by_cases c5 : a.f3 < 0
      ·rw [if_pos (decide_eq_true c5), if_pos (by omega)]
      ·rw [if_neg (by simpa using c5), if_neg (show ¬ (a.f0 < 0 ∨ a.f1 < 0 ∨ a.f2 < 0 ∨ a.f3 < 0 ∨ n ≤ a.f0 ∨ n ≤ a.f1) by omega)]
       by_cases c6 : a.f2 > 1048576
       ·rw [if_pos c6, if_pos (by omega)]
       ·rw [if_neg c6]
        by_cases c7 : a.f3 > 1048576
        ·rw [if_pos c7, if_pos (by omega)]
        ·rw [if_neg c7, if_neg (by omega)]
theorem check_loop (n : Int) (b : Bool) (l : List S54) (hl : l.length ≤ 200) (d : Nat) : ∀ i, i + d = l.length → Ev (fun k => netfmt_Check.l0 k l (l.length : Int) (i : Int) n b l) (firstErr n (l.drop i)) := by
 induction d with
 | zero =>
  intro i hi
  rw [List.drop_eq_nil_of_le (by omega)]
  exact ev_cst fun k => by rw [netfmt_Check.l0, if_neg (by omega)]; rfl
 | succ d ih =>
  intro i hi
  have hlt : i < l.length := by omega
  refine Ev.step (f := fun k => (netfmt_arc.f k n l[i].f0 l[i].f1 l[i].f2 l[i].f3).bind fun t173 => if t173 = 0 then netfmt_Check.l0 k l (l.length : Int) ((i + 1 : Nat) : Int) n b l else some t173) (fun k => ?_) ?_
  ·rw [netfmt_Check.l0, if_pos (by omega), if_pos (by omega), if_pos (by omega), rdA_of hlt, wrap1 (by omega)]
  ·refine Ev.bind (arc_ev n l[i]) ?_
   rw [List.drop_eq_getElem_cons hlt, firstErr]
   by_cases c : arcErr n l[i] = 0
   ·simp only [c, if_true]
    exact ih (i + 1) (by omega)
   ·simp only [c, if_false]
    exact Ev.now _
theorem rcheck_loop (n : Int) (b : Bool) (l : List S54) (hl : l.length ≤ 200) (d : Nat) : ∀ i, i + d = l.length → Ev (fun k => ebbtideref05_Check.l0 k (i : Int) n b l) (firstErr n (l.drop i)) := by
 induction d with
 | zero =>
  intro i hi
  rw [List.drop_eq_nil_of_le (by omega)]
  exact ev_cst fun k => by rw [ebbtideref05_Check.l0, if_neg (by omega)]; rfl
 | succ d ih =>
  intro i hi
  have hlt : i < l.length := by omega
  refine Ev.step (f := fun k => (ebbtideref05_Arc.f k n l[i].f0 l[i].f1 l[i].f2 l[i].f3).bind fun t184 => if t184 = 0 then ebbtideref05_Check.l0 k ((i + 1 : Nat) : Int) n b l else some t184) (fun k => ?_) ?_
  ·rw [ebbtideref05_Check.l0, if_pos (by omega), if_pos (by omega), rdA_of hlt, wrap1 (by omega)]
  ·refine Ev.bind (rarc_ev n l[i]) ?_
   rw [List.drop_eq_getElem_cons hlt, firstErr]
   by_cases c : arcErr n l[i] = 0
   ·simp only [c, if_true]
    exact ih (i + 1) (by omega)
   ·simp only [c, if_false]
    exact Ev.now _
theorem nodes_eq (n : Int) : netfmt_nodes.f n = some (if n < 1 then 51 else if 50 < n then 2 else 0) := by
 unfold netfmt_nodes.f
 by_cases c : n < 1
 ·rw [if_pos c, if_pos c]
 ·rw [if_neg c, if_neg c]
  by_cases c2 : n > 50
  ·rw [if_pos c2, if_pos c2]
  ·rw [if_neg c2, if_neg c2]
theorem rnodes_eq (n : Int) : ebbtideref05_nodes.f n = some (if n < 1 then 51 else if 50 < n then 2 else 0) := nodes_eq n
theorem check_ev (n : Int) (b : Bool) (l : List S54) : Ev (fun k => netfmt_Check.f k n b l) (checkErr n l) := by
 unfold netfmt_Check.f checkErr
 rw [nodes_eq]
 simp only [Option.bind_some]
 by_cases c : n < 1
 ·simp only [c, if_true, show ¬ (51 : Int) = 0 by decide, if_false]; exact Ev.now _
 ·by_cases c2 : 50 < n
  ·simp only [c, c2, if_true, if_false, show ¬ (2 : Int) = 0 by decide]; exact Ev.now _
  ·simp only [c, c2, if_true, if_false]
   by_cases c3 : 200 < l.length
   ·simp only [c3, if_true, show (l.length : Int) > 200 by omega]; exact Ev.now _
   ·simp only [c3, if_false, show ¬ (l.length : Int) > 200 by omega]
    exact check_loop n b l (by omega) l.length 0 (by omega)
theorem rcheck_ev (n : Int) (b : Bool) (l : List S54) : Ev (fun k => ebbtideref05_Check.f k n b l) (checkErr n l) := by
 unfold ebbtideref05_Check.f checkErr
 rw [rnodes_eq]
 simp only [Option.bind_some]
 by_cases c : n < 1
 ·simp only [c, if_true, show ¬ (51 : Int) = 0 by decide, if_false]; exact Ev.now _
 ·by_cases c2 : 50 < n
  ·simp only [c, c2, if_true, if_false, show ¬ (2 : Int) = 0 by decide]; exact Ev.now _
  ·simp only [c, c2, if_true, if_false]
   by_cases c3 : 200 < l.length
   ·simp only [c3, if_true, show (l.length : Int) > 200 by omega]; exact Ev.now _
   ·simp only [c3, if_false, show ¬ (l.length : Int) > 200 by omega]
    exact rcheck_loop n b l (by omega) l.length 0 (by omega)
theorem mn_neg {s t : Int} : mn s t < 0 ↔ s < 0 ∨ t < 0 := by unfold mn; split <;> omega
theorem mx_ge {s t n : Int} : mx s t ≥ n ↔ n ≤ s ∨ n ≤ t := by unfold mx; split <;> omega
theorem ends_ev (n : Int) (b : Bool) (l : List S54) (s t : Int) : Ev (fun k => static_Ends.f k n b l s t) (endsErr n l s t) := by
 unfold static_Ends.f endsErr
 refine Ev.bind (check_ev n b l) ?_
 by_cases c : checkErr n l = 0
 ·simp only [c, if_true]
  refine ev_cst fun _ => ?_
  by_cases c1 : mn s t < 0
  ·rw [if_pos c1, if_pos (by have := mn_neg.1 c1; omega)]
  ·rw [if_neg c1]
   have h1 : ¬ (s < 0 ∨ t < 0) := fun h => c1 (mn_neg.2 h)
   by_cases c2 : mx s t ≥ n
   ·rw [if_pos c2, if_pos (by have := mx_ge.1 c2; omega)]
   ·rw [if_neg c2]
    have h2 : ¬ (n ≤ s ∨ n ≤ t) := fun h => c2 (mx_ge.2 h)
    by_cases c3 : s = t
    ·rw [if_pos c3, if_pos (by omega)]
    ·rw [if_neg c3, if_neg (by omega)]
 ·simp only [c, if_false]
  exact Ev.now _
theorem rends_ev (n : Int) (b : Bool) (l : List S54) (s t : Int) : Ev (fun k => ebbtideref07_Ends.f k n b l s t) (endsErr n l s t) := by
 unfold ebbtideref07_Ends.f endsErr
 refine Ev.bind (rcheck_ev n b l) ?_
 by_cases c : checkErr n l = 0
 ·simp only [c, if_true]
  have hnode : ∀ v, ebbtideref06_Node.f n b l v = some (decide (0 ≤ v ∧ v < n)) := by
   intro v
   unfold ebbtideref06_Node.f
   by_cases c1 : v ≥ 0
   ·rw [if_pos c1]; congr 1; rw [decide_eq_decide]; omega
   ·rw [if_neg c1]; congr 1; symm; rw [decide_eq_false_iff_not]; omega
  refine ev_cst fun _ => ?_
  rw [hnode, hnode]
  simp only [Option.bind_some, decide_eq_true_eq]
  by_cases c1 : 0 ≤ s ∧ s < n
  ·rw [if_pos c1]
   by_cases c2 : 0 ≤ t ∧ t < n
   ·rw [if_pos c2]
    by_cases c3 : s = t
    ·rw [if_pos c3, if_pos (by omega)]
    ·rw [if_neg c3, if_neg (by omega)]
   ·rw [if_neg c2, if_pos (by omega)]
  ·rw [if_neg c1, if_pos (by omega)]
 ·simp only [c, if_false]
  exact Ev.now _
theorem horizon_eq (h : Int) : span_Horizon.f h = some (spanErr h) := by
 unfold span_Horizon.f spanErr
 by_cases c : h < 0
 ·rw [if_pos c, if_pos c]
 ·rw [if_neg c, if_neg c]
  by_cases c2 : h > 1024
  ·rw [if_pos c2, if_pos c2]
  ·rw [if_neg c2, if_neg c2]
theorem rspan_eq (h : Int) : ebbtideref12_Span.f h = some (spanErr h) := horizon_eq h
theorem asked_ev (n : Int) (b : Bool) (l : List S54) (s t h : Int) : Ev (fun k => span_Asked.f k n b l s t h) (askErr n l s t h) := by
 unfold span_Asked.f askErr
 refine Ev.bind (ends_ev n b l s t) ?_
 by_cases c : endsErr n l s t = 0
 ·simp only [c, if_true, horizon_eq, Option.bind_some]; exact Ev.now _
 ·simp only [c, if_false]; exact Ev.now _
theorem rasked_ev (n : Int) (b : Bool) (l : List S54) (s t h : Int) : Ev (fun k => ebbtideref12_Asked.f k n b l s t h) (askErr n l s t h) := by
 unfold ebbtideref12_Asked.f askErr
 refine Ev.bind (rends_ev n b l s t) ?_
 by_cases c : endsErr n l s t = 0
 ·simp only [c, if_true, rspan_eq, Option.bind_some]; exact Ev.now _
 ·simp only [c, if_false]; exact Ev.now _
theorem awake15_at : ebbtidelaw15_awake.f 60 = some true := by decide +kernel
theorem awake15_ev : Ev (fun k => ebbtidelaw15_awake.f k) true := Ev.of (fun k => ebbtidelaw15_awake.mono k) awake15_at
def fitsB (n : Int) (l : List S54) (h : Int) : Bool := if checkErr n l = 0 then (if spanErr h = 0 then (if (h + 1) * n ≤ 4000 then decide ((h + 1) * (l.length : Int) ≤ 10000) else false) else false) else false
theorem spanErr_ok {h : Int} : spanErr h = 0 ↔ 0 ≤ h ∧ h ≤ 1024 := by
 unfold spanErr
 by_cases c : h < 0
 ·rw [if_pos c]; constructor
  ·intro h; cases h
  ·omega
 ·rw [if_neg c]
  by_cases c2 : 1024 < h
  ·rw [if_pos c2]; constructor
   ·intro h; cases h
   ·omega
  ·rw [if_neg c2]; constructor
   ·omega
   ·intro _; rfl
theorem wraps {n h : Int} (h0 : 0 ≤ h) (h1 : h ≤ 1024) (n0 : 0 ≤ n) (n1 : n ≤ 1000) : wrap64 (wrap64 (h + 1) * n) = (h + 1) * n := by
 have h2 : 0 ≤ (h + 1) * n := Int.mul_nonneg (by omega) n0
 have h3 : (h + 1) * n ≤ 1025 * 1000 := Int.mul_le_mul (by omega) n1 n0 (by decide)
 rw [wrapId (n := h + 1) (by omega) (by omega), wrapId (by omega) (by omega)]
theorem fits_ev (n : Int) (b : Bool) (l : List S54) (h : Int) : Ev (fun k => expand_Fits.f k n b l h) (fitsB n l h) := by
 unfold expand_Fits.f fitsB
 refine Ev.bind (check_ev n b l) ?_
 by_cases c : checkErr n l = 0
 ·have hn := checkErr_ok.1 c
  simp only [c, if_true, horizon_eq, Option.bind_some]
  by_cases c2 : spanErr h = 0
  ·have hh := spanErr_ok.1 c2
   simp only [c2, if_true]
   rw [wraps hh.1 hh.2 (by have := hn.lo; omega) (by have := hn.hi; omega), wraps hh.1 hh.2 (by omega) (by have := hn.len; omega)]
   by_cases c3 : (h + 1) * n ≤ 4000
   ·simp only [c3, if_true]; exact Ev.now _
   ·simp only [c3, if_false]; exact Ev.now _
  ·simp only [c2, if_false]; exact Ev.now _
 ·simp only [c, if_false]; exact Ev.now _
abbrev RS : Type := List S54 × List S83
def rArc (V H s t a : Int) (g : RS) (i : Nat) (x : S54) : RS :=
 if a + x.f3 ≤ H ∧ (x.f1 != s && x.f0 != t) = true then (g.1 ++ [⟨a * V + x.f0, (a + x.f3) * V + x.f1, x.f2, 0⟩], g.2 ++ [⟨true, false, (i : Int), 0, a⟩]) else g
def rArcs (V H s t : Int) (l0 : List S54) (a : Int) (g : RS) (n : Nat) : RS := (List.range n).foldl (fun g i => rArc V H s t a g i (l0.getD i z54)) g
def rWait (V H : Int) (hold : Bool) (s t a : Int) (g : RS) (v : Nat) : RS :=
 if a < H ∧ ((hold && (v : Int) != s) && (v : Int) != t) = true then (g.1 ++ [⟨a * V + (v : Int), (a + 1) * V + (v : Int), 1099511627776, 0⟩], g.2 ++ [⟨false, true, 0, (v : Int), a⟩]) else g
def rWaits (V H : Int) (hold : Bool) (s t a : Int) (g : RS) (n : Nat) : RS := (List.range n).foldl (fun g v => rWait V H hold s t a g v) g
def rAts (V H : Int) (hold : Bool) (s t : Int) (l0 : List S54) (n : Nat) : RS := (List.range n).foldl (fun (g : RS) (k : Nat) => rWaits V H hold s t (k : Int) (rArcs V H s t l0 (k : Int) g l0.length) V.toNat) ([], [])
def kEnds (v : Int) (n : Nat) : List S83 := (List.range n).map (fun a : Nat => (⟨false, false, 0, v, (a : Int)⟩ : S83))
theorem kEnds_length (v : Int) (n : Nat) : (kEnds v n).length = n := by unfold kEnds; rw [List.length_map, List.length_range]
theorem rArcs_succ (V H s t : Int) (l0 : List S54) (a : Int) (g : RS) (n : Nat) : rArcs V H s t l0 a g (n + 1) = rArc V H s t a (rArcs V H s t l0 a g n) n (l0.getD n z54) := by
 unfold rArcs; rw [List.range_succ, List.foldl_append]; rfl
theorem rWaits_succ (V H : Int) (hold : Bool) (s t a : Int) (g : RS) (n : Nat) : rWaits V H hold s t a g (n + 1) = rWait V H hold s t a (rWaits V H hold s t a g n) n := by
 unfold rWaits; rw [List.range_succ, List.foldl_append]; rfl
theorem rAts_succ (V H : Int) (hold : Bool) (s t : Int) (l0 : List S54) (n : Nat) : rAts V H hold s t l0 (n + 1) = rWaits V H hold s t (n : Int) (rArcs V H s t l0 (n : Int) (rAts V H hold s t l0 n) l0.length) V.toNat := by
 unfold rAts; rw [List.range_succ, List.foldl_append]; rfl
theorem rArcs_fst {V H s t : Int} {l0 : List S54} {a : Int} {g : RS} {g' : GS} (h : g.1 = g'.1) : ∀ n, (rArcs V H s t l0 a g n).1 = (arcLoop V H s t l0 a g' n).1
 | 0 => h
 | n + 1 => by
  rw [rArcs_succ, arcLoop_succ]
  have ih := rArcs_fst (V := V) (H := H) (s := s) (t := t) (l0 := l0) (a := a) h n
  unfold rArc arcStep
  split
  ·simp only [ih]
  ·exact ih
theorem rWaits_fst {V H s t : Int} {hold : Bool} {a : Int} {g : RS} {g' : GS} (h : g.1 = g'.1) : ∀ n, (rWaits V H hold s t a g n).1 = (waitLoop V H hold s t a g' n).1
 | 0 => h
 | n + 1 => by
  rw [rWaits_succ, waitLoop_succ]
  have ih := rWaits_fst (V := V) (H := H) (s := s) (t := t) (hold := hold) (a := a) h n
  unfold rWait waitStep
  split
  ·simp only [ih]
  ·exact ih
theorem rAts_fst {V H s t : Int} {hold : Bool} {l0 : List S54} : ∀ n, (rAts V H hold s t l0 n).1 = (atLoop V H hold s t l0 n).1
 | 0 => rfl
 | n + 1 => by
  rw [rAts_succ, atLoop_succ]
  exact rWaits_fst (rArcs_fst (rAts_fst n) _) _
section
variable {V H s t : Int} {hold : Bool} {l0 : List S54}
theorem atLoop_len (hn : NetOk V l0) (n : Nat) (hh : n ≤ 1025) : (rAts V H hold s t l0 n).1.length ≤ 256250 := by
 rw [rAts_fst]
 have := (atLoop_bal (V := V) (H := H) (s := s) (t := t) (hold := hold) (l0 := l0) hn.hi hn.len n).2
 omega
def gridKinds (V H : Int) (hold : Bool) (s t : Int) (l0 : List S54) : List S83 := (rAts V H hold s t l0 (H.toNat + 1)).2 ++ kEnds s (H.toNat + 1) ++ kEnds t (H.toNat + 1)
theorem gridArcs_length (hn : NetOk V l0) (hh : 0 ≤ H ∧ H ≤ 1024) : (gridArcs V H hold s t l0).length ≤ 300000 := by
 have hl := atLoop_len (V := V) (H := H) (s := s) (t := t) (hold := hold) hn (H.toNat + 1) (by omega)
 rw [rAts_fst] at hl
 unfold gridArcs
 rw [List.length_append, List.length_append, firstsA_length, lastsA_length]
 omega
end
def expErr (n : Int) (l : List S54) (s t h : Int) : Int := if askErr n l s t h = 0 then (if fitsB n l h = true then 0 else 2) else askErr n l s t h
theorem expErr_ok {n : Int} {l : List S54} {s t h : Int} (he : expErr n l s t h = 0) : NetOk n l ∧ (0 ≤ s ∧ s < n) ∧ (0 ≤ t ∧ t < n) ∧ (0 ≤ h ∧ h ≤ 1024) := by
 unfold expErr at he
 by_cases c : askErr n l s t h = 0
 ·obtain ⟨h1, h2, h3, h4, h5, h6, h7, h8⟩ := askErr_ok.1 c
  exact ⟨h1, ⟨h2, h3⟩, ⟨h4, h5⟩, ⟨h7, h8⟩⟩
 ·rw [if_neg c] at he; exact absurd he c
theorem easked_ev (n : Int) (b : Bool) (l : List S54) (s t h : Int) : Ev (fun k => expand_Asked.f k n b l s t h) (expErr n l s t h) := by
 unfold expand_Asked.f expErr
 refine Ev.bind (asked_ev n b l s t h) ?_
 by_cases c : askErr n l s t h = 0
 ·simp only [c, if_true]
  refine Ev.bind (fits_ev n b l h) ?_
  by_cases c2 : fitsB n l h = true
  ·simp only [c2, if_true]; exact Ev.now _
  ·simp only [c2, if_false]; exact Ev.now _
 ·simp only [c, if_false]; exact Ev.now _
theorem okNet_of {n h : Int} {l : List S54} (hn : NetOk n l) (hh : 0 ≤ h ∧ h ≤ 1024) : okNet n h l = true := by
 unfold okNet
 rw [Bool.and_eq_true]
 refine ⟨decide_eq_true ⟨by have := hn.lo; omega, hn.hi, hh.1, hh.2, hn.len⟩, ?_⟩
 rw [List.all_eq_true]
 intro x hx
 have ho := hn.arcs x hx
 unfold okA
 exact decide_eq_true ⟨ho.f0.1, ho.f0.2, ho.f1.1, ho.f1.2, ho.f2.1, ho.f2.2, ho.f3.1, ho.f3.2⟩
def buildR (n : Int) (b : Bool) (l : List S54) (s t h : Int) : Int × Bool × List S54 × Int := if expErr n l s t h = 0 then ((h + 1) * n + 2, false, gridArcs n h b s t l, 0) else (0, false, [], expErr n l s t h)
theorem build_ev (n : Int) (b : Bool) (l : List S54) (s t h : Int) : Ev (fun k => expand_Build.f k n b l s t h) (buildR n b l s t h) := by
 unfold expand_Build.f buildR
 refine Ev.bind (easked_ev n b l s t h) ?_
 by_cases c : expErr n l s t h = 0
 ·obtain ⟨h1, h2, h3, h4⟩ := expErr_ok c
  simp only [c, if_true]
  refine ev_cst fun _ => ?_
  rw [if_pos ⟨okNet_of h1 h4, h2.1, h2.2, h3.1, h3.2⟩]
 ·simp only [c, if_false]; exact Ev.now _
end Go.Proofs.Ytfhkkbpkajfdlaa.P
end
