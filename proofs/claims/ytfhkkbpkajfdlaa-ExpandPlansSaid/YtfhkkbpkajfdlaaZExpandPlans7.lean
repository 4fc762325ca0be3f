/- A part of the proof: words, contracts, plain lemmas. Conditions: none. -/
import Derived.Laws.Externs
import Derived.Shelf.SlSortCmp.NoneTotal
import Derived.Test.YtfhkkbpkajfdlaaZExpandPlans6
set_option linter.unusedSimpArgs false
set_option linter.unusedVariables false
section
namespace Go.Proofs.Ytfhkkbpkajfdlaa.Q
open Go.RowKit Go.Proofs.YtfhkkbpkajfdlaaW.PrintWords Go.Proofs.YtfhkkbpkajfdlaaW.PrintLast Go.Proofs.YtfhkkbpkajfdlaaW.PrintMore
attribute [local go_sem] max2_int min2_int max_two min_two min_four
theorem eqA26 (d : Nat) (w : World) (x0 y0 : Int) (x1 y1 : Int) :
  (Op.equalIn (d + 2) 26 (.agg #[.int .i64 x0, .int .i64 x1]) (.agg #[.int .i64 y0, .int .i64 y1])).run Try.prog w = .ok (x0 == y0 && (x1 == y1)) w := by
 refine eqA_of Try.underlying26 (by kernel_rfl) ?_; refine eqf_cons (by rfl) (by go_simp; rfl) (by go_simp; rfl) (by go_simp) ?_; exact eqf_last (by rfl) (by go_simp; rfl) (by go_simp; rfl) (by go_simp)
end Go.Proofs.Ytfhkkbpkajfdlaa.Q
end
section
namespace Go.Proofs.Ytfhkkbpkajfdlaa.Q
open Go.RowKit Go.Proofs.YtfhkkbpkajfdlaaW.PrintWords Go.Proofs.YtfhkkbpkajfdlaaW.PrintLast Go.Proofs.YtfhkkbpkajfdlaaW.PrintMore
def ebbtidelaw14_Line.f (a0 : Bool) : Option (Int × Bool × (List (S54))) := some (3, a0, (([(⟨0, 1, 2, 1⟩ : S54), (⟨1, 2, 2, 1⟩ : S54)] : List (S54))))
set_option maxHeartbeats 8000000 in
set_option maxRecDepth 100000 in
theorem ebbtidelaw14_Line.calls (a0 : Bool) (r1 : Int) (r2 : Bool) (r3 : List (S54)) (w : World) (h : ebbtidelaw14_Line.f a0 = some (r1, r2, r3)) :
  Calls Try.prog 33 #[.bool a0] w fun e w' => ∃ v2_ : Value, e = .returned (.agg #[.int .i64 r1, .bool r2, v2_]) ∧ Kd.R k54 54 w' w.heap.size (fun _ => True) v2_ r3 ∧ Below w.heap.size w w' := by
 have hu24 := Try.underlying24; have hu54 := Try.underlying54; have HB := am_ (Below.refl w.heap.size w); have H : (some (3, a0, (([(⟨0, 1, 2, 1⟩ : S54), (⟨1, 2, 2, 1⟩ : S54)] : List (S54))))) = some (r1, r2, r3) := h; clear h; obtain ⟨y245, hy_⟩ : ∃ y_ : List (S54), y_ = (([(⟨0, 1, 2, 1⟩ : S54), (⟨1, 2, 2, 1⟩ : S54)] : List (S54))) := ⟨_, rfl⟩
 replace H : (some (3, a0, y245)) = some (r1, r2, r3) := hyH_
 have Ny245 := am_ hy_; clear hy_; simp only [Option.some.injEq, Prod.mk.injEq] at H; obtain ⟨rfl, rfl, rfl⟩ := H
 go_enter Try.func33, Try.ntmps33
 go_wp2_with (first | ((with_reducible refine gate_dst (N := 2) rfl ?_); refine bx_ 2 #[.int .i64 0, .bool false, .slice none 0 0] 24 ?_; intro gb244 hg w2 BK244 hb; have GE244 := ge_ (w := w) hg; replace HB := hst_ hb; clear hb hg) | ((with_reducible refine gate_dst (N := 6) rfl ?_); refine Kd.R_lit k54 _ 54 ?hg (N := 6) ?hd (xs := ([(⟨0, 1, 2, 1⟩ : S54), (⟨1, 2, 2, 1⟩ : S54)] : List (S54))) (inner := [.int .i64 0, .int .i64 1, .int .i64 2, .int .i64 1, .int .i64 1, .int .i64 2, .int .i64 2, .int .i64 1]) (ok := fun _ => True) (okp := fun _ => True) ?hr ?hp (fun _ hk => hk) trivial (Below.refl _ _) (Nat.le_refl _) (by simp) ?_; (case hd => rfl); (case hg => rfl); (case hr => first | (go_simp; done) | (go_simp; rfl)); (case hp => exact (Reps.c4 (show Kd.M k54 _ _ _ (⟨0, 1, 2, 1⟩ : S54) [.int .i64 0, .int .i64 1, .int .i64 2, .int .i64 1] from (k54_mkM _ _ _ (⟨0, 1, 2, 1⟩ : S54) )) (Reps.c4 (show Kd.M k54 _ _ _ (⟨1, 2, 2, 1⟩ : S54) [.int .i64 1, .int .i64 2, .int .i64 2, .int .i64 1] from (k54_mkM _ _ _ (⟨1, 2, 2, 1⟩ : S54) )) (Reps.none _ _)))); intro v246 w3 ho4 hb hg_ hnew_; clear hg_ hnew_; (first | rw [← Ny245.out] at ho4 | (simp only [Int.reduceToNat] at ho4; rw [← Ny245.out] at ho4)); have HO247 := am_ (Kd.R_lower ho4 (below_size hb_)); replace BK244 := am_ (bb_ BK244.out hb); replace HB := hst_ hb; clear hb ho4; obtain ⟨Ao5, co5, eo5⟩ := Kd.R_slice HO247.out; subst eo5; obtain ⟨hcz6_0, hcz6_1, hcz6_2, hfz6_0, hfz6_1, hfz6_2⟩ := cf3_ BK244.out))
 refine bodyPost_ret (results_cell_row rfl _ _ gb244 24 #[.int .i64 3, .bool a0, .slice Ao5 y245.length co5] (0, 0) _ rfl (by refine bq_ ?_; refine blk_put (cs := #[.int .i64 3, .bool a0, .slice none 0 0]) ?_ 2 _ rfl; refine bq_ ?_; refine blk_put (cs := #[.int .i64 3, .bool false, .slice none 0 0]) ?_ 1 _ rfl; refine bq_ ?_; refine blk_put (cs := #[.int .i64 0, .bool false, .slice none 0 0]) ?_ 0 _ rfl; refine bq_ ?_; exact BK244.out) Try.underlying24 rfl (by kernel_rfl)) rfl ?_; exact ⟨_, er_, by refine rq_ ?_; exact Kd.R_mono (rf3_ (Kd.R_types HO247.out BK244.out (by decide))) (fun _ hk => trivial), hb_⟩
attribute [local go_sem high] eqA26
def ebbtidelaw15_awake.f (k : Nat)  : Option (Bool) := (ebbtidelaw14_Line.f true).bind fun bt248 => ((expand_Build.f k bt248.1 bt248.2.1 bt248.2.2 0 2 2).bind fun bt253 => ((ebbtidelaw14_Line.f true).bind fun bt260 => ((expand_Index.f k bt260.1 bt260.2.1 bt260.2.2 2 1 2).bind fun bt265 => ((ebbtidelaw14_Line.f true).bind fun bt267 => ((expand_Place.f k bt267.1 bt267.2.1 bt267.2.2 2 7).bind fun bt272 => (if bt253.2.2.2 = 0 then (if bt253.1 = 11 then (if (bt253.2.2.1.length : Int) = 12 then (if bt265.2 = 0 then (if bt265.1 = 7 then (if bt272.2.2 = 0 then (if (bt272.1 == 1 && (bt272.2.1 == 2)) = true then ((ebbtidelaw14_Line.f true).bind fun bt276 => ((expand_Fits.f k bt276.1 bt276.2.1 bt276.2.2 1000).bind fun t281 => (if t281 = true then ((ebbtidelaw14_Line.f true).bind fun bt282 => ((expand_Fits.f k bt282.1 bt282.2.1 bt282.2.2 (-1)).bind fun t287 => (some (!t287)))) else (some false)))) else (some false)) else (some false)) else (some false)) else (some false)) else (some false)) else (some false)) else (some false)))))))
theorem ebbtidelaw15_awake.mono : ∀ k, LeO (ebbtidelaw15_awake.f k ) (ebbtidelaw15_awake.f (k + 1) ) := by
 intro  k
 unfold ebbtidelaw15_awake.f
 repeat' first
   | (with_reducible exact expand_Build.mono _ _ _ _ _ _ _)
   | (with_reducible exact expand_Fits.mono _ _ _ _ _)
   | (with_reducible exact expand_Index.mono _ _ _ _ _ _ _)
   | (with_reducible exact expand_Place.mono _ _ _ _ _ _)
   | (with_reducible exact LeO.refl _)
   | (with_reducible exact LeO.none _)
   | (with_reducible refine LeO.ite ?_ ?_)
   | (with_reducible refine LeO.bind ?_ (fun _ => ?_))
   | exact expand_Build.mono _ _ _ _ _ _ _
   | exact expand_Fits.mono _ _ _ _ _
   | exact expand_Index.mono _ _ _ _ _ _ _
   | exact expand_Place.mono _ _ _ _ _ _
   | exact LeO.none _
   | refine LeO.ite ?_ ?_
   | refine LeO.bind ?_ (fun _ => ?_)
set_option maxHeartbeats 8000000 in
set_option maxRecDepth 100000 in
theorem ebbtidelaw15_awake.calls (k : Nat)  (r : Bool) (w : World) (h : ebbtidelaw15_awake.f k  = some r) (hrt : r = true := by first | rfl | exact HRT.out | assumption) :
  Calls Try.prog 14 #[] w fun e w' => e = .returned (.bool r) ∧ Below w.heap.size w w' := by
 have HRT := am_ hrt; clear hrt; have hu24 := Try.underlying24; have hu26 := Try.underlying26; have HB := am_ (Below.refl w.heap.size w); have H : ((ebbtidelaw14_Line.f true).bind fun bt248 => ((expand_Build.f k bt248.1 bt248.2.1 bt248.2.2 0 2 2).bind fun bt253 => ((ebbtidelaw14_Line.f true).bind fun bt260 => ((expand_Index.f k bt260.1 bt260.2.1 bt260.2.2 2 1 2).bind fun bt265 => ((ebbtidelaw14_Line.f true).bind fun bt267 => ((expand_Place.f k bt267.1 bt267.2.1 bt267.2.2 2 7).bind fun bt272 => (if bt253.2.2.2 = 0 then (if bt253.1 = 11 then (if (bt253.2.2.1.length : Int) = 12 then (if bt265.2 = 0 then (if bt265.1 = 7 then (if bt272.2.2 = 0 then (if (bt272.1 == 1 && (bt272.2.1 == 2)) = true then ((ebbtidelaw14_Line.f true).bind fun bt276 => ((expand_Fits.f k bt276.1 bt276.2.1 bt276.2.2 1000).bind fun t281 => (if t281 = true then ((ebbtidelaw14_Line.f true).bind fun bt282 => ((expand_Fits.f k bt282.1 bt282.2.1 bt282.2.2 (-1)).bind fun t287 => (some (!t287)))) else (some false)))) else (some false)) else (some false)) else (some false)) else (some false)) else (some false)) else (some false)) else (some false)))))))) = some r := h; clear h; replace H := Option.bind_eq_some_iff.mp H; obtain ⟨⟨t248, t249, t250⟩, A10, H⟩ := H; replace H : ((expand_Build.f k t248 t249 t250 0 2 2).bind fun bt253 => ((ebbtidelaw14_Line.f true).bind fun bt260 => ((expand_Index.f k bt260.1 bt260.2.1 bt260.2.2 2 1 2).bind fun bt265 => ((ebbtidelaw14_Line.f true).bind fun bt267 => ((expand_Place.f k bt267.1 bt267.2.1 bt267.2.2 2 7).bind fun bt272 => (if bt253.2.2.2 = 0 then (if bt253.1 = 11 then (if (bt253.2.2.1.length : Int) = 12 then (if bt265.2 = 0 then (if bt265.1 = 7 then (if bt272.2.2 = 0 then (if (bt272.1 == 1 && (bt272.2.1 == 2)) = true then ((ebbtidelaw14_Line.f true).bind fun bt276 => ((expand_Fits.f k bt276.1 bt276.2.1 bt276.2.2 1000).bind fun t281 => (if t281 = true then ((ebbtidelaw14_Line.f true).bind fun bt282 => ((expand_Fits.f k bt282.1 bt282.2.1 bt282.2.2 (-1)).bind fun t287 => (some (!t287)))) else (some false)))) else (some false)) else (some false)) else (some false)) else (some false)) else (some false)) else (some false)) else (some false))))))) = some r := H; have A1 := am_ A10; clear A10; replace H := Option.bind_eq_some_iff.mp H; obtain ⟨⟨t253, t254, t255, t258⟩, A20, H⟩ := H; replace H : ((ebbtidelaw14_Line.f true).bind fun bt260 => ((expand_Index.f k bt260.1 bt260.2.1 bt260.2.2 2 1 2).bind fun bt265 => ((ebbtidelaw14_Line.f true).bind fun bt267 => ((expand_Place.f k bt267.1 bt267.2.1 bt267.2.2 2 7).bind fun bt272 => (if t258 = 0 then (if t253 = 11 then (if (t255.length : Int) = 12 then (if bt265.2 = 0 then (if bt265.1 = 7 then (if bt272.2.2 = 0 then (if (bt272.1 == 1 && (bt272.2.1 == 2)) = true then ((ebbtidelaw14_Line.f true).bind fun bt276 => ((expand_Fits.f k bt276.1 bt276.2.1 bt276.2.2 1000).bind fun t281 => (if t281 = true then ((ebbtidelaw14_Line.f true).bind fun bt282 => ((expand_Fits.f k bt282.1 bt282.2.1 bt282.2.2 (-1)).bind fun t287 => (some (!t287)))) else (some false)))) else (some false)) else (some false)) else (some false)) else (some false)) else (some false)) else (some false)) else (some false)))))) = some r := H; have A2 := am_ A20; clear A20; replace H := Option.bind_eq_some_iff.mp H; obtain ⟨⟨t260, t261, t262⟩, A30, H⟩ := H; replace H : ((expand_Index.f k t260 t261 t262 2 1 2).bind fun bt265 => ((ebbtidelaw14_Line.f true).bind fun bt267 => ((expand_Place.f k bt267.1 bt267.2.1 bt267.2.2 2 7).bind fun bt272 => (if t258 = 0 then (if t253 = 11 then (if (t255.length : Int) = 12 then (if bt265.2 = 0 then (if bt265.1 = 7 then (if bt272.2.2 = 0 then (if (bt272.1 == 1 && (bt272.2.1 == 2)) = true then ((ebbtidelaw14_Line.f true).bind fun bt276 => ((expand_Fits.f k bt276.1 bt276.2.1 bt276.2.2 1000).bind fun t281 => (if t281 = true then ((ebbtidelaw14_Line.f true).bind fun bt282 => ((expand_Fits.f k bt282.1 bt282.2.1 bt282.2.2 (-1)).bind fun t287 => (some (!t287)))) else (some false)))) else (some false)) else (some false)) else (some false)) else (some false)) else (some false)) else (some false)) else (some false))))) = some r := H; have A3 := am_ A30; clear A30; replace H := Option.bind_eq_some_iff.mp H; obtain ⟨⟨t265, t266⟩, A40, H⟩ := H; replace H : ((ebbtidelaw14_Line.f true).bind fun bt267 => ((expand_Place.f k bt267.1 bt267.2.1 bt267.2.2 2 7).bind fun bt272 => (if t258 = 0 then (if t253 = 11 then (if (t255.length : Int) = 12 then (if t266 = 0 then (if t265 = 7 then (if bt272.2.2 = 0 then (if (bt272.1 == 1 && (bt272.2.1 == 2)) = true then ((ebbtidelaw14_Line.f true).bind fun bt276 => ((expand_Fits.f k bt276.1 bt276.2.1 bt276.2.2 1000).bind fun t281 => (if t281 = true then ((ebbtidelaw14_Line.f true).bind fun bt282 => ((expand_Fits.f k bt282.1 bt282.2.1 bt282.2.2 (-1)).bind fun t287 => (some (!t287)))) else (some false)))) else (some false)) else (some false)) else (some false)) else (some false)) else (some false)) else (some false)) else (some false)))) = some r := H; have A4 := am_ A40; clear A40; replace H := Option.bind_eq_some_iff.mp H; obtain ⟨⟨t267, t268, t269⟩, A50, H⟩ := H; replace H : ((expand_Place.f k t267 t268 t269 2 7).bind fun bt272 => (if t258 = 0 then (if t253 = 11 then (if (t255.length : Int) = 12 then (if t266 = 0 then (if t265 = 7 then (if bt272.2.2 = 0 then (if (bt272.1 == 1 && (bt272.2.1 == 2)) = true then ((ebbtidelaw14_Line.f true).bind fun bt276 => ((expand_Fits.f k bt276.1 bt276.2.1 bt276.2.2 1000).bind fun t281 => (if t281 = true then ((ebbtidelaw14_Line.f true).bind fun bt282 => ((expand_Fits.f k bt282.1 bt282.2.1 bt282.2.2 (-1)).bind fun t287 => (some (!t287)))) else (some false)))) else (some false)) else (some false)) else (some false)) else (some false)) else (some false)) else (some false)) else (some false))) = some r := H; have A5 := am_ A50; clear A50; replace H := Option.bind_eq_some_iff.mp H; obtain ⟨⟨t272, t273, t274⟩, A60, H⟩ := H; replace H : (if t258 = 0 then (if t253 = 11 then (if (t255.length : Int) = 12 then (if t266 = 0 then (if t265 = 7 then (if t274 = 0 then (if (t272 == 1 && (t273 == 2)) = true then ((ebbtidelaw14_Line.f true).bind fun bt276 => ((expand_Fits.f k bt276.1 bt276.2.1 bt276.2.2 1000).bind fun t281 => (if t281 = true then ((ebbtidelaw14_Line.f true).bind fun bt282 => ((expand_Fits.f k bt282.1 bt282.2.1 bt282.2.2 (-1)).bind fun t287 => (some (!t287)))) else (some false)))) else (some false)) else (some false)) else (some false)) else (some false)) else (some false)) else (some false)) else (some false)) = some r := H; have A6 := am_ A60; clear A60
 by_cases c7 : t258 = 0
 ·rw [if_pos c7] at H
  obtain ⟨c7b0, c7b1⟩ := eqb_ c7; clear c7
  by_cases c8 : t253 = 11
  ·rw [if_pos c8] at H
   obtain ⟨c8b0, c8b1⟩ := eqb_ c8; clear c8
   by_cases c9 : (t255.length : Int) = 12
   ·rw [if_pos c9] at H
    obtain ⟨c9b0, c9b1⟩ := eqb_ c9; clear c9
    by_cases c10 : t266 = 0
    ·rw [if_pos c10] at H
     obtain ⟨c10b0, c10b1⟩ := eqb_ c10; clear c10
     by_cases c11 : t265 = 7
     ·rw [if_pos c11] at H
      obtain ⟨c11b0, c11b1⟩ := eqb_ c11; clear c11
      by_cases c12 : t274 = 0
      ·rw [if_pos c12] at H
       obtain ⟨c12b0, c12b1⟩ := eqb_ c12; clear c12
       by_cases c13 : (t272 == 1 && (t273 == 2)) = true
       ·rw [if_pos c13] at H
        have c13b0 : (t272 == 1 && (t273 == 2)) = true := c13
        (try (have c13b1 : decide (t272 = 1 && (t273 == 2)) = true := by simpa using c13))
        (try (have c13b2 : (t272 == 1 && (t273 == 2)) = true := by simpa using c13))
        (try (have c13b3 : (!(t272 == 1 && (t273 == 2))) = false := by simpa using c13))
        clear c13; replace H := Option.bind_eq_some_iff.mp H; obtain ⟨⟨t276, t277, t278⟩, A140, H⟩ := H; replace H : ((expand_Fits.f k t276 t277 t278 1000).bind fun t281 => (if t281 = true then ((ebbtidelaw14_Line.f true).bind fun bt282 => ((expand_Fits.f k bt282.1 bt282.2.1 bt282.2.2 (-1)).bind fun t287 => (some (!t287)))) else (some false))) = some r := H; have A14 := am_ A140; clear A140; replace H := Option.bind_eq_some_iff.mp H; obtain ⟨t281, A150, H⟩ := H; replace H : (if t281 = true then ((ebbtidelaw14_Line.f true).bind fun bt282 => ((expand_Fits.f k bt282.1 bt282.2.1 bt282.2.2 (-1)).bind fun t287 => (some (!t287)))) else (some false)) = some r := H; have A15 := am_ A150; clear A150
        by_cases c16 : t281 = true
        ·subst c16
         have H1 : ((ebbtidelaw14_Line.f true).bind fun bt282 => ((expand_Fits.f k bt282.1 bt282.2.1 bt282.2.2 (-1)).bind fun t287 => (some (!t287)))) = some r := by rw [if_pos rfl] at H; exact H
         clear H; have H := H1; clear H1; replace H := Option.bind_eq_some_iff.mp H; obtain ⟨⟨t282, t283, t284⟩, A170, H⟩ := H; replace H : ((expand_Fits.f k t282 t283 t284 (-1)).bind fun t287 => (some (!t287))) = some r := H; have A17 := am_ A170; clear A170; replace H := Option.bind_eq_some_iff.mp H; obtain ⟨t287, A180, H⟩ := H; replace H : (some (!t287)) = some r := H; have A18 := am_ A180; clear A180; obtain rfl := Option.some.inj H
         go_enter Try.func14, Try.ntmps14
         go_wp2_with (first | ((with_reducible refine gate_callee (f := 33) rfl ?_); refine cl_ 8 Try.func33 (ebbtidelaw14_Line.calls true t248 t249 t250 _ A1.out) ?_; rintro e w19 ⟨v251, rfl, ho0, hb⟩; refine ⟨_, rfl, ?_⟩; have HO252 := am_ (Kd.R_lower ho0 (below_size hb_)); replace HB := hst_ hb; (try clear hb); (try clear hb2); (try clear hk); (try clear hi); (try clear ho0); obtain ⟨Ao20, co20, eo20⟩ := Kd.R_slice HO252.out; subst eo20) | ((with_reducible refine gate_callee (f := 17) rfl ?_); refine goesL_ (some 9) rfl rfl Try.func17 (by kernel_rfl) rfl #[.agg #[.int .i64 t248, .bool t249, .slice Ao20 t250.length co20], .int .i64 0, .int .i64 2, .int .i64 2] rfl mt_ ?_; (with_reducible refine (expand_Build.calls k t248 t249 _ _ t250 0 2 2 t253 t254 t255 t258 _ ?side1 ?side2 A2.out).mono ?_); (case side1 => repeat (first | exact (Kd.R_reads' HO252.out).2.2 | (with_reducible refine Kd.C_alloc ?_ _) | (with_reducible refine Kd.C_drewN ?_ _) | (with_reducible refine Kd.C_drew ?_))); (case side2 => exact (Kd.R_reads' HO252.out).2.1); rintro e w21 ⟨v256, rfl, ho0, hb⟩; refine ⟨_, rfl, ?_⟩; have HO257 := am_ (Kd.R_lower (Kd.R_new' ho0 (Kd.R_lt (rq_ HO252.out))) (below_size hb_)); replace HO252 := am_ (Kd.R_elder' (rq_ HO252.out) (Kd.R_base ho0) hb); replace HB := hst_ hb; (try clear hb); (try clear hb2); (try clear hk); (try clear hi); (try clear ho0)) | ((with_reducible refine gate_dst (N := 1) rfl ?_); (try (refine gate_guard (by rfl) ?_; dsimp only)); refine bx_ 1 #[.int .i64 0, .bool false, .slice none 0 0] 24 ?_; intro gb259 hg w22 BK259 hb; replace HO252 := am_ (Kd.R_below (rq_ HO252.out) hb); replace HO257 := am_ (Kd.R_below (rq_ HO257.out) hb); have GE259 := ge_ (w := w) hg; replace HB := hst_ hb; clear hb hg; obtain ⟨hcz23_0, hcz23_1, hcz23_2, hfz23_0, hfz23_1, hfz23_2⟩ := cf3_ BK259.out; obtain ⟨Ao24, co24, eo24⟩ := Kd.R_slice HO257.out; subst eo24) | ((with_reducible refine gate_callee (f := 33) rfl ?_); refine cl_ 13 Try.func33 (ebbtidelaw14_Line.calls true t260 t261 t262 _ A3.out) ?_; rintro e w25 ⟨v263, rfl, ho0, hb⟩; refine ⟨_, rfl, ?_⟩; have HO264 := am_ (Kd.R_lower (Kd.R_new' (Kd.R_new' ho0 (Kd.R_lt q31_)) (Kd.R_lt q32_)) (below_size hb_)); replace HO252 := am_ (Kd.R_elder' q31_ (Kd.R_base ho0) hb); replace HO257 := am_ (Kd.R_elder' q32_ (Kd.R_base ho0) hb); replace BK259 := am_ (blk_below (g := gb259) (o := .cells #[.int .i64 t253, .bool t254, .slice Ao24 t255.length co24] 24 (0, 0)) (by refine bq_ ?_; refine blk_put (cs := #[.int .i64 t253, .bool t254, .slice none 0 0]) ?_ 2 _ rfl; refine bq_ ?_; refine blk_put (cs := #[.int .i64 t253, .bool false, .slice none 0 0]) ?_ 1 _ rfl; refine bq_ ?_; refine blk_put (cs := #[.int .i64 0, .bool false, .slice none 0 0]) ?_ 0 _ rfl; refine bq_ ?_; exact BK259.out) hb); replace HB := hst_ hb; (try clear hb); (try clear hb2); (try clear hk); (try clear hi); (try clear ho0); obtain ⟨Ao26, co26, eo26⟩ := Kd.R_slice HO264.out; subst eo26) | ((with_reducible refine gate_callee (f := 10) rfl ?_); refine goesL_ (some 15) rfl rfl Try.func10 (by kernel_rfl) rfl #[.agg #[.int .i64 t260, .bool t261, .slice Ao26 t262.length co26], .int .i64 2, .agg #[.int .i64 1, .int .i64 2]] rfl mt_ ?_; (with_reducible refine (expand_Index.calls k t260 t261 _ _ t262 2 1 2 t265 t266 _ ?side1 ?side2 A4.out).mono ?_); (case side1 => repeat (first | exact (Kd.R_reads' HO264.out).2.2 | (with_reducible refine Kd.C_alloc ?_ _) | (with_reducible refine Kd.C_drewN ?_ _) | (with_reducible refine Kd.C_drew ?_))); (case side2 => exact (Kd.R_reads' HO264.out).2.1); rintro e w27 ⟨rfl, hb⟩; refine ⟨_, rfl, ?_⟩; replace HO252 := am_ (Kd.R_below (rq_ HO252.out) hb); replace HO257 := am_ (Kd.R_below (rq_ HO257.out) hb); replace HO264 := am_ (Kd.R_below (rq_ HO264.out) hb); replace BK259 := am_ (bb_ BK259.out hb); replace HB := hst_ hb; (try clear hb); (try clear hb2); (try clear hk); (try clear hi)) | ((with_reducible refine gate_callee (f := 33) rfl ?_); refine cl_ 19 Try.func33 (ebbtidelaw14_Line.calls true t267 t268 t269 _ A5.out) ?_; rintro e w28 ⟨v270, rfl, ho0, hb⟩; refine ⟨_, rfl, ?_⟩; have HO271 := am_ (Kd.R_lower (Kd.R_new' (Kd.R_new' (Kd.R_new' ho0 (Kd.R_lt (rq_ HO252.out))) (Kd.R_lt (rq_ HO257.out))) (Kd.R_lt (rq_ HO264.out))) (below_size hb_)); replace HO252 := am_ (Kd.R_elder' (rq_ HO252.out) (Kd.R_base ho0) hb); replace HO257 := am_ (Kd.R_elder' (rq_ HO257.out) (Kd.R_base ho0) hb); replace HO264 := am_ (Kd.R_elder' (rq_ HO264.out) (Kd.R_base ho0) hb); replace BK259 := am_ (bb_ BK259.out hb); replace HB := hst_ hb; (try clear hb); (try clear hb2); (try clear hk); (try clear hi); (try clear ho0); obtain ⟨Ao29, co29, eo29⟩ := Kd.R_slice HO271.out; subst eo29) | ((with_reducible refine gate_callee (f := 12) rfl ?_); refine goesL_ (some 20) rfl rfl Try.func12 (by kernel_rfl) rfl #[.agg #[.int .i64 t267, .bool t268, .slice Ao29 t269.length co29], .int .i64 2, .int .i64 7] rfl mt_ ?_; (with_reducible refine (expand_Place.calls k t267 t268 _ _ t269 2 7 t272 t273 t274 _ ?side1 ?side2 A6.out).mono ?_); (case side1 => repeat (first | exact (Kd.R_reads' HO271.out).2.2 | (with_reducible refine Kd.C_alloc ?_ _) | (with_reducible refine Kd.C_drewN ?_ _) | (with_reducible refine Kd.C_drew ?_))); (case side2 => exact (Kd.R_reads' HO271.out).2.1); rintro e w30 ⟨rfl, hb⟩; refine ⟨_, rfl, ?_⟩; replace HO252 := am_ (Kd.R_below (rq_ HO252.out) hb); replace HO257 := am_ (Kd.R_below (rq_ HO257.out) hb); replace HO264 := am_ (Kd.R_below (rq_ HO264.out) hb); replace HO271 := am_ (Kd.R_below (rq_ HO271.out) hb); replace BK259 := am_ (bb_ BK259.out hb); replace HB := hst_ hb; (try clear hb); (try clear hb2); (try clear hk); (try clear hi)) | ((with_reducible refine gate_dst (N := 5) rfl ?_); (try (refine gate_guard (by rfl) ?_; dsimp only)); refine bx_ 5 #[.int .i64 0, .int .i64 0] 26 ?_; intro gb275 hg w31 BK275 hb; replace HO252 := am_ (Kd.R_below (rq_ HO252.out) hb); replace HO257 := am_ (Kd.R_below (rq_ HO257.out) hb); replace HO264 := am_ (Kd.R_below (rq_ HO264.out) hb); replace HO271 := am_ (Kd.R_below (rq_ HO271.out) hb); have GE275 := ge_ (w := w) hg; replace HB := hst_ hb; have NB259_275 := am_ (nl_ BK259.out hg); have NB275_259 := am_ (ng_ BK259.out hg); replace BK259 := am_ (bb_ BK259.out hb); clear hb hg; have hnb32 := NB275_259.out; have hnc32 := NB259_275.out; obtain ⟨hcz33_0, hcz33_1, hfz33_0, hfz33_1⟩ := cf2_ BK275.out; obtain ⟨hcz34_0, hcz34_1, hcz34_2, hfz34_0, hfz34_1, hfz34_2⟩ := cf3_ BK259.out) | (go_at_call 33; (with_reducible refine (ebbtidelaw14_Line.calls true t276 t277 t278 _ A14.out).mono ?_); rintro e w35 ⟨v279, rfl, ho0, hb⟩; have HO280 := am_ (Kd.R_lower (Kd.R_new' (Kd.R_new' (Kd.R_new' (Kd.R_new' ho0 (Kd.R_lt (by refine rq_ ?_; exact (Kd.R_mono (rf2_ (Kd.R_types HO252.out BK275.out (by decide))) (fun _ h_ => h_.1))))) (Kd.R_lt (by refine rq_ ?_; exact (Kd.R_mono (rf2_ (Kd.R_types HO257.out BK275.out (by decide))) (fun _ h_ => h_.1))))) (Kd.R_lt (by refine rq_ ?_; exact (Kd.R_mono (rf2_ (Kd.R_types HO264.out BK275.out (by decide))) (fun _ h_ => h_.1))))) (Kd.R_lt (by refine rq_ ?_; exact (Kd.R_mono (rf2_ (Kd.R_types HO271.out BK275.out (by decide))) (fun _ h_ => h_.1))))) (below_size hb_)); replace HO252 := am_ (Kd.R_elder' (by refine rq_ ?_; exact (Kd.R_mono (rf2_ (Kd.R_types HO252.out BK275.out (by decide))) (fun _ h_ => h_.1))) (Kd.R_base ho0) hb); replace HO257 := am_ (Kd.R_elder' (by refine rq_ ?_; exact (Kd.R_mono (rf2_ (Kd.R_types HO257.out BK275.out (by decide))) (fun _ h_ => h_.1))) (Kd.R_base ho0) hb); replace HO264 := am_ (Kd.R_elder' (by refine rq_ ?_; exact (Kd.R_mono (rf2_ (Kd.R_types HO264.out BK275.out (by decide))) (fun _ h_ => h_.1))) (Kd.R_base ho0) hb); replace HO271 := am_ (Kd.R_elder' (by refine rq_ ?_; exact (Kd.R_mono (rf2_ (Kd.R_types HO271.out BK275.out (by decide))) (fun _ h_ => h_.1))) (Kd.R_base ho0) hb); replace BK259 := am_ (blk_below (g := gb259) (o := .cells #[.int .i64 t253, .bool t254, .slice Ao24 t255.length co24] 24 (0, 0)) (by refine bq_ ?_; refine blk_far ?_ NB259_275.out _; refine bq_ ?_; refine blk_far ?_ NB259_275.out _; refine bq_ ?_; exact BK259.out) hb); replace BK275 := am_ (blk_below (g := gb275) (o := .cells #[.int .i64 t272, .int .i64 t273] 26 (0, 0)) (by refine bq_ ?_; refine blk_put (cs := #[.int .i64 t272, .int .i64 0]) ?_ 1 _ rfl; refine bq_ ?_; refine blk_put (cs := #[.int .i64 0, .int .i64 0]) ?_ 0 _ rfl; refine bq_ ?_; exact BK275.out) hb); replace HB := hst_ hb; (try clear hb); (try clear hb2); (try clear hk); (try clear hi); (try clear ho0); obtain ⟨Ao36, co36, eo36⟩ := Kd.R_slice HO280.out; subst eo36) | (go_at_call 15; (with_reducible refine (expand_Fits.calls k t276 t277 _ _ t278 1000 true _ ?side1 ?side2 A15.out).mono ?_); (case side1 => repeat (first | exact (Kd.R_reads' HO280.out).2.2 | (with_reducible refine Kd.C_alloc ?_ _) | (with_reducible refine Kd.C_drewN ?_ _) | (with_reducible refine Kd.C_drew ?_))); (case side2 => exact (Kd.R_reads' HO280.out).2.1); rintro e w37 ⟨rfl, hb⟩; replace HO252 := am_ (Kd.R_below (rq_ HO252.out) hb); replace HO257 := am_ (Kd.R_below (rq_ HO257.out) hb); replace HO264 := am_ (Kd.R_below (rq_ HO264.out) hb); replace HO271 := am_ (Kd.R_below (rq_ HO271.out) hb); replace HO280 := am_ (Kd.R_below (rq_ HO280.out) hb); replace BK259 := am_ (bb_ BK259.out hb); replace BK275 := am_ (bb_ BK275.out hb); replace HB := hst_ hb; (try clear hb); (try clear hb2); (try clear hk); (try clear hi)) | (go_at_call 33; (with_reducible refine (ebbtidelaw14_Line.calls true t282 t283 t284 _ A17.out).mono ?_); rintro e w38 ⟨v285, rfl, ho0, hb⟩; have HO286 := am_ (Kd.R_lower (Kd.R_new' (Kd.R_new' (Kd.R_new' (Kd.R_new' (Kd.R_new' ho0 (Kd.R_lt (rq_ HO252.out))) (Kd.R_lt (rq_ HO257.out))) (Kd.R_lt (rq_ HO264.out))) (Kd.R_lt (rq_ HO271.out))) (Kd.R_lt (rq_ HO280.out))) (below_size hb_)); replace HO252 := am_ (Kd.R_elder' (rq_ HO252.out) (Kd.R_base ho0) hb); replace HO257 := am_ (Kd.R_elder' (rq_ HO257.out) (Kd.R_base ho0) hb); replace HO264 := am_ (Kd.R_elder' (rq_ HO264.out) (Kd.R_base ho0) hb); replace HO271 := am_ (Kd.R_elder' (rq_ HO271.out) (Kd.R_base ho0) hb); replace HO280 := am_ (Kd.R_elder' (rq_ HO280.out) (Kd.R_base ho0) hb); replace BK259 := am_ (bb_ BK259.out hb); replace BK275 := am_ (bb_ BK275.out hb); replace HB := hst_ hb; (try clear hb); (try clear hb2); (try clear hk); (try clear hi); (try clear ho0); obtain ⟨Ao39, co39, eo39⟩ := Kd.R_slice HO286.out; subst eo39) | (go_at_call 15; (with_reducible refine (expand_Fits.calls k t282 t283 _ _ t284 (-1) t287 _ ?side1 ?side2 A18.out).mono ?_); (case side1 => repeat (first | exact (Kd.R_reads' HO286.out).2.2 | (with_reducible refine Kd.C_alloc ?_ _) | (with_reducible refine Kd.C_drewN ?_ _) | (with_reducible refine Kd.C_drew ?_))); (case side2 => exact (Kd.R_reads' HO286.out).2.1); rintro e w40 ⟨rfl, hb⟩; replace HO252 := am_ (Kd.R_below (rq_ HO252.out) hb); replace HO257 := am_ (Kd.R_below (rq_ HO257.out) hb); replace HO264 := am_ (Kd.R_below (rq_ HO264.out) hb); replace HO271 := am_ (Kd.R_below (rq_ HO271.out) hb); replace HO280 := am_ (Kd.R_below (rq_ HO280.out) hb); replace HO286 := am_ (Kd.R_below (rq_ HO286.out) hb); replace BK259 := am_ (bb_ BK259.out hb); replace BK275 := am_ (bb_ BK275.out hb); replace HB := hst_ hb; (try clear hb); (try clear hb2); (try clear hk); (try clear hi)))
         go_ret
         exact ⟨er_, hb_⟩
        ·replace c16 := Bool.eq_false_iff.mpr c16
         subst c16
         have H1 : (some false) = some r := by rw [if_neg (show ¬ (false = true) by decide)] at H; exact H
         clear H; have H := H1; clear H1; exact absurd ((Option.some.inj H).trans HRT.out) (by decide)
       ·rw [if_neg c13] at H
        have c13b0 : (t272 == 1 && (t273 == 2)) = false := by simpa using c13
        (try (have c13b1 : decide (t272 = 1 && (t273 == 2)) = false := by simpa using c13))
        (try (have c13b2 : (t272 == 1 && (t273 == 2)) = false := by simpa using c13))
        (try (have c13b3 : ¬ (t272 = 1 && (t273 == 2)) := by simpa using c13))
        (try (have c13b4 : (!(t272 == 1 && (t273 == 2))) = true := by simpa using c13))
        clear c13; exact absurd ((Option.some.inj H).trans HRT.out) (by decide)
      ·rw [if_neg c12] at H
       obtain ⟨c12b0, c12b1⟩ := neb_ c12; exact absurd ((Option.some.inj H).trans HRT.out) (by decide)
     ·rw [if_neg c11] at H
      obtain ⟨c11b0, c11b1⟩ := neb_ c11; exact absurd ((Option.some.inj H).trans HRT.out) (by decide)
    ·rw [if_neg c10] at H
     obtain ⟨c10b0, c10b1⟩ := neb_ c10; exact absurd ((Option.some.inj H).trans HRT.out) (by decide)
   ·rw [if_neg c9] at H
    obtain ⟨c9b0, c9b1⟩ := neb_ c9; exact absurd ((Option.some.inj H).trans HRT.out) (by decide)
  ·rw [if_neg c8] at H
   obtain ⟨c8b0, c8b1⟩ := neb_ c8; exact absurd ((Option.some.inj H).trans HRT.out) (by decide)
 ·rw [if_neg c7] at H
  obtain ⟨c7b0, c7b1⟩ := neb_ c7; exact absurd ((Option.some.inj H).trans HRT.out) (by decide)
end Go.Proofs.Ytfhkkbpkajfdlaa.Q
end
section
namespace Go.Proofs.Ytfhkkbpkajfdlaa.P
open Go.RowKit Go.Proofs.Ytfhkkbpkajfdlaa.Q Go.Proofs.YtfhkkbpkajfdlaaW.PrintWords Go.Proofs.YtfhkkbpkajfdlaaW.PrintLast Go.Proofs.YtfhkkbpkajfdlaaW.PrintMore
theorem ev_cst {α : Type} {g : Nat → Option α} {r : α} (h : ∀ k, g (k + 1) = some r) : Ev g r := Ev.step h (Ev.now r)
theorem wrap1 {i : Nat} (h : i ≤ 4611686018427387904) : wrap64 ((i : Int) + 1) = ((i + 1 : Nat) : Int) := by unfold wrap64; omega
theorem rdA_of {l : List S54} {i : Nat} (h : i < l.length) : rd_T54 l (i : Int) = l[i] := by unfold rd_T54; simp [List.getD_eq_getElem?_getD, List.getElem?_eq_getElem h]
def arcErr (n : Int) (a : S54) : Int := if a.f0 < 0 ∨ a.f1 < 0 ∨ a.f2 < 0 ∨ a.f3 < 0 ∨ n ≤ a.f0 ∨ n ≤ a.f1 then 51 else if 1048576 < a.f2 ∨ 1048576 < a.f3 then 2 else 0
def firstErr (n : Int) : List S54 → Int
 | [] => 0
 | a :: r => if arcErr n a = 0 then firstErr n r else arcErr n a
def checkErr (n : Int) (l : List S54) : Int := if n < 1 then 51 else if 50 < n then 2 else if 200 < l.length then 2 else firstErr n l
def endsErr (n : Int) (l : List S54) (s t : Int) : Int := if checkErr n l = 0 then (if s < 0 ∨ t < 0 ∨ n ≤ s ∨ n ≤ t ∨ s = t then 70 else 0) else checkErr n l
def spanErr (h : Int) : Int := if h < 0 then 1 else if 1024 < h then 2 else 0
def askErr (n : Int) (l : List S54) (s t h : Int) : Int := if endsErr n l s t = 0 then spanErr h else endsErr n l s t
structure ArcOk (n : Int) (a : S54) : Prop where
 f0 : 0 ≤ a.f0 ∧ a.f0 < n
 f1 : 0 ≤ a.f1 ∧ a.f1 < n
 f2 : 0 ≤ a.f2 ∧ a.f2 ≤ 1048576
 f3 : 0 ≤ a.f3 ∧ a.f3 ≤ 1048576
theorem arcErr_ok {n : Int} {a : S54} : arcErr n a = 0 ↔ ArcOk n a := by
 unfold arcErr
 constructor
 ·intro h
  split at h
  ·cases h
  ·split at h
   ·cases h
   ·exact ⟨by omega, by omega, by omega, by omega⟩
 ·rintro ⟨h0, h1, h2, h3⟩
  rw [if_neg (by omega), if_neg (by omega)]
theorem firstErr_ok {n : Int} {l : List S54} : firstErr n l = 0 ↔ ∀ a ∈ l, ArcOk n a := by
 induction l with
 | nil => simp [firstErr]
 | cons a l ih =>
  rw [firstErr]
  by_cases h : arcErr n a = 0
  ·rw [if_pos h, ih]
   constructor
   ·intro h2 x hx
    rcases List.mem_cons.1 hx with rfl | hx
    ·exact arcErr_ok.1 h
    ·exact h2 x hx
   ·intro h2 x hx; exact h2 x (List.mem_cons_of_mem _ hx)
  ·rw [if_neg h]
   constructor
   ·intro h2; exact absurd h2 h
   ·intro h2; exact absurd (arcErr_ok.2 (h2 a List.mem_cons_self)) h
structure NetOk (n : Int) (l : List S54) : Prop where
 lo : 1 ≤ n
 hi : n ≤ 50
 len : l.length ≤ 200
 arcs : ∀ a ∈ l, ArcOk n a
theorem checkErr_ok {n : Int} {l : List S54} : checkErr n l = 0 ↔ NetOk n l := by
 unfold checkErr
 constructor
 ·intro h
  split at h
  ·cases h
  ·split at h
   ·cases h
   ·split at h
    ·cases h
    ·exact ⟨by omega, by omega, by omega, firstErr_ok.1 h⟩
 ·rintro ⟨h0, h1, h2, h3⟩
  rw [if_neg (by omega), if_neg (by omega), if_neg (by omega)]
  exact firstErr_ok.2 h3
theorem askErr_ok {n : Int} {l : List S54} {s t h : Int} : askErr n l s t h = 0 ↔ NetOk n l ∧ 0 ≤ s ∧ s < n ∧ 0 ≤ t ∧ t < n ∧ s ≠ t ∧ 0 ≤ h ∧ h ≤ 1024 := by
 unfold askErr endsErr spanErr
 by_cases hc : checkErr n l = 0
 ·rw [if_pos hc]
  have hn := checkErr_ok.1 hc
  by_cases hs : s < 0 ∨ t < 0 ∨ n ≤ s ∨ n ≤ t ∨ s = t
  ·rw [if_pos hs, if_neg (by decide)]
   constructor
   ·intro h; cases h
   ·rintro ⟨_, h⟩; omega
  ·rw [if_neg hs, if_pos rfl]
   constructor
   ·intro h2
    refine ⟨hn, by omega, by omega, by omega, by omega, by omega, ?_, ?_⟩
    ·by_cases c : h < 0
     ·rw [if_pos c] at h2; cases h2
     ·omega
    ·by_cases c : h < 0
     ·rw [if_pos c] at h2; cases h2
     ·rw [if_neg c] at h2
      by_cases c2 : 1024 < h
      ·rw [if_pos c2] at h2; cases h2
      ·omega
   ·rintro ⟨_, _, _, _, _, _, h5, h6⟩
    rw [if_neg (by omega), if_neg (by omega)]
 ·rw [if_neg hc, if_neg hc]
  constructor
  ·intro h; exact absurd h hc
  ·rintro ⟨h, _⟩; exact absurd (checkErr_ok.2 h) hc
theorem arc_ev (n : Int) (a : S54) : Ev (fun k => netfmt_arc.f k n a.f0 a.f1 a.f2 a.f3) (arcErr n a) := by
 refine ev_cst fun k => ?_
 unfold netfmt_arc.f arcErr
 by_cases c : mn (mn (mn a.f0 a.f1) a.f2) a.f3 < 0
 ·rw [if_pos c, netfmt_arc.j0, if_pos rfl, if_pos (by unfold mn at c; (repeat' split at c) <;> omega)]
 ·rw [if_neg c, netfmt_arc.j0]
  have hc : 0 ≤ a.f0 ∧ 0 ≤ a.f1 ∧ 0 ≤ a.f2 ∧ 0 ≤ a.f3 := by unfold mn at c; (repeat' split at c) <;> omega
  by_cases c2 : mx a.f0 a.f1 ≥ n
  ·rw [decide_eq_true c2, if_pos rfl, if_pos (by unfold mx at c2; split at c2 <;> omega)]
  ·rw [decide_eq_false c2, if_neg (by decide)]
   have hc2 : a.f0 < n ∧ a.f1 < n := by unfold mx at c2; split at c2 <;> omega
   rw [if_neg (show ¬ (a.f0 < 0 ∨ a.f1 < 0 ∨ a.f2 < 0 ∨ a.f3 < 0 ∨ n ≤ a.f0 ∨ n ≤ a.f1) by omega)]
   by_cases c3 : a.f2 > 1048576
   ·rw [if_pos c3, if_pos (by omega)]
   ·rw [if_neg c3]
    by_cases c4 : a.f3 > 1048576
    ·rw [if_pos c4, if_pos (by omega)]
    ·rw [if_neg c4, if_neg (by omega)]
theorem rarc_ev (n : Int) (a : S54) : Ev (fun k => ebbtideref05_Arc.f k n a.f0 a.f1 a.f2 a.f3) (arcErr n a) := by
 refine ev_cst fun k => ?_
 unfold ebbtideref05_Arc.f arcErr
 simp only [ebbtideref05_Arc.j0]
 by_cases c0 : a.f0 < 0
 ·rw [if_pos c0, if_pos trivial, if_pos (by omega)]
 ·rw [if_neg c0]
  by_cases c1 : a.f0 ≥ n
  ·rw [if_pos c1, if_pos trivial, if_pos (by omega)]
  ·rw [if_neg c1]
   by_cases c2 : a.f1 < 0
   ·rw [if_pos c2, if_pos trivial, if_pos (by omega)]
   ·rw [if_neg c2]
    by_cases c3 : a.f1 ≥ n
    ·rw [if_pos c3, if_pos trivial, if_pos (by omega)]
    ·rw [if_neg c3]
     by_cases c4 : a.f2 < 0
     ·rw [if_pos c4, if_pos trivial, if_pos (by omega)]
     ·rw [if_neg c4]
      by_cases c5 : a.f3 < 0
      ·rw [if_pos (decide_eq_true c5), if_pos (by omega)]
      ·rw [if_neg (by simpa using c5), if_neg (show ¬ (a.f0 < 0 ∨ a.f1 < 0 ∨ a.f2 < 0 ∨ a.f3 < 0 ∨ n ≤ a.f0 ∨ n ≤ a.f1) by omega)]
       by_cases c6 : a.f2 > 1048576
       ·rw [if_pos c6, if_pos (by omega)]
       ·rw [if_neg c6]
        by_cases c7 : a.f3 > 1048576
        ·rw [if_pos c7, if_pos (by omega)]
        ·rw [if_neg c7, if_neg (by omega)]
theorem check_loop (n : Int) (b : Bool) (l : List S54) (hl : l.length ≤ 200) (d : Nat) : ∀ i, i + d = l.length → Ev (fun k => netfmt_Check.l0 k l (l.length : Int) (i : Int) n b l) (firstErr n (l.drop i)) := by
 induction d with
 | zero =>
  intro i hi
  rw [List.drop_eq_nil_of_le (by omega)]
  exact ev_cst fun k => by rw [netfmt_Check.l0, if_neg (by omega)]; rfl
 | succ d ih =>
  intro i hi
  have hlt : i < l.length := by omega
  refine Ev.step (f := fun k => (netfmt_arc.f k n l[i].f0 l[i].f1 l[i].f2 l[i].f3).bind fun t173 => if t173 = 0 then netfmt_Check.l0 k l (l.length : Int) ((i + 1 : Nat) : Int) n b l else some t173) (fun k => ?_) ?_
  ·rw [netfmt_Check.l0, if_pos (by omega), if_pos (by omega), if_pos (by omega), rdA_of hlt, wrap1 (by omega)]
  ·refine Ev.bind (arc_ev n l[i]) ?_
   rw [List.drop_eq_getElem_cons hlt, firstErr]
   by_cases c : arcErr n l[i] = 0
   ·simp only [c, if_true]
    exact ih (i + 1) (by omega)
   ·simp only [c, if_false]
    exact Ev.now _
theorem rcheck_loop (n : Int) (b : Bool) (l : List S54) (hl : l.length ≤ 200) (d : Nat) : ∀ i, i + d = l.length → Ev (fun k => ebbtideref05_Check.l0 k (i : Int) n b l) (firstErr n (l.drop i)) := by
 induction d with
 | zero =>
  intro i hi
  rw [List.drop_eq_nil_of_le (by omega)]
  exact ev_cst fun k => by rw [ebbtideref05_Check.l0, if_neg (by omega)]; rfl
 | succ d ih =>
  intro i hi
  have hlt : i < l.length := by omega
  refine Ev.step (f := fun k => (ebbtideref05_Arc.f k n l[i].f0 l[i].f1 l[i].f2 l[i].f3).bind fun t184 => if t184 = 0 then ebbtideref05_Check.l0 k ((i + 1 : Nat) : Int) n b l else some t184) (fun k => ?_) ?_
  ·rw [ebbtideref05_Check.l0, if_pos (by omega), if_pos (by omega), rdA_of hlt, wrap1 (by omega)]
  ·refine Ev.bind (rarc_ev n l[i]) ?_
   rw [List.drop_eq_getElem_cons hlt, firstErr]
   by_cases c : arcErr n l[i] = 0
   ·simp only [c, if_true]
    exact ih (i + 1) (by omega)
   ·simp only [c, if_false]
    exact Ev.now _
theorem nodes_eq (n : Int) : netfmt_nodes.f n = some (if n < 1 then 51 else if 50 < n then 2 else 0) := by
 unfold netfmt_nodes.f
 by_cases c : n < 1
 ·rw [if_pos c, if_pos c]
 ·rw [if_neg c, if_neg c]
  by_cases c2 : n > 50
  ·rw [if_pos c2, if_pos c2]
  ·rw [if_neg c2, if_neg c2]
theorem rnodes_eq (n : Int) : ebbtideref05_nodes.f n = some (if n < 1 then 51 else if 50 < n then 2 else 0) := nodes_eq n
theorem check_ev (n : Int) (b : Bool) (l : List S54) : Ev (fun k => netfmt_Check.f k n b l) (checkErr n l) := by
 unfold netfmt_Check.f checkErr
 rw [nodes_eq]
 simp only [Option.bind_some]
 by_cases c : n < 1
 ·simp only [c, if_true, show ¬ (51 : Int) = 0 by decide, if_false]; exact Ev.now _
 ·by_cases c2 : 50 < n
  ·simp only [c, c2, if_true, if_false, show ¬ (2 : Int) = 0 by decide]; exact Ev.now _
  ·simp only [c, c2, if_true, if_false]
   by_cases c3 : 200 < l.length
   ·simp only [c3, if_true, show (l.length : Int) > 200 by omega]; exact Ev.now _
   ·simp only [c3, if_false, show ¬ (l.length : Int) > 200 by omega]
    exact check_loop n b l (by omega) l.length 0 (by omega)
theorem rcheck_ev (n : Int) (b : Bool) (l : List S54) : Ev (fun k => ebbtideref05_Check.f k n b l) (checkErr n l) := by
 unfold ebbtideref05_Check.f checkErr
 rw [rnodes_eq]
 simp only [Option.bind_some]
 by_cases c : n < 1
 ·simp only [c, if_true, show ¬ (51 : Int) = 0 by decide, if_false]; exact Ev.now _
 ·by_cases c2 : 50 < n
  ·simp only [c, c2, if_true, if_false, show ¬ (2 : Int) = 0 by decide]; exact Ev.now _
  ·simp only [c, c2, if_true, if_false]
   by_cases c3 : 200 < l.length
   ·simp only [c3, if_true, show (l.length : Int) > 200 by omega]; exact Ev.now _
   ·simp only [c3, if_false, show ¬ (l.length : Int) > 200 by omega]
    exact rcheck_loop n b l (by omega) l.length 0 (by omega)
theorem mn_neg {s t : Int} : mn s t < 0 ↔ s < 0 ∨ t < 0 := by unfold mn; split <;> omega
theorem mx_ge {s t n : Int} : mx s t ≥ n ↔ n ≤ s ∨ n ≤ t := by unfold mx; split <;> omega
theorem ends_ev (n : Int) (b : Bool) (l : List S54) (s t : Int) : Ev (fun k => static_Ends.f k n b l s t) (endsErr n l s t) := by
 unfold static_Ends.f endsErr
 refine Ev.bind (check_ev n b l) ?_
 by_cases c : checkErr n l = 0
 ·simp only [c, if_true]
  refine ev_cst fun _ => ?_
  by_cases c1 : mn s t < 0
  ·rw [if_pos c1, if_pos (by have := mn_neg.1 c1; omega)]
  ·rw [if_neg c1]
   have h1 : ¬ (s < 0 ∨ t < 0) := fun h => c1 (mn_neg.2 h)
   by_cases c2 : mx s t ≥ n
   ·rw [if_pos c2, if_pos (by have := mx_ge.1 c2; omega)]
   ·rw [if_neg c2]
    have h2 : ¬ (n ≤ s ∨ n ≤ t) := fun h => c2 (mx_ge.2 h)
    by_cases c3 : s = t
    ·rw [if_pos c3, if_pos (by omega)]
    ·rw [if_neg c3, if_neg (by omega)]
 ·simp only [c, if_false]
  exact Ev.now _
theorem rends_ev (n : Int) (b : Bool) (l : List S54) (s t : Int) : Ev (fun k => ebbtideref07_Ends.f k n b l s t) (endsErr n l s t) := by
 unfold ebbtideref07_Ends.f endsErr
 refine Ev.bind (rcheck_ev n b l) ?_
 by_cases c : checkErr n l = 0
 ·simp only [c, if_true]
  have hnode : ∀ v, ebbtideref06_Node.f n b l v = some (decide (0 ≤ v ∧ v < n)) := by
   intro v
   unfold ebbtideref06_Node.f
   by_cases c1 : v ≥ 0
   ·rw [if_pos c1]; congr 1; rw [decide_eq_decide]; omega
   ·rw [if_neg c1]; congr 1; symm; rw [decide_eq_false_iff_not]; omega
  refine ev_cst fun _ => ?_
  rw [hnode, hnode]
  simp only [Option.bind_some, decide_eq_true_eq]
  by_cases c1 : 0 ≤ s ∧ s < n
  ·rw [if_pos c1]
   by_cases c2 : 0 ≤ t ∧ t < n
   ·rw [if_pos c2]
    by_cases c3 : s = t
    ·rw [if_pos c3, if_pos (by omega)]
    ·rw [if_neg c3, if_neg (by omega)]
   ·rw [if_neg c2, if_pos (by omega)]
  ·rw [if_neg c1, if_pos (by omega)]
 ·simp only [c, if_false]
  exact Ev.now _
theorem horizon_eq (h : Int) : span_Horizon.f h = some (spanErr h) := by
 unfold span_Horizon.f spanErr
 by_cases c : h < 0
 ·rw [if_pos c, if_pos c]
 ·rw [if_neg c, if_neg c]
  by_cases c2 : h > 1024
  ·rw [if_pos c2, if_pos c2]
  ·rw [if_neg c2, if_neg c2]
theorem rspan_eq (h : Int) : ebbtideref12_Span.f h = some (spanErr h) := horizon_eq h
theorem asked_ev (n : Int) (b : Bool) (l : List S54) (s t h : Int) : Ev (fun k => span_Asked.f k n b l s t h) (askErr n l s t h) := by
 unfold span_Asked.f askErr
 refine Ev.bind (ends_ev n b l s t) ?_
 by_cases c : endsErr n l s t = 0
 ·simp only [c, if_true, horizon_eq, Option.bind_some]; exact Ev.now _
 ·simp only [c, if_false]; exact Ev.now _
theorem rasked_ev (n : Int) (b : Bool) (l : List S54) (s t h : Int) : Ev (fun k => ebbtideref12_Asked.f k n b l s t h) (askErr n l s t h) := by
 unfold ebbtideref12_Asked.f askErr
 refine Ev.bind (rends_ev n b l s t) ?_
 by_cases c : endsErr n l s t = 0
 ·simp only [c, if_true, rspan_eq, Option.bind_some]; exact Ev.now _
 ·simp only [c, if_false]; exact Ev.now _
theorem awake15_at : ebbtidelaw15_awake.f 60 = some true := by decide +kernel
theorem awake15_ev : Ev (fun k => ebbtidelaw15_awake.f k) true := Ev.of (fun k => ebbtidelaw15_awake.mono k) awake15_at
def fitsB (n : Int) (l : List S54) (h : Int) : Bool := if checkErr n l = 0 then (if spanErr h = 0 then (if (h + 1) * n ≤ 4000 then decide ((h + 1) * (l.length : Int) ≤ 10000) else false) else false) else false
theorem spanErr_ok {h : Int} : spanErr h = 0 ↔ 0 ≤ h ∧ h ≤ 1024 := by
 unfold spanErr
 by_cases c : h < 0
 ·rw [if_pos c]; constructor
  ·intro h; cases h
  ·omega
 ·rw [if_neg c]
  by_cases c2 : 1024 < h
  ·rw [if_pos c2]; constructor
   ·intro h; cases h
   ·omega
  ·rw [if_neg c2]; constructor
   ·omega
   ·intro _; rfl
theorem wraps {n h : Int} (h0 : 0 ≤ h) (h1 : h ≤ 1024) (n0 : 0 ≤ n) (n1 : n ≤ 1000) : wrap64 (wrap64 (h + 1) * n) = (h + 1) * n := by
 have h2 : 0 ≤ (h + 1) * n := Int.mul_nonneg (by omega) n0
 have h3 : (h + 1) * n ≤ 1025 * 1000 := Int.mul_le_mul (by omega) n1 n0 (by decide)
 rw [wrapId (n := h + 1) (by omega) (by omega), wrapId (by omega) (by omega)]
theorem fits_ev (n : Int) (b : Bool) (l : List S54) (h : Int) : Ev (fun k => expand_Fits.f k n b l h) (fitsB n l h) := by
 unfold expand_Fits.f fitsB
 refine Ev.bind (check_ev n b l) ?_
 by_cases c : checkErr n l = 0
 ·have hn := checkErr_ok.1 c
  simp only [c, if_true, horizon_eq, Option.bind_some]
  by_cases c2 : spanErr h = 0
  ·have hh := spanErr_ok.1 c2
   simp only [c2, if_true]
   rw [wraps hh.1 hh.2 (by have := hn.lo; omega) (by have := hn.hi; omega), wraps hh.1 hh.2 (by omega) (by have := hn.len; omega)]
   by_cases c3 : (h + 1) * n ≤ 4000
   ·simp only [c3, if_true]; exact Ev.now _
   ·simp only [c3, if_false]; exact Ev.now _
  ·simp only [c2, if_false]; exact Ev.now _
 ·simp only [c, if_false]; exact Ev.now _
abbrev RS : Type := List S54 × List S83
def rArc (V H s t a : Int) (g : RS) (i : Nat) (x : S54) : RS :=
 if a + x.f3 ≤ H ∧ (x.f1 != s && x.f0 != t) = true then (g.1 ++ [⟨a * V + x.f0, (a + x.f3) * V + x.f1, x.f2, 0⟩], g.2 ++ [⟨true, false, (i : Int), 0, a⟩]) else g
def rArcs (V H s t : Int) (l0 : List S54) (a : Int) (g : RS) (n : Nat) : RS := (List.range n).foldl (fun g i => rArc V H s t a g i (l0.getD i z54)) g
def rWait (V H : Int) (hold : Bool) (s t a : Int) (g : RS) (v : Nat) : RS :=
 if a < H ∧ ((hold && (v : Int) != s) && (v : Int) != t) = true then (g.1 ++ [⟨a * V + (v : Int), (a + 1) * V + (v : Int), 1099511627776, 0⟩], g.2 ++ [⟨false, true, 0, (v : Int), a⟩]) else g
def rWaits (V H : Int) (hold : Bool) (s t a : Int) (g : RS) (n : Nat) : RS := (List.range n).foldl (fun g v => rWait V H hold s t a g v) g
def rAts (V H : Int) (hold : Bool) (s t : Int) (l0 : List S54) (n : Nat) : RS := (List.range n).foldl (fun (g : RS) (k : Nat) => rWaits V H hold s t (k : Int) (rArcs V H s t l0 (k : Int) g l0.length) V.toNat) ([], [])
def kEnds (v : Int) (n : Nat) : List S83 := (List.range n).map (fun a : Nat => (⟨false, false, 0, v, (a : Int)⟩ : S83))
theorem kEnds_length (v : Int) (n : Nat) : (kEnds v n).length = n := by unfold kEnds; rw [List.length_map, List.length_range]
theorem rArcs_succ (V H s t : Int) (l0 : List S54) (a : Int) (g : RS) (n : Nat) : rArcs V H s t l0 a g (n + 1) = rArc V H s t a (rArcs V H s t l0 a g n) n (l0.getD n z54) := by
 unfold rArcs; rw [List.range_succ, List.foldl_append]; rfl
theorem rWaits_succ (V H : Int) (hold : Bool) (s t a : Int) (g : RS) (n : Nat) : rWaits V H hold s t a g (n + 1) = rWait V H hold s t a (rWaits V H hold s t a g n) n := by
 unfold rWaits; rw [List.range_succ, List.foldl_append]; rfl
theorem rAts_succ (V H : Int) (hold : Bool) (s t : Int) (l0 : List S54) (n : Nat) : rAts V H hold s t l0 (n + 1) = rWaits V H hold s t (n : Int) (rArcs V H s t l0 (n : Int) (rAts V H hold s t l0 n) l0.length) V.toNat := by
 unfold rAts; rw [List.range_succ, List.foldl_append]; rfl
theorem rArcs_fst {V H s t : Int} {l0 : List S54} {a : Int} {g : RS} {g' : GS} (h : g.1 = g'.1) : ∀ n, (rArcs V H s t l0 a g n).1 = (arcLoop V H s t l0 a g' n).1
 | 0 => h
 | n + 1 => by
  rw [rArcs_succ, arcLoop_succ]
  have ih := rArcs_fst (V := V) (H := H) (s := s) (t := t) (l0 := l0) (a := a) h n
  unfold rArc arcStep
  split
  ·simp only [ih]
  ·exact ih
theorem rWaits_fst {V H s t : Int} {hold : Bool} {a : Int} {g : RS} {g' : GS} (h : g.1 = g'.1) : ∀ n, (rWaits V H hold s t a g n).1 = (waitLoop V H hold s t a g' n).1
 | 0 => h
 | n + 1 => by
  rw [rWaits_succ, waitLoop_succ]
  have ih := rWaits_fst (V := V) (H := H) (s := s) (t := t) (hold := hold) (a := a) h n
  unfold rWait waitStep
  split
  ·simp only [ih]
  ·exact ih
theorem rAts_fst {V H s t : Int} {hold : Bool} {l0 : List S54} : ∀ n, (rAts V H hold s t l0 n).1 = (atLoop V H hold s t l0 n).1
 | 0 => rfl
 | n + 1 => by
  rw [rAts_succ, atLoop_succ]
  exact rWaits_fst (rArcs_fst (rAts_fst n) _) _
section
variable {V H s t : Int} {hold : Bool} {l0 : List S54}
theorem atLoop_len (hn : NetOk V l0) (n : Nat) (hh : n ≤ 1025) : (rAts V H hold s t l0 n).1.length ≤ 256250 := by
 rw [rAts_fst]
 have := (atLoop_bal (V := V) (H := H) (s := s) (t := t) (hold := hold) (l0 := l0) hn.hi hn.len n).2
 omega
def gridKinds (V H : Int) (hold : Bool) (s t : Int) (l0 : List S54) : List S83 := (rAts V H hold s t l0 (H.toNat + 1)).2 ++ kEnds s (H.toNat + 1) ++ kEnds t (H.toNat + 1)
theorem gridArcs_length (hn : NetOk V l0) (hh : 0 ≤ H ∧ H ≤ 1024) : (gridArcs V H hold s t l0).length ≤ 300000 := by
 have hl := atLoop_len (V := V) (H := H) (s := s) (t := t) (hold := hold) hn (H.toNat + 1) (by omega)
 rw [rAts_fst] at hl
 unfold gridArcs
 rw [List.length_append, List.length_append, firstsA_length, lastsA_length]
 omega
end
def expErr (n : Int) (l : List S54) (s t h : Int) : Int := if askErr n l s t h = 0 then (if fitsB n l h = true then 0 else 2) else askErr n l s t h
theorem expErr_ok {n : Int} {l : List S54} {s t h : Int} (he : expErr n l s t h = 0) : NetOk n l ∧ (0 ≤ s ∧ s < n) ∧ (0 ≤ t ∧ t < n) ∧ (0 ≤ h ∧ h ≤ 1024) := by
 unfold expErr at he
 by_cases c : askErr n l s t h = 0
 ·obtain ⟨h1, h2, h3, h4, h5, h6, h7, h8⟩ := askErr_ok.1 c
  exact ⟨h1, ⟨h2, h3⟩, ⟨h4, h5⟩, ⟨h7, h8⟩⟩
 ·rw [if_neg c] at he; exact absurd he c
theorem easked_ev (n : Int) (b : Bool) (l : List S54) (s t h : Int) : Ev (fun k => expand_Asked.f k n b l s t h) (expErr n l s t h) := by
 unfold expand_Asked.f expErr
 refine Ev.bind (asked_ev n b l s t h) ?_
 by_cases c : askErr n l s t h = 0
 ·simp only [c, if_true]
  refine Ev.bind (fits_ev n b l h) ?_
  by_cases c2 : fitsB n l h = true
  ·simp only [c2, if_true]; exact Ev.now _
  ·simp only [c2, if_false]; exact Ev.now _
 ·simp only [c, if_false]; exact Ev.now _
theorem okNet_of {n h : Int} {l : List S54} (hn : NetOk n l) (hh : 0 ≤ h ∧ h ≤ 1024) : okNet n h l = true := by
 unfold okNet
 rw [Bool.and_eq_true]
 refine ⟨decide_eq_true ⟨by have := hn.lo; omega, hn.hi, hh.1, hh.2, hn.len⟩, ?_⟩
 rw [List.all_eq_true]
 intro x hx
 have ho := hn.arcs x hx
 unfold okA
 exact decide_eq_true ⟨ho.f0.1, ho.f0.2, ho.f1.1, ho.f1.2, ho.f2.1, ho.f2.2, ho.f3.1, ho.f3.2⟩
def buildR (n : Int) (b : Bool) (l : List S54) (s t h : Int) : Int × Bool × List S54 × Int := if expErr n l s t h = 0 then ((h + 1) * n + 2, false, gridArcs n h b s t l, 0) else (0, false, [], expErr n l s t h)
theorem build_ev (n : Int) (b : Bool) (l : List S54) (s t h : Int) : Ev (fun k => expand_Build.f k n b l s t h) (buildR n b l s t h) := by
 unfold expand_Build.f buildR
 refine Ev.bind (easked_ev n b l s t h) ?_
 by_cases c : expErr n l s t h = 0
 ·obtain ⟨h1, h2, h3, h4⟩ := expErr_ok c
  simp only [c, if_true]
  refine ev_cst fun _ => ?_
  rw [if_pos ⟨okNet_of h1 h4, h2.1, h2.2, h3.1, h3.2⟩]
 ·simp only [c, if_false]; exact Ev.now _
def arcAtN (l0 : List S54) (i : Int) : S54 := l0.getD i.toNat z54
def arcK (V : Int) (l0 : List S54) (k : S83) : S54 :=
 if k.f0 = true then ⟨k.f4 * V + (arcAtN l0 k.f2).f0, (k.f4 + (arcAtN l0 k.f2).f3) * V + (arcAtN l0 k.f2).f1, (arcAtN l0 k.f2).f2, 0⟩ else ⟨k.f4 * V + k.f3, (k.f4 + 1) * V + k.f3, 1099511627776, 0⟩
def mvK (p : S83 × Nat) : Option ((Int × Int) × Int) := if p.1.f0 = true then some ((p.1.f2, p.1.f4), (p.2 : Int)) else none
def wtK (p : S83 × Nat) : Option ((Int × Int) × Int) := if p.1.f1 = true then some ((p.1.f3, p.1.f4), (p.2 : Int)) else none
def movesK (K : List S83) : List ((Int × Int) × Int) := K.zipIdx.filterMap mvK
def waitsK (K : List S83) : List ((Int × Int) × Int) := K.zipIdx.filterMap wtK
theorem movesK_snoc (K : List S83) (k : S83) : movesK (K ++ [k]) = movesK K ++ (mvK (k, K.length)).toList := by
 unfold movesK
 rw [List.zipIdx_append, List.filterMap_append, Nat.zero_add]
 rfl
theorem waitsK_snoc (K : List S83) (k : S83) : waitsK (K ++ [k]) = waitsK K ++ (wtK (k, K.length)).toList := by
 unfold waitsK
 rw [List.zipIdx_append, List.filterMap_append, Nat.zero_add]
 rfl
structure Rel (V : Int) (l0 : List S54) (g : GS) (r : RS) : Prop where
 same : g.1 = r.1
 arcs : r.1 = r.2.map (arcK V l0)
 mv : g.2.1 = movesK r.2
 wt : g.2.2 = waitsK r.2
section
variable {V H s t : Int} {hold : Bool} {l0 : List S54}
theorem rel_arc {a : Int} {g : GS} {r : RS} {i : Nat} (h : Rel V l0 g r) : Rel V l0 (arcStep V H s t a g i (l0.getD i z54)) (rArc V H s t a r i (l0.getD i z54)) := by
 unfold arcStep rArc
 have hlen : g.1.length = r.2.length := by rw [h.same, h.arcs, List.length_map]
 split
 ·refine ⟨by rw [h.same], ?_, ?_, ?_⟩
  ·rw [h.arcs]
   simp only [List.map_append, List.map_cons, List.map_nil]
   rfl
  ·show g.2.1 ++ [_] = movesK (r.2 ++ [_])
   rw [movesK_snoc, h.mv, hlen]
   rfl
  ·show g.2.2 = waitsK (r.2 ++ [_])
   rw [waitsK_snoc, h.wt]
   show _ = waitsK r.2 ++ []
   rw [List.append_nil]
 ·exact h
theorem rel_wait {a : Int} {g : GS} {r : RS} {v : Nat} (h : Rel V l0 g r) : Rel V l0 (waitStep V H hold s t a g v) (rWait V H hold s t a r v) := by
 unfold waitStep rWait
 have hlen : g.1.length = r.2.length := by rw [h.same, h.arcs, List.length_map]
 split
 ·refine ⟨by rw [h.same], ?_, ?_, ?_⟩
  ·rw [h.arcs]
   simp only [List.map_append, List.map_cons, List.map_nil]
   rfl
  ·show g.2.1 = movesK (r.2 ++ [_])
   rw [movesK_snoc, h.mv]
   show _ = movesK r.2 ++ []
   rw [List.append_nil]
  ·show g.2.2 ++ [_] = waitsK (r.2 ++ [_])
   rw [waitsK_snoc, h.wt, hlen]
   rfl
 ·exact h
theorem rel_arcs {a : Int} {g : GS} {r : RS} (h : Rel V l0 g r) : ∀ n, Rel V l0 (arcLoop V H s t l0 a g n) (rArcs V H s t l0 a r n)
 | 0 => h
 | n + 1 => by rw [arcLoop_succ, rArcs_succ]; exact rel_arc (rel_arcs h n)
theorem rel_waits {a : Int} {g : GS} {r : RS} (h : Rel V l0 g r) : ∀ n, Rel V l0 (waitLoop V H hold s t a g n) (rWaits V H hold s t a r n)
 | 0 => h
 | n + 1 => by rw [waitLoop_succ, rWaits_succ]; exact rel_wait (rel_waits h n)
theorem rel_ats : ∀ n, Rel V l0 (atLoop V H hold s t l0 n) (rAts V H hold s t l0 n)
 | 0 => ⟨rfl, rfl, rfl, rfl⟩
 | n + 1 => by rw [atLoop_succ, rAts_succ]; exact rel_waits (rel_arcs (rel_ats n) _) _
def mvAt (H s t : Int) (l0 : List S54) (a : Int) (i : Nat) : Option S83 := if a + (l0.getD i z54).f3 ≤ H ∧ ((l0.getD i z54).f1 != s && (l0.getD i z54).f0 != t) = true then some ⟨true, false, (i : Int), 0, a⟩ else none
def wtAt (H : Int) (hold : Bool) (s t : Int) (a : Int) (v : Nat) : Option S83 := if a < H ∧ ((hold && (v : Int) != s) && (v : Int) != t) = true then some ⟨false, true, 0, (v : Int), a⟩ else none
def kindsAt (V H : Int) (hold : Bool) (s t : Int) (l0 : List S54) (a : Nat) : List S83 := (List.range l0.length).filterMap (mvAt H s t l0 (a : Int)) ++ (List.range V.toNat).filterMap (wtAt H hold s t (a : Int))
def kindsB (V H : Int) (hold : Bool) (s t : Int) (l0 : List S54) (n : Nat) : List S83 := (List.range n).flatMap (kindsAt V H hold s t l0)
theorem rArcs_kinds {a : Int} {r : RS} : ∀ n, (rArcs V H s t l0 a r n).2 = r.2 ++ (List.range n).filterMap (mvAt H s t l0 a)
 | 0 => by simp [rArcs]
 | n + 1 => by
  rw [rArcs_succ, List.range_succ, List.filterMap_append, ← List.append_assoc, ← rArcs_kinds n]
  unfold rArc
  by_cases h : a + (l0.getD n z54).f3 ≤ H ∧ ((l0.getD n z54).f1 != s && (l0.getD n z54).f0 != t) = true
  ·rw [if_pos h, List.filterMap_cons, show mvAt H s t l0 a n = some ⟨true, false, (n : Int), 0, a⟩ from if_pos h, List.filterMap_nil]
  ·rw [if_neg h, List.filterMap_cons, show mvAt H s t l0 a n = none from if_neg h, List.filterMap_nil, List.append_nil]
theorem rWaits_kinds {a : Int} {r : RS} : ∀ n, (rWaits V H hold s t a r n).2 = r.2 ++ (List.range n).filterMap (wtAt H hold s t a)
 | 0 => by simp [rWaits]
 | n + 1 => by
  rw [rWaits_succ, List.range_succ, List.filterMap_append, ← List.append_assoc, ← rWaits_kinds n]
  unfold rWait
  by_cases h : a < H ∧ ((hold && (n : Int) != s) && (n : Int) != t) = true
  ·rw [if_pos h, List.filterMap_cons, show wtAt H hold s t a n = some ⟨false, true, 0, (n : Int), a⟩ from if_pos h, List.filterMap_nil]
  ·rw [if_neg h, List.filterMap_cons, show wtAt H hold s t a n = none from if_neg h, List.filterMap_nil, List.append_nil]
theorem rAts_kinds : ∀ n, (rAts V H hold s t l0 n).2 = kindsB V H hold s t l0 n
 | 0 => rfl
 | n + 1 => by
  rw [rAts_succ, rWaits_kinds, rArcs_kinds, rAts_kinds n]
  unfold kindsB kindsAt
  rw [List.range_succ, List.flatMap_append, List.append_assoc]
  simp
theorem mem_kindsB {n : Nat} {k : S83} : k ∈ kindsB V H hold s t l0 n ↔ ∃ a : Nat, a < n ∧ ((∃ i : Nat, i < l0.length ∧ mvAt H s t l0 (a : Int) i = some k) ∨ (∃ v : Nat, v < V.toNat ∧ wtAt H hold s t (a : Int) v = some k)) := by
 unfold kindsB kindsAt
 simp only [List.mem_flatMap, List.mem_range, List.mem_append, List.mem_filterMap]
def klt (x y : S83) : Prop := x.f4 < y.f4 ∨ x.f4 = y.f4 ∧ (x.f0 = true ∧ y.f0 = true → x.f2 < y.f2) ∧ (x.f1 = true ∧ y.f1 = true → x.f3 < y.f3)
theorem mvAt_some {a : Int} {i : Nat} {k : S83} : mvAt H s t l0 a i = some k ↔ (a + (l0.getD i z54).f3 ≤ H ∧ (l0.getD i z54).f1 ≠ s ∧ (l0.getD i z54).f0 ≠ t) ∧ k = ⟨true, false, (i : Int), 0, a⟩ := by
 unfold mvAt
 split <;> rename_i h
 ·simp only [Bool.and_eq_true, bne_iff_ne] at h
  constructor
  ·intro e; exact ⟨h, by cases e; rfl⟩
  ·rintro ⟨_, rfl⟩; rfl
 ·simp only [Bool.and_eq_true, bne_iff_ne] at h
  exact ⟨(fun e => by cases e), fun e => absurd e.1 h⟩
theorem wtAt_some {a : Int} {v : Nat} {k : S83} : wtAt H hold s t a v = some k ↔ (a < H ∧ hold = true ∧ (v : Int) ≠ s ∧ (v : Int) ≠ t) ∧ k = ⟨false, true, 0, (v : Int), a⟩ := by
 unfold wtAt
 split <;> rename_i h
 ·simp only [Bool.and_eq_true, bne_iff_ne] at h
  constructor
  ·intro e; exact ⟨⟨h.1, h.2.1.1, h.2.1.2, h.2.2⟩, by cases e; rfl⟩
  ·rintro ⟨_, rfl⟩; rfl
 ·simp only [Bool.and_eq_true, bne_iff_ne] at h
  exact ⟨(fun e => by cases e), fun e => absurd ⟨e.1.1, ⟨e.1.2.1, e.1.2.2.1⟩, e.1.2.2.2⟩ h⟩
theorem range_lt (n : Nat) : (List.range n).Pairwise (· < ·) := List.pairwise_lt_range
theorem kindsB_sorted (n : Nat) : (kindsB V H hold s t l0 n).Pairwise klt := by
 unfold kindsB
 rw [List.pairwise_flatMap]
 refine ⟨fun a _ => ?_, (range_lt n).imp ?_⟩
 ·unfold kindsAt
  rw [List.pairwise_append, List.pairwise_filterMap, List.pairwise_filterMap]
  refine ⟨(range_lt _).imp ?_, (range_lt _).imp ?_, ?_⟩
  ·intro i j hij x hx y hy
   rw [mvAt_some] at hx hy
   rw [hx.2, hy.2]
   exact Or.inr ⟨rfl, fun _ => by show (i : Int) < (j : Int); omega, fun h => by cases h.1⟩
  ·intro i j hij x hx y hy
   rw [wtAt_some] at hx hy
   rw [hx.2, hy.2]
   exact Or.inr ⟨rfl, (fun h => by cases h.1), fun _ => by show (i : Int) < (j : Int); omega⟩
  ·intro x hx y hy
   obtain ⟨i, _, hx⟩ := List.mem_filterMap.1 hx
   obtain ⟨j, _, hy⟩ := List.mem_filterMap.1 hy
   rw [mvAt_some] at hx
   rw [wtAt_some] at hy
   rw [hx.2, hy.2]
   exact Or.inr ⟨rfl, (fun h => by cases h.2), (fun h => by cases h.1)⟩
 ·intro a b hab x hx y hy
  have ha : x.f4 = (a : Int) := by
   unfold kindsAt at hx
   rcases List.mem_append.1 hx with hx | hx
   ·obtain ⟨i, _, hx⟩ := List.mem_filterMap.1 hx
    rw [mvAt_some] at hx; rw [hx.2]
   ·obtain ⟨i, _, hx⟩ := List.mem_filterMap.1 hx
    rw [wtAt_some] at hx; rw [hx.2]
  have hb : y.f4 = (b : Int) := by
   unfold kindsAt at hy
   rcases List.mem_append.1 hy with hy | hy
   ·obtain ⟨i, _, hy⟩ := List.mem_filterMap.1 hy
    rw [mvAt_some] at hy; rw [hy.2]
   ·obtain ⟨i, _, hy⟩ := List.mem_filterMap.1 hy
    rw [wtAt_some] at hy; rw [hy.2]
  exact Or.inl (by omega)
end
end Go.Proofs.Ytfhkkbpkajfdlaa.P
end
section
namespace Go.Proofs.Ytfhkkbpkajfdlaa.Q
open Go.RowKit Go.Proofs.YtfhkkbpkajfdlaaW.PrintWords Go.Proofs.YtfhkkbpkajfdlaaW.PrintLast Go.Proofs.YtfhkkbpkajfdlaaW.PrintMore
def table_Moves_2.f (a0_0 : Int) (a0_1 : Int) (a0_2 : Int) : Option (Int) := some a0_2
set_option maxHeartbeats 8000000 in
set_option maxRecDepth 100000 in
theorem table_Moves_2.calls (a0_0 : Int) (a0_1 : Int) (a0_2 : Int) (r : Int) (w : World) (h : table_Moves_2.f a0_0 a0_1 a0_2 = some r) :
  Calls Try.prog 77 #[.agg #[.int .i64 a0_0, .int .i64 a0_1, .int .i64 a0_2]] w fun e w' => e = .returned (.int .i64 r) ∧ Below w.heap.size w w' := by
 have hu85 := Try.underlying85; have HB := am_ (Below.refl w.heap.size w); have H : (some a0_2) = some r := h; clear h; obtain rfl := Option.some.inj H
 go_enter Try.func77, Try.ntmps77
 go_wp2_with (first | ((with_reducible refine gate_dst (N := 1) rfl ?_); refine bx_ 1 #[.int .i64 a0_0, .int .i64 a0_1, .int .i64 a0_2] 85 ?_; intro gb101 hg w2 BK101 hb; have GE101 := ge_ (w := w) hg; replace HB := hst_ hb; clear hb hg; obtain ⟨hcz3_0, hcz3_1, hcz3_2, hfz3_0, hfz3_1, hfz3_2⟩ := cf3_ BK101.out))
 go_ret
 exact ⟨er_, hb_⟩
def sumFit (n : Int) : Int × Bool := if -9223372036854775808 ≤ n ∧ n ≤ 9223372036854775807 then (n, true) else (0, false)
def sumOk (l : List Int) : Bool := l.all (fun x => decide (-9223372036854775808 ≤ x) && decide (x ≤ 9223372036854775807)) && decide (l.length ≤ 1152921504606846976)
def checked_Sum.f (l : List Int) : Option (Int × Bool) := if sumOk l = true then some (sumFit l.sum) else none
def lowH (l : List Int) (j : Nat) : Int := (l.take j).sum % 18446744073709551616
def highH (l : List Int) (j : Nat) : Int := (l.take j).sum / 18446744073709551616
theorem sumOk_at {l : List Int} (h : sumOk l = true) (i : Nat) (hi : i < l.length) : -9223372036854775808 ≤ l[i] ∧ l[i] ≤ 9223372036854775807 := by
 simp only [sumOk, Bool.and_eq_true, List.all_eq_true, decide_eq_true_eq] at h
 exact h.1 _ (List.getElem_mem hi)
theorem take_sum (l : List Int) (j : Nat) (hj : j < l.length) : (l.take (j + 1)).sum = (l.take j).sum + l[j] := by
 rw [List.take_succ_eq_append_getElem hj, List.sum_append]; simp
theorem take_bd {l : List Int} (h : sumOk l = true) (j : Nat) : j ≤ l.length → -9223372036854775808 * (j : Int) ≤ (l.take j).sum ∧ (l.take j).sum ≤ 9223372036854775807 * (j : Int) := by
 induction j with
 | zero => simp
 | succ j ih =>
  intro hj
  have := ih (by omega)
  have := sumOk_at h j (by omega)
  rw [take_sum l j (by omega)]
  omega
theorem sumOk_len {l : List Int} (h : sumOk l = true) : l.length ≤ 1152921504606846976 := by
 simp only [sumOk, Bool.and_eq_true, decide_eq_true_eq] at h
 exact h.2
theorem high_bd {l : List Int} (h : sumOk l = true) (j : Nat) (hj : j ≤ l.length) : -1152921504606846976 ≤ highH l j ∧ highH l j ≤ 1152921504606846976 := by
 have := take_bd h j hj
 have := sumOk_len h
 unfold highH
 omega
theorem low_bd (l : List Int) (j : Nat) : 0 ≤ lowH l j ∧ lowH l j < 18446744073709551616 := by unfold lowH; omega
theorem rd_at {l : List Int} {j : Nat} (hj : j < l.length) : rd l (j : Int) = l[j] := by
 unfold rd; simp [List.getD_eq_getElem?_getD, List.getElem?_eq_getElem hj]
theorem wu64 (n : Int) : IntKind.u64.wrap n = n % 18446744073709551616 := by simp [IntKind.wrap, IntKind.bits, IntKind.signed]
theorem w64_id {n : Int} (h0 : -9223372036854775808 ≤ n) (h1 : n ≤ 9223372036854775807) : wrap64 n = n := by unfold wrap64; omega
theorem low_step {l : List Int} (j : Nat) (hj : j < l.length) : (lowH l j + IntKind.u64.wrap (rd l (j : Int))) % 18446744073709551616 = lowH l (j + 1) := by
 unfold lowH
 rw [rd_at hj, take_sum l j hj]
 rw [wu64]
 omega
theorem high_step {l : List Int} (h : sumOk l = true) (j : Nat) (hj : j < l.length) : wrap64 (highH l j + wrap64 (rd l (j : Int) / 9223372036854775808 + wrap64 ((lowH l j + IntKind.u64.wrap (rd l (j : Int))) / 18446744073709551616))) = highH l (j + 1) := by
 have h1 := high_bd h (j + 1) hj
 have h2 := high_bd h j (by omega)
 have h3 := sumOk_at h j hj
 have h0 := take_bd h j (by omega)
 unfold highH lowH at *
 rw [rd_at hj]
 rw [take_sum l j hj] at *
 rw [wu64]
 generalize (l.take j).sum = s at *
 generalize l[j] = a at *
 have k1 : 0 ≤ (s % 18446744073709551616 + a % 18446744073709551616) / 18446744073709551616 ∧ (s % 18446744073709551616 + a % 18446744073709551616) / 18446744073709551616 ≤ 1 := by omega
 have k2 : -1 ≤ a / 9223372036854775808 ∧ a / 9223372036854775808 ≤ 0 := by omega
 have k3 : s / 18446744073709551616 + (a / 9223372036854775808 + (s % 18446744073709551616 + a % 18446744073709551616) / 18446744073709551616) = (s + a) / 18446744073709551616 := by omega
 rw [← k3] at h1 ⊢
 generalize (s % 18446744073709551616 + a % 18446744073709551616) / 18446744073709551616 = c at *
 generalize a / 9223372036854775808 = b at *
 rw [w64_id (n := c) (by omega) (by omega), w64_id (n := b + c) (by omega) (by omega), w64_id (by omega) (by omega)]
theorem sum_end {l : List Int} (r : Int × Bool) (hr : sumFit l.sum = r) : (if (highH l l.length != wrap64 (lowH l l.length) / 9223372036854775808) = true then ((0 : Int), false) else (wrap64 (lowH l l.length), true)) = r := by
 rw [← hr]
 unfold highH lowH sumFit
 rw [List.take_length]
 by_cases c : -9223372036854775808 ≤ l.sum ∧ l.sum ≤ 9223372036854775807
 ·rw [if_pos c, if_neg]
  ·exact Prod.ext (by show wrap64 _ = _; unfold wrap64; omega) rfl
  ·simp only [bne_iff_ne, ne_eq, Decidable.not_not]; unfold wrap64; omega
 ·rw [if_neg c, if_pos]
  simp only [bne_iff_ne, ne_eq]; unfold wrap64; omega
theorem add64_run (x y : Int) (hx : 0 ≤ x) (hy : 0 ≤ y) (w : World) : (callFunc 93 #[.int .u64 x, .int .u64 y, .int .u64 0]).run Try.prog w =
 .ok (.value (.tuple #[.int .u64 ((x + y) % 18446744073709551616), .int .u64 ((x + y) / 18446744073709551616)])) w := by
 rw [run_callFunc_extern Try.func93 (by kernel_rfl) (by kernel_rfl) (by kernel_rfl) (e := add64Entry) (by kernel_rfl), run_add64 x y 0 hx hy (by decide) (by decide)]
 simp only [Result.andThen, Int.add_zero]
set_option maxHeartbeats 1000000 in
set_option maxRecDepth 100000 in
theorem checked_Sum.calls (A0 : Option Addr) (c0 : Nat) (l0 : List Int) (r1 : Int) (r2 : Bool) (w : World) (hr0 : Kd.C (Kd.int .i64) w A0 l0.length l0) (hc0 : l0.length ≤ c0) (h : checked_Sum.f l0 = some (r1, r2)) :
 Calls Try.prog 88 #[.slice A0 l0.length c0] w fun e w' => e = .returned (.tuple #[.int .i64 r1, .bool r2]) ∧ Drawn0 w w' := by
 have HR0 := am_ hr0
 have HC0 := am_ hc0
 clear hr0 hc0
 have hk : sumOk l0 = true := by
  unfold checked_Sum.f at h
  by_cases c : sumOk l0 = true
  ·exact c
  ·rw [if_neg c] at h; exact absurd h (by simp)
 have hv : sumFit l0.sum = (r1, r2) := by
  unfold checked_Sum.f at h
  rw [if_pos hk] at h
  exact Option.some.inj h
 have HK := am_ hk
 have HV := am_ (sum_end _ hv)
 have HLEN := am_ (sumOk_len hk)
 clear h hk hv
 go_enter Try.func88, Try.ntmps88
 go_wp2
 go_loopg [4, 5, 11] l0.length (fun kq v4 v5 v11 w' => ∃ j : Nat, v4 = .int .i64 (highH l0 j) ∧ v5 = .int .u64 (lowH l0 j) ∧ v11 = .int .i64 j ∧ Aside0 (j + kq = l0.length) ∧ Drawn0 w w')
 case atStart => exact ⟨0, rfl, rfl, rfl, ⟨by omega⟩, Drawn0.refl _⟩
 case round =>
  obtain ⟨j, rfl, rfl, rfl, HJ, ⟨m1, rfl⟩⟩ := hrel
  cases gk with
  | zero =>
   have c1 : decide ((j : Int) < (l0.length : Int)) = false := decide_eq_false (by have := HJ.out; omega)
   have c2 : decide (j < l0.length) = false := decide_eq_false (by have := HJ.out; omega)
   have hj : j = l0.length := by have := HJ.out; omega
   have HV1 := HV.out
   rw [← hj] at HV1
   have HV2 := am_ HV1
   clear HV HV1 hj
   by_cases c3 : (highH l0 j != wrap64 (lowH l0 j) / 9223372036854775808) = true
   ·have H := HV2.out
    rw [if_pos c3] at H
    simp only [Prod.mk.injEq] at H
    obtain ⟨rfl, rfl⟩ := H
    clear HV2
    go_wp2
    go_ret2
    exact ⟨rfl, by repeat (first | exact Drawn0.refl _ | apply Drawn0.step)⟩
   ·have H := HV2.out
    rw [if_neg c3] at H
    simp only [Prod.mk.injEq] at H
    obtain ⟨rfl, rfl⟩ := H
    have c4 : (highH l0 j != wrap64 (lowH l0 j) / 9223372036854775808) = false := by simpa using c3
    clear HV2 c3
    go_wp2
    go_ret2
    exact ⟨rfl, by repeat (first | exact Drawn0.refl _ | apply Drawn0.step)⟩
  | succ gk =>
   have c1 : decide ((j : Int) < (l0.length : Int)) = true := decide_eq_true (by have := HJ.out; omega)
   have c2 : decide (j < l0.length) = true := decide_eq_true (by have := HJ.out; omega)
   obtain ⟨ad, e220, hx220⟩ := Kd.at_int HR0.out (j : Int) (by omega) (by have := HJ.out; omega)
   cases e220
   have hx : w.cell? (ad.add j) = some (.int .i64 (rd l0 (j : Int))) := by simpa using hx220
   clear hx220
   have p1 := eq_true (show (0 : Int) ≤ (j : Int) by omega)
   have p2 := eq_true (show (j : Int) < (l0.length : Int) by have := HJ.out; omega)
   have HS := am_ (high_step HK.out j (by have := HJ.out; omega))
   have HT := am_ (low_step (l := l0) j (by have := HJ.out; omega))
   have hl1 := (low_bd l0 j).1
   have hl2 : 0 ≤ IntKind.u64.wrap (rd l0 (j : Int)) := by rw [wu64]; omega
   have LB := am_ hl1
   go_wp2_with (simp only [add64_run _ _ hl1 hl2])
   go_roundg gk
   case measure => omega
   case rel => exact ⟨j + 1, congrArg (Value.int .i64) HS.out, congrArg (Value.int .u64) HT.out, congrArg (Value.int .i64) (by have := HJ.out; have := HLEN.out; rw [w64_id (by omega) (by omega)]; rfl), ⟨by have := HJ.out; omega⟩, by repeat (first | exact Drawn0.refl _ | apply Drawn0.step)⟩
def api_Move_76.l0 : Nat → List (S85) → List Int → List Int → Int → Int → Option (Int × Bool)
 | 0, _, _, _, _, _ => none
 | k + 1, x0, x8, x14, x15, x16 => if x16 < x15 then (if 0 ≤ x16 then (if x16 < (x14.length : Int) then (if 0 ≤ (rd x14 x16) then (if (rd x14 x16) < (x0.length : Int) then ((table_Moves_2.f ((rd_T85 x0 (rd x14 x16)).f0) ((rd_T85 x0 (rd x14 x16)).f1) ((rd_T85 x0 (rd x14 x16)).f2)).bind fun t135 => (if x16 < (x8.length : Int) then (api_Move_76.l0 k x0 (x8.set (x16 : Int).toNat t135) x14 x15 (wrap64 (x16 + 1))) else (none))) else (none)) else (none)) else (none)) else (none)) else ((checked_Sum.f x8).bind fun bt137 => (some (bt137.1, bt137.2)))
def api_Move_76.f (k : Nat) (l0 : List (S85)) (l1 : List Int)  : Option (Int × Bool) := if 0 ≤ (l1.length : Int) then (if ((l1.length : Int) : Int).toNat ≤ 35184372088832 then (api_Move_76.l0 k l0 (List.replicate ((l1.length : Int) : Int).toNat 0) l1 (l1.length : Int) 0) else (none)) else (none)
set_option maxHeartbeats 8000000 in
set_option maxRecDepth 100000 in
theorem api_Move_76.calls (k : Nat) (A0 : Option Addr) (c0 : Nat) (l0 : List (S85)) (A1 : Option Addr) (c1 : Nat) (l1 : List Int)  (r1 : Int) (r2 : Bool) (w : World) (hr0 : Kd.C k85 w A0 l0.length l0) (hc0 : l0.length ≤ c0) (hr1 : Kd.C (Kd.int .i64) w A1 l1.length l1) (hc1 : l1.length ≤ c1) (h : api_Move_76.f k l0 l1 = some (r1, r2)) :
  Calls Try.prog 76 #[.slice A0 l0.length c0, .slice A1 l1.length c1, .func (.func 77) #[] #[]] w fun e w' => e = .returned (.tuple #[.int .i64 r1, .bool r2]) ∧ Below w.heap.size w w' := by
 have hu85 := Try.underlying85; have HR0 := am_ hr0; have HC0 := am_ hc0; clear hr0 hc0; have HR1 := am_ hr1; have HC1 := am_ hc1; clear hr1 hc1; have HB := am_ (Below.refl w.heap.size w); have H : (if 0 ≤ (l1.length : Int) then (if ((l1.length : Int) : Int).toNat ≤ 35184372088832 then (api_Move_76.l0 k l0 (List.replicate ((l1.length : Int) : Int).toNat 0) l1 (l1.length : Int) 0) else (none)) else (none)) = some (r1, r2) := h; clear h
 replace H := ifn_ H; obtain ⟨c4, H⟩ := H
 have c4b0 := eq_true c4; have c4b1 := decide_eq_true c4; clear c4
 replace H := ifn_ H; obtain ⟨c5, H⟩ := H
 have c5b0 := eq_true c5; have c5b1 := decide_eq_true c5; clear c5; obtain ⟨y130, hy_⟩ : ∃ y_ : List Int, y_ = (List.replicate ((l1.length : Int) : Int).toNat 0) := ⟨_, rfl⟩
 replace H : (api_Move_76.l0 k l0 y130 l1 (l1.length : Int) 0) = some (r1, r2) := hyH_
 have Ny130 := am_ hy_; clear hy_; have H' := am_ H; clear H
 go_enter Try.func76, Try.ntmps76
 go_wp2_with (first | ((with_reducible refine gate_dst (N := 13) rfl ?_); refine Kd.R_make (Kd.int .i64) _ 3 rfl (N := 13) rfl 42 _ _ rfl (l1.length : Int) rfl rfl Try.underlying42 (.int .i64 0) 8 info3 rfl (by decide) (by omega) 0 (ok := fun _ => True) (okp := fun _ => True) rfl (fun _ hk => hk) trivial (of_decide_eq_true sm_) (Nat.le_trans (Nat.mul_le_mul_right _ (of_decide_eq_true sm_ : (l1.length : Int).toNat ≤ 35184372088832)) (by omega)) (Below.refl _ _) (Nat.le_refl _) ?_; intro v131 w6 ho7 hb hg_ hnew_; clear hg_ hnew_; (first | rw [← Ny130.out] at ho7 | (simp only [Int.reduceToNat] at ho7; rw [← Ny130.out] at ho7)); have HO132 := am_ (Kd.R_lower ho7 (below_size hb_)); replace HB := hst_ hb; clear hb ho7))
 go_loopg [16] k (fun kq v16 w' => ∃ (x8_1 : List Int) (x16_1 : Int), v16 = .int .i64 x16_1 ∧ Aside0 (api_Move_76.l0 kq l0 x8_1 l1 (l1.length : Int) x16_1 = some (r1, r2)) ∧ Aside0 (kq ≤ k) ∧ Aside0 (Kd.R (Kd.int .i64) 3 w' w.heap.size (fun _ => True) v131 x8_1) ∧ Aside0 (Below w.heap.size w w'))
 case atStart => exact ⟨(y130), (0), rs_, H', ⟨Nat.le_refl _⟩, ⟨rq_ HO132.out⟩, ⟨hb_⟩⟩
 case round =>
  clear H'
  try clear c1
  try clear p2
  try clear c4
  try clear c4b0
  try clear c4b1
  try clear c5
  try clear c5b0
  try clear c5b1
  try clear c7
  obtain ⟨x8_1, x16_1, rfl, HA, HK1, HO_8, HB⟩ := hrel
  cases gk with
  | zero => exact absurd HA.out (by simp [api_Move_76.l0])
  | succ k1 =>
   have H := HA.out; clear HA; simp only [api_Move_76.l0] at H
   by_cases c8 : x16_1 < (l1.length : Int)
   ·rw [if_pos c8] at H
    have c8b0 := decide_eq_true c8; clear c8
    replace H := ifn_ H; obtain ⟨c9, H⟩ := H
    have c9b0 := decide_eq_true c9; clear c9
    replace H := ifn_ H; obtain ⟨c10, H⟩ := H
    have c10b0 := decide_eq_true c10; clear c10
    replace H := ifn_ H; obtain ⟨c11, H⟩ := H
    have c11b0 := decide_eq_true c11; clear c11
    replace H := ifn_ H; obtain ⟨c12, H⟩ := H
    have c12b0 := decide_eq_true c12; clear c12; replace H := Option.bind_eq_some_iff.mp H; obtain ⟨t135, A130, H⟩ := H; replace H : (if x16_1 < (x8_1.length : Int) then (api_Move_76.l0 k1 l0 (x8_1.set (x16_1 : Int).toNat t135) l1 (l1.length : Int) (wrap64 (x16_1 + 1))) else (none)) = some (r1, r2) := H; have A13 := am_ A130; clear A130
    replace H := ifn_ H; obtain ⟨c14, H⟩ := H
    have c14b0 := decide_eq_true c14; clear c14; obtain ⟨y136, hy_⟩ : ∃ y_ : List Int, y_ = (x8_1.set (x16_1 : Int).toNat t135) := ⟨_, rfl⟩
    replace H : (api_Move_76.l0 k1 l0 y136 l1 (l1.length : Int) (wrap64 (x16_1 + 1))) = some (r1, r2) := hyH_
    have Ny136 := am_ hy_; clear hy_; have H' := am_ H; clear H; have p133 := od_ (p := 0 ≤ (x16_1 : Int)); have q133 := od_ (p := x16_1 < (l1.length : Int)); obtain ⟨ad133, e133, hx133_0⟩ := tr1_ HB.out (Kd.at_int HR1.out x16_1 p133 q133); cases e133; replace p133 := eq_true p133; replace q133 := eq_true q133; have p134 := od_ (p := 0 ≤ ((rd l1 x16_1) : Int)); have q134 := od_ (p := (rd l1 x16_1) < (l0.length : Int)); obtain ⟨ad134, e134, hx134_0, hx134_1, hx134_2⟩ := tr3_ HB.out (at_T85 HR0.out (rd l1 x16_1) p134 q134); cases e134; replace p134 := eq_true p134; replace q134 := eq_true q134
    go_wp2_with (first | ((with_reducible refine gate_calleev (t := 23) rfl ?_); refine goesV_ (some 28) rfl rfl Try.func77 (by kernel_rfl) rfl #[.agg #[.int .i64 ((rd_T85 l0 (rd l1 x16_1)).f0), .int .i64 ((rd_T85 l0 (rd l1 x16_1)).f1), .int .i64 ((rd_T85 l0 (rd l1 x16_1)).f2)]] rfl rfl mt_ ?_; (with_reducible refine (table_Moves_2.calls ((rd_T85 l0 (rd l1 x16_1)).f0) ((rd_T85 l0 (rd l1 x16_1)).f1) ((rd_T85 l0 (rd l1 x16_1)).f2) t135 _ A13.out).mono ?_); rintro e w16 ⟨rfl, hb⟩; refine ⟨_, rfl, ?_⟩; replace HO_8 := am_ (Kd.R_below (rq_ HO_8.out) hb); replace HB := hst_ hb; (try clear hb); (try clear hb2); (try clear hk); (try clear hi); have p15 : 0 ≤ (x16_1 : Int) := of_decide_eq_true sm_; have q15 : (x16_1 : Int) < ((x8_1.length : Int) : Int) := of_decide_eq_true sm_; obtain ⟨go15, co15, eo15, gb15, gl15, cl15, HG15⟩ := Kd.R_form HO_8.out (by omega); (first | cases eo15 | (injection eo15 with ea_ en_ ec_; (first | subst ea_ | (injection ea_ with ea_; subst ea_)); subst ec_; clear en_)); have GB15 := am_ gb15; have GG15 := am_ HG15; clear gb15 gl15 HG15; obtain ⟨hx15_0, hf15_0⟩ := Kd.R_celln 0 HO_8.out (x16_1 : Int) p15 q15; replace p15 := eq_true p15; replace q15 := eq_true q15; obtain ⟨hy17_, hz17_⟩ := Kd.R_celln 0 HO_8.out (x16_1 : Int) (of_decide_eq_true sm_) (of_decide_eq_true sm_); have HP17 := Kd.R_putg HO_8.out (x16_1 : Int) t135) | ((with_reducible refine gate_store (t := 3) (p := 29) rfl ?_); refine store_event (t := 3) (p := 29) (v := ?vo_w18) (w1 := (w16.setCell ⟨go15, (x16_1 : Int).toNat, none⟩ (.int .i64 t135))) ?hg ?ho ?hn ?hr ?_; (case ho => rfl); (case hg => rfl); (case hn => rfl); (case hr => first | (go_simp; done) | (go_simp; rfl)); intro w18 hw; have hg : w16.grownBy w18 (some go15) := (by rw [hw]; exact HP17.2); have hp_ : Kd.R (Kd.int .i64) 3 w18 w.heap.size (fun _ => True) (.slice (some ⟨go15, 0, none⟩) x8_1.length co15) y136 := (by rw [hw, Ny136.out]; exact HP17.1); clear HP17; replace HO_8 := am_ (hp_); replace HB := am_ ((by rw [hw]; exact below_set (HB.out) GB15.out : Below w.heap.size w w18)); clear hg hw hp_))
    go_roundg k1
    case measure => have := HK1.out; omega
    case rel => exact ⟨(y136), (wrap64 (x16_1 + 1)), rs_, H', ⟨by have := HK1.out; omega⟩, ⟨rq_ HO_8.out⟩, ⟨hb_⟩⟩
   ·rw [if_neg c8] at H
    have c8b0 := decide_eq_false c8; clear c8; replace H := Option.bind_eq_some_iff.mp H; obtain ⟨⟨t137, t138⟩, A190, H⟩ := H; replace H : (some (t137, t138)) = some (r1, r2) := H; have A19 := am_ A190; clear A190; simp only [Option.some.injEq, Prod.mk.injEq] at H; obtain ⟨rfl, rfl⟩ := H; obtain ⟨Ao20, co20, eo20⟩ := Kd.R_slice HO_8.out; subst eo20
    go_wp2_with (first | ((with_reducible refine gate_callee (f := 88) rfl ?_); refine goesL_ (some 32) rfl rfl Try.func88 (by kernel_rfl) rfl #[.slice Ao20 x8_1.length co20] rfl mt_ ?_; (with_reducible refine (checked_Sum.calls _ _ x8_1 t137 t138 _ ?side1 ?side2 A19.out).mono ?_); (case side1 => repeat (first | exact (Kd.R_reads' HO_8.out).2.2 | (with_reducible refine Kd.C_alloc ?_ _) | (with_reducible refine Kd.C_drewN ?_ _) | (with_reducible refine Kd.C_drew ?_))); (case side2 => exact (Kd.R_reads' HO_8.out).2.1); rintro e w' ⟨rfl, ⟨nd, rfl⟩⟩; refine ⟨_, rfl, ?_⟩))
    go_ret2
    exact ⟨er_, hb_⟩
end Go.Proofs.Ytfhkkbpkajfdlaa.Q
end
section
namespace Go.Proofs.Ytfhkkbpkajfdlaa.Q
open Go.RowKit Go.Maps Go.Proofs.YtfhkkbpkajfdlaaW.PrintWords Go.Proofs.YtfhkkbpkajfdlaaW.PrintLast Go.Proofs.YtfhkkbpkajfdlaaW.PrintMore
theorem Kd.S_nomap' {α : Type} {d : Kd α} {e : Nat} {w : World} {base : Nat} {ok : Nat → Prop} {v : Value} {xs : List α} (h : Kd.S d e w base ok v xs) {b : Nat} (hb : ∃ es clock, w.heap[b]? = some (.map es clock)) : Kd.S d e w base (fun k => ok k ∧ k ≠ b) v xs := S_nomap h hb
def table_Moves_1.f (a0_0 : Int) (a0_1 : Int) (a0_2 : Int) : Option (Int × Int) := some (a0_0, a0_1)
set_option maxHeartbeats 8000000 in
set_option maxRecDepth 100000 in
theorem table_Moves_1.calls (a0_0 : Int) (a0_1 : Int) (a0_2 : Int) (r1 : Int) (r2 : Int) (w : World) (h : table_Moves_1.f a0_0 a0_1 a0_2 = some (r1, r2)) :
 Calls Try.prog 75 #[.agg #[.int .i64 a0_0, .int .i64 a0_1, .int .i64 a0_2]] w fun e w' => e = .returned (.agg #[.int .i64 r1, .int .i64 r2]) ∧ Below w.heap.size w w' := by
 have hu85 := Try.underlying85
 have hu120 := Try.underlying120
 have HB := am_ (Below.refl w.heap.size w)
 have H : (some (a0_0, a0_1)) = some (r1, r2) := h
 clear h
 simp only [Option.some.injEq, Prod.mk.injEq] at H
 obtain ⟨rfl, rfl⟩ := H
 go_enter Try.func75, Try.ntmps75
 go_wp2_with (first | ((with_reducible refine gate_dst (N := 1) rfl ?_); refine box_event ?hg (N := 1) ?hd (cs := #[.int .i64 a0_0, .int .i64 a0_1, .int .i64 a0_2]) (t := 85) ?hr ?_; (case hd => rfl); (case hg => rfl); (case hr => first | (go_simp; done) | (go_simp; rfl)); intro gb101 hg w2 hbox hb; have BK101 := am_ (hbox); have GE101 := ge_ (w := w) hg; replace HB := hst_ hb; clear hb hbox hg) | ((with_reducible refine gate_dst (N := 2) rfl ?_); refine box_event ?hg (N := 2) ?hd (cs := #[.int .i64 0, .int .i64 0]) (t := 120) ?hr ?_; (case hd => rfl); (case hg => rfl); (case hr => first | (go_simp; done) | (go_simp; rfl)); intro gb102 hg w3 hbox hb; have BK102 := am_ (hbox); have GE102 := ge_ (w := w) hg; replace HB := hst_ hb; have NB101_102 := am_ (nl_ BK101.out hg); have NB102_101 := am_ (ng_ BK101.out hg); replace BK101 := am_ (bb_ BK101.out hb); clear hb hbox hg; have hnb4 := NB101_102.out; have hnc4 := NB102_101.out; obtain ⟨hcz5_0, hcz5_1, hcz5_2, hfz5_0, hfz5_1, hfz5_2⟩ := cf3_ BK101.out; obtain ⟨hcz6_0, hcz6_1, hfz6_0, hfz6_1⟩ := cf2_ BK102.out))
 refine bodyPost_ret (results_cell_row rfl _ _ gb102 120 #[.int .i64 a0_0, .int .i64 a0_1] (0, 0) _ rfl (by refine bq_ ?_; refine blk_put (cs := #[.int .i64 a0_0, .int .i64 0]) ?_ 1 _ rfl; refine bq_ ?_; refine blk_put (cs := #[.int .i64 0, .int .i64 0]) ?_ 0 _ rfl; refine bq_ ?_; exact BK102.out) Try.underlying120 rfl (by kernel_rfl)) rfl ?_
 exact ⟨er_, hb_⟩
def api_Move_2_int.l0 : Nat → List (List Int) → List ((Int × Int) × Int) → List (S85) → Int → Int → Option ((List (List Int)))
 | 0, _, _, _, _, _ => none
 | k + 1, x3, x4, x12, x13, x14 => if x14 < x13 then (if 0 ≤ x14 then (if x14 < (x12.length : Int) then ((table_Moves_1.f ((rd_T85 x12 x14).f0) ((rd_T85 x12 x14).f1) ((rd_T85 x12 x14).f2)).bind fun bt111 => ((lookF good2 x4 (bt111.1, bt111.2)).bind fun bt114 => (if bt114.2 = true then (if 0 ≤ bt114.1 then (if bt114.1 < (x3.length : Int) then (if (rd_L3 x3 bt114.1).length < 17592186044416 then (api_Move_2_int.l0 k (x3.set (bt114.1 : Int).toNat ((rd_L3 x3 bt114.1) ++ [x14])) x4 x12 x13 (wrap64 (x14 + 1))) else (none)) else (none)) else (none)) else ((putF good2 x4 (bt111.1, bt111.2) (x3.length : Int)).bind fun t121 => (if x3.length < 5864062014805 then ((some (x3 ++ [[]] : List (List Int))).bind fun y122 => (if 0 ≤ (x3.length : Int) then (if (x3.length : Int) < (y122.length : Int) then (if (rd_L3 y122 (x3.length : Int)).length < 17592186044416 then (api_Move_2_int.l0 k (y122.set ((x3.length : Int) : Int).toNat ((rd_L3 y122 (x3.length : Int)) ++ [x14])) t121 x12 x13 (wrap64 (x14 + 1))) else (none)) else (none)) else (none))) else (none)))))) else (none)) else (none)) else (some x3)
def api_Move_2_int.f (k : Nat) (l0 : List (S85)) : Option ((List (List Int))) := api_Move_2_int.l0 k (([] : List (List Int))) ([] : List ((Int × Int) × Int)) l0 (l0.length : Int) 0
set_option maxHeartbeats 8000000 in
set_option maxRecDepth 100000 in
theorem api_Move_2_int.calls (k : Nat) (A0 : Option Addr) (c0 : Nat) (l0 : List (S85)) (r : List (List Int)) (w : World) (hr0 : Kd.C k85 w A0 l0.length l0) (hc0 : l0.length ≤ c0) (h : api_Move_2_int.f k l0 = some r) :
 Calls Try.prog 74 #[.slice A0 l0.length c0, .func (.func 75) #[] #[]] w fun e w' => ∃ v0_ : Value, e = .returned (v0_) ∧ Kd.S (Kd.slice 3 (Kd.int .i64)) 42 w' w.heap.size (fun _ => True) v0_ r ∧ Below w.heap.size w w' := by
 have hu85 := Try.underlying85
 have hu120 := Try.underlying120
 have HR0 := am_ hr0
 have HC0 := am_ hc0
 clear hr0 hc0
 have HB := am_ (Below.refl w.heap.size w)
 have H : (api_Move_2_int.l0 k (([] : List (List Int))) ([] : List ((Int × Int) × Int)) l0 (l0.length : Int) 0) = some r := h
 clear h
 obtain ⟨y105, hy105⟩ : ∃ y_ : List (List Int), y_ = (([] : List (List Int))) := ⟨_, rfl⟩
 replace H : (api_Move_2_int.l0 k y105 ([] : List ((Int × Int) × Int)) l0 (l0.length : Int) 0) = some r := by first | (rw [hy105]; with_reducible exact H) | (have H2_ := (Option.bind_some _ _).symm.trans H; rw [hy105]; with_reducible exact H2_) | (have H2_ := (Option.bind_some _ _).symm.trans H; with_reducible exact H2_) | with_reducible exact H | (rw [hy105]; exact H) | exact H
 have Ny105 := am_ hy105
 clear hy105
 have H' := am_ H
 clear H
 go_enter Try.func74, Try.ntmps74
 go_wp2_with (first | ((with_reducible refine gate_dst (N := 12) rfl ?_); refine Kd.S_lit (Kd.slice 3 (Kd.int .i64)) _ 42 ?hg (N := 12) ?hd (xs := ([] : List (List Int))) (inner := []) (ok := fun _ => True) (okp := fun _ => True) ?hr ?hp (fun _ hk => hk) trivial (Below.refl _ _) (Nat.le_refl _) (by simp) ?_; (case hd => rfl); (case hg => rfl); (case hr => first | (go_simp; done) | (go_simp; rfl)); (case hp => exact (Reps.none _ _)); intro v106 w3 ho4 hb hg_ hnew_; clear hg_ hnew_; (first | rw [← Ny105.out] at ho4 | (simp only [Int.reduceToNat] at ho4; rw [← Ny105.out] at ho4)); have HO107 := am_ (Kd.S_lower ho4 (below_size hb_)); replace HB := hst_ hb; clear hb ho4) | ((with_reducible refine gate_dst (N := 13) rfl ?_); refine mmake E120 _ rfl 131 rfl ?_; intro w9m mb hM_ hb hge; have n0_ := am_ (Kd.S_below (sq_ HO107.out) hb); have n1_ := am_ (below_step hb_ hb); have HM := am_ hM_; have GM := am_ (Nat.le_trans (below_size hb_) hge : w.heap.size ≤ mb); clear HO107 HB; have HO107 := n0_; have HB := n1_; clear n0_ n1_; clear hM_ hb hge))
 go_loopg [5, 16] k (fun kq v3 v14 w' => ∃ (x3_1 : List (List Int)) (x4_1 : List ((Int × Int) × Int)) (x14_1 : Int), v14 = .int .i64 x14_1 ∧ Aside0 (api_Move_2_int.l0 kq x3_1 x4_1 l0 (l0.length : Int) x14_1 = some r) ∧ Aside0 (kq ≤ k) ∧ Aside0 (Kd.S (Kd.slice 3 (Kd.int .i64)) 42 w' w.heap.size (fun _ => True) v3 x3_1) ∧ Aside0 (Below w.heap.size w w') ∧ Aside0 (MapI E120 w' mb x4_1.length x4_1))
 case atStart => exact ⟨(y105), ([] : List ((Int × Int) × Int)), (0), rs_, H', ⟨Nat.le_refl _⟩, ⟨sq_ HO107.out⟩, ⟨hb_⟩, ⟨by repeat (first | exact HM.out | apply MapI.alloc | apply MapI.drewN | apply MapI.drew)⟩⟩
 case round =>
  clear H'
  try clear p2
  try clear c4
  obtain ⟨x3_1, x4_1, x14_1, rfl, HA, HK1, HO_3, HB, HM⟩ := hrel
  cases gk with
  | zero => exact absurd HA.out (by simp [api_Move_2_int.l0])
  | succ k1 =>
   have H := HA.out
   clear HA
   simp only [api_Move_2_int.l0] at H
   by_cases c5 : x14_1 < (l0.length : Int)
   ·rw [if_pos c5] at H
    have c5b0 := decide_eq_true c5
    clear c5
    by_cases c6 : 0 ≤ x14_1
    ·rw [if_pos c6] at H
     have c6b0 := decide_eq_true c6
     clear c6
     by_cases c7 : x14_1 < (l0.length : Int)
     ·rw [if_pos c7] at H
      have c7b0 := decide_eq_true c7
      clear c7
      replace H := Option.bind_eq_some_iff.mp H
      obtain ⟨⟨t111, t112⟩, A80, H⟩ := H
      replace H : ((lookF good2 x4_1 (t111, t112)).bind fun bt114 => (if bt114.2 = true then (if 0 ≤ bt114.1 then (if bt114.1 < (x3_1.length : Int) then (if (rd_L3 x3_1 bt114.1).length < 17592186044416 then (api_Move_2_int.l0 k1 (x3_1.set (bt114.1 : Int).toNat ((rd_L3 x3_1 bt114.1) ++ [x14_1])) x4_1 l0 (l0.length : Int) (wrap64 (x14_1 + 1))) else (none)) else (none)) else (none)) else ((putF good2 x4_1 (t111, t112) (x3_1.length : Int)).bind fun t121 => (if x3_1.length < 5864062014805 then ((some (x3_1 ++ [[]] : List (List Int))).bind fun y122 => (if 0 ≤ (x3_1.length : Int) then (if (x3_1.length : Int) < (y122.length : Int) then (if (rd_L3 y122 (x3_1.length : Int)).length < 17592186044416 then (api_Move_2_int.l0 k1 (y122.set ((x3_1.length : Int) : Int).toNat ((rd_L3 y122 (x3_1.length : Int)) ++ [x14_1])) t121 l0 (l0.length : Int) (wrap64 (x14_1 + 1))) else (none)) else (none)) else (none))) else (none))))) = some r := H
      have A8 := am_ A80
      clear A80
      replace H := Option.bind_eq_some_iff.mp H
      obtain ⟨⟨t114, t115⟩, A90, H⟩ := H
      replace H : (if t115 = true then (if 0 ≤ t114 then (if t114 < (x3_1.length : Int) then (if (rd_L3 x3_1 t114).length < 17592186044416 then (api_Move_2_int.l0 k1 (x3_1.set (t114 : Int).toNat ((rd_L3 x3_1 t114) ++ [x14_1])) x4_1 l0 (l0.length : Int) (wrap64 (x14_1 + 1))) else (none)) else (none)) else (none)) else ((putF good2 x4_1 (t111, t112) (x3_1.length : Int)).bind fun t121 => (if x3_1.length < 5864062014805 then ((some (x3_1 ++ [[]] : List (List Int))).bind fun y122 => (if 0 ≤ (x3_1.length : Int) then (if (x3_1.length : Int) < (y122.length : Int) then (if (rd_L3 y122 (x3_1.length : Int)).length < 17592186044416 then (api_Move_2_int.l0 k1 (y122.set ((x3_1.length : Int) : Int).toNat ((rd_L3 y122 (x3_1.length : Int)) ++ [x14_1])) t121 l0 (l0.length : Int) (wrap64 (x14_1 + 1))) else (none)) else (none)) else (none))) else (none)))) = some r := H
      have A9 := am_ A90
      clear A90
      by_cases c10 : t115 = true
      ·subst c10
       have H1 : (if 0 ≤ t114 then (if t114 < (x3_1.length : Int) then (if (rd_L3 x3_1 t114).length < 17592186044416 then (api_Move_2_int.l0 k1 (x3_1.set (t114 : Int).toNat ((rd_L3 x3_1 t114) ++ [x14_1])) x4_1 l0 (l0.length : Int) (wrap64 (x14_1 + 1))) else (none)) else (none)) else (none)) = some r := by rw [if_pos rfl] at H; exact H
       clear H
       have H := H1
       clear H1
       by_cases c11 : 0 ≤ t114
       ·rw [if_pos c11] at H
        have c11b0 := decide_eq_true c11
        clear c11
        by_cases c12 : t114 < (x3_1.length : Int)
        ·rw [if_pos c12] at H
         have c12b0 := decide_eq_true c12
         clear c12
         by_cases c13 : (rd_L3 x3_1 t114).length < 17592186044416
         ·rw [if_pos c13] at H
          have LMc13 := am_ c13
          clear c13
          obtain ⟨y117, hy117⟩ : ∃ y_ : List Int, y_ = ((rd_L3 x3_1 t114) ++ [x14_1]) := ⟨_, rfl⟩
          replace H : (api_Move_2_int.l0 k1 (x3_1.set (t114 : Int).toNat y117) x4_1 l0 (l0.length : Int) (wrap64 (x14_1 + 1))) = some r := by first | (rw [hy117]; with_reducible exact H) | (have H2_ := (Option.bind_some _ _).symm.trans H; rw [hy117]; with_reducible exact H2_) | (have H2_ := (Option.bind_some _ _).symm.trans H; with_reducible exact H2_) | with_reducible exact H | (rw [hy117]; exact H) | exact H
          have Ny117 := am_ hy117
          clear hy117
          obtain ⟨y120, hy120⟩ : ∃ y_ : List (List Int), y_ = (x3_1.set (t114 : Int).toNat y117) := ⟨_, rfl⟩
          replace H : (api_Move_2_int.l0 k1 y120 x4_1 l0 (l0.length : Int) (wrap64 (x14_1 + 1))) = some r := by first | (rw [hy120]; with_reducible exact H) | (have H2_ := (Option.bind_some _ _).symm.trans H; rw [hy120]; with_reducible exact H2_) | (have H2_ := (Option.bind_some _ _).symm.trans H; with_reducible exact H2_) | with_reducible exact H | (rw [hy120]; exact H) | exact H
          have Ny120 := am_ hy120
          clear hy120
          have H' := am_ H
          clear H
          have p109 := od_ (p := 0 ≤ (x14_1 : Int))
          have q109 := od_ (p := x14_1 < (l0.length : Int))
          obtain ⟨ad109, e109, hx109_0, hx109_1, hx109_2⟩ := tr3_ HB.out (at_T85 HR0.out x14_1 p109 q109)
          cases e109
          replace p109 := eq_true p109
          replace q109 := eq_true q109
          go_wp2_with (first | ((with_reducible refine gate_dst (N := 8) rfl ?_); refine box_event ?hg (N := 8) ?hd (cs := #[.int .i64 0, .int .i64 0, .int .i64 0]) (t := 85) ?hr ?_; (case hd => rfl); (case hg => rfl); (case hr => first | (go_simp; done) | (go_simp; rfl)); intro gb110 hg w15 hbox hb; have nM_ := am_ (show MapI E120 _ mb x4_1.length x4_1 from MapI.below (by repeat (first | (with_reducible first | exact HM.out | apply MapI.alloc | apply MapI.drewN | apply MapI.drew))) hb); have n0_ := am_ (Kd.S_below (sq_ HO_3.out) hb); have n1_ := am_ (below_step hb_ hb); have n2_ := am_ (hbox); have n4_ := am_ ((by rw [hg]; exact (below_size hb_) : w.heap.size ≤ gb110)); clear HO_3; clear HB; have HO_3 := n0_; have HB := n1_; have BK110 := n2_; have GE110 := n4_; clear HM; have HM := nM_; clear nM_; clear n0_ n1_ n2_ n4_; clear hb hbox hg; obtain ⟨hcz16_0, hcz16_1, hcz16_2, hfz16_0, hfz16_1, hfz16_2⟩ := cf3_ BK110.out) | ((with_reducible refine gate_calleev (t := 21) rfl ?_); refine goesV_ (some 23) rfl rfl Try.func75 (by kernel_rfl) rfl #[.agg #[.int .i64 ((rd_T85 l0 x14_1).f0), .int .i64 ((rd_T85 l0 x14_1).f1), .int .i64 ((rd_T85 l0 x14_1).f2)]] rfl rfl mt_ ?_; (with_reducible refine (table_Moves_1.calls ((rd_T85 l0 x14_1).f0) ((rd_T85 l0 x14_1).f1) ((rd_T85 l0 x14_1).f2) t111 t112 _ A8.out).mono ?_); rintro e w17 ⟨rfl, hb⟩; refine ⟨_, rfl, ?_⟩; have nM_ := am_ (show MapI E120 _ mb x4_1.length x4_1 from MapI.below q13_ hb); have n0_ := am_ (Kd.S_below q21_ hb); have n1_ := am_ (blk_below (g := gb110) (o := .cells #[.int .i64 ((rd_T85 l0 x14_1).f0), .int .i64 ((rd_T85 l0 x14_1).f1), .int .i64 ((rd_T85 l0 x14_1).f2)] 85 (0, 0)) q20_ hb); have n2_ := am_ (below_step hb_ hb); clear HO_3; clear BK110; clear HB; have HO_3 := n0_; have BK110 := n1_; have HB := n2_; clear HM; have HM := nM_; clear nM_; clear n0_ n1_ n2_; (try clear hb); (try clear hb2); (try clear hk); (try clear hi)) | ((with_reducible refine gate_dst (N := 9) rfl ?_); refine box_event ?hg (N := 9) ?hd (cs := #[.int .i64 0, .int .i64 0]) (t := 120) ?hr ?_; (case hd => rfl); (case hg => rfl); (case hr => first | (go_simp; done) | (go_simp; rfl)); intro gb113 hg w18 hbox hb; have nM_ := am_ (show MapI E120 _ mb x4_1.length x4_1 from MapI.below q13_ hb); have n0_ := am_ (Kd.S_below (sq_ HO_3.out) hb); have n1_ := am_ (bb_ BK110.out hb); have n2_ := am_ (below_step hb_ hb); have n3_ := am_ (hbox); have n5_ := am_ ((by rw [hg]; exact (below_size hb_) : w.heap.size ≤ gb113)); have n6_ := am_ (nl_ BK110.out hg); have n7_ := am_ (ng_ BK110.out hg); clear HO_3; clear BK110; clear HB; have HO_3 := n0_; have BK110 := n1_; have HB := n2_; have BK113 := n3_; have GE113 := n5_; have NB110_113 := n6_; have NB113_110 := n7_; clear HM; have HM := nM_; clear nM_; clear n0_ n1_ n2_ n3_ n5_ n6_ n7_; clear hb hbox hg; have hnb19 := NB113_110.out; have hnc19 := NB110_113.out; obtain ⟨hcz20_0, hcz20_1, hfz20_0, hfz20_1⟩ := cf2_ BK113.out) | ((with_reducible refine gate_dst (N := 27) rfl ?_); refine mlook E120 _ rfl _ _ 131 rfl Try.underlying131 rfl (show MapI E120 _ mb x4_1.length x4_1 from q1_) (t111, t112) rfl (good2_ok (lookF_some A9.out).1) ?_; intro w21 hb; have hLK := (lookF_some A9.out).2; rw [hLK.1, hLK.2]; clear hLK; have nM_ := am_ (show MapI E120 _ mb x4_1.length x4_1 from MapI.below q1_ hb); have n0_ := am_ (Kd.S_below (by refine sq_ ?_; exact (Kd.S_mono (Kd.S_far (p := ⟨gb113, 1, none⟩) (Kd.S_far (p := ⟨gb113, 0, none⟩) (Kd.S_types HO_3.out BK113.out (by decide)) (fun _ hk => hk.2) (.int .i64 t111)) (fun _ hk => hk.2) (.int .i64 t112)) (fun _ h_ => h_.1))) hb); have n1_ := am_ (blk_below (g := gb110) (o := .cells #[.int .i64 ((rd_T85 l0 x14_1).f0), .int .i64 ((rd_T85 l0 x14_1).f1), .int .i64 ((rd_T85 l0 x14_1).f2)] 85 (0, 0)) (by refine bq_ ?_; refine blk_far ?_ NB110_113.out _; refine bq_ ?_; refine blk_far ?_ NB110_113.out _; refine bq_ ?_; exact BK110.out) hb); have n2_ := am_ (blk_below (g := gb113) (o := .cells #[.int .i64 t111, .int .i64 t112] 120 (0, 0)) (by refine bq_ ?_; refine blk_put (cs := #[.int .i64 t111, .int .i64 0]) ?_ 1 _ rfl; refine bq_ ?_; refine blk_put (cs := #[.int .i64 0, .int .i64 0]) ?_ 0 _ rfl; refine bq_ ?_; exact BK113.out) hb); have n3_ := am_ (below_step hb_ hb); clear HO_3; clear BK110; clear BK113; clear HB; have HO_3 := n0_; have BK110 := n1_; have BK113 := n2_; have HB := n3_; clear HM; have HM := nM_; clear nM_; clear n0_ n1_ n2_ n3_; (try clear hb); (try clear hb2); (try clear hk); (try clear hi); obtain ⟨Ao22, co22, eo22⟩ := Kd.S_slice HO_3.out; subst eo22; have p116 : 0 ≤ (t114 : Int) := of_decide_eq_true sm_; have q116 : t114 < (x3_1.length : Int) := of_decide_eq_true sm_; obtain ⟨ad116, A116_0, c116_0, e116, hx116_0, hl116_0, hi116_0⟩ := at_L3 (Kd.S_reads' HO_3.out).2.2 t114 p116 q116; cases e116; obtain ⟨ce116, hce116, hMe116, hcc116⟩ := Kd.S_get HO_3.out [] t114 p116 (by first | exact q116 | exact of_decide_eq_true sm_ | (have e_ := (Kd.S_reads' HO_3.out).1; omega)); obtain ⟨ve116_0, rfl, ge116_0⟩ := hMe116; have hv116_0 := hcc116 0 _ rfl; rw [Nat.add_zero, show ((Kd.slice 3 (Kd.int .i64))).sz = 1 from rfl, Nat.mul_one] at hv116_0; replace hv116_0 := Option.some.inj (hv116_0.symm.trans hx116_0); rw [hv116_0] at ge116_0; have HL116_0 := am_ (show Kd.R (Kd.int .i64) 3 _ _ _ _ (rd_L3 x3_1 t114) from ge116_0); clear hv116_0 ge116_0; have HX116_0 := am_ hx116_0; clear hcc116 hce116; have HR116_0 := am_ hi116_0; have HC116_0 := am_ hl116_0; clear hi116_0 hl116_0; replace p116 := eq_true p116; replace q116 := eq_true q116; obtain ⟨go23, co23, eo23, gb23, gl23, cl23, HG23⟩ := Kd.S_form HO_3.out (by have h_ : (t114 : Int) < ((x3_1.length : Int) : Int) := of_decide_eq_true sm_; have h2_ : 0 ≤ (t114 : Int) := (of_decide_eq_true sm_); omega); (first | cases eo23 | (injection eo23 with ea_ en_ ec_; (first | subst ea_ | (injection ea_ with ea_; subst ea_)); subst ec_; clear en_)); have GB23 := am_ gb23; have GG23 := am_ HG23; clear gb23 gl23 HG23; (first | simp only [add_plain] at hx116_0 | skip); obtain ⟨oki23, ce23, hcl23, hM23, hcc23, _, _, hH23⟩ := Kd.S_elem HO_3.out [] (t114 : Int) (of_decide_eq_true sm_) (by have h_ : (t114 : Int) < ((x3_1.length : Int) : Int) := of_decide_eq_true sm_; first | exact h_ | (have e_ := (Kd.S_reads' HO_3.out).1; omega) | simpa using h_); obtain ⟨ve23_0, rfl, ge23_0⟩ := hM23; have hv23 := hcc23 0 _ rfl; have hX23 := HX116_0.out; (try simp only [add_plain] at hX23); (try simp only [Nat.add_zero] at hv23); (try rw [show ((Kd.slice 3 (Kd.int .i64))).sz = 1 from rfl, Nat.mul_one] at hv23); replace hv23 := Option.some.inj (hv23.symm.trans hX23); subst hv23; clear hX23 hcc23 hcl23; have UU23 := am_ (show Kd.R (Kd.int .i64) 3 _ w.heap.size oki23 (.slice A116_0 (rd_L3 x3_1 t114).length c116_0) (rd_L3 x3_1 t114) from ge23_0); have HH23 := am_ hH23; have HN23 := am_ (Kd.S_reads' HO_3.out).1; clear hH23 ge23_0) | ((with_reducible refine gate_builtin (b := .append) (xs := #[.tmp 45, .tmp 47]) rfl ?_); at_builtin; refine Kd.R_append (Kd.int .i64) (w0 := w) w.heap.size rfl (.tmp 45) (.tmp 47) 42 3 (.int .i64 0) 8 rfl Try.underlying42 info3 rfl (by decide) (by omega) (.slice A116_0 (rd_L3 x3_1 t114).length c116_0) (rd_L3 x3_1 t114) x14_1 [.int .i64 x14_1] (fun k_ => oki23 k_ ∨ ((fun _ => True)) k_ ∧ w21.heap.size ≤ k_) (fun _ => False) rfl rfl ?aP (fun _ hk => hk.elim) ?aF ?aO ?aB ?aS ?aL ?_; (case aP => exact rfl); (case aB => exact hb_); (case aF => exact (fun k_ hk => .inr ⟨trivial, hk⟩)); (case aO => exact (by refine rq_ ?_; exact Kd.R_mono UU23.out (fun _ hk => .inl hk))); (case aS => exact (below_size hb_)); (case aL => have := LMc13.out; omega); intro v118 w24 ho hb hg hat; rw [← Ny117.out] at ho; have nM_ := am_ (show MapI E120 _ mb x4_1.length x4_1 from MapI.grownT q1_ hg (Kd.R_typed HL116_0.out)); have n0_ := am_ (bg_ BK110.out hg (Kd.R_ne HL116_0.out BK110.out (by decide))); have n1_ := am_ (bg_ BK113.out hg (Kd.R_ne HL116_0.out BK113.out (by decide))); have n2_ := am_ (hb); have n3_ := am_ (Kd.H_grown (Kd.H_widen (by repeat (first | exact HH23.out | refine Kd.H_alloc ?_ _ | refine Kd.H_drewN ?_ _ | refine Kd.H_drew ?_))) hg (fun k_ e_ => .inl (UU23.out.1 k_ e_))); have n4_ := am_ (ho); clear BK110; clear BK113; clear HB; clear HH23; clear HO_3; clear UU23; clear HL116_0; have BK110 := n0_; have BK113 := n1_; have HB := n2_; have HH23 := n3_; have HO119 := n4_; clear HM; have HM := nM_; clear nM_; clear n0_ n1_ n2_ n3_ n4_; clear ho hb hg hat; have p14 : 0 ≤ (t114 : Int) := of_decide_eq_true sm_; have q14 : (t114 : Int) < ((x3_1.length : Int) : Int) := of_decide_eq_true sm_; replace p14 := eq_true p14; replace q14 := eq_true q14; obtain ⟨Ao27, co27, eo27⟩ := Kd.R_slice HO119.out; subst eo27; obtain ⟨_, _, hraw25, _, _, hcc25, _⟩ := Kd.H_raw HH23.out (of_decide_eq_true sm_) (by have h_ : (t114 : Int) < ((x3_1.length : Int) : Int) := of_decide_eq_true sm_; first | exact h_ | (have e_ := (HN23.out); omega) | simpa using h_); obtain ⟨_, hfr25⟩ := Kd.H_at HH23.out (of_decide_eq_true sm_) (by have h_ : (t114 : Int) < ((x3_1.length : Int) : Int) := of_decide_eq_true sm_; first | exact h_ | (have e_ := (HN23.out); omega) | simpa using h_); have hx25_0 := hcc25 0 _ rfl; have hf25_0 := hfr25 0; (try simp only [Go.IntWalk.toNatUp] at hx25_0); (try simp only [Go.IntWalk.toNatUp] at hf25_0); (try simp only [Nat.add_zero] at hx25_0 hf25_0); (try rw [show ((Kd.slice 3 (Kd.int .i64))).sz = 1 from rfl, Nat.mul_one] at hx25_0); (try rw [show ((Kd.slice 3 (Kd.int .i64))).sz = 1 from rfl, Nat.mul_one] at hf25_0); have HP25 := Kd.S_seg0 HH23.out (of_decide_eq_true sm_) (by have h_ : (t114 : Int) < ((x3_1.length : Int) : Int) := of_decide_eq_true sm_; first | exact h_ | (have e_ := (HN23.out); omega) | simpa using h_) (seg := [.slice Ao27 y117.length co27]) (j := 0) (show 1 ≤ 1 from by decide) (x' := y117) (Kd.M_row HO119.out) (fun _ hk => hk); (try simp only [show ((Kd.slice 3 (Kd.int .i64))).sz = 1 from rfl, Nat.mul_one, Nat.add_zero] at HP25); clear hcc25 hfr25) | ((with_reducible refine gate_store (t := 42) (p := 49) rfl ?_); refine store_event (t := 42) (p := 49) (v := ?vo_w26) (w1 := (w24.setCell ⟨go23, (t114 : Int).toNat, none⟩ (.slice Ao27 y117.length co27))) ?hg ?ho ?hn ?hr ?_; (case ho => rfl); (case hg => rfl); (case hn => rfl); (case hr => first | (go_simp; done) | (go_simp; rfl)); intro w26 hw; have hg : w24.grownBy w26 (some go23) := (by rw [hw]; exact HP25.2); have hp_ : Kd.S (Kd.slice 3 (Kd.int .i64)) 42 w26 w.heap.size (fun _ => True) (.slice (some ⟨go23, 0, none⟩) x3_1.length co22) y120 := (by rw [hw, Ny120.out]; exact HP25.1); clear HP25; have nM_ := am_ (show MapI E120 _ mb x4_1.length x4_1 from MapI.grownT q1_ hg (Kd.R_typed hraw25)); have n0_ := am_ (bg_ BK110.out hg (Kd.R_ne hraw25 BK110.out (by decide))); have n1_ := am_ (bg_ BK113.out hg (Kd.R_ne hraw25 BK113.out (by decide))); have n2_ := am_ ((by rw [hw]; exact below_set HB.out GB23.out : Below w.heap.size w w26)); have n3_ := am_ (hp_); clear BK110; clear BK113; clear HB; clear HO119; clear HH23; have BK110 := n0_; have BK113 := n1_; have HB := n2_; have HO_3 := n3_; clear HM; have HM := nM_; clear nM_; clear n0_ n1_ n2_ n3_; clear hg hw hp_ hraw25))
          go_roundg k1
          case measure => have := HK1.out; omega
          case rel => exact ⟨(y120), (x4_1), (wrap64 (x14_1 + 1)), rs_, H', ⟨by have := HK1.out; omega⟩, ⟨sq_ HO_3.out⟩, ⟨hb_⟩, ⟨by repeat (first | exact HM.out | apply MapI.alloc | apply MapI.drewN | apply MapI.drew)⟩⟩
         ·rw [if_neg c13] at H
          exact absurd H (by simp)
        ·rw [if_neg c12] at H
         exact absurd H (by simp)
       ·rw [if_neg c11] at H
        exact absurd H (by simp)
      ·replace c10 := Bool.eq_false_iff.mpr c10
       subst c10
       have H1 : ((putF good2 x4_1 (t111, t112) (x3_1.length : Int)).bind fun t121 => (if x3_1.length < 5864062014805 then ((some (x3_1 ++ [[]] : List (List Int))).bind fun y122 => (if 0 ≤ (x3_1.length : Int) then (if (x3_1.length : Int) < (y122.length : Int) then (if (rd_L3 y122 (x3_1.length : Int)).length < 17592186044416 then (api_Move_2_int.l0 k1 (y122.set ((x3_1.length : Int) : Int).toNat ((rd_L3 y122 (x3_1.length : Int)) ++ [x14_1])) t121 l0 (l0.length : Int) (wrap64 (x14_1 + 1))) else (none)) else (none)) else (none))) else (none))) = some r := by rw [if_neg (show ¬ (false = true) by decide)] at H; exact H
       clear H
       have H := H1
       clear H1
       replace H := Option.bind_eq_some_iff.mp H
       obtain ⟨t121, A280, H⟩ := H
       replace H : (if x3_1.length < 5864062014805 then ((some (x3_1 ++ [[]] : List (List Int))).bind fun y122 => (if 0 ≤ (x3_1.length : Int) then (if (x3_1.length : Int) < (y122.length : Int) then (if (rd_L3 y122 (x3_1.length : Int)).length < 17592186044416 then (api_Move_2_int.l0 k1 (y122.set ((x3_1.length : Int) : Int).toNat ((rd_L3 y122 (x3_1.length : Int)) ++ [x14_1])) t121 l0 (l0.length : Int) (wrap64 (x14_1 + 1))) else (none)) else (none)) else (none))) else (none)) = some r := H
       have A28 := am_ A280
       clear A280
       by_cases c29 : x3_1.length < 5864062014805
       ·rw [if_pos c29] at H
        have LMc29 := am_ c29
        clear c29
        obtain ⟨y122, hy122⟩ : ∃ y_ : List (List Int), y_ = (x3_1 ++ [[]]) := ⟨_, rfl⟩
        replace H : (if 0 ≤ (x3_1.length : Int) then (if (x3_1.length : Int) < (y122.length : Int) then (if (rd_L3 y122 (x3_1.length : Int)).length < 17592186044416 then (api_Move_2_int.l0 k1 (y122.set ((x3_1.length : Int) : Int).toNat ((rd_L3 y122 (x3_1.length : Int)) ++ [x14_1])) t121 l0 (l0.length : Int) (wrap64 (x14_1 + 1))) else (none)) else (none)) else (none)) = some r := by first | (rw [hy122]; with_reducible exact H) | (have H2_ := (Option.bind_some _ _).symm.trans H; rw [hy122]; with_reducible exact H2_) | (have H2_ := (Option.bind_some _ _).symm.trans H; with_reducible exact H2_) | with_reducible exact H | (rw [hy122]; exact H) | exact H
        have Ny122 := am_ hy122
        clear hy122
        by_cases c30 : 0 ≤ (x3_1.length : Int)
        ·rw [if_pos c30] at H
         have c30b0 := decide_eq_true c30
         have c30b1 : decide (0 ≤ x3_1.length) = true := decide_eq_true (by omega)
         clear c30
         by_cases c31 : (x3_1.length : Int) < (y122.length : Int)
         ·rw [if_pos c31] at H
          have c31b0 := decide_eq_true c31
          have c31b1 : decide (x3_1.length < y122.length) = true := decide_eq_true (Int.ofNat_lt.mp c31)
          clear c31
          by_cases c32 : (rd_L3 y122 (x3_1.length : Int)).length < 17592186044416
          ·rw [if_pos c32] at H
           have LMc32 := am_ c32
           clear c32
           obtain ⟨y126, hy126⟩ : ∃ y_ : List Int, y_ = ((rd_L3 y122 (x3_1.length : Int)) ++ [x14_1]) := ⟨_, rfl⟩
           replace H : (api_Move_2_int.l0 k1 (y122.set ((x3_1.length : Int) : Int).toNat y126) t121 l0 (l0.length : Int) (wrap64 (x14_1 + 1))) = some r := by first | (rw [hy126]; with_reducible exact H) | (have H2_ := (Option.bind_some _ _).symm.trans H; rw [hy126]; with_reducible exact H2_) | (have H2_ := (Option.bind_some _ _).symm.trans H; with_reducible exact H2_) | with_reducible exact H | (rw [hy126]; exact H) | exact H
           have Ny126 := am_ hy126
           clear hy126
           obtain ⟨y129, hy129⟩ : ∃ y_ : List (List Int), y_ = (y122.set ((x3_1.length : Int) : Int).toNat y126) := ⟨_, rfl⟩
           replace H : (api_Move_2_int.l0 k1 y129 t121 l0 (l0.length : Int) (wrap64 (x14_1 + 1))) = some r := by first | (rw [hy129]; with_reducible exact H) | (have H2_ := (Option.bind_some _ _).symm.trans H; rw [hy129]; with_reducible exact H2_) | (have H2_ := (Option.bind_some _ _).symm.trans H; with_reducible exact H2_) | with_reducible exact H | (rw [hy129]; exact H) | exact H
           have Ny129 := am_ hy129
           clear hy129
           have H' := am_ H
           clear H
           have p109 := od_ (p := 0 ≤ (x14_1 : Int))
           have q109 := od_ (p := x14_1 < (l0.length : Int))
           obtain ⟨ad109, e109, hx109_0, hx109_1, hx109_2⟩ := tr3_ HB.out (at_T85 HR0.out x14_1 p109 q109)
           cases e109
           replace p109 := eq_true p109
           replace q109 := eq_true q109
           go_wp2_with (first | ((with_reducible refine gate_dst (N := 8) rfl ?_); refine box_event ?hg (N := 8) ?hd (cs := #[.int .i64 0, .int .i64 0, .int .i64 0]) (t := 85) ?hr ?_; (case hd => rfl); (case hg => rfl); (case hr => first | (go_simp; done) | (go_simp; rfl)); intro gb110 hg w34 hbox hb; have nM_ := am_ (show MapI E120 _ mb x4_1.length x4_1 from MapI.below (by repeat (first | (with_reducible first | exact HM.out | apply MapI.alloc | apply MapI.drewN | apply MapI.drew))) hb); have n0_ := am_ (Kd.S_below (sq_ HO_3.out) hb); have n1_ := am_ (below_step hb_ hb); have n2_ := am_ (hbox); have n4_ := am_ ((by rw [hg]; exact (below_size hb_) : w.heap.size ≤ gb110)); clear HO_3; clear HB; have HO_3 := n0_; have HB := n1_; have BK110 := n2_; have GE110 := n4_; clear HM; have HM := nM_; clear nM_; clear n0_ n1_ n2_ n4_; clear hb hbox hg; obtain ⟨hcz35_0, hcz35_1, hcz35_2, hfz35_0, hfz35_1, hfz35_2⟩ := cf3_ BK110.out) | ((with_reducible refine gate_calleev (t := 21) rfl ?_); refine goesV_ (some 23) rfl rfl Try.func75 (by kernel_rfl) rfl #[.agg #[.int .i64 ((rd_T85 l0 x14_1).f0), .int .i64 ((rd_T85 l0 x14_1).f1), .int .i64 ((rd_T85 l0 x14_1).f2)]] rfl rfl mt_ ?_; (with_reducible refine (table_Moves_1.calls ((rd_T85 l0 x14_1).f0) ((rd_T85 l0 x14_1).f1) ((rd_T85 l0 x14_1).f2) t111 t112 _ A8.out).mono ?_); rintro e w36 ⟨rfl, hb⟩; refine ⟨_, rfl, ?_⟩; have nM_ := am_ (show MapI E120 _ mb x4_1.length x4_1 from MapI.below q13_ hb); have n0_ := am_ (Kd.S_below q21_ hb); have n1_ := am_ (blk_below (g := gb110) (o := .cells #[.int .i64 ((rd_T85 l0 x14_1).f0), .int .i64 ((rd_T85 l0 x14_1).f1), .int .i64 ((rd_T85 l0 x14_1).f2)] 85 (0, 0)) q20_ hb); have n2_ := am_ (below_step hb_ hb); clear HO_3; clear BK110; clear HB; have HO_3 := n0_; have BK110 := n1_; have HB := n2_; clear HM; have HM := nM_; clear nM_; clear n0_ n1_ n2_; (try clear hb); (try clear hb2); (try clear hk); (try clear hi)) | ((with_reducible refine gate_dst (N := 9) rfl ?_); refine box_event ?hg (N := 9) ?hd (cs := #[.int .i64 0, .int .i64 0]) (t := 120) ?hr ?_; (case hd => rfl); (case hg => rfl); (case hr => first | (go_simp; done) | (go_simp; rfl)); intro gb113 hg w37 hbox hb; have nM_ := am_ (show MapI E120 _ mb x4_1.length x4_1 from MapI.below q13_ hb); have n0_ := am_ (Kd.S_below (sq_ HO_3.out) hb); have n1_ := am_ (bb_ BK110.out hb); have n2_ := am_ (below_step hb_ hb); have n3_ := am_ (hbox); have n5_ := am_ ((by rw [hg]; exact (below_size hb_) : w.heap.size ≤ gb113)); have n6_ := am_ (nl_ BK110.out hg); have n7_ := am_ (ng_ BK110.out hg); clear HO_3; clear BK110; clear HB; have HO_3 := n0_; have BK110 := n1_; have HB := n2_; have BK113 := n3_; have GE113 := n5_; have NB110_113 := n6_; have NB113_110 := n7_; clear HM; have HM := nM_; clear nM_; clear n0_ n1_ n2_ n3_ n5_ n6_ n7_; clear hb hbox hg; have hnb38 := NB113_110.out; have hnc38 := NB110_113.out; obtain ⟨hcz39_0, hcz39_1, hfz39_0, hfz39_1⟩ := cf2_ BK113.out) | ((with_reducible refine gate_dst (N := 27) rfl ?_); refine mlook E120 _ rfl _ _ 131 rfl Try.underlying131 rfl (show MapI E120 _ mb x4_1.length x4_1 from q1_) (t111, t112) rfl (good2_ok (lookF_some A9.out).1) ?_; intro w40 hb; have hLK := (lookF_some A9.out).2; rw [hLK.1, hLK.2]; clear hLK; have nM_ := am_ (show MapI E120 _ mb x4_1.length x4_1 from MapI.below q1_ hb); have n0_ := am_ (Kd.S_below (by refine sq_ ?_; exact (Kd.S_mono (Kd.S_far (p := ⟨gb113, 1, none⟩) (Kd.S_far (p := ⟨gb113, 0, none⟩) (Kd.S_types HO_3.out BK113.out (by decide)) (fun _ hk => hk.2) (.int .i64 t111)) (fun _ hk => hk.2) (.int .i64 t112)) (fun _ h_ => h_.1))) hb); have n1_ := am_ (blk_below (g := gb110) (o := .cells #[.int .i64 ((rd_T85 l0 x14_1).f0), .int .i64 ((rd_T85 l0 x14_1).f1), .int .i64 ((rd_T85 l0 x14_1).f2)] 85 (0, 0)) (by refine bq_ ?_; refine blk_far ?_ NB110_113.out _; refine bq_ ?_; refine blk_far ?_ NB110_113.out _; refine bq_ ?_; exact BK110.out) hb); have n2_ := am_ (blk_below (g := gb113) (o := .cells #[.int .i64 t111, .int .i64 t112] 120 (0, 0)) (by refine bq_ ?_; refine blk_put (cs := #[.int .i64 t111, .int .i64 0]) ?_ 1 _ rfl; refine bq_ ?_; refine blk_put (cs := #[.int .i64 0, .int .i64 0]) ?_ 0 _ rfl; refine bq_ ?_; exact BK113.out) hb); have n3_ := am_ (below_step hb_ hb); clear HO_3; clear BK110; clear BK113; clear HB; have HO_3 := n0_; have BK110 := n1_; have BK113 := n2_; have HB := n3_; clear HM; have HM := nM_; clear nM_; clear n0_ n1_ n2_ n3_; (try clear hb); (try clear hb2); (try clear hk); (try clear hi); obtain ⟨Ao41, co41, eo41⟩ := Kd.S_slice HO_3.out; subst eo41; obtain ⟨hcz42_0, hcz42_1, hfz42_0, hfz42_1⟩ := cf2_ BK113.out) | (at_mapUpdate; refine mput E120 _ rfl _ _ _ 131 rfl Try.underlying131 rfl (show MapI E120 _ mb x4_1.length x4_1 from q1_) (t111, t112) (x3_1.length : Int) rfl rfl (good2_ok (putF_some A28.out).1) (putF_some A28.out).2.1 (by have := (putF_some A28.out).2.2.1; exact Nat.lt_trans this (by decide)) ?_; intro w43 hM_ hg; have nM_ := am_ (show MapI E120 _ mb t121.length t121 from by rw [(putF_some A28.out).2.2.2, List.length_append]; exact hM_); have n0_ := am_ (Kd.S_mono (Kd.S_grown (Kd.S_nomap' (sq_ HO_3.out) (MapI.block (show MapI E120 _ mb x4_1.length x4_1 from q1_))) hg (fun k_ hk e_ => hk.2 (Option.some.inj e_))) (fun _ hk => hk.1)); have n1_ := am_ (bg_ BK110.out hg (fun e_ => MapI.ne HM.out BK110.out (Option.some.inj e_))); have n2_ := am_ (bg_ BK113.out hg (fun e_ => MapI.ne HM.out BK113.out (Option.some.inj e_))); have n3_ := am_ (Below.grown hb_ hg (below_size hb_) (fun k_ e_ => by injection e_ with e_; subst e_; exact GM.out)); clear HO_3; clear BK110; clear BK113; clear HB; have HO_3 := n0_; have BK110 := n1_; have BK113 := n2_; have HB := n3_; clear HM; have HM := nM_; clear nM_; clear n0_ n1_ n2_ n3_; (try clear hb); clear hg hM_; (try clear hb2); (try clear hk); (try clear hi)) | ((with_reducible refine gate_builtin (b := .append) (xs := #[.tmp 37, .tmp 38]) rfl ?_); at_builtin; refine Kd.S_append (Kd.slice 3 (Kd.int .i64)) (w0 := w) w.heap.size rfl (.tmp 37) (.tmp 38) 92 42 (.slice none 0 0) 24 rfl Try.underlying92 info42 rfl (by decide) (by omega) (.slice Ao41 x3_1.length co41) x3_1 [] [.slice none 0 0] (fun _ => True) (fun _ => False) rfl rfl ?aP (fun _ hk => hk.elim) ?aF ?aO ?aB ?aS ?aL ?_; (case aP => exact Kd.M_row (Kd.R_nil _ _ _ _ _)); (case aB => exact hb_); (case aF => exact (fun _ _ => trivial)); (case aO => exact (by refine sq_ ?_; exact Kd.S_mono HO_3.out (fun k_ hk => ⟨trivial, fun e_ => e_⟩))); (case aS => exact (below_size hb_)); (case aL => have := LMc29.out; omega); intro v123 w44 ho hb hg hat; rw [← Ny122.out] at ho; have nM_ := am_ (show MapI E120 _ mb t121.length t121 from MapI.grownT q1_ hg (Kd.S_typed HO_3.out)); have n0_ := am_ (bg_ BK110.out hg (Kd.S_ne HO_3.out BK110.out (by decide))); have n1_ := am_ (bg_ BK113.out hg (Kd.S_ne HO_3.out BK113.out (by decide))); have n2_ := am_ (hb); have n3_ := am_ (ho); clear BK110; clear BK113; clear HB; clear HO_3; have BK110 := n0_; have BK113 := n1_; have HB := n2_; have HO124 := n3_; clear HM; have HM := nM_; clear nM_; clear n0_ n1_ n2_ n3_; clear ho hb hg hat; obtain ⟨Ao45, co45, eo45⟩ := Kd.S_slice HO124.out; subst eo45; have p125 : 0 ≤ ((x3_1.length : Int) : Int) := of_decide_eq_true sm_; have q125 : (x3_1.length : Int) < (y122.length : Int) := of_decide_eq_true sm_; obtain ⟨ad125, A125_0, c125_0, e125, hx125_0, hl125_0, hi125_0⟩ := at_L3 (Kd.S_reads' HO124.out).2.2 (x3_1.length : Int) p125 q125; cases e125; obtain ⟨ce125, hce125, hMe125, hcc125⟩ := Kd.S_get HO124.out [] (x3_1.length : Int) p125 (by first | exact q125 | exact of_decide_eq_true sm_ | (have e_ := (Kd.S_reads' HO124.out).1; omega)); obtain ⟨ve125_0, rfl, ge125_0⟩ := hMe125; have hv125_0 := hcc125 0 _ rfl; rw [Nat.add_zero, show ((Kd.slice 3 (Kd.int .i64))).sz = 1 from rfl, Nat.mul_one] at hv125_0; replace hv125_0 := Option.some.inj (hv125_0.symm.trans hx125_0); rw [hv125_0] at ge125_0; have HL125_0 := am_ (show Kd.R (Kd.int .i64) 3 _ _ _ _ (rd_L3 y122 (x3_1.length : Int)) from ge125_0); clear hv125_0 ge125_0; have HX125_0 := am_ hx125_0; clear hcc125 hce125; have HR125_0 := am_ hi125_0; have HC125_0 := am_ hl125_0; clear hi125_0 hl125_0; (try simp only [Go.IntWalk.toNatUp] at hx125_0); replace p125 := eq_true p125; replace q125 := eq_true q125; obtain ⟨go46, co46, eo46, gb46, gl46, cl46, HG46⟩ := Kd.S_form HO124.out (by have h_ : ((x3_1.length : Int) : Int) < ((y122.length : Int) : Int) := of_decide_eq_true sm_; have h2_ : 0 ≤ ((x3_1.length : Int) : Int) := (of_decide_eq_true sm_); omega); (first | cases eo46 | (injection eo46 with ea_ en_ ec_; (first | subst ea_ | (injection ea_ with ea_; subst ea_)); subst ec_; clear en_)); have GB46 := am_ gb46; have GG46 := am_ HG46; clear gb46 gl46 HG46; (first | simp only [add_plain] at hx125_0 | skip); obtain ⟨oki46, ce46, hcl46, hM46, hcc46, _, _, hH46⟩ := Kd.S_elem HO124.out [] ((x3_1.length : Int) : Int) (of_decide_eq_true sm_) (by have h_ : ((x3_1.length : Int) : Int) < ((y122.length : Int) : Int) := of_decide_eq_true sm_; first | exact h_ | (have e_ := (Kd.S_reads' HO124.out).1; omega) | simpa using h_); obtain ⟨ve46_0, rfl, ge46_0⟩ := hM46; have hv46 := hcc46 0 _ rfl; have hX46 := HX125_0.out; (try simp only [add_plain] at hX46); (try simp only [Nat.add_zero] at hv46); (try rw [show ((Kd.slice 3 (Kd.int .i64))).sz = 1 from rfl, Nat.mul_one] at hv46); replace hv46 := Option.some.inj (hv46.symm.trans hX46); subst hv46; clear hX46 hcc46 hcl46; have UU46 := am_ (show Kd.R (Kd.int .i64) 3 _ w.heap.size oki46 (.slice A125_0 (rd_L3 y122 (x3_1.length : Int)).length c125_0) (rd_L3 y122 (x3_1.length : Int)) from ge46_0); have HH46 := am_ hH46; have HN46 := am_ (Kd.S_reads' HO124.out).1; clear hH46 ge46_0) | ((with_reducible refine gate_builtin (b := .append) (xs := #[.tmp 45, .tmp 47]) rfl ?_); at_builtin; refine Kd.R_append (Kd.int .i64) (w0 := w) w.heap.size rfl (.tmp 45) (.tmp 47) 42 3 (.int .i64 0) 8 rfl Try.underlying42 info3 rfl (by decide) (by omega) (.slice A125_0 (rd_L3 y122 (x3_1.length : Int)).length c125_0) (rd_L3 y122 (x3_1.length : Int)) x14_1 [.int .i64 x14_1] (fun k_ => oki46 k_ ∨ ((fun _ => True)) k_ ∧ w44.heap.size ≤ k_) (fun _ => False) rfl rfl ?aP (fun _ hk => hk.elim) ?aF ?aO ?aB ?aS ?aL ?_; (case aP => exact rfl); (case aB => exact hb_); (case aF => exact (fun k_ hk => .inr ⟨trivial, hk⟩)); (case aO => exact (by refine rq_ ?_; exact Kd.R_mono UU46.out (fun _ hk => .inl hk))); (case aS => exact (below_size hb_)); (case aL => have := LMc32.out; omega); intro v127 w47 ho hb hg hat; rw [← Ny126.out] at ho; have nM_ := am_ (show MapI E120 _ mb t121.length t121 from MapI.grownT q1_ hg (Kd.R_typed HL125_0.out)); have n0_ := am_ (bg_ BK110.out hg (Kd.R_ne HL125_0.out BK110.out (by decide))); have n1_ := am_ (bg_ BK113.out hg (Kd.R_ne HL125_0.out BK113.out (by decide))); have n2_ := am_ (hb); have n3_ := am_ (Kd.H_grown (Kd.H_widen (by repeat (first | exact HH46.out | refine Kd.H_alloc ?_ _ | refine Kd.H_drewN ?_ _ | refine Kd.H_drew ?_))) hg (fun k_ e_ => .inl (UU46.out.1 k_ e_))); have n4_ := am_ (ho); clear BK110; clear BK113; clear HB; clear HH46; clear HO124; clear UU46; clear HL125_0; have BK110 := n0_; have BK113 := n1_; have HB := n2_; have HH46 := n3_; have HO128 := n4_; clear HM; have HM := nM_; clear nM_; clear n0_ n1_ n2_ n3_ n4_; clear ho hb hg hat; have p33 : 0 ≤ ((x3_1.length : Int) : Int) := of_decide_eq_true sm_; have q33 : ((x3_1.length : Int) : Int) < ((y122.length : Int) : Int) := of_decide_eq_true sm_; replace p33 := eq_true p33; replace q33 := eq_true q33; obtain ⟨Ao50, co50, eo50⟩ := Kd.R_slice HO128.out; subst eo50; obtain ⟨_, _, hraw48, _, _, hcc48, _⟩ := Kd.H_raw HH46.out (of_decide_eq_true sm_) (by have h_ : ((x3_1.length : Int) : Int) < ((y122.length : Int) : Int) := of_decide_eq_true sm_; first | exact h_ | (have e_ := (HN46.out); omega) | simpa using h_); obtain ⟨_, hfr48⟩ := Kd.H_at HH46.out (of_decide_eq_true sm_) (by have h_ : ((x3_1.length : Int) : Int) < ((y122.length : Int) : Int) := of_decide_eq_true sm_; first | exact h_ | (have e_ := (HN46.out); omega) | simpa using h_); have hx48_0 := hcc48 0 _ rfl; have hf48_0 := hfr48 0; (try simp only [Go.IntWalk.toNatUp] at hx48_0); (try simp only [Go.IntWalk.toNatUp] at hf48_0); (try simp only [Nat.add_zero] at hx48_0 hf48_0); (try rw [show ((Kd.slice 3 (Kd.int .i64))).sz = 1 from rfl, Nat.mul_one] at hx48_0); (try rw [show ((Kd.slice 3 (Kd.int .i64))).sz = 1 from rfl, Nat.mul_one] at hf48_0); have HP48 := Kd.S_seg0 HH46.out (of_decide_eq_true sm_) (by have h_ : ((x3_1.length : Int) : Int) < ((y122.length : Int) : Int) := of_decide_eq_true sm_; first | exact h_ | (have e_ := (HN46.out); omega) | simpa using h_) (seg := [.slice Ao50 y126.length co50]) (j := 0) (show 1 ≤ 1 from by decide) (x' := y126) (Kd.M_row HO128.out) (fun _ hk => hk); (try simp only [show ((Kd.slice 3 (Kd.int .i64))).sz = 1 from rfl, Nat.mul_one, Nat.add_zero] at HP48); clear hcc48 hfr48) | ((with_reducible refine gate_store (t := 42) (p := 49) rfl ?_); refine store_event (t := 42) (p := 49) (v := ?vo_w49) (w1 := (w47.setCell ⟨go46, ((x3_1.length : Int) : Int).toNat, none⟩ (.slice Ao50 y126.length co50))) ?hg ?ho ?hn ?hr ?_; (case ho => rfl); (case hg => rfl); (case hn => rfl); (case hr => first | (go_simp; done) | (go_simp; rfl)); intro w49 hw; have hg : w47.grownBy w49 (some go46) := (by rw [hw]; exact HP48.2); have hp_ : Kd.S (Kd.slice 3 (Kd.int .i64)) 42 w49 w.heap.size (fun _ => True) (.slice (some ⟨go46, 0, none⟩) y122.length co45) y129 := (by rw [hw, Ny129.out]; exact HP48.1); clear HP48; have nM_ := am_ (show MapI E120 _ mb t121.length t121 from MapI.grownT q1_ hg (Kd.R_typed hraw48)); have n0_ := am_ (bg_ BK110.out hg (Kd.R_ne hraw48 BK110.out (by decide))); have n1_ := am_ (bg_ BK113.out hg (Kd.R_ne hraw48 BK113.out (by decide))); have n2_ := am_ ((by rw [hw]; exact below_set HB.out GB46.out : Below w.heap.size w w49)); have n3_ := am_ (hp_); clear BK110; clear BK113; clear HB; clear HO128; clear HH46; have BK110 := n0_; have BK113 := n1_; have HB := n2_; have HO124 := n3_; clear HM; have HM := nM_; clear nM_; clear n0_ n1_ n2_ n3_; clear hg hw hp_ hraw48))
           go_roundg k1
           case measure => have := HK1.out; omega
           case rel => exact ⟨(y129), (t121), (wrap64 (x14_1 + 1)), rs_, H', ⟨by have := HK1.out; omega⟩, ⟨sq_ HO124.out⟩, ⟨hb_⟩, ⟨by repeat (first | exact HM.out | apply MapI.alloc | apply MapI.drewN | apply MapI.drew)⟩⟩
          ·rw [if_neg c32] at H
           exact absurd H (by simp)
         ·rw [if_neg c31] at H
          exact absurd H (by simp)
        ·rw [if_neg c30] at H
         exact absurd H (by simp)
       ·rw [if_neg c29] at H
        exact absurd H (by simp)
     ·rw [if_neg c7] at H
      exact absurd H (by simp)
    ·rw [if_neg c6] at H
     exact absurd H (by simp)
   ·rw [if_neg c5] at H
    have c5b0 := decide_eq_false c5
    clear c5
    obtain rfl := Option.some.inj H
    go_wp2
    go_ret
    exact ⟨_, er_, by refine sq_ ?_; exact HO_3.out, hb_⟩
end Go.Proofs.Ytfhkkbpkajfdlaa.Q
end
section
namespace Go.Proofs.Ytfhkkbpkajfdlaa.Q
open Go.RowKit Go.Sort Go.Proofs.YtfhkkbpkajfdlaaW.PrintWords Go.Proofs.YtfhkkbpkajfdlaaW.PrintLast Go.Proofs.YtfhkkbpkajfdlaaW.PrintMore
structure FlatKd {α : Type} (d : Kd α) (enc : α → List Value) : Prop where
 hM : ∀ w base ok x cs, d.M w base ok x cs ↔ cs = enc x
 len : ∀ x, (enc x).length = d.sz
 one : ∀ x, ∀ v ∈ enc x, v.oneCell' = true
 pos : 0 < d.sz
section
variable {α : Type} [Inhabited α] {d : Kd α} {enc : α → List Value} {w : World} {base : Nat} {ok : Nat → Prop} {xs : List α} {inner : List Value}
theorem flat_get {sz : Nat} (F : FlatKd d enc) (hsz : d.sz = sz) (xs : List α) (t : Nat) (ht : t < xs.length * sz) : (flatK enc sz xs.toArray)[t]? = (enc (xs.getD (t / sz) default))[t % sz]? := by
 subst hsz
 have h0 := F.pos
 have hj : t / d.sz < xs.length := Nat.div_lt_of_lt_mul (by rwa [Nat.mul_comm] at ht)
 have hm : t % d.sz < d.sz := Nat.mod_lt _ h0
 have e := get_flatK enc d.sz xs.toArray t (by simpa using ht)
 have hs : t < (flatK enc d.sz xs.toArray).size := by simpa using ht
 rw [getElem!_pos _ t hs] at e
 rw [Array.getElem?_eq_getElem hs, e]
 have e2 : (xs.toArray)[t / d.sz]! = xs.getD (t / d.sz) default := by
  rw [getElem!_pos _ _ (by simpa using hj)]
  simp [List.getD_eq_getElem?_getD, List.getElem?_eq_getElem hj]
 rw [e2]
 have hl : t % d.sz < (enc (xs.getD (t / d.sz) default)).length := by rw [F.len]; exact hm
 rw [List.getElem?_eq_getElem hl]
 congr 1
 exact getElem!_pos (enc (xs.getD (t / d.sz) default)) (t % d.sz) hl
theorem reps_flat (F : FlatKd d enc) (hr : Reps (d.M w base ok) d.sz xs inner) : inner = (flatK enc d.sz xs.toArray).toList := by
 apply List.ext_getElem?
 intro t
 have h0 := F.pos
 rcases Nat.lt_or_ge t (xs.length * d.sz) with ht | ht
 ·have hj : t / d.sz < xs.length := Nat.div_lt_of_lt_mul (by rwa [Nat.mul_comm] at ht)
  have hm : t % d.sz < d.sz := Nat.mod_lt _ h0
  have e0 : (flatK enc d.sz xs.toArray).toList[t]? = (flatK enc d.sz xs.toArray)[t]? := Array.getElem?_toList ..
  rw [e0, flat_get F rfl xs t ht]
  have h := (F.hM _ _ _ _ _).1 (hr.2 (t / d.sz) _ (List.getElem?_eq_getElem hj))
  rw [show xs.getD (t / d.sz) default = xs[t / d.sz] by simp [List.getD_eq_getElem?_getD, List.getElem?_eq_getElem hj], ← h]
  rw [List.getElem?_take, if_pos hm, List.getElem?_drop]
  congr 1
  rw [Nat.mul_comm]
  exact (Nat.div_add_mod t d.sz).symm
 ·rw [List.getElem?_eq_none (by rw [hr.1]; exact ht), List.getElem?_eq_none (by rw [Array.length_toList, size_flatK]; simpa using ht)]
theorem flat_reps (F : FlatKd d enc) (xs : List α) : Reps (d.M w base ok) d.sz xs (flatK enc d.sz xs.toArray).toList := by
 refine ⟨by simp, fun j p hp => ?_⟩
 rw [F.hM]
 have hj := (List.getElem?_eq_some_iff.1 hp).1
 have h0 := F.pos
 apply List.ext_getElem?
 intro i
 rcases Nat.lt_or_ge i d.sz with hi | hi
 ·have hlt : j * d.sz + i < xs.length * d.sz := by
   have := Nat.mul_le_mul_right d.sz (show j + 1 ≤ xs.length from hj)
   rw [Nat.add_mul, Nat.one_mul] at this
   omega
  have e1 : (j * d.sz + i) / d.sz = j := by rw [Nat.add_comm, Nat.add_mul_div_right _ _ h0, Nat.div_eq_of_lt hi, Nat.zero_add]
  have e2 : (j * d.sz + i) % d.sz = i := by rw [Nat.add_comm, Nat.add_mul_mod_self_right, Nat.mod_eq_of_lt hi]
  rw [List.getElem?_take, if_pos hi, List.getElem?_drop, Array.getElem?_toList, flat_get F rfl xs _ hlt, e1, e2]
  rw [List.getD_eq_getElem?_getD, hp]; rfl
 ·rw [List.getElem?_eq_none (by rw [List.length_take]; omega), List.getElem?_eq_none (by rw [F.len]; exact hi)]
theorem holdsK_of (F : FlatKd d enc) {e g n cap : Nat} (h : d.R e w base ok (.slice (some ⟨g, 0, none⟩) n cap) xs) : n = xs.length ∧ HoldsK enc d.sz w g 0 xs.toArray ∧ g < w.heap.size ∧ base ≤ g ∧ ok g := by
 obtain ⟨h0, inner, ho, hr⟩ := h
 have hn : n = xs.length := by
  rcases ho.2 with ⟨h', _⟩ | ⟨g', cap', cur, h', _⟩
  ·cases h'
  ·injection h' with _ h2 _
 subst hn
 obtain rfl := reps_flat F hr
 refine ⟨rfl, fun t ht => ?_, own_lt ho g (by simp [Value.ownBlock]), own_base ho g (by simp [Value.ownBlock]), h0 g (by simp [Value.ownBlock])⟩
 have ht' : t < xs.length * d.sz := by simpa using ht
 rw [Nat.zero_add]
 refine ⟨?_, ho.frozenAt t⟩
 rw [ho.cellAt t ht', Array.getElem?_toList, Array.getElem?_eq_getElem ht, getElem!_pos _ t ht]
 rfl
theorem heap_sortWorldK (enc : α → List Value) (k : Nat) (w : World) (g m : Nat) (d' : Array α) (os : Array Obj) : (sortWorldK enc k w g 0 m d' os).heap = (w.heap.modify g (onCells (putCells id 0 (flatK enc k d')))) ++ os := rfl
theorem sortWorldK_kept (enc : α → List Value) (k : Nat) (w : World) (g m : Nat) (d' : Array α) (os : Array Obj) (i : Nat) (hi : i < w.heap.size) (hne : i ≠ g) : (sortWorldK enc k w g 0 m d' os).heap[i]? = w.heap[i]? := by
 rw [heap_sortWorldK, Array.getElem?_append_left (by simpa using hi), Array.getElem?_modify, if_neg (Ne.symm hne)]
theorem own_sorted {sz : Nat} {e g n cap : Nat} {F0 : List Value} {k : Nat} {d' : Array α} (ho : w.ownsRow base e sz (.slice (some ⟨g, 0, none⟩) n cap) n F0) (hs : (flatK enc k d').size = n * sz) (m : Nat) (os : Array Obj) :
 (sortWorldK enc k w g 0 m d' os).ownsRow base e sz (.slice (some ⟨g, 0, none⟩) n cap) n (flatK enc k d').toList := by
 refine ⟨by rw [Array.length_toList]; exact hs, .inr ?_⟩
 rcases ho.2 with ⟨h', _⟩ | ⟨g', cap', cur, h', hb, hg, hnc, hcm, hcs, htake⟩
 ·cases h'
 ·injection h' with h1 _ h3
  injection h1 with h1
  injection h1 with h1
  subst h1 h3
  have hlt : g < w.heap.size := (Array.getElem?_eq_some_iff.1 hg).1
  refine ⟨g, cap, putCells id 0 (flatK enc k d') cur, rfl, hb, ?_, hnc, hcm, by simp [putCells, hcs], ?_⟩
  ·rw [heap_sortWorldK, Array.getElem?_append_left (by simpa using hlt), Array.getElem?_modify, if_pos rfl, hg]
   rfl
  ·have hle : n * sz ≤ cur.size := by rw [hcs]; exact Nat.mul_le_mul_right _ hnc
   apply List.ext_getElem?
   intro t
   rcases Nat.lt_or_ge t (n * sz) with ht | ht
   ·rw [List.getElem?_take, if_pos ht, Array.getElem?_toList, Array.getElem?_toList]
    unfold putCells
    rw [Array.getElem?_mapIdx, Array.getElem?_eq_getElem (show t < cur.size by omega), Option.map_some, if_pos ⟨Nat.zero_le _, by omega⟩, Array.getElem?_eq_getElem (show t < (flatK enc k d').size by omega)]
    rw [getElem!_pos _ _ (by omega)]
    simp
   ·rw [List.getElem?_eq_none (by rw [List.length_take]; omega), List.getElem?_eq_none (by rw [Array.length_toList]; omega)]
theorem R_sorted (F : FlatKd d enc) {e g n cap : Nat} (h : d.R e w base ok (.slice (some ⟨g, 0, none⟩) n cap) xs) (ys : List α) (hl : ys.length = xs.length) (m : Nat) (os : Array Obj) :
 d.R e (sortWorldK enc d.sz w g 0 m ys.toArray os) base ok (.slice (some ⟨g, 0, none⟩) n cap) ys := by
 obtain ⟨hn, _⟩ := holdsK_of F h
 obtain ⟨h0, inner, ho, hr⟩ := h
 subst hn
 refine ⟨h0, _, ?_, flat_reps F ys⟩
 have h2 := own_sorted (enc := enc) (k := d.sz) (d' := ys.toArray) (sz := d.sz) ho (by simp [hl]) m os
 rw [← hl] at h2 ⊢
 exact h2
end
def srtL {α : Type} [Inhabited α] (cf : α → α → Int) (l : List α) : List α := (pdq (ltOf cf) l.toArray 0 l.toArray.size (Lib.bitLen l.toArray.size) true true).toList
theorem srtL_spec {α : Type} [Inhabited α] {cf : α → α → Int} (hO : SWO (ltOf cf)) (l : List α) : (srtL cf l).Perm l ∧ (srtL cf l).Pairwise (fun x y => ltOf cf y x = false) := by
 obtain ⟨⟨h1, h2, h3⟩, h4⟩ := pdq_sorts (ltOf cf) hO l.toArray 0 l.toArray.size (Lib.bitLen l.toArray.size) true true (Nat.zero_le _) (Nat.le_refl _) (Or.inl rfl)
 unfold srtL
 generalize pdq (ltOf cf) l.toArray 0 l.toArray.size (Lib.bitLen l.toArray.size) true true = r at *
 constructor
 ·have e1 : r.extract 0 l.toArray.size = r := by rw [← h1]; exact Array.extract_size
  rw [e1] at h3
  simpa using h3
 ·rw [List.pairwise_iff_getElem]
  intro i j hi hj hij
  have := h4 i j (Nat.zero_le _) hij (by rw [← h1]; simpa using hj)
  rw [getElem!_pos r j (by simpa using hj), getElem!_pos r i (by simpa using hi)] at this
  simpa using this
theorem srtL_length {α : Type} [Inhabited α] {cf : α → α → Int} (hO : SWO (ltOf cf)) (l : List α) : (srtL cf l).length = l.length := (srtL_spec hO l).1.length_eq
theorem srtL_nil {α : Type} [Inhabited α] {cf : α → α → Int} (hO : SWO (ltOf cf)) : srtL cf [] = [] := List.eq_nil_of_length_eq_zero (srtL_length hO [])
theorem sort_calls {α : Type} [Inhabited α] {d : Kd α} {enc : α → List Value} (F : FlatKd d enc) {cf : α → α → Int} (hO : SWO (ltOf cf)) {ρ : Go.Shelf.Ren} (L : SlLaysF0.n6 Try.prog ρ) (aE : ∀ w, (isAgg (ρ.t 24)).run Try.prog w = .ok true w) (zE : ∀ w, (Go.sizeOf (ρ.t 24)).run Try.prog w = .ok d.sz w)
 (g : Nat) (eg : ∀ args w, (callFunc g args).run Try.prog w = .ok (.enter g args) w) (hcl : ∀ x y W, Calls Try.prog g #[.agg (enc x).toArray, .agg (enc y).toArray] W fun e w' => e = .returned (.int .i64 (cf x y)) ∧ BelowD W.heap.size W w')
 (e : Nat) (P0 : Nat → Prop) (v : Value) (l : List α) (w0 w : World) (hB : Below w0.heap.size w0 w) (ho : d.R e w w0.heap.size P0 v l) (hl : l.length < 4611686018427387904) :
 Calls Try.prog (ρ.f 6) #[v, .func (.func g) #[] #[]] w fun e' w' => e' = .returned (.tuple #[]) ∧ d.R e w' w0.heap.size (fun k => P0 k ∨ w.heap.size ≤ k) v (srtL cf l) ∧ Below w0.heap.size w0 w' ∧ Kept w w' P0 := by
 by_cases h0 : l.length = 0
 ·obtain rfl : l = [] := List.eq_nil_of_length_eq_zero h0
  obtain ⟨A, c, rfl⟩ := Kd.R_slice ho
  refine (AnyF.slices_SortFunc_none L A c _ w).mono ?_
  rintro e' w' ⟨rfl, rfl⟩
  exact ⟨rfl, by rw [srtL_nil hO]; exact Kd.R_mono ho (fun _ h => .inl h), hB, Kept.refl _ _⟩
 ·obtain ⟨b, cap, rfl, _, _⟩ := Kd.R_form ho (by omega)
  obtain ⟨_, hH, hlt, hbase, hok⟩ := holdsK_of F ho
  have hc : CmpLays Try.prog g #[] enc d.sz cf b 0 l.toArray.size w := by
   intro m os dk _ x y
   refine (hcl x y _).mono ?_
   rintro e' w' ⟨rfl, hb⟩
   exact ⟨rfl, hb.grow⟩
  have hcon := AnyQ.slices_SortFunc_eq L d.sz aE zE enc F.len F.one cf hO g #[] b 0 cap l.toArray w eg hc hH hlt (by simpa using hl)
  refine hcon.mono ?_
  rintro e' w' ⟨rfl, n, os, rfl⟩
  have hs := R_sorted F ho (srtL cf l) (srtL_length hO l) n os
  have e2 : (srtL cf l).toArray = pdq (ltOf cf) l.toArray 0 l.toArray.size (Lib.bitLen l.toArray.size) true true := by unfold srtL; simp
  rw [e2] at hs
  refine ⟨rfl, Kd.R_mono hs (fun _ h => .inl h), ⟨hB.os, hB.tape, hB.output, ?_, fun i hi => ?_⟩, ?_, fun i hi hn => ?_⟩
  ·refine Nat.le_trans hB.size ?_
   rw [heap_sortWorldK, Array.size_append, Array.size_modify]
   exact Nat.le_add_right _ _
  ·have := hB.size
   rw [sortWorldK_kept _ _ _ _ _ _ _ _ (by omega) (by omega)]
   exact hB.block i hi
  ·rw [heap_sortWorldK, Array.size_append, Array.size_modify]
   exact Nat.le_add_right _ _
  ·exact sortWorldK_kept _ _ _ _ _ _ _ _ hi (fun h => hn (h ▸ hok))
end Go.Proofs.Ytfhkkbpkajfdlaa.Q
end
section
namespace Go.Proofs.Ytfhkkbpkajfdlaa.Q
open Go.Sort hiding rd
open Go.RowKit Go.Proofs.YtfhkkbpkajfdlaaW.PrintWords Go.Proofs.YtfhkkbpkajfdlaaW.PrintLast Go.Proofs.YtfhkkbpkajfdlaaW.PrintMore
def cmpI (a b : Int) : Int := if a < b then -1 else if b < a then 1 else 0
theorem cmp_eq (a b : Int) : cmp_Compare_int.f a b = some (cmpI a b) := by
 unfold cmp_Compare_int.f cmp_isNaN_int.f cmpI
 simp only [bne_self_eq_false, Option.bind_some, Bool.false_eq_true, if_false, gt_iff_lt]
 (repeat' split) <;> rfl
def orI : List Int → Int
 | [] => 0
 | x :: r => if x = 0 then orI r else x
theorem or_loop (l : List Int) (hl : l.length ≤ 7) (d : Nat) : ∀ (i k : Nat), i + d = l.length → d < k → cmp_Or_int.l0 k 0 l (l.length : Int) (i : Int) = some (orI (l.drop i)) := by
 induction d with
 | zero =>
  intro i k hi hk
  obtain ⟨k, rfl⟩ : ∃ m, k = m + 1 := ⟨k - 1, by omega⟩
  rw [cmp_Or_int.l0, if_neg (by omega), List.drop_eq_nil_of_le (by omega)]
  rfl
 | succ d ih =>
  intro i k hi hk
  obtain ⟨k, rfl⟩ : ∃ m, k = m + 1 := ⟨k - 1, by omega⟩
  have hlt : i < l.length := by omega
  have hr : rd l (i : Int) = l[i] := by unfold rd; simp [List.getD_eq_getElem?_getD, List.getElem?_eq_getElem hlt]
  have hw : wrap64 ((i : Int) + 1) = ((i + 1 : Nat) : Int) := by unfold wrap64; omega
  rw [cmp_Or_int.l0, if_pos (by omega), if_pos (by omega), if_pos (by omega), hr, hw, List.drop_eq_getElem_cons hlt, orI]
  by_cases c : l[i] = 0
  ·rw [if_pos c, if_pos c]
   exact ih (i + 1) k (by omega) (by omega)
  ·rw [if_neg c, if_neg c]
theorem or_eq (l : List Int) (hl : l.length ≤ 7) : cmp_Or_int.f 8 l = some (orI l) := or_loop l hl l.length 0 8 (by omega) (by omega)
theorem or_2 (a b : Int) : cmp_Or_int.f 8 [a, b] = some (if a = 0 then if b = 0 then 0 else b else a) := or_eq _ (by simp)
def sortMove_ren : Go.Shelf.Ren := ⟨fun | 6 => 78 | 15 => 90 | 14 => 89 | 28 => 102 | 29 => 103 | 20 => 94 | 21 => 95 | 22 => 96 | 23 => 97 | 24 => 98 | 25 => 99 | 26 => 100 | 27 => 101 | 46 => 104 | 47 => 105 | 48 => 106 | 49 => 107 | 50 => 108 | 57 => 109 | n => n, fun | 22 => 45 | 24 => 85 | 25 => 126 | 3 => 3 | 39 => 128 | 0 => 0 | 53 => 145 | 55 => 134 | 4 => 4 | 46 => 139 | 45 => 138 | 50 => 99 | 5 => 5 | 9 => 9 | 66 => 147 | 70 => 151 | 76 => 153 | 77 => 105 | n => n, fun | n => n⟩
theorem sortMove : Go.Proofs.SlLaysF0.n6 Try.prog sortMove_ren := { mixed := by kernel_rfl, f6 := ⟨Try.f78.name, by decide, Try.func78.trans (congrArg some (by kernel_rfl))⟩, f14 := ⟨Try.f89.name, by decide, Try.func89.trans (congrArg some (by kernel_rfl))⟩, f15 := Try.func90.trans (congrArg some (by kernel_rfl)), f20 := ⟨Try.f94.name, by decide, Try.func94.trans (congrArg some (by kernel_rfl))⟩, f21 := ⟨Try.f95.name, by decide, Try.func95.trans (congrArg some (by kernel_rfl))⟩, f22 := ⟨Try.f96.name, by decide, Try.func96.trans (congrArg some (by kernel_rfl))⟩, f23 := ⟨Try.f97.name, by decide, Try.func97.trans (congrArg some (by kernel_rfl))⟩, f24 := ⟨Try.f98.name, by decide, Try.func98.trans (congrArg some (by kernel_rfl))⟩, f25 := ⟨Try.f99.name, by decide, Try.func99.trans (congrArg some (by kernel_rfl))⟩, f26 := ⟨Try.f100.name, by decide, Try.func100.trans (congrArg some (by kernel_rfl))⟩, f27 := ⟨Try.f101.name, by decide, Try.func101.trans (congrArg some (by kernel_rfl))⟩, f28 := Try.func102.trans (congrArg some (by kernel_rfl)), f29 := Try.func103.trans (congrArg some (by kernel_rfl)), f46 := ⟨Try.f104.name, by decide, Try.func104.trans (congrArg some (by kernel_rfl))⟩, f47 := Try.func105.trans (congrArg some (by kernel_rfl)), f48 := Try.func106.trans (congrArg some (by kernel_rfl)), f49 := ⟨Try.f107.name, by decide, Try.func107.trans (congrArg some (by kernel_rfl))⟩, f50 := ⟨Try.f108.name, by decide, Try.func108.trans (congrArg some (by kernel_rfl))⟩, f57 := ⟨Try.f109.name, by decide, Try.func109.trans (congrArg some (by kernel_rfl))⟩, t0 := Try.underlying0, a0 := Try.isAgg0, z0 := Try.sizeOf0, v0 := Try.zeroValue0, t3 := Try.underlying3, a3 := Try.isAgg3, z3 := Try.sizeOf3, v3 := Try.zeroValue3, t4 := Try.underlying4, a4 := Try.isAgg4, z4 := Try.sizeOf4, v4 := Try.zeroValue4, t5 := Try.underlying5, a5 := Try.isAgg5, z5 := Try.sizeOf5, v5 := Try.zeroValue5, t9 := Try.underlying9, a9 := Try.isAgg9, z9 := Try.sizeOf9, v9 := Try.zeroValue9, t22 := Try.underlying45, a22 := Try.isAgg45, z22 := Try.sizeOf45, v22 := Try.zeroValue45, t25 := Try.underlying126, a25 := Try.isAgg126, z25 := Try.sizeOf126, v25 := Try.zeroValue126, t39 := Try.underlying128, a39 := Try.isAgg128, z39 := Try.sizeOf128, v39 := Try.zeroValue128, t45 := Try.underlying138, a45 := Try.isAgg138, z45 := Try.sizeOf138, v45 := Try.zeroValue138, t46 := Try.underlying139, a46 := Try.isAgg139, z46 := Try.sizeOf139, v46 := Try.zeroValue139, t50 := Try.underlying99, a50 := Try.isAgg99, z50 := Try.sizeOf99, v50 := Try.zeroValue99, t53 := Try.underlying145, a53 := Try.isAgg145, z53 := Try.sizeOf145, v53 := Try.zeroValue145, t55 := Try.underlying134, a55 := Try.isAgg134, z55 := Try.sizeOf134, v55 := Try.zeroValue134, t66 := Try.underlying147, a66 := Try.isAgg147, z66 := Try.sizeOf147, v66 := Try.zeroValue147, t70 := Try.underlying151, a70 := Try.isAgg151, z70 := Try.sizeOf151, v70 := Try.zeroValue151, t76 := Try.underlying153, a76 := Try.isAgg153, z76 := Try.sizeOf153, v76 := Try.zeroValue153, t77 := Try.underlying105, a77 := Try.isAgg105, z77 := Try.sizeOf105, v77 := Try.zeroValue105 }
def cfMove (x y : S85) : Int := if x.f1 < y.f1 then -1 else if y.f1 < x.f1 then 1 else if x.f0 < y.f0 then -1 else if y.f0 < x.f0 then 1 else 0
def encMove (x : S85) : List Value := [.int .i64 x.f0, .int .i64 x.f1, .int .i64 x.f2]
instance : Inhabited S85 := ⟨z85⟩
theorem flatMove : FlatKd k85 encMove :=
 ⟨fun w base ok x cs => ⟨fun h => k85_openM h, fun h => by rw [h]; exact k85_mkM w base ok x⟩, fun _ => rfl, fun x v hv => by
  simp only [encMove, List.mem_cons, List.not_mem_nil, or_false] at hv
  rcases hv with rfl | rfl | rfl <;> rfl, by decide⟩
def ltMove (x y : S85) : Prop := x.f1 < y.f1 ∨ x.f1 = y.f1 ∧ (x.f0 < y.f0)
theorem ltMove_eq (x y : S85) : (ltOf cfMove x y = true) ↔ ltMove x y := by
 unfold ltOf cfMove ltMove
 rw [decide_eq_true_iff]
 (repeat' split) <;> omega
theorem swoMove : SWO (ltOf cfMove) where
 irrefl x := by rw [← Bool.not_eq_true, ltMove_eq]; unfold ltMove; omega
 trans x y z h1 h2 := by rw [ltMove_eq] at *; unfold ltMove at *; omega
 ntrans x y z h1 h2 := by rw [← Bool.not_eq_true, ltMove_eq] at *; unfold ltMove at *; omega
theorem table_Moves_3_val (x y : S85) : table_Moves_3.f 8 x.f0 x.f1 x.f2 y.f0 y.f1 y.f2 = some (cfMove x y) := by
 unfold table_Moves_3.f cfMove
 simp only [cmp_eq, Option.bind_some]
 rw [or_2]
 simp only [Option.bind_some]
 congr 1
 unfold cmpI; (repeat' split) <;> omega
theorem table_Moves_3_lays (x y : S85) (W : World) : Calls Try.prog 79 #[.agg (encMove x).toArray, .agg (encMove y).toArray] W fun e w' => e = .returned (.int .i64 (cfMove x y)) ∧ BelowD W.heap.size W w' :=
 table_Moves_3.callsD 8 x.f0 x.f1 x.f2 y.f0 y.f1 y.f2 (cfMove x y) W (table_Moves_3_val x y)
def api_Move_78.f (l : List (S85)) : Option (List (S85)) := if l.length < 4611686018427387904 then some (srtL cfMove l) else none
theorem api_Move_78.calls (P0_ : Nat → Prop) (u9000_ : Value) (l0 : List (S85)) (r : List S85) (w0 w : World) (hB : Below w0.heap.size w0 w) (ho0 : Kd.R k85 85 w w0.heap.size P0_ u9000_ l0) (h : api_Move_78.f l0 = some r) :
 Calls Try.prog 78 #[u9000_, .func (.func 79) #[] #[]] w fun e w' => e = .returned (.tuple #[]) ∧ Kd.R k85 85 w' w0.heap.size (fun k_ => (P0_ k_ ∨ w.heap.size ≤ k_)) u9000_ r ∧ Below w0.heap.size w0 w' ∧ Kept w w' (fun k_ => P0_ k_) := by
 unfold api_Move_78.f at h
 split at h
 ·rename_i hl
  injection h with h
  subst h
  exact sort_calls flatMove swoMove sortMove Try.isAgg85 Try.sizeOf85 79 (enters_of Try.func79 (by kernel_rfl) rfl) table_Moves_3_lays 85 P0_ u9000_ l0 w0 w hB ho0 hl
 ·cases h
end Go.Proofs.Ytfhkkbpkajfdlaa.Q
end
