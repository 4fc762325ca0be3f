/- A part of the proof: words, contracts, plain lemmas. Conditions: none. -/
import Derived.Test.YtfhkkbpkajfdlaaZExpandRuns10
set_option linter.unusedSimpArgs false
set_option linter.unusedVariables false
open Go.RowKit Go.Proofs.YtfhkkbpkajfdlaaW.PrintWords Go.Proofs.YtfhkkbpkajfdlaaW.PrintLast Go.Proofs.YtfhkkbpkajfdlaaW.PrintMore
section
namespace Go.Proofs.Ytfhkkbpkajfdlaa.Q
attribute [local go_sem] max2_int min2_int max_two min_two min_four
def expand_Index.f (k : Nat) (a0_0 : Int) (a0_1 : Bool) (l0_2 : List (S54)) (a1 : Int) (a2_0 : Int) (a2_1 : Int) : Option (Int × Int) := (expand_Fits.f k a0_0 a0_1 l0_2 a1).bind fun t223 => (if t223 = true then (if (mn a2_0 a2_1) < 0 then (some (0, 180)) else (if a2_0 ≥ a0_0 then (some (0, 180)) else (if a2_1 > a1 then (some (0, 180)) else (some (wrap64 ((wrap64 (a2_1 * a0_0)) + a2_0), 0))))) else (some (0, 2)))
theorem expand_Index.mono : ∀ a0 a1 a2 a3 a4 a5 k, LeO (expand_Index.f k a0 a1 a2 a3 a4 a5) (expand_Index.f (k + 1) a0 a1 a2 a3 a4 a5) := by
 intro a0 a1 a2 a3 a4 a5 k
 unfold expand_Index.f
 repeat' first
   | (with_reducible exact expand_Fits.mono _ _ _ _ _)
   | (with_reducible exact LeO.refl _)
   | (with_reducible exact LeO.none _)
   | (with_reducible refine LeO.ite ?_ ?_)
   | (with_reducible refine LeO.bind ?_ (fun _ => ?_))
   | exact expand_Fits.mono _ _ _ _ _
   | exact LeO.none _
   | refine LeO.ite ?_ ?_
   | refine LeO.bind ?_ (fun _ => ?_)
set_option maxHeartbeats 8000000 in
set_option maxRecDepth 100000 in
theorem expand_Index.calls (k : Nat) (a0_0 : Int) (a0_1 : Bool) (A0_2 : Option Addr) (c0_2 : Nat) (l0_2 : List (S54)) (a1 : Int) (a2_0 : Int) (a2_1 : Int) (r1 : Int) (r2 : Int) (w : World) (hr0_2 : Kd.C k54 w A0_2 l0_2.length l0_2) (hc0_2 : l0_2.length ≤ c0_2) (h : expand_Index.f k a0_0 a0_1 l0_2 a1 a2_0 a2_1 = some (r1, r2)) :
  Calls Try.prog 10 #[.agg #[.int .i64 a0_0, .bool a0_1, .slice A0_2 l0_2.length c0_2], .int .i64 a1, .agg #[.int .i64 a2_0, .int .i64 a2_1]] w fun e w' => e = .returned (.tuple #[.int .i64 r1, .int .i64 r2]) ∧ Below w.heap.size w w' := by
 have hu24 := Try.underlying24; have hu26 := Try.underlying26; have HR0_2 := am_ hr0_2; have HC0_2 := am_ hc0_2; clear hr0_2 hc0_2; have HB := am_ (Below.refl w.heap.size w); have H : ((expand_Fits.f k a0_0 a0_1 l0_2 a1).bind fun t223 => (if t223 = true then (if (mn a2_0 a2_1) < 0 then (some (0, 180)) else (if a2_0 ≥ a0_0 then (some (0, 180)) else (if a2_1 > a1 then (some (0, 180)) else (some (wrap64 ((wrap64 (a2_1 * a0_0)) + a2_0), 0))))) else (some (0, 2)))) = some (r1, r2) := h; clear h; replace H := Option.bind_eq_some_iff.mp H; obtain ⟨t223, A40, H⟩ := H; replace H : (if t223 = true then (if (mn a2_0 a2_1) < 0 then (some (0, 180)) else (if a2_0 ≥ a0_0 then (some (0, 180)) else (if a2_1 > a1 then (some (0, 180)) else (some (wrap64 ((wrap64 (a2_1 * a0_0)) + a2_0), 0))))) else (some (0, 2))) = some (r1, r2) := H; have A4 := am_ A40; clear A40
 by_cases c5 : t223 = true
 ·subst c5
  have H1 : (if (mn a2_0 a2_1) < 0 then (some (0, 180)) else (if a2_0 ≥ a0_0 then (some (0, 180)) else (if a2_1 > a1 then (some (0, 180)) else (some (wrap64 ((wrap64 (a2_1 * a0_0)) + a2_0), 0))))) = some (r1, r2) := by rw [if_pos rfl] at H; exact H
  clear H; have H := H1; clear H1; obtain ⟨ji6, hji6⟩ : ∃ j_ : Int, (mn a2_0 a2_1) = j_ := ⟨_, rfl⟩
  replace H : (if (ji6) < 0 then (some (0, 180)) else (if a2_0 ≥ a0_0 then (some (0, 180)) else (if a2_1 > a1 then (some (0, 180)) else (some (wrap64 ((wrap64 (a2_1 * a0_0)) + a2_0), 0))))) = some (r1, r2) := by first | (rw [hji6] at H; exact H) | (simp only [hji6] at H ⊢; exact H)
  (try rw [hji6] at A4)
  have hji6_ : (if a2_1 < a2_0 then a2_1 else a2_0) = ji6 := hji6
  by_cases c7 : (ji6) < 0
  ·rw [if_pos c7] at H
   have c7b0 := decide_eq_true c7; clear c7; simp only [Option.some.injEq, Prod.mk.injEq] at H; obtain ⟨rfl, rfl⟩ := H
   go_enter Try.func10, Try.ntmps10
   go_wp2_with (first | ((with_reducible refine gate_dst (N := 3) rfl ?_); refine bx_ 3 #[.int .i64 a0_0, .bool a0_1, .slice A0_2 l0_2.length c0_2] 24 ?_; intro gb221 hg w8 BK221 hb; have GE221 := ge_ (w := w) hg; replace HB := hst_ hb; clear hb hg) | ((with_reducible refine gate_dst (N := 5) rfl ?_); refine bx_ 5 #[.int .i64 a2_0, .int .i64 a2_1] 26 ?_; intro gb222 hg w9 BK222 hb; have GE222 := ge_ (w := w) hg; replace HB := hst_ hb; have NB221_222 := am_ (nl_ BK221.out hg); have NB222_221 := am_ (ng_ BK221.out hg); replace BK221 := am_ (bb_ BK221.out hb); clear hb hg; have hnb10 := NB221_222.out; have hnc10 := NB222_221.out; obtain ⟨hcz11_0, hcz11_1, hcz11_2, hfz11_0, hfz11_1, hfz11_2⟩ := cf3_ BK221.out) | ((with_reducible refine gate_callee (f := 15) rfl ?_); refine cl_ 11 Try.func15 (expand_Fits.calls k a0_0 a0_1 _ _ l0_2 a1 true _ (cb_ HR0_2.out) HC0_2.out A4.out) ?_; rintro e w12 ⟨rfl, hb⟩; refine ⟨_, rfl, ?_⟩; replace BK221 := am_ (bb_ BK221.out hb); replace BK222 := am_ (bb_ BK222.out hb); replace HB := hst_ hb; (try clear hb); (try clear hb2); (try clear hk); (try clear hi); obtain ⟨hcz13_0, hcz13_1, hfz13_0, hfz13_1⟩ := cf2_ BK222.out))
   go_ret2
   exact ⟨by first | rfl | (simp [errW_none, errW_some] <;> rfl) | (simp only [← hji6]; first | rfl | (simp [errW_none, errW_some] <;> rfl)) | (simp [*, errW_none, errW_some] <;> rfl), hb_⟩
  ·rw [if_neg c7] at H
   have c7b0 := decide_eq_false c7; clear c7
   by_cases c14 : a2_0 ≥ a0_0
   ·rw [if_pos c14] at H
    have c14b0 := decide_eq_true c14; clear c14; simp only [Option.some.injEq, Prod.mk.injEq] at H; obtain ⟨rfl, rfl⟩ := H
    go_enter Try.func10, Try.ntmps10
    go_wp2_with (first | ((with_reducible refine gate_dst (N := 3) rfl ?_); refine bx_ 3 #[.int .i64 a0_0, .bool a0_1, .slice A0_2 l0_2.length c0_2] 24 ?_; intro gb221 hg w15 BK221 hb; have GE221 := ge_ (w := w) hg; replace HB := hst_ hb; clear hb hg) | ((with_reducible refine gate_dst (N := 5) rfl ?_); refine bx_ 5 #[.int .i64 a2_0, .int .i64 a2_1] 26 ?_; intro gb222 hg w16 BK222 hb; have GE222 := ge_ (w := w) hg; replace HB := hst_ hb; have NB221_222 := am_ (nl_ BK221.out hg); have NB222_221 := am_ (ng_ BK221.out hg); replace BK221 := am_ (bb_ BK221.out hb); clear hb hg; have hnb17 := NB221_222.out; have hnc17 := NB222_221.out; obtain ⟨hcz18_0, hcz18_1, hcz18_2, hfz18_0, hfz18_1, hfz18_2⟩ := cf3_ BK221.out) | ((with_reducible refine gate_callee (f := 15) rfl ?_); refine cl_ 11 Try.func15 (expand_Fits.calls k a0_0 a0_1 _ _ l0_2 a1 true _ (cb_ HR0_2.out) HC0_2.out A4.out) ?_; rintro e w19 ⟨rfl, hb⟩; refine ⟨_, rfl, ?_⟩; replace BK221 := am_ (bb_ BK221.out hb); replace BK222 := am_ (bb_ BK222.out hb); replace HB := hst_ hb; (try clear hb); (try clear hb2); (try clear hk); (try clear hi); obtain ⟨hcz20_0, hcz20_1, hfz20_0, hfz20_1⟩ := cf2_ BK222.out; obtain ⟨hcz21_0, hcz21_1, hcz21_2, hfz21_0, hfz21_1, hfz21_2⟩ := cf3_ BK221.out))
    go_ret2
    exact ⟨by first | rfl | (simp [errW_none, errW_some] <;> rfl) | (simp only [← hji6]; first | rfl | (simp [errW_none, errW_some] <;> rfl)) | (simp [*, errW_none, errW_some] <;> rfl), hb_⟩
   ·rw [if_neg c14] at H
    have c14b0 := decide_eq_false c14; clear c14
    by_cases c22 : a2_1 > a1
    ·rw [if_pos c22] at H
     have c22b0 := decide_eq_true c22; clear c22; simp only [Option.some.injEq, Prod.mk.injEq] at H; obtain ⟨rfl, rfl⟩ := H
     go_enter Try.func10, Try.ntmps10
     go_wp2_with (first | ((with_reducible refine gate_dst (N := 3) rfl ?_); refine bx_ 3 #[.int .i64 a0_0, .bool a0_1, .slice A0_2 l0_2.length c0_2] 24 ?_; intro gb221 hg w23 BK221 hb; have GE221 := ge_ (w := w) hg; replace HB := hst_ hb; clear hb hg) | ((with_reducible refine gate_dst (N := 5) rfl ?_); refine bx_ 5 #[.int .i64 a2_0, .int .i64 a2_1] 26 ?_; intro gb222 hg w24 BK222 hb; have GE222 := ge_ (w := w) hg; replace HB := hst_ hb; have NB221_222 := am_ (nl_ BK221.out hg); have NB222_221 := am_ (ng_ BK221.out hg); replace BK221 := am_ (bb_ BK221.out hb); clear hb hg; have hnb25 := NB221_222.out; have hnc25 := NB222_221.out; obtain ⟨hcz26_0, hcz26_1, hcz26_2, hfz26_0, hfz26_1, hfz26_2⟩ := cf3_ BK221.out) | ((with_reducible refine gate_callee (f := 15) rfl ?_); refine cl_ 11 Try.func15 (expand_Fits.calls k a0_0 a0_1 _ _ l0_2 a1 true _ (cb_ HR0_2.out) HC0_2.out A4.out) ?_; rintro e w27 ⟨rfl, hb⟩; refine ⟨_, rfl, ?_⟩; replace BK221 := am_ (bb_ BK221.out hb); replace BK222 := am_ (bb_ BK222.out hb); replace HB := hst_ hb; (try clear hb); (try clear hb2); (try clear hk); (try clear hi); obtain ⟨hcz28_0, hcz28_1, hfz28_0, hfz28_1⟩ := cf2_ BK222.out; obtain ⟨hcz29_0, hcz29_1, hcz29_2, hfz29_0, hfz29_1, hfz29_2⟩ := cf3_ BK221.out))
     go_ret2
     exact ⟨by first | rfl | (simp [errW_none, errW_some] <;> rfl) | (simp only [← hji6]; first | rfl | (simp [errW_none, errW_some] <;> rfl)) | (simp [*, errW_none, errW_some] <;> rfl), hb_⟩
    ·rw [if_neg c22] at H
     have c22b0 := decide_eq_false c22; clear c22; simp only [Option.some.injEq, Prod.mk.injEq] at H; obtain ⟨rfl, rfl⟩ := H
     go_enter Try.func10, Try.ntmps10
     go_wp2_with (first | ((with_reducible refine gate_dst (N := 3) rfl ?_); refine bx_ 3 #[.int .i64 a0_0, .bool a0_1, .slice A0_2 l0_2.length c0_2] 24 ?_; intro gb221 hg w30 BK221 hb; have GE221 := ge_ (w := w) hg; replace HB := hst_ hb; clear hb hg) | ((with_reducible refine gate_dst (N := 5) rfl ?_); refine bx_ 5 #[.int .i64 a2_0, .int .i64 a2_1] 26 ?_; intro gb222 hg w31 BK222 hb; have GE222 := ge_ (w := w) hg; replace HB := hst_ hb; have NB221_222 := am_ (nl_ BK221.out hg); have NB222_221 := am_ (ng_ BK221.out hg); replace BK221 := am_ (bb_ BK221.out hb); clear hb hg; have hnb32 := NB221_222.out; have hnc32 := NB222_221.out; obtain ⟨hcz33_0, hcz33_1, hcz33_2, hfz33_0, hfz33_1, hfz33_2⟩ := cf3_ BK221.out) | ((with_reducible refine gate_callee (f := 15) rfl ?_); refine cl_ 11 Try.func15 (expand_Fits.calls k a0_0 a0_1 _ _ l0_2 a1 true _ (cb_ HR0_2.out) HC0_2.out A4.out) ?_; rintro e w34 ⟨rfl, hb⟩; refine ⟨_, rfl, ?_⟩; replace BK221 := am_ (bb_ BK221.out hb); replace BK222 := am_ (bb_ BK222.out hb); replace HB := hst_ hb; (try clear hb); (try clear hb2); (try clear hk); (try clear hi); obtain ⟨hcz35_0, hcz35_1, hfz35_0, hfz35_1⟩ := cf2_ BK222.out; obtain ⟨hcz36_0, hcz36_1, hcz36_2, hfz36_0, hfz36_1, hfz36_2⟩ := cf3_ BK221.out))
     go_ret2
     exact ⟨by first | rfl | (simp [errW_none, errW_some] <;> rfl) | (simp only [← hji6]; first | rfl | (simp [errW_none, errW_some] <;> rfl)) | (simp [*, errW_none, errW_some] <;> rfl), hb_⟩
 ·replace c5 := Bool.eq_false_iff.mpr c5
  subst c5
  have H1 : (some (0, 2)) = some (r1, r2) := by rw [if_neg (show ¬ (false = true) by decide)] at H; exact H
  clear H; have H := H1; clear H1; simp only [Option.some.injEq, Prod.mk.injEq] at H; obtain ⟨rfl, rfl⟩ := H
  go_enter Try.func10, Try.ntmps10
  go_wp2_with (first | ((with_reducible refine gate_dst (N := 3) rfl ?_); refine bx_ 3 #[.int .i64 a0_0, .bool a0_1, .slice A0_2 l0_2.length c0_2] 24 ?_; intro gb221 hg w37 BK221 hb; have GE221 := ge_ (w := w) hg; replace HB := hst_ hb; clear hb hg) | ((with_reducible refine gate_dst (N := 5) rfl ?_); refine bx_ 5 #[.int .i64 a2_0, .int .i64 a2_1] 26 ?_; intro gb222 hg w38 BK222 hb; have GE222 := ge_ (w := w) hg; replace HB := hst_ hb; have NB221_222 := am_ (nl_ BK221.out hg); have NB222_221 := am_ (ng_ BK221.out hg); replace BK221 := am_ (bb_ BK221.out hb); clear hb hg; have hnb39 := NB221_222.out; have hnc39 := NB222_221.out; obtain ⟨hcz40_0, hcz40_1, hcz40_2, hfz40_0, hfz40_1, hfz40_2⟩ := cf3_ BK221.out) | ((with_reducible refine gate_callee (f := 15) rfl ?_); refine cl_ 11 Try.func15 (expand_Fits.calls k a0_0 a0_1 _ _ l0_2 a1 false _ (cb_ HR0_2.out) HC0_2.out A4.out) ?_; rintro e w41 ⟨rfl, hb⟩; refine ⟨_, rfl, ?_⟩; replace BK221 := am_ (bb_ BK221.out hb); replace BK222 := am_ (bb_ BK222.out hb); replace HB := hst_ hb; (try clear hb); (try clear hb2); (try clear hk); (try clear hi)))
  go_ret2
  exact ⟨er_, hb_⟩
end Go.Proofs.Ytfhkkbpkajfdlaa.Q
end
section
namespace Go.Proofs.Ytfhkkbpkajfdlaa.Q
def expand_Place.f (k : Nat) (a0_0 : Int) (a0_1 : Bool) (l0_2 : List (S54)) (a1 : Int) (a2 : Int) : Option (Int × Int × Int) := (expand_Fits.f k a0_0 a0_1 l0_2 a1).bind fun t240 => (if t240 = true then (if a2 < 0 then (some (0, 0, 180)) else (if a2 ≥ (wrap64 ((wrap64 (a1 + 1)) * a0_0)) then (some (0, 0, 180)) else (if a0_0 = 0 then (none) else (some (Int.tmod a2 a0_0, wrap64 (Int.tdiv a2 a0_0), 0))))) else (some (0, 0, 2)))
theorem expand_Place.mono : ∀ a0 a1 a2 a3 a4 k, LeO (expand_Place.f k a0 a1 a2 a3 a4) (expand_Place.f (k + 1) a0 a1 a2 a3 a4) := by
 intro a0 a1 a2 a3 a4 k
 unfold expand_Place.f
 repeat' first
   | (with_reducible exact expand_Fits.mono _ _ _ _ _)
   | (with_reducible exact LeO.refl _)
   | (with_reducible exact LeO.none _)
   | (with_reducible refine LeO.ite ?_ ?_)
   | (with_reducible refine LeO.bind ?_ (fun _ => ?_))
   | exact expand_Fits.mono _ _ _ _ _
   | exact LeO.none _
   | refine LeO.ite ?_ ?_
   | refine LeO.bind ?_ (fun _ => ?_)
def expand_Place.T5 : Bool × List (List Nat × List Nat) := (true, [([], []), ([], []), ([1], [1]), ([0, 2], [0, 2]), ([], []), ([], []), ([5], [5]), ([4, 6], [4, 6]), ([3, 7], [3, 7]), ([8, 0, 1, 2, 3, 4, 5, 6, 7, 8], [8]), ([9, 0, 1, 2, 3, 4, 5, 6, 7, 8, 9], [])])
def expand_Place.B5 : List Nat := [0, 0, 2, 7, 0, 0, 32, 112, 255, 511, 1023]
theorem expand_Place.tab5 : rtab .any (opsOf Try.f12 5) = expand_Place.T5 := by kernel_rfl
theorem expand_Place.bits5 : waitsOk expand_Place.T5.2 expand_Place.B5 = true := by kernel_rfl
set_option maxHeartbeats 8000000 in
set_option maxRecDepth 100000 in
theorem expand_Place.calls (k : Nat) (a0_0 : Int) (a0_1 : Bool) (A0_2 : Option Addr) (c0_2 : Nat) (l0_2 : List (S54)) (a1 : Int) (a2 : Int) (r1 : Int) (r2 : Int) (r3 : Int) (w : World) (hr0_2 : Kd.C k54 w A0_2 l0_2.length l0_2) (hc0_2 : l0_2.length ≤ c0_2) (h : expand_Place.f k a0_0 a0_1 l0_2 a1 a2 = some (r1, r2, r3)) :
  Calls Try.prog 12 #[.agg #[.int .i64 a0_0, .bool a0_1, .slice A0_2 l0_2.length c0_2], .int .i64 a1, .int .i64 a2] w fun e w' => e = .returned (.tuple #[.agg #[.int .i64 r1, .int .i64 r2], .int .i64 r3]) ∧ Below w.heap.size w w' := by
 have hu24 := Try.underlying24; have hu26 := Try.underlying26; have HR0_2 := am_ hr0_2; have HC0_2 := am_ hc0_2; clear hr0_2 hc0_2; have HB := am_ (Below.refl w.heap.size w); have H : ((expand_Fits.f k a0_0 a0_1 l0_2 a1).bind fun t240 => (if t240 = true then (if a2 < 0 then (some (0, 0, 180)) else (if a2 ≥ (wrap64 ((wrap64 (a1 + 1)) * a0_0)) then (some (0, 0, 180)) else (if a0_0 = 0 then (none) else (some (Int.tmod a2 a0_0, wrap64 (Int.tdiv a2 a0_0), 0))))) else (some (0, 0, 2)))) = some (r1, r2, r3) := h; clear h; replace H := Option.bind_eq_some_iff.mp H; obtain ⟨t240, A40, H⟩ := H; replace H : (if t240 = true then (if a2 < 0 then (some (0, 0, 180)) else (if a2 ≥ (wrap64 ((wrap64 (a1 + 1)) * a0_0)) then (some (0, 0, 180)) else (if a0_0 = 0 then (none) else (some (Int.tmod a2 a0_0, wrap64 (Int.tdiv a2 a0_0), 0))))) else (some (0, 0, 2))) = some (r1, r2, r3) := H; have A4 := am_ A40; clear A40
 by_cases c5 : t240 = true
 ·subst c5
  have H1 : (if a2 < 0 then (some (0, 0, 180)) else (if a2 ≥ (wrap64 ((wrap64 (a1 + 1)) * a0_0)) then (some (0, 0, 180)) else (if a0_0 = 0 then (none) else (some (Int.tmod a2 a0_0, wrap64 (Int.tdiv a2 a0_0), 0))))) = some (r1, r2, r3) := by rw [if_pos rfl] at H; exact H
  clear H; have H := H1; clear H1
  by_cases c6 : a2 < 0
  ·rw [if_pos c6] at H
   have c6b0 := decide_eq_true c6; clear c6; simp only [Option.some.injEq, Prod.mk.injEq] at H; obtain ⟨rfl, rfl, rfl⟩ := H
   go_enter Try.func12, Try.ntmps12
   go_wp2_with (first | ((with_reducible refine gate_dst (N := 3) rfl ?_); refine bx_ 3 #[.int .i64 a0_0, .bool a0_1, .slice A0_2 l0_2.length c0_2] 24 ?_; intro gb238 hg w7 BK238 hb; have GE238 := ge_ (w := w) hg; replace HB := hst_ hb; clear hb hg) | ((with_reducible refine gate_dst (N := 6) rfl ?_); refine bx_ 6 #[.int .i64 0, .int .i64 0] 26 ?_; intro gb239 hg w8 BK239 hb; have GE239 := ge_ (w := w) hg; replace HB := hst_ hb; have NB238_239 := am_ (nl_ BK238.out hg); have NB239_238 := am_ (ng_ BK238.out hg); replace BK238 := am_ (bb_ BK238.out hb); clear hb hg; have hnb9 := NB238_239.out; have hnc9 := NB239_238.out; obtain ⟨hcz10_0, hcz10_1, hcz10_2, hfz10_0, hfz10_1, hfz10_2⟩ := cf3_ BK238.out) | ((with_reducible refine gate_callee (f := 15) rfl ?_); refine cl_ 11 Try.func15 (expand_Fits.calls k a0_0 a0_1 _ _ l0_2 a1 true _ (cb_ HR0_2.out) HC0_2.out A4.out) ?_; rintro e w11 ⟨rfl, hb⟩; refine ⟨_, rfl, ?_⟩; replace BK238 := am_ (bb_ BK238.out hb); replace BK239 := am_ (bb_ BK239.out hb); replace HB := hst_ hb; (try clear hb); (try clear hb2); (try clear hk); (try clear hi); obtain ⟨hcz12_0, hcz12_1, hfz12_0, hfz12_1⟩ := cf2_ BK239.out))
   refine bodyPost_ret (results_ct rfl _ _ gb239 26 #[.int .i64 0, .int .i64 0] (0, 0) _ rfl q17_ Try.underlying26 rfl (by kernel_rfl)) rfl ?_; exact ⟨er_, hb_⟩
  ·rw [if_neg c6] at H
   have c6b0 := decide_eq_false c6; clear c6
   by_cases c13 : a2 ≥ (wrap64 ((wrap64 (a1 + 1)) * a0_0))
   ·rw [if_pos c13] at H
    have c13b0 := decide_eq_true c13; clear c13; simp only [Option.some.injEq, Prod.mk.injEq] at H; obtain ⟨rfl, rfl, rfl⟩ := H
    go_enter Try.func12, Try.ntmps12
    go_wp2_with (first | ((with_reducible refine gate_dst (N := 3) rfl ?_); refine bx_ 3 #[.int .i64 a0_0, .bool a0_1, .slice A0_2 l0_2.length c0_2] 24 ?_; intro gb238 hg w14 BK238 hb; have GE238 := ge_ (w := w) hg; replace HB := hst_ hb; clear hb hg) | ((with_reducible refine gate_dst (N := 6) rfl ?_); refine bx_ 6 #[.int .i64 0, .int .i64 0] 26 ?_; intro gb239 hg w15 BK239 hb; have GE239 := ge_ (w := w) hg; replace HB := hst_ hb; have NB238_239 := am_ (nl_ BK238.out hg); have NB239_238 := am_ (ng_ BK238.out hg); replace BK238 := am_ (bb_ BK238.out hb); clear hb hg; have hnb16 := NB238_239.out; have hnc16 := NB239_238.out; obtain ⟨hcz17_0, hcz17_1, hcz17_2, hfz17_0, hfz17_1, hfz17_2⟩ := cf3_ BK238.out) | ((with_reducible refine gate_callee (f := 15) rfl ?_); refine cl_ 11 Try.func15 (expand_Fits.calls k a0_0 a0_1 _ _ l0_2 a1 true _ (cb_ HR0_2.out) HC0_2.out A4.out) ?_; rintro e w18 ⟨rfl, hb⟩; refine ⟨_, rfl, ?_⟩; replace BK238 := am_ (bb_ BK238.out hb); replace BK239 := am_ (bb_ BK239.out hb); replace HB := hst_ hb; (try clear hb); (try clear hb2); (try clear hk); (try clear hi); obtain ⟨hcz19_0, hcz19_1, hcz19_2, hfz19_0, hfz19_1, hfz19_2⟩ := cf3_ BK238.out; obtain ⟨hcz20_0, hcz20_1, hfz20_0, hfz20_1⟩ := cf2_ BK239.out))
    refine bodyPost_ret (results_ct rfl _ _ gb239 26 #[.int .i64 0, .int .i64 0] (0, 0) _ rfl q17_ Try.underlying26 rfl (by kernel_rfl)) rfl ?_; exact ⟨er_, hb_⟩
   ·rw [if_neg c13] at H
    have c13b0 := decide_eq_false c13; clear c13
    by_cases c21 : a0_0 = 0
    ·rw [if_pos c21] at H
     exact absurd H (by simp)
    ·rw [if_neg c21] at H
     obtain ⟨c21b0, c21b1⟩ := neb_ c21; simp only [Option.some.injEq, Prod.mk.injEq] at H; obtain ⟨rfl, rfl, rfl⟩ := H
     go_enter Try.func12, Try.ntmps12
     try go_wp2_with (first | ((with_reducible refine gate_dst (N := 3) rfl ?_); refine bx_ 3 #[.int .i64 a0_0, .bool a0_1, .slice A0_2 l0_2.length c0_2] 24 ?_; intro gb238 hg w22 BK238 hb; have GE238 := ge_ (w := w) hg; replace HB := hst_ hb; clear hb hg) | ((with_reducible refine gate_dst (N := 6) rfl ?_); refine bx_ 6 #[.int .i64 0, .int .i64 0] 26 ?_; intro gb239 hg w23 BK239 hb; have GE239 := ge_ (w := w) hg; replace HB := hst_ hb; have NB238_239 := am_ (nl_ BK238.out hg); have NB239_238 := am_ (ng_ BK238.out hg); replace BK238 := am_ (bb_ BK238.out hb); clear hb hg; have hnb24 := NB238_239.out; have hnc24 := NB239_238.out; obtain ⟨hcz25_0, hcz25_1, hcz25_2, hfz25_0, hfz25_1, hfz25_2⟩ := cf3_ BK238.out) | ((with_reducible refine gate_callee (f := 15) rfl ?_); refine cl_ 11 Try.func15 (expand_Fits.calls k a0_0 a0_1 _ _ l0_2 a1 true _ (cb_ HR0_2.out) HC0_2.out A4.out) ?_; rintro e w26 ⟨rfl, hb⟩; refine ⟨_, rfl, ?_⟩; replace BK238 := am_ (bb_ BK238.out hb); replace BK239 := am_ (bb_ BK239.out hb); replace HB := hst_ hb; (try clear hb); (try clear hb2); (try clear hk); (try clear hi); obtain ⟨hcz27_0, hcz27_1, hcz27_2, hfz27_0, hfz27_1, hfz27_2⟩ := cf3_ BK238.out))
     replace BK238 := am_ (blk_drew BK238.out); replace BK239 := am_ (blk_drew BK239.out); replace HB := am_ (below_drew1 HB.out); refine start_ (n := 11) (S := fun w' => w'.cell? ⟨gb238, 0, none⟩ = some (.int .i64 a0_0) ∧ w'.cell? ⟨gb238, 1, none⟩ = some (.bool a0_1) ∧ w'.cell? ⟨gb238, 2, none⟩ = some (.slice A0_2 l0_2.length c0_2)) (ds := []) #[Ff,Ff,Ff,Ff,Ff,Ff,Ff,Ff,Ff,Ff,Ff] (by kernel_rfl) rfl rfl ⟨(blk_cell BK238.out 0).trans rfl, (blk_cell BK238.out 1).trans rfl, (blk_cell BK238.out 2).trans rfl⟩ (fun hHeld => ?_); refine with_tabW expand_Place.tab5 expand_Place.bits5 (fun HT_ HW_ => ?_); generalize w26.drew = w28 at BK238 BK239 HB hHeld ⊢; refine pw_ 0 27 ?_; refine pw_ 1 28 ?_; refine pw_ 4 31 ?_; refine pw_ 5 32 ?_; refine tk_ 2 29 ?_; refine pw_ 3 30 ?_; refine tk_ 6 33 ?_; refine pw_ 7 34 ?_; refine pw_ 8 35 ?_; refine one_ (i := 9) (N := none) #[Tt,Tt,Tt,Tt,Tt,Tt,Tt,Tt,Tt,Tt,Ff] rfl rfl (one_of HT_.out (by kernel_rfl)) (by decide) (fun K hK => ?_); have hs29 : w28.cell? ⟨gb239, 0, none⟩ = some (.int .i64 0) := (blk_cell BK239.out 0).trans rfl; have hfs29 := blk_frozen BK239.out 0; have hns29_0 := NB238_239.out; have hms29_0 := NB239_238.out; have hs30 : w28.cell? ⟨gb239, 1, none⟩ = some (.int .i64 0) := (blk_cell BK239.out 1).trans rfl; have hfs30 := blk_frozen BK239.out 1; have hns30_0 := NB238_239.out; have hms30_0 := NB239_238.out; refine skip_ (w1 := ?_) (by rfl) rfl ?_ ?_; rotate_left; (· go_simp; rfl); refine hK.out _ _ ⟨((cell_far (p := ⟨gb239, _, none⟩) NB238_239.out _).trans (((cell_far (p := ⟨gb239, _, none⟩) NB238_239.out _).trans (hHeld.1)))), ((cell_far (p := ⟨gb239, _, none⟩) NB238_239.out _).trans (((cell_far (p := ⟨gb239, _, none⟩) NB238_239.out _).trans (hHeld.2.1)))), ((cell_far (p := ⟨gb239, _, none⟩) NB238_239.out _).trans (((cell_far (p := ⟨gb239, _, none⟩) NB238_239.out _).trans (hHeld.2.2))))⟩ (fun hHeld => ?_); clear hK K; refine pw_ 10 7 ?_; refine done_ (done_of HT_.out (by kernel_rfl)) ?_
     try go_wp2
     refine bodyPost_ret (results_ct rfl _ _ gb239 26 #[.int .i64 (Int.tmod a2 a0_0), .int .i64 (wrap64 (Int.tdiv a2 a0_0))] (0, 0) _ rfl (by refine bq_ ?_; refine blk_put (cs := #[.int .i64 (Int.tmod a2 a0_0), .int .i64 0]) ?_ 1 _ rfl; refine bq_ ?_; refine blk_put (cs := #[.int .i64 0, .int .i64 0]) ?_ 0 _ rfl; refine bq_ ?_; exact BK239.out) Try.underlying26 rfl (by kernel_rfl)) rfl ?_; exact ⟨er_, hb_⟩
 ·replace c5 := Bool.eq_false_iff.mpr c5
  subst c5
  have H1 : (some (0, 0, 2)) = some (r1, r2, r3) := by rw [if_neg (show ¬ (false = true) by decide)] at H; exact H
  clear H; have H := H1; clear H1; simp only [Option.some.injEq, Prod.mk.injEq] at H; obtain ⟨rfl, rfl, rfl⟩ := H
  go_enter Try.func12, Try.ntmps12
  go_wp2_with (first | ((with_reducible refine gate_dst (N := 3) rfl ?_); refine bx_ 3 #[.int .i64 a0_0, .bool a0_1, .slice A0_2 l0_2.length c0_2] 24 ?_; intro gb238 hg w31 BK238 hb; have GE238 := ge_ (w := w) hg; replace HB := hst_ hb; clear hb hg) | ((with_reducible refine gate_dst (N := 6) rfl ?_); refine bx_ 6 #[.int .i64 0, .int .i64 0] 26 ?_; intro gb239 hg w32 BK239 hb; have GE239 := ge_ (w := w) hg; replace HB := hst_ hb; have NB238_239 := am_ (nl_ BK238.out hg); have NB239_238 := am_ (ng_ BK238.out hg); replace BK238 := am_ (bb_ BK238.out hb); clear hb hg; have hnb33 := NB238_239.out; have hnc33 := NB239_238.out; obtain ⟨hcz34_0, hcz34_1, hcz34_2, hfz34_0, hfz34_1, hfz34_2⟩ := cf3_ BK238.out) | ((with_reducible refine gate_callee (f := 15) rfl ?_); refine cl_ 11 Try.func15 (expand_Fits.calls k a0_0 a0_1 _ _ l0_2 a1 false _ (cb_ HR0_2.out) HC0_2.out A4.out) ?_; rintro e w35 ⟨rfl, hb⟩; refine ⟨_, rfl, ?_⟩; replace BK238 := am_ (bb_ BK238.out hb); replace BK239 := am_ (bb_ BK239.out hb); replace HB := hst_ hb; (try clear hb); (try clear hb2); (try clear hk); (try clear hi); obtain ⟨hcz36_0, hcz36_1, hfz36_0, hfz36_1⟩ := cf2_ BK239.out))
  refine bodyPost_ret (results_ct rfl _ _ gb239 26 #[.int .i64 0, .int .i64 0] (0, 0) _ rfl q17_ Try.underlying26 rfl (by kernel_rfl)) rfl ?_; exact ⟨er_, hb_⟩
end Go.Proofs.Ytfhkkbpkajfdlaa.Q
end
section
namespace Go.Proofs.Ytfhkkbpkajfdlaa.Q
attribute [local go_sem] max2_int min2_int max_two min_two min_four
theorem eqA26 (d : Nat) (w : World) (x0 y0 : Int) (x1 y1 : Int) :
  (Op.equalIn (d + 2) 26 (.agg #[.int .i64 x0, .int .i64 x1]) (.agg #[.int .i64 y0, .int .i64 y1])).run Try.prog w = .ok (x0 == y0 && (x1 == y1)) w := by
 refine eqA_of Try.underlying26 (by kernel_rfl) ?_; refine eqf_cons (by rfl) (by go_simp; rfl) (by go_simp; rfl) (by go_simp) ?_; exact eqf_last (by rfl) (by go_simp; rfl) (by go_simp; rfl) (by go_simp)
end Go.Proofs.Ytfhkkbpkajfdlaa.Q
end
section
namespace Go.Proofs.Ytfhkkbpkajfdlaa.Q
def ebbtidelaw14_Line.f (a0 : Bool) : Option (Int × Bool × (List (S54))) := some (3, a0, (([(⟨0, 1, 2, 1⟩ : S54), (⟨1, 2, 2, 1⟩ : S54)] : List (S54))))
set_option maxHeartbeats 8000000 in
set_option maxRecDepth 100000 in
theorem ebbtidelaw14_Line.calls (a0 : Bool) (r1 : Int) (r2 : Bool) (r3 : List (S54)) (w : World) (h : ebbtidelaw14_Line.f a0 = some (r1, r2, r3)) :
  Calls Try.prog 33 #[.bool a0] w fun e w' => ∃ v2_ : Value, e = .returned (.agg #[.int .i64 r1, .bool r2, v2_]) ∧ Kd.R k54 54 w' w.heap.size (fun _ => True) v2_ r3 ∧ Below w.heap.size w w' := by
 have hu24 := Try.underlying24; have hu54 := Try.underlying54; have HB := am_ (Below.refl w.heap.size w); have H : (some (3, a0, (([(⟨0, 1, 2, 1⟩ : S54), (⟨1, 2, 2, 1⟩ : S54)] : List (S54))))) = some (r1, r2, r3) := h; clear h; obtain ⟨y245, hy_⟩ : ∃ y_ : List (S54), y_ = (([(⟨0, 1, 2, 1⟩ : S54), (⟨1, 2, 2, 1⟩ : S54)] : List (S54))) := ⟨_, rfl⟩
 replace H : (some (3, a0, y245)) = some (r1, r2, r3) := hyH_
 have Ny245 := am_ hy_; clear hy_; simp only [Option.some.injEq, Prod.mk.injEq] at H; obtain ⟨rfl, rfl, rfl⟩ := H
 go_enter Try.func33, Try.ntmps33
 go_wp2_with (first | ((with_reducible refine gate_dst (N := 2) rfl ?_); refine bx_ 2 #[.int .i64 0, .bool false, .slice none 0 0] 24 ?_; intro gb244 hg w2 BK244 hb; have GE244 := ge_ (w := w) hg; replace HB := hst_ hb; clear hb hg) | ((with_reducible refine gate_dst (N := 6) rfl ?_); refine Kd.R_lit k54 _ 54 ?hg (N := 6) ?hd (xs := ([(⟨0, 1, 2, 1⟩ : S54), (⟨1, 2, 2, 1⟩ : S54)] : List (S54))) (inner := [.int .i64 0, .int .i64 1, .int .i64 2, .int .i64 1, .int .i64 1, .int .i64 2, .int .i64 2, .int .i64 1]) (ok := fun _ => True) (okp := fun _ => True) ?hr ?hp (fun _ hk => hk) trivial (Below.refl _ _) (Nat.le_refl _) (by simp) ?_; (case hd => rfl); (case hg => rfl); (case hr => first | (go_simp; done) | (go_simp; rfl)); (case hp => exact (Reps.c4 (show Kd.M k54 _ _ _ (⟨0, 1, 2, 1⟩ : S54) [.int .i64 0, .int .i64 1, .int .i64 2, .int .i64 1] from (k54_mkM _ _ _ (⟨0, 1, 2, 1⟩ : S54) )) (Reps.c4 (show Kd.M k54 _ _ _ (⟨1, 2, 2, 1⟩ : S54) [.int .i64 1, .int .i64 2, .int .i64 2, .int .i64 1] from (k54_mkM _ _ _ (⟨1, 2, 2, 1⟩ : S54) )) (Reps.none _ _)))); intro v246 w3 ho4 hb hg_ hnew_; clear hg_ hnew_; (first | rw [← Ny245.out] at ho4 | (simp only [Int.reduceToNat] at ho4; rw [← Ny245.out] at ho4)); have HO247 := am_ (Kd.R_lower ho4 (below_size hb_)); replace BK244 := am_ (bb_ BK244.out hb); replace HB := hst_ hb; clear hb ho4; obtain ⟨Ao5, co5, eo5⟩ := Kd.R_slice HO247.out; subst eo5; obtain ⟨hcz6_0, hcz6_1, hcz6_2, hfz6_0, hfz6_1, hfz6_2⟩ := cf3_ BK244.out))
 refine bodyPost_ret (results_cell_row rfl _ _ gb244 24 #[.int .i64 3, .bool a0, .slice Ao5 y245.length co5] (0, 0) _ rfl (by refine bq_ ?_; refine blk_put (cs := #[.int .i64 3, .bool a0, .slice none 0 0]) ?_ 2 _ rfl; refine bq_ ?_; refine blk_put (cs := #[.int .i64 3, .bool false, .slice none 0 0]) ?_ 1 _ rfl; refine bq_ ?_; refine blk_put (cs := #[.int .i64 0, .bool false, .slice none 0 0]) ?_ 0 _ rfl; refine bq_ ?_; exact BK244.out) Try.underlying24 rfl (by kernel_rfl)) rfl ?_; exact ⟨_, er_, by refine rq_ ?_; exact Kd.R_mono (rf3_ (Kd.R_types HO247.out BK244.out (by decide))) (fun _ hk => trivial), hb_⟩
end Go.Proofs.Ytfhkkbpkajfdlaa.Q
end
