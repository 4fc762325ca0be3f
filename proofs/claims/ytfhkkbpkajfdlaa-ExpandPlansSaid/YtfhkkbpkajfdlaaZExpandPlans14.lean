/- A part of the proof: words, contracts, plain lemmas. Conditions: none. -/
import Derived.ShutString
import Derived.ChangeOld
import Derived.SizedLaws
import Derived.Test.YtfhkkbpkajfdlaaZExpandPlans13
set_option linter.unusedSectionVars false
set_option linter.unusedSimpArgs false
set_option linter.unusedVariables false
section
namespace Go.Proofs.Ytfhkkbpkajfdlaa.Q
open Go.RowKit Go.Proofs.YtfhkkbpkajfdlaaW.PrintWords Go.Proofs.YtfhkkbpkajfdlaaW.PrintLast Go.Proofs.YtfhkkbpkajfdlaaW.PrintMore
mutual
def ebbtidelaw15_ExpandPlans.j0 : Nat → Bool → Int → Int → Int → List (S85) → Int → List Int → Bool → Int → Bool → List (S54) → Int → Bool → List (S54) → Option (Bool)
 | 0, _, _, _, _, _, _, _, _, _, _, _, _, _, _ => none
 | k + 1, x3, x5, x6, x7, x8, x9, x11, x86, x751000, x751001, x751002, x764000, x764001, x764002 => if x86 = true then (some false) else (if 0 ≤ x764000 then (if (x764000 : Int).toNat ≤ 35184372088832 then (ebbtidelaw15_ExpandPlans.l0 k x3 x5 x6 x7 x8 x9 x11 (List.replicate (x764000 : Int).toNat 0) 0 x751000 x751001 x751002 x764000 x764001 x764002) else (none)) else (none))
def ebbtidelaw15_ExpandPlans.l0 : Nat → Bool → Int → Int → Int → List (S85) → Int → List Int → List Int → Int → Int → Bool → List (S54) → Int → Bool → List (S54) → Option (Bool)
 | 0, _, _, _, _, _, _, _, _, _, _, _, _, _, _, _ => none
 | k + 1, x3, x5, x6, x7, x8, x9, x11, x15, x16, x751000, x751001, x751002, x764000, x764001, x764002 => if x16 < (x11.length : Int) then (if 0 ≤ x16 then (if x16 < (x764002.length : Int) then (if (rd x11 x16) < 0 then (some false) else (if (rd x11 x16) > ((rd_T54 x764002 x16).f2) then (some false) else (if ((rd_T54 x764002 x16).f0) < 0 then (some false) else (if ((rd_T54 x764002 x16).f0) ≥ (x15.length : Int) then (some false) else (if ((rd_T54 x764002 x16).f1) < 0 then (some false) else (if ((rd_T54 x764002 x16).f1) ≥ (x15.length : Int) then (some false) else (if 0 ≤ ((rd_T54 x764002 x16).f0) then (if ((rd_T54 x764002 x16).f0) < (x15.length : Int) then ((some (x15.set (((rd_T54 x764002 x16).f0) : Int).toNat (wrap64 ((rd x15 ((rd_T54 x764002 x16).f0)) + (rd x11 x16))) : List Int)).bind fun y773 => (if 0 ≤ ((rd_T54 x764002 x16).f1) then (if ((rd_T54 x764002 x16).f1) < (x15.length : Int) then (ebbtidelaw15_ExpandPlans.l0 k x3 x5 x6 x7 x8 x9 x11 (y773.set (((rd_T54 x764002 x16).f1) : Int).toNat (wrap64 ((rd y773 ((rd_T54 x764002 x16).f1)) - (rd x11 x16)))) (wrap64 (x16 + 1)) x751000 x751001 x751002 x764000 x764001 x764002) else (none)) else (none))) else (none)) else (none)))))))) else (none)) else (none)) else (ebbtidelaw15_ExpandPlans.l1 k x3 x5 x6 x7 x8 x9 x11 x15 0 x751000 x751001 x751002)
def ebbtidelaw15_ExpandPlans.l1 : Nat → Bool → Int → Int → Int → List (S85) → Int → List Int → List Int → Int → Int → Bool → List (S54) → Option (Bool)
 | 0, _, _, _, _, _, _, _, _, _, _, _, _ => none
 | k + 1, x3, x5, x6, x7, x8, x9, x11, x15, x18, x751000, x751001, x751002 => if (wrap64 (x18 + 2)) < (x15.length : Int) then (if 0 ≤ x18 then (if x18 < (x15.length : Int) then (if (rd x15 x18) = 0 then (ebbtidelaw15_ExpandPlans.l1 k x3 x5 x6 x7 x8 x9 x11 x15 (wrap64 (x18 + 1)) x751000 x751001 x751002) else (some false)) else (none)) else (none)) else ((ebbtideref03_Moves.f k x8).bind fun bt778 => ((expand_Moves.f k x751000 x751001 x751002 x5 x6 x7 x11).bind fun bt782 => (if x3 = true then (if 0 ≤ (wrap64 ((x15.length : Int) - 2)) then (if (wrap64 ((x15.length : Int) - 2)) < (x15.length : Int) then (if (rd x15 (wrap64 ((x15.length : Int) - 2))) = x9 then (if 0 ≤ (wrap64 ((x15.length : Int) - 1)) then (if (wrap64 ((x15.length : Int) - 1)) < (x15.length : Int) then (if (rd x15 (wrap64 ((x15.length : Int) - 1))) = (wrap64 (-x9)) then (if bt782.2 = 0 then ((ebbtideref03_SameMoves.f k bt782.1 bt778.1).bind fun t788 => (some t788)) else (some false)) else (some false)) else (none)) else (none)) else (some false)) else (none)) else (none)) else (some false))))
end
def ebbtidelaw15_ExpandPlans.f (k : Nat) (a0_0 : Int) (a0_1 : Bool) (l0_2 : List (S80)) (a0_3 : Int) (a0_4 : Int) (a0_5 : Int) (l0_6 : List (S96)) : Option (Bool) := (ebbtidelaw15_awake.f k).bind fun t738 => (if t738 = true then ((ebbtidelaw14_Read.f k a0_0 a0_1 l0_2 a0_3 a0_4 a0_5 l0_6).bind fun bt739 => ((ebbtideref14_Check.f k bt739.1 bt739.2.1 bt739.2.2.1 bt739.2.2.2.1 bt739.2.2.2.2.1 bt739.2.2.2.2.2.1 bt739.2.2.2.2.2.2).bind fun bt751 => ((expand_Flow.f k bt739.1 bt739.2.1 bt739.2.2.1 bt739.2.2.2.1 bt739.2.2.2.2.1 bt739.2.2.2.2.2.1 bt739.2.2.2.2.2.2).bind fun bt753 => (if bt751.2 = 0 then ((expand_Build.f k bt739.1 bt739.2.1 bt739.2.2.1 bt739.2.2.2.1 bt739.2.2.2.2.1 bt739.2.2.2.2.2.1).bind fun bt757 => (if bt753.2 = 0 then (if bt757.2.2.2 = 0 then (ebbtidelaw15_ExpandPlans.j0 k t738 bt739.2.2.2.1 bt739.2.2.2.2.1 bt739.2.2.2.2.2.1 bt739.2.2.2.2.2.2 bt751.1 bt753.1 ((bt753.1.length : Int) != (bt757.2.2.1.length : Int)) bt739.1 bt739.2.1 bt739.2.2.1 bt757.1 bt757.2.1 bt757.2.2.1) else (ebbtidelaw15_ExpandPlans.j0 k t738 bt739.2.2.2.1 bt739.2.2.2.2.1 bt739.2.2.2.2.2.1 bt739.2.2.2.2.2.2 bt751.1 bt753.1 true bt739.1 bt739.2.1 bt739.2.2.1 bt757.1 bt757.2.1 bt757.2.2.1)) else (ebbtidelaw15_ExpandPlans.j0 k t738 bt739.2.2.2.1 bt739.2.2.2.2.1 bt739.2.2.2.2.2.1 bt739.2.2.2.2.2.2 bt751.1 bt753.1 true bt739.1 bt739.2.1 bt739.2.2.1 bt757.1 bt757.2.1 bt757.2.2.1))) else (if bt753.2 = bt751.2 then (some ((bt753.1.length : Int) == 0)) else (some false)))))) else (some false))
def ebbtidelaw15_ExpandPlans.T19 : Bool × List (List Nat × List Nat) := (true, [([], []), ([], []), ([1], [1]), ([], []), ([], []), ([4], [4]), ([3, 5], [3, 5]), ([6], [6]), ([], []), ([], []), ([8, 9], [8, 9]), ([10], [10]), ([7, 11], [7, 11]), ([0, 2, 0, 1, 2, 3, 4, 5, 6, 7, 8, 9, 10, 11, 12], [0, 2]), ([13, 12, 0, 1, 2, 3, 4, 5, 6, 7, 8, 9, 10, 11, 12], [12, 13])])
def ebbtidelaw15_ExpandPlans.B19 : List Nat := [0, 0, 2, 0, 0, 16, 56, 120, 0, 0, 768, 1792, 4088, 8191, 16383]
theorem ebbtidelaw15_ExpandPlans.tab19 : rtab .any (opsOf Try.f9 19) = ebbtidelaw15_ExpandPlans.T19 := by kernel_rfl
theorem ebbtidelaw15_ExpandPlans.bits19 : waitsOk ebbtidelaw15_ExpandPlans.T19.2 ebbtidelaw15_ExpandPlans.B19 = true := by kernel_rfl
def ebbtidelaw15_ExpandPlans.T20 : Bool × List (List Nat × List Nat) := (true, [([], []), ([], []), ([1], [1]), ([], []), ([], []), ([4], [4]), ([3, 5], [3, 5]), ([6], [6]), ([], []), ([], []), ([8, 9], [8, 9]), ([10], [10]), ([7, 11], [7, 11]), ([0, 2, 0, 1, 2, 3, 4, 5, 6, 7, 8, 9, 10, 11, 12], [0, 2]), ([13, 12, 0, 1, 2, 3, 4, 5, 6, 7, 8, 9, 10, 11, 12], [12, 13])])
def ebbtidelaw15_ExpandPlans.B20 : List Nat := [0, 0, 2, 0, 0, 16, 56, 120, 0, 0, 768, 1792, 4088, 8191, 16383]
theorem ebbtidelaw15_ExpandPlans.tab20 : rtab .any (opsOf Try.f9 20) = ebbtidelaw15_ExpandPlans.T20 := by kernel_rfl
theorem ebbtidelaw15_ExpandPlans.bits20 : waitsOk ebbtidelaw15_ExpandPlans.T20.2 ebbtidelaw15_ExpandPlans.B20 = true := by kernel_rfl
set_option maxHeartbeats 8000000 in
set_option maxRecDepth 100000 in
theorem ebbtidelaw15_ExpandPlans.calls (k : Nat) (a0_0 : Int) (a0_1 : Bool) (A0_2 : Option Addr) (c0_2 : Nat) (l0_2 : List (S80)) (a0_3 : Int) (a0_4 : Int) (a0_5 : Int) (A0_6 : Option Addr) (c0_6 : Nat) (l0_6 : List (S96)) (r : Bool) (w : World) (hr0_2 : Kd.C k80 w A0_2 l0_2.length l0_2) (hc0_2 : l0_2.length ≤ c0_2) (hr0_6 : Kd.C k96 w A0_6 l0_6.length l0_6) (hc0_6 : l0_6.length ≤ c0_6) (h : ebbtidelaw15_ExpandPlans.f k a0_0 a0_1 l0_2 a0_3 a0_4 a0_5 l0_6 = some r) (hrt : r = true := by first | rfl | exact HRT.out | assumption) :
  Calls Try.prog 9 #[.agg #[.int .u8 a0_0, .bool a0_1, .slice A0_2 l0_2.length c0_2, .int .u8 a0_3, .int .u8 a0_4, .int .u8 a0_5, .slice A0_6 l0_6.length c0_6]] w fun e w' => e = .returned (.bool r) ∧ Below w.heap.size w w' := by
 have HRT := am_ hrt; clear hrt; have hu60 := Try.underlying60; have hu24 := Try.underlying24; have hu54 := Try.underlying54; have HR0_2 := am_ hr0_2; have HC0_2 := am_ hc0_2; clear hr0_2 hc0_2; have HR0_6 := am_ hr0_6; have HC0_6 := am_ hc0_6; clear hr0_6 hc0_6; have HB := am_ (Below.refl w.heap.size w); have H : ((ebbtidelaw15_awake.f k).bind fun t738 => (if t738 = true then ((ebbtidelaw14_Read.f k a0_0 a0_1 l0_2 a0_3 a0_4 a0_5 l0_6).bind fun bt739 => ((ebbtideref14_Check.f k bt739.1 bt739.2.1 bt739.2.2.1 bt739.2.2.2.1 bt739.2.2.2.2.1 bt739.2.2.2.2.2.1 bt739.2.2.2.2.2.2).bind fun bt751 => ((expand_Flow.f k bt739.1 bt739.2.1 bt739.2.2.1 bt739.2.2.2.1 bt739.2.2.2.2.1 bt739.2.2.2.2.2.1 bt739.2.2.2.2.2.2).bind fun bt753 => (if bt751.2 = 0 then ((expand_Build.f k bt739.1 bt739.2.1 bt739.2.2.1 bt739.2.2.2.1 bt739.2.2.2.2.1 bt739.2.2.2.2.2.1).bind fun bt757 => (if bt753.2 = 0 then (if bt757.2.2.2 = 0 then (ebbtidelaw15_ExpandPlans.j0 k t738 bt739.2.2.2.1 bt739.2.2.2.2.1 bt739.2.2.2.2.2.1 bt739.2.2.2.2.2.2 bt751.1 bt753.1 ((bt753.1.length : Int) != (bt757.2.2.1.length : Int)) bt739.1 bt739.2.1 bt739.2.2.1 bt757.1 bt757.2.1 bt757.2.2.1) else (ebbtidelaw15_ExpandPlans.j0 k t738 bt739.2.2.2.1 bt739.2.2.2.2.1 bt739.2.2.2.2.2.1 bt739.2.2.2.2.2.2 bt751.1 bt753.1 true bt739.1 bt739.2.1 bt739.2.2.1 bt757.1 bt757.2.1 bt757.2.2.1)) else (ebbtidelaw15_ExpandPlans.j0 k t738 bt739.2.2.2.1 bt739.2.2.2.2.1 bt739.2.2.2.2.2.1 bt739.2.2.2.2.2.2 bt751.1 bt753.1 true bt739.1 bt739.2.1 bt739.2.2.1 bt757.1 bt757.2.1 bt757.2.2.1))) else (if bt753.2 = bt751.2 then (some ((bt753.1.length : Int) == 0)) else (some false)))))) else (some false))) = some r := h; clear h; replace H := Option.bind_eq_some_iff.mp H; obtain ⟨t738, A20, H⟩ := H; replace H : (if t738 = true then ((ebbtidelaw14_Read.f k a0_0 a0_1 l0_2 a0_3 a0_4 a0_5 l0_6).bind fun bt739 => ((ebbtideref14_Check.f k bt739.1 bt739.2.1 bt739.2.2.1 bt739.2.2.2.1 bt739.2.2.2.2.1 bt739.2.2.2.2.2.1 bt739.2.2.2.2.2.2).bind fun bt751 => ((expand_Flow.f k bt739.1 bt739.2.1 bt739.2.2.1 bt739.2.2.2.1 bt739.2.2.2.2.1 bt739.2.2.2.2.2.1 bt739.2.2.2.2.2.2).bind fun bt753 => (if bt751.2 = 0 then ((expand_Build.f k bt739.1 bt739.2.1 bt739.2.2.1 bt739.2.2.2.1 bt739.2.2.2.2.1 bt739.2.2.2.2.2.1).bind fun bt757 => (if bt753.2 = 0 then (if bt757.2.2.2 = 0 then (ebbtidelaw15_ExpandPlans.j0 k t738 bt739.2.2.2.1 bt739.2.2.2.2.1 bt739.2.2.2.2.2.1 bt739.2.2.2.2.2.2 bt751.1 bt753.1 ((bt753.1.length : Int) != (bt757.2.2.1.length : Int)) bt739.1 bt739.2.1 bt739.2.2.1 bt757.1 bt757.2.1 bt757.2.2.1) else (ebbtidelaw15_ExpandPlans.j0 k t738 bt739.2.2.2.1 bt739.2.2.2.2.1 bt739.2.2.2.2.2.1 bt739.2.2.2.2.2.2 bt751.1 bt753.1 true bt739.1 bt739.2.1 bt739.2.2.1 bt757.1 bt757.2.1 bt757.2.2.1)) else (ebbtidelaw15_ExpandPlans.j0 k t738 bt739.2.2.2.1 bt739.2.2.2.2.1 bt739.2.2.2.2.2.1 bt739.2.2.2.2.2.2 bt751.1 bt753.1 true bt739.1 bt739.2.1 bt739.2.2.1 bt757.1 bt757.2.1 bt757.2.2.1))) else (if bt753.2 = bt751.2 then (some ((bt753.1.length : Int) == 0)) else (some false)))))) else (some false)) = some r := H; have A2 := am_ A20; clear A20
 by_cases c3 : t738 = true
 ·subst c3
  have H1 : ((ebbtidelaw14_Read.f k a0_0 a0_1 l0_2 a0_3 a0_4 a0_5 l0_6).bind fun bt739 => ((ebbtideref14_Check.f k bt739.1 bt739.2.1 bt739.2.2.1 bt739.2.2.2.1 bt739.2.2.2.2.1 bt739.2.2.2.2.2.1 bt739.2.2.2.2.2.2).bind fun bt751 => ((expand_Flow.f k bt739.1 bt739.2.1 bt739.2.2.1 bt739.2.2.2.1 bt739.2.2.2.2.1 bt739.2.2.2.2.2.1 bt739.2.2.2.2.2.2).bind fun bt753 => (if bt751.2 = 0 then ((expand_Build.f k bt739.1 bt739.2.1 bt739.2.2.1 bt739.2.2.2.1 bt739.2.2.2.2.1 bt739.2.2.2.2.2.1).bind fun bt757 => (if bt753.2 = 0 then (if bt757.2.2.2 = 0 then (ebbtidelaw15_ExpandPlans.j0 k true bt739.2.2.2.1 bt739.2.2.2.2.1 bt739.2.2.2.2.2.1 bt739.2.2.2.2.2.2 bt751.1 bt753.1 ((bt753.1.length : Int) != (bt757.2.2.1.length : Int)) bt739.1 bt739.2.1 bt739.2.2.1 bt757.1 bt757.2.1 bt757.2.2.1) else (ebbtidelaw15_ExpandPlans.j0 k true bt739.2.2.2.1 bt739.2.2.2.2.1 bt739.2.2.2.2.2.1 bt739.2.2.2.2.2.2 bt751.1 bt753.1 true bt739.1 bt739.2.1 bt739.2.2.1 bt757.1 bt757.2.1 bt757.2.2.1)) else (ebbtidelaw15_ExpandPlans.j0 k true bt739.2.2.2.1 bt739.2.2.2.2.1 bt739.2.2.2.2.2.1 bt739.2.2.2.2.2.2 bt751.1 bt753.1 true bt739.1 bt739.2.1 bt739.2.2.1 bt757.1 bt757.2.1 bt757.2.2.1))) else (if bt753.2 = bt751.2 then (some ((bt753.1.length : Int) == 0)) else (some false)))))) = some r := by rw [if_pos rfl] at H; exact H
  clear H; have H := H1; clear H1; replace H := Option.bind_eq_some_iff.mp H; obtain ⟨⟨t739, t740, t741, t744, t745, t746, t747⟩, A40, H⟩ := H; replace H : ((ebbtideref14_Check.f k t739 t740 t741 t744 t745 t746 t747).bind fun bt751 => ((expand_Flow.f k t739 t740 t741 t744 t745 t746 t747).bind fun bt753 => (if bt751.2 = 0 then ((expand_Build.f k t739 t740 t741 t744 t745 t746).bind fun bt757 => (if bt753.2 = 0 then (if bt757.2.2.2 = 0 then (ebbtidelaw15_ExpandPlans.j0 k true t744 t745 t746 t747 bt751.1 bt753.1 ((bt753.1.length : Int) != (bt757.2.2.1.length : Int)) t739 t740 t741 bt757.1 bt757.2.1 bt757.2.2.1) else (ebbtidelaw15_ExpandPlans.j0 k true t744 t745 t746 t747 bt751.1 bt753.1 true t739 t740 t741 bt757.1 bt757.2.1 bt757.2.2.1)) else (ebbtidelaw15_ExpandPlans.j0 k true t744 t745 t746 t747 bt751.1 bt753.1 true t739 t740 t741 bt757.1 bt757.2.1 bt757.2.2.1))) else (if bt753.2 = bt751.2 then (some ((bt753.1.length : Int) == 0)) else (some false))))) = some r := H; have A4 := am_ A40; clear A40; replace H := Option.bind_eq_some_iff.mp H; obtain ⟨⟨t751, t752⟩, A50, H⟩ := H; replace H : ((expand_Flow.f k t739 t740 t741 t744 t745 t746 t747).bind fun bt753 => (if t752 = 0 then ((expand_Build.f k t739 t740 t741 t744 t745 t746).bind fun bt757 => (if bt753.2 = 0 then (if bt757.2.2.2 = 0 then (ebbtidelaw15_ExpandPlans.j0 k true t744 t745 t746 t747 t751 bt753.1 ((bt753.1.length : Int) != (bt757.2.2.1.length : Int)) t739 t740 t741 bt757.1 bt757.2.1 bt757.2.2.1) else (ebbtidelaw15_ExpandPlans.j0 k true t744 t745 t746 t747 t751 bt753.1 true t739 t740 t741 bt757.1 bt757.2.1 bt757.2.2.1)) else (ebbtidelaw15_ExpandPlans.j0 k true t744 t745 t746 t747 t751 bt753.1 true t739 t740 t741 bt757.1 bt757.2.1 bt757.2.2.1))) else (if bt753.2 = t752 then (some ((bt753.1.length : Int) == 0)) else (some false)))) = some r := H; have A5 := am_ A50; clear A50; replace H := Option.bind_eq_some_iff.mp H; obtain ⟨⟨t753, t756⟩, A60, H⟩ := H; replace H : (if t752 = 0 then ((expand_Build.f k t739 t740 t741 t744 t745 t746).bind fun bt757 => (if t756 = 0 then (if bt757.2.2.2 = 0 then (ebbtidelaw15_ExpandPlans.j0 k true t744 t745 t746 t747 t751 t753 ((t753.length : Int) != (bt757.2.2.1.length : Int)) t739 t740 t741 bt757.1 bt757.2.1 bt757.2.2.1) else (ebbtidelaw15_ExpandPlans.j0 k true t744 t745 t746 t747 t751 t753 true t739 t740 t741 bt757.1 bt757.2.1 bt757.2.2.1)) else (ebbtidelaw15_ExpandPlans.j0 k true t744 t745 t746 t747 t751 t753 true t739 t740 t741 bt757.1 bt757.2.1 bt757.2.2.1))) else (if t756 = t752 then (some ((t753.length : Int) == 0)) else (some false))) = some r := H; have A6 := am_ A60; clear A60
  by_cases c7 : t752 = 0
  ·rw [if_pos c7] at H
   obtain ⟨c7b0, c7b1⟩ := eqb_ c7; clear c7; replace H := Option.bind_eq_some_iff.mp H; obtain ⟨⟨t757, t758, t759, t762⟩, A80, H⟩ := H; replace H : (if t756 = 0 then (if t762 = 0 then (ebbtidelaw15_ExpandPlans.j0 k true t744 t745 t746 t747 t751 t753 ((t753.length : Int) != (t759.length : Int)) t739 t740 t741 t757 t758 t759) else (ebbtidelaw15_ExpandPlans.j0 k true t744 t745 t746 t747 t751 t753 true t739 t740 t741 t757 t758 t759)) else (ebbtidelaw15_ExpandPlans.j0 k true t744 t745 t746 t747 t751 t753 true t739 t740 t741 t757 t758 t759)) = some r := H; have A8 := am_ A80; clear A80; have HC9 := am_ H; clear H
   go_enter Try.func9, Try.ntmps9
   go_upto_region 10 with (first | ((with_reducible refine gate_dst (N := 1) rfl ?_); (try (refine gate_guard (by rfl) ?_; dsimp only)); refine bx_ 1 #[.int .u8 a0_0, .bool a0_1, .slice A0_2 l0_2.length c0_2, .int .u8 a0_3, .int .u8 a0_4, .int .u8 a0_5, .slice A0_6 l0_6.length c0_6] 60 ?_; intro gb737 hg w10 BK737 hb; have GE737 := ge_ (w := w) hg; replace HB := hst_ hb; clear hb hg) | ((with_reducible refine gate_callee (f := 14) rfl ?_); refine cl_ 23 Try.func14 (ebbtidelaw15_awake.calls k  true _ A2.out) ?_; rintro e w11 ⟨rfl, hb⟩; refine ⟨_, rfl, ?_⟩; replace BK737 := am_ (bb_ BK737.out hb); replace HB := hst_ hb; (try clear hb); (try clear hb2); (try clear hk); (try clear hi); obtain ⟨hcz12_0, hcz12_1, hcz12_2, hcz12_3, hcz12_4, hcz12_5, hcz12_6, hfz12_0, hfz12_1, hfz12_2, hfz12_3, hfz12_4, hfz12_5, hfz12_6⟩ := cf7_ BK737.out) | ((with_reducible refine gate_callee (f := 27) rfl ?_); refine cl_ 28 Try.func27 (ebbtidelaw14_Read.calls k a0_0 a0_1 _ _ l0_2 a0_3 a0_4 a0_5 _ _ l0_6 t739 t740 t741 t744 t745 t746 t747 _ (cb_ HR0_2.out) HC0_2.out (cb_ HR0_6.out) HC0_6.out A4.out) ?_; rintro e w13 ⟨v742, v748, rfl, ho0, ho1, hb⟩; refine ⟨_, rfl, ?_⟩; have HO743 := am_ (Kd.R_lower ho0 (below_size hb_)); have HO749 := am_ (Kd.R_lower ho1 (below_size hb_)); replace BK737 := am_ (bb_ BK737.out hb); replace HB := hst_ hb; (try clear hb); (try clear hb2); (try clear hk); (try clear hi); (try clear ho0); (try clear ho1)) | ((with_reducible refine gate_dst (N := 4) rfl ?_); (try (refine gate_guard (by rfl) ?_; dsimp only)); refine bx_ 4 #[.int .i64 0, .bool false, .slice none 0 0] 24 ?_; intro gb750 hg w14 BK750 hb; replace HO743 := am_ (Kd.R_below (rq_ HO743.out) hb); replace HO749 := am_ (Kd.R_below (rq_ HO749.out) hb); have GE750 := ge_ (w := w) hg; replace HB := hst_ hb; have NB737_750 := am_ (nl_ BK737.out hg); have NB750_737 := am_ (ng_ BK737.out hg); replace BK737 := am_ (bb_ BK737.out hb); clear hb hg; have hnb15 := NB750_737.out; have hnc15 := NB737_750.out; obtain ⟨hcz16_0, hcz16_1, hcz16_2, hfz16_0, hfz16_1, hfz16_2⟩ := cf3_ BK750.out; obtain ⟨Ao17, co17, eo17⟩ := Kd.R_slice HO743.out; subst eo17; obtain ⟨Ao18, co18, eo18⟩ := Kd.R_slice HO749.out; subst eo18) | ((with_reducible refine gate_callee (f := 26) rfl ?_); refine goesL_ (some 40) rfl rfl Try.func26 (by kernel_rfl) rfl #[.agg #[.int .i64 t739, .bool t740, .slice Ao17 t741.length co17], .int .i64 t744, .int .i64 t745, .int .i64 t746, .slice Ao18 t747.length co18] rfl mt_ ?_; (with_reducible refine (ebbtideref14_Check.calls k t739 t740 _ _ t741 t744 t745 t746 _ _ t747 t751 t752 _ ?side1 ?side2 ?side3 ?side4 A5.out).mono ?_); (case side1 => refine (Kd.R_reads' (e := 54) (base := w.heap.size) (ok := fun k_ => True) (n := t741.length) (c := co17) ?_).2.2; exact q29_); (case side2 => exact (Kd.R_reads' HO743.out).2.1); (case side3 => refine (Kd.R_reads' (e := 85) (base := w.heap.size) (ok := fun k_ => True) (n := t747.length) (c := co18) ?_).2.2; exact q30_); (case side4 => exact (Kd.R_reads' HO749.out).2.1); rintro e w19 ⟨rfl, hb⟩; refine ⟨_, rfl, ?_⟩; replace HO743 := am_ (Kd.R_below q29_ hb); replace HO749 := am_ (Kd.R_below q30_ hb); replace BK737 := am_ (blk_below (g := gb737) (o := .cells #[.int .u8 a0_0, .bool a0_1, .slice A0_2 l0_2.length c0_2, .int .u8 a0_3, .int .u8 a0_4, .int .u8 a0_5, .slice A0_6 l0_6.length c0_6] 60 (0, 0)) (by refine bq_ ?_; refine blk_far ?_ NB737_750.out _; refine bq_ ?_; refine blk_far ?_ NB737_750.out _; refine bq_ ?_; refine blk_far ?_ NB737_750.out _; refine bq_ ?_; exact BK737.out) hb); replace BK750 := am_ (blk_below (g := gb750) (o := .cells #[.int .i64 t739, .bool t740, .slice Ao17 t741.length co17] 24 (0, 0)) q28_ hb); replace HB := hst_ hb; (try clear hb); (try clear hb2); (try clear hk); (try clear hi); obtain ⟨hcz20_0, hcz20_1, hcz20_2, hfz20_0, hfz20_1, hfz20_2⟩ := cf3_ BK750.out) | ((with_reducible refine gate_callee (f := 28) rfl ?_); refine goesL_ (some 49) rfl rfl Try.func28 (by kernel_rfl) rfl #[.agg #[.int .i64 t739, .bool t740, .slice Ao17 t741.length co17], .int .i64 t744, .int .i64 t745, .int .i64 t746, .slice Ao18 t747.length co18] rfl mt_ ?_; (with_reducible refine (expand_Flow.calls k t739 t740 _ _ t741 t744 t745 t746 _ _ t747 t753 t756 _ ?side1 ?side2 ?side3 ?side4 A6.out).mono ?_); (case side1 => repeat (first | exact (Kd.R_reads' HO743.out).2.2 | (with_reducible refine Kd.C_alloc ?_ _) | (with_reducible refine Kd.C_drewN ?_ _) | (with_reducible refine Kd.C_drew ?_))); (case side2 => exact (Kd.R_reads' HO743.out).2.1); (case side3 => repeat (first | exact (Kd.R_reads' HO749.out).2.2 | (with_reducible refine Kd.C_alloc ?_ _) | (with_reducible refine Kd.C_drewN ?_ _) | (with_reducible refine Kd.C_drew ?_))); (case side4 => exact (Kd.R_reads' HO749.out).2.1); rintro e w21 ⟨v754, rfl, ho0, hb⟩; refine ⟨_, rfl, ?_⟩; replace HO743 := am_ (Kd.R_below (rq_ HO743.out) hb); replace HO749 := am_ (Kd.R_below (rq_ HO749.out) hb); have HO755 := am_ (Kd.R_lower ho0 (below_size hb_)); replace BK737 := am_ (bb_ BK737.out hb); replace BK750 := am_ (bb_ BK750.out hb); replace HB := hst_ hb; (try clear hb); (try clear hb2); (try clear hk); (try clear hi); (try clear ho0); obtain ⟨hcz22_0, hcz22_1, hcz22_2, hfz22_0, hfz22_1, hfz22_2⟩ := cf3_ BK750.out) | ((with_reducible refine gate_callee (f := 17) rfl ?_); refine goesL_ (some 70) rfl rfl Try.func17 (by kernel_rfl) rfl #[.agg #[.int .i64 t739, .bool t740, .slice Ao17 t741.length co17], .int .i64 t744, .int .i64 t745, .int .i64 t746] rfl mt_ ?_; (with_reducible refine (expand_Build.calls k t739 t740 _ _ t741 t744 t745 t746 t757 t758 t759 t762 _ ?side1 ?side2 A8.out).mono ?_); (case side1 => repeat (first | exact (Kd.R_reads' HO743.out).2.2 | (with_reducible refine Kd.C_alloc ?_ _) | (with_reducible refine Kd.C_drewN ?_ _) | (with_reducible refine Kd.C_drew ?_))); (case side2 => exact (Kd.R_reads' HO743.out).2.1); rintro e w23 ⟨v760, rfl, ho0, hb⟩; refine ⟨_, rfl, ?_⟩; replace HO749 := am_ (Kd.R_below (rq_ HO749.out) hb); replace HO755 := am_ (Kd.R_below (rq_ HO755.out) hb); have HO761 := am_ (Kd.R_lower (Kd.R_new' ho0 (Kd.R_lt (rq_ HO743.out))) (below_size hb_)); replace HO743 := am_ (Kd.R_elder' (rq_ HO743.out) (Kd.R_base ho0) hb); replace BK737 := am_ (bb_ BK737.out hb); replace BK750 := am_ (bb_ BK750.out hb); replace HB := hst_ hb; (try clear hb); (try clear hb2); (try clear hk); (try clear hi); (try clear ho0)) | ((with_reducible refine gate_dst (N := 13) rfl ?_); (try (refine gate_guard (by rfl) ?_; dsimp only)); refine bx_ 13 #[.int .i64 0, .bool false, .slice none 0 0] 24 ?_; intro gb763 hg w24 BK763 hb; replace HO743 := am_ (Kd.R_below (rq_ HO743.out) hb); replace HO749 := am_ (Kd.R_below (rq_ HO749.out) hb); replace HO755 := am_ (Kd.R_below (rq_ HO755.out) hb); replace HO761 := am_ (Kd.R_below (rq_ HO761.out) hb); have GE763 := ge_ (w := w) hg; replace HB := hst_ hb; have NB737_763 := am_ (nl_ BK737.out hg); have NB763_737 := am_ (ng_ BK737.out hg); replace BK737 := am_ (bb_ BK737.out hb); have NB750_763 := am_ (nl_ BK750.out hg); have NB763_750 := am_ (ng_ BK750.out hg); replace BK750 := am_ (bb_ BK750.out hb); clear hb hg; have hnb25 := NB763_737.out; have hnc25 := NB737_763.out; have hnb26 := NB763_750.out; have hnc26 := NB750_763.out; obtain ⟨hcz27_0, hcz27_1, hcz27_2, hfz27_0, hfz27_1, hfz27_2⟩ := cf3_ BK763.out; obtain ⟨Ao28, co28, eo28⟩ := Kd.R_slice HO761.out; subst eo28))
   (try simp only [Act.put, List.setIfInBounds_toArray, List.set_cons_zero, List.set_cons_succ])
   go_cut [86] (fun v86 wc => ∃ (kq : Nat) (x86_8 : Bool), v86 = .bool x86_8 ∧ Aside0 (ebbtidelaw15_ExpandPlans.j0 kq true t744 t745 t746 t747 t751 t753 x86_8 t739 t740 t741 t757 t758 t759 = some r) ∧ Aside0 (kq ≤ k) ∧ Aside0 (Kd.R k85 85 wc w.heap.size (fun _ => True) (.slice Ao18 t747.length co18) t747) ∧ Aside0 (Kd.R (Kd.int .i64) 3 wc w.heap.size (fun _ => True) v754 t753) ∧ Aside0 (Kd.R k54 54 wc w.heap.size (fun k_ => some k_ ≠ ((.slice Ao28 t759.length co28) : Value).ownBlock) (.slice Ao17 t741.length co17) t741) ∧ Aside0 (Kd.R k54 54 wc w.heap.size (fun k_ => some k_ ≠ ((.slice Ao17 t741.length co17) : Value).ownBlock) (.slice Ao28 t759.length co28) t759) ∧ Aside0 (wc.heap[gb737]? = some (.cells #[.int .u8 a0_0, .bool a0_1, (.slice A0_2 l0_2.length c0_2), .int .u8 a0_3, .int .u8 a0_4, .int .u8 a0_5, (.slice A0_6 l0_6.length c0_6)] 60 (0, 0))) ∧ Aside0 (wc.heap[gb750]? = some (.cells #[.int .i64 t739, .bool t740, (.slice Ao17 t741.length co17)] 24 (0, 0))) ∧ Aside0 (wc.heap[gb763]? = some (.cells #[.int .i64 t757, .bool t758, (.slice Ao28 t759.length co28)] 24 (0, 0))) ∧ Aside0 (Below w.heap.size w wc))
   case first =>
    have H := HC9.out; clear HC9
    by_cases c29 : t756 = 0
    ·rw [if_pos c29] at H
     obtain ⟨c29b0, c29b1⟩ := eqb_ c29; clear c29
     (first | rw [c29b0] | (simp only [i64_w, i32_w]; rw [c29b0]) | skip)
     by_cases c30 : t762 = 0
     ·rw [if_pos c30] at H
      obtain ⟨c30b0, c30b1⟩ := eqb_ c30; clear c30; have H' := am_ H; clear H; obtain ⟨Ao31, co31, eo31⟩ := Kd.R_slice HO755.out; subst eo31; have hnb32 := NB763_737.out; have hnc32 := NB737_763.out; have hnb33 := NB763_750.out; have hnc33 := NB750_763.out; obtain ⟨hcz34_0, hcz34_1, hcz34_2, hfz34_0, hfz34_1, hfz34_2⟩ := cf3_ BK763.out
      go_wp2
      go_meet
      case rel => exact ⟨_, (((t753.length : Int) != (t759.length : Int))), rs_, H', ⟨by first | omega | exact Nat.le_refl _⟩, ⟨by refine rq_ ?_; exact Kd.R_mono (rf3_ (Kd.R_types HO749.out BK763.out (by decide))) (fun _ hk => trivial)⟩, ⟨by refine rq_ ?_; exact Kd.R_mono (rf3_ (Kd.R_types HO755.out BK763.out (by decide))) (fun _ hk => trivial)⟩, ⟨by refine rq_ ?_; exact Kd.R_mono (rf3_ (Kd.R_types HO743.out BK763.out (by decide))) (fun _ hk => hk.1.2)⟩, ⟨by refine rq_ ?_; exact Kd.R_mono (rf3_ (Kd.R_types HO761.out BK763.out (by decide))) (fun _ hk => hk.1.2)⟩, ⟨by refine bq_ ?_; refine blk_far ?_ NB737_763.out _; refine bq_ ?_; refine blk_far ?_ NB737_763.out _; refine bq_ ?_; refine blk_far ?_ NB737_763.out _; refine bq_ ?_; exact BK737.out⟩, ⟨by refine bq_ ?_; refine blk_far ?_ NB750_763.out _; refine bq_ ?_; refine blk_far ?_ NB750_763.out _; refine bq_ ?_; refine blk_far ?_ NB750_763.out _; refine bq_ ?_; exact BK750.out⟩, ⟨by refine bq_ ?_; refine blk_put (cs := #[.int .i64 t757, .bool t758, .slice none 0 0]) ?_ 2 _ rfl; refine bq_ ?_; refine blk_put (cs := #[.int .i64 t757, .bool false, .slice none 0 0]) ?_ 1 _ rfl; refine bq_ ?_; refine blk_put (cs := #[.int .i64 0, .bool false, .slice none 0 0]) ?_ 0 _ rfl; refine bq_ ?_; exact BK763.out⟩, ⟨hb_⟩⟩
     ·rw [if_neg c30] at H
      obtain ⟨c30b0, c30b1⟩ := neb_ c30; have H' := am_ H; clear H
      go_wp2
      go_meet
      case rel => exact ⟨_, (true), rs_, H', ⟨by first | omega | exact Nat.le_refl _⟩, ⟨by refine rq_ ?_; exact Kd.R_mono (rf3_ (Kd.R_types HO749.out BK763.out (by decide))) (fun _ hk => trivial)⟩, ⟨by refine rq_ ?_; exact Kd.R_mono (rf3_ (Kd.R_types HO755.out BK763.out (by decide))) (fun _ hk => trivial)⟩, ⟨by refine rq_ ?_; exact Kd.R_mono (rf3_ (Kd.R_types HO743.out BK763.out (by decide))) (fun _ hk => hk.1.2)⟩, ⟨by refine rq_ ?_; exact Kd.R_mono (rf3_ (Kd.R_types HO761.out BK763.out (by decide))) (fun _ hk => hk.1.2)⟩, ⟨by refine bq_ ?_; refine blk_far ?_ NB737_763.out _; refine bq_ ?_; refine blk_far ?_ NB737_763.out _; refine bq_ ?_; refine blk_far ?_ NB737_763.out _; refine bq_ ?_; exact BK737.out⟩, ⟨by refine bq_ ?_; refine blk_far ?_ NB750_763.out _; refine bq_ ?_; refine blk_far ?_ NB750_763.out _; refine bq_ ?_; refine blk_far ?_ NB750_763.out _; refine bq_ ?_; exact BK750.out⟩, ⟨by refine bq_ ?_; refine blk_put (cs := #[.int .i64 t757, .bool t758, .slice none 0 0]) ?_ 2 _ rfl; refine bq_ ?_; refine blk_put (cs := #[.int .i64 t757, .bool false, .slice none 0 0]) ?_ 1 _ rfl; refine bq_ ?_; refine blk_put (cs := #[.int .i64 0, .bool false, .slice none 0 0]) ?_ 0 _ rfl; refine bq_ ?_; exact BK763.out⟩, ⟨hb_⟩⟩
    ·rw [if_neg c29] at H
     obtain ⟨c29b0, c29b1⟩ := neb_ c29
     (first | rw [c29b0] | (simp only [i64_w, i32_w]; rw [c29b0]) | skip)
     have H' := am_ H; clear H
     go_wp2
     go_meet
     case rel => exact ⟨_, (true), rs_, H', ⟨by first | omega | exact Nat.le_refl _⟩, ⟨by refine rq_ ?_; exact Kd.R_mono (rf3_ (Kd.R_types HO749.out BK763.out (by decide))) (fun _ hk => trivial)⟩, ⟨by refine rq_ ?_; exact Kd.R_mono (rf3_ (Kd.R_types HO755.out BK763.out (by decide))) (fun _ hk => trivial)⟩, ⟨by refine rq_ ?_; exact Kd.R_mono (rf3_ (Kd.R_types HO743.out BK763.out (by decide))) (fun _ hk => hk.1.2)⟩, ⟨by refine rq_ ?_; exact Kd.R_mono (rf3_ (Kd.R_types HO761.out BK763.out (by decide))) (fun _ hk => hk.1.2)⟩, ⟨by refine bq_ ?_; refine blk_far ?_ NB737_763.out _; refine bq_ ?_; refine blk_far ?_ NB737_763.out _; refine bq_ ?_; refine blk_far ?_ NB737_763.out _; refine bq_ ?_; exact BK737.out⟩, ⟨by refine bq_ ?_; refine blk_far ?_ NB750_763.out _; refine bq_ ?_; refine blk_far ?_ NB750_763.out _; refine bq_ ?_; refine blk_far ?_ NB750_763.out _; refine bq_ ?_; exact BK750.out⟩, ⟨by refine bq_ ?_; refine blk_put (cs := #[.int .i64 t757, .bool t758, .slice none 0 0]) ?_ 2 _ rfl; refine bq_ ?_; refine blk_put (cs := #[.int .i64 t757, .bool false, .slice none 0 0]) ?_ 1 _ rfl; refine bq_ ?_; refine blk_put (cs := #[.int .i64 0, .bool false, .slice none 0 0]) ?_ 0 _ rfl; refine bq_ ?_; exact BK763.out⟩, ⟨hb_⟩⟩
   case rest =>
    clear HC9
    try clear c1
    try clear c2
    try clear p2
    try clear c3
    try clear c7
    try clear c7b0
    try clear c7b1
    try clear c9
    try clear c14
    try clear c15
    try clear c17
    try clear c25
    try clear c26
    try clear c27
    try clear c28
    try clear c29
    try clear c29b0
    try clear c29b1
    try clear c30
    try clear c30b0
    try clear c30b1
    try clear c32
    try clear c33
    try clear hcz12_0 hcz12_1 hcz12_2 hcz12_3 hcz12_4 hcz12_5 hcz12_6
    try clear hcz16_0 hcz16_1 hcz16_2
    try clear hcz20_0 hcz20_1 hcz20_2
    try clear hcz22_0 hcz22_1 hcz22_2
    try clear hcz27_0 hcz27_1 hcz27_2
    try clear hcz34_0 hcz34_1 hcz34_2
    try clear hfz12_0 hfz12_1 hfz12_2 hfz12_3 hfz12_4 hfz12_5 hfz12_6
    try clear hfz16_0 hfz16_1 hfz16_2
    try clear hfz20_0 hfz20_1 hfz20_2
    try clear hfz22_0 hfz22_1 hfz22_2
    try clear hfz27_0 hfz27_1 hfz27_2
    try clear hfz34_0 hfz34_1 hfz34_2
    obtain ⟨kq, x86_8, rfl, HA, HJ8, HO_8, HO_11, HO_751002, HO_764002, BK737, BK750, BK763, HB⟩ := hcut
    cases kq with
    | zero => exact absurd HA.out (by simp [ebbtidelaw15_ExpandPlans.j0])
    | succ kj8 =>
     have H := HA.out; clear HA; simp only [ebbtidelaw15_ExpandPlans.j0] at H
     by_cases c35 : x86_8 = true
     ·subst c35
      have H1 : (some false) = some r := by rw [if_pos rfl] at H; exact H
      clear H; have H := H1; clear H1; exact absurd ((Option.some.inj H).trans HRT.out) (by decide)
     ·replace c35 := Bool.eq_false_iff.mpr c35
      subst c35
      have H1 : (if 0 ≤ t757 then (if (t757 : Int).toNat ≤ 35184372088832 then (ebbtidelaw15_ExpandPlans.l0 kj8 true t744 t745 t746 t747 t751 t753 (List.replicate (t757 : Int).toNat 0) 0 t739 t740 t741 t757 t758 t759) else (none)) else (none)) = some r := by rw [if_neg (show ¬ (false = true) by decide)] at H; exact H
      clear H; have H := H1; clear H1
      replace H := ifn_ H; obtain ⟨c36, H⟩ := H
      have c36b0 := eq_true c36; have c36b1 := decide_eq_true c36; clear c36
      replace H := ifn_ H; obtain ⟨c37, H⟩ := H
      have c37b0 := eq_true c37; have c37b1 := decide_eq_true c37; clear c37; obtain ⟨y764, hy_⟩ : ∃ y_ : List Int, y_ = (List.replicate (t757 : Int).toNat 0) := ⟨_, rfl⟩
      replace H : (ebbtidelaw15_ExpandPlans.l0 kj8 true t744 t745 t746 t747 t751 t753 y764 0 t739 t740 t741 t757 t758 t759) = some r := hyH_
      have Ny764 := am_ hy_; clear hy_; have H' := am_ H; clear H; have hnb38 := NB763_737.out; have hnc38 := NB737_763.out; have hnb39 := NB763_750.out; have hnc39 := NB750_763.out; obtain ⟨hcz40_0, hcz40_1, hcz40_2, hfz40_0, hfz40_1, hfz40_2⟩ := cf3_ BK763.out
      go_wp2_with (first | ((with_reducible refine gate_dst (N := 89) rfl ?_); (try (refine gate_guard (by rfl) ?_; dsimp only)); refine Kd.R_make (Kd.int .i64) _ 3 rfl (N := 89) rfl 42 _ _ rfl t757 rfl rfl Try.underlying42 (.int .i64 0) 8 info3 rfl (by decide) (by omega) 0 (ok := fun _ => True) (okp := fun _ => True) rfl (fun _ hk => hk) trivial (of_decide_eq_true sm_) (Nat.le_trans (Nat.mul_le_mul_right _ (of_decide_eq_true sm_ : t757.toNat ≤ 35184372088832)) (by omega)) (Below.refl _ _) (Nat.le_refl _) ?_; intro v765 w41 ho42 hb hg_ hnew_; clear hg_ hnew_; (first | rw [← Ny764.out] at ho42 | (simp only [Int.reduceToNat] at ho42; rw [← Ny764.out] at ho42)); replace HO_8 := am_ (Kd.R_below (rq_ HO_8.out) hb); replace HO_751002 := am_ (Kd.R_below (rq_ HO_751002.out) hb); replace HO_764002 := am_ (Kd.R_below (rq_ HO_764002.out) hb); have HO766 := am_ (Kd.R_lower (Kd.R_new' ho42 (Kd.R_lt (rq_ HO_11.out))) (below_size hb_)); replace HO_11 := am_ (Kd.R_elder' (rq_ HO_11.out) (Kd.R_base ho42) hb); replace BK737 := am_ (bb_ BK737.out hb); replace BK750 := am_ (bb_ BK750.out hb); replace BK763 := am_ (bb_ BK763.out hb); replace HB := hst_ hb; clear hb ho42))
      go_loopg [16] kj8 (fun kq v16 w' => ∃ (x15_2 : List Int) (x16_2 : Int), v16 = .int .i64 x16_2 ∧ Aside0 (ebbtidelaw15_ExpandPlans.l0 kq true t744 t745 t746 t747 t751 t753 x15_2 x16_2 t739 t740 t741 t757 t758 t759 = some r) ∧ Aside0 (kq ≤ kj8) ∧ Aside0 (Kd.R k85 85 w' w.heap.size (fun _ => True) (.slice Ao18 t747.length co18) t747) ∧ Aside0 (Kd.R (Kd.int .i64) 3 w' w.heap.size (fun k_ => some k_ ≠ (v765 : Value).ownBlock) v754 t753) ∧ Aside0 (Kd.R (Kd.int .i64) 3 w' w.heap.size (fun k_ => some k_ ≠ (v754 : Value).ownBlock) v765 x15_2) ∧ Aside0 (Kd.R k54 54 w' w.heap.size (fun k_ => some k_ ≠ ((.slice Ao28 t759.length co28) : Value).ownBlock) (.slice Ao17 t741.length co17) t741) ∧ Aside0 (Kd.R k54 54 w' w.heap.size (fun k_ => some k_ ≠ ((.slice Ao17 t741.length co17) : Value).ownBlock) (.slice Ao28 t759.length co28) t759) ∧ Aside0 (w'.heap[gb737]? = some (.cells #[.int .u8 a0_0, .bool a0_1, (.slice A0_2 l0_2.length c0_2), .int .u8 a0_3, .int .u8 a0_4, .int .u8 a0_5, (.slice A0_6 l0_6.length c0_6)] 60 (0, 0))) ∧ Aside0 (w'.heap[gb750]? = some (.cells #[.int .i64 t739, .bool t740, (.slice Ao17 t741.length co17)] 24 (0, 0))) ∧ Aside0 (w'.heap[gb763]? = some (.cells #[.int .i64 t757, .bool t758, (.slice Ao28 t759.length co28)] 24 (0, 0))) ∧ Aside0 (Below w.heap.size w w'))
      case atStart => exact ⟨(y764), (0), rs_, H', ⟨Nat.le_refl _⟩, ⟨rq_ HO_8.out⟩, ⟨by refine rq_ ?_; exact Kd.R_mono HO_11.out (fun _ hk => hk.2)⟩, ⟨by refine rq_ ?_; exact Kd.R_mono HO766.out (fun _ hk => hk.2)⟩, ⟨rq_ HO_751002.out⟩, ⟨rq_ HO_764002.out⟩, ⟨bq_ BK737.out⟩, ⟨bq_ BK750.out⟩, ⟨bq_ BK763.out⟩, ⟨hb_⟩⟩
      case round =>
       clear H'
       try clear c1
       try clear c2
       try clear p2
       try clear c3
       try clear c7
       try clear c7b0
       try clear c7b1
       try clear c9
       try clear c14
       try clear c15
       try clear c17
       try clear c25
       try clear c26
       try clear c27
       try clear c28
       try clear c29
       try clear c29b0
       try clear c29b1
       try clear c30
       try clear c30b0
       try clear c30b1
       try clear c32
       try clear c33
       try clear c35
       try clear c36
       try clear c36b0
       try clear c36b1
       try clear c37
       try clear c37b0
       try clear c37b1
       try clear c38
       try clear c39
       try clear hcz12_0 hcz12_1 hcz12_2 hcz12_3 hcz12_4 hcz12_5 hcz12_6
       try clear hcz16_0 hcz16_1 hcz16_2
       try clear hcz20_0 hcz20_1 hcz20_2
       try clear hcz22_0 hcz22_1 hcz22_2
       try clear hcz27_0 hcz27_1 hcz27_2
       try clear hcz34_0 hcz34_1 hcz34_2
       try clear hcz40_0 hcz40_1 hcz40_2
       try clear hfz12_0 hfz12_1 hfz12_2 hfz12_3 hfz12_4 hfz12_5 hfz12_6
       try clear hfz16_0 hfz16_1 hfz16_2
       try clear hfz20_0 hfz20_1 hfz20_2
       try clear hfz22_0 hfz22_1 hfz22_2
       try clear hfz27_0 hfz27_1 hfz27_2
       try clear hfz34_0 hfz34_1 hfz34_2
       try clear hfz40_0 hfz40_1 hfz40_2
       try clear p2
       obtain ⟨x15_2, x16_2, rfl, HA, HK2, HO_8, HO_11, HO_15, HO_751002, HO_764002, BK737, BK750, BK763, HB⟩ := hrel
       cases gk with
       | zero => exact absurd HA.out (by simp [ebbtidelaw15_ExpandPlans.l0])
       | succ k2 =>
        have H := HA.out; clear HA; simp only [ebbtidelaw15_ExpandPlans.l0] at H
        by_cases c43 : x16_2 < (t753.length : Int)
        ·rw [if_pos c43] at H
         have c43b0 := decide_eq_true c43; clear c43
         replace H := ifn_ H; obtain ⟨c44, H⟩ := H
         have c44b0 := decide_eq_true c44; clear c44
         replace H := ifn_ H; obtain ⟨c45, H⟩ := H
         have c45b0 := decide_eq_true c45; clear c45
         by_cases c46 : (rd t753 x16_2) < 0
         ·rw [if_pos c46] at H
          have c46b0 := decide_eq_true c46; clear c46; exact absurd ((Option.some.inj H).trans HRT.out) (by decide)
         ·rw [if_neg c46] at H
          have c46b0 := decide_eq_false c46; clear c46
          by_cases c47 : (rd t753 x16_2) > ((rd_T54 t759 x16_2).f2)
          ·rw [if_pos c47] at H
           have c47b0 := decide_eq_true c47; clear c47; exact absurd ((Option.some.inj H).trans HRT.out) (by decide)
          ·rw [if_neg c47] at H
           have c47b0 := decide_eq_false c47; clear c47
           by_cases c48 : ((rd_T54 t759 x16_2).f0) < 0
           ·rw [if_pos c48] at H
            have c48b0 := decide_eq_true c48; clear c48; exact absurd ((Option.some.inj H).trans HRT.out) (by decide)
           ·rw [if_neg c48] at H
            have c48b0 := decide_eq_false c48; clear c48
            by_cases c49 : ((rd_T54 t759 x16_2).f0) ≥ (x15_2.length : Int)
            ·rw [if_pos c49] at H
             have c49b0 := decide_eq_true c49; clear c49; exact absurd ((Option.some.inj H).trans HRT.out) (by decide)
            ·rw [if_neg c49] at H
             have c49b0 := decide_eq_false c49; clear c49
             by_cases c50 : ((rd_T54 t759 x16_2).f1) < 0
             ·rw [if_pos c50] at H
              have c50b0 := decide_eq_true c50; clear c50; exact absurd ((Option.some.inj H).trans HRT.out) (by decide)
             ·rw [if_neg c50] at H
              have c50b0 := decide_eq_false c50; clear c50
              by_cases c51 : ((rd_T54 t759 x16_2).f1) ≥ (x15_2.length : Int)
              ·rw [if_pos c51] at H
               have c51b0 := decide_eq_true c51; clear c51; exact absurd ((Option.some.inj H).trans HRT.out) (by decide)
              ·rw [if_neg c51] at H
               have c51b0 := decide_eq_false c51; clear c51
               replace H := ifn_ H; obtain ⟨c52, H⟩ := H
               have c52b0 := decide_eq_true c52; clear c52
               replace H := ifn_ H; obtain ⟨c53, H⟩ := H
               have c53b0 := decide_eq_true c53; clear c53; obtain ⟨y773, hy_⟩ : ∃ y_ : List Int, y_ = (x15_2.set (((rd_T54 t759 x16_2).f0) : Int).toNat (wrap64 ((rd x15_2 ((rd_T54 t759 x16_2).f0)) + (rd t753 x16_2)))) := ⟨_, rfl⟩
               replace H : (if 0 ≤ ((rd_T54 t759 x16_2).f1) then (if ((rd_T54 t759 x16_2).f1) < (x15_2.length : Int) then (ebbtidelaw15_ExpandPlans.l0 k2 true t744 t745 t746 t747 t751 t753 (y773.set (((rd_T54 t759 x16_2).f1) : Int).toNat (wrap64 ((rd y773 ((rd_T54 t759 x16_2).f1)) - (rd t753 x16_2)))) (wrap64 (x16_2 + 1)) t739 t740 t741 t757 t758 t759) else (none)) else (none)) = some r := hyH_
               have Ny773 := am_ hy_; clear hy_
               replace H := ifn_ H; obtain ⟨c55, H⟩ := H
               have c55b0 := decide_eq_true c55; clear c55
               replace H := ifn_ H; obtain ⟨c56, H⟩ := H
               have c56b0 := decide_eq_true c56; clear c56; obtain ⟨y776, hy_⟩ : ∃ y_ : List Int, y_ = (y773.set (((rd_T54 t759 x16_2).f1) : Int).toNat (wrap64 ((rd y773 ((rd_T54 t759 x16_2).f1)) - (rd t753 x16_2)))) := ⟨_, rfl⟩
               replace H : (ebbtidelaw15_ExpandPlans.l0 k2 true t744 t745 t746 t747 t751 t753 y776 (wrap64 (x16_2 + 1)) t739 t740 t741 t757 t758 t759) = some r := hyH_
               have Ny776 := am_ hy_; clear hy_; have H' := am_ H; clear H; obtain ⟨Ao58, co58, eo58⟩ := Kd.R_slice HO_11.out; subst eo58; have hnb59 := NB763_737.out; have hnc59 := NB737_763.out; have hnb60 := NB763_750.out; have hnc60 := NB750_763.out; obtain ⟨hcz61_0, hcz61_1, hcz61_2, hfz61_0, hfz61_1, hfz61_2⟩ := cf3_ BK763.out; have p767 : 0 ≤ (x16_2 : Int) := of_decide_eq_true sm_; have q767 : x16_2 < (t759.length : Int) := of_decide_eq_true sm_; obtain ⟨ad767, e767, hx767_0, hx767_1, hx767_2, hx767_3⟩ := at_T54 (Kd.R_reads' HO_764002.out).2.2 x16_2 p767 q767; cases e767; replace p767 := eq_true p767; replace q767 := eq_true q767
               try go_wp2_with (first | ((with_reducible refine gate_dst (N := 17) rfl ?_); (try (refine gate_guard (by rfl) ?_; dsimp only)); refine bx_ 17 #[.int .i64 0, .int .i64 0, .int .i64 0, .int .i64 0] 54 ?_; intro gb768 hg w62 BK768 hb; replace HO_8 := am_ (Kd.R_below (rq_ HO_8.out) hb); replace HO_11 := am_ (Kd.R_below (rq_ HO_11.out) hb); replace HO_15 := am_ (Kd.R_below (rq_ HO_15.out) hb); replace HO_751002 := am_ (Kd.R_below (Kd.R_elderB (rq_ HO_751002.out) gb768 (Nat.le_of_eq hg.symm)) hb); replace HO_764002 := am_ (Kd.R_below (Kd.R_elderB (rq_ HO_764002.out) gb768 (Nat.le_of_eq hg.symm)) hb); have GE768 := ge_ (w := w) hg; replace HB := hst_ hb; have NB737_768 := am_ (nl_ BK737.out hg); have NB768_737 := am_ (ng_ BK737.out hg); replace BK737 := am_ (bb_ BK737.out hb); have NB750_768 := am_ (nl_ BK750.out hg); have NB768_750 := am_ (ng_ BK750.out hg); replace BK750 := am_ (bb_ BK750.out hb); have NB763_768 := am_ (nl_ BK763.out hg); have NB768_763 := am_ (ng_ BK763.out hg); replace BK763 := am_ (bb_ BK763.out hb); clear hb hg; have hnb63 := NB768_737.out; have hnc63 := NB737_768.out; have hnb64 := NB768_750.out; have hnc64 := NB750_768.out; have hnb65 := NB768_763.out; have hnc65 := NB763_768.out; obtain ⟨hcz66_0, hcz66_1, hcz66_2, hcz66_3, hfz66_0, hfz66_1, hfz66_2, hfz66_3⟩ := cf4_ BK768.out))
               have n0_ : Aside0 (Kd.R k85 85 ((((w62.setCell ⟨gb768, 0, none⟩ (.int .i64 ((rd_T54 t759 x16_2).f0))).setCell ⟨gb768, 1, none⟩ (.int .i64 ((rd_T54 t759 x16_2).f1))).setCell ⟨gb768, 2, none⟩ (.int .i64 ((rd_T54 t759 x16_2).f2))).setCell ⟨gb768, 3, none⟩ (.int .i64 ((rd_T54 t759 x16_2).f3))) w.heap.size (fun _ => True) (.slice Ao18 t747.length co18) t747) := ⟨by refine rq_ ?_; exact Kd.R_mono (rf4_ (Kd.R_types HO_8.out BK768.out (by decide))) (fun _ hk => trivial)⟩; have n1_ : Aside0 (Kd.R (Kd.int .i64) 3 ((((w62.setCell ⟨gb768, 0, none⟩ (.int .i64 ((rd_T54 t759 x16_2).f0))).setCell ⟨gb768, 1, none⟩ (.int .i64 ((rd_T54 t759 x16_2).f1))).setCell ⟨gb768, 2, none⟩ (.int .i64 ((rd_T54 t759 x16_2).f2))).setCell ⟨gb768, 3, none⟩ (.int .i64 ((rd_T54 t759 x16_2).f3))) w.heap.size (fun k_ => some k_ ≠ (v765 : Value).ownBlock) (.slice Ao58 t753.length co58) t753) := ⟨by refine rq_ ?_; exact Kd.R_mono (rf4_ (Kd.R_types HO_11.out BK768.out (by decide))) (fun _ hk => hk.1)⟩; have n2_ : Aside0 (Kd.R (Kd.int .i64) 3 ((((w62.setCell ⟨gb768, 0, none⟩ (.int .i64 ((rd_T54 t759 x16_2).f0))).setCell ⟨gb768, 1, none⟩ (.int .i64 ((rd_T54 t759 x16_2).f1))).setCell ⟨gb768, 2, none⟩ (.int .i64 ((rd_T54 t759 x16_2).f2))).setCell ⟨gb768, 3, none⟩ (.int .i64 ((rd_T54 t759 x16_2).f3))) w.heap.size (fun k_ => some k_ ≠ (.slice Ao58 t753.length co58 : Value).ownBlock) v765 x15_2) := ⟨by refine rq_ ?_; exact Kd.R_mono (rf4_ (Kd.R_types HO_15.out BK768.out (by decide))) (fun _ hk => hk.1)⟩; have n3_ : Aside0 (Kd.R k54 54 ((((w62.setCell ⟨gb768, 0, none⟩ (.int .i64 ((rd_T54 t759 x16_2).f0))).setCell ⟨gb768, 1, none⟩ (.int .i64 ((rd_T54 t759 x16_2).f1))).setCell ⟨gb768, 2, none⟩ (.int .i64 ((rd_T54 t759 x16_2).f2))).setCell ⟨gb768, 3, none⟩ (.int .i64 ((rd_T54 t759 x16_2).f3))) w.heap.size (fun k_ => some k_ ≠ (.slice (some ad767) t759.length co28 : Value).ownBlock ∧ k_ ≠ gb768) (.slice Ao17 t741.length co17) t741) := ⟨by refine rq_ ?_; exact Kd.R_mono (rf4_ (Kd.R_mono HO_751002.out (fun k_ hk => (⟨hk, hk.2⟩ : _ ∧ k_ ≠ gb768)))) (fun _ hk => ⟨hk.1.1, hk.1.2⟩)⟩; have n4_ : Aside0 (Kd.R k54 54 ((((w62.setCell ⟨gb768, 0, none⟩ (.int .i64 ((rd_T54 t759 x16_2).f0))).setCell ⟨gb768, 1, none⟩ (.int .i64 ((rd_T54 t759 x16_2).f1))).setCell ⟨gb768, 2, none⟩ (.int .i64 ((rd_T54 t759 x16_2).f2))).setCell ⟨gb768, 3, none⟩ (.int .i64 ((rd_T54 t759 x16_2).f3))) w.heap.size (fun k_ => some k_ ≠ (.slice Ao17 t741.length co17 : Value).ownBlock ∧ k_ ≠ gb768) (.slice (some ad767) t759.length co28) t759) := ⟨by refine rq_ ?_; exact Kd.R_mono (rf4_ (Kd.R_mono HO_764002.out (fun k_ hk => (⟨hk, hk.2⟩ : _ ∧ k_ ≠ gb768)))) (fun _ hk => ⟨hk.1.1, hk.1.2⟩)⟩; have n5_ : Aside0 (((((w62.setCell ⟨gb768, 0, none⟩ (.int .i64 ((rd_T54 t759 x16_2).f0))).setCell ⟨gb768, 1, none⟩ (.int .i64 ((rd_T54 t759 x16_2).f1))).setCell ⟨gb768, 2, none⟩ (.int .i64 ((rd_T54 t759 x16_2).f2))).setCell ⟨gb768, 3, none⟩ (.int .i64 ((rd_T54 t759 x16_2).f3))).heap[gb737]? = some (.cells #[.int .u8 a0_0, .bool a0_1, .slice A0_2 l0_2.length c0_2, .int .u8 a0_3, .int .u8 a0_4, .int .u8 a0_5, .slice A0_6 l0_6.length c0_6] 60 (0, 0))) := ⟨by refine bq_ ?_; refine blk_far ?_ NB737_768.out _; refine bq_ ?_; refine blk_far ?_ NB737_768.out _; refine bq_ ?_; refine blk_far ?_ NB737_768.out _; refine bq_ ?_; refine blk_far ?_ NB737_768.out _; refine bq_ ?_; exact BK737.out⟩; have n6_ : Aside0 (((((w62.setCell ⟨gb768, 0, none⟩ (.int .i64 ((rd_T54 t759 x16_2).f0))).setCell ⟨gb768, 1, none⟩ (.int .i64 ((rd_T54 t759 x16_2).f1))).setCell ⟨gb768, 2, none⟩ (.int .i64 ((rd_T54 t759 x16_2).f2))).setCell ⟨gb768, 3, none⟩ (.int .i64 ((rd_T54 t759 x16_2).f3))).heap[gb750]? = some (.cells #[.int .i64 t739, .bool t740, .slice Ao17 t741.length co17] 24 (0, 0))) := ⟨by refine bq_ ?_; refine blk_far ?_ NB750_768.out _; refine bq_ ?_; refine blk_far ?_ NB750_768.out _; refine bq_ ?_; refine blk_far ?_ NB750_768.out _; refine bq_ ?_; refine blk_far ?_ NB750_768.out _; refine bq_ ?_; exact BK750.out⟩; have n7_ : Aside0 (((((w62.setCell ⟨gb768, 0, none⟩ (.int .i64 ((rd_T54 t759 x16_2).f0))).setCell ⟨gb768, 1, none⟩ (.int .i64 ((rd_T54 t759 x16_2).f1))).setCell ⟨gb768, 2, none⟩ (.int .i64 ((rd_T54 t759 x16_2).f2))).setCell ⟨gb768, 3, none⟩ (.int .i64 ((rd_T54 t759 x16_2).f3))).heap[gb763]? = some (.cells #[.int .i64 t757, .bool t758, .slice (some ad767) t759.length co28] 24 (0, 0))) := ⟨by refine bq_ ?_; refine blk_far ?_ NB763_768.out _; refine bq_ ?_; refine blk_far ?_ NB763_768.out _; refine bq_ ?_; refine blk_far ?_ NB763_768.out _; refine bq_ ?_; refine blk_far ?_ NB763_768.out _; refine bq_ ?_; exact BK763.out⟩; have n8_ : Aside0 (((((w62.setCell ⟨gb768, 0, none⟩ (.int .i64 ((rd_T54 t759 x16_2).f0))).setCell ⟨gb768, 1, none⟩ (.int .i64 ((rd_T54 t759 x16_2).f1))).setCell ⟨gb768, 2, none⟩ (.int .i64 ((rd_T54 t759 x16_2).f2))).setCell ⟨gb768, 3, none⟩ (.int .i64 ((rd_T54 t759 x16_2).f3))).heap[gb768]? = some (.cells #[.int .i64 ((rd_T54 t759 x16_2).f0), .int .i64 ((rd_T54 t759 x16_2).f1), .int .i64 ((rd_T54 t759 x16_2).f2), .int .i64 ((rd_T54 t759 x16_2).f3)] 54 (0, 0))) := ⟨by refine bq_ ?_; refine blk_put (cs := #[.int .i64 ((rd_T54 t759 x16_2).f0), .int .i64 ((rd_T54 t759 x16_2).f1), .int .i64 ((rd_T54 t759 x16_2).f2), .int .i64 0]) ?_ 3 _ rfl; refine bq_ ?_; refine blk_put (cs := #[.int .i64 ((rd_T54 t759 x16_2).f0), .int .i64 ((rd_T54 t759 x16_2).f1), .int .i64 0, .int .i64 0]) ?_ 2 _ rfl; refine bq_ ?_; refine blk_put (cs := #[.int .i64 ((rd_T54 t759 x16_2).f0), .int .i64 0, .int .i64 0, .int .i64 0]) ?_ 1 _ rfl; refine bq_ ?_; refine blk_put (cs := #[.int .i64 0, .int .i64 0, .int .i64 0, .int .i64 0]) ?_ 0 _ rfl; refine bq_ ?_; exact BK768.out⟩; have n9_ : Aside0 (Below w.heap.size w ((((w62.setCell ⟨gb768, 0, none⟩ (.int .i64 ((rd_T54 t759 x16_2).f0))).setCell ⟨gb768, 1, none⟩ (.int .i64 ((rd_T54 t759 x16_2).f1))).setCell ⟨gb768, 2, none⟩ (.int .i64 ((rd_T54 t759 x16_2).f2))).setCell ⟨gb768, 3, none⟩ (.int .i64 ((rd_T54 t759 x16_2).f3)))) := ⟨hb_⟩
               (try clear HO_8)
               (try clear HO_11)
               (try clear HO_15)
               (try clear HO_751002)
               (try clear HO_764002)
               (try clear BK737)
               (try clear BK750)
               (try clear BK763)
               (try clear BK768)
               (try clear HB)
               generalize ((((w62.setCell ⟨gb768, 0, none⟩ (.int .i64 ((rd_T54 t759 x16_2).f0))).setCell ⟨gb768, 1, none⟩ (.int .i64 ((rd_T54 t759 x16_2).f1))).setCell ⟨gb768, 2, none⟩ (.int .i64 ((rd_T54 t759 x16_2).f2))).setCell ⟨gb768, 3, none⟩ (.int .i64 ((rd_T54 t759 x16_2).f3))) = w67 at n0_ n1_ n2_ n3_ n4_ n5_ n6_ n7_ n8_ n9_ ⊢; have HO_8 := n0_; have HO_11 := n1_; have HO_15 := n2_; have HO_751002 := n3_; have HO_764002 := n4_; have BK737 := n5_; have BK750 := n6_; have BK763 := n7_; have BK768 := n8_; have HB := n9_; clear n0_ n1_ n2_ n3_ n4_ n5_ n6_ n7_ n8_ n9_; have p769 : 0 ≤ (x16_2 : Int) := of_decide_eq_true sm_; have q769 : x16_2 < (t753.length : Int) := of_decide_eq_true sm_; obtain ⟨ad769, e769, hx769_0⟩ := Kd.at_int (Kd.R_reads' HO_11.out).2.2 x16_2 p769 q769; cases e769; replace p769 := eq_true p769; replace q769 := eq_true q769; have p770 : 0 ≤ (x16_2 : Int) := of_decide_eq_true sm_; have q770 : x16_2 < (t753.length : Int) := of_decide_eq_true sm_; obtain ⟨ad770, e770, hx770_0⟩ := Kd.at_int (Kd.R_reads' HO_11.out).2.2 x16_2 p770 q770; obtain rfl : ad769 = ad770 := (by injection e770); replace p770 := eq_true p770; replace q770 := eq_true q770; obtain ⟨Ao69, co69, eo69⟩ := Kd.R_slice HO_15.out
               (first | subst eo69 | (injection eo69 with f1_ f2_ f3_; have f4_ := f1_.symm; have f5_ := f3_.symm; clear f1_ f2_ f3_; subst f4_; subst f5_))
               have hq0_ : w67.cell? ⟨gb768, 0, none⟩ = some (.int .i64 ((rd_T54 t759 x16_2).f0)) := (blk_cell BK768.out 0).trans rfl; have hq1_ : w67.cell? ⟨gb768, 1, none⟩ = some (.int .i64 ((rd_T54 t759 x16_2).f1)) := (blk_cell BK768.out 1).trans rfl; have hq2_ : w67.cell? ⟨gb768, 2, none⟩ = some (.int .i64 ((rd_T54 t759 x16_2).f2)) := (blk_cell BK768.out 2).trans rfl; have hq3_ : w67.cell? ⟨gb768, 3, none⟩ = some (.int .i64 ((rd_T54 t759 x16_2).f3)) := (blk_cell BK768.out 3).trans rfl; go_quiet (fail); replace HO_8 := am_ (Kd.R_drewN HO_8.out nq); replace HO_11 := am_ (Kd.R_drewN HO_11.out nq); replace HO_15 := am_ (Kd.R_drewN HO_15.out nq); replace HO_751002 := am_ (Kd.R_drewN HO_751002.out nq); replace HO_764002 := am_ (Kd.R_drewN HO_764002.out nq); replace BK737 := am_ (blk_drewN BK737.out nq); replace BK750 := am_ (blk_drewN BK750.out nq); replace BK763 := am_ (blk_drewN BK763.out nq); replace BK768 := am_ (blk_drewN BK768.out nq); replace HB := am_ (pw_below_drewN HB.out nq); generalize w67.drewN nq = w68 at HO_8 HO_11 HO_15 HO_751002 HO_764002 BK737 BK750 BK763 BK768 HB ⊢
               try go_wp2
               replace HO_8 := am_ (Kd.R_drew HO_8.out); replace HO_11 := am_ (Kd.R_drew HO_11.out); replace HO_15 := am_ (Kd.R_drew HO_15.out); replace HO_751002 := am_ (Kd.R_drew HO_751002.out); replace HO_764002 := am_ (Kd.R_drew HO_764002.out); replace BK737 := am_ (blk_drew BK737.out); replace BK750 := am_ (blk_drew BK750.out); replace BK763 := am_ (blk_drew BK763.out); replace BK768 := am_ (blk_drew BK768.out); replace HB := am_ (below_drew1 HB.out); have p771 : 0 ≤ (((rd_T54 t759 x16_2).f0) : Int) := of_decide_eq_true sm_; have q771 : ((rd_T54 t759 x16_2).f0) < (x15_2.length : Int) := of_decide_eq_true sm_; obtain ⟨ad771, e771, hx771_0⟩ := Kd.at_int (Kd.R_reads' HO_15.out).2.2 ((rd_T54 t759 x16_2).f0) p771 q771; cases e771; replace p771 := eq_true p771; replace q771 := eq_true q771; have p772 : 0 ≤ (x16_2 : Int) := of_decide_eq_true sm_; have q772 : x16_2 < (t753.length : Int) := of_decide_eq_true sm_; obtain ⟨ad772, e772, hx772_0⟩ := Kd.at_int (Kd.R_reads' HO_11.out).2.2 x16_2 p772 q772; obtain rfl : ad769 = ad772 := (by injection e772); replace p772 := eq_true p772; replace q772 := eq_true q772; have p54 : 0 ≤ (((rd_T54 t759 x16_2).f0) : Int) := of_decide_eq_true sm_; have q54 : (((rd_T54 t759 x16_2).f0) : Int) < ((x15_2.length : Int) : Int) := of_decide_eq_true sm_; obtain ⟨go54, co54, eo54, gb54, gl54, cl54, HG54⟩ := Kd.R_form HO_15.out (by omega)
               (first | cases eo54 | (injection eo54 with ea_ en_ ec_; (first | subst ea_ | (injection ea_ with ea_; subst ea_)); subst ec_; clear en_))
               have GB54 := am_ gb54; have GG54 := am_ HG54; clear gb54 gl54 HG54
               (first | simp only [add_plain] at hx771_0 | skip)
               obtain ⟨hx54_0, hf54_0⟩ := Kd.R_celln 0 HO_15.out (((rd_T54 t759 x16_2).f0) : Int) p54 q54; replace p54 := eq_true p54; replace q54 := eq_true q54; have HP71 := Kd.R_putn HO_15.out (((rd_T54 t759 x16_2).f0) : Int) (wrap64 ((rd x15_2 ((rd_T54 t759 x16_2).f0)) + (rd t753 x16_2))); rw [← Ny773.out] at HP71; have HQ71 := am_ HP71; clear HP71; refine start_ (n := 15) (S := fun w' => w'.cell? ⟨gb768, 0, none⟩ = some (.int .i64 ((rd_T54 t759 x16_2).f0)) ∧ w'.cell? ⟨gb768, 1, none⟩ = some (.int .i64 ((rd_T54 t759 x16_2).f1)) ∧ w'.cell? ⟨gb768, 2, none⟩ = some (.int .i64 ((rd_T54 t759 x16_2).f2)) ∧ w'.cell? ⟨gb768, 3, none⟩ = some (.int .i64 ((rd_T54 t759 x16_2).f3)) ∧ w'.cell? ⟨go54, (((rd_T54 t759 x16_2).f0)).toNat, none⟩ = some (.int .i64 (rd x15_2 ((rd_T54 t759 x16_2).f0))) ∧ w'.cell? (ad769.add (x16_2).toNat) = some (.int .i64 (rd t753 x16_2))) (ds := [14]) #[Ff,Ff,Ff,Ff,Ff,Ff,Ff,Ff,Ff,Ff,Ff,Ff,Ff,Ff,Ff] (by kernel_rfl) rfl rfl ⟨(blk_cell BK768.out 0).trans rfl, (blk_cell BK768.out 1).trans rfl, (blk_cell BK768.out 2).trans rfl, (blk_cell BK768.out 3).trans rfl, hx771_0, hx772_0⟩ (fun hHeld => ?_); refine with_tabW ebbtidelaw15_ExpandPlans.tab19 ebbtidelaw15_ExpandPlans.bits19 (fun HT_ HW_ => ?_); generalize w68.drew = w70 at HO_8 HO_11 HO_15 HO_751002 HO_764002 BK737 BK750 BK763 BK768 HB GG54 HQ71 hf54_0 hx54_0 hx771_0 hx772_0 hHeld ⊢; refine pw_ 0 139 ?_; refine pw_ 1 140 ?_; refine pw_ 3 142 ?_; refine pw_ 4 143 ?_; refine pw_ 8 147 ?_; refine pw_ 9 148 ?_; refine pw_ 10 149 ?_; refine tk_ 2 141 ?_; refine tk_ 5 144 ?_; refine pw_ 6 145 ?_; refine tk_ 7 146 ?_; refine tk_ 11 150 ?_; refine pw_ 12 151 ?_; refine pw_ 13 152 ?_; refine last_ (i := 14) (N := none) #[Tt,Tt,Tt,Tt,Tt,Tt,Tt,Tt,Tt,Tt,Tt,Tt,Tt,Tt,Tt] rfl rfl (one_of HT_.out (by kernel_rfl)) (by decide) (fun K hK => ?_); refine skip_ (w1 := ?_) (by rfl) rfl ?_ ?_; rotate_left; (· go_simp; rfl); refine hK.out _ _ ?_; clear hK K; refine done_ (done_of HT_.out (by kernel_rfl)) ?_
               try go_wp2
               have n0_ : Aside0 (Kd.R k85 85 (w70.setCell ⟨go54, (((rd_T54 t759 x16_2).f0) : Int).toNat, none⟩ (.int .i64 (wrap64 ((rd x15_2 ((rd_T54 t759 x16_2).f0)) + (rd t753 x16_2))))) w.heap.size (fun _ => True) (.slice Ao18 t747.length co18) t747) := ⟨by refine rq_ ?_; exact Kd.R_mono (Kd.R_far (p := ⟨go54, (((rd_T54 t759 x16_2).f0) : Int).toNat, none⟩) (Kd.R_types HO_8.out GG54.out (by decide)) (fun _ hk => hk.2) (.int .i64 (wrap64 ((rd x15_2 ((rd_T54 t759 x16_2).f0)) + (rd t753 x16_2))))) (fun _ hk => trivial)⟩; have n1_ : Aside0 (Kd.R (Kd.int .i64) 3 (w70.setCell ⟨go54, (((rd_T54 t759 x16_2).f0) : Int).toNat, none⟩ (.int .i64 (wrap64 ((rd x15_2 ((rd_T54 t759 x16_2).f0)) + (rd t753 x16_2))))) w.heap.size (fun k_ => some k_ ≠ (.slice (some ⟨go54, 0, none⟩) x15_2.length co69 : Value).ownBlock) (.slice (some ad769) t753.length co58) t753) := ⟨by refine rq_ ?_; exact Kd.R_mono (Kd.R_far (p := ⟨go54, (((rd_T54 t759 x16_2).f0) : Int).toNat, none⟩) (Kd.R_mono HO_11.out (fun k_ hk => (⟨hk, fun e_ => hk (by rw [e_]; rfl)⟩ : _ ∧ k_ ≠ go54))) (fun _ hk => hk.2) (.int .i64 (wrap64 ((rd x15_2 ((rd_T54 t759 x16_2).f0)) + (rd t753 x16_2))))) (fun _ hk => hk.1)⟩; have n2_ : Aside0 (Kd.R (Kd.int .i64) 3 (w70.setCell ⟨go54, (((rd_T54 t759 x16_2).f0) : Int).toNat, none⟩ (.int .i64 (wrap64 ((rd x15_2 ((rd_T54 t759 x16_2).f0)) + (rd t753 x16_2))))) w.heap.size (fun k_ => some k_ ≠ (.slice (some ad769) t753.length co58 : Value).ownBlock) (.slice (some ⟨go54, 0, none⟩) x15_2.length co69) y773) := ⟨rq_ HQ71.out⟩; have n3_ : Aside0 (Kd.R k54 54 (w70.setCell ⟨go54, (((rd_T54 t759 x16_2).f0) : Int).toNat, none⟩ (.int .i64 (wrap64 ((rd x15_2 ((rd_T54 t759 x16_2).f0)) + (rd t753 x16_2))))) w.heap.size (fun k_ => some k_ ≠ (.slice (some ad767) t759.length co28 : Value).ownBlock ∧ k_ ≠ gb768) (.slice Ao17 t741.length co17) t741) := ⟨by refine rq_ ?_; exact Kd.R_mono (Kd.R_far (p := ⟨go54, (((rd_T54 t759 x16_2).f0) : Int).toNat, none⟩) (Kd.R_types HO_751002.out GG54.out (by decide)) (fun _ hk => hk.2) (.int .i64 (wrap64 ((rd x15_2 ((rd_T54 t759 x16_2).f0)) + (rd t753 x16_2))))) (fun _ hk => ⟨hk.1.1, hk.1.2⟩)⟩; have n4_ : Aside0 (Kd.R k54 54 (w70.setCell ⟨go54, (((rd_T54 t759 x16_2).f0) : Int).toNat, none⟩ (.int .i64 (wrap64 ((rd x15_2 ((rd_T54 t759 x16_2).f0)) + (rd t753 x16_2))))) w.heap.size (fun k_ => some k_ ≠ (.slice Ao17 t741.length co17 : Value).ownBlock ∧ k_ ≠ gb768) (.slice (some ad767) t759.length co28) t759) := ⟨by refine rq_ ?_; exact Kd.R_mono (Kd.R_far (p := ⟨go54, (((rd_T54 t759 x16_2).f0) : Int).toNat, none⟩) (Kd.R_types HO_764002.out GG54.out (by decide)) (fun _ hk => hk.2) (.int .i64 (wrap64 ((rd x15_2 ((rd_T54 t759 x16_2).f0)) + (rd t753 x16_2))))) (fun _ hk => ⟨hk.1.1, hk.1.2⟩)⟩; have n5_ : Aside0 ((w70.setCell ⟨go54, (((rd_T54 t759 x16_2).f0) : Int).toNat, none⟩ (.int .i64 (wrap64 ((rd x15_2 ((rd_T54 t759 x16_2).f0)) + (rd t753 x16_2))))).heap[gb737]? = some (.cells #[.int .u8 a0_0, .bool a0_1, .slice A0_2 l0_2.length c0_2, .int .u8 a0_3, .int .u8 a0_4, .int .u8 a0_5, .slice A0_6 l0_6.length c0_6] 60 (0, 0))) := ⟨by refine bq_ ?_; refine blk_far ?_ (by have h_ := Kd.R_ne HO_15.out BK737.out (by decide); intro e_; exact h_ (by rw [e_]; rfl)) _; refine bq_ ?_; exact BK737.out⟩; have n6_ : Aside0 ((w70.setCell ⟨go54, (((rd_T54 t759 x16_2).f0) : Int).toNat, none⟩ (.int .i64 (wrap64 ((rd x15_2 ((rd_T54 t759 x16_2).f0)) + (rd t753 x16_2))))).heap[gb750]? = some (.cells #[.int .i64 t739, .bool t740, .slice Ao17 t741.length co17] 24 (0, 0))) := ⟨by refine bq_ ?_; refine blk_far ?_ (by have h_ := Kd.R_ne HO_15.out BK750.out (by decide); intro e_; exact h_ (by rw [e_]; rfl)) _; refine bq_ ?_; exact BK750.out⟩; have n7_ : Aside0 ((w70.setCell ⟨go54, (((rd_T54 t759 x16_2).f0) : Int).toNat, none⟩ (.int .i64 (wrap64 ((rd x15_2 ((rd_T54 t759 x16_2).f0)) + (rd t753 x16_2))))).heap[gb763]? = some (.cells #[.int .i64 t757, .bool t758, .slice (some ad767) t759.length co28] 24 (0, 0))) := ⟨by refine bq_ ?_; refine blk_far ?_ (by have h_ := Kd.R_ne HO_15.out BK763.out (by decide); intro e_; exact h_ (by rw [e_]; rfl)) _; refine bq_ ?_; exact BK763.out⟩; have n8_ : Aside0 ((w70.setCell ⟨go54, (((rd_T54 t759 x16_2).f0) : Int).toNat, none⟩ (.int .i64 (wrap64 ((rd x15_2 ((rd_T54 t759 x16_2).f0)) + (rd t753 x16_2))))).heap[gb768]? = some (.cells #[.int .i64 ((rd_T54 t759 x16_2).f0), .int .i64 ((rd_T54 t759 x16_2).f1), .int .i64 ((rd_T54 t759 x16_2).f2), .int .i64 ((rd_T54 t759 x16_2).f3)] 54 (0, 0))) := ⟨by refine bq_ ?_; refine blk_far ?_ (by have h_ := Kd.R_ne HO_15.out BK768.out (by decide); intro e_; exact h_ (by rw [e_]; rfl)) _; refine bq_ ?_; exact BK768.out⟩; have n9_ : Aside0 (Below w.heap.size w (w70.setCell ⟨go54, (((rd_T54 t759 x16_2).f0) : Int).toNat, none⟩ (.int .i64 (wrap64 ((rd x15_2 ((rd_T54 t759 x16_2).f0)) + (rd t753 x16_2)))))) := ⟨hb_⟩
               (try clear HO_8)
               (try clear HO_11)
               (try clear HO_15)
               (try clear HO_751002)
               (try clear HO_764002)
               (try clear BK737)
               (try clear BK750)
               (try clear BK763)
               (try clear BK768)
               (try clear HB)
               generalize (w70.setCell ⟨go54, (((rd_T54 t759 x16_2).f0) : Int).toNat, none⟩ (.int .i64 (wrap64 ((rd x15_2 ((rd_T54 t759 x16_2).f0)) + (rd t753 x16_2))))) = w72 at n0_ n1_ n2_ n3_ n4_ n5_ n6_ n7_ n8_ n9_ ⊢; have HO_8 := n0_; have HO_11 := n1_; have HO_15 := n2_; have HO_751002 := n3_; have HO_764002 := n4_; have BK737 := n5_; have BK750 := n6_; have BK763 := n7_; have BK768 := n8_; have HB := n9_; clear n0_ n1_ n2_ n3_ n4_ n5_ n6_ n7_ n8_ n9_; replace HO_8 := am_ (Kd.R_drew HO_8.out); replace HO_11 := am_ (Kd.R_drew HO_11.out); replace HO_15 := am_ (Kd.R_drew HO_15.out); replace HO_751002 := am_ (Kd.R_drew HO_751002.out); replace HO_764002 := am_ (Kd.R_drew HO_764002.out); replace BK737 := am_ (blk_drew BK737.out); replace BK750 := am_ (blk_drew BK750.out); replace BK763 := am_ (blk_drew BK763.out); replace BK768 := am_ (blk_drew BK768.out); replace HB := am_ (below_drew1 HB.out); have p774 : 0 ≤ (((rd_T54 t759 x16_2).f1) : Int) := of_decide_eq_true sm_; have q774 : ((rd_T54 t759 x16_2).f1) < (y773.length : Int) := (by have h_ : (((rd_T54 t759 x16_2).f1) : Int) < ((x15_2.length : Int) : Int) := of_decide_eq_true sm_; first | (have e_ := (Kd.R_reads' HO_15.out).1; omega) | simpa only [Ny773.out, List.length_set] using h_); have ql774 : ((((rd_T54 t759 x16_2).f1) : Int) < ((x15_2.length : Int) : Int)) = True := eq_true (of_decide_eq_true sm_); obtain ⟨ad774, e774, hx774_0⟩ := Kd.at_int (Kd.R_reads' HO_15.out).2.2 ((rd_T54 t759 x16_2).f1) p774 q774; obtain rfl : (⟨go54, 0, none⟩ : Addr) = ad774 := (by injection e774)
               (first | simp only [add_plain] at hx774_0 | simp only [add_at] at hx774_0 | simp only [Addr.add, Nat.zero_add] at hx774_0 | skip)
               replace p774 := eq_true p774; replace q774 := eq_true q774; have p775 : 0 ≤ (x16_2 : Int) := of_decide_eq_true sm_; have q775 : x16_2 < (t753.length : Int) := of_decide_eq_true sm_; obtain ⟨ad775, e775, hx775_0⟩ := Kd.at_int (Kd.R_reads' HO_11.out).2.2 x16_2 p775 q775; obtain rfl : ad769 = ad775 := (by injection e775); replace p775 := eq_true p775; replace q775 := eq_true q775; have p57 : 0 ≤ (((rd_T54 t759 x16_2).f1) : Int) := of_decide_eq_true sm_; have q57 : (((rd_T54 t759 x16_2).f1) : Int) < ((x15_2.length : Int) : Int) := of_decide_eq_true sm_; obtain ⟨hx57_0, hf57_0⟩ := Kd.R_celln 0 HO_15.out (((rd_T54 t759 x16_2).f1) : Int) p57 q57; replace p57 := eq_true p57; replace q57 := eq_true q57; have HP74 := Kd.R_putn HO_15.out (((rd_T54 t759 x16_2).f1) : Int) (wrap64 ((rd y773 ((rd_T54 t759 x16_2).f1)) - (rd t753 x16_2))); rw [← Ny776.out] at HP74; have HQ74 := am_ HP74; clear HP74; refine start_ (n := 15) (S := fun w' => w'.cell? ⟨gb768, 0, none⟩ = some (.int .i64 ((rd_T54 t759 x16_2).f0)) ∧ w'.cell? ⟨gb768, 1, none⟩ = some (.int .i64 ((rd_T54 t759 x16_2).f1)) ∧ w'.cell? ⟨gb768, 2, none⟩ = some (.int .i64 ((rd_T54 t759 x16_2).f2)) ∧ w'.cell? ⟨gb768, 3, none⟩ = some (.int .i64 ((rd_T54 t759 x16_2).f3)) ∧ w'.cell? ⟨go54, (((rd_T54 t759 x16_2).f1)).toNat, none⟩ = some (.int .i64 (rd y773 ((rd_T54 t759 x16_2).f1))) ∧ w'.cell? (ad769.add (x16_2).toNat) = some (.int .i64 (rd t753 x16_2))) (ds := [14]) #[Ff,Ff,Ff,Ff,Ff,Ff,Ff,Ff,Ff,Ff,Ff,Ff,Ff,Ff,Ff] (by kernel_rfl) rfl rfl ⟨(blk_cell BK768.out 0).trans rfl, (blk_cell BK768.out 1).trans rfl, (blk_cell BK768.out 2).trans rfl, (blk_cell BK768.out 3).trans rfl, hx774_0, hx775_0⟩ (fun hHeld => ?_); refine with_tabW ebbtidelaw15_ExpandPlans.tab20 ebbtidelaw15_ExpandPlans.bits20 (fun HT_ HW_ => ?_); generalize w72.drew = w73 at HO_8 HO_11 HO_15 HO_751002 HO_764002 BK737 BK750 BK763 BK768 HB HQ71 HQ74 hf57_0 hx57_0 hx774_0 hx775_0 hHeld ⊢; refine pw_ 0 153 ?_; refine pw_ 1 154 ?_; refine pw_ 3 156 ?_; refine pw_ 4 157 ?_; refine pw_ 8 161 ?_; refine pw_ 9 162 ?_; refine pw_ 10 163 ?_; refine tk_ 2 155 ?_; refine tk_ 5 158 ?_; refine pw_ 6 159 ?_; refine tk_ 7 160 ?_; refine tk_ 11 164 ?_; refine pw_ 12 165 ?_; refine pw_ 13 166 ?_; refine last_ (i := 14) (N := none) #[Tt,Tt,Tt,Tt,Tt,Tt,Tt,Tt,Tt,Tt,Tt,Tt,Tt,Tt,Tt] rfl rfl (one_of HT_.out (by kernel_rfl)) (by decide) (fun K hK => ?_); refine skip_ (w1 := ?_) (by rfl) rfl ?_ ?_; rotate_left; (· go_simp; rfl); refine hK.out _ _ ?_; clear hK K; refine done_ (done_of HT_.out (by kernel_rfl)) ?_; obtain ⟨gq_, cq_, eq_, bq_1, lq_1, cs_1, HGq_⟩ := Kd.R_form HO_15.out (by have h_ : 0 ≤ (((rd_T54 t759 x16_2).f1) : Int) := of_decide_eq_true sm_; have h2_ : (((rd_T54 t759 x16_2).f1) : Int) < ((x15_2.length : Int) : Int) := of_decide_eq_true sm_; first | omega | (rw [Ny773.out, List.length_set]; omega)); have hq_ : gq_ = go54 := (by injection eq_ with ea_ en_ ec_; injection ea_ with ea_; injection ea_ with eb_; exact eb_.symm); rw [hq_] at HGq_; have GG54 := am_ HGq_; clear hq_ HGq_ eq_ bq_1 lq_1
               try go_wp2
               go_roundg k2
               case measure => have := HJ8.out; have := HK2.out; omega
               case rel => exact ⟨(y776), (wrap64 (x16_2 + 1)), rs_, H', ⟨by have := HJ8.out; have := HK2.out; omega⟩, ⟨by refine rq_ ?_; exact Kd.R_mono (Kd.R_far (p := ⟨go54, (((rd_T54 t759 x16_2).f1) : Int).toNat, none⟩) (Kd.R_types HO_8.out GG54.out (by decide)) (fun _ hk => hk.2) (.int .i64 (wrap64 ((rd y773 ((rd_T54 t759 x16_2).f1)) - (rd t753 x16_2))))) (fun _ hk => trivial)⟩, ⟨by refine rq_ ?_; exact Kd.R_mono (Kd.R_far (p := ⟨go54, (((rd_T54 t759 x16_2).f1) : Int).toNat, none⟩) (Kd.R_mono HO_11.out (fun k_ hk => (⟨hk, fun e_ => hk (by rw [e_]; rfl)⟩ : _ ∧ k_ ≠ go54))) (fun _ hk => hk.2) (.int .i64 (wrap64 ((rd y773 ((rd_T54 t759 x16_2).f1)) - (rd t753 x16_2))))) (fun _ hk => hk.1)⟩, ⟨rq_ HQ74.out⟩, ⟨by refine rq_ ?_; exact Kd.R_mono (Kd.R_far (p := ⟨go54, (((rd_T54 t759 x16_2).f1) : Int).toNat, none⟩) (Kd.R_types HO_751002.out GG54.out (by decide)) (fun _ hk => hk.2) (.int .i64 (wrap64 ((rd y773 ((rd_T54 t759 x16_2).f1)) - (rd t753 x16_2))))) (fun _ hk => hk.1.1)⟩, ⟨by refine rq_ ?_; exact Kd.R_mono (Kd.R_far (p := ⟨go54, (((rd_T54 t759 x16_2).f1) : Int).toNat, none⟩) (Kd.R_types HO_764002.out GG54.out (by decide)) (fun _ hk => hk.2) (.int .i64 (wrap64 ((rd y773 ((rd_T54 t759 x16_2).f1)) - (rd t753 x16_2))))) (fun _ hk => hk.1.1)⟩, ⟨by refine bq_ ?_; refine blk_far ?_ (by have h_ := Kd.R_ne HO_15.out BK737.out (by decide); intro e_; exact h_ (by rw [e_]; rfl)) _; refine bq_ ?_; exact BK737.out⟩, ⟨by refine bq_ ?_; refine blk_far ?_ (by have h_ := Kd.R_ne HO_15.out BK750.out (by decide); intro e_; exact h_ (by rw [e_]; rfl)) _; refine bq_ ?_; exact BK750.out⟩, ⟨by refine bq_ ?_; refine blk_far ?_ (by have h_ := Kd.R_ne HO_15.out BK763.out (by decide); intro e_; exact h_ (by rw [e_]; rfl)) _; refine bq_ ?_; exact BK763.out⟩, ⟨hb_⟩⟩
        ·rw [if_neg c43] at H
         have c43b0 := decide_eq_false c43; clear c43; have H' := am_ H; clear H; obtain ⟨Ao75, co75, eo75⟩ := Kd.R_slice HO_11.out; subst eo75
         go_wp2
         go_loopg [18] k2 (fun kq v18 w' => ∃ (x18_3 : Int), v18 = .int .i64 x18_3 ∧ Aside0 (ebbtidelaw15_ExpandPlans.l1 kq true t744 t745 t746 t747 t751 t753 x15_2 x18_3 t739 t740 t741 = some r) ∧ Aside0 (kq ≤ k2) ∧ Aside0 (Kd.R k85 85 w' w.heap.size (fun _ => True) (.slice Ao18 t747.length co18) t747) ∧ Aside0 (Kd.R (Kd.int .i64) 3 w' w.heap.size (fun k_ => some k_ ≠ (v765 : Value).ownBlock) (.slice Ao75 t753.length co75) t753) ∧ Aside0 (Kd.R (Kd.int .i64) 3 w' w.heap.size (fun k_ => some k_ ≠ ((.slice Ao75 t753.length co75) : Value).ownBlock) v765 x15_2) ∧ Aside0 (Kd.R k54 54 w' w.heap.size (fun k_ => some k_ ≠ ((.slice Ao28 t759.length co28) : Value).ownBlock) (.slice Ao17 t741.length co17) t741) ∧ Aside0 (Kd.R k54 54 w' w.heap.size (fun k_ => some k_ ≠ ((.slice Ao17 t741.length co17) : Value).ownBlock) (.slice Ao28 t759.length co28) t759) ∧ Aside0 (w'.heap[gb737]? = some (.cells #[.int .u8 a0_0, .bool a0_1, (.slice A0_2 l0_2.length c0_2), .int .u8 a0_3, .int .u8 a0_4, .int .u8 a0_5, (.slice A0_6 l0_6.length c0_6)] 60 (0, 0))) ∧ Aside0 (w'.heap[gb750]? = some (.cells #[.int .i64 t739, .bool t740, (.slice Ao17 t741.length co17)] 24 (0, 0))) ∧ Aside0 (w'.heap[gb763]? = some (.cells #[.int .i64 t757, .bool t758, (.slice Ao28 t759.length co28)] 24 (0, 0))) ∧ Aside0 (Below w.heap.size w w'))
         case atStart => exact ⟨(0), rs_, H', ⟨Nat.le_refl _⟩, ⟨rq_ HO_8.out⟩, ⟨rq_ HO_11.out⟩, ⟨rq_ HO_15.out⟩, ⟨rq_ HO_751002.out⟩, ⟨rq_ HO_764002.out⟩, ⟨bq_ BK737.out⟩, ⟨bq_ BK750.out⟩, ⟨bq_ BK763.out⟩, ⟨hb_⟩⟩
         case round =>
          clear H'
          try clear p2
          try clear c4
          try clear c5
          try clear p5
          try clear q5
          try clear hx5
          try clear hf5
          try clear p6
          try clear p7
          try clear q7
          try clear hx7
          try clear c43
          try clear c43b0
          try clear c44
          try clear c45
          try clear c52
          try clear c53
          try clear p54
          try clear q54
          try clear hx54
          try clear hf54
          try clear c55
          try clear c56
          try clear p57
          try clear q57
          try clear hx57
          try clear hf57
          try clear p64
          try clear hx54_0
          try clear hx57_0
          try clear hx771_0
          try clear hx772_0
          try clear hx774_0
          try clear hx775_0
          try clear p54
          try clear p57
          try clear p771
          try clear p772
          try clear p774
          try clear p775
          try clear q54
          try clear q57
          try clear q771
          try clear q772
          try clear q774
          try clear q775
          obtain ⟨x18_3, rfl, HA, HK3, HO_8, HO_11, HO_15, HO_751002, HO_764002, BK737, BK750, BK763, HB⟩ := hrel
          cases gk with
          | zero => exact absurd HA.out (by simp [ebbtidelaw15_ExpandPlans.l1])
          | succ k3 =>
           have H := HA.out; clear HA; simp only [ebbtidelaw15_ExpandPlans.l1] at H
           by_cases c76 : (wrap64 (x18_3 + 2)) < (x15_2.length : Int)
           ·rw [if_pos c76] at H
            have c76b0 := decide_eq_true c76; clear c76
            replace H := ifn_ H; obtain ⟨c77, H⟩ := H
            have c77b0 := decide_eq_true c77; clear c77
            replace H := ifn_ H; obtain ⟨c78, H⟩ := H
            have c78b0 := decide_eq_true c78; clear c78
            by_cases c79 : (rd x15_2 x18_3) = 0
            ·rw [if_pos c79] at H
             obtain ⟨c79b0, c79b1⟩ := eqb_ c79; clear c79; have H' := am_ H; clear H; obtain ⟨Ao80, co80, eo80⟩ := Kd.R_slice HO_15.out; subst eo80; have p777 : 0 ≤ (x18_3 : Int) := of_decide_eq_true sm_; have q777 : x18_3 < (x15_2.length : Int) := of_decide_eq_true sm_; obtain ⟨ad777, e777, hx777_0⟩ := Kd.at_int (Kd.R_reads' HO_15.out).2.2 x18_3 p777 q777; cases e777; replace p777 := eq_true p777; replace q777 := eq_true q777
             go_wp2
             go_roundg k3
             case measure => have := HJ8.out; have := HK2.out; have := HK3.out; omega
             case rel => exact ⟨(wrap64 (x18_3 + 1)), rs_, H', ⟨by have := HJ8.out; have := HK2.out; have := HK3.out; omega⟩, ⟨rq_ HO_8.out⟩, ⟨rq_ HO_11.out⟩, ⟨rq_ HO_15.out⟩, ⟨rq_ HO_751002.out⟩, ⟨rq_ HO_764002.out⟩, ⟨bq_ BK737.out⟩, ⟨bq_ BK750.out⟩, ⟨bq_ BK763.out⟩, ⟨hb_⟩⟩
            ·rw [if_neg c79] at H
             obtain ⟨c79b0, c79b1⟩ := neb_ c79; exact absurd ((Option.some.inj H).trans HRT.out) (by decide)
           ·rw [if_neg c76] at H
            have c76b0 := decide_eq_false c76; clear c76; replace H := Option.bind_eq_some_iff.mp H; obtain ⟨⟨t778, t779⟩, A810, H⟩ := H; replace H : ((expand_Moves.f k3 t739 t740 t741 t744 t745 t746 t753).bind fun bt782 => (if true = true then (if 0 ≤ (wrap64 ((x15_2.length : Int) - 2)) then (if (wrap64 ((x15_2.length : Int) - 2)) < (x15_2.length : Int) then (if (rd x15_2 (wrap64 ((x15_2.length : Int) - 2))) = t751 then (if 0 ≤ (wrap64 ((x15_2.length : Int) - 1)) then (if (wrap64 ((x15_2.length : Int) - 1)) < (x15_2.length : Int) then (if (rd x15_2 (wrap64 ((x15_2.length : Int) - 1))) = (wrap64 (-t751)) then (if bt782.2 = 0 then ((ebbtideref03_SameMoves.f k3 bt782.1 t778).bind fun t788 => (some t788)) else (some false)) else (some false)) else (none)) else (none)) else (some false)) else (none)) else (none)) else (some false))) = some r := H; have A81 := am_ A810; clear A810; replace H := Option.bind_eq_some_iff.mp H; obtain ⟨⟨t782, t785⟩, A820, H⟩ := H; replace H : (if true = true then (if 0 ≤ (wrap64 ((x15_2.length : Int) - 2)) then (if (wrap64 ((x15_2.length : Int) - 2)) < (x15_2.length : Int) then (if (rd x15_2 (wrap64 ((x15_2.length : Int) - 2))) = t751 then (if 0 ≤ (wrap64 ((x15_2.length : Int) - 1)) then (if (wrap64 ((x15_2.length : Int) - 1)) < (x15_2.length : Int) then (if (rd x15_2 (wrap64 ((x15_2.length : Int) - 1))) = (wrap64 (-t751)) then (if t785 = 0 then ((ebbtideref03_SameMoves.f k3 t782 t778).bind fun t788 => (some t788)) else (some false)) else (some false)) else (none)) else (none)) else (some false)) else (none)) else (none)) else (some false)) = some r := H; have A82 := am_ A820; clear A820; rw [if_pos rfl] at H; obtain ⟨ji83, hji83⟩ : ∃ j_ : Int, (wrap64 ((x15_2.length : Int) - 2)) = j_ := ⟨_, rfl⟩
            replace H : (if 0 ≤ (ji83) then (if (ji83) < (x15_2.length : Int) then (if (rd x15_2 (ji83)) = t751 then (if 0 ≤ (wrap64 ((x15_2.length : Int) - 1)) then (if (wrap64 ((x15_2.length : Int) - 1)) < (x15_2.length : Int) then (if (rd x15_2 (wrap64 ((x15_2.length : Int) - 1))) = (wrap64 (-t751)) then (if t785 = 0 then ((ebbtideref03_SameMoves.f k3 t782 t778).bind fun t788 => (some t788)) else (some false)) else (some false)) else (none)) else (none)) else (some false)) else (none)) else (none)) = some r := by first | (rw [hji83] at H; exact H) | (simp only [hji83] at H ⊢; exact H)
            (try rw [hji83] at A81)
            (try rw [hji83] at A82)
            have hji83w : (IntKind.i64.wrap ((x15_2.length : Int) - 2)) = ji83 := (i64_w _).trans hji83
            replace H := ifn_ H; obtain ⟨c84, H⟩ := H
            have c84b0 := decide_eq_true c84; clear c84
            replace H := ifn_ H; obtain ⟨c85, H⟩ := H
            have c85b0 := decide_eq_true c85; clear c85
            by_cases c86 : (rd x15_2 (ji83)) = t751
            ·rw [if_pos c86] at H
             obtain ⟨c86b0, c86b1⟩ := eqb_ c86; clear c86; obtain ⟨ji87, hji87⟩ : ∃ j_ : Int, (wrap64 ((x15_2.length : Int) - 1)) = j_ := ⟨_, rfl⟩
             replace H : (if 0 ≤ (ji87) then (if (ji87) < (x15_2.length : Int) then (if (rd x15_2 (ji87)) = (wrap64 (-t751)) then (if t785 = 0 then ((ebbtideref03_SameMoves.f k3 t782 t778).bind fun t788 => (some t788)) else (some false)) else (some false)) else (none)) else (none)) = some r := by first | (rw [hji87] at H; exact H) | (simp only [hji87] at H ⊢; exact H)
             (try rw [hji87] at A81)
             (try rw [hji87] at A82)
             have hji87w : (IntKind.i64.wrap ((x15_2.length : Int) - 1)) = ji87 := (i64_w _).trans hji87
             replace H := ifn_ H; obtain ⟨c88, H⟩ := H
             have c88b0 := decide_eq_true c88; clear c88
             replace H := ifn_ H; obtain ⟨c89, H⟩ := H
             have c89b0 := decide_eq_true c89; clear c89
             by_cases c90 : (rd x15_2 (ji87)) = (wrap64 (-t751))
             ·rw [if_pos c90] at H
              obtain ⟨c90b0, c90b1⟩ := eqb_ c90; clear c90
              by_cases c91 : t785 = 0
              ·rw [if_pos c91] at H
               obtain ⟨c91b0, c91b1⟩ := eqb_ c91; clear c91; replace H := Option.bind_eq_some_iff.mp H; obtain ⟨t788, A920, H⟩ := H; replace H : (some t788) = some r := H; have A92 := am_ A920; clear A920; obtain rfl := Option.some.inj H; obtain ⟨Ao93, co93, eo93⟩ := Kd.R_slice HO_15.out; subst eo93
               go_wp2_with (first | ((with_reducible refine gate_callee (f := 31) rfl ?_); refine goesL_ (some 181) rfl rfl Try.func31 (by kernel_rfl) rfl #[.slice Ao18 t747.length co18] rfl mt_ ?_; (with_reducible refine (ebbtideref03_Moves.calls k3 _ _ t747 t778 t779 _ ?side1 ?side2 A81.out).mono ?_); (case side1 => repeat (first | exact (Kd.R_reads' HO_8.out).2.2 | (with_reducible refine Kd.C_alloc ?_ _) | (with_reducible refine Kd.C_drewN ?_ _) | (with_reducible refine Kd.C_drew ?_))); (case side2 => exact (Kd.R_reads' HO_8.out).2.1); rintro e w94 ⟨v780, rfl, ho0, hb⟩; refine ⟨_, rfl, ?_⟩; replace HO_11 := am_ (Kd.R_below (rq_ HO_11.out) hb); replace HO_15 := am_ (Kd.R_below (rq_ HO_15.out) hb); replace HO_751002 := am_ (Kd.R_below (rq_ HO_751002.out) hb); replace HO_764002 := am_ (Kd.R_below (rq_ HO_764002.out) hb); have HO781 := am_ (Kd.R_lower (Kd.R_new' ho0 (Kd.R_lt (rq_ HO_8.out))) (below_size hb_)); replace HO_8 := am_ (Kd.R_elder' (rq_ HO_8.out) (Kd.R_base ho0) hb); replace BK737 := am_ (bb_ BK737.out hb); replace BK750 := am_ (bb_ BK750.out hb); replace BK763 := am_ (bb_ BK763.out hb); replace HB := hst_ hb; (try clear hb); (try clear hb2); (try clear hk); (try clear hi); (try clear ho0); have hnb95 := NB750_737.out; have hnc95 := NB737_750.out; have hnb96 := NB750_763.out; have hnc96 := NB763_750.out; obtain ⟨hcz97_0, hcz97_1, hcz97_2, hfz97_0, hfz97_1, hfz97_2⟩ := cf3_ BK750.out) | ((with_reducible refine gate_callee (f := 21) rfl ?_); refine goesL_ (some 190) rfl rfl Try.func21 (by kernel_rfl) rfl #[.agg #[.int .i64 t739, .bool t740, .slice Ao17 t741.length co17], .int .i64 t744, .int .i64 t745, .int .i64 t746, .slice Ao75 t753.length co75] rfl mt_ ?_; (with_reducible refine (expand_Moves.calls k3 t739 t740 _ _ t741 t744 t745 t746 _ _ t753 t782 t785 _ ?side1 ?side2 ?side3 ?side4 A82.out).mono ?_); (case side1 => repeat (first | exact (Kd.R_reads' HO_751002.out).2.2 | (with_reducible refine Kd.C_alloc ?_ _) | (with_reducible refine Kd.C_drewN ?_ _) | (with_reducible refine Kd.C_drew ?_))); (case side2 => exact (Kd.R_reads' HO_751002.out).2.1); (case side3 => repeat (first | exact (Kd.R_reads' HO_11.out).2.2 | (with_reducible refine Kd.C_alloc ?_ _) | (with_reducible refine Kd.C_drewN ?_ _) | (with_reducible refine Kd.C_drew ?_))); (case side4 => exact (Kd.R_reads' HO_11.out).2.1); rintro e w98 ⟨v783, rfl, ho0, hb⟩; refine ⟨_, rfl, ?_⟩; replace HO_11 := am_ (Kd.R_below (rq_ HO_11.out) hb); replace HO_15 := am_ (Kd.R_below (rq_ HO_15.out) hb); replace HO_751002 := am_ (Kd.R_below (rq_ HO_751002.out) hb); replace HO_764002 := am_ (Kd.R_below (rq_ HO_764002.out) hb); have HO784 := am_ (Kd.R_lower (Kd.R_new' (Kd.R_new' ho0 (Kd.R_lt (rq_ HO_8.out))) (Kd.R_lt (rq_ HO781.out))) (below_size hb_)); replace HO_8 := am_ (Kd.R_elder' (rq_ HO_8.out) (Kd.R_base ho0) hb); replace HO781 := am_ (Kd.R_elder' (rq_ HO781.out) (Kd.R_base ho0) hb); replace BK737 := am_ (bb_ BK737.out hb); replace BK750 := am_ (bb_ BK750.out hb); replace BK763 := am_ (bb_ BK763.out hb); replace HB := hst_ hb; (try clear hb); (try clear hb2); (try clear hk); (try clear hi); (try clear ho0); have p786 : 0 ≤ ((ji83) : Int) := of_decide_eq_true sm_; have q786 : (ji83) < (x15_2.length : Int) := of_decide_eq_true sm_; obtain ⟨ad786, e786, hx786_0⟩ := Kd.at_int (Kd.R_reads' HO_15.out).2.2 (ji83) p786 q786; cases e786; replace p786 := eq_true p786; replace q786 := eq_true q786; have p787 : 0 ≤ ((ji87) : Int) := of_decide_eq_true sm_; have q787 : (ji87) < (x15_2.length : Int) := of_decide_eq_true sm_; obtain ⟨ad787, e787, hx787_0⟩ := Kd.at_int (Kd.R_reads' HO_15.out).2.2 (ji87) p787 q787; obtain rfl : ad786 = ad787 := (by injection e787); replace p787 := eq_true p787; replace q787 := eq_true q787; obtain ⟨Ao99, co99, eo99⟩ := Kd.R_slice HO784.out; subst eo99; obtain ⟨Ao100, co100, eo100⟩ := Kd.R_slice HO781.out; subst eo100) | (go_at_call 23; (with_reducible refine (ebbtideref03_SameMoves.calls k3 _ _ t782 _ _ t778 t788 _ ?side1 ?side2 ?side3 ?side4 A92.out).mono ?_); (case side1 => repeat (first | exact (Kd.R_reads' HO784.out).2.2 | (with_reducible refine Kd.C_alloc ?_ _) | (with_reducible refine Kd.C_drewN ?_ _) | (with_reducible refine Kd.C_drew ?_))); (case side2 => exact (Kd.R_reads' HO784.out).2.1); (case side3 => repeat (first | exact (Kd.R_reads' HO781.out).2.2 | (with_reducible refine Kd.C_alloc ?_ _) | (with_reducible refine Kd.C_drewN ?_ _) | (with_reducible refine Kd.C_drew ?_))); (case side4 => exact (Kd.R_reads' HO781.out).2.1); rintro e w' ⟨rfl, ⟨nd, rfl⟩⟩))
               go_ret
               exact ⟨by first | rfl | (simp [errW_none, errW_some] <;> rfl) | (simp only [← hji83, ← hji87]; first | rfl | (simp [errW_none, errW_some] <;> rfl)) | (simp [*, errW_none, errW_some] <;> rfl), hb_⟩
              ·rw [if_neg c91] at H
               obtain ⟨c91b0, c91b1⟩ := neb_ c91; exact absurd ((Option.some.inj H).trans HRT.out) (by decide)
             ·rw [if_neg c90] at H
              obtain ⟨c90b0, c90b1⟩ := neb_ c90; exact absurd ((Option.some.inj H).trans HRT.out) (by decide)
            ·rw [if_neg c86] at H
             obtain ⟨c86b0, c86b1⟩ := neb_ c86; exact absurd ((Option.some.inj H).trans HRT.out) (by decide)
  ·rw [if_neg c7] at H
   obtain ⟨c7b0, c7b1⟩ := neb_ c7
   by_cases c101 : t756 = t752
   ·rw [if_pos c101] at H
    obtain ⟨c101b0, c101b1⟩ := eqb_ c101; clear c101; obtain rfl := Option.some.inj H
    go_enter Try.func9, Try.ntmps9
    go_wp2_with (first | ((with_reducible refine gate_dst (N := 1) rfl ?_); (try (refine gate_guard (by rfl) ?_; dsimp only)); refine bx_ 1 #[.int .u8 a0_0, .bool a0_1, .slice A0_2 l0_2.length c0_2, .int .u8 a0_3, .int .u8 a0_4, .int .u8 a0_5, .slice A0_6 l0_6.length c0_6] 60 ?_; intro gb737 hg w102 BK737 hb; have GE737 := ge_ (w := w) hg; replace HB := hst_ hb; clear hb hg) | ((with_reducible refine gate_callee (f := 14) rfl ?_); refine cl_ 23 Try.func14 (ebbtidelaw15_awake.calls k  true _ A2.out) ?_; rintro e w103 ⟨rfl, hb⟩; refine ⟨_, rfl, ?_⟩; replace BK737 := am_ (bb_ BK737.out hb); replace HB := hst_ hb; (try clear hb); (try clear hb2); (try clear hk); (try clear hi); obtain ⟨hcz104_0, hcz104_1, hcz104_2, hcz104_3, hcz104_4, hcz104_5, hcz104_6, hfz104_0, hfz104_1, hfz104_2, hfz104_3, hfz104_4, hfz104_5, hfz104_6⟩ := cf7_ BK737.out) | ((with_reducible refine gate_callee (f := 27) rfl ?_); refine cl_ 28 Try.func27 (ebbtidelaw14_Read.calls k a0_0 a0_1 _ _ l0_2 a0_3 a0_4 a0_5 _ _ l0_6 t739 t740 t741 t744 t745 t746 t747 _ (cb_ HR0_2.out) HC0_2.out (cb_ HR0_6.out) HC0_6.out A4.out) ?_; rintro e w105 ⟨v742, v748, rfl, ho0, ho1, hb⟩; refine ⟨_, rfl, ?_⟩; have HO743 := am_ (Kd.R_lower ho0 (below_size hb_)); have HO749 := am_ (Kd.R_lower ho1 (below_size hb_)); replace BK737 := am_ (bb_ BK737.out hb); replace HB := hst_ hb; (try clear hb); (try clear hb2); (try clear hk); (try clear hi); (try clear ho0); (try clear ho1)) | ((with_reducible refine gate_dst (N := 4) rfl ?_); (try (refine gate_guard (by rfl) ?_; dsimp only)); refine bx_ 4 #[.int .i64 0, .bool false, .slice none 0 0] 24 ?_; intro gb750 hg w106 BK750 hb; replace HO743 := am_ (Kd.R_below (rq_ HO743.out) hb); replace HO749 := am_ (Kd.R_below (rq_ HO749.out) hb); have GE750 := ge_ (w := w) hg; replace HB := hst_ hb; have NB737_750 := am_ (nl_ BK737.out hg); have NB750_737 := am_ (ng_ BK737.out hg); replace BK737 := am_ (bb_ BK737.out hb); clear hb hg; have hnb107 := NB750_737.out; have hnc107 := NB737_750.out; obtain ⟨hcz108_0, hcz108_1, hcz108_2, hfz108_0, hfz108_1, hfz108_2⟩ := cf3_ BK750.out; obtain ⟨Ao109, co109, eo109⟩ := Kd.R_slice HO743.out; subst eo109; obtain ⟨Ao110, co110, eo110⟩ := Kd.R_slice HO749.out; subst eo110) | ((with_reducible refine gate_callee (f := 26) rfl ?_); refine goesL_ (some 40) rfl rfl Try.func26 (by kernel_rfl) rfl #[.agg #[.int .i64 t739, .bool t740, .slice Ao109 t741.length co109], .int .i64 t744, .int .i64 t745, .int .i64 t746, .slice Ao110 t747.length co110] rfl mt_ ?_; (with_reducible refine (ebbtideref14_Check.calls k t739 t740 _ _ t741 t744 t745 t746 _ _ t747 t751 t752 _ ?side1 ?side2 ?side3 ?side4 A5.out).mono ?_); (case side1 => refine (Kd.R_reads' (e := 54) (base := w.heap.size) (ok := fun k_ => True) (n := t741.length) (c := co109) ?_).2.2; exact q26_); (case side2 => exact (Kd.R_reads' HO743.out).2.1); (case side3 => refine (Kd.R_reads' (e := 85) (base := w.heap.size) (ok := fun k_ => True) (n := t747.length) (c := co110) ?_).2.2; exact q27_); (case side4 => exact (Kd.R_reads' HO749.out).2.1); rintro e w111 ⟨rfl, hb⟩; refine ⟨_, rfl, ?_⟩; replace HO743 := am_ (Kd.R_below q26_ hb); replace HO749 := am_ (Kd.R_below q27_ hb); replace BK737 := am_ (blk_below (g := gb737) (o := .cells #[.int .u8 a0_0, .bool a0_1, .slice A0_2 l0_2.length c0_2, .int .u8 a0_3, .int .u8 a0_4, .int .u8 a0_5, .slice A0_6 l0_6.length c0_6] 60 (0, 0)) (by refine bq_ ?_; refine blk_far ?_ NB737_750.out _; refine bq_ ?_; refine blk_far ?_ NB737_750.out _; refine bq_ ?_; refine blk_far ?_ NB737_750.out _; refine bq_ ?_; exact BK737.out) hb); replace BK750 := am_ (blk_below (g := gb750) (o := .cells #[.int .i64 t739, .bool t740, .slice Ao109 t741.length co109] 24 (0, 0)) q28_ hb); replace HB := hst_ hb; (try clear hb); (try clear hb2); (try clear hk); (try clear hi); obtain ⟨hcz112_0, hcz112_1, hcz112_2, hfz112_0, hfz112_1, hfz112_2⟩ := cf3_ BK750.out) | ((with_reducible refine gate_callee (f := 28) rfl ?_); refine goesL_ (some 49) rfl rfl Try.func28 (by kernel_rfl) rfl #[.agg #[.int .i64 t739, .bool t740, .slice Ao109 t741.length co109], .int .i64 t744, .int .i64 t745, .int .i64 t746, .slice Ao110 t747.length co110] rfl mt_ ?_; (with_reducible refine (expand_Flow.calls k t739 t740 _ _ t741 t744 t745 t746 _ _ t747 t753 t756 _ ?side1 ?side2 ?side3 ?side4 A6.out).mono ?_); (case side1 => repeat (first | exact (Kd.R_reads' HO743.out).2.2 | (with_reducible refine Kd.C_alloc ?_ _) | (with_reducible refine Kd.C_drewN ?_ _) | (with_reducible refine Kd.C_drew ?_))); (case side2 => exact (Kd.R_reads' HO743.out).2.1); (case side3 => repeat (first | exact (Kd.R_reads' HO749.out).2.2 | (with_reducible refine Kd.C_alloc ?_ _) | (with_reducible refine Kd.C_drewN ?_ _) | (with_reducible refine Kd.C_drew ?_))); (case side4 => exact (Kd.R_reads' HO749.out).2.1); rintro e w113 ⟨v754, rfl, ho0, hb⟩; refine ⟨_, rfl, ?_⟩; replace HO743 := am_ (Kd.R_below (rq_ HO743.out) hb); replace HO749 := am_ (Kd.R_below (rq_ HO749.out) hb); have HO755 := am_ (Kd.R_lower ho0 (below_size hb_)); replace BK737 := am_ (bb_ BK737.out hb); replace BK750 := am_ (bb_ BK750.out hb); replace HB := hst_ hb; (try clear hb); (try clear hb2); (try clear hk); (try clear hi); (try clear ho0); obtain ⟨Ao114, co114, eo114⟩ := Kd.R_slice HO755.out; subst eo114))
    go_ret
    exact ⟨er_, hb_⟩
   ·rw [if_neg c101] at H
    obtain ⟨c101b0, c101b1⟩ := neb_ c101; exact absurd ((Option.some.inj H).trans HRT.out) (by decide)
 ·replace c3 := Bool.eq_false_iff.mpr c3
  subst c3
  have H1 : (some false) = some r := by rw [if_neg (show ¬ (false = true) by decide)] at H; exact H
  clear H; have H := H1; clear H1; exact absurd ((Option.some.inj H).trans HRT.out) (by decide)
end Go.Proofs.Ytfhkkbpkajfdlaa.Q
end
section
namespace Go.Proofs.Ytfhkkbpkajfdlaa.R
open Go.RowKit Go.Proofs.Ytfhkkbpkajfdlaa.Q Go.Proofs.YtfhkkbpkajfdlaaW.PrintWords Go.Proofs.YtfhkkbpkajfdlaaW.PrintLast Go.Proofs.YtfhkkbpkajfdlaaW.PrintMore
def ExpandPlans.Pure : Prop := ∀ N0 : Nat, ∀ (x0 : S60), g60 N0 x0 → ∃ k, ebbtidelaw15_ExpandPlans.f k x0.f0.f0 x0.f0.f1 x0.f0.f2 x0.f0.f3 x0.f0.f4 x0.f0.f5 x0.f1 = some true
end Go.Proofs.Ytfhkkbpkajfdlaa.R
end
section
namespace Go.Proofs.Ytfhkkbpkajfdlaa.Pure
open Go.RowKit Go.Proofs.Ytfhkkbpkajfdlaa.Q Go.Proofs.Ytfhkkbpkajfdlaa.P Go.Proofs.YtfhkkbpkajfdlaaW.PrintWords Go.Proofs.YtfhkkbpkajfdlaaW.PrintLast Go.Proofs.YtfhkkbpkajfdlaaW.PrintMore
open Go.Proofs.Ytfhkkbpkajfdlaa.R
section
variable {n : Int} {hold : Bool} {arcs : List S54} {s t h val : Int} {l M : List S85} (hs : Small n arcs s t h l) (hl : M.length ≤ 1048576) (ho : MergedOk n arcs s t h l M) (hst : AllOk hold h s t (tH h) (tV n) (stk arcs M)) (hv : val = wsum (cStk arcs t h) M) (hw : val = -wsum (cStk arcs s h) M)
include hs hl ho hst hv hw
theorem plans_end {N : Nat} (hN : (N : Int) = (h + 1) * n + 2) (hN2 : N ≤ 100000) :
 ∀ d i : Nat, i + d + 2 = N → Ev (fun k => ebbtidelaw15_ExpandPlans.l1 k true s t h l val ((gridKinds n h hold s t arcs).map (valK arcs M s)) (row N (fun v => sm (con n h s arcs (v : Int)) ((gridKinds n h hold s t arcs).map (fun k => (k, valK arcs M s k))))) (i : Int) n hold arcs) true := by
 have hh := ho.hor
 have hn := ho.net
 have h2 := hs.two
 obtain ⟨s0, s1, t0, t1, st⟩ := ho.ends
 intro d
 induction d with
 | succ d ih =>
  intro i hi
  obtain ⟨a, u, ha, hu, e⟩ := node_cases (n := n) (h := h) (v := (i : Int)) (by omega) (by omega) (by omega) (by omega)
  have hb := bal_cell hl ho hst hu ha
  rw [← e] at hb
  refine Ev.step (fun k => ?_) (ih (i + 1) (by omega))
  rw [ebbtidelaw15_ExpandPlans.l1, row_length, w64 (n := (i : Int) + 2) (by omega) (by omega), if_pos (by omega), if_pos (by omega), if_pos (by omega), rd_row (by omega), hb, if_pos rfl, wrap1 (by omega)]
 | zero =>
  intro i hi
  have e0 : (i : Int) = (h + 1) * n := by omega
  have hK : ∀ p ∈ (gridKinds n h hold s t arcs).map (fun k => (k, valK arcs M s k)), p.1 ∈ gridKinds n h hold s t arcs := fun p hp => by
   obtain ⟨k, hk, rfl⟩ := List.mem_map.1 hp
   exact hk
  have b0 : sm (con n h s arcs (((N - 2 : Nat)) : Int)) ((gridKinds n h hold s t arcs).map (fun k => (k, valK arcs M s k))) = val := by
   rw [show (((N - 2 : Nat)) : Int) = (h + 1) * n from by omega, sm_congr (g := eA s) (fun p hp => (con_first hn ⟨s0, s1⟩ ⟨t0, t1⟩ st (by omega) (hK p hp)).1), out_s hl ho, hw]
  have b1 : sm (con n h s arcs (((N - 1 : Nat)) : Int)) ((gridKinds n h hold s t arcs).map (fun k => (k, valK arcs M s k))) = -val := by
   rw [show (((N - 1 : Nat)) : Int) = (h + 1) * n + 1 from by omega, sm_congr (g := fun p => -eA t p) (fun p hp => (con_first hn ⟨s0, s1⟩ ⟨t0, t1⟩ st (by omega) (hK p hp)).2), sm_neg (f := fun p => eA t p), in_t hl ho, hv]
  have hbd := pl_bd hl ho t h
  rw [← hv] at hbd
  have hm : Ev (fun k => expand_Moves.f k n hold arcs s t h ((gridKinds n h hold s t arcs).map (valK arcs M s))) (M, 0) := by
   have h1 := moves15_ev n hold arcs s t h ((gridKinds n h hold s t arcs).map (valK arcs M s))
   have e1 : movesR n hold arcs s t h ((gridKinds n h hold s t arcs).map (valK arcs M s)) = (M, 0) := by
    unfold movesR
    have hlen : ((gridKinds n h hold s t arcs).map (valK arcs M s)).length = (gridArcs n h hold s t arcs).length := by rw [List.length_map, gridKinds_length]
    rw [if_pos (small_exp hs), if_pos hlen, if_pos, gridMoves_eq, pl_told hl ho hst]
    refine within_all fun j hj => ?_
    have hjK : j < (gridKinds n h hold s t arcs).length := by rw [gridKinds_length]; exact hj
    have q := val_ok hl ho hst (List.getElem_mem hjK)
    rw [rdI_of (by rw [hlen]; exact hj), List.getElem_map]
    refine ⟨q.1, Int.le_trans q.2.1 (Int.le_of_eq ?_)⟩
    have e2 : gridArcs n h hold s t arcs = (gridKinds n h hold s t arcs).map (arcAll n h s arcs) := arcs_all st
    rw [rdA_of hj]
    simp only [e2, List.getElem_map]
   rw [e1] at h1
   exact h1
  have hr : Ev (fun k => ebbtideref03_Moves.f k l) (M, 0) := by
   have h1 := rmoves_ev l (small_len hs) (small_ok hs)
   have e1 : mergeR l = (M, 0) := by unfold mergeR; rw [if_pos ho.fit, ho.is]
   rw [e1] at h1
   exact h1
  have hi3 : ((row N (fun v => sm (con n h s arcs (v : Int)) ((gridKinds n h hold s t arcs).map (fun k => (k, valK arcs M s k))))).length : Int) = (N : Int) := by rw [row_length]
  refine Ev.step (f := fun k => (ebbtideref03_Moves.f k l).bind fun bt778 => ((expand_Moves.f k n hold arcs s t h ((gridKinds n h hold s t arcs).map (valK arcs M s))).bind fun bt782 => (if bt782.2 = 0 then ((ebbtideref03_SameMoves.f k bt782.1 bt778.1).bind fun t788 => (some t788)) else (some false)))) (fun k => ?_) ?_
  ·rw [ebbtidelaw15_ExpandPlans.l1, hi3, w64 (n := (i : Int) + 2) (by omega) (by omega), if_neg (by omega)]
   have w2 : wrap64 ((N : Int) - 2) = ((N - 2 : Nat) : Int) := by rw [w64 (by omega) (by omega)]; omega
   have w1 : wrap64 ((N : Int) - 1) = ((N - 1 : Nat) : Int) := by rw [w64 (by omega) (by omega)]; omega
   have w3 : wrap64 (-val) = -val := w64 (by omega) (by omega)
   have r2 := rd_row (V := N) (g := fun v : Nat => sm (con n h s arcs (v : Int)) ((gridKinds n h hold s t arcs).map (fun k => (k, valK arcs M s k)))) (i := N - 2) (by omega)
   have r1 := rd_row (V := N) (g := fun v : Nat => sm (con n h s arcs (v : Int)) ((gridKinds n h hold s t arcs).map (fun k => (k, valK arcs M s k)))) (i := N - 1) (by omega)
   simp only [b0] at r2
   simp only [b1] at r1
   simp only [w2, w1, w3, r2, r1, if_true, if_pos (show (0 : Int) ≤ ((N - 2 : Nat) : Int) by omega), if_pos (show ((N - 2 : Nat) : Int) < (N : Int) by omega), if_pos (show (0 : Int) ≤ ((N - 1 : Nat) : Int) by omega), if_pos (show ((N - 1 : Nat) : Int) < (N : Int) by omega)]
  ·refine Ev.bind hr (Ev.bind hm ?_)
   simp only [if_true]
   refine Ev.bind (sameMoves_ev M (by omega)) (Ev.now _)
theorem plans_loop {N : Nat} (hN : (N : Int) = (h + 1) * n + 2) (hN2 : N ≤ 100000) :
 ∀ d i : Nat, i + d = (gridKinds n h hold s t arcs).length → Ev (fun k => ebbtidelaw15_ExpandPlans.l0 k true s t h l val ((gridKinds n h hold s t arcs).map (valK arcs M s)) (row N (fun v => sm (con n h s arcs (v : Int)) (((gridKinds n h hold s t arcs).map (fun k => (k, valK arcs M s k))).take i))) (i : Int) n hold arcs (N : Int) false (gridArcs n h hold s t arcs)) true := by
 have hh := ho.hor
 have hn := ho.net
 obtain ⟨s0, s1, t0, t1, st⟩ := ho.ends
 have hA : (gridKinds n h hold s t arcs).length ≤ 300000 := by rw [gridKinds_length]; exact gridArcs_length hn hh
 intro d
 induction d with
 | zero =>
  intro i hi
  rw [List.take_of_length_le (by rw [List.length_map]; omega)]
  refine Ev.step (fun k => ?_) (plans_end hs hl ho hst hv hw hN hN2 (N - 2) 0 (by have := Int.mul_nonneg (show 0 ≤ h + 1 by omega) (show 0 ≤ n by omega); omega))
  rw [ebbtidelaw15_ExpandPlans.l0, List.length_map, if_neg (by omega)]
  rfl
 | succ d ih =>
  intro i hi
  have hlt : i < (gridKinds n h hold s t arcs).length := by omega
  have hltA : i < (gridArcs n h hold s t arcs).length := by rw [← gridKinds_length]; exact hlt
  have hmem := List.getElem_mem hlt
  have q := val_ok hl ho hst hmem
  have en := arc_ends hn ⟨s0, s1⟩ ⟨t0, t1⟩ st (by omega) hmem
  rw [← hN] at en
  have hnext := ih (i + 1) (by omega)
  have e2 : gridArcs n h hold s t arcs = (gridKinds n h hold s t arcs).map (arcAll n h s arcs) := arcs_all st
  have eA : rd_T54 (gridArcs n h hold s t arcs) (i : Int) = arcAll n h s arcs (gridKinds n h hold s t arcs)[i] := by
   rw [rdA_of hltA]
   simp only [e2, List.getElem_map]
  have eF : rd ((gridKinds n h hold s t arcs).map (valK arcs M s)) (i : Int) = valK arcs M s (gridKinds n h hold s t arcs)[i] := by rw [rdI_of (by rw [List.length_map]; exact hlt), List.getElem_map]
  have hbd : ∀ v : Nat, -1152921504606846976 ≤ sm (con n h s arcs (v : Int)) (((gridKinds n h hold s t arcs).map (fun k => (k, valK arcs M s k))).take i) ∧ sm (con n h s arcs (v : Int)) (((gridKinds n h hold s t arcs).map (fun k => (k, valK arcs M s k))).take i) ≤ 1152921504606846976 := fun v => by
   have h1 := sm_bd (f := con n h s arcs (v : Int)) (B := 1099511627776) (l := ((gridKinds n h hold s t arcs).map (fun k => (k, valK arcs M s k))).take i) (fun p hp => by
    obtain ⟨k, hk, rfl⟩ := List.mem_map.1 (List.mem_of_mem_take hp)
    have q := val_ok hl ho hst hk
    exact con_bd ⟨q.1, q.2.2⟩)
   have h2 : (((gridKinds n h hold s t arcs).map (fun k => (k, valK arcs M s k))).take i).length ≤ 300000 := by rw [List.length_take, List.length_map]; omega
   omega
  have hput := bal_put (N := N) (g := fun v => sm (con n h s arcs (v : Int)) (((gridKinds n h hold s t arcs).map (fun k => (k, valK arcs M s k))).take i)) en.1 en.2 hbd ⟨q.1, q.2.2⟩
  have hrow : (fun v : Nat => sm (con n h s arcs (v : Int)) (((gridKinds n h hold s t arcs).map (fun k => (k, valK arcs M s k))).take (i + 1))) = fun v : Nat => sm (con n h s arcs (v : Int)) (((gridKinds n h hold s t arcs).map (fun k => (k, valK arcs M s k))).take i) + valK arcs M s (gridKinds n h hold s t arcs)[i] * (dl (arcAll n h s arcs (gridKinds n h hold s t arcs)[i]).f0 (v : Int) - dl (arcAll n h s arcs (gridKinds n h hold s t arcs)[i]).f1 (v : Int)) := by
   funext v
   rw [List.take_succ_eq_append_getElem (by rw [List.length_map]; exact hlt), sm_snoc, List.getElem_map]
   rfl
  rw [hrow, ← hput] at hnext
  refine Ev.step (fun k => ?_) hnext
  have c1 : ¬ valK arcs M s (gridKinds n h hold s t arcs)[i] < 0 := by omega
  have c2 : ¬ valK arcs M s (gridKinds n h hold s t arcs)[i] > (arcAll n h s arcs (gridKinds n h hold s t arcs)[i]).f2 := by omega
  rw [ebbtidelaw15_ExpandPlans.l0, List.length_map, if_pos (by omega), if_pos (by omega), if_pos (by omega)]
  simp only [eA, eF, row_length]
  rw [if_neg c1, if_neg c2, if_neg (by omega), if_neg (by omega), if_neg (by omega), if_neg (by omega), if_pos en.1.1, if_pos en.1.2]
  simp only [Option.bind_some, List.length_set, row_length]
  rw [if_pos en.2.1, if_pos en.2.2, wrap1 (by omega)]
end
theorem ExpandPlans : ExpandPlans.Pure := by
 intro N0 x0 g
 apply Ev.rounds
 obtain ⟨n, arcs, s, t, h, l, hs, hr⟩ := read_ev x0 g
 have hlen := small_len hs
 have hl := small_ok hs
 unfold ebbtidelaw15_ExpandPlans.f
 refine Ev.bind awake15_ev ?_
 simp only [if_true]
 refine Ev.bind hr (Ev.bind (checkQ_ev hlen hl) (Ev.bind (pflow_ev hlen hl) ?_))
 by_cases d : (planR x0.f0.f1 n arcs s t h l).2 = 0
 ·have ef : flowR x0.f0.f1 n arcs s t h l = ((gridKinds n h x0.f0.f1 s t arcs).map (valK arcs (mergedR n arcs s t h l).1 s), 0) := by
   unfold flowR
   rw [if_pos (small_exp hs), if_pos d]
  have eb : buildR n x0.f0.f1 arcs s t h = ((h + 1) * n + 2, false, gridArcs n h x0.f0.f1 s t arcs, 0) := by
   unfold buildR
   rw [if_pos (small_exp hs)]
  have hB := build_ev n x0.f0.f1 arcs s t h
  rw [eb] at hB
  obtain ⟨k0, k1, k2⟩ := planR_ok d
  have ho := mergedR_ok k0
  have hh := ho.hor
  have hv : (planR x0.f0.f1 n arcs s t h l).1 = wsum (cStk arcs t h) (mergedR n arcs s t h l).1 := by
   rw [k2]
   show stk arcs _ _ _ = _
   unfold stk
   rw [show ((t.toNat : Nat) : Int) = t from by have := hs.ends; omega, show ((h.toNat : Nat) : Int) = h from by omega]
  have hw : (planR x0.f0.f1 n arcs s t h l).1 = -wsum (cStk arcs s h) (mergedR n arcs s t h l).1 := by
   have h1 := source_left d
   unfold stk at h1
   rw [show ((s.toNat : Nat) : Int) = s from by have := hs.ends; omega, show ((h.toNat : Nat) : Int) = h from by omega] at h1
   omega
  have hNle : (h + 1) * n ≤ 40 := by
   have h2 := hs.two
   have h3 := hs.hor
   have := Int.mul_le_mul (show h + 1 ≤ 8 by omega) (show n ≤ 5 by omega) (by omega) (by omega)
   omega
  have hN0 : 0 ≤ (h + 1) * n := Int.mul_nonneg (by omega) (by have := hs.two; omega)
  obtain ⟨N, hN⟩ := Int.eq_ofNat_of_zero_le (show 0 ≤ (h + 1) * n + 2 by omega)
  rw [ef]
  simp only [d, if_true]
  refine Ev.bind hB ?_
  simp only [if_true]
  have hlenEq : ((((gridKinds n h x0.f0.f1 s t arcs).map (valK arcs (mergedR n arcs s t h l).1 s)).length : Int) != ((gridArcs n h x0.f0.f1 s t arcs).length : Int)) = false := by
   rw [List.length_map, gridKinds_length]
   exact bne_self_eq_false _
  rw [hlenEq]
  refine Ev.step (fun k => ?_) (plans_loop hs (merged_len hlen k0) ho k1 hv hw hN.symm (by omega) (gridKinds n h x0.f0.f1 s t arcs).length 0 (by omega))
  rw [ebbtidelaw15_ExpandPlans.j0, if_neg Bool.false_ne_true, hN, if_pos (by omega), if_pos (by omega), Int.toNat_natCast, row_replicate]
  rfl
 ·have ef : flowR x0.f0.f1 n arcs s t h l = ([], (planR x0.f0.f1 n arcs s t h l).2) := by
   unfold flowR
   rw [if_pos (small_exp hs), if_neg d]
  rw [ef]
  simp only [d, if_false, if_true]
  exact Ev.now _
end Go.Proofs.Ytfhkkbpkajfdlaa.Pure
end
section
namespace Go.Proofs.Ytfhkkbpkajfdlaa
open Go Go.RowKit
def ioHead : List Char := List.map Char.ofNat [104, 97, 114, 110, 101, 115, 115, 32, 53, 97, 52, 98, 49, 100, 102, 98, 102, 48, 99, 51, 55, 54, 100, 49, 48, 99, 102, 101, 49, 101, 100, 101, 53, 51, 57, 51, 100, 99, 57, 100, 102, 101, 50, 57, 49, 54, 57, 99, 50, 100, 99, 49, 55, 50, 50, 101, 97, 53, 54, 56, 48, 100, 54, 51, 50, 54, 98, 49, 56, 99, 52, 52, 32, 99, 117, 116, 32]
def ioRest : List Char := List.map Char.ofNat [97, 116, 32, 101, 98, 98, 116, 105, 100, 101, 47, 101, 98, 98, 116, 105, 100, 101, 108, 97, 119, 49, 53, 46, 69, 120, 112, 97, 110, 100, 70, 105, 116, 115, 32, 101, 98, 98, 116, 105, 100, 101, 47, 101, 98, 98, 116, 105, 100, 101, 108, 97, 119, 49, 53, 46, 69, 120, 112, 97, 110, 100, 66, 117, 105, 108, 100, 115, 32, 101, 98, 98, 116, 105, 100, 101, 47, 101, 98, 98, 116, 105, 100, 101, 108, 97, 119, 49, 53, 46, 69, 120, 112, 97, 110, 100, 66, 97, 99, 107, 32, 101, 98, 98, 116, 105, 100, 101, 47, 101, 98, 98, 116, 105, 100, 101, 108, 97, 119, 49, 53, 46, 69, 120, 112, 97, 110, 100, 77, 111, 118, 101, 115, 32, 101, 98, 98, 116, 105, 100, 101, 47, 101, 98, 98, 116, 105, 100, 101, 108, 97, 119, 49, 53, 46, 69, 120, 112, 97, 110, 100, 82, 117, 110, 115, 32, 101, 98, 98, 116, 105, 100, 101, 47, 101, 98, 98, 116, 105, 100, 101, 108, 97, 119, 49, 53, 46, 69, 120, 112, 97, 110, 100, 70, 108, 111, 119, 115, 32, 101, 98, 98, 116, 105, 100, 101, 47, 101, 98, 98, 116, 105, 100, 101, 108, 97, 119, 49, 53, 46, 69, 120, 112, 97, 110, 100, 80, 108, 97, 110, 115]
set_option maxRecDepth 100000 in
theorem io_eq : Try.pinned.checked.prog.initOrder = String.ofList (ioHead ++ ioRest) := by kernel_rfl
theorem io_toList : Try.pinned.checked.prog.initOrder.toList = ioHead ++ ioRest := by rw [io_eq]; exact String.toList_ofList
def ioCut : List Char := List.map Char.ofNat [99, 117, 116]
set_option maxRecDepth 100000 in
theorem io_words (r : List Char) : behindMainWord (wordsSigns (ioHead ++ r)) = ioCut :: wordsSigns r := by kernel_rfl
theorem io_behind : ∃ X, behindMainWord (wordsSigns Try.pinned.checked.prog.initOrder.toList) = ioCut :: X := ⟨_, by rw [io_toList]; exact io_words _⟩
theorem io_cut : ioCut = "cut".toList := by decide +kernel
theorem io_strip (X : List (List Char)) : stripLifts liftWords (ioCut :: X) = ([], ioCut :: X) := by kernel_rfl
theorem headLifts_cut (P : Program) (h : ∃ X, behindMainWord (wordsSigns P.initOrder.toList) = ioCut :: X) : P.headLifts = [] := by
 obtain ⟨X, e⟩ := h
 unfold Program.headLifts
 rw [e, io_strip]
 rfl
theorem mayEnter_cut (P : Program) (h : ∃ X, behindMainWord (wordsSigns P.initOrder.toList) = ioCut :: X) (h1 : P.laysLater = false) (h2 : P.bearsReflect = false) (h3 : P.doorFits [] = true) : P.mayEnter = true := by
 obtain ⟨X, e⟩ := h
 unfold Program.mayEnter
 rw [e]
 simp only [io_strip, h1, h2, h3]
 rw [io_cut]
 simp
theorem liftsFinal_cut (P : Program) (h : ∃ X, behindMainWord (wordsSigns P.initOrder.toList) = ioCut :: X) : P.liftsFinal = false := by
 have h0 := headLifts_cut P h
 obtain ⟨X, e⟩ := h
 unfold Program.liftsFinal
 rw [e, h0]
 rw [io_cut]
 simp
theorem make_cut (P : Program) (h : ∃ X, behindMainWord (wordsSigns P.initOrder.toList) = ioCut :: X) : P.make = some .cut := by
 obtain ⟨X, e⟩ := h
 unfold Program.make
 rw [e]
 simp only [io_cut]
 rw [if_neg (by decide +kernel), if_pos (by simp)]
theorem p_mayEnter : Try.pinned.checked.prog.mayEnter = true := mayEnter_cut _ io_behind (by kernel_rfl) (by kernel_rfl) (by kernel_rfl)
theorem p_liftsFinal : Try.pinned.checked.prog.liftsFinal = false := liftsFinal_cut _ io_behind
theorem p_make : Try.pinned.checked.prog.make = some .cut := make_cut _ io_behind
theorem p_laidOut : laidOutB Try.pinned.checked.prog = true := by kernel_rfl
theorem p_mapsRowed : mapsRowed Try.pinned.checked.prog = true := by kernel_rfl
theorem p_stopsHeard : Try.pinned.checked.prog.stopsHeard = true := by kernel_rfl
theorem p_stops : Try.pinned.checked.prog.stops = [] := by kernel_rfl
theorem p_stopKnobs : Try.pinned.checked.prog.stopKnobs = [] := by kernel_rfl
end Go.Proofs.Ytfhkkbpkajfdlaa
end
section
namespace Go.Proofs.Ytfhkkbpkajfdlaa.expandPlans
open Go.ChangeShapes Go.WideShapes Go.ChangeAt Go.RowKit
open Go.ChangeMaps (open_string shut_string)
open Go.Proofs.Ytfhkkbpkajfdlaa.Q Go.Proofs.Ytfhkkbpkajfdlaa.R Go.Proofs.YtfhkkbpkajfdlaaW.PrintWords
theorem own : ownKnob Try.prog.godebug = none := by kernel_rfl
theorem laidOut : laidOutB Try.prog = true := by kernel_rfl
theorem open60 {w : World} {x : S60} {cs : List Value} (h : k60.K w x cs) : ∃ (A2 : Option Addr) (c2 : Nat) (A6 : Option Addr) (c6 : Nat), cs = [.int .u8 x.f0.f0, .bool x.f0.f1, .slice A2 x.f0.f2.length c2, .int .u8 x.f0.f3, .int .u8 x.f0.f4, .int .u8 x.f0.f5, .slice A6 x.f1.length c6] ∧ x.f0.f2.length ≤ c2 ∧ Kd.C k80 w A2 x.f0.f2.length x.f0.f2 ∧ x.f1.length ≤ c6 ∧ Kd.C k96 w A6 x.f1.length x.f1 := by
 obtain ⟨_, _, rfl, ⟨_, _, rfl, rfl, ⟨_, _, rfl, rfl, ⟨_, _, rfl, ⟨A2, c2, rfl, l2, g2⟩, ⟨_, _, rfl, rfl, ⟨_, _, rfl, rfl, rfl⟩⟩⟩⟩⟩, ⟨A6, c6, rfl, l6, g6⟩⟩ := h
 exact ⟨A2, c2, A6, c6, rfl, l2, g2, l6, g6⟩
set_option maxRecDepth 100000 in
theorem lifted (os : Os) (started : os.Started) (H : Type) (enc : TypeId × Value → H) :
 ReturnsInHanded {} Try.checked os 9 .any (Rows.expandPlansSpec.pre6 enc Try.prog Try.f9 Rows.expandPlansRow.domain false) (Rows.expandPlansSpec.post enc Try.prog Try.f9 false true false false) := by
 refine returnsInHanded_of_change_sized (C := Try.checked) own started (by kernel_rfl) Try.func9
  (ChangeSpec.witness6 (enc := enc) (C := Try.checked) false ⟨#[], #[.agg #[.int .u8 0, .bool false, .slice none 0 0, .int .u8 0, .int .u8 0, .int .u8 0, .slice none 0 0]], []⟩ 8 (by kernel_rfl) (by kernel_rfl) (by kernel_rfl) (by kernel_rfl)) ?_
 intro W base args ds gs before hval0 hW hcnd hsz0 _
 have hval : ∀ (j : Nat) t v, Try.f9.params[j]? = some t → args[j]? = some v → Value.okWide Try.prog W .any base t v := hval0
 have hW' := hW
 obtain ⟨p, q, hA0, hV, rfl, hfz, hnd⟩ := hW
 have hA : DataW.TrodAll enc Try.prog W 0 (fun _ => true) true Try.f9.params.toList args.toList ds p := hA0
 rw [Try.params9] at hA hval
 obtain ⟨v0, vs0, d0, ds0, p0, q0, hargs, rfl, rfl, h0, r0⟩ := trodAll_cons hA
 obtain ⟨rfl, rfl, rfl⟩ := trodAll_nil r0
 obtain rfl : args = #[v0] := by cases args; simp_all
 obtain ⟨rfl, rfl⟩ := trodVars_none hV
 have k0 := h0
 have lt0 : ∀ x ∈ p0, x.block < W.heap.size := by obtain ⟨m, hm⟩ := k0; exact DataW.trod_lt m _ _ _ hm
 obtain ⟨fu0, hf0⟩ := h0
 obtain ⟨x0, K0, G0⟩ := reads60 enc W 0 (fun _ => true) true fu0 _ _ hf0
 obtain ⟨cs0, rfl, hsz0⟩ := okWide_struct Try.underlying60 (hval 0 60 v0 rfl rfl)
 have K0' : (k60).K W x0 cs0.toList := K0
 obtain ⟨ao0_2, co0_2, ao0_6, co0_6, es0, hc0_2, hr0_2, hc0_6, hr0_6⟩ := open60 K0'
 obtain rfl : cs0 = _ := Array.toList_inj.1 es0
 have h := Pure.ExpandPlans _ x0 (G0 _ (Nat.le_refl _))
 obtain ⟨k, h⟩ := h
 refine (ebbtidelaw15_ExpandPlans.calls k x0.f0.f0 x0.f0.f1 _ _ x0.f0.f2 x0.f0.f3 x0.f0.f4 x0.f0.f5 _ _ x0.f1 true W hr0_2 hc0_2 hr0_6 hc0_6 h).mono fun e W' ⟨he, bel0⟩ => ?_
 have bel : Below W.heap.size W W' := bel0
 subst he
 exact ⟨_, rfl, _, _, _, [], _, [], hW', trodAll_mk1 (shut_bool Try.underlying4 _), (trodAll_cons_mk (Below.trod laidOut (by kernel_rfl) (of_decide_eq_true (by kernel_rfl)) k0 bel lt0) trodAll_mk0), rfl, bel.frame _, fun h => by cases h⟩
theorem andI {a b : Bool} (x : a = true) (y : b = true) : (a && b) = true := by rw [x, y]; rfl
set_option maxRecDepth 100000 in
set_option maxHeartbeats 8000000 in
theorem closed : joinedFacts Try.pinned.checked.prog 9 Try.f9 Rows.expandPlansSpec Rows.expandPlansRow = true := by
 unfold joinedFacts
 exact (andI (andI (andI (andI (andI (andI (andI (andI (andI (andI (andI (andI (andI (andI (andI (andI (andI (andI (andI (andI (andI (andI (andI (andI (andI (andI (andI (andI (andI (andI (andI (by as_aux_lemma => kernel_rfl)
  p_laidOut)
  p_mapsRowed)
  (by as_aux_lemma => kernel_rfl))
  (by as_aux_lemma => kernel_rfl))
  (by as_aux_lemma => kernel_rfl))
  (by rw [p_stops]; rfl))
  (by as_aux_lemma => kernel_rfl))
  (by rw [p_stopKnobs]; rfl))
  (by as_aux_lemma => kernel_rfl))
  (by as_aux_lemma => kernel_rfl))
  (by as_aux_lemma => kernel_rfl))
  (by as_aux_lemma => kernel_rfl))
  (by as_aux_lemma => kernel_rfl))
  (by as_aux_lemma => kernel_rfl))
  (by as_aux_lemma => kernel_rfl))
  (by as_aux_lemma => kernel_rfl))
  (by as_aux_lemma => kernel_rfl))
  (by as_aux_lemma => kernel_rfl))
  (by as_aux_lemma => kernel_rfl))
  (by as_aux_lemma => kernel_rfl))
  (by as_aux_lemma => kernel_rfl))
  (by as_aux_lemma => kernel_rfl))
  (by as_aux_lemma => kernel_rfl))
  p_stopsHeard)
  p_mayEnter)
  (by rw [p_liftsFinal]; rfl))
  (by rw [p_make]; rfl))
  (by as_aux_lemma => kernel_rfl))
  (by as_aux_lemma => kernel_rfl))
  (by as_aux_lemma => kernel_rfl))
  (by as_aux_lemma => kernel_rfl))
theorem proved : Rows.ExpandPlansSaid :=
 OpenClaim.holds_of_wide 9 Try.f9 rfl rfl rfl rfl rfl rfl rfl ⟨rfl, rfl, rfl, rfl, rfl⟩ rfl rfl rfl rfl rfl (by kernel_rfl) Try.func9 closed
  (of_decide_eq_true (by kernel_rfl)) (by unfold Func.isWrapper; first | (rw [if_pos (by decide +kernel)]; kernel_rfl) | (rw [if_neg (by decide +kernel)]; exact ⟨rfl, rfl⟩))
  (fun os started H enc _ => lifted os started H enc)
#print axioms proved
end Go.Proofs.Ytfhkkbpkajfdlaa.expandPlans
namespace Go.Proofs.Ytfhkkbpkajfdlaa
theorem expandPlans_holds : Rows.ExpandPlansSaid := expandPlans.proved
end Go.Proofs.Ytfhkkbpkajfdlaa
end
