/- A part of the proof: words, contracts, plain lemmas. Conditions: none. -/
import Derived.Test.YtfhkkbpkajfdlaaZExpandRuns17
set_option linter.unusedSimpArgs false
set_option linter.unusedVariables false
section
namespace Go.Proofs.Ytfhkkbpkajfdlaa.Q
open Go.RowKit Go.Proofs.YtfhkkbpkajfdlaaW.PrintWords Go.Proofs.YtfhkkbpkajfdlaaW.PrintLast Go.Proofs.YtfhkkbpkajfdlaaW.PrintMore
attribute [local go_sem] max2_int min2_int max_two min_two min_four
def plan_merged.l0 : Nat → Int → Int → Int → List (S85) → List (S85) → Int → Int → Int → Bool → List (S54) → Option ((List (S85)) × Int)
 | 0, _, _, _, _, _, _, _, _, _, _ => none
 | k + 1, x1, x2, x3, x13, x33, x34, x35, x160000, x160001, x160002 => if x35 < x34 then (if 0 ≤ x35 then (if x35 < (x33.length : Int) then ((plan_may.f x160000 x160001 x160002 x1 x2 x3 ((rd_T85 x33 x35).f0) ((rd_T85 x33 x35).f1) ((rd_T85 x33 x35).f2)).bind fun t167 => (if t167 = true then (plan_merged.l0 k x1 x2 x3 x13 x33 x34 (wrap64 (x35 + 1)) x160000 x160001 x160002) else (some (([] : List (S85)), 140)))) else (none)) else (none)) else (some (x13, 0))
def plan_merged.f (k : Nat) (a0_0 : Int) (a0_1 : Bool) (l0_2 : List (S54)) (a1 : Int) (a2 : Int) (a3 : Int) (l4 : List (S85)) : Option ((List (S85)) × Int) := (span_Asked.f k a0_0 a0_1 l0_2 a1 a2 a3).bind fun t160 => (if t160 = 0 then ((table_Moves.f k l4).bind fun bt161 => (if bt161.2 = 0 then (plan_merged.l0 k a1 a2 a3 bt161.1 bt161.1 (bt161.1.length : Int) 0 a0_0 a0_1 l0_2) else (some (([] : List (S85)), bt161.2)))) else (some (([] : List (S85)), t160)))
mutual
def plan_stocks.l0 : Nat → Int → List (S85) → List (List Int) → Int → Int → Int → Bool → List (S54) → Option ((List (List Int)))
 | 0, _, _, _, _, _, _, _, _ => none
 | k + 1, x1, x2, x7, x19, x20, x169000, x169001, x169002 => if x20 < x19 then (if 0 ≤ x169000 then (if (x169000 : Int).toNat ≤ 35184372088832 then (if 0 ≤ x20 then (if x20 < (x7.length : Int) then (plan_stocks.l0 k x1 x2 (x7.set (x20 : Int).toNat (List.replicate (x169000 : Int).toNat 0)) x19 (wrap64 (x20 + 1)) x169000 x169001 x169002) else (none)) else (none)) else (none)) else (none)) else (plan_stocks.l1 k x1 x7 x2 (x2.length : Int) 0 x169000 x169001 x169002)
def plan_stocks.l1 : Nat → Int → List (List Int) → List (S85) → Int → Int → Int → Bool → List (S54) → Option ((List (List Int)))
 | 0, _, _, _, _, _, _, _, _ => none
 | k + 1, x1, x7, x30, x31, x32, x169000, x169001, x169002 => if x32 < x31 then (if 0 ≤ x32 then (if x32 < (x30.length : Int) then (if 0 ≤ ((rd_T85 x30 x32).f0) then (if ((rd_T85 x30 x32).f0) < (x169002.length : Int) then (if 0 ≤ ((rd_T85 x30 x32).f1) then (if ((rd_T85 x30 x32).f1) < (x7.length : Int) then (if 0 ≤ ((rd_T54 x169002 ((rd_T85 x30 x32).f0)).f0) then (if ((rd_T54 x169002 ((rd_T85 x30 x32).f0)).f0) < ((rd_L3 x7 ((rd_T85 x30 x32).f1)).length : Int) then ((some (x7.set (((rd_T85 x30 x32).f1) : Int).toNat ((rd_L3 x7 ((rd_T85 x30 x32).f1)).set (((rd_T54 x169002 ((rd_T85 x30 x32).f0)).f0) : Int).toNat (wrap64 ((rd (rd_L3 x7 ((rd_T85 x30 x32).f1)) ((rd_T54 x169002 ((rd_T85 x30 x32).f0)).f0)) - ((rd_T85 x30 x32).f2)))) : List (List Int))).bind fun y184 => (if 0 ≤ (wrap64 (((rd_T85 x30 x32).f1) + ((rd_T54 x169002 ((rd_T85 x30 x32).f0)).f3))) then (if (wrap64 (((rd_T85 x30 x32).f1) + ((rd_T54 x169002 ((rd_T85 x30 x32).f0)).f3))) < (x7.length : Int) then (if 0 ≤ ((rd_T54 x169002 ((rd_T85 x30 x32).f0)).f1) then (if ((rd_T54 x169002 ((rd_T85 x30 x32).f0)).f1) < ((rd_L3 y184 (wrap64 (((rd_T85 x30 x32).f1) + ((rd_T54 x169002 ((rd_T85 x30 x32).f0)).f3)))).length : Int) then (plan_stocks.l1 k x1 (y184.set ((wrap64 (((rd_T85 x30 x32).f1) + ((rd_T54 x169002 ((rd_T85 x30 x32).f0)).f3))) : Int).toNat ((rd_L3 y184 (wrap64 (((rd_T85 x30 x32).f1) + ((rd_T54 x169002 ((rd_T85 x30 x32).f0)).f3)))).set (((rd_T54 x169002 ((rd_T85 x30 x32).f0)).f1) : Int).toNat (wrap64 ((rd (rd_L3 y184 (wrap64 (((rd_T85 x30 x32).f1) + ((rd_T54 x169002 ((rd_T85 x30 x32).f0)).f3)))) ((rd_T54 x169002 ((rd_T85 x30 x32).f0)).f1)) + ((rd_T85 x30 x32).f2))))) x30 x31 (wrap64 (x32 + 1)) x169000 x169001 x169002) else (none)) else (none)) else (none)) else (none))) else (none)) else (none)) else (none)) else (none)) else (none)) else (none)) else (none)) else (none)) else (plan_stocks.l2 k x7 x1 0)
def plan_stocks.l2 : Nat → List (List Int) → Int → Int → Option ((List (List Int)))
 | 0, _, _, _ => none
 | k + 1, x7, x72, x73 => if x73 < x72 then (if 0 ≤ x73 then (if x73 < (x7.length : Int) then (plan_stocks.l3 k x7 x73 x72 x73 (rd_L3 x7 x73) ((rd_L3 x7 x73).length : Int) 0) else (none)) else (none)) else (some x7)
def plan_stocks.l3 : Nat → List (List Int) → Int → Int → Int → List Int → Int → Int → Option ((List (List Int)))
 | 0, _, _, _, _, _, _, _ => none
 | k + 1, x7, x12, x72, x73, x79, x80, x81 => if x81 < x80 then (if 0 ≤ x81 then (if x81 < (x79.length : Int) then (if 0 ≤ (wrap64 (x12 + 1)) then (if (wrap64 (x12 + 1)) < (x7.length : Int) then (if x81 < ((rd_L3 x7 (wrap64 (x12 + 1))).length : Int) then (plan_stocks.l3 k (x7.set ((wrap64 (x12 + 1)) : Int).toNat ((rd_L3 x7 (wrap64 (x12 + 1))).set (x81 : Int).toNat (wrap64 ((rd (rd_L3 x7 (wrap64 (x12 + 1))) x81) + (rd x79 x81))))) x12 x72 x73 x79 x80 (wrap64 (x81 + 1))) else (none)) else (none)) else (none)) else (none)) else (none)) else (plan_stocks.l2 k x7 x72 (wrap64 (x73 + 1)))
end
def plan_stocks.f (k : Nat) (a0_0 : Int) (a0_1 : Bool) (l0_2 : List (S54)) (a1 : Int) (l2 : List (S85)) : Option ((List (List Int))) := if 0 ≤ (wrap64 (a1 + 1)) then (if (wrap64 (a1 + 1) : Int).toNat ≤ 11728124029610 then ((some (List.replicate (wrap64 (a1 + 1) : Int).toNat [] : List (List Int))).bind fun y169 => (plan_stocks.l0 k a1 l2 y169 (y169.length : Int) 0 a0_0 a0_1 l0_2)) else (none)) else (none)
def plan_Stocks.f (k : Nat) (a0_0 : Int) (a0_1 : Bool) (l0_2 : List (S54)) (a1 : Int) (a2 : Int) (a3 : Int) (l4 : List (S85)) : Option ((List (List Int)) × Int) := (plan_merged.f k a0_0 a0_1 l0_2 a1 a2 a3 l4).bind fun bt199 => (if bt199.2 = 0 then ((plan_stocks.f k a0_0 a0_1 l0_2 a3 bt199.1).bind fun t203 => (some (t203, 0))) else (some (([] : List (List Int)), bt199.2)))
mutual
def plan_ordinary.l0 : Nat → List (List Int) → Int → Int → Bool → List (List Int) → Int → Int → Option (Bool)
 | 0, _, _, _, _, _, _, _ => none
 | k + 1, x0, x1, x2, x3, x13, x14, x15 => if x15 < x14 then (if 0 ≤ x15 then (if x15 < (x13.length : Int) then (plan_ordinary.l1 k x0 x1 x2 x3 x15 x13 x14 x15 (rd_L3 x13 x15) ((rd_L3 x13 x15).length : Int) 0) else (none)) else (none)) else (some true)
def plan_ordinary.l1 : Nat → List (List Int) → Int → Int → Bool → Int → List (List Int) → Int → Int → List Int → Int → Int → Option (Bool)
 | 0, _, _, _, _, _, _, _, _, _, _, _ => none
 | k + 1, x0, x1, x2, x3, x9, x13, x14, x15, x20, x21, x22 => if x22 < x21 then (if 0 ≤ x22 then (if x22 < (x20.length : Int) then (if x22 = x1 then (plan_ordinary.l1 k x0 x1 x2 x3 x9 x13 x14 x15 x20 x21 (wrap64 (x22 + 1))) else (if x22 = x2 then (plan_ordinary.l1 k x0 x1 x2 x3 x9 x13 x14 x15 x20 x21 (wrap64 (x22 + 1))) else (if (rd x20 x22) < 0 then (some false) else (if (rd x20 x22) > 0 then (if x3 = true then (if x9 = (wrap64 ((x0.length : Int) - 1)) then (some false) else (plan_ordinary.l1 k x0 x1 x2 x3 x9 x13 x14 x15 x20 x21 (wrap64 (x22 + 1)))) else (some false)) else (plan_ordinary.l1 k x0 x1 x2 x3 x9 x13 x14 x15 x20 x21 (wrap64 (x22 + 1))))))) else (none)) else (none)) else (plan_ordinary.l0 k x0 x1 x2 x3 x13 x14 (wrap64 (x15 + 1)))
end
def plan_ordinary.f (k : Nat) (l0 : List (List Int)) (a1 : Int) (a2 : Int) (a3 : Bool) : Option (Bool) := plan_ordinary.l0 k l0 a1 a2 a3 l0 (l0.length : Int) 0
def plan_checked.f (k : Nat) (a0_0 : Int) (a0_1 : Bool) (l0_2 : List (S54)) (a1 : Int) (a2 : Int) (a3 : Int) (l4 : List (S85)) : Option ((List (List Int)) × Int) := (plan_Stocks.f k a0_0 a0_1 l0_2 a1 a2 a3 l4).bind fun bt209 => (if bt209.2 = 0 then ((plan_ordinary.f k bt209.1 a1 a2 a0_1).bind fun t213 => (if t213 = true then (some (bt209.1, 0)) else (some (([] : List (List Int)), 141)))) else (some (([] : List (List Int)), bt209.2)))
theorem eqA85 (d : Nat) (w : World) (x0 y0 : Int) (x1 y1 : Int) (x2 y2 : Int) :
  (Op.equalIn (d + 2) 85 (.agg #[.int .i64 x0, .int .i64 x1, .int .i64 x2]) (.agg #[.int .i64 y0, .int .i64 y1, .int .i64 y2])).run Try.prog w = .ok (x0 == y0 && (x1 == y1 && (x2 == y2))) w := by
 refine eqA_of Try.underlying85 (by kernel_rfl) ?_; refine eqf_cons (by rfl) (by go_simp; rfl) (by go_simp; rfl) (by go_simp) ?_; refine eqf_cons (by rfl) (by go_simp; rfl) (by go_simp; rfl) (by go_simp) ?_; exact eqf_last (by rfl) (by go_simp; rfl) (by go_simp; rfl) (by go_simp)
end Go.Proofs.Ytfhkkbpkajfdlaa.Q
end
section
namespace Go.Proofs.Ytfhkkbpkajfdlaa.P
open Go.RowKit Go.Proofs.Ytfhkkbpkajfdlaa.Q Go.Proofs.YtfhkkbpkajfdlaaW.PrintWords Go.Proofs.YtfhkkbpkajfdlaaW.PrintLast Go.Proofs.YtfhkkbpkajfdlaaW.PrintMore
def movesR (n : Int) (b : Bool) (l : List S54) (s t h : Int) (lf : List Int) : List S85 × Int :=
 if expErr n l s t h = 0 then (if lf.length = (gridArcs n h b s t l).length then (if withinB lf (gridArcs n h b s t l) = true then (toldL lf (gridMoves n h b s t l), 0) else ([], 71)) else ([], 71)) else ([], expErr n l s t h)
theorem moves15_ev (n : Int) (b : Bool) (l : List S54) (s t h : Int) (lf : List Int) : Ev (fun k => expand_Moves.f k n b l s t h lf) (movesR n b l s t h lf) := by
 unfold expand_Moves.f movesR
 refine Ev.bind (easked_ev n b l s t h) ?_
 by_cases c : expErr n l s t h = 0
 ·obtain ⟨h1, h2, h3, h4⟩ := expErr_ok c
  simp only [c, if_true]
  refine ev_cst fun _ => ?_
  rw [if_pos ⟨okNet_of h1 h4, h2.1, h2.2, h3.1, h3.2⟩]
  split
  ·split <;> rfl
  ·rfl
 ·simp only [c, if_false]; exact Ev.now _
section
variable {V H s t : Int} {hold : Bool} {l0 : List S54}
theorem kinds_eq : gridKinds V H hold s t l0 = kindsB V H hold s t l0 (H.toNat + 1) ++ kEnds s (H.toNat + 1) ++ kEnds t (H.toNat + 1) := by unfold gridKinds; rw [rAts_kinds]
theorem kEnds_mem {v : Int} {n : Nat} {k : S83} (h : k ∈ kEnds v n) : k.f0 = false ∧ k.f1 = false ∧ k.f3 = v := by
 unfold kEnds at h
 obtain ⟨a, _, rfl⟩ := List.mem_map.1 h
 exact ⟨rfl, rfl, rfl⟩
theorem movesK_ends {K E : List S83} (h : ∀ k ∈ E, k.f0 = false) : movesK (K ++ E) = movesK K := by
 unfold movesK
 have e0 : (E.zipIdx (0 + K.length)).filterMap mvK = [] := by
  rw [List.filterMap_eq_nil_iff]
  rintro ⟨k, i⟩ hk
  have := h k (by
   have := List.mem_zipIdx hk
   obtain ⟨_, _, e⟩ := this
   rw [e]; exact List.getElem_mem _)
  unfold mvK
  rw [if_neg (by simp only [this]; exact Bool.false_ne_true)]
 rw [List.zipIdx_append, List.filterMap_append, e0, List.append_nil]
theorem gridMoves_eq : gridMoves V H hold s t l0 = movesK (gridKinds V H hold s t l0) := by
 unfold gridMoves
 rw [log1, kinds_eq, movesK_ends (fun k hk => (kEnds_mem hk).1), movesK_ends (fun k hk => (kEnds_mem hk).1)]
theorem gridKinds_length : (gridKinds V H hold s t l0).length = (gridArcs V H hold s t l0).length := by
 rw [kinds_eq]
 unfold gridArcs
 rw [arcs1, List.length_append, List.length_append, List.length_append, List.length_append, List.length_map, kEnds_length, kEnds_length, firstsA_length, lastsA_length]
theorem movesK_take {K : List S83} {i : Nat} (hi : i < K.length) : movesK (K.take (i + 1)) = movesK (K.take i) ++ (mvK (K[i], i)).toList := by
 rw [List.take_succ_eq_append_getElem hi, movesK_snoc, List.length_take, Nat.min_eq_left (by omega)]
theorem toldL_append (lf : List Int) (A B : List ((Int × Int) × Int)) : toldL lf (A ++ B) = toldL lf A ++ toldL lf B := by unfold toldL; exact List.filterMap_append
end
end Go.Proofs.Ytfhkkbpkajfdlaa.P
end
