/- A part of the proof: words, contracts, plain lemmas. Conditions: none. -/
import Derived.Test.YtlcbpaenjjeenaaZTableSums12
import Derived.Test.YtlcbpaenjjeenaaZTableSums13
import Derived.OpenShut
import Derived.Test.YtlcbpaenjjeenaaRows
import Derived.WalkKit
import Derived.ProofKit
import Derived.ShutString
import Derived.ChangeOld
import Derived.Below
import Derived.SizedLaws
section
namespace Go.Proofs.Ytlcbpaenjjeenaa.R
open Go.RowKit Go.Proofs.Ytlcbpaenjjeenaa.Q Go.Proofs.YtlcbpaenjjeenaaW.PrintWords Go.Proofs.YtlcbpaenjjeenaaW.PrintLast Go.Proofs.YtlcbpaenjjeenaaW.PrintMore
def TableSums.Pure : Prop := ∀ N0 : Nat, ∀ N1 : Nat, ∀ (x0 : List S42) (x1 : S24), gList (g42) N0 x0 → g24 N1 x1 → ∃ k, ebbtidelaw03_TableSums.f k x0 x1.f0 x1.f1 x1.f2 = some true
end Go.Proofs.Ytlcbpaenjjeenaa.R
end
section
namespace Go.Proofs.Ytlcbpaenjjeenaa.Pure
open Go.RowKit Go.Proofs.Ytlcbpaenjjeenaa.Q Go.Proofs.Ytlcbpaenjjeenaa.P Go.Proofs.YtlcbpaenjjeenaaW.PrintWords Go.Proofs.YtlcbpaenjjeenaaW.PrintLast Go.Proofs.YtlcbpaenjjeenaaW.PrintMore
open Go.Proofs.Ytlcbpaenjjeenaa.R
def capsA (l : List S42) (q : Int × Int × Int) : List Int := (l.filter (fun x => decide (keyA x = q))).map S42.f2
theorem capsA_length (l : List S42) (q : Int × Int × Int) : (capsA l q).length ≤ l.length := by
  unfold capsA; rw [List.length_map]; exact List.length_filter_le _ _
theorem TableSums : TableSums.Pure := by
  intro N0 N1 l x1 g g1
  apply Ev.rounds
  unfold ebbtidelaw03_TableSums.f ebbtidelaw03_awake.f
  simp only [Option.bind_some, if_true]
  by_cases c : (l.length : Int) > 200
  · simp only [c, if_true]; exact Ev.now _
  · have hl : l.length ≤ 1048576 := by omega
    have hw : ∀ x ∈ l, OkA x := fun x hx => ⟨Go.bounds_i64 (g.2.2 x hx).1, Go.bounds_i64 (g.2.2 x hx).2.1, Go.bounds_i64 (g.2.2 x hx).2.2.1, Go.bounds_i64 (g.2.2 x hx).2.2.2⟩
    simp only [c, if_false]
    refine Ev.bind (merge_ev l hl hw) ?_
    unfold mergeAR
    by_cases cf : AllFitA l
    · simp only [cf, if_true]
      have hq : ∃ q : Int × Int × Int, q = (x1.f0, x1.f1, x1.f2) := ⟨_, rfl⟩
      obtain ⟨q, hq⟩ := hq
      have q0 : x1.f0 = q.1 := by rw [hq]
      have q1 : x1.f1 = q.2.1 := by rw [hq]
      have q2 : x1.f2 = q.2.2 := by rw [hq]
      rw [q0, q1, q2]
      have hmlen : (mergeA l).length ≤ 1048576 := by rw [mergeA_length]; exact Nat.le_trans (keysOf_length_le _ _) hl
      have hm := mergeA_is l
      have hloop : ∀ d i, i + d = l.length → Ev (fun k => ebbtidelaw03_TableSums.l0 k l true (mergeA l) (capsA (l.take i) q) (i : Int) q.1 q.2.1 q.2.2) true := by
        intro d
        induction d with
        | zero =>
          intro i hi
          rw [List.take_of_length_le (by omega)]
          have hcl := capsA_length l q
          have hsum : (capsA l q).sum = asum l q := rfl
          have hsev : Ev (fun k => ebbtideref01_Sum.f k (capsA l q)) (sumFit (asum l q)) := by
            rw [← hsum]
            refine ⟨l.length + 1, fun k hk => rsum_eq (by omega) (fun x hx => ?_) (by omega)⟩
            unfold capsA at hx
            obtain ⟨y, hy, rfl⟩ := List.mem_map.1 hx
            exact (hw y (List.mem_filter.1 hy).1).2.2.1
          refine Ev.step (fun k => by rw [ebbtidelaw03_TableSums.l0, if_neg (by omega)]) ?_
          refine Ev.bind hsev ?_
          rw [find_eq _ (by omega)]
          simp only [Option.bind_some, if_true]
          have hs := findL_spec (mergeA l) q (mergeA l).length 0 (by omega)
          rw [List.drop_zero] at hs
          rcases hs with ⟨h1, h2⟩ | ⟨m, hm1, _, h2, h3, _⟩
          · have h2' : findL q.1 q.2.1 q.2.2 (mergeA l) 0 = -1 := h2
            rw [h2']
            have hnil : capsA l q = [] := by
              unfold capsA
              rw [List.filter_eq_nil_iff.2 (fun y hy => by
                simp only [decide_eq_true_eq]
                intro e
                exact h1 ⟨q.1, q.2.1, asum l q, q.2.2⟩ ((hm.mem _).2 ⟨(mem_keysOf _ _ _).2 ⟨y, hy, e⟩, rfl⟩) rfl)]
              rfl
            simp only [hnil, show (-1 : Int) < 0 by omega, if_true]
            exact Ev.now _
          · have h3' : findL q.1 q.2.1 q.2.2 (mergeA l) 0 = (m : Int) := h3
            have hmm := (hm.mem _).1 (List.getElem_mem hm1)
            rw [h2] at hmm
            have hfit : fits (asum l q) := cf q hmm.1
            have hpos : 0 < (capsA l q).length := by
              obtain ⟨y, hy, hk⟩ := (mem_keysOf _ _ _).1 hmm.1
              unfold capsA
              rw [List.length_map]
              exact List.length_pos_iff.2 (List.ne_nil_of_mem (List.mem_filter.2 ⟨hy, by simpa using hk⟩))
            have hr := rdA_of hm1
            have a1 : ¬ ((m : Int) < 0) := by omega
            have a2 : ¬ ((m : Int) ≥ ((mergeA l).length : Int)) := by omega
            have a3 : ((capsA l q).length : Int) > 0 := by omega
            have a4 : (0 : Int) ≤ (m : Int) := by omega
            have a5 : (m : Int) < ((mergeA l).length : Int) := by omega
            rw [h3', sumFit_pos hfit]
            simp only [a1, a2, a3, a4, a5, if_true, if_false, hr, hmm.2, beq_self_eq_true]
            exact Ev.now _
        | succ d ih =>
          intro i hi
          have hlt : i < l.length := by omega
          have hcl := capsA_length (l.take i) q
          rw [List.length_take] at hcl
          have hs : capsA (l.take (i + 1)) q = if keyA l[i] = q then capsA (l.take i) q ++ [l[i].f2] else capsA (l.take i) q := by
            unfold capsA
            rw [List.take_succ_eq_append_getElem hlt, List.filter_append, List.map_append, List.filter_cons]
            by_cases e : keyA l[i] = q
            · simp [e]
            · simp [e]
          have hi2 := ih (i + 1) (by omega)
          rw [hs] at hi2
          refine Ev.step (fun k => ?_) hi2
          rw [ebbtidelaw03_TableSums.l0, if_pos (by omega), if_pos (by omega), rdA_of hlt, wrap1 (by omega)]
          simp only [ebbtideref03_Of.f, Option.bind_some]
          by_cases e : keyA l[i] = q
          · have e2 : (l[i].f0 == q.1 && (l[i].f1 == q.2.1 && (l[i].f3 == q.2.2))) = true := (isKey_iff l[i] q).2 e
            rw [if_pos e, if_pos e2, if_pos (by omega)]
          · have e2 : ¬ (l[i].f0 == q.1 && (l[i].f1 == q.2.1 && (l[i].f3 == q.2.2))) = true := fun h => e ((isKey_iff l[i] q).1 h)
            rw [if_neg e, if_neg e2]
      exact hloop l.length 0 (by omega)
    · simp only [cf, if_false, show ¬ (10 : Int) = 0 by decide]
      exact Ev.now _
end Go.Proofs.Ytlcbpaenjjeenaa.Pure
end
section
namespace Go.Proofs.Ytlcbpaenjjeenaa
open Go Go.RowKit
def ioHead : List Char := List.map Char.ofNat [104, 97, 114, 110, 101, 115, 115, 32, 53, 52, 50, 101, 57, 98, 48, 48, 99, 102, 51, 53, 100, 102, 100, 102, 55, 101, 50, 51, 97, 101, 52, 102, 97, 49, 54, 100, 102, 57, 52, 52, 53, 56, 57, 56, 97, 101, 52, 55, 97, 102, 51, 52, 102, 99, 52, 48, 55, 56, 53, 49, 101, 52, 49, 50, 102, 57, 51, 55, 102, 98, 53, 102, 32, 99, 117, 116, 32]
def ioRest : List Char := List.map Char.ofNat [97, 116, 32, 101, 98, 98, 116, 105, 100, 101, 47, 101, 98, 98, 116, 105, 100, 101, 108, 97, 119, 48, 51, 46, 84, 97, 98, 108, 101, 70, 105, 110, 100, 115, 32, 101, 98, 98, 116, 105, 100, 101, 47, 101, 98, 98, 116, 105, 100, 101, 108, 97, 119, 48, 51, 46, 84, 97, 98, 108, 101, 71, 114, 111, 117, 112, 115, 32, 101, 98, 98, 116, 105, 100, 101, 47, 101, 98, 98, 116, 105, 100, 101, 108, 97, 119, 48, 51, 46, 84, 97, 98, 108, 101, 77, 101, 114, 103, 101, 115, 32, 101, 98, 98, 116, 105, 100, 101, 47, 101, 98, 98, 116, 105, 100, 101, 108, 97, 119, 48, 51, 46, 84, 97, 98, 108, 101, 66, 117, 115, 121, 32, 101, 98, 98, 116, 105, 100, 101, 47, 101, 98, 98, 116, 105, 100, 101, 108, 97, 119, 48, 51, 46, 84, 97, 98, 108, 101, 87, 104, 111, 108, 101, 32, 101, 98, 98, 116, 105, 100, 101, 47, 101, 98, 98, 116, 105, 100, 101, 108, 97, 119, 48, 51, 46, 84, 97, 98, 108, 101, 83, 117, 109, 115, 32, 101, 98, 98, 116, 105, 100, 101, 47, 101, 98, 98, 116, 105, 100, 101, 108, 97, 119, 48, 51, 46, 84, 97, 98, 108, 101, 83, 108, 111, 116, 115, 32, 101, 98, 98, 116, 105, 100, 101, 47, 101, 98, 98, 116, 105, 100, 101, 108, 97, 119, 48, 51, 46, 84, 97, 98, 108, 101, 84, 117, 114, 110, 115, 32, 101, 98, 98, 116, 105, 100, 101, 47, 101, 98, 98, 116, 105, 100, 101, 108, 97, 119, 48, 51, 46, 84, 97, 98, 108, 101, 77, 111, 118, 101, 115, 32, 101, 98, 98, 116, 105, 100, 101, 47, 101, 98, 98, 116, 105, 100, 101, 108, 97, 119, 48, 51, 46, 84, 97, 98, 108, 101, 79, 114, 100, 101, 114]
set_option maxRecDepth 100000 in
theorem io_eq : Try.pinned.checked.prog.initOrder = String.ofList (ioHead ++ ioRest) := by kernel_rfl
theorem io_toList : Try.pinned.checked.prog.initOrder.toList = ioHead ++ ioRest := by rw [io_eq]; exact String.toList_ofList
def ioCut : List Char := List.map Char.ofNat [99, 117, 116]
set_option maxRecDepth 100000 in
theorem io_words (r : List Char) : behindMainWord (wordsSigns (ioHead ++ r)) = ioCut :: wordsSigns r := by kernel_rfl
theorem io_behind : ∃ X, behindMainWord (wordsSigns Try.pinned.checked.prog.initOrder.toList) = ioCut :: X := ⟨_, by rw [io_toList]; exact io_words _⟩
theorem io_cut : ioCut = "cut".toList := by decide +kernel
theorem io_strip (X : List (List Char)) : stripLifts liftWords (ioCut :: X) = ([], ioCut :: X) := by kernel_rfl
theorem headLifts_cut (P : Program) (h : ∃ X, behindMainWord (wordsSigns P.initOrder.toList) = ioCut :: X) : P.headLifts = [] := by
  obtain ⟨X, e⟩ := h
  unfold Program.headLifts
  rw [e, io_strip]
  rfl
theorem mayEnter_cut (P : Program) (h : ∃ X, behindMainWord (wordsSigns P.initOrder.toList) = ioCut :: X) (h1 : P.laysLater = false) (h2 : P.bearsReflect = false) (h3 : P.doorFits [] = true) : P.mayEnter = true := by
  obtain ⟨X, e⟩ := h
  unfold Program.mayEnter
  rw [e]
  simp only [io_strip, h1, h2, h3]
  rw [io_cut]
  simp
theorem liftsFinal_cut (P : Program) (h : ∃ X, behindMainWord (wordsSigns P.initOrder.toList) = ioCut :: X) : P.liftsFinal = false := by
  have h0 := headLifts_cut P h
  obtain ⟨X, e⟩ := h
  unfold Program.liftsFinal
  rw [e, h0]
  rw [io_cut]
  simp
theorem make_cut (P : Program) (h : ∃ X, behindMainWord (wordsSigns P.initOrder.toList) = ioCut :: X) : P.make = some .cut := by
  obtain ⟨X, e⟩ := h
  unfold Program.make
  rw [e]
  simp only [io_cut]
  rw [if_neg (by decide +kernel), if_pos (by simp)]
theorem p_mayEnter : Try.pinned.checked.prog.mayEnter = true := mayEnter_cut _ io_behind (by kernel_rfl) (by kernel_rfl) (by kernel_rfl)
theorem p_liftsFinal : Try.pinned.checked.prog.liftsFinal = false := liftsFinal_cut _ io_behind
theorem p_make : Try.pinned.checked.prog.make = some .cut := make_cut _ io_behind
theorem p_laidOut : laidOutB Try.pinned.checked.prog = true := by kernel_rfl
theorem p_mapsRowed : mapsRowed Try.pinned.checked.prog = true := by kernel_rfl
theorem p_stopsHeard : Try.pinned.checked.prog.stopsHeard = true := by kernel_rfl
theorem p_stops : Try.pinned.checked.prog.stops = [] := by kernel_rfl
theorem p_stopKnobs : Try.pinned.checked.prog.stopKnobs = [] := by kernel_rfl
end Go.Proofs.Ytlcbpaenjjeenaa
end
section
namespace Go.Proofs.Ytlcbpaenjjeenaa.tableSums
open Go.ChangeShapes Go.WideShapes Go.ChangeAt Go.RowKit
open Go.ChangeMaps (open_string shut_string)
open Go.Proofs.Ytlcbpaenjjeenaa.Q Go.Proofs.Ytlcbpaenjjeenaa.R Go.Proofs.YtlcbpaenjjeenaaW.PrintWords
set_option linter.unusedVariables false
theorem own : ownKnob Try.prog.godebug = none := by kernel_rfl
theorem laidOut : laidOutB Try.prog = true := by kernel_rfl
theorem open24 {w : World} {x : S24} {cs : List Value} (h : k24.K w x cs) : cs = [.int .i64 x.f0, .int .i64 x.f1, .int .i64 x.f2] := by
  obtain ⟨_, _, rfl, rfl, ⟨_, _, rfl, rfl, rfl⟩⟩ := h
  rfl
set_option maxRecDepth 100000 in
theorem lifted (os : Os) (started : os.Started) (H : Type) (enc : TypeId × Value → H) :
    ReturnsInHanded {} Try.checked os 8 .any (Rows.tableSumsSpec.pre6 enc Try.prog Try.f8 Rows.tableSumsRow.domain false) (Rows.tableSumsSpec.post enc Try.prog Try.f8 false true false false) := by
  refine returnsInHanded_of_change_sized (C := Try.checked) own started (by kernel_rfl) Try.func8
    (ChangeSpec.witness6 (enc := enc) (C := Try.checked) false ⟨#[], #[.slice none 0 0, .agg #[.int .i64 0, .int .i64 0, .int .i64 0]], []⟩ 8 (by kernel_rfl) (by kernel_rfl) (by kernel_rfl) (by kernel_rfl)) ?_
  intro W base args ds gs before hval0 hW hcnd hsz0 _
  have hval : ∀ (j : Nat) t v, Try.f8.params[j]? = some t → args[j]? = some v → Value.okWide Try.prog W .any base t v := hval0
  have hW' := hW
  obtain ⟨p, q, hA0, hV, rfl, hfz, hnd⟩ := hW
  have hA : DataW.TrodAll enc Try.prog W 0 (fun _ => true) true Try.f8.params.toList args.toList ds p := hA0
  rw [Try.params8] at hA hval
  obtain ⟨v0, vs0, d0, ds0, p0, q0, hargs, rfl, rfl, h0, r0⟩ := trodAll_cons hA
  obtain ⟨v1, vs1, d1, ds1, p1, q1, rfl, rfl, rfl, h1, r1⟩ := trodAll_cons r0
  obtain ⟨rfl, rfl, rfl⟩ := trodAll_nil r1
  obtain rfl : args = #[v0, v1] := by cases args; simp_all
  obtain ⟨rfl, rfl⟩ := trodVars_none hV
  have k0 := h0
  have lt0 : ∀ x ∈ p0, x.block < W.heap.size := by obtain ⟨m, hm⟩ := k0; exact DataW.trod_lt m _ _ _ hm
  obtain ⟨fu0, hf0⟩ := h0
  obtain ⟨x0, K0, G0⟩ := (readsSlice Try.underlying22 (by kernel_rfl) reads42) enc W 0 (fun _ => true) true fu0 _ _ hf0
  obtain ⟨a0, len0, cap0, rfl⟩ := okWide_slice Try.underlying22 (hval 0 22 v0 rfl rfl)
  obtain ⟨A0, c0, ek0, hc0, hr0⟩ := K0
  simp only [Value.cells, List.cons.injEq, and_true] at ek0
  injection ek0 with ea0 el0 ec0
  subst ea0 el0 ec0
  have k1 := h1
  have lt1 : ∀ x ∈ p1, x.block < W.heap.size := by obtain ⟨m, hm⟩ := k1; exact DataW.trod_lt m _ _ _ hm
  obtain ⟨fu1, hf1⟩ := h1
  obtain ⟨x1, K1, G1⟩ := reads24 enc W 0 (fun _ => true) true fu1 _ _ hf1
  obtain ⟨cs1, rfl, hsz1⟩ := okWide_struct Try.underlying24 (hval 1 24 v1 rfl rfl)
  have K1' : (k24).K W x1 cs1.toList := K1
  have es1 := open24 K1'
  obtain rfl := Array.toList_inj.1 (show cs1.toList = (List.toArray _).toList from es1)
  have h := Pure.TableSums _ _ x0 x1 (G0 _ (Nat.le_refl _)) (G1 _ (Nat.le_refl _))
  obtain ⟨k, h⟩ := h
  refine (ebbtidelaw03_TableSums.calls k _ _ x0 x1.f0 x1.f1 x1.f2 true W hr0 hc0 h).mono fun e W' ⟨he, bel0⟩ => ?_
  have bel : Below W.heap.size W W' := bel0
  subst he
  exact ⟨_, rfl, _, _, _, [], _, [], hW', trodAll_mk1 (shut_bool Try.underlying4 _), (trodAll_cons_mk (Below.trod laidOut (by kernel_rfl) (of_decide_eq_true (by kernel_rfl)) k0 bel lt0) (trodAll_cons_mk (Below.trod laidOut (by kernel_rfl) (of_decide_eq_true (by kernel_rfl)) k1 bel lt1) trodAll_mk0)), rfl, bel.frame _, fun h => by cases h⟩
theorem andI {a b : Bool} (x : a = true) (y : b = true) : (a && b) = true := by rw [x, y]; rfl
set_option maxRecDepth 100000 in
set_option maxHeartbeats 8000000 in
theorem closed : joinedFacts Try.pinned.checked.prog 8 Try.f8 Rows.tableSumsSpec Rows.tableSumsRow = true := by
  unfold joinedFacts
  exact (andI (andI (andI (andI (andI (andI (andI (andI (andI (andI (andI (andI (andI (andI (andI (andI (andI (andI (andI (andI (andI (andI (andI (andI (andI (andI (andI (andI (andI (andI (andI (by as_aux_lemma => kernel_rfl)
    p_laidOut)
    p_mapsRowed)
    (by as_aux_lemma => kernel_rfl))
    (by as_aux_lemma => kernel_rfl))
    (by as_aux_lemma => kernel_rfl))
    (by rw [p_stops]; rfl))
    (by as_aux_lemma => kernel_rfl))
    (by rw [p_stopKnobs]; rfl))
    (by as_aux_lemma => kernel_rfl))
    (by as_aux_lemma => kernel_rfl))
    (by as_aux_lemma => kernel_rfl))
    (by as_aux_lemma => kernel_rfl))
    (by as_aux_lemma => kernel_rfl))
    (by as_aux_lemma => kernel_rfl))
    (by as_aux_lemma => kernel_rfl))
    (by as_aux_lemma => kernel_rfl))
    (by as_aux_lemma => kernel_rfl))
    (by as_aux_lemma => kernel_rfl))
    (by as_aux_lemma => kernel_rfl))
    (by as_aux_lemma => kernel_rfl))
    (by as_aux_lemma => kernel_rfl))
    (by as_aux_lemma => kernel_rfl))
    (by as_aux_lemma => kernel_rfl))
    p_stopsHeard)
    p_mayEnter)
    (by rw [p_liftsFinal]; rfl))
    (by rw [p_make]; rfl))
    (by as_aux_lemma => kernel_rfl))
    (by as_aux_lemma => kernel_rfl))
    (by as_aux_lemma => kernel_rfl))
    (by as_aux_lemma => kernel_rfl))
theorem proved : Rows.TableSumsSaid :=
  OpenClaim.holds_of_wide 8 Try.f8 rfl rfl rfl rfl rfl rfl rfl ⟨rfl, rfl, rfl, rfl, rfl⟩ rfl rfl rfl rfl rfl (by kernel_rfl) Try.func8 closed
    (of_decide_eq_true (by kernel_rfl)) (by unfold Func.isWrapper; first | (rw [if_pos (by decide +kernel)]; kernel_rfl) | (rw [if_neg (by decide +kernel)]; exact ⟨rfl, rfl⟩))
    (fun os started H enc _ => lifted os started H enc)
#print axioms proved
end Go.Proofs.Ytlcbpaenjjeenaa.tableSums
namespace Go.Proofs.Ytlcbpaenjjeenaa
theorem tableSums_holds : Rows.TableSumsSaid := tableSums.proved
end Go.Proofs.Ytlcbpaenjjeenaa
end
