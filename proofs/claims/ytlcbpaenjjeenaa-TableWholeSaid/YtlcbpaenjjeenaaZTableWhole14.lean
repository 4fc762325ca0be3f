/- A part of the proof: words, contracts, plain lemmas. Conditions: none. -/
import Derived.Test.YtlcbpaenjjeenaaZTableWhole12
import Derived.Test.YtlcbpaenjjeenaaZTableWhole13
import Derived.OpenShut
import Derived.Test.YtlcbpaenjjeenaaRows
import Derived.WalkKit
import Derived.ProofKit
import Derived.ShutString
import Derived.ChangeOld
import Derived.Below
import Derived.SizedLaws
section
namespace Go.Proofs.Ytlcbpaenjjeenaa.R
open Go.RowKit Go.Proofs.Ytlcbpaenjjeenaa.Q Go.Proofs.YtlcbpaenjjeenaaW.PrintWords Go.Proofs.YtlcbpaenjjeenaaW.PrintLast Go.Proofs.YtlcbpaenjjeenaaW.PrintMore
def TableWhole.Pure : Prop := ∀ N0 : Nat, ∀ (x0 : List S42), gList (g42) N0 x0 → ∃ k, ebbtidelaw03_TableWhole.f k x0 = some true
end Go.Proofs.Ytlcbpaenjjeenaa.R
end
section
namespace Go.Proofs.Ytlcbpaenjjeenaa.Pure
open Go.RowKit Go.Proofs.Ytlcbpaenjjeenaa.Q Go.Proofs.Ytlcbpaenjjeenaa.P Go.Proofs.YtlcbpaenjjeenaaW.PrintWords Go.Proofs.YtlcbpaenjjeenaaW.PrintLast Go.Proofs.YtlcbpaenjjeenaaW.PrintMore
open Go.Proofs.Ytlcbpaenjjeenaa.R
theorem headD_get : ∀ (x : List Int) (h : 0 < x.length), x.headD (-1) = x[0]
  | [], h => (by cases h)
  | _ :: _, _ => rfl
theorem whole_l2 (l : List S42) (hl : l.length ≤ 1048576) (hw : ∀ x ∈ l, OkA x) (h : List Int) (hh : h.length = l.length) (h1 : ∀ p (hp : p < h.length), h[p] = 1) :
    ∀ d i, i + d = h.length → Ev (fun k => ebbtidelaw03_TableWhole.l2 k l true (groups keyA l) h (i : Int)) true := by
  intro d
  induction d with
  | zero =>
    intro i hi
    refine Ev.step (fun k => by rw [ebbtidelaw03_TableWhole.l2, if_neg (by omega)]) ?_
    refine Ev.bind (merge_ev l hl hw) ?_
    unfold mergeAR
    by_cases cf : AllFitA l
    · simp only [cf, if_true]
      have hmlen : (mergeA l).length ≤ 1048576 := by rw [mergeA_length]; exact Nat.le_trans (keysOf_length_le _ _) hl
      refine Ev.bind (merge_ev (mergeA l) hmlen (merged_ok l cf hw)) ?_
      unfold mergeAR
      have cf2 : AllFitA (mergeA l) := merged_fit l cf
      simp only [cf2, if_true, merged_again]
      refine Ev.bind (sameArcs_ev _ (by omega)) ?_
      simp only [if_true]
      have e : ((mergeA l).length : Int) = ((groups keyA l).length : Int) := by rw [mergeA_length, groups_length]
      rw [e]
      simp only [beq_self_eq_true]
      exact Ev.now _
    · simp only [cf, if_false, if_true, show ¬ (10 : Int) = 0 by decide]
      exact Ev.now _
  | succ d ih =>
    intro i hi
    have hlt : i < h.length := by omega
    refine Ev.step (fun k => ?_) (ih (i + 1) (by omega))
    rw [ebbtidelaw03_TableWhole.l2, if_pos (by omega), if_pos (by omega), rd_of hlt, if_pos (h1 i hlt), wrap1 (by omega)]
theorem whole_l01 (l : List S42) (hl : l.length ≤ 1048576) (hw : ∀ x ∈ l, OkA x) :
    ∀ d i, i + d = (groups keyA l).length → Ev (fun k => ebbtidelaw03_TableWhole.l0 k l true (groups keyA l) (hadOf l.length ((groups keyA l).take i).flatten) (i : Int)) true := by
  have hgl : (groups keyA l).length ≤ 1048576 := by rw [groups_length]; exact Nat.le_trans (keysOf_length_le _ _) hl
  intro d
  induction d with
  | zero =>
    intro i hi
    have e : (groups keyA l).take i = groups keyA l := List.take_of_length_le (by omega)
    rw [e]
    have h2 := whole_l2 l hl hw (hadOf l.length (groups keyA l).flatten) (hadOf_length _ _) (fun p hp => by
      have hp2 : p < l.length := by rw [hadOf_length] at hp; exact hp
      rw [hadOf_get, groups_once l p hp2]; rfl) (hadOf l.length (groups keyA l).flatten).length 0 (by omega)
    refine Ev.step (fun k => ?_) h2
    rw [ebbtidelaw03_TableWhole.l0, if_neg (by omega)]
    rfl
  | succ d ih =>
    intro i hi
    have hlt : i < (groups keyA l).length := by omega
    have hk : i < (keysOf keyA l).length := by rw [groups_length] at hlt; exact hlt
    obtain ⟨q, hq⟩ : ∃ q, q = (keysOf keyA l)[i] := ⟨_, rfl⟩
    have hg : (groups keyA l)[i] = idxs keyA l q := by
      have h := groups_get keyA l i q (by rw [List.getElem?_eq_getElem hk, hq])
      rw [List.getElem?_eq_getElem hlt] at h
      exact Option.some.inj h
    have hgi : rd_L2 (groups keyA l) (i : Int) = idxs keyA l q := by rw [rdL_of hlt, hg]
    have hIl : (idxs keyA l q).length ≤ l.length := idxs_length_le _ _ _
    have hnext := ih (i + 1) (by omega)
    rw [List.take_succ_eq_append_getElem hlt, List.flatten_append, hg] at hnext
    have hend : (((groups keyA l).take i).flatten ++ (idxs keyA l q)) <+: (groups keyA l).flatten := by
      have e : (groups keyA l) = (groups keyA l).take (i + 1) ++ (groups keyA l).drop (i + 1) := (List.take_append_drop _ _).symm
      have e2 : (groups keyA l).flatten = ((groups keyA l).take (i + 1)).flatten ++ ((groups keyA l).drop (i + 1)).flatten := by rw [← List.flatten_append, ← e]
      rw [e2, List.take_succ_eq_append_getElem hlt, List.flatten_append, hg]
      simp only [List.flatten_cons, List.flatten_nil, List.append_nil]
      exact List.prefix_append _ _
    have hround : ∀ e j, j + e = (idxs keyA l q).length → Ev (fun k => ebbtidelaw03_TableWhole.l1 k l true (groups keyA l) (hadOf l.length (((groups keyA l).take i).flatten ++ (idxs keyA l q).take j)) (i : Int) (j : Int)) true := by
      intro e
      induction e with
      | zero =>
        intro j hj
        have e : (idxs keyA l q).take j = idxs keyA l q := List.take_of_length_le (by omega)
        rw [e]
        simp only [List.flatten_cons, List.flatten_nil, List.append_nil] at hnext
        refine Ev.step (fun k => ?_) hnext
        rw [ebbtidelaw03_TableWhole.l1, if_pos (by omega), if_pos (by omega), hgi, if_neg (by omega), wrap1 (by omega)]
      | succ e ih2 =>
        intro j hj
        have hjl : j < (idxs keyA l q).length := by omega
        have hb := idxs_bd keyA l q _ (List.getElem_mem hjl)
        have hkey := idxs_key keyA l q z42 _ (List.getElem_mem hjl)
        have hj0 : 0 < (idxs keyA l q).length := by omega
        have hb0 := idxs_bd keyA l q _ (List.getElem_mem hj0)
        have hkey0 := idxs_key keyA l q z42 _ (List.getElem_mem hj0)
        obtain ⟨p, hp⟩ : ∃ p : Nat, (idxs keyA l q)[j] = (p : Int) := ⟨((idxs keyA l q)[j]).toNat, by omega⟩
        obtain ⟨p0, hp0⟩ : ∃ p0 : Nat, (idxs keyA l q)[0] = (p0 : Int) := ⟨((idxs keyA l q)[0]).toNat, by omega⟩
        rw [hp] at hb hkey
        rw [hp0] at hb0 hkey0
        have hpl : p < l.length := by omega
        have hpl0 : p0 < l.length := by omega
        rw [Int.toNat_natCast, List.getD_eq_getElem?_getD, List.getElem?_eq_getElem hpl] at hkey
        rw [Int.toNat_natCast, List.getD_eq_getElem?_getD, List.getElem?_eq_getElem hpl0] at hkey0
        have hkey2 : keyA l[p] = q := hkey
        have hkey02 : keyA l[p0] = q := hkey0
        have hr : rd (idxs keyA l q) (j : Int) = (p : Int) := by rw [rd_of hjl, hp]
        have hr0 : rd (idxs keyA l q) 0 = (p0 : Int) := by rw [← hp0]; exact rd_of hj0
        have hfind : findL q.1 q.2.1 q.2.2 l 0 = (p0 : Int) := by
          have h := findL_head q l 0
          have e : (idxFrom keyA q 0 l).headD (-1) = (idxs keyA l q)[0] := by
            exact headD_get _ hj0
          rw [e, hp0] at h
          exact h
        have hs := ih2 (j + 1) (by omega)
        rw [List.take_succ_eq_append_getElem hjl, hp, ← List.append_assoc, ← hadOf_snoc] at hs
        have hcnt : (((groups keyA l).take i).flatten ++ (idxs keyA l q).take j).count (p : Int) ≤ 1 := by
          rw [← groups_once l p hpl]
          refine List.Sublist.count_le _ (List.Sublist.trans ?_ hend.sublist)
          exact (List.Sublist.refl _).append (List.take_sublist _ _)
        obtain ⟨c, hc⟩ : ∃ c, c = (((groups keyA l).take i).flatten ++ (idxs keyA l q).take j).count (p : Int) := ⟨_, rfl⟩
        have hlen := hadOf_length l.length (((groups keyA l).take i).flatten ++ (idxs keyA l q).take j)
        have hrd : rd (hadOf l.length (((groups keyA l).take i).flatten ++ (idxs keyA l q).take j)) (p : Int) = (c : Int) := by
          rw [rd_of (by rw [hlen]; exact hpl), hadOf_get, hc]
        rw [← hc] at hs hcnt
        have hw64 : wrap64 ((c : Int) + 1) = (c : Int) + 1 := by unfold wrap64; omega
        have k0 : l[p].f0 = q.1 := by rw [← hkey2]; rfl
        have k1 : l[p].f1 = q.2.1 := by rw [← hkey2]; rfl
        have k2 : l[p].f3 = q.2.2 := by rw [← hkey2]; rfl
        have k00 : l[p0].f0 = q.1 := by rw [← hkey02]; rfl
        have k01 : l[p0].f1 = q.2.1 := by rw [← hkey02]; rfl
        have k02 : l[p0].f3 = q.2.2 := by rw [← hkey02]; rfl
        refine Ev.step (fun k => ?_) hs
        rw [ebbtidelaw03_TableWhole.l1, if_pos (by omega), if_pos (by omega), hgi, if_pos (by omega), if_pos (by omega), hr, if_neg (by omega), if_neg (by omega), if_pos (by omega), if_pos (by omega), hr0]
        simp only [ebbtideref03_Of.f, Option.bind_some]
        rw [if_pos (by omega), if_pos (by omega), if_pos (by omega), rdA_of hpl, rdA_of hpl0, k0, k1, k2, k00, k01, k02, find_eq _ (by omega), hfind]
        simp only [beq_self_eq_true, Bool.not_true, Bool.or_self, Option.bind_some, if_true, hlen]
        rw [if_neg (by decide), if_pos (by omega), hrd, hw64, wrap1 (by omega), Int.toNat_natCast]
    have h0 := hround (idxs keyA l q).length 0 (by omega)
    rw [List.take_zero, List.append_nil] at h0
    refine Ev.step (fun k => ?_) h0
    rw [ebbtidelaw03_TableWhole.l0, if_pos (by omega)]
    rfl
theorem TableWhole : TableWhole.Pure := by
  intro N0 l g
  apply Ev.rounds
  unfold ebbtidelaw03_TableWhole.f ebbtidelaw03_awake.f
  simp only [Option.bind_some, if_true]
  by_cases c : (l.length : Int) > 200
  · simp only [c, if_true]; exact Ev.now _
  · have hl : l.length ≤ 1048576 := by omega
    have hw : ∀ x ∈ l, OkA x := fun x hx => ⟨Go.bounds_i64 (g.2.2 x hx).1, Go.bounds_i64 (g.2.2 x hx).2.1, Go.bounds_i64 (g.2.2 x hx).2.2.1, Go.bounds_i64 (g.2.2 x hx).2.2.2⟩
    simp only [c, if_false]
    refine Ev.bind (groups_ev l hl hw) ?_
    have a1 : (0 : Int) ≤ (l.length : Int) := by omega
    have a2 : l.length ≤ 35184372088832 := by omega
    simp only [a1, if_true, Int.toNat_natCast, a2]
    have h0 := whole_l01 l hl hw (groups keyA l).length 0 (by omega)
    rw [List.take_zero, List.flatten_nil, hadOf_nil] at h0
    exact h0
end Go.Proofs.Ytlcbpaenjjeenaa.Pure
end
section
namespace Go.Proofs.Ytlcbpaenjjeenaa
open Go Go.RowKit
def ioHead : List Char := List.map Char.ofNat [104, 97, 114, 110, 101, 115, 115, 32, 53, 52, 50, 101, 57, 98, 48, 48, 99, 102, 51, 53, 100, 102, 100, 102, 55, 101, 50, 51, 97, 101, 52, 102, 97, 49, 54, 100, 102, 57, 52, 52, 53, 56, 57, 56, 97, 101, 52, 55, 97, 102, 51, 52, 102, 99, 52, 48, 55, 56, 53, 49, 101, 52, 49, 50, 102, 57, 51, 55, 102, 98, 53, 102, 32, 99, 117, 116, 32]
def ioRest : List Char := List.map Char.ofNat [97, 116, 32, 101, 98, 98, 116, 105, 100, 101, 47, 101, 98, 98, 116, 105, 100, 101, 108, 97, 119, 48, 51, 46, 84, 97, 98, 108, 101, 70, 105, 110, 100, 115, 32, 101, 98, 98, 116, 105, 100, 101, 47, 101, 98, 98, 116, 105, 100, 101, 108, 97, 119, 48, 51, 46, 84, 97, 98, 108, 101, 71, 114, 111, 117, 112, 115, 32, 101, 98, 98, 116, 105, 100, 101, 47, 101, 98, 98, 116, 105, 100, 101, 108, 97, 119, 48, 51, 46, 84, 97, 98, 108, 101, 77, 101, 114, 103, 101, 115, 32, 101, 98, 98, 116, 105, 100, 101, 47, 101, 98, 98, 116, 105, 100, 101, 108, 97, 119, 48, 51, 46, 84, 97, 98, 108, 101, 66, 117, 115, 121, 32, 101, 98, 98, 116, 105, 100, 101, 47, 101, 98, 98, 116, 105, 100, 101, 108, 97, 119, 48, 51, 46, 84, 97, 98, 108, 101, 87, 104, 111, 108, 101, 32, 101, 98, 98, 116, 105, 100, 101, 47, 101, 98, 98, 116, 105, 100, 101, 108, 97, 119, 48, 51, 46, 84, 97, 98, 108, 101, 83, 117, 109, 115, 32, 101, 98, 98, 116, 105, 100, 101, 47, 101, 98, 98, 116, 105, 100, 101, 108, 97, 119, 48, 51, 46, 84, 97, 98, 108, 101, 83, 108, 111, 116, 115, 32, 101, 98, 98, 116, 105, 100, 101, 47, 101, 98, 98, 116, 105, 100, 101, 108, 97, 119, 48, 51, 46, 84, 97, 98, 108, 101, 84, 117, 114, 110, 115, 32, 101, 98, 98, 116, 105, 100, 101, 47, 101, 98, 98, 116, 105, 100, 101, 108, 97, 119, 48, 51, 46, 84, 97, 98, 108, 101, 77, 111, 118, 101, 115, 32, 101, 98, 98, 116, 105, 100, 101, 47, 101, 98, 98, 116, 105, 100, 101, 108, 97, 119, 48, 51, 46, 84, 97, 98, 108, 101, 79, 114, 100, 101, 114]
set_option maxRecDepth 100000 in
theorem io_eq : Try.pinned.checked.prog.initOrder = String.ofList (ioHead ++ ioRest) := by kernel_rfl
theorem io_toList : Try.pinned.checked.prog.initOrder.toList = ioHead ++ ioRest := by rw [io_eq]; exact String.toList_ofList
def ioCut : List Char := List.map Char.ofNat [99, 117, 116]
set_option maxRecDepth 100000 in
theorem io_words (r : List Char) : behindMainWord (wordsSigns (ioHead ++ r)) = ioCut :: wordsSigns r := by kernel_rfl
theorem io_behind : ∃ X, behindMainWord (wordsSigns Try.pinned.checked.prog.initOrder.toList) = ioCut :: X := ⟨_, by rw [io_toList]; exact io_words _⟩
theorem io_cut : ioCut = "cut".toList := by decide +kernel
theorem io_strip (X : List (List Char)) : stripLifts liftWords (ioCut :: X) = ([], ioCut :: X) := by kernel_rfl
theorem headLifts_cut (P : Program) (h : ∃ X, behindMainWord (wordsSigns P.initOrder.toList) = ioCut :: X) : P.headLifts = [] := by
  obtain ⟨X, e⟩ := h
  unfold Program.headLifts
  rw [e, io_strip]
  rfl
theorem mayEnter_cut (P : Program) (h : ∃ X, behindMainWord (wordsSigns P.initOrder.toList) = ioCut :: X) (h1 : P.laysLater = false) (h2 : P.bearsReflect = false) (h3 : P.doorFits [] = true) : P.mayEnter = true := by
  obtain ⟨X, e⟩ := h
  unfold Program.mayEnter
  rw [e]
  simp only [io_strip, h1, h2, h3]
  rw [io_cut]
  simp
theorem liftsFinal_cut (P : Program) (h : ∃ X, behindMainWord (wordsSigns P.initOrder.toList) = ioCut :: X) : P.liftsFinal = false := by
  have h0 := headLifts_cut P h
  obtain ⟨X, e⟩ := h
  unfold Program.liftsFinal
  rw [e, h0]
  rw [io_cut]
  simp
theorem make_cut (P : Program) (h : ∃ X, behindMainWord (wordsSigns P.initOrder.toList) = ioCut :: X) : P.make = some .cut := by
  obtain ⟨X, e⟩ := h
  unfold Program.make
  rw [e]
  simp only [io_cut]
  rw [if_neg (by decide +kernel), if_pos (by simp)]
theorem p_mayEnter : Try.pinned.checked.prog.mayEnter = true := mayEnter_cut _ io_behind (by kernel_rfl) (by kernel_rfl) (by kernel_rfl)
theorem p_liftsFinal : Try.pinned.checked.prog.liftsFinal = false := liftsFinal_cut _ io_behind
theorem p_make : Try.pinned.checked.prog.make = some .cut := make_cut _ io_behind
theorem p_laidOut : laidOutB Try.pinned.checked.prog = true := by kernel_rfl
theorem p_mapsRowed : mapsRowed Try.pinned.checked.prog = true := by kernel_rfl
theorem p_stopsHeard : Try.pinned.checked.prog.stopsHeard = true := by kernel_rfl
theorem p_stops : Try.pinned.checked.prog.stops = [] := by kernel_rfl
theorem p_stopKnobs : Try.pinned.checked.prog.stopKnobs = [] := by kernel_rfl
end Go.Proofs.Ytlcbpaenjjeenaa
end
section
namespace Go.Proofs.Ytlcbpaenjjeenaa.tableWhole
open Go.ChangeShapes Go.WideShapes Go.ChangeAt Go.RowKit
open Go.ChangeMaps (open_string shut_string)
open Go.Proofs.Ytlcbpaenjjeenaa.Q Go.Proofs.Ytlcbpaenjjeenaa.R Go.Proofs.YtlcbpaenjjeenaaW.PrintWords
set_option linter.unusedVariables false
theorem own : ownKnob Try.prog.godebug = none := by kernel_rfl
theorem laidOut : laidOutB Try.prog = true := by kernel_rfl
set_option maxRecDepth 100000 in
theorem lifted (os : Os) (started : os.Started) (H : Type) (enc : TypeId × Value → H) :
    ReturnsInHanded {} Try.checked os 7 .any (Rows.tableWholeSpec.pre6 enc Try.prog Try.f7 Rows.tableWholeRow.domain false) (Rows.tableWholeSpec.post enc Try.prog Try.f7 false true false false) := by
  refine returnsInHanded_of_change_sized (C := Try.checked) own started (by kernel_rfl) Try.func7
    (ChangeSpec.witness6 (enc := enc) (C := Try.checked) false ⟨#[], #[.slice none 0 0], []⟩ 8 (by kernel_rfl) (by kernel_rfl) (by kernel_rfl) (by kernel_rfl)) ?_
  intro W base args ds gs before hval0 hW hcnd hsz0 _
  have hval : ∀ (j : Nat) t v, Try.f7.params[j]? = some t → args[j]? = some v → Value.okWide Try.prog W .any base t v := hval0
  have hW' := hW
  obtain ⟨p, q, hA0, hV, rfl, hfz, hnd⟩ := hW
  have hA : DataW.TrodAll enc Try.prog W 0 (fun _ => true) true Try.f7.params.toList args.toList ds p := hA0
  rw [Try.params7] at hA hval
  obtain ⟨v0, vs0, d0, ds0, p0, q0, hargs, rfl, rfl, h0, r0⟩ := trodAll_cons hA
  obtain ⟨rfl, rfl, rfl⟩ := trodAll_nil r0
  obtain rfl : args = #[v0] := by cases args; simp_all
  obtain ⟨rfl, rfl⟩ := trodVars_none hV
  have k0 := h0
  have lt0 : ∀ x ∈ p0, x.block < W.heap.size := by obtain ⟨m, hm⟩ := k0; exact DataW.trod_lt m _ _ _ hm
  obtain ⟨fu0, hf0⟩ := h0
  obtain ⟨x0, K0, G0⟩ := (readsSlice Try.underlying22 (by kernel_rfl) reads42) enc W 0 (fun _ => true) true fu0 _ _ hf0
  obtain ⟨a0, len0, cap0, rfl⟩ := okWide_slice Try.underlying22 (hval 0 22 v0 rfl rfl)
  obtain ⟨A0, c0, ek0, hc0, hr0⟩ := K0
  simp only [Value.cells, List.cons.injEq, and_true] at ek0
  injection ek0 with ea0 el0 ec0
  subst ea0 el0 ec0
  have h := Pure.TableWhole _ x0 (G0 _ (Nat.le_refl _))
  obtain ⟨k, h⟩ := h
  refine (ebbtidelaw03_TableWhole.calls k _ _ x0 true W hr0 hc0 h).mono fun e W' ⟨he, bel0⟩ => ?_
  have bel : Below W.heap.size W W' := bel0
  subst he
  exact ⟨_, rfl, _, _, _, [], _, [], hW', trodAll_mk1 (shut_bool Try.underlying4 _), (trodAll_cons_mk (Below.trod laidOut (by kernel_rfl) (of_decide_eq_true (by kernel_rfl)) k0 bel lt0) trodAll_mk0), rfl, bel.frame _, fun h => by cases h⟩
theorem andI {a b : Bool} (x : a = true) (y : b = true) : (a && b) = true := by rw [x, y]; rfl
set_option maxRecDepth 100000 in
set_option maxHeartbeats 8000000 in
theorem closed : joinedFacts Try.pinned.checked.prog 7 Try.f7 Rows.tableWholeSpec Rows.tableWholeRow = true := by
  unfold joinedFacts
  exact (andI (andI (andI (andI (andI (andI (andI (andI (andI (andI (andI (andI (andI (andI (andI (andI (andI (andI (andI (andI (andI (andI (andI (andI (andI (andI (andI (andI (andI (andI (andI (by as_aux_lemma => kernel_rfl)
    p_laidOut)
    p_mapsRowed)
    (by as_aux_lemma => kernel_rfl))
    (by as_aux_lemma => kernel_rfl))
    (by as_aux_lemma => kernel_rfl))
    (by rw [p_stops]; rfl))
    (by as_aux_lemma => kernel_rfl))
    (by rw [p_stopKnobs]; rfl))
    (by as_aux_lemma => kernel_rfl))
    (by as_aux_lemma => kernel_rfl))
    (by as_aux_lemma => kernel_rfl))
    (by as_aux_lemma => kernel_rfl))
    (by as_aux_lemma => kernel_rfl))
    (by as_aux_lemma => kernel_rfl))
    (by as_aux_lemma => kernel_rfl))
    (by as_aux_lemma => kernel_rfl))
    (by as_aux_lemma => kernel_rfl))
    (by as_aux_lemma => kernel_rfl))
    (by as_aux_lemma => kernel_rfl))
    (by as_aux_lemma => kernel_rfl))
    (by as_aux_lemma => kernel_rfl))
    (by as_aux_lemma => kernel_rfl))
    (by as_aux_lemma => kernel_rfl))
    p_stopsHeard)
    p_mayEnter)
    (by rw [p_liftsFinal]; rfl))
    (by rw [p_make]; rfl))
    (by as_aux_lemma => kernel_rfl))
    (by as_aux_lemma => kernel_rfl))
    (by as_aux_lemma => kernel_rfl))
    (by as_aux_lemma => kernel_rfl))
theorem proved : Rows.TableWholeSaid :=
  OpenClaim.holds_of_wide 7 Try.f7 rfl rfl rfl rfl rfl rfl rfl ⟨rfl, rfl, rfl, rfl, rfl⟩ rfl rfl rfl rfl rfl (by kernel_rfl) Try.func7 closed
    (of_decide_eq_true (by kernel_rfl)) (by unfold Func.isWrapper; first | (rw [if_pos (by decide +kernel)]; kernel_rfl) | (rw [if_neg (by decide +kernel)]; exact ⟨rfl, rfl⟩))
    (fun os started H enc _ => lifted os started H enc)
#print axioms proved
end Go.Proofs.Ytlcbpaenjjeenaa.tableWhole
namespace Go.Proofs.Ytlcbpaenjjeenaa
theorem tableWhole_holds : Rows.TableWholeSaid := tableWhole.proved
end Go.Proofs.Ytlcbpaenjjeenaa
end
