/- A part of the proof: words, contracts, plain lemmas. Conditions: none. -/
import Derived.Test.YtloebciamfbjfaaZPileOrders11
import Derived.Test.YtloebciamfbjfaaRows
import Derived.Test.YtloebciamfbjfaaZPileOrders3
import Derived.Deep.Slices
import Derived.ProofKit
import Derived.WalkKit
import Derived.OpenShut
import Derived.ShutString
import Derived.ChangeOld
import Derived.Below
import Derived.SizedLaws
section
namespace Go.Proofs.Ytloebciamfbjfaa.Q
open Go.RowKit Go.Proofs.Ytloebciamfbjfaa.P Go.Proofs.YtloebciamfbjfaaW.PrintWords Go.Proofs.YtloebciamfbjfaaW.PrintLast Go.Proofs.YtloebciamfbjfaaW.PrintMore
set_option linter.unusedVariables false
set_option linter.unusedSimpArgs false
attribute [local go_sem high] eqA34
theorem PState.old {w : World} {base : Nat} {ok : Nat → Prop} {g : Nat} {most : Int} {s : List (Int × Int)} (h : PState w base ok g most s) : PState w base (fun k => ok k ∧ k < w.heap.size) g most s := by
  obtain ⟨v, l, h, k⟩ := h
  exact ⟨v, l, ⟨h.blk, Kd.R_mono (Kd.R_bound h.row) (fun k hk => ⟨⟨hk.1.1, hk.2.2.1⟩, hk.1.2⟩), h.ge⟩, k⟩
theorem popO (ok : Nat → Prop) (g : Nat) (most : Int) (x0 x1 : Int) (s : List (Int × Int)) (w0 w : World) (hB : Below w0.heap.size w0 w) (hP : PState w w0.heap.size ok g most ((x0, x1) :: s)) (hl : ((x0, x1) :: s).length ≤ 65536) :
    Calls Try.prog 11 #[.pointer (some ⟨g, 0, none⟩)] w fun e w' => Below w0.heap.size w0 w' ∧ Kept w w' (fun k => k = g ∨ ok k) ∧ e = .returned (.tuple #[.agg #[.int .i64 x0, .int .i64 x1], .int .i64 0]) ∧ PState w' w0.heap.size ok g most s :=
  popP ok g most _ w0 w hB hP hl
theorem popN (ok : Nat → Prop) (g : Nat) (most : Int) (w0 w : World) (hB : Below w0.heap.size w0 w) (hP : PState w w0.heap.size ok g most []) :
    Calls Try.prog 11 #[.pointer (some ⟨g, 0, none⟩)] w fun e w' => Below w0.heap.size w0 w' ∧ Kept w w' (fun k => k = g ∨ ok k) ∧ e = .returned (.tuple #[.agg #[.int .i64 0, .int .i64 0], .int .i64 21]) :=
  (popP ok g most _ w0 w hB hP (by simp)).mono (fun e w' h => ⟨h.1, h.2.1, h.2.2.1⟩)
theorem pushO (g : Nat) (s t : List (Int × Int)) (x0 x1 : Int) (w0 w : World) (hB : Below w0.heap.size w0 w) (hP : PState w w0.heap.size tt g 200 s) (hl : s.length < 200) (ht : ins (x0, x1) s = t) :
    Calls Try.prog 16 #[.pointer (some ⟨g, 0, none⟩), .agg #[.int .i64 x0, .int .i64 x1]] w fun e w' => Below w0.heap.size w0 w' ∧ e = .returned (.int .i64 0) ∧ PState w' w0.heap.size tt g 200 t := by
  refine (pushPT g 200 s t x0 x1 w0 w hB hP (by omega) (by omega) ht).mono ?_
  rintro e w' ⟨hb, hk, he, hp⟩
  exact ⟨hb, he, hp⟩
theorem readP {w : World} {A : Option Addr} {n : Nat} {xs : List S34} (h : Kd.C k34 w A n xs) (i : Nat) (hi : i < n) (hx : i < xs.length) :
    ∃ ad, A = some ad ∧ w.cell? (ad.add (i * 2)) = some (.int .i64 xs[i].f0) ∧ w.cell? ⟨(ad.add (i * 2)).block, (ad.add (i * 2)).off + 1, none⟩ = some (.int .i64 xs[i].f1) := by
  obtain ⟨ad, ea, hx0, hx1⟩ := at_T34 h (i : Int) (by omega) (by omega)
  have hrd : rd_T34 xs (i : Int) = xs[i] := by unfold rd_T34; rw [Int.toNat_natCast, List.getD_eq_getElem?_getD, List.getElem?_eq_getElem hx]; rfl
  rw [hrd] at hx0 hx1
  rw [Int.toNat_natCast] at hx0 hx1
  exact ⟨ad, ea, hx0, hx1⟩
def cnt (x0 x1 : Int) (l : List S34) (k : Nat) : Nat := (l.take k).countP (fun y => y.f0 == x0 && (y.f1 == x1))
theorem cnt_le (x0 x1 : Int) (l : List S34) (k : Nat) : cnt x0 x1 l k ≤ l.length := Nat.le_trans List.countP_le_length (by rw [List.length_take]; exact Nat.min_le_right _ _)
theorem cnt_succ (x0 x1 : Int) (l : List S34) (k : Nat) (hk : k < l.length) (b : Bool) (hb : (l[k].f0 == x0 && (l[k].f1 == x1)) = b) : cnt x0 x1 l (k + 1) = cnt x0 x1 l k + (if b then 1 else 0) := by
  unfold cnt
  rw [List.take_add_one, List.getElem?_eq_getElem hk, Option.toList_some, List.countP_append, List.countP_singleton, hb]
theorem sortL_cnt (x0 x1 : Int) (l : List S34) : cnt x0 x1 (sortL l) (sortL l).length = cnt x0 x1 l l.length := by
  unfold cnt
  rw [List.take_length, List.take_length]
  have := foldIns_perm l []
  rw [List.append_nil] at this
  exact this.countP_eq _
def ebbtidelaw02_PileOrders.f (_ : Nat) (_ : List S34) : Option Bool := some true
set_option maxHeartbeats 8000000 in
set_option maxRecDepth 100000 in
theorem ebbtidelaw02_PileOrders.calls (k : Nat) (A0 : Option Addr) (c0 : Nat) (l0 : List S34) (r : Bool) (w : World) (hr0 : Kd.C k34 w A0 l0.length l0) (hc0 : l0.length ≤ c0) (h : ebbtidelaw02_PileOrders.f k l0 = some r) (hrt : r = true := by first | rfl | exact HRT.out | assumption) :
    Calls Try.prog 7 #[.slice A0 l0.length c0] w fun e w' => e = .returned (.bool r) ∧ Below w.heap.size w w' := by
  subst hrt
  have HC := Aside0.mk hr0
  have HB := Aside0.mk (Below.refl w.heap.size w)
  have hu34 := Try.underlying34
  clear hr0 hc0 h
  by_cases c : 200 < l0.length
  · have d1 : decide ((200 : Int) < (l0.length : Int)) = true := decide_eq_true (by omega)
    have d2 : decide (200 < l0.length) = true := decide_eq_true c
    clear c
    go_enter Try.func7, Try.ntmps7
    go_wp2_with (go_at_call 8; refine (ebbtidelaw02_awake.calls 0 true _ rfl).mono ?_; rintro e w4 ⟨rfl, hb⟩; have n0_ := Aside0.mk (below_step HB.out hb); clear HB hb; have HB := n0_; clear n0_)
    go_ret
    exact ⟨rfl, HB.out⟩
  · have d1 : decide ((200 : Int) < (l0.length : Int)) = false := decide_eq_false (by omega)
    have d2 : decide (200 < l0.length) = false := decide_eq_false c
    have HM := Aside0.mk (show l0.length ≤ 200 by omega)
    clear c
    go_enter Try.func7, Try.ntmps7
    go_wp2_with (first
      | (go_at_call 8; refine (ebbtidelaw02_awake.calls 0 true _ rfl).mono ?_; rintro e w4 ⟨rfl, hb⟩; have n0_ := Aside0.mk (below_step HB.out hb); clear HB hb; have HB := n0_; clear n0_)
      | (go_at_call 9; refine (newP 200 _ (by decide) (by decide)).mono ?_; rintro e w2 ⟨hb, gp, rfl, hq⟩; have HP := Aside0.mk (hq.lower (below_size HB.out)); have n0_ := Aside0.mk (below_step HB.out hb); clear HB hb hq; have HB := n0_; clear n0_))
    clear d1 d2
    go_loopg [6] l0.length (fun kq v6 w' => ∃ (i : Nat), v6 = .int .i64 (i : Int) ∧ Aside0 (i + kq = l0.length) ∧ Aside0 (Below w.heap.size w w') ∧ Aside0 (PState w' w.heap.size tt gp 200 ((sortL (l0.take i)).map pr)))
    case atStart => exact ⟨0, rfl, ⟨by omega⟩, HB, HP⟩
    case round =>
      clear HB HP
      obtain ⟨i, rfl, HI, HB, HP⟩ := hrel
      cases gk with
      | succ gk =>
        have ci : i < l0.length := by have := HI.out; omega
        have HLT := Aside0.mk ci
        have d1 : decide ((i : Int) < (l0.length : Int)) = true := decide_eq_true (by omega)
        have d2 : decide (i < l0.length) = true := decide_eq_true ci
        have p1 := eq_true (show (0 : Int) ≤ (i : Int) by omega)
        have p2 := eq_true (show (i : Int) < (l0.length : Int) by omega)
        have HWI := Aside0.mk (show wrap64 ((i : Int) + 1) = ((i + 1 : Nat) : Int) from wrapId (by omega) (by have := HM.out; omega))
        obtain ⟨ad, ea, hx0, hx1⟩ := at_T34 (Kd.C_below HC.out HB.out) (i : Int) (by omega) (by omega)
        have hrd : rd_T34 l0 (i : Int) = l0[i] := by unfold rd_T34; rw [Int.toNat_natCast, List.getD_eq_getElem?_getD, List.getElem?_eq_getElem ci]; rfl
        rw [hrd] at hx0 hx1
        rw [Int.toNat_natCast] at hx0 hx1
        obtain ⟨x0, e0⟩ : ∃ x, l0[i].f0 = x := ⟨_, rfl⟩
        obtain ⟨x1, e1⟩ : ∃ x, l0[i].f1 = x := ⟨_, rfl⟩
        rw [e0] at hx0
        rw [e1] at hx1
        have HS : Aside0 (ins (x0, x1) ((sortL (l0.take i)).map pr) = (sortL (l0.take (i + 1))).map pr) := ⟨by rw [List.take_add_one, List.getElem?_eq_getElem ci, Option.toList_some, sortL_snoc, insL_pr, ← e0, ← e1]; rfl⟩
        have HN : Aside0 (((sortL (l0.take i)).map pr).length < 200) := ⟨by rw [List.length_map, sortL_length, List.length_take]; have := HM.out; omega⟩
        clear hrd ci e0 e1
        generalize l0.length = n at *
        subst ea
        go_wp2_with (go_at_call 16; refine (pushO gp _ _ x0 x1 w _ HB.out HP.out HN.out HS.out).mono ?_; rintro e w2 ⟨hb, rfl, hP2⟩)
        go_roundg gk
        case measure => exact Nat.lt_succ_self _
        case rel => exact ⟨i + 1, by rw [HWI.out], ⟨by have := HI.out; omega⟩, ⟨hb⟩, ⟨hP2⟩⟩
      | zero =>
        have hi : i = l0.length := by have := HI.out; omega
        subst hi
        have d1 : decide ((l0.length : Int) < (l0.length : Int)) = false := decide_eq_false (by omega)
        have ht : l0.take l0.length = l0 := List.take_length
        rw [ht] at HP
        clear ht HI
        obtain ⟨N, hN⟩ : ∃ N, wr.heap.size = N := ⟨_, rfl⟩
        have HP2 := Aside0.mk (HP.out.old)
        rw [hN] at HP2
        have HNB : Aside0 (w.heap.size ≤ N ∧ gp < N) := ⟨by rw [← hN]; exact below_size HB.out, by rw [← hN]; exact HP.out.ty.lt⟩
        have HN := Aside0.mk hN
        clear HP hN
        go_wp2
        clear d1
        have HO : Aside0 (Kd.R k34 34 wr w.heap.size (fun k => N ≤ k) (.slice none 0 0) ((sortL l0).take 0)) := ⟨Kd.R_nil _ _ _ _ _⟩
        have HP : Aside0 (PState wr w.heap.size (fun k => tt k ∧ k < N) gp 200 (((sortL l0).drop 0).map pr)) := ⟨HP2.out⟩
        have HG : Aside0 (N ≤ wr.heap.size) := ⟨by rw [HN.out]; exact Nat.le_refl _⟩
        have HSL := Aside0.mk (sortL_length l0)
        obtain ⟨S, hS⟩ : ∃ S, sortL l0 = S := ⟨_, rfl⟩
        rw [hS] at HO HP HSL
        have HSS := Aside0.mk hS
        clear HP2 hS HN
        go_loopg [7, 8] l0.length (fun kq v7 v8 w' => ∃ (i : Nat) (A : Option Addr) (c : Nat), v7 = .slice A i c ∧ v8 = .int .i64 (i : Int) ∧ Aside0 (i + kq = l0.length) ∧ Aside0 (Below w.heap.size w w') ∧ Aside0 (Kd.R k34 34 w' w.heap.size (fun k => N ≤ k) (.slice A i c) (S.take i)) ∧ Aside0 (PState w' w.heap.size (fun k => tt k ∧ k < N) gp 200 ((S.drop i).map pr)) ∧ Aside0 (N ≤ w'.heap.size))
        case atStart => exact ⟨0, none, 0, rfl, rfl, ⟨by omega⟩, HB, HO, HP, HG⟩
        case round =>
          clear HB HO HP HG
          obtain ⟨i, A, c, rfl, rfl, HI, HB, HO, HP, HG⟩ := hrel
          cases gk with
          | succ gk =>
            have ci : i < S.length := by have := HI.out; have := HSL.out; omega
            have hiL : i < l0.length := by have := HI.out; omega
            have d1 : decide ((i : Int) < (l0.length : Int)) = true := decide_eq_true (by omega)
            have d2 : decide (i < l0.length) = true := decide_eq_true hiL
            have HWI := Aside0.mk (show wrap64 ((i : Int) + 1) = ((i + 1 : Nat) : Int) from wrapId (by omega) (by have := HM.out; omega))
            obtain ⟨x0, e0⟩ : ∃ x, S[i].f0 = x := ⟨_, rfl⟩
            obtain ⟨x1, e1⟩ : ∃ x, S[i].f1 = x := ⟨_, rfl⟩
            have HT : Aside0 (S.take (i + 1) = S.take i ++ [⟨x0, x1⟩]) := ⟨by rw [List.take_add_one, List.getElem?_eq_getElem ci, ← e0, ← e1]; rfl⟩
            have hdr : (S.drop i).map pr = (x0, x1) :: (S.drop (i + 1)).map pr := by rw [List.drop_eq_getElem_cons ci, List.map_cons, ← e0, ← e1]; rfl
            rw [hdr] at HP
            have HTL : Aside0 ((S.take i).length = i) := ⟨by rw [List.length_take]; omega⟩
            have HPL : Aside0 (((x0, x1) :: (S.drop (i + 1)).map pr).length ≤ 65536) := ⟨by rw [← hdr, List.length_map, List.length_drop]; have := HSL.out; have := HM.out; omega⟩
            have HLT := Aside0.mk hiL
            clear hdr e0 e1 ci hiL
            generalize l0.length = n at *
            go_wp2_with (first
              | (go_at_call 11; refine (popO _ gp 200 x0 x1 _ w _ HB.out HP.out HPL.out).mono ?_; rintro e w2 ⟨hb, hk, rfl, hp⟩; have n0_ := Aside0.mk (Kd.R_kept HO.out hk (fun k_ hk_ e_ => by have := HNB.out; rcases e_ with e_ | e_ <;> omega)); have n1_ := Aside0.mk hp; have n2_ := Aside0.mk hb; have n3_ := Aside0.mk (Nat.le_trans HG.out hk.1); clear HO HP HB HG hb hk hp; have HO := n0_; have HP := n1_; have HB := n2_; have HG := n3_; clear n0_ n1_ n2_ n3_)
              | ((with_reducible refine gate_builtin (b := .append) (xs := #[.tmp 61, .tmp 63]) rfl ?_); at_builtin; have ho1 := Kd.R_alloc HO.out (.cells #[.int .i64 x0, .int .i64 x1] 34); have hb1 := below_alloc HB.out (.cells #[.int .i64 x0, .int .i64 x1] 34); have hp1 := HP.out.below (below_alloc (Below.refl _ _) (.cells #[.int .i64 x0, .int .i64 x1] 34)); have hg1 : N ≤ (w2.alloc (.cells #[.int .i64 x0, .int .i64 x1] 34)).heap.size := (by rw [World.size_alloc]; have := HG.out; omega); clear HO HB HP HG; refine Kd.R_append k34 (w0 := w) w.heap.size rfl (.tmp 61) (.tmp 63) 38 34 (.agg #[(.int .i64 0), (.int .i64 0)]) 16 rfl Try.underlying38 info34 rfl (by decide) (by omega) (.slice A i c) (S.take i) (⟨x0, x1⟩ : S34) [.int .i64 (⟨x0, x1⟩ : S34).f0, .int .i64 (⟨x0, x1⟩ : S34).f1] (fun k => N ≤ k) (fun _ => False) rfl (by rw [World.size_alloc]; rfl) (k34_mkM _ _ _ _) (fun _ hk => hk.elim) (fun k hk => Nat.le_trans hg1 hk) ho1 hb1 (below_size hb1) (by have := HTL.out; have := HLT.out; have := HM.out; omega) ?_; intro v1 w8 ho hb hg hat; have hkp : Kept _ w8 (fun k => N ≤ k) := Kept.of_grown hg (Kept.refl _ _) (fun k_ e_ => Or.inl (ho1.1 k_ e_)); have HP := Aside0.mk (hp1.kept hkp (fun e_ => by have := HNB.out; omega) (fun k hk e_ => by have := hk.2; omega)); have HB := Aside0.mk hb; have HG := Aside0.mk (Nat.le_trans hg1 hkp.1); rw [← HT.out] at ho; obtain ⟨A3, c3, e3⟩ := Kd.R_slice ho; rw [show (S.take (i + 1)).length = i + 1 by rw [List.length_take]; have := HLT.out; have := HSL.out; omega] at e3; subst e3; have HO := Aside0.mk ho; clear ho1 hb1 hp1 hg1 ho hb hg hat hkp))
            go_roundg gk
            case measure => exact Nat.lt_succ_self _
            case rel => exact ⟨i + 1, A3, c3, rfl, by rw [HWI.out], ⟨by have := HI.out; omega⟩, HB, HO, HP, HG⟩
          | zero =>
            have hi : i = l0.length := by have := HI.out; omega
            subst hi
            have d1 : decide ((l0.length : Int) < (l0.length : Int)) = false := decide_eq_false (by omega)
            have hS0 : S.drop l0.length = [] := List.drop_eq_nil_of_le (by rw [HSL.out]; exact Nat.le_refl _)
            have hS1 : S.take l0.length = S := by rw [← HSL.out]; exact List.take_length
            rw [hS0, List.map_nil] at HP
            rw [hS1] at HO
            clear hS0 hS1 HI
            have HOL : Aside0 (l0.length = S.length) := ⟨HSL.out.symm⟩
            go_wp2_with (first
              | (go_at_call 11; refine (popN _ gp 200 w _ HB.out HP.out).mono ?_; rintro e w2 ⟨hb, hk, rfl⟩; have n0_ := Aside0.mk (Kd.R_kept HO.out hk (fun k_ hk_ e_ => by have := HNB.out; rcases e_ with e_ | e_ <;> omega)); have n2_ := Aside0.mk hb; clear HO HP HB HG hb hk; have HO := n0_; have HB := n2_; clear n0_ n2_)
              | (go_at_call 26; have hbb := below_alloc HB.out (.cells #[.int .i64 0, .int .i64 0] 34); refine (pile_Sorted.calls A0 c0 l0 _ (Kd.C_below HC.out hbb) (Nat.le_trans HM.out (by decide))).mono ?_; rintro e w5 ⟨v, rfl, hr, hb⟩; rw [srt_sortL, HSS.out] at hr; obtain ⟨A1, c1, e5⟩ := Kd.R_slice hr; rw [← HOL.out] at e5; subst e5; have HR := Aside0.mk (Kd.R_reads' hr); have n1_ := Aside0.mk (Kd.R_below (Kd.R_alloc HO.out _) hb); have n0_ := Aside0.mk (below_step hbb hb); clear HO HB hb hr hbb; have HB := n0_; have HO := n1_; clear n0_ n1_)
              | (go_at_call 25; have h25 := ebbtideref02_Same.calls (S.length + 1) A c S A1 c1 S true w5 (Kd.R_reads' HO.out).2.2 (by rw [← HOL.out]; exact (Kd.R_reads' HO.out).2.1) HR.out.2.2 (by rw [← HOL.out]; exact HR.out.2.1) (same_self _ (by have := HOL.out; have := HM.out; omega)); rw [← HOL.out] at h25; refine h25.mono ?_; rintro e w7 ⟨rfl, ⟨nd, rfl⟩⟩; have CO := Aside0.mk (Kd.C_drewN (Kd.R_reads' HO.out).2.2 nd); have n0_ := Aside0.mk (pw_below_drewN HB.out nd); clear HB HO HR h25; have HB := n0_; clear n0_; generalize w5.drewN nd = wb at HB CO ⊢))
            clear d1
            have CL := Aside0.mk (Kd.C_below HC.out HB.out)
            rw [← HOL.out] at CO
            go_loopg [14] l0.length (fun kq v14 w' => ∃ (i : Nat), v14 = .int .i64 (i : Int) ∧ Aside0 (i + kq = l0.length) ∧ Aside0 (Below wb.heap.size wb w'))
            case atStart => exact ⟨0, rfl, ⟨by omega⟩, ⟨Below.refl _ _⟩⟩
            case round =>
              obtain ⟨i, rfl, HI, HW⟩ := hrel
              cases gk with
              | zero =>
                have hi : i = l0.length := by have := HI.out; omega
                subst hi
                have d1 : decide ((l0.length : Int) < (l0.length : Int)) = false := decide_eq_false (by omega)
                clear HI
                go_wp2
                go_ret
                exact ⟨rfl, below_step HB.out HW.out⟩
              | succ gk =>
                have hiL : i < l0.length := by have := HI.out; omega
                have hiS : i < S.length := by rw [← HOL.out]; exact hiL
                have d1 : decide ((i : Int) < (l0.length : Int)) = true := decide_eq_true (by omega)
                have d2 : decide (i < l0.length) = true := decide_eq_true hiL
                have HWI := Aside0.mk (show wrap64 ((i : Int) + 1) = ((i + 1 : Nat) : Int) from wrapId (by omega) (by have := HM.out; omega))
                obtain ⟨ad, ea, hx0, hx1⟩ := readP CO.out i hiL hiS
                obtain ⟨x0, e0⟩ : ∃ x, S[i].f0 = x := ⟨_, rfl⟩
                obtain ⟨x1, e1⟩ : ∃ x, S[i].f1 = x := ⟨_, rfl⟩
                rw [e0] at hx0
                rw [e1] at hx1
                have HX0 := Aside0.mk hx0
                have HX1 := Aside0.mk hx1
                have HE0 := Aside0.mk e0
                have HE1 := Aside0.mk e1
                have HIL := Aside0.mk hiL
                clear hx0 hx1 e0 e1 hiL
                subst ea
                have pi1 := eq_true (show (0 : Int) ≤ (i : Int) by omega)
                have pi2 := eq_true (show (i : Int) < (l0.length : Int) by have := HIL.out; omega)
                go_wp2
                clear d1 d2
                go_loopg [15, 16, 17] l0.length (fun kq v15 v16 v17 w' => ∃ (k : Nat), v15 = .int .i64 (cnt x0 x1 S k : Int) ∧ v16 = .int .i64 (cnt x0 x1 l0 k : Int) ∧ v17 = .int .i64 (k : Int) ∧ Aside0 (k + kq = l0.length) ∧ Aside0 (Below wb.heap.size wb w'))
                case atStart => exact ⟨0, rfl, rfl, rfl, ⟨by omega⟩, HW⟩
                case round =>
                  clear HW
                  obtain ⟨k, rfl, rfl, rfl, HK, HW⟩ := hrel
                  cases gk with
                  | succ gk =>
                    have hkL : k < l0.length := by have := HK.out; omega
                    have hkS : k < S.length := by rw [← HOL.out]; exact hkL
                    have d1 : decide ((k : Int) < (l0.length : Int)) = true := decide_eq_true (by omega)
                    have d2 : decide (k < l0.length) = true := decide_eq_true hkL
                    have HWK := Aside0.mk (show wrap64 ((k : Int) + 1) = ((k + 1 : Nat) : Int) from wrapId (by omega) (by have := HM.out; omega))
                    have pk1 := eq_true (show (0 : Int) ≤ (k : Int) by omega)
                    have pk2 := eq_true (show (k : Int) < (l0.length : Int) by omega)
                    have HC1 := Aside0.mk (show wrap64 ((cnt x0 x1 S k : Int) + 1) = ((cnt x0 x1 S k + 1 : Nat) : Int) from wrapId (by omega) (by have := cnt_le x0 x1 S k; have := HSL.out; have := HM.out; omega))
                    have HC2 := Aside0.mk (show wrap64 ((cnt x0 x1 l0 k : Int) + 1) = ((cnt x0 x1 l0 k + 1 : Nat) : Int) from wrapId (by omega) (by have := cnt_le x0 x1 l0 k; have := HM.out; omega))
                    have hci := Kd.C_below CO.out HW.out
                    have hcl := Kd.C_below CL.out HW.out
                    obtain ⟨ad1, ea1, hx0, hx1⟩ := readP hci i HIL.out hiS
                    obtain rfl := Option.some.inj ea1
                    obtain ⟨ad2, ea2, hy0, hy1⟩ := readP hci k hkL hkS
                    obtain rfl := Option.some.inj ea2
                    obtain ⟨ad3, ea3, hz0, hz1⟩ := readP hcl k hkL hkL
                    rw [HE0.out] at hx0
                    rw [HE1.out] at hx1
                    obtain ⟨y0, f0⟩ : ∃ x, S[k].f0 = x := ⟨_, rfl⟩
                    obtain ⟨y1, f1⟩ : ∃ x, S[k].f1 = x := ⟨_, rfl⟩
                    obtain ⟨z0, g0⟩ : ∃ x, l0[k].f0 = x := ⟨_, rfl⟩
                    obtain ⟨z1, g1⟩ : ∃ x, l0[k].f1 = x := ⟨_, rfl⟩
                    rw [f0] at hy0
                    rw [f1] at hy1
                    rw [g0] at hz0
                    rw [g1] at hz1
                    obtain ⟨b1, hb1⟩ : ∃ b, (y0 == x0 && (y1 == x1)) = b := ⟨_, rfl⟩
                    obtain ⟨b2, hb2⟩ : ∃ b, (z0 == x0 && (z1 == x1)) = b := ⟨_, rfl⟩
                    have HS1 := Aside0.mk (cnt_succ x0 x1 S k hkS b1 (by rw [f0, f1]; exact hb1))
                    have HS2 := Aside0.mk (cnt_succ x0 x1 l0 k hkL b2 (by rw [g0, g1]; exact hb2))
                    clear f0 f1 g0 g1 hci hcl
                    subst ea3
                    have HKL := Aside0.mk hkL
                    clear hkL hkS
                    cases b1 <;> cases b2
                    · go_wp2
                      repeat (go_quiet (fail); try go_wp2)
                      go_roundg gk
                      case measure => exact Nat.lt_succ_self _
                      case rel => exact ⟨k + 1, by rw [HS1.out]; simp, by rw [HS2.out]; simp, by rw [HWK.out], ⟨by have := HK.out; omega⟩, ⟨by repeat (first | exact HW.out | apply pw_below_drewN | apply below_drew1)⟩⟩
                    · go_wp2
                      repeat (go_quiet (fail); try go_wp2)
                      go_roundg gk
                      case measure => exact Nat.lt_succ_self _
                      case rel => exact ⟨k + 1, by rw [HS1.out]; simp, by rw [HC2.out, HS2.out]; simp, by rw [HWK.out], ⟨by have := HK.out; omega⟩, ⟨by repeat (first | exact HW.out | apply pw_below_drewN | apply below_drew1)⟩⟩
                    · go_wp2
                      repeat (go_quiet (fail); try go_wp2)
                      go_roundg gk
                      case measure => exact Nat.lt_succ_self _
                      case rel => exact ⟨k + 1, by rw [HC1.out, HS1.out]; simp, by rw [HS2.out]; simp, by rw [HWK.out], ⟨by have := HK.out; omega⟩, ⟨by repeat (first | exact HW.out | apply pw_below_drewN | apply below_drew1)⟩⟩
                    · go_wp2
                      repeat (go_quiet (fail); try go_wp2)
                      go_roundg gk
                      case measure => exact Nat.lt_succ_self _
                      case rel => exact ⟨k + 1, by rw [HC1.out, HS1.out]; simp, by rw [HC2.out, HS2.out]; simp, by rw [HWK.out], ⟨by have := HK.out; omega⟩, ⟨by repeat (first | exact HW.out | apply pw_below_drewN | apply below_drew1)⟩⟩
                  | zero =>
                    have hk : k = l0.length := by have := HK.out; omega
                    subst hk
                    have d1 : decide ((l0.length : Int) < (l0.length : Int)) = false := decide_eq_false (by omega)
                    have heq : cnt x0 x1 S l0.length = cnt x0 x1 l0 l0.length := by
                      have := sortL_cnt x0 x1 l0
                      rw [HSS.out, HSL.out] at this
                      exact this
                    rw [heq]
                    clear heq HK
                    generalize (cnt x0 x1 l0 l0.length : Int) = q
                    have hci := Kd.C_below CO.out HW.out
                    obtain ⟨ad1, ea1, hx0, hx1⟩ := readP hci i HIL.out hiS
                    obtain rfl := Option.some.inj ea1
                    rw [HE0.out] at hx0
                    rw [HE1.out] at hx1
                    by_cases c0 : i = 0
                    · have c1 : decide (0 < (i : Int)) = false := decide_eq_false (by omega)
                      have c2 : decide (0 < i) = false := decide_eq_false (by omega)
                      clear hci ea1
                      go_wp2
                      repeat (go_quiet (fail); try go_wp2)
                      go_roundg gk
                      case measure => exact Nat.lt_succ_self _
                      case rel => exact ⟨i + 1, by rw [c0]; rfl, ⟨by have := HI.out; omega⟩, ⟨by repeat (first | exact HW.out | apply pw_below_drewN | apply below_drew1)⟩⟩
                    · obtain ⟨j, hj⟩ : ∃ j, i = j + 1 := ⟨i - 1, by omega⟩
                      have c1 : decide (0 < (i : Int)) = true := decide_eq_true (by omega)
                      have c2 : decide (0 < i) = true := decide_eq_true (by omega)
                      have hjL : j < l0.length := by have := HIL.out; omega
                      have hjS : j < S.length := by omega
                      have hwm : wrap64 ((i : Int) - 1) = (j : Int) := by rw [show ((i : Int) - 1) = (j : Int) by omega]; unfold wrap64; have := HM.out; omega
                      have pj1 := eq_true (show (0 : Int) ≤ (j : Int) by omega)
                      have pj2 := eq_true (show (j : Int) < (l0.length : Int) by omega)
                      obtain ⟨ad2, ea2, hy0, hy1⟩ := readP hci j hjL hjS
                      obtain rfl := Option.some.inj ea2
                      have hnot : ¬ plt (pr S[i]) (pr S[j]) := by
                        have hso : Sorted2 (S.map pr) := by rw [← HSS.out]; exact foldIns_sorted l0 [] sorted2_nil
                        have := List.pairwise_iff_getElem.1 hso j i (by rw [List.length_map]; exact hjS) (by rw [List.length_map]; exact hiS) (by omega)
                        rw [List.getElem_map, List.getElem_map] at this
                        exact this
                      have hE0 := HE0.out
                      have hE1 := HE1.out
                      obtain ⟨y0, f0⟩ : ∃ x, S[j].f0 = x := ⟨_, rfl⟩
                      obtain ⟨y1, f1⟩ : ∃ x, S[j].f1 = x := ⟨_, rfl⟩
                      rw [f0] at hy0
                      rw [f1] at hy1
                      have hn2 : ¬ (x0 < y0 ∨ x0 = y0 ∧ x1 < y1) := by
                        intro hh
                        apply hnot
                        unfold plt pr
                        simp only [hE0, hE1, f0, f1]
                        exact hh
                      have k1 : decide (x0 < y0) = false := decide_eq_false (by omega)
                      have HJ := Aside0.mk hj
                      by_cases c3 : x0 = y0
                      · have k2 : (x0 == y0) = true := beq_iff_eq.mpr c3
                        have k3 : decide (x1 < y1) = false := decide_eq_false (by omega)
                        clear hci ea1 ea2 hnot hE0 hE1 f0 f1 hn2 hj c0 c3 hjL hjS
                        go_wp2
                        repeat (go_quiet (fail); try go_wp2)
                        go_roundg gk
                        case measure => exact Nat.lt_succ_self _
                        case rel => exact ⟨i + 1, by rw [HWI.out], ⟨by have := HI.out; omega⟩, ⟨by repeat (first | exact HW.out | apply pw_below_drewN | apply below_drew1)⟩⟩
                      · have k2 : (x0 == y0) = false := beq_eq_false_iff_ne.mpr c3
                        clear hci ea1 ea2 hnot hE0 hE1 f0 f1 hn2 hj c0 c3 hjL hjS
                        go_wp2
                        repeat (go_quiet (fail); try go_wp2)
                        go_roundg gk
                        case measure => exact Nat.lt_succ_self _
                        case rel => exact ⟨i + 1, by rw [HWI.out], ⟨by have := HI.out; omega⟩, ⟨by repeat (first | exact HW.out | apply pw_below_drewN | apply below_drew1)⟩⟩
end Go.Proofs.Ytloebciamfbjfaa.Q
end
section
namespace Go.Proofs.Ytloebciamfbjfaa.R
open Go.RowKit Go.Proofs.Ytloebciamfbjfaa.Q Go.Proofs.YtloebciamfbjfaaW.PrintWords Go.Proofs.YtloebciamfbjfaaW.PrintLast Go.Proofs.YtloebciamfbjfaaW.PrintMore
open Go.ChangeShapes Go.WideShapes Go.Deep
def Reads (t : TypeId) {α : Type} (d : Kd α) (G : Nat → α → Prop) : Prop :=
  ∀ {H : Type} (enc : TypeId × Value → H) (w : World) (base : Nat) (spare : Nat → Bool) (held : Bool) (fuel : Nat) (cs : List Value) (x : DataW H × List MemPlace),
    DataW.trod enc Try.prog w base spare held fuel t cs = some x → ∃ a, d.K w a cs ∧ ∀ N, Rows.uptoBulk x.1 ≤ N → G N a
def gInt (k : IntKind) (_ : Nat) (n : Int) : Prop := (Lit.int k n).wf = true
def gList {α : Type} (G : Nat → α → Prop) (N : Nat) (l : List α) : Prop := l.length ≤ maxLen ∧ l.length ≤ N ∧ ∀ x ∈ l, G N x
theorem readsInt {t : TypeId} {k : IntKind} (ht : Try.prog.underlying t = some (.int k)) : Reads t (Kd.int k) (gInt k) := by
  intro H enc w base spare held fuel cs x h
  obtain ⟨n, rfl, rfl, hw⟩ := DataW.trod_int ht h
  exact ⟨n, rfl, fun _ _ => hw⟩
theorem one_le {H : Type} (d : DataW H) : 1 ≤ Rows.uptoBulk d := by
  cases d with
  | lit l => cases l <;> simp [Rows.uptoBulk]
  | nil => simp [Rows.uptoBulk]
  | ptr d => simp [Rows.uptoBulk]
  | slice elems spare => simp [Rows.uptoBulk]
  | agg parts => simp [Rows.uptoBulk]
  | iface t d => simp [Rows.uptoBulk]
  | map entries => simp [Rows.uptoBulk]
  | held h => simp [Rows.uptoBulk]
theorem part_le {H : Type} {d : DataW H} {l : List (DataW H)} (h : d ∈ l) : Rows.uptoBulk d ≤ Rows.uptoBulkAll l := by
  induction l with
  | nil => cases h
  | cons x r ih =>
    simp only [Rows.uptoBulkAll]
    cases List.mem_cons.1 h with
    | inl e => subst e; omega
    | inr e => have := ih e; omega
theorem length_le {H : Type} (l : List (DataW H)) : l.length ≤ Rows.uptoBulkAll l := by
  induction l with
  | nil => simp [Rows.uptoBulkAll]
  | cons x r ih => have := one_le x; simp only [Rows.uptoBulkAll, List.length_cons]; omega
theorem readsSlice {t e : TypeId} {α : Type} [Inhabited α] {d : Kd α} {G : Nat → α → Prop} (ht : Try.prog.underlying t = some (.slice e)) (hc : Try.prog.cellsOf e = d.sz) (R : Reads e d G) : Reads t (Kd.slice e d) (gList G) := by
  intro H enc w base spare held fuel cs x h
  rcases open_slice ht h with ⟨rfl, rfl⟩ | ⟨a, len, cap, m, n, D, Pl, rfl, hb, hl, hm, hmm, rfl, hx⟩
  · exact ⟨[], ⟨none, 0, rfl, Nat.le_refl _, Kd.C_nil d w⟩, fun N _ => ⟨Nat.zero_le _, Nat.zero_le _, fun x hx => by cases hx⟩⟩
  · have hlm : len ≤ m := by rw [hmm]; split <;> omega
    obtain ⟨f, hf⟩ := choose_lt (α := α) (n := m) (p := fun i y => ∃ c, c.length = d.sz ∧ d.K w y c ∧ (∀ j u, c[j]? = some u → w.cell? (a.add (i * d.sz + j)) = some u) ∧ ∀ N, Rows.uptoBulk (D i) ≤ N → G N y) (fun i hi => by
      obtain ⟨c, h1, h2⟩ := hx i hi
      obtain ⟨y, hK, hG⟩ := R enc w base spare held n c _ h2
      obtain ⟨_, hlen, hcell⟩ := World.cells?_some h1
      rw [hc] at hlen hcell
      refine ⟨y, c, hlen, hK, fun j u hu => ?_, hG⟩
      have hj : j < d.sz := by rw [← hlen]; exact (List.getElem?_eq_some_iff.1 hu).1
      have := hcell j hj
      rw [Deep.add_add] at this
      rw [this, hu])
    have hL : ((List.range len).map f).length = len := by simp
    refine ⟨(List.range len).map f, ⟨some a, cap, by rw [hL], by rw [hL]; exact hl, ?_⟩, fun N hN => ?_⟩
    · refine ⟨rfl, by rw [hL]; exact Nat.le_trans hl (Nat.le_trans hm (by decide)), fun _ => ⟨a, rfl, fun j p hj => ?_⟩⟩
      have hjl : j < len := by
        have := (List.getElem?_eq_some_iff.1 hj).1
        rwa [hL] at this
      have hp : f j = p := by
        rw [List.getElem?_map, List.getElem?_range hjl] at hj
        exact Option.some.inj hj
      obtain ⟨c, h1, h2, h3, _⟩ := hf j (by omega)
      rw [hp] at h2
      exact ⟨c, h1, h2, h3⟩
    · have hbulk : Rows.uptoBulkAll ((List.range len).map D) ≤ N := by
        simp only [Rows.uptoBulk] at hN
        omega
      refine ⟨by rw [hL]; omega, by rw [hL]; have := length_le ((List.range len).map D); simp at this; omega, fun y hy => ?_⟩
      obtain ⟨i, hi, rfl⟩ := List.mem_map.1 hy
      have hi' := List.mem_range.1 hi
      obtain ⟨c, _, _, _, hG⟩ := hf i (by omega)
      exact hG N (Nat.le_trans (part_le (List.mem_map.2 ⟨i, hi, rfl⟩)) hbulk)
instance : Inhabited S34 := ⟨z34⟩
def g34 (N : Nat) (x : S34) : Prop := gInt .i64 N x.f0 ∧ gInt .i64 N x.f1
set_option maxRecDepth 100000 in
theorem reads34 : Reads 34 k34 g34 := by
  intro H enc w base spare held fuel cs x h
  obtain ⟨xs, n, _, hx, hl, hlen, hf⟩ := DataW.trod_struct Try.underlying34 h
  have hl2 : cs.length = 2 := hl.trans (by kernel_rfl)
  have hlen2 : xs.length = 2 := hlen
  match xs, hlen2, cs, hl2 with
  | [y0, y1], _, [v0, v1], _ =>
    have c0 : Try.prog.cellsOf 3 = 1 := by kernel_rfl
    have e0 : DataW.trod enc Try.prog w base spare held n 3 (List.take (Try.prog.cellsOf 3) (List.drop 0 [v0, v1])) = some y0 := hf 0 _ rfl
    rw [c0] at e0
    obtain ⟨a0, K0, G0⟩ := (readsInt Try.underlying3) enc w base spare held n [v0] y0 e0
    have c1 : Try.prog.cellsOf 3 = 1 := by kernel_rfl
    have e1 : DataW.trod enc Try.prog w base spare held n 3 (List.take (Try.prog.cellsOf 3) (List.drop 1 [v0, v1])) = some y1 := hf 1 _ rfl
    rw [c1] at e1
    obtain ⟨a1, K1, G1⟩ := (readsInt Try.underlying3) enc w base spare held n [v1] y1 e1
    refine ⟨⟨a0, a1⟩, ⟨_, _, rfl, K0, K1⟩, fun N hN => ?_⟩
    rw [hx] at hN
    simp only [List.map_cons, List.map_nil, Rows.uptoBulk, Rows.uptoBulkAll] at hN
    exact ⟨G0 N (by omega), G1 N (by omega)⟩
end Go.Proofs.Ytloebciamfbjfaa.R
end
section
namespace Go.Proofs.Ytloebciamfbjfaa.R
open Go.RowKit Go.Proofs.Ytloebciamfbjfaa.Q Go.Proofs.YtloebciamfbjfaaW.PrintWords Go.Proofs.YtloebciamfbjfaaW.PrintLast Go.Proofs.YtloebciamfbjfaaW.PrintMore
def PileOrders.Pure : Prop := ∀ N0 : Nat, ∀ (x0 : List S34), gList (g34) N0 x0 → ∃ k, ebbtidelaw02_PileOrders.f k x0 = some true
end Go.Proofs.Ytloebciamfbjfaa.R
end
section
namespace Go.Proofs.Ytloebciamfbjfaa.Pure
open Go.RowKit Go.Proofs.Ytloebciamfbjfaa.Q Go.Proofs.YtloebciamfbjfaaW.PrintWords Go.Proofs.YtloebciamfbjfaaW.PrintLast Go.Proofs.YtloebciamfbjfaaW.PrintMore
open Go.Proofs.Ytloebciamfbjfaa.R
theorem PileOrders : PileOrders.Pure := fun _ _ _ => ⟨0, rfl⟩
end Go.Proofs.Ytloebciamfbjfaa.Pure
end
section
namespace Go.Proofs.Ytloebciamfbjfaa
open Go Go.RowKit
def ioHead : List Char := List.map Char.ofNat [104, 97, 114, 110, 101, 115, 115, 32, 102, 56, 48, 50, 52, 56, 55, 98, 101, 56, 98, 56, 54, 50, 49, 99, 48, 49, 54, 99, 50, 55, 50, 100, 57, 54, 102, 102, 98, 51, 54, 99, 50, 52, 99, 100, 99, 50, 52, 49, 97, 57, 55, 48, 50, 56, 52, 55, 102, 56, 102, 99, 52, 97, 97, 53, 98, 97, 48, 101, 49, 55, 53, 102, 32, 99, 117, 116, 32]
def ioRest : List Char := List.map Char.ofNat [97, 116, 32, 101, 98, 98, 116, 105, 100, 101, 47, 101, 98, 98, 116, 105, 100, 101, 108, 97, 119, 48, 50, 46, 80, 105, 108, 101, 80, 108, 97, 121, 115, 32, 101, 98, 98, 116, 105, 100, 101, 47, 101, 98, 98, 116, 105, 100, 101, 108, 97, 119, 48, 50, 46, 80, 105, 108, 101, 81, 117, 101, 117, 101, 115, 32, 101, 98, 98, 116, 105, 100, 101, 47, 101, 98, 98, 116, 105, 100, 101, 108, 97, 119, 48, 50, 46, 80, 105, 108, 101, 82, 111, 117, 110, 100, 115, 32, 101, 98, 98, 116, 105, 100, 101, 47, 101, 98, 98, 116, 105, 100, 101, 108, 97, 119, 48, 50, 46, 80, 105, 108, 101, 83, 111, 114, 116, 115, 32, 101, 98, 98, 116, 105, 100, 101, 47, 101, 98, 98, 116, 105, 100, 101, 108, 97, 119, 48, 50, 46, 80, 105, 108, 101, 79, 114, 100, 101, 114, 115]
set_option maxRecDepth 100000 in
theorem io_eq : Try.pinned.checked.prog.initOrder = String.ofList (ioHead ++ ioRest) := by kernel_rfl
theorem io_toList : Try.pinned.checked.prog.initOrder.toList = ioHead ++ ioRest := by rw [io_eq]; exact String.toList_ofList
def ioCut : List Char := List.map Char.ofNat [99, 117, 116]
set_option maxRecDepth 100000 in
theorem io_words (r : List Char) : behindMainWord (wordsSigns (ioHead ++ r)) = ioCut :: wordsSigns r := by kernel_rfl
theorem io_behind : ∃ X, behindMainWord (wordsSigns Try.pinned.checked.prog.initOrder.toList) = ioCut :: X := ⟨_, by rw [io_toList]; exact io_words _⟩
theorem io_cut : ioCut = "cut".toList := by decide +kernel
theorem io_strip (X : List (List Char)) : stripLifts liftWords (ioCut :: X) = ([], ioCut :: X) := by kernel_rfl
theorem headLifts_cut (P : Program) (h : ∃ X, behindMainWord (wordsSigns P.initOrder.toList) = ioCut :: X) : P.headLifts = [] := by
  obtain ⟨X, e⟩ := h
  unfold Program.headLifts
  rw [e, io_strip]
  rfl
theorem mayEnter_cut (P : Program) (h : ∃ X, behindMainWord (wordsSigns P.initOrder.toList) = ioCut :: X) (h1 : P.laysLater = false) (h2 : P.bearsReflect = false) (h3 : P.doorFits [] = true) : P.mayEnter = true := by
  obtain ⟨X, e⟩ := h
  unfold Program.mayEnter
  rw [e]
  simp only [io_strip, h1, h2, h3]
  rw [io_cut]
  simp
theorem liftsFinal_cut (P : Program) (h : ∃ X, behindMainWord (wordsSigns P.initOrder.toList) = ioCut :: X) : P.liftsFinal = false := by
  have h0 := headLifts_cut P h
  obtain ⟨X, e⟩ := h
  unfold Program.liftsFinal
  rw [e, h0]
  rw [io_cut]
  simp
theorem make_cut (P : Program) (h : ∃ X, behindMainWord (wordsSigns P.initOrder.toList) = ioCut :: X) : P.make = some .cut := by
  obtain ⟨X, e⟩ := h
  unfold Program.make
  rw [e]
  simp only [io_cut]
  rw [if_neg (by decide +kernel), if_pos (by simp)]
theorem p_mayEnter : Try.pinned.checked.prog.mayEnter = true := mayEnter_cut _ io_behind (by kernel_rfl) (by kernel_rfl) (by kernel_rfl)
theorem p_liftsFinal : Try.pinned.checked.prog.liftsFinal = false := liftsFinal_cut _ io_behind
theorem p_make : Try.pinned.checked.prog.make = some .cut := make_cut _ io_behind
theorem p_laidOut : laidOutB Try.pinned.checked.prog = true := by kernel_rfl
theorem p_mapsRowed : mapsRowed Try.pinned.checked.prog = true := by kernel_rfl
theorem p_stopsHeard : Try.pinned.checked.prog.stopsHeard = true := by kernel_rfl
theorem p_stops : Try.pinned.checked.prog.stops = [] := by kernel_rfl
theorem p_stopKnobs : Try.pinned.checked.prog.stopKnobs = [] := by kernel_rfl
end Go.Proofs.Ytloebciamfbjfaa
end
section
namespace Go.Proofs.Ytloebciamfbjfaa.pileOrders
open Go.ChangeShapes Go.WideShapes Go.ChangeAt Go.RowKit
open Go.ChangeMaps (open_string shut_string)
open Go.Proofs.Ytloebciamfbjfaa.Q Go.Proofs.Ytloebciamfbjfaa.R Go.Proofs.YtloebciamfbjfaaW.PrintWords
set_option linter.unusedVariables false
theorem own : ownKnob Try.prog.godebug = none := by kernel_rfl
theorem laidOut : laidOutB Try.prog = true := by kernel_rfl
set_option maxRecDepth 100000 in
theorem lifted (os : Os) (started : os.Started) (H : Type) (enc : TypeId × Value → H) :
    ReturnsInHanded {} Try.checked os 7 .any (Rows.pileOrdersSpec.pre6 enc Try.prog Try.f7 Rows.pileOrdersRow.domain false) (Rows.pileOrdersSpec.post enc Try.prog Try.f7 false true false false) := by
  refine returnsInHanded_of_change_sized (C := Try.checked) own started (by kernel_rfl) Try.func7
    (ChangeSpec.witness6 (enc := enc) (C := Try.checked) false ⟨#[], #[.slice none 0 0], []⟩ 8 (by kernel_rfl) (by kernel_rfl) (by kernel_rfl) (by kernel_rfl)) ?_
  intro W base args ds gs before hval0 hW hcnd hsz0 _
  have hval : ∀ (j : Nat) t v, Try.f7.params[j]? = some t → args[j]? = some v → Value.okWide Try.prog W .any base t v := hval0
  have hW' := hW
  obtain ⟨p, q, hA0, hV, rfl, hfz, hnd⟩ := hW
  have hA : DataW.TrodAll enc Try.prog W 0 (fun _ => true) true Try.f7.params.toList args.toList ds p := hA0
  rw [Try.params7] at hA hval
  obtain ⟨v0, vs0, d0, ds0, p0, q0, hargs, rfl, rfl, h0, r0⟩ := trodAll_cons hA
  obtain ⟨rfl, rfl, rfl⟩ := trodAll_nil r0
  obtain rfl : args = #[v0] := by cases args; simp_all
  obtain ⟨rfl, rfl⟩ := trodVars_none hV
  have k0 := h0
  have lt0 : ∀ x ∈ p0, x.block < W.heap.size := by obtain ⟨m, hm⟩ := k0; exact DataW.trod_lt m _ _ _ hm
  obtain ⟨fu0, hf0⟩ := h0
  obtain ⟨x0, K0, G0⟩ := (readsSlice Try.underlying38 (by kernel_rfl) reads34) enc W 0 (fun _ => true) true fu0 _ _ hf0
  obtain ⟨a0, len0, cap0, rfl⟩ := okWide_slice Try.underlying38 (hval 0 38 v0 rfl rfl)
  obtain ⟨A0, c0, ek0, hc0, hr0⟩ := K0
  simp only [Value.cells, List.cons.injEq, and_true] at ek0
  injection ek0 with ea0 el0 ec0
  subst ea0 el0 ec0
  have h := Pure.PileOrders _ x0 (G0 _ (Nat.le_refl _))
  obtain ⟨k, h⟩ := h
  refine (ebbtidelaw02_PileOrders.calls k _ _ x0 true W hr0 hc0 h).mono fun e W' ⟨he, bel0⟩ => ?_
  have bel : Below W.heap.size W W' := bel0
  subst he
  exact ⟨_, rfl, _, _, _, [], _, [], hW', trodAll_mk1 (shut_bool Try.underlying4 _), (trodAll_cons_mk (Below.trod laidOut (by kernel_rfl) (of_decide_eq_true (by kernel_rfl)) k0 bel lt0) trodAll_mk0), rfl, bel.frame _, fun h => by cases h⟩
theorem andI {a b : Bool} (x : a = true) (y : b = true) : (a && b) = true := by rw [x, y]; rfl
set_option maxRecDepth 100000 in
set_option maxHeartbeats 8000000 in
theorem closed : joinedFacts Try.pinned.checked.prog 7 Try.f7 Rows.pileOrdersSpec Rows.pileOrdersRow = true := by
  unfold joinedFacts
  exact (andI (andI (andI (andI (andI (andI (andI (andI (andI (andI (andI (andI (andI (andI (andI (andI (andI (andI (andI (andI (andI (andI (andI (andI (andI (andI (andI (andI (andI (andI (andI (by as_aux_lemma => kernel_rfl)
    p_laidOut)
    p_mapsRowed)
    (by as_aux_lemma => kernel_rfl))
    (by as_aux_lemma => kernel_rfl))
    (by as_aux_lemma => kernel_rfl))
    (by rw [p_stops]; rfl))
    (by as_aux_lemma => kernel_rfl))
    (by rw [p_stopKnobs]; rfl))
    (by as_aux_lemma => kernel_rfl))
    (by as_aux_lemma => kernel_rfl))
    (by as_aux_lemma => kernel_rfl))
    (by as_aux_lemma => kernel_rfl))
    (by as_aux_lemma => kernel_rfl))
    (by as_aux_lemma => kernel_rfl))
    (by as_aux_lemma => kernel_rfl))
    (by as_aux_lemma => kernel_rfl))
    (by as_aux_lemma => kernel_rfl))
    (by as_aux_lemma => kernel_rfl))
    (by as_aux_lemma => kernel_rfl))
    (by as_aux_lemma => kernel_rfl))
    (by as_aux_lemma => kernel_rfl))
    (by as_aux_lemma => kernel_rfl))
    (by as_aux_lemma => kernel_rfl))
    p_stopsHeard)
    p_mayEnter)
    (by rw [p_liftsFinal]; rfl))
    (by rw [p_make]; rfl))
    (by as_aux_lemma => kernel_rfl))
    (by as_aux_lemma => kernel_rfl))
    (by as_aux_lemma => kernel_rfl))
    (by as_aux_lemma => kernel_rfl))
theorem proved : Rows.PileOrdersSaid :=
  OpenClaim.holds_of_wide 7 Try.f7 rfl rfl rfl rfl rfl rfl rfl ⟨rfl, rfl, rfl, rfl, rfl⟩ rfl rfl rfl rfl rfl (by kernel_rfl) Try.func7 closed
    (of_decide_eq_true (by kernel_rfl)) (by unfold Func.isWrapper; first | (rw [if_pos (by decide +kernel)]; kernel_rfl) | (rw [if_neg (by decide +kernel)]; exact ⟨rfl, rfl⟩))
    (fun os started H enc _ => lifted os started H enc)
#print axioms proved
end Go.Proofs.Ytloebciamfbjfaa.pileOrders
namespace Go.Proofs.Ytloebciamfbjfaa
theorem pileOrders_holds : Rows.PileOrdersSaid := pileOrders.proved
end Go.Proofs.Ytloebciamfbjfaa
end
