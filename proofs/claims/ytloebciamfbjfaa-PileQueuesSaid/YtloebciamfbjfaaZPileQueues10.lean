/- A part of the proof: words, contracts, plain lemmas. Conditions: none. -/
import Derived.Test.YtloebciamfbjfaaZPileQueues9
import Derived.Test.YtloebciamfbjfaaZPileQueues3
import Derived.Test.YtloebciamfbjfaaRows
import Derived.Deep.Slices
import Derived.ProofKit
import Derived.WalkKit
import Derived.OpenShut
import Derived.ShutString
import Derived.ChangeOld
import Derived.Below
import Derived.SizedLaws
section
namespace Go.Proofs.Ytloebciamfbjfaa.Q
open Go.RowKit Go.Proofs.Ytloebciamfbjfaa.P Go.Proofs.YtloebciamfbjfaaW.PrintWords Go.Proofs.YtloebciamfbjfaaW.PrintLast Go.Proofs.YtloebciamfbjfaaW.PrintMore
set_option linter.unusedVariables false
set_option linter.unusedSimpArgs false
def Dual (w : World) (base gq gr : Nat) (most : Int) (cA cB : List Int) : Prop :=
  ∃ okA okB v, QState w base okA gq most cA ∧ RQ w base okB gr most v cB ∧ (∀ k, okA k → Ty w 3 k) ∧ (∀ k, okB k → Ty w 3 k) ∧ ∀ k, okA k → ¬ okB k
theorem Ty.kept {w w' : World} {S : Nat → Prop} {t k : Nat} (h : Ty w t k) (hk : Kept w w' S) (hn : ¬ S k) : Ty w' t k := by obtain ⟨c, h⟩ := h; exact ⟨c, Kept.blk hk h hn⟩
theorem Dual.stepA {w w0 : World} {base gq gr f : Nat} {most : Int} {cA cB cA' : List Int} {args : Array Value} {E : Ending → Prop} (h : Dual w base gq gr most cA cB)
    (call : ∀ ok : Nat → Prop, QState w base ok gq most cA → (∀ k, w.heap.size ≤ k → ok k) → Calls Try.prog f args w fun e w' => Below w0.heap.size w0 w' ∧ Kept w w' (fun k => k = gq ∨ ok k) ∧ E e ∧ QState w' base ok gq most cA') :
    Calls Try.prog f args w fun e w' => Below w0.heap.size w0 w' ∧ E e ∧ Dual w' base gq gr most cA' cB := by
  obtain ⟨okA, okB, v, hA, hB, h1, h2, h3⟩ := h
  refine (call (fun k => okA k ∨ w.heap.size ≤ k) (hA.mono (fun _ => Or.inl)) (fun _ => Or.inr)).mono ?_
  rintro e w' ⟨hb, hk, he, hA'⟩
  have ho : ∀ k, okB k → ¬ (k = gq ∨ okA k ∨ w.heap.size ≤ k) := fun j hj e => e.elim (fun e => by subst e; exact absurd ((h2 _ hj).one hA.ty) (by decide)) (fun e => e.elim (fun e => h3 j e hj) (fun e => by have := (h2 j hj).lt; omega))
  have hg : ¬ (gr = gq ∨ okA gr ∨ w.heap.size ≤ gr) := fun e => e.elim (fun e => by subst e; exact absurd (hB.ty.one hA.ty) (by decide)) (fun e => e.elim (fun e => absurd ((h1 _ e).one hB.ty) (by decide)) (fun e => by have := hB.ty.lt; omega))
  exact ⟨hb, he, fun k => (okA k ∨ w.heap.size ≤ k) ∧ Ty w' 3 k, okB, v, hA'.typed, hB.kept hk hg ho, fun k h => h.2, fun k h => (h2 k h).kept hk (ho k h), fun k h h' => ho k h' (Or.inr h.1)⟩
theorem Dual.stepB {w w0 : World} {base gq gr f : Nat} {most : Int} {cA cB cB' : List Int} {args : Array Value} {E : Ending → Prop} (h : Dual w base gq gr most cA cB)
    (call : ∀ (ok : Nat → Prop) (v : Value), RQ w base ok gr most v cB → (∀ k, w.heap.size ≤ k → ok k) → Calls Try.prog f args w fun e w' => Below w0.heap.size w0 w' ∧ Kept w w' (fun k => k = gr ∨ ok k) ∧ E e ∧ ∃ v', RQ w' base ok gr most v' cB') :
    Calls Try.prog f args w fun e w' => Below w0.heap.size w0 w' ∧ E e ∧ Dual w' base gq gr most cA cB' := by
  obtain ⟨okA, okB, v, hA, hB, h1, h2, h3⟩ := h
  refine (call (fun k => okB k ∨ w.heap.size ≤ k) v (hB.mono (fun _ => Or.inl)) (fun _ => Or.inr)).mono ?_
  rintro e w' ⟨hb, hk, he, v', hB'⟩
  have ho : ∀ k, okA k → ¬ (k = gr ∨ okB k ∨ w.heap.size ≤ k) := fun j hj e => e.elim (fun e => by subst e; exact absurd ((h1 _ hj).one hB.ty) (by decide)) (fun e => e.elim (fun e => h3 j hj e) (fun e => by have := (h1 j hj).lt; omega))
  have hg : ¬ (gq = gr ∨ okB gq ∨ w.heap.size ≤ gq) := fun e => e.elim (fun e => by subst e; exact absurd (hB.ty.one hA.ty) (by decide)) (fun e => e.elim (fun e => absurd ((h2 _ e).one hA.ty) (by decide)) (fun e => by have := hA.ty.lt; omega))
  exact ⟨hb, he, okA, fun k => (okB k ∨ w.heap.size ≤ k) ∧ Ty w' 3 k, v', hA.kept hk hg ho, hB'.typed, fun k h => (h1 k h).kept hk (ho k h), fun k h => h.2, fun k h h' => ho k h (Or.inr h'.1)⟩
theorem Dual.below {w w1 : World} {base gq gr : Nat} {most : Int} {cA cB : List Int} (h : Dual w base gq gr most cA cB) (hb : Below w.heap.size w w1) : Dual w1 base gq gr most cA cB := by
  obtain ⟨okA, okB, v, hA, hB, h1, h2, h3⟩ := h
  have hty : ∀ k, Ty w 3 k → Ty w1 3 k := fun k h => by obtain ⟨c, h⟩ := h; exact ⟨c, blk_below h hb⟩
  exact ⟨okA, okB, v, hA.below hb, hB.below hb, fun k h => hty k (h1 k h), fun k h => hty k (h2 k h), h3⟩
theorem Dual.lenA {w : World} {base gq gr : Nat} {most : Int} {cA cB : List Int} (h : Dual w base gq gr most cA cB) :
    Calls Try.prog 24 #[.pointer (some ⟨gq, 0, none⟩)] w fun e w' => e = .returned (.int .i64 (cA.length : Int)) ∧ w' = w := by
  obtain ⟨okA, okB, v, hA, hB, h1, h2, h3⟩ := h
  exact lenQ gq most cA w hA
theorem Dual.listB {w : World} {base gq gr : Nat} {most : Int} {cA cB : List Int} (h : Dual w base gq gr most cA cB) : ∃ A c, w.cell? ⟨gr, 1, none⟩ = some (.slice A cB.length c) := by
  obtain ⟨okA, okB, v, hA, hB, h1, h2, h3⟩ := h
  obtain ⟨A, c, ev, _⟩ := Kd.Q_slice hB.row
  subst ev
  exact ⟨A, c, (blk_cell hB.blk 1).trans rfl⟩
theorem Dual.takeA {w w0 : World} {gq gr : Nat} {most : Int} {cA cB : List Int} (hB : Below w0.heap.size w0 w) (h : Dual w w0.heap.size gq gr most cA cB) :
    Calls Try.prog 20 #[.pointer (some ⟨gq, 0, none⟩)] w fun e w' => Below w0.heap.size w0 w' ∧ e = .returned (.tuple #[.int .i64 (headQ cA).1, .int .i64 (headQ cA).2]) ∧ Dual w' w0.heap.size gq gr most cA.tail cB :=
  h.stepA (fun ok hA hf => takeQ ok gq most cA w0 w hB hA)
theorem Dual.putA {w w0 : World} {gq gr : Nat} {most : Int} {cA cB : List Int} (x : Int) (hB : Below w0.heap.size w0 w) (h : Dual w w0.heap.size gq gr most cA cB) :
    Calls Try.prog 22 #[.pointer (some ⟨gq, 0, none⟩), .int .i64 x] w fun e w' => Below w0.heap.size w0 w' ∧ e = .returned (.int .i64 (if (cA.length : Int) = most then 20 else 0)) ∧ Dual w' w0.heap.size gq gr most (if (cA.length : Int) = most then cA else cA ++ [x]) cB :=
  h.stepA (fun ok hA hf => putQ ok gq most cA x w0 w hB hA hf)
theorem Dual.takeB {w w0 : World} {gq gr : Nat} {most : Int} {cA cB : List Int} (hB : Below w0.heap.size w0 w) (h : Dual w w0.heap.size gq gr most cA cB) :
    Calls Try.prog 21 #[.pointer (some ⟨gr, 0, none⟩)] w fun e w' => Below w0.heap.size w0 w' ∧ e = .returned (.tuple #[.int .i64 (headQ cB).1, .int .i64 (headQ cB).2]) ∧ Dual w' w0.heap.size gq gr most cA cB.tail :=
  h.stepB (fun ok v hR hf => RefQ_Take.calls ok gr most v cB w0 w hB hR)
theorem Dual.putB {w w0 : World} {gq gr : Nat} {most : Int} {cA cB : List Int} (x : Int) (hB : Below w0.heap.size w0 w) (h : Dual w w0.heap.size gq gr most cA cB) :
    Calls Try.prog 23 #[.pointer (some ⟨gr, 0, none⟩), .int .i64 x] w fun e w' => Below w0.heap.size w0 w' ∧ e = .returned (.int .i64 (if (cB.length : Int) = most then 20 else 0)) ∧ Dual w' w0.heap.size gq gr most cA (if (cB.length : Int) = most then cB else cB ++ [x]) :=
  h.stepB (fun ok v hR hf => RefQ_Put.calls ok gr most v cB x w0 w hB hR hf)
theorem dual_new {w1 w2 : World} {base gq gr : Nat} {most : Int} (hA : QState w1 base tt gq most []) (hB : RQ w2 base tt gr most (.slice none 0 0) []) (hb : Below w1.heap.size w1 w2) : Dual w2 base gq gr most [] [] :=
  ⟨_, fun _ => False, _, (hA.below hb).typed, ⟨hB.blk, Kd.Q_nil _ _ _ _ _, hB.ge, hB.le⟩, fun k h => h.2, fun k h => h.elim, fun k h h' => h'⟩
def ebbtidelaw02_PileQueues.f (_ : Nat) (_ : Int) (_ : List S32) : Option Bool := some true
def PileQueues.T16 : Bool × List (List Nat × List Nat) := (true, [([], []), ([], []), ([], []), ([1, 2], [1, 2]), ([3], [3]), ([4], [4]), ([0, 5], [0, 5]), ([], []), ([], []), ([], []), ([8, 9], [8, 9]), ([10], [10]), ([11], [11]), ([7, 12, 6], [7, 12]), ([6, 13], [6, 13])])
def PileQueues.B16 : List Nat := [0, 0, 0, 6, 14, 30, 63, 0, 0, 0, 768, 1792, 3840, 8191, 16383]
theorem PileQueues.tab16 : rtab .any (opsOf Try.f4 16) = PileQueues.T16 := by kernel_rfl
theorem PileQueues.bits16 : waitsOk PileQueues.T16.2 PileQueues.B16 = true := by kernel_rfl
def PileQueues.T18 : Bool × List (List Nat × List Nat) := (true, [([], []), ([0], [0]), ([], []), ([2], [2]), ([3], [3]), ([4], [4]), ([5], [5]), ([1, 6], [1, 6])])
def PileQueues.B18 : List Nat := [0, 1, 0, 4, 12, 28, 60, 127]
theorem PileQueues.tab18 : rtab .any (opsOf Try.f4 18) = PileQueues.T18 := by kernel_rfl
theorem PileQueues.bits18 : waitsOk PileQueues.T18.2 PileQueues.B18 = true := by kernel_rfl
set_option maxHeartbeats 8000000 in
set_option maxRecDepth 100000 in
theorem ebbtidelaw02_PileQueues.calls (k : Nat) (most : Int) (A1 : Option Addr) (c1 : Nat) (l1 : List S32) (r : Bool) (w : World) (hr1 : Kd.C k32 w A1 l1.length l1) (hc1 : l1.length ≤ c1) (h : ebbtidelaw02_PileQueues.f k most l1 = some r) (hrt : r = true := by first | rfl | exact HRT.out | assumption) :
    Calls Try.prog 4 #[.int .i64 most, .slice A1 l1.length c1] w fun e w' => e = .returned (.bool r) ∧ Below w.heap.size w w' := by
  subst hrt
  have HR1 := Aside0.mk hr1
  have HC1 := Aside0.mk hc1
  have HB := Aside0.mk (Below.refl w.heap.size w)
  have hu54 := Try.underlying54
  have hu52 := Try.underlying52
  have hu32 := Try.underlying32
  have hu22 := Try.underlying22
  clear hr1 hc1 h
  by_cases c : 0 ≤ most ∧ most ≤ 65536
  · have CC := Aside0.mk c
    clear c
    go_enter Try.func4, Try.ntmps4
    go_wp2_with (first
      | (go_at_call 8; refine (ebbtidelaw02_awake.calls 0 true _ rfl).mono ?_; rintro e w4 ⟨rfl, hb⟩; have n0_ := Aside0.mk (below_step HB.out hb); clear HB hb; have HB := n0_; clear n0_)
      | (go_at_call 18; refine (newQ most _ CC.out.1 CC.out.2).mono ?_; rintro e w2 ⟨hb, gq, rfl, hq⟩; have n2_ := Aside0.mk (hq.lower (below_size HB.out)); have n0_ := Aside0.mk (below_step HB.out hb); clear HB hb hq; have HB := n0_; have HQ := n2_; clear n0_ n2_)
      | (go_at_call 19; refine (RefQ_New.calls most _).mono ?_; rintro e w3 ⟨hb, hq⟩; rw [if_pos CC.out] at hq; obtain ⟨gr, rfl, hq⟩ := hq; have n2_ := Aside0.mk (dual_new HQ.out (hq.lower (below_size HB.out)) hb); have n0_ := Aside0.mk (below_step HB.out hb); clear HB HQ hb hq; have HB := n0_; have HD := n2_; clear n0_ n2_))
    go_loopg [10] (min l1.length 300) (fun kq v10 w' => ∃ (i : Nat) (c : List Int), v10 = .int .i64 (i : Int) ∧ Aside0 (i + kq = min l1.length 300) ∧ Aside0 (Below w.heap.size w w') ∧ Aside0 (Dual w' w.heap.size gq gr most c c))
    case atStart => exact ⟨0, [], rfl, ⟨by omega⟩, HB, HD⟩
    case round =>
      clear HB HD
      obtain ⟨i, c, rfl, HI, HB, HD⟩ := hrel
      cases gk with
      | zero =>
        by_cases ci : i < l1.length
        · have d1 : decide ((i : Int) < (l1.length : Int)) = true := decide_eq_true (by omega)
          have d2 : decide (i < l1.length) = true := decide_eq_true ci
          have d3 : decide ((i : Int) < 300) = false := decide_eq_false (by have := HI.out; omega)
          have d4 : decide (i < 300) = false := decide_eq_false (by have := HI.out; omega)
          clear ci
          go_wp2
          go_ret
          exact ⟨rfl, HB.out⟩
        · have d1 : decide ((i : Int) < (l1.length : Int)) = false := decide_eq_false (by omega)
          have d2 : decide (i < l1.length) = false := decide_eq_false ci
          clear ci
          go_wp2
          go_ret
          exact ⟨rfl, HB.out⟩
      | succ gk =>
        have HLT : Aside0 (i < l1.length ∧ i < 300) := ⟨by have := HI.out; omega, by have := HI.out; omega⟩
        have d1 : decide ((i : Int) < (l1.length : Int)) = true := decide_eq_true (by have := HLT.out; omega)
        have d2 : decide (i < l1.length) = true := decide_eq_true HLT.out.1
        have d3 : decide ((i : Int) < 300) = true := decide_eq_true (by have := HLT.out; omega)
        have d4 : decide (i < 300) = true := decide_eq_true HLT.out.2
        have p1 := eq_true (show (0 : Int) ≤ (i : Int) by omega)
        have p2 := eq_true (show (i : Int) < (l1.length : Int) by have := HLT.out; omega)
        have hwi : wrap64 ((i : Int) + 1) = ((i + 1 : Nat) : Int) := wrapId (by omega) (by have := HLT.out; omega)
        have HWI := Aside0.mk hwi
        clear hwi
        obtain ⟨ad, ea, hx0, hx1, hx2⟩ := at_T32 (Kd.C_below HR1.out HB.out) (i : Int) (by omega) (by have := HLT.out; omega)
        subst ea
        rw [Int.toNat_natCast] at hx0 hx1
        obtain ⟨x0, e0⟩ : ∃ x, (rd_T32 l1 (i : Int)).f0 = x := ⟨_, rfl⟩
        obtain ⟨x1, e1⟩ : ∃ x, (rd_T32 l1 (i : Int)).f1 = x := ⟨_, rfl⟩
        rw [e0] at hx0
        rw [e1] at hx1
        have HE1 := Aside0.mk e1
        clear e0 e1 hx2
        have hxt : ∀ w' : World, Below w.heap.size w w' → w'.cell? ⟨(ad.add (i * 3)).block, (ad.add (i * 3)).off + 1, none⟩ = some (.int .i64 x1) := fun w' hb => by
          obtain ⟨ad', ea, _, h1, _⟩ := at_T32 (Kd.C_below HR1.out hb) (i : Int) (by omega) (by have := HLT.out; omega)
          obtain rfl := Option.some.inj ea
          rw [Int.toNat_natCast, HE1.out] at h1
          exact h1
        have HXT := Aside0.mk hxt
        clear hxt hx1
        obtain ⟨bf, hf⟩ : ∃ b, decide (4 ≤ bits BinOp.and IntKind.i64 x0 7) = b := ⟨_, rfl⟩
        cases bf
        · go_wp2
          clear hx0
          have n0_ := Aside0.mk (below_drew1 HB.out)
          have n1_ := Aside0.mk (HD.out.below (below_drew (Below.refl _ _)))
          clear HB HD
          have HB := n0_
          have HD := n1_
          clear n0_ n1_
          refine start_ (n := 15) (S := fun w' => w'.cell? ⟨(ad.add (i * 3)).block, (ad.add (i * 3)).off + 1, none⟩ = some (.int .i64 x1)) (ds := []) #[Ff,Ff,Ff,Ff,Ff,Ff,Ff,Ff,Ff,Ff,Ff,Ff,Ff,Ff,Ff] (by kernel_rfl) rfl rfl (HXT.out _ HB.out) (fun hHeld => ?_)
          generalize wr.drew = w4 at HB HD hHeld ⊢
          refine with_tabW PileQueues.tab16 PileQueues.bits16 (fun HT_ HW_ => ?_)
          refine pv_ 0 77 #[Tt,Ff,Ff,Ff,Ff,Ff,Ff,Ff,Ff,Ff,Ff,Ff,Ff,Ff,Ff] ?_
          refine pv_ 1 78 #[Tt,Tt,Ff,Ff,Ff,Ff,Ff,Ff,Ff,Ff,Ff,Ff,Ff,Ff,Ff] ?_
          refine pv_ 2 79 #[Tt,Tt,Tt,Ff,Ff,Ff,Ff,Ff,Ff,Ff,Ff,Ff,Ff,Ff,Ff] ?_
          refine pv_ 3 80 #[Tt,Tt,Tt,Tt,Ff,Ff,Ff,Ff,Ff,Ff,Ff,Ff,Ff,Ff,Ff] ?_
          refine pv_ 4 81 #[Tt,Tt,Tt,Tt,Tt,Ff,Ff,Ff,Ff,Ff,Ff,Ff,Ff,Ff,Ff] ?_
          refine pv_ 7 84 #[Tt,Tt,Tt,Tt,Tt,Ff,Ff,Tt,Ff,Ff,Ff,Ff,Ff,Ff,Ff] ?_
          refine pv_ 8 85 #[Tt,Tt,Tt,Tt,Tt,Ff,Ff,Tt,Tt,Ff,Ff,Ff,Ff,Ff,Ff] ?_
          refine pv_ 9 86 #[Tt,Tt,Tt,Tt,Tt,Ff,Ff,Tt,Tt,Tt,Ff,Ff,Ff,Ff,Ff] ?_
          refine pv_ 10 87 #[Tt,Tt,Tt,Tt,Tt,Ff,Ff,Tt,Tt,Tt,Tt,Ff,Ff,Ff,Ff] ?_
          refine pv_ 11 88 #[Tt,Tt,Tt,Tt,Tt,Ff,Ff,Tt,Tt,Tt,Tt,Tt,Ff,Ff,Ff] ?_
          refine take_ (i := 5) (N := (some 82)) (v := ?_) (a' := ?_) #[Tt,Tt,Tt,Tt,Tt,Tt,Ff,Tt,Tt,Tt,Tt,Tt,Ff,Ff,Ff] rfl rfl (take_ofW HT_.out HW_.out (by kernel_rfl)) (fun _ _ _ h => h) (Or.inl ⟨by rfl, ?_⟩) hHeld ?_ ?_
          rotate_left
          · intro w' s0
            go_simp
            with_reducible rfl
          rotate_left
          exact ap_
          refine take_ (i := 12) (N := (some 89)) (v := ?_) (a' := ?_) #[Tt,Tt,Tt,Tt,Tt,Tt,Ff,Tt,Tt,Tt,Tt,Tt,Tt,Ff,Ff] rfl rfl (take_ofW HT_.out HW_.out (by kernel_rfl)) (fun _ _ _ h => h) (Or.inl ⟨by rfl, ?_⟩) hHeld ?_ ?_
          rotate_left
          · intro w' s0
            go_simp
            with_reducible rfl
          rotate_left
          exact ap_
          refine one_ (i := 6) (N := (some 83)) #[Tt,Tt,Tt,Tt,Tt,Tt,Tt,Tt,Tt,Tt,Tt,Tt,Tt,Ff,Ff] rfl rfl (one_of HT_.out (by kernel_rfl)) (by decide) (fun K hK => ?_)
          refine goes_ Try.func22 (by kernel_rfl) rfl #[.pointer (some ⟨gq, 0, none⟩), .int .i64 x1] (by rfl) rfl rfl (by (try simp only [List.map_toArray, List.map_cons, List.map_nil]); first | done | rfl) ?_
          obtain ⟨rr, hrr⟩ : ∃ rr, (if (c.length : Int) = most then (20 : Int) else 0) = rr := ⟨_, rfl⟩
          obtain ⟨d, hd⟩ : ∃ d, (if (c.length : Int) = most then c else c ++ [x1]) = d := ⟨_, rfl⟩
          have HRR := Aside0.mk hrr
          have HDD := Aside0.mk hd
          clear hrr hd
          refine (Dual.putA x1 HB.out HD.out).mono ?_
          rintro e w5 ⟨hb, he, hp⟩
          rw [HRR.out] at he
          rw [HDD.out] at hp
          subst he
          have n0_ := Aside0.mk hb
          have n1_ := Aside0.mk hp
          clear HB HD hb hp
          have HB := n0_
          have HD := n1_
          clear n0_ n1_ hHeld
          refine ⟨_, rfl, hK.out _ _ (HXT.out _ HB.out) (fun hHeld => ?_)⟩
          clear hK K
          refine norm_ (a' := ?_) ?_ ?_
          rotate_left
          · show Act.put _ (some 83) _ = _
            simp only [Act.put, List.setIfInBounds_toArray, List.set_cons_zero, List.set_cons_succ, i64_w, i32_w]
            rfl
          refine one_ (i := 13) (N := (some 90)) #[Tt,Tt,Tt,Tt,Tt,Tt,Tt,Tt,Tt,Tt,Tt,Tt,Tt,Tt,Ff] rfl rfl (one_of HT_.out (by kernel_rfl)) (by decide) (fun K hK => ?_)
          refine goes_ Try.func23 (by kernel_rfl) rfl #[.pointer (some ⟨gr, 0, none⟩), .int .i64 x1] (by rfl) rfl rfl (by (try simp only [List.map_toArray, List.map_cons, List.map_nil]); first | done | rfl) ?_
          refine (Dual.putB x1 HB.out HD.out).mono ?_
          rintro e w6 ⟨hb, he, hp⟩
          rw [HRR.out] at he
          rw [HDD.out] at hp
          subst he
          have n0_ := Aside0.mk hb
          have n1_ := Aside0.mk hp
          clear HB HD hb hp
          have HB := n0_
          have HD := n1_
          clear n0_ n1_ hHeld HRR HDD
          refine ⟨_, rfl, hK.out _ _ (HXT.out _ HB.out) (fun hHeld => ?_)⟩
          clear hK K
          refine norm_ (a' := ?_) ?_ ?_
          rotate_left
          · show Act.put _ (some 90) _ = _
            simp only [Act.put, List.setIfInBounds_toArray, List.set_cons_zero, List.set_cons_succ, i64_w, i32_w]
            rfl
          refine pv_ 14 91 #[Tt,Tt,Tt,Tt,Tt,Tt,Tt,Tt,Tt,Tt,Tt,Tt,Tt,Tt,Tt] ?_
          refine done_ (done_of HT_.out (by kernel_rfl)) ?_
          clear hHeld HT_ HW_
          go_wp2
          obtain ⟨Ab, cb, hlb⟩ := HD.out.listB
          have n0_ := Aside0.mk (below_drew1 HB.out)
          have n1_ := Aside0.mk (HD.out.below (below_drew (Below.refl _ _)))
          have n2_ := Aside0.mk hlb
          clear HB HD hlb
          have HB := n0_
          have HD := n1_
          have HLB := n2_
          clear n0_ n1_ n2_
          refine start_ (n := 8) (S := fun w' => w'.cell? ⟨gr, 1, none⟩ = some (.slice Ab d.length cb)) (ds := []) #[Ff,Ff,Ff,Ff,Ff,Ff,Ff,Ff] (by kernel_rfl) rfl rfl HLB.out (fun hHeld => ?_)
          generalize World.drew _ = w7 at HB HD hHeld ⊢
          refine with_tabW PileQueues.tab18 PileQueues.bits18 (fun HT_ HW_ => ?_)
          refine pv_ 0 92 #[Tt,Ff,Ff,Ff,Ff,Ff,Ff,Ff] ?_
          refine pv_ 2 94 #[Tt,Ff,Tt,Ff,Ff,Ff,Ff,Ff] ?_
          refine pv_ 3 95 #[Tt,Ff,Tt,Tt,Ff,Ff,Ff,Ff] ?_
          refine pv_ 4 96 #[Tt,Ff,Tt,Tt,Tt,Ff,Ff,Ff] ?_
          refine take_ (i := 5) (N := (some 97)) (v := ?_) (a' := ?_) #[Tt,Ff,Tt,Tt,Tt,Tt,Ff,Ff] rfl rfl (take_ofW HT_.out HW_.out (by kernel_rfl)) (fun _ _ _ h => h) (Or.inl ⟨by rfl, ?_⟩) hHeld ?_ ?_
          rotate_left
          · intro w' s0
            go_simp
            with_reducible rfl
          rotate_left
          exact ap_
          refine pv_ 6 98 #[Tt,Ff,Tt,Tt,Tt,Tt,Tt,Ff] ?_
          refine one_ (i := 1) (N := (some 93)) #[Tt,Tt,Tt,Tt,Tt,Tt,Tt,Ff] rfl rfl (one_of HT_.out (by kernel_rfl)) (by decide) (fun K hK => ?_)
          refine goes_ Try.func24 (by kernel_rfl) rfl #[.pointer (some ⟨gq, 0, none⟩)] (by rfl) rfl rfl (by (try simp only [List.map_toArray, List.map_cons, List.map_nil]); first | done | rfl) ?_
          refine HD.out.lenA.mono ?_
          rintro e w8 ⟨rfl, rfl⟩
          refine ⟨_, rfl, hK.out _ _ hHeld (fun hHeld => ?_)⟩
          clear hK K
          refine pv_ 7 99 #[Tt,Tt,Tt,Tt,Tt,Tt,Tt,Tt] ?_
          refine done_ (done_of HT_.out (by kernel_rfl)) ?_
          clear hHeld HT_ HW_
          go_wp2
          go_roundg gk
          case measure => omega
          case rel => exact ⟨i + 1, d, congrArg (Value.int .i64) HWI.out, ⟨by have := HI.out; omega⟩, HB, HD⟩
        · go_wp2_with (first
            | (go_at_call 20; refine (Dual.takeA HB.out HD.out).mono ?_; rintro e w5 ⟨hb, rfl, hp⟩; have n0_ := Aside0.mk hb; have n1_ := Aside0.mk hp; clear hx0 HB HD hb hp; have HB := n0_; have HD := n1_; clear n0_ n1_)
            | (go_at_call 21; refine (Dual.takeB HB.out HD.out).mono ?_; rintro e w6 ⟨hb, rfl, hp⟩; have n0_ := Aside0.mk hb; have n1_ := Aside0.mk hp; clear HB HD hb hp; have HB := n0_; have HD := n1_; clear n0_ n1_))
          obtain ⟨d, hd⟩ : ∃ d, c.tail = d := ⟨_, rfl⟩
          rw [hd] at HD
          clear hd
          obtain ⟨Ab, cb, hlb⟩ := HD.out.listB
          have n0_ := Aside0.mk (below_drew1 HB.out)
          have n1_ := Aside0.mk (HD.out.below (below_drew (Below.refl _ _)))
          have n2_ := Aside0.mk hlb
          clear HB HD hlb
          have HB := n0_
          have HD := n1_
          have HLB := n2_
          clear n0_ n1_ n2_
          refine start_ (n := 8) (S := fun w' => w'.cell? ⟨gr, 1, none⟩ = some (.slice Ab d.length cb)) (ds := []) #[Ff,Ff,Ff,Ff,Ff,Ff,Ff,Ff] (by kernel_rfl) rfl rfl HLB.out (fun hHeld => ?_)
          generalize World.drew _ = w7 at HB HD hHeld ⊢
          refine with_tabW PileQueues.tab18 PileQueues.bits18 (fun HT_ HW_ => ?_)
          refine pv_ 0 92 #[Tt,Ff,Ff,Ff,Ff,Ff,Ff,Ff] ?_
          refine pv_ 2 94 #[Tt,Ff,Tt,Ff,Ff,Ff,Ff,Ff] ?_
          refine pv_ 3 95 #[Tt,Ff,Tt,Tt,Ff,Ff,Ff,Ff] ?_
          refine pv_ 4 96 #[Tt,Ff,Tt,Tt,Tt,Ff,Ff,Ff] ?_
          refine take_ (i := 5) (N := (some 97)) (v := ?_) (a' := ?_) #[Tt,Ff,Tt,Tt,Tt,Tt,Ff,Ff] rfl rfl (take_ofW HT_.out HW_.out (by kernel_rfl)) (fun _ _ _ h => h) (Or.inl ⟨by rfl, ?_⟩) hHeld ?_ ?_
          rotate_left
          · intro w' s0
            go_simp
            with_reducible rfl
          rotate_left
          exact ap_
          refine pv_ 6 98 #[Tt,Ff,Tt,Tt,Tt,Tt,Tt,Ff] ?_
          refine one_ (i := 1) (N := (some 93)) #[Tt,Tt,Tt,Tt,Tt,Tt,Tt,Ff] rfl rfl (one_of HT_.out (by kernel_rfl)) (by decide) (fun K hK => ?_)
          refine goes_ Try.func24 (by kernel_rfl) rfl #[.pointer (some ⟨gq, 0, none⟩)] (by rfl) rfl rfl (by (try simp only [List.map_toArray, List.map_cons, List.map_nil]); first | done | rfl) ?_
          refine HD.out.lenA.mono ?_
          rintro e w8 ⟨rfl, rfl⟩
          refine ⟨_, rfl, hK.out _ _ hHeld (fun hHeld => ?_)⟩
          clear hK K
          refine pv_ 7 99 #[Tt,Tt,Tt,Tt,Tt,Tt,Tt,Tt] ?_
          refine done_ (done_of HT_.out (by kernel_rfl)) ?_
          clear hHeld HT_ HW_
          go_wp2
          go_roundg gk
          case measure => omega
          case rel => exact ⟨i + 1, d, congrArg (Value.int .i64) HWI.out, ⟨by have := HI.out; omega⟩, HB, HD⟩
  · have CC := Aside0.mk c
    clear c
    have hbad : ∀ w, Calls Try.prog 18 #[.int .i64 most] w fun e w' => Below w.heap.size w w' ∧ e = .returned (.tuple #[.pointer none, .int .i64 1]) := fun w => (Queue_New.calls most w).mono (fun e w' h => ⟨h.1, by have h2 := h.2; rw [if_neg CC.out] at h2; exact h2⟩)
    have HBAD := Aside0.mk hbad
    have hbad2 : ∀ w, Calls Try.prog 19 #[.int .i64 most] w fun e w' => Below w.heap.size w w' ∧ e = .returned (.tuple #[.pointer none, .int .i64 1]) := fun w => (RefQ_New.calls most w).mono (fun e w' h => ⟨h.1, by have h2 := h.2; rw [if_neg CC.out] at h2; exact h2⟩)
    have HBAD2 := Aside0.mk hbad2
    clear hbad hbad2
    go_enter Try.func4, Try.ntmps4
    go_wp2_with (first
      | (go_at_call 8; refine (ebbtidelaw02_awake.calls 0 true _ rfl).mono ?_; rintro e w4 ⟨rfl, hb⟩; have n0_ := Aside0.mk (below_step HB.out hb); clear HB hb; have HB := n0_; clear n0_)
      | (go_at_call 18; refine (HBAD.out _).mono ?_; rintro e w2 ⟨hb, rfl⟩; have n0_ := Aside0.mk (below_step HB.out hb); clear HB hb; have HB := n0_; clear n0_)
      | (go_at_call 19; refine (HBAD2.out _).mono ?_; rintro e w3 ⟨hb, rfl⟩; have n0_ := Aside0.mk (below_step HB.out hb); clear HB hb; have HB := n0_; clear n0_))
    go_loopg [10] 0 (fun kq v10 w' => v10 = .int .i64 0 ∧ Aside0 (Below w.heap.size w w'))
    case atStart => exact ⟨rfl, HB⟩
    case round =>
      clear HB
      obtain ⟨rfl, HB⟩ := hrel
      go_wp2
      go_ret
      exact ⟨rfl, HB.out⟩
end Go.Proofs.Ytloebciamfbjfaa.Q
end
section
namespace Go.Proofs.Ytloebciamfbjfaa.R
open Go.RowKit Go.Proofs.Ytloebciamfbjfaa.Q Go.Proofs.YtloebciamfbjfaaW.PrintWords Go.Proofs.YtloebciamfbjfaaW.PrintLast Go.Proofs.YtloebciamfbjfaaW.PrintMore
open Go.ChangeShapes Go.WideShapes Go.Deep
def Reads (t : TypeId) {α : Type} (d : Kd α) (G : Nat → α → Prop) : Prop :=
  ∀ {H : Type} (enc : TypeId × Value → H) (w : World) (base : Nat) (spare : Nat → Bool) (held : Bool) (fuel : Nat) (cs : List Value) (x : DataW H × List MemPlace),
    DataW.trod enc Try.prog w base spare held fuel t cs = some x → ∃ a, d.K w a cs ∧ ∀ N, Rows.uptoBulk x.1 ≤ N → G N a
def gInt (k : IntKind) (_ : Nat) (n : Int) : Prop := (Lit.int k n).wf = true
def gList {α : Type} (G : Nat → α → Prop) (N : Nat) (l : List α) : Prop := l.length ≤ maxLen ∧ l.length ≤ N ∧ ∀ x ∈ l, G N x
theorem readsInt {t : TypeId} {k : IntKind} (ht : Try.prog.underlying t = some (.int k)) : Reads t (Kd.int k) (gInt k) := by
  intro H enc w base spare held fuel cs x h
  obtain ⟨n, rfl, rfl, hw⟩ := DataW.trod_int ht h
  exact ⟨n, rfl, fun _ _ => hw⟩
theorem one_le {H : Type} (d : DataW H) : 1 ≤ Rows.uptoBulk d := by
  cases d with
  | lit l => cases l <;> simp [Rows.uptoBulk]
  | nil => simp [Rows.uptoBulk]
  | ptr d => simp [Rows.uptoBulk]
  | slice elems spare => simp [Rows.uptoBulk]
  | agg parts => simp [Rows.uptoBulk]
  | iface t d => simp [Rows.uptoBulk]
  | map entries => simp [Rows.uptoBulk]
  | held h => simp [Rows.uptoBulk]
theorem part_le {H : Type} {d : DataW H} {l : List (DataW H)} (h : d ∈ l) : Rows.uptoBulk d ≤ Rows.uptoBulkAll l := by
  induction l with
  | nil => cases h
  | cons x r ih =>
    simp only [Rows.uptoBulkAll]
    cases List.mem_cons.1 h with
    | inl e => subst e; omega
    | inr e => have := ih e; omega
theorem length_le {H : Type} (l : List (DataW H)) : l.length ≤ Rows.uptoBulkAll l := by
  induction l with
  | nil => simp [Rows.uptoBulkAll]
  | cons x r ih => have := one_le x; simp only [Rows.uptoBulkAll, List.length_cons]; omega
theorem readsSlice {t e : TypeId} {α : Type} [Inhabited α] {d : Kd α} {G : Nat → α → Prop} (ht : Try.prog.underlying t = some (.slice e)) (hc : Try.prog.cellsOf e = d.sz) (R : Reads e d G) : Reads t (Kd.slice e d) (gList G) := by
  intro H enc w base spare held fuel cs x h
  rcases open_slice ht h with ⟨rfl, rfl⟩ | ⟨a, len, cap, m, n, D, Pl, rfl, hb, hl, hm, hmm, rfl, hx⟩
  · exact ⟨[], ⟨none, 0, rfl, Nat.le_refl _, Kd.C_nil d w⟩, fun N _ => ⟨Nat.zero_le _, Nat.zero_le _, fun x hx => by cases hx⟩⟩
  · have hlm : len ≤ m := by rw [hmm]; split <;> omega
    obtain ⟨f, hf⟩ := choose_lt (α := α) (n := m) (p := fun i y => ∃ c, c.length = d.sz ∧ d.K w y c ∧ (∀ j u, c[j]? = some u → w.cell? (a.add (i * d.sz + j)) = some u) ∧ ∀ N, Rows.uptoBulk (D i) ≤ N → G N y) (fun i hi => by
      obtain ⟨c, h1, h2⟩ := hx i hi
      obtain ⟨y, hK, hG⟩ := R enc w base spare held n c _ h2
      obtain ⟨_, hlen, hcell⟩ := World.cells?_some h1
      rw [hc] at hlen hcell
      refine ⟨y, c, hlen, hK, fun j u hu => ?_, hG⟩
      have hj : j < d.sz := by rw [← hlen]; exact (List.getElem?_eq_some_iff.1 hu).1
      have := hcell j hj
      rw [Deep.add_add] at this
      rw [this, hu])
    have hL : ((List.range len).map f).length = len := by simp
    refine ⟨(List.range len).map f, ⟨some a, cap, by rw [hL], by rw [hL]; exact hl, ?_⟩, fun N hN => ?_⟩
    · refine ⟨rfl, by rw [hL]; exact Nat.le_trans hl (Nat.le_trans hm (by decide)), fun _ => ⟨a, rfl, fun j p hj => ?_⟩⟩
      have hjl : j < len := by
        have := (List.getElem?_eq_some_iff.1 hj).1
        rwa [hL] at this
      have hp : f j = p := by
        rw [List.getElem?_map, List.getElem?_range hjl] at hj
        exact Option.some.inj hj
      obtain ⟨c, h1, h2, h3, _⟩ := hf j (by omega)
      rw [hp] at h2
      exact ⟨c, h1, h2, h3⟩
    · have hbulk : Rows.uptoBulkAll ((List.range len).map D) ≤ N := by
        simp only [Rows.uptoBulk] at hN
        omega
      refine ⟨by rw [hL]; omega, by rw [hL]; have := length_le ((List.range len).map D); simp at this; omega, fun y hy => ?_⟩
      obtain ⟨i, hi, rfl⟩ := List.mem_map.1 hy
      have hi' := List.mem_range.1 hi
      obtain ⟨c, _, _, _, hG⟩ := hf i (by omega)
      exact hG N (Nat.le_trans (part_le (List.mem_map.2 ⟨i, hi, rfl⟩)) hbulk)
instance : Inhabited S32 := ⟨z32⟩
def g32 (N : Nat) (x : S32) : Prop := gInt .i64 N x.f0 ∧ gInt .i64 N x.f1 ∧ gInt .i64 N x.f2
set_option maxRecDepth 100000 in
theorem reads32 : Reads 32 k32 g32 := by
  intro H enc w base spare held fuel cs x h
  obtain ⟨xs, n, _, hx, hl, hlen, hf⟩ := DataW.trod_struct Try.underlying32 h
  have hl2 : cs.length = 3 := hl.trans (by kernel_rfl)
  have hlen2 : xs.length = 3 := hlen
  match xs, hlen2, cs, hl2 with
  | [y0, y1, y2], _, [v0, v1, v2], _ =>
    have c0 : Try.prog.cellsOf 3 = 1 := by kernel_rfl
    have e0 : DataW.trod enc Try.prog w base spare held n 3 (List.take (Try.prog.cellsOf 3) (List.drop 0 [v0, v1, v2])) = some y0 := hf 0 _ rfl
    rw [c0] at e0
    obtain ⟨a0, K0, G0⟩ := (readsInt Try.underlying3) enc w base spare held n [v0] y0 e0
    have c1 : Try.prog.cellsOf 3 = 1 := by kernel_rfl
    have e1 : DataW.trod enc Try.prog w base spare held n 3 (List.take (Try.prog.cellsOf 3) (List.drop 1 [v0, v1, v2])) = some y1 := hf 1 _ rfl
    rw [c1] at e1
    obtain ⟨a1, K1, G1⟩ := (readsInt Try.underlying3) enc w base spare held n [v1] y1 e1
    have c2 : Try.prog.cellsOf 3 = 1 := by kernel_rfl
    have e2 : DataW.trod enc Try.prog w base spare held n 3 (List.take (Try.prog.cellsOf 3) (List.drop 2 [v0, v1, v2])) = some y2 := hf 2 _ rfl
    rw [c2] at e2
    obtain ⟨a2, K2, G2⟩ := (readsInt Try.underlying3) enc w base spare held n [v2] y2 e2
    refine ⟨⟨a0, a1, a2⟩, ⟨_, _, rfl, K0, ⟨_, _, rfl, K1, K2⟩⟩, fun N hN => ?_⟩
    rw [hx] at hN
    simp only [List.map_cons, List.map_nil, Rows.uptoBulk, Rows.uptoBulkAll] at hN
    exact ⟨G0 N (by omega), G1 N (by omega), G2 N (by omega)⟩
end Go.Proofs.Ytloebciamfbjfaa.R
end
section
namespace Go.Proofs.Ytloebciamfbjfaa.R
open Go.RowKit Go.Proofs.Ytloebciamfbjfaa.Q Go.Proofs.YtloebciamfbjfaaW.PrintWords Go.Proofs.YtloebciamfbjfaaW.PrintLast Go.Proofs.YtloebciamfbjfaaW.PrintMore
def PileQueues.Pure : Prop := ∀ N0 : Nat, ∀ N1 : Nat, ∀ (x0 : Int) (x1 : List S32), gInt .i64 N0 x0 → gList (g32) N1 x1 → ∃ k, ebbtidelaw02_PileQueues.f k x0 x1 = some true
end Go.Proofs.Ytloebciamfbjfaa.R
end
section
namespace Go.Proofs.Ytloebciamfbjfaa.Pure
open Go.RowKit Go.Proofs.Ytloebciamfbjfaa.Q Go.Proofs.YtloebciamfbjfaaW.PrintWords Go.Proofs.YtloebciamfbjfaaW.PrintLast Go.Proofs.YtloebciamfbjfaaW.PrintMore
open Go.Proofs.Ytloebciamfbjfaa.R
theorem PileQueues : PileQueues.Pure := fun _ _ _ _ _ _ => ⟨0, rfl⟩
end Go.Proofs.Ytloebciamfbjfaa.Pure
end
section
namespace Go.Proofs.Ytloebciamfbjfaa
open Go Go.RowKit
def ioHead : List Char := List.map Char.ofNat [104, 97, 114, 110, 101, 115, 115, 32, 102, 56, 48, 50, 52, 56, 55, 98, 101, 56, 98, 56, 54, 50, 49, 99, 48, 49, 54, 99, 50, 55, 50, 100, 57, 54, 102, 102, 98, 51, 54, 99, 50, 52, 99, 100, 99, 50, 52, 49, 97, 57, 55, 48, 50, 56, 52, 55, 102, 56, 102, 99, 52, 97, 97, 53, 98, 97, 48, 101, 49, 55, 53, 102, 32, 99, 117, 116, 32]
def ioRest : List Char := List.map Char.ofNat [97, 116, 32, 101, 98, 98, 116, 105, 100, 101, 47, 101, 98, 98, 116, 105, 100, 101, 108, 97, 119, 48, 50, 46, 80, 105, 108, 101, 80, 108, 97, 121, 115, 32, 101, 98, 98, 116, 105, 100, 101, 47, 101, 98, 98, 116, 105, 100, 101, 108, 97, 119, 48, 50, 46, 80, 105, 108, 101, 81, 117, 101, 117, 101, 115, 32, 101, 98, 98, 116, 105, 100, 101, 47, 101, 98, 98, 116, 105, 100, 101, 108, 97, 119, 48, 50, 46, 80, 105, 108, 101, 82, 111, 117, 110, 100, 115, 32, 101, 98, 98, 116, 105, 100, 101, 47, 101, 98, 98, 116, 105, 100, 101, 108, 97, 119, 48, 50, 46, 80, 105, 108, 101, 83, 111, 114, 116, 115, 32, 101, 98, 98, 116, 105, 100, 101, 47, 101, 98, 98, 116, 105, 100, 101, 108, 97, 119, 48, 50, 46, 80, 105, 108, 101, 79, 114, 100, 101, 114, 115]
set_option maxRecDepth 100000 in
theorem io_eq : Try.pinned.checked.prog.initOrder = String.ofList (ioHead ++ ioRest) := by kernel_rfl
theorem io_toList : Try.pinned.checked.prog.initOrder.toList = ioHead ++ ioRest := by rw [io_eq]; exact String.toList_ofList
def ioCut : List Char := List.map Char.ofNat [99, 117, 116]
set_option maxRecDepth 100000 in
theorem io_words (r : List Char) : behindMainWord (wordsSigns (ioHead ++ r)) = ioCut :: wordsSigns r := by kernel_rfl
theorem io_behind : ∃ X, behindMainWord (wordsSigns Try.pinned.checked.prog.initOrder.toList) = ioCut :: X := ⟨_, by rw [io_toList]; exact io_words _⟩
theorem io_cut : ioCut = "cut".toList := by decide +kernel
theorem io_strip (X : List (List Char)) : stripLifts liftWords (ioCut :: X) = ([], ioCut :: X) := by kernel_rfl
theorem headLifts_cut (P : Program) (h : ∃ X, behindMainWord (wordsSigns P.initOrder.toList) = ioCut :: X) : P.headLifts = [] := by
  obtain ⟨X, e⟩ := h
  unfold Program.headLifts
  rw [e, io_strip]
  rfl
theorem mayEnter_cut (P : Program) (h : ∃ X, behindMainWord (wordsSigns P.initOrder.toList) = ioCut :: X) (h1 : P.laysLater = false) (h2 : P.bearsReflect = false) (h3 : P.doorFits [] = true) : P.mayEnter = true := by
  obtain ⟨X, e⟩ := h
  unfold Program.mayEnter
  rw [e]
  simp only [io_strip, h1, h2, h3]
  rw [io_cut]
  simp
theorem liftsFinal_cut (P : Program) (h : ∃ X, behindMainWord (wordsSigns P.initOrder.toList) = ioCut :: X) : P.liftsFinal = false := by
  have h0 := headLifts_cut P h
  obtain ⟨X, e⟩ := h
  unfold Program.liftsFinal
  rw [e, h0]
  rw [io_cut]
  simp
theorem make_cut (P : Program) (h : ∃ X, behindMainWord (wordsSigns P.initOrder.toList) = ioCut :: X) : P.make = some .cut := by
  obtain ⟨X, e⟩ := h
  unfold Program.make
  rw [e]
  simp only [io_cut]
  rw [if_neg (by decide +kernel), if_pos (by simp)]
theorem p_mayEnter : Try.pinned.checked.prog.mayEnter = true := mayEnter_cut _ io_behind (by kernel_rfl) (by kernel_rfl) (by kernel_rfl)
theorem p_liftsFinal : Try.pinned.checked.prog.liftsFinal = false := liftsFinal_cut _ io_behind
theorem p_make : Try.pinned.checked.prog.make = some .cut := make_cut _ io_behind
theorem p_laidOut : laidOutB Try.pinned.checked.prog = true := by kernel_rfl
theorem p_mapsRowed : mapsRowed Try.pinned.checked.prog = true := by kernel_rfl
theorem p_stopsHeard : Try.pinned.checked.prog.stopsHeard = true := by kernel_rfl
theorem p_stops : Try.pinned.checked.prog.stops = [] := by kernel_rfl
theorem p_stopKnobs : Try.pinned.checked.prog.stopKnobs = [] := by kernel_rfl
end Go.Proofs.Ytloebciamfbjfaa
end
section
namespace Go.Proofs.Ytloebciamfbjfaa.pileQueues
open Go.ChangeShapes Go.WideShapes Go.ChangeAt Go.RowKit
open Go.ChangeMaps (open_string shut_string)
open Go.Proofs.Ytloebciamfbjfaa.Q Go.Proofs.Ytloebciamfbjfaa.R Go.Proofs.YtloebciamfbjfaaW.PrintWords
set_option linter.unusedVariables false
theorem own : ownKnob Try.prog.godebug = none := by kernel_rfl
theorem laidOut : laidOutB Try.prog = true := by kernel_rfl
set_option maxRecDepth 100000 in
theorem lifted (os : Os) (started : os.Started) (H : Type) (enc : TypeId × Value → H) :
    ReturnsInHanded {} Try.checked os 4 .any (Rows.pileQueuesSpec.pre6 enc Try.prog Try.f4 Rows.pileQueuesRow.domain false) (Rows.pileQueuesSpec.post enc Try.prog Try.f4 false true false false) := by
  refine returnsInHanded_of_change_sized (C := Try.checked) own started (by kernel_rfl) Try.func4
    (ChangeSpec.witness6 (enc := enc) (C := Try.checked) false ⟨#[], #[.int .i64 0, .slice none 0 0], []⟩ 8 (by kernel_rfl) (by kernel_rfl) (by kernel_rfl) (by kernel_rfl)) ?_
  intro W base args ds gs before hval0 hW hcnd hsz0 _
  have hval : ∀ (j : Nat) t v, Try.f4.params[j]? = some t → args[j]? = some v → Value.okWide Try.prog W .any base t v := hval0
  have hW' := hW
  obtain ⟨p, q, hA0, hV, rfl, hfz, hnd⟩ := hW
  have hA : DataW.TrodAll enc Try.prog W 0 (fun _ => true) true Try.f4.params.toList args.toList ds p := hA0
  rw [Try.params4] at hA hval
  obtain ⟨v0, vs0, d0, ds0, p0, q0, hargs, rfl, rfl, h0, r0⟩ := trodAll_cons hA
  obtain ⟨v1, vs1, d1, ds1, p1, q1, rfl, rfl, rfl, h1, r1⟩ := trodAll_cons r0
  obtain ⟨rfl, rfl, rfl⟩ := trodAll_nil r1
  obtain rfl : args = #[v0, v1] := by cases args; simp_all
  obtain ⟨rfl, rfl⟩ := trodVars_none hV
  have k0 := h0
  have lt0 : ∀ x ∈ p0, x.block < W.heap.size := by obtain ⟨m, hm⟩ := k0; exact DataW.trod_lt m _ _ _ hm
  obtain ⟨fu0, hf0⟩ := h0
  obtain ⟨x0, K0, G0⟩ := (readsInt Try.underlying3) enc W 0 (fun _ => true) true fu0 _ _ hf0
  obtain ⟨z0, rfl⟩ := okWide_int Try.underlying3 (hval 0 3 v0 rfl rfl)
  obtain rfl : x0 = z0 := Eq.symm (by simpa [Value.cells, Kd.int, Kd.scalar] using K0)
  have k1 := h1
  have lt1 : ∀ x ∈ p1, x.block < W.heap.size := by obtain ⟨m, hm⟩ := k1; exact DataW.trod_lt m _ _ _ hm
  obtain ⟨fu1, hf1⟩ := h1
  obtain ⟨x1, K1, G1⟩ := (readsSlice Try.underlying22 (by kernel_rfl) reads32) enc W 0 (fun _ => true) true fu1 _ _ hf1
  obtain ⟨a1, len1, cap1, rfl⟩ := okWide_slice Try.underlying22 (hval 1 22 v1 rfl rfl)
  obtain ⟨A1, c1, ek1, hc1, hr1⟩ := K1
  simp only [Value.cells, List.cons.injEq, and_true] at ek1
  injection ek1 with ea1 el1 ec1
  subst ea1 el1 ec1
  have h := Pure.PileQueues _ _ x0 x1 (G0 _ (Nat.le_refl _)) (G1 _ (Nat.le_refl _))
  obtain ⟨k, h⟩ := h
  refine (ebbtidelaw02_PileQueues.calls k x0 _ _ x1 true W hr1 hc1 h).mono fun e W' ⟨he, bel0⟩ => ?_
  have bel : Below W.heap.size W W' := bel0
  subst he
  exact ⟨_, rfl, _, _, _, [], _, [], hW', trodAll_mk1 (shut_bool Try.underlying4 _), (trodAll_cons_mk (Below.trod laidOut (by kernel_rfl) (of_decide_eq_true (by kernel_rfl)) k0 bel lt0) (trodAll_cons_mk (Below.trod laidOut (by kernel_rfl) (of_decide_eq_true (by kernel_rfl)) k1 bel lt1) trodAll_mk0)), rfl, bel.frame _, fun h => by cases h⟩
theorem andI {a b : Bool} (x : a = true) (y : b = true) : (a && b) = true := by rw [x, y]; rfl
set_option maxRecDepth 100000 in
set_option maxHeartbeats 8000000 in
theorem closed : joinedFacts Try.pinned.checked.prog 4 Try.f4 Rows.pileQueuesSpec Rows.pileQueuesRow = true := by
  unfold joinedFacts
  exact (andI (andI (andI (andI (andI (andI (andI (andI (andI (andI (andI (andI (andI (andI (andI (andI (andI (andI (andI (andI (andI (andI (andI (andI (andI (andI (andI (andI (andI (andI (andI (by as_aux_lemma => kernel_rfl)
    p_laidOut)
    p_mapsRowed)
    (by as_aux_lemma => kernel_rfl))
    (by as_aux_lemma => kernel_rfl))
    (by as_aux_lemma => kernel_rfl))
    (by rw [p_stops]; rfl))
    (by as_aux_lemma => kernel_rfl))
    (by rw [p_stopKnobs]; rfl))
    (by as_aux_lemma => kernel_rfl))
    (by as_aux_lemma => kernel_rfl))
    (by as_aux_lemma => kernel_rfl))
    (by as_aux_lemma => kernel_rfl))
    (by as_aux_lemma => kernel_rfl))
    (by as_aux_lemma => kernel_rfl))
    (by as_aux_lemma => kernel_rfl))
    (by as_aux_lemma => kernel_rfl))
    (by as_aux_lemma => kernel_rfl))
    (by as_aux_lemma => kernel_rfl))
    (by as_aux_lemma => kernel_rfl))
    (by as_aux_lemma => kernel_rfl))
    (by as_aux_lemma => kernel_rfl))
    (by as_aux_lemma => kernel_rfl))
    (by as_aux_lemma => kernel_rfl))
    p_stopsHeard)
    p_mayEnter)
    (by rw [p_liftsFinal]; rfl))
    (by rw [p_make]; rfl))
    (by as_aux_lemma => kernel_rfl))
    (by as_aux_lemma => kernel_rfl))
    (by as_aux_lemma => kernel_rfl))
    (by as_aux_lemma => kernel_rfl))
theorem proved : Rows.PileQueuesSaid :=
  OpenClaim.holds_of_wide 4 Try.f4 rfl rfl rfl rfl rfl rfl rfl ⟨rfl, rfl, rfl, rfl, rfl⟩ rfl rfl rfl rfl rfl (by kernel_rfl) Try.func4 closed
    (of_decide_eq_true (by kernel_rfl)) (by unfold Func.isWrapper; first | (rw [if_pos (by decide +kernel)]; kernel_rfl) | (rw [if_neg (by decide +kernel)]; exact ⟨rfl, rfl⟩))
    (fun os started H enc _ => lifted os started H enc)
#print axioms proved
end Go.Proofs.Ytloebciamfbjfaa.pileQueues
namespace Go.Proofs.Ytloebciamfbjfaa
theorem pileQueues_holds : Rows.PileQueuesSaid := pileQueues.proved
end Go.Proofs.Ytloebciamfbjfaa
end
