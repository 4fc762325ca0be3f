/- A part of the proof: words, contracts, plain lemmas. Conditions: none. -/
import Derived.Test.YtloebciamfbjfaaZPilePlays11
section
namespace Go.Proofs.Ytloebciamfbjfaa.Q
open Go.RowKit Go.Proofs.Ytloebciamfbjfaa.P Go.Proofs.YtloebciamfbjfaaW.PrintWords Go.Proofs.YtloebciamfbjfaaW.PrintLast Go.Proofs.YtloebciamfbjfaaW.PrintMore
set_option linter.unusedVariables false
set_option linter.unusedSimpArgs false
def DualP (w : World) (base gp gr : Nat) (most : Int) (s : List (Int × Int)) (c : List S34) (X : Nat → Prop) : Prop :=
  ∃ okA okB v, PState w base okA gp most s ∧ RP w base okB gr most v c ∧ (∀ k, okA k → Ty w 34 k) ∧ (∀ k, okB k → Ty w 34 k) ∧ (∀ k, okA k → ¬ okB k) ∧ (∀ k, okA k → ¬ X k) ∧ (∀ k, okB k → ¬ X k) ∧ ∀ k, X k → Ty w 34 k
section
variable {w w0 w1 : World} {base gp gr f : Nat} {most : Int} {s s' : List (Int × Int)} {c c' : List S34} {args : Array Value} {E : Ending → Prop} {X : Nat → Prop}
theorem DualP.stepA (h : DualP w base gp gr most s c X)
    (call : ∀ ok : Nat → Prop, PState w base ok gp most s → (∀ k, w.heap.size ≤ k → ok k) → Calls Try.prog f args w fun e w' => Below w0.heap.size w0 w' ∧ Kept w w' (fun k => k = gp ∨ ok k) ∧ E e ∧ PState w' base ok gp most s') :
    Calls Try.prog f args w fun e w' => Below w0.heap.size w0 w' ∧ E e ∧ DualP w' base gp gr most s' c X ∧ ∀ k, X k → w'.heap[k]? = w.heap[k]? := by
  obtain ⟨okA, okB, v, hA, hB, h1, h2, h3, h4, h5, h6⟩ := h
  refine (call (fun k => okA k ∨ w.heap.size ≤ k) (hA.mono (fun _ => Or.inl)) (fun _ => Or.inr)).mono ?_
  rintro e w' ⟨hb, hk, he, hA'⟩
  have ho : ∀ k, okB k → ¬ (k = gp ∨ okA k ∨ w.heap.size ≤ k) := fun j hj e => e.elim (fun e => by subst e; exact absurd ((h2 _ hj).one hA.ty) (by decide)) (fun e => e.elim (fun e => h3 j e hj) (fun e => by have := (h2 j hj).lt; omega))
  have hx : ∀ k, X k → ¬ (k = gp ∨ okA k ∨ w.heap.size ≤ k) := fun j hj e => e.elim (fun e => by subst e; exact absurd ((h6 _ hj).one hA.ty) (by decide)) (fun e => e.elim (fun e => h4 j e hj) (fun e => by have := (h6 j hj).lt; omega))
  have hg : ¬ (gr = gp ∨ okA gr ∨ w.heap.size ≤ gr) := fun e => e.elim (fun e => by subst e; exact absurd (hB.ty.one hA.ty) (by decide)) (fun e => e.elim (fun e => absurd ((h1 _ e).one hB.ty) (by decide)) (fun e => by have := hB.ty.lt; omega))
  exact ⟨hb, he, ⟨fun k => (okA k ∨ w.heap.size ≤ k) ∧ Ty w' 34 k, okB, v, hA'.typed, hB.kept hk hg ho, fun k h => h.2, fun k h => (h2 k h).kept hk (ho k h), fun k h h' => ho k h' (Or.inr h.1), fun k h h' => hx k h' (Or.inr h.1), h5, fun k h => (h6 k h).kept hk (hx k h)⟩, fun k h => hk.2 k (h6 k h).lt (hx k h)⟩
theorem DualP.stepB (h : DualP w base gp gr most s c X)
    (call : ∀ (ok : Nat → Prop) (v : Value), RP w base ok gr most v c → (∀ k, w.heap.size ≤ k → ok k) → Calls Try.prog f args w fun e w' => Below w0.heap.size w0 w' ∧ Kept w w' (fun k => k = gr ∨ ok k) ∧ E e ∧ ∃ v', RP w' base ok gr most v' c') :
    Calls Try.prog f args w fun e w' => Below w0.heap.size w0 w' ∧ E e ∧ DualP w' base gp gr most s c' X ∧ ∀ k, X k → w'.heap[k]? = w.heap[k]? := by
  obtain ⟨okA, okB, v, hA, hB, h1, h2, h3, h4, h5, h6⟩ := h
  refine (call (fun k => okB k ∨ w.heap.size ≤ k) v (hB.mono (fun _ => Or.inl)) (fun _ => Or.inr)).mono ?_
  rintro e w' ⟨hb, hk, he, v', hB'⟩
  have ho : ∀ k, okA k → ¬ (k = gr ∨ okB k ∨ w.heap.size ≤ k) := fun j hj e => e.elim (fun e => by subst e; exact absurd ((h1 _ hj).one hB.ty) (by decide)) (fun e => e.elim (fun e => h3 j hj e) (fun e => by have := (h1 j hj).lt; omega))
  have hx : ∀ k, X k → ¬ (k = gr ∨ okB k ∨ w.heap.size ≤ k) := fun j hj e => e.elim (fun e => by subst e; exact absurd ((h6 _ hj).one hB.ty) (by decide)) (fun e => e.elim (fun e => h5 j e hj) (fun e => by have := (h6 j hj).lt; omega))
  have hg : ¬ (gp = gr ∨ okB gp ∨ w.heap.size ≤ gp) := fun e => e.elim (fun e => by subst e; exact absurd (hB.ty.one hA.ty) (by decide)) (fun e => e.elim (fun e => absurd ((h2 _ e).one hA.ty) (by decide)) (fun e => by have := hA.ty.lt; omega))
  exact ⟨hb, he, ⟨okA, fun k => (okB k ∨ w.heap.size ≤ k) ∧ Ty w' 34 k, v', hA.kept hk hg ho, hB'.typed, fun k h => (h1 k h).kept hk (ho k h), fun k h => h.2, fun k h h' => ho k h (Or.inr h'.1), h4, fun k h h' => hx k h' (Or.inr h.1), fun k h => (h6 k h).kept hk (hx k h)⟩, fun k h => hk.2 k (h6 k h).lt (hx k h)⟩
theorem Ty.below {t k : Nat} (h : Ty w t k) (hb : Below w.heap.size w w1) : Ty w1 t k := by obtain ⟨c, h⟩ := h; exact ⟨c, blk_below h hb⟩
theorem DualP.below (h : DualP w base gp gr most s c X) (hb : Below w.heap.size w w1) : DualP w1 base gp gr most s c X := by
  obtain ⟨okA, okB, v, hA, hB, h1, h2, h3, h4, h5, h6⟩ := h
  exact ⟨okA, okB, v, hA.below hb, hB.below hb, fun k h => (h1 k h).below hb, fun k h => (h2 k h).below hb, h3, h4, h5, fun k h => (h6 k h).below hb⟩
theorem DualP.free (h : DualP w base gp gr most s c X) : DualP w base gp gr most s c (fun _ => False) := by
  obtain ⟨okA, okB, v, hA, hB, h1, h2, h3, h4, h5, h6⟩ := h
  exact ⟨okA, okB, v, hA, hB, h1, h2, h3, fun _ _ h => h, fun _ _ h => h, fun _ h => h.elim⟩
theorem DualP.box {g : Nat} (h : DualP w base gp gr most s c X) (hb : Below w.heap.size w w1) (hg : w.heap.size ≤ g) (ht : Ty w1 34 g) : DualP w1 base gp gr most s c (fun k => X k ∨ k = g) := by
  obtain ⟨okA, okB, v, hA, hB, h1, h2, h3, h4, h5, h6⟩ := h
  exact ⟨okA, okB, v, hA.below hb, hB.below hb, fun k h => (h1 k h).below hb, fun k h => (h2 k h).below hb, h3, fun k h e => e.elim (h4 k h) (fun e => by have := (h1 k h).lt; omega), fun k h e => e.elim (h5 k h) (fun e => by have := (h2 k h).lt; omega), fun k h => h.elim (fun h => (h6 k h).below hb) (fun e => by rw [e]; exact ht)⟩
theorem DualP.far2 {g : Nat} (h : DualP w base gp gr most s c X) (hx : X g) (u u' : Value) : DualP ((w.setCell ⟨g, 0, none⟩ u).setCell ⟨g, 1, none⟩ u') base gp gr most s c X := by
  obtain ⟨okA, okB, v, hA, hB, h1, h2, h3, h4, h5, h6⟩ := h
  have hk : Kept w ((w.setCell ⟨g, 0, none⟩ u).setCell ⟨g, 1, none⟩ u') (fun k => k = g) := Kept.setCell (p := ⟨g, 1, none⟩) (Kept.setCell (p := ⟨g, 0, none⟩) (Kept.refl w (fun k => k = g)) (Or.inl rfl) u) (Or.inl rfl) u'
  have hty : ∀ k, Ty w 34 k → Ty ((w.setCell ⟨g, 0, none⟩ u).setCell ⟨g, 1, none⟩ u') 34 k := fun k h => by
    obtain ⟨cs, h⟩ := h
    by_cases e : k = g
    · subst e
      exact ⟨_, blk_put (cs' := _) (blk_put (cs' := _) h 0 u rfl) 1 u' rfl⟩
    · exact ⟨cs, Kept.blk hk h e⟩
  exact ⟨okA, okB, v, hA.kept hk (fun e => by subst e; exact absurd ((h6 _ hx).one hA.ty) (by decide)) (fun k h e => by subst e; exact h4 _ h hx), hB.kept hk (fun e => by subst e; exact absurd ((h6 _ hx).one hB.ty) (by decide)) (fun k h e => by subst e; exact h5 _ h hx), fun k h => hty k (h1 k h), fun k h => hty k (h2 k h), h3, h4, h5, fun k h => hty k (h6 k h)⟩
theorem DualP.lenA (h : DualP w base gp gr most s c X) : Calls Try.prog 15 #[.pointer (some ⟨gp, 0, none⟩)] w fun e w' => e = .returned (.int .i64 (s.length : Int)) ∧ w' = w := by
  obtain ⟨okA, okB, v, hA, _⟩ := h
  exact lenP gp most s w hA
theorem DualP.listB (h : DualP w base gp gr most s c X) : ∃ A n, w.cell? ⟨gr, 1, none⟩ = some (.slice A c.length n) := by
  obtain ⟨okA, okB, v, hA, hB, _⟩ := h
  obtain ⟨A, n, ev, _⟩ := Kd.Q_slice hB.row
  subst ev
  exact ⟨A, n, (blk_cell hB.blk 1).trans rfl⟩
theorem DualP.le (h : DualP w base gp gr most s c X) : (c.length : Int) ≤ most ∧ most ≤ 65536 := by
  obtain ⟨okA, okB, v, hA, hB, _⟩ := h
  exact hB.le
end
theorem head_least (c : List S34) : headS (c.map pr) = leastL c := by cases c <;> rfl
theorem DualP.popA {w w0 : World} {gp gr : Nat} {most : Int} {c : List S34} {X : Nat → Prop} (hB : Below w0.heap.size w0 w) (h : DualP w w0.heap.size gp gr most (c.map pr) c X) (y0 y1 er : Int) (hl : leastL c = (y0, y1, er)) :
    Calls Try.prog 11 #[.pointer (some ⟨gp, 0, none⟩)] w fun e w' => Below w0.heap.size w0 w' ∧ e = .returned (.tuple #[.agg #[.int .i64 y0, .int .i64 y1], .int .i64 er]) ∧ DualP w' w0.heap.size gp gr most (c.tail.map pr) c X ∧ ∀ k, X k → w'.heap[k]? = w.heap[k]? := by
  have hle := h.le
  refine h.stepA (fun ok hA hf => ?_)
  have h2 := popP ok gp most (c.map pr) w0 w hB hA (by rw [List.length_map]; omega)
  rw [head_least, hl, ← List.map_tail] at h2
  exact h2
theorem DualP.popB {w w0 : World} {gp gr : Nat} {most : Int} {s : List (Int × Int)} {c : List S34} {X : Nat → Prop} (hB : Below w0.heap.size w0 w) (h : DualP w w0.heap.size gp gr most s c X) (y0 y1 er : Int) (hl : leastL c = (y0, y1, er)) :
    Calls Try.prog 12 #[.pointer (some ⟨gr, 0, none⟩)] w fun e w' => Below w0.heap.size w0 w' ∧ e = .returned (.tuple #[.agg #[.int .i64 y0, .int .i64 y1], .int .i64 er]) ∧ DualP w' w0.heap.size gp gr most s c.tail X ∧ ∀ k, X k → w'.heap[k]? = w.heap[k]? := by
  refine h.stepB (fun ok v hR hf => ?_)
  have h2 := RefP_Pop.calls ok gr most v c w0 w hB hR
  rw [hl] at h2
  exact h2
theorem DualP.leastA {w : World} {base gp gr : Nat} {most : Int} {c : List S34} {X : Nat → Prop} (h : DualP w base gp gr most (c.map pr) c X) (y0 y1 er : Int) (hl : leastL c = (y0, y1, er)) :
    Calls Try.prog 13 #[.pointer (some ⟨gp, 0, none⟩)] w fun e w' => e = .returned (.tuple #[.agg #[.int .i64 y0, .int .i64 y1], .int .i64 er]) ∧ Below w.heap.size w w' := by
  obtain ⟨okA, okB, v, hA, _⟩ := h
  have h2 := leastP gp most (c.map pr) w hA
  rw [head_least, hl] at h2
  exact h2
theorem DualP.leastB {w : World} {base gp gr : Nat} {most : Int} {s : List (Int × Int)} {c : List S34} {X : Nat → Prop} (h : DualP w base gp gr most s c X) (y0 y1 er : Int) (hl : leastL c = (y0, y1, er)) :
    Calls Try.prog 14 #[.pointer (some ⟨gr, 0, none⟩)] w fun e w' => e = .returned (.tuple #[.agg #[.int .i64 y0, .int .i64 y1], .int .i64 er]) ∧ Below w.heap.size w w' := by
  obtain ⟨okA, okB, v, hA, hB, _⟩ := h
  have h2 := RefP_Least.calls gr most v c w hB
  rw [hl] at h2
  exact h2
theorem DualP.pushA {w w0 : World} {gp gr : Nat} {most : Int} {c : List S34} {X : Nat → Prop} (x0 x1 : Int) (hB : Below w0.heap.size w0 w) (h : DualP w w0.heap.size gp gr most (c.map pr) c X) (rr : Int) (d : List S34) (hr : (if (c.length : Int) = most then (20 : Int) else 0) = rr) (hd : (if (c.length : Int) = most then c else insL ⟨x0, x1⟩ c) = d) :
    Calls Try.prog 16 #[.pointer (some ⟨gp, 0, none⟩), .agg #[.int .i64 x0, .int .i64 x1]] w fun e w' => Below w0.heap.size w0 w' ∧ e = .returned (.int .i64 rr) ∧ DualP w' w0.heap.size gp gr most (d.map pr) c X ∧ ∀ k, X k → w'.heap[k]? = w.heap[k]? := by
  have hle := h.le
  refine h.stepA (fun ok hA hf => ?_)
  have h2 := pushP ok gp most (c.map pr) x0 x1 w0 w hB hA hf (by rw [List.length_map]; omega)
  rw [List.length_map, hr] at h2
  rw [show (d.map pr) = (if (c.length : Int) = most then c.map pr else ins (x0, x1) (c.map pr)) by rw [← hd]; split; rfl; exact insL_pr ⟨x0, x1⟩ c]
  exact h2
theorem DualP.pushB {w w0 : World} {gp gr : Nat} {most : Int} {s : List (Int × Int)} {c : List S34} {X : Nat → Prop} (x0 x1 : Int) (hB : Below w0.heap.size w0 w) (h : DualP w w0.heap.size gp gr most s c X) (rr : Int) (d : List S34) (hr : (if (c.length : Int) = most then (20 : Int) else 0) = rr) (hd : (if (c.length : Int) = most then c else insL ⟨x0, x1⟩ c) = d) :
    Calls Try.prog 17 #[.pointer (some ⟨gr, 0, none⟩), .agg #[.int .i64 x0, .int .i64 x1]] w fun e w' => Below w0.heap.size w0 w' ∧ e = .returned (.int .i64 rr) ∧ DualP w' w0.heap.size gp gr most s d X ∧ ∀ k, X k → w'.heap[k]? = w.heap[k]? := by
  refine h.stepB (fun ok v hR hf => ?_)
  have h2 := RefP_Push.calls ok gr most v c x0 x1 w0 w hB hR hf
  rw [hr, hd] at h2
  exact h2
theorem dualP_new {w1 w2 : World} {base gp gr : Nat} {most : Int} (hA : PState w1 base tt gp most []) (hB : RP w2 base tt gr most (.slice none 0 0) []) (hb : Below w1.heap.size w1 w2) : DualP w2 base gp gr most (([] : List S34).map pr) [] (fun _ => False) :=
  ⟨_, fun _ => False, _, (hA.below hb).typed, ⟨hB.blk, Kd.Q_nil _ _ _ _ _, hB.ge, hB.le⟩, fun k h => h.2, fun k h => h.elim, fun k h h' => h', fun k h h' => h', fun k h h' => h', fun k h => h.elim⟩
def ebbtidelaw02_PilePlays.f (_ : Nat) (_ : Int) (_ : List S32) : Option Bool := some true
def PilePlays.T12 : Bool × List (List Nat × List Nat) := (true, [([], []), ([], []), ([0, 1], [0, 1]), ([2], [2]), ([3], [3]), ([], []), ([], []), ([5, 6], [5, 6]), ([7], [7]), ([8], [8]), ([4, 9], [4, 9]), ([], []), ([11, 10, 0, 1, 2, 3, 4, 5, 6, 7, 8, 9, 10, 11], [10, 11])])
def PilePlays.B12 : List Nat := [0, 0, 3, 7, 15, 0, 0, 96, 224, 480, 1023, 0, 4095]
theorem PilePlays.tab12 : rtab .any (opsOf Try.f3 12) = PilePlays.T12 := by kernel_rfl
theorem PilePlays.bits12 : waitsOk PilePlays.T12.2 PilePlays.B12 = true := by kernel_rfl
def PilePlays.T13 : Bool × List (List Nat × List Nat) := (true, [([], []), ([], []), ([0, 1], [0, 1]), ([], []), ([], []), ([3, 4, 2], [3, 4]), ([2, 5], [2, 5])])
def PilePlays.B13 : List Nat := [0, 0, 3, 0, 0, 31, 63]
theorem PilePlays.tab13 : rtab .any (opsOf Try.f3 13) = PilePlays.T13 := by kernel_rfl
theorem PilePlays.bits13 : waitsOk PilePlays.T13.2 PilePlays.B13 = true := by kernel_rfl
def PilePlays.T27 : Bool × List (List Nat × List Nat) := (true, [([], []), ([0], [0]), ([], []), ([2], [2]), ([3], [3]), ([4], [4]), ([5], [5]), ([1, 6], [1, 6])])
def PilePlays.B27 : List Nat := [0, 1, 0, 4, 12, 28, 60, 127]
theorem PilePlays.tab27 : rtab .any (opsOf Try.f3 27) = PilePlays.T27 := by kernel_rfl
theorem PilePlays.bits27 : waitsOk PilePlays.T27.2 PilePlays.B27 = true := by kernel_rfl
set_option maxHeartbeats 8000000 in
set_option maxRecDepth 100000 in
theorem ebbtidelaw02_PilePlays.calls (k : Nat) (most : Int) (A1 : Option Addr) (c1 : Nat) (l1 : List S32) (r : Bool) (w : World) (hr1 : Kd.C k32 w A1 l1.length l1) (hc1 : l1.length ≤ c1) (h : ebbtidelaw02_PilePlays.f k most l1 = some r) (hrt : r = true := by first | rfl | exact HRT.out | assumption) :
    Calls Try.prog 3 #[.int .i64 most, .slice A1 l1.length c1] w fun e w' => e = .returned (.bool r) ∧ Below w.heap.size w w' := by
  subst hrt
  have HR1 := Aside0.mk hr1
  have HC1 := Aside0.mk hc1
  have HB := Aside0.mk (Below.refl w.heap.size w)
  have hu40 := Try.underlying40
  have hu38 := Try.underlying38
  have hu34 := Try.underlying34
  have hu32 := Try.underlying32
  have hu22 := Try.underlying22
  clear hr1 hc1 h
  by_cases c : 0 ≤ most ∧ most ≤ 65536
  · have CC := Aside0.mk c
    clear c
    go_enter Try.func3, Try.ntmps3
    go_wp2_with (first
      | (go_at_call 8; refine (ebbtidelaw02_awake.calls 0 true _ rfl).mono ?_; rintro e w4 ⟨rfl, hb⟩; have n0_ := Aside0.mk (below_step HB.out hb); clear HB hb; have HB := n0_; clear n0_)
      | (go_at_call 9; refine (newP most _ CC.out.1 CC.out.2).mono ?_; rintro e w2 ⟨hb, gp, rfl, hq⟩; have n2_ := Aside0.mk (hq.lower (below_size HB.out)); have n0_ := Aside0.mk (below_step HB.out hb); clear HB hb hq; have HB := n0_; have HQ := n2_; clear n0_ n2_)
      | (go_at_call 10; refine (RefP_New.calls most _).mono ?_; rintro e w3 ⟨hb, hq⟩; rw [if_pos CC.out] at hq; obtain ⟨gr, rfl, hq⟩ := hq; have n2_ := Aside0.mk (dualP_new HQ.out (hq.lower (below_size HB.out)) hb); have n0_ := Aside0.mk (below_step HB.out hb); clear HB HQ hb hq; have HB := n0_; have HD := n2_; clear n0_ n2_))
    go_loopg [10] (min l1.length 300) (fun kq v10 w' => ∃ (i : Nat) (c : List S34), v10 = .int .i64 (i : Int) ∧ Aside0 (i + kq = min l1.length 300) ∧ Aside0 (Below w.heap.size w w') ∧ Aside0 (DualP w' w.heap.size gp gr most (c.map pr) c (fun _ => False)))
    case atStart => exact ⟨0, [], rfl, ⟨by omega⟩, HB, HD⟩
    case round =>
      clear HB HD
      obtain ⟨i, c, rfl, HI, HB, HD⟩ := hrel
      cases gk with
      | zero =>
        by_cases ci : i < l1.length
        · have d1 : decide ((i : Int) < (l1.length : Int)) = true := decide_eq_true (by omega)
          have d2 : decide (i < l1.length) = true := decide_eq_true ci
          have d3 : decide ((i : Int) < 300) = false := decide_eq_false (by have := HI.out; omega)
          have d4 : decide (i < 300) = false := decide_eq_false (by have := HI.out; omega)
          clear ci
          go_wp2
          go_ret
          exact ⟨rfl, HB.out⟩
        · have d1 : decide ((i : Int) < (l1.length : Int)) = false := decide_eq_false (by omega)
          have d2 : decide (i < l1.length) = false := decide_eq_false ci
          clear ci
          go_wp2
          go_ret
          exact ⟨rfl, HB.out⟩
      | succ gk =>
        have HLT : Aside0 (i < l1.length ∧ i < 300) := ⟨by have := HI.out; omega, by have := HI.out; omega⟩
        have d1 : decide ((i : Int) < (l1.length : Int)) = true := decide_eq_true (by have := HLT.out; omega)
        have d2 : decide (i < l1.length) = true := decide_eq_true HLT.out.1
        have d3 : decide ((i : Int) < 300) = true := decide_eq_true (by have := HLT.out; omega)
        have d4 : decide (i < 300) = true := decide_eq_true HLT.out.2
        have p1 := eq_true (show (0 : Int) ≤ (i : Int) by omega)
        have p2 := eq_true (show (i : Int) < (l1.length : Int) by have := HLT.out; omega)
        have hwi : wrap64 ((i : Int) + 1) = ((i + 1 : Nat) : Int) := wrapId (by omega) (by have := HLT.out; omega)
        have HWI := Aside0.mk hwi
        clear hwi
        obtain ⟨ad, ea, hx0, hx1, hx2⟩ := at_T32 (Kd.C_below HR1.out HB.out) (i : Int) (by omega) (by have := HLT.out; omega)
        subst ea
        rw [Int.toNat_natCast] at hx0
        obtain ⟨x0, e0⟩ : ∃ x, (rd_T32 l1 (i : Int)).f0 = x := ⟨_, rfl⟩
        obtain ⟨x1, e1⟩ : ∃ x, (rd_T32 l1 (i : Int)).f1 = x := ⟨_, rfl⟩
        obtain ⟨x2, e2⟩ : ∃ x, (rd_T32 l1 (i : Int)).f2 = x := ⟨_, rfl⟩
        rw [e0] at hx0
        have HE1 := Aside0.mk e1
        have HE2 := Aside0.mk e2
        clear e0 e1 e2 hx1 hx2
        have hxt : ∀ w' : World, Below w.heap.size w w' → w'.cell? ⟨(ad.add (i * 3)).block, (ad.add (i * 3)).off + 1, none⟩ = some (.int .i64 x1) ∧ w'.cell? ⟨(ad.add (i * 3)).block, (ad.add (i * 3)).off + 2, none⟩ = some (.int .i64 x2) := fun w' hb => by
          obtain ⟨ad', ea, _, h1, h2⟩ := at_T32 (Kd.C_below HR1.out hb) (i : Int) (by omega) (by have := HLT.out; omega)
          obtain rfl := Option.some.inj ea
          rw [Int.toNat_natCast, HE1.out] at h1
          rw [Int.toNat_natCast, HE2.out] at h2
          exact ⟨h1, h2⟩
        have HXT := Aside0.mk hxt
        clear hxt
        obtain ⟨x, hx⟩ : ∃ x, bits BinOp.and IntKind.i64 x0 7 = x := ⟨_, rfl⟩
        obtain ⟨y0, y1, er, hl⟩ : ∃ y0 y1 er, leastL c = (y0, y1, er) := ⟨_, _, _, rfl⟩
        have HL := Aside0.mk hl
        clear hl
        obtain ⟨b4, h4⟩ : ∃ b, decide (x = 4) = b := ⟨_, rfl⟩
        have h4' : (x == 4) = b4 := by rw [← h4, Bool.beq_eq_decide_eq]
        cases b4
        · obtain ⟨b5, h5⟩ : ∃ b, decide (x = 5) = b := ⟨_, rfl⟩
          have h5' : (x == 5) = b5 := by rw [← h5, Bool.beq_eq_decide_eq]
          cases b5
          · obtain ⟨b6, h6⟩ : ∃ b, decide (x = 6) = b := ⟨_, rfl⟩
            have h6' : (x == 6) = b6 := by rw [← h6, Bool.beq_eq_decide_eq]
            cases b6
            · obtain ⟨b7, h7⟩ : ∃ b, decide (x = 7) = b := ⟨_, rfl⟩
              have h7' : (x == 7) = b7 := by rw [← h7, Bool.beq_eq_decide_eq]
              cases b7
              · go_wp2
                have n0_ := Aside0.mk (below_drew1 HB.out)
                have n1_ := Aside0.mk (HD.out.below (below_drew (Below.refl _ _)))
                clear HB HD hx0
                have HB := n0_
                have HD := n1_
                clear n0_ n1_
                refine start_ (n := 13) (S := fun w' => w'.cell? ⟨(ad.add (i * 3)).block, (ad.add (i * 3)).off + 1, none⟩ = some (.int .i64 x1) ∧ w'.cell? ⟨(ad.add (i * 3)).block, (ad.add (i * 3)).off + 2, none⟩ = some (.int .i64 x2)) (ds := [12]) #[Ff,Ff,Ff,Ff,Ff,Ff,Ff,Ff,Ff,Ff,Ff,Ff,Ff] (by kernel_rfl) rfl rfl (HXT.out _ HB.out) (fun hHeld => ?_)
                generalize wr.drew = w4 at HB HD hHeld ⊢
                refine with_tabW PilePlays.tab12 PilePlays.bits12 (fun HT_ HW_ => ?_)
                refine pv_ 0 63 #[Tt,Ff,Ff,Ff,Ff,Ff,Ff,Ff,Ff,Ff,Ff,Ff,Ff] ?_
                refine pv_ 1 64 #[Tt,Tt,Ff,Ff,Ff,Ff,Ff,Ff,Ff,Ff,Ff,Ff,Ff] ?_
                refine pv_ 2 65 #[Tt,Tt,Tt,Ff,Ff,Ff,Ff,Ff,Ff,Ff,Ff,Ff,Ff] ?_
                refine pv_ 3 66 #[Tt,Tt,Tt,Tt,Ff,Ff,Ff,Ff,Ff,Ff,Ff,Ff,Ff] ?_
                refine pv_ 5 68 #[Tt,Tt,Tt,Tt,Ff,Tt,Ff,Ff,Ff,Ff,Ff,Ff,Ff] ?_
                refine pv_ 6 69 #[Tt,Tt,Tt,Tt,Ff,Tt,Tt,Ff,Ff,Ff,Ff,Ff,Ff] ?_
                refine pv_ 7 70 #[Tt,Tt,Tt,Tt,Ff,Tt,Tt,Tt,Ff,Ff,Ff,Ff,Ff] ?_
                refine pv_ 8 71 #[Tt,Tt,Tt,Tt,Ff,Tt,Tt,Tt,Tt,Ff,Ff,Ff,Ff] ?_
                refine take_ (i := 4) (N := (some 67)) (v := ?_) (a' := ?_) #[Tt,Tt,Tt,Tt,Tt,Tt,Tt,Tt,Tt,Ff,Ff,Ff,Ff] rfl rfl (take_ofW HT_.out HW_.out (by kernel_rfl)) (fun _ _ _ h => h) (Or.inl ⟨by rfl, ?_⟩) hHeld ?_ ?_
                rotate_left
                · rintro w' ⟨s0, s1⟩
                  go_simp
                  with_reducible rfl
                rotate_left
                exact ap_
                refine take_ (i := 9) (N := (some 72)) (v := ?_) (a' := ?_) #[Tt,Tt,Tt,Tt,Tt,Tt,Tt,Tt,Tt,Tt,Ff,Ff,Ff] rfl rfl (take_ofW HT_.out HW_.out (by kernel_rfl)) (fun _ _ _ h => h) (Or.inl ⟨by rfl, ?_⟩) hHeld ?_ ?_
                rotate_left
                · rintro w' ⟨s0, s1⟩
                  go_simp
                  with_reducible rfl
                rotate_left
                exact ap_
                refine pv_ 10 73 #[Tt,Tt,Tt,Tt,Tt,Tt,Tt,Tt,Tt,Tt,Tt,Ff,Ff] ?_
                refine one_ (i := 11) (N := (some 19)) #[Tt,Tt,Tt,Tt,Tt,Tt,Tt,Tt,Tt,Tt,Tt,Tt,Ff] rfl rfl (one_of HT_.out (by kernel_rfl)) (by decide) (fun K hK => ?_)
                refine event_step (v := .pointer (some ⟨w4.heap.size, 0, none⟩)) (w1 := w4.alloc (.cells #[.int .i64 0, .int .i64 0] 34)) (by rfl) (by first | (go_simp; done) | (go_simp; rfl)) ?_
                have hba := below_alloc (Below.refl w4.heap.size w4) (.cells #[.int .i64 0, .int .i64 0] 34)
                have hbk := blk_new w4 (.cells #[.int .i64 0, .int .i64 0] 34)
                obtain ⟨gb, hgb⟩ : ∃ gb, w4.heap.size = gb := ⟨_, rfl⟩
                have GE19 : Aside0 (w.heap.size ≤ gb) := ⟨by rw [← hgb]; exact below_size HB.out⟩
                have n0_ := Aside0.mk (below_step HB.out hba)
                have n1_ := Aside0.mk (HD.out.box (g := gb) hba (Nat.le_of_eq hgb) (by rw [← hgb]; exact ⟨_, hbk⟩))
                rw [hgb] at hbk
                have BK19 := Aside0.mk hbk
                clear HB HD hba hbk hHeld
                have HB := n0_
                have HD := n1_
                clear n0_ n1_
                refine hK.out _ _ (HXT.out _ HB.out) (fun hHeld => ?_)
                clear hK K
                rw [hgb]
                generalize w4.alloc (.cells #[.int .i64 0, .int .i64 0] 34) = w5 at HB HD BK19 hHeld ⊢
                clear hgb
                refine norm_ (a' := ?_) ?_ ?_
                rotate_left
                · show Act.put _ (some 19) _ = _
                  simp only [Act.put, List.setIfInBounds_toArray, List.set_cons_zero, List.set_cons_succ, i64_w, i32_w]
                  rfl
                have z0 : w5.cell? ⟨gb, 0, none⟩ = some (.int .i64 0) := (blk_cell BK19.out 0).trans rfl
                have z1 : w5.cell? ⟨gb, 1, none⟩ = some (.int .i64 0) := (blk_cell BK19.out 1).trans rfl
                have y0_ := blk_frozen BK19.out 0
                have y1_ := blk_frozen BK19.out 1
                refine last_ (i := 12) (N := none) #[Tt,Tt,Tt,Tt,Tt,Tt,Tt,Tt,Tt,Tt,Tt,Tt,Tt] rfl rfl (one_of HT_.out (by kernel_rfl)) (by decide) (fun K hK => ?_)
                refine skip_ (w1 := ?_) (by rfl) rfl ?_ ?_
                rotate_left
                · go_simp
                  rfl
                refine hK.out _ _ ?_
                clear hK K z0 z1 y0_ y1_ hHeld
                have n0_ := Aside0.mk (below_set (below_set HB.out GE19.out (j := 0) (v := .int .i64 x1)) GE19.out (j := 1) (v := .int .i64 x2))
                have n1_ := Aside0.mk (HD.out.far2 (Or.inr rfl) (.int .i64 x1) (.int .i64 x2))
                have n2_ := Aside0.mk (blk_put (cs' := #[.int .i64 x1, .int .i64 x2]) (blk_put (cs' := #[.int .i64 x1, .int .i64 0]) BK19.out 0 (.int .i64 x1) rfl) 1 (.int .i64 x2) rfl)
                clear HB HD BK19
                have HB := n0_
                have HD := n1_
                have BK19 := n2_
                clear n0_ n1_ n2_
                refine done_ (done_of HT_.out (by kernel_rfl)) ?_
                generalize (w5.setCell ⟨gb, 0, none⟩ (.int .i64 x1)).setCell ⟨gb, 1, none⟩ (.int .i64 x2) = w6 at HB HD BK19 ⊢
                clear HT_ HW_
                go_wp2
                have n0_ := Aside0.mk (below_drew1 HB.out)
                have n1_ := Aside0.mk (HD.out.below (below_drew (Below.refl _ _)))
                have n2_ := Aside0.mk (blk_drew BK19.out)
                clear HB HD BK19
                have HB := n0_
                have HD := n1_
                have BK19 := n2_
                clear n0_ n1_ n2_
                refine start_ (n := 7) (S := fun w' => w'.cell? ⟨gb, 0, none⟩ = some (.int .i64 x1) ∧ w'.cell? ⟨gb, 1, none⟩ = some (.int .i64 x2)) (ds := []) #[Ff,Ff,Ff,Ff,Ff,Ff,Ff] (by kernel_rfl) rfl rfl ⟨(blk_cell BK19.out 0).trans rfl, (blk_cell BK19.out 1).trans rfl⟩ (fun hHeld => ?_)
                generalize w6.drew = w7 at HB HD BK19 hHeld ⊢
                refine with_tabW PilePlays.tab13 PilePlays.bits13 (fun HT_ HW_ => ?_)
                refine pv_ 0 74 #[Tt,Ff,Ff,Ff,Ff,Ff,Ff] ?_
                refine pv_ 3 77 #[Tt,Ff,Ff,Tt,Ff,Ff,Ff] ?_
                refine take_ (i := 1) (N := (some 75)) (v := ?_) (a' := ?_) #[Tt,Tt,Ff,Tt,Ff,Ff,Ff] rfl rfl (take_ofW HT_.out HW_.out (by kernel_rfl)) (fun _ _ _ h => h) (Or.inl ⟨by rfl, ?_⟩) hHeld ?_ ?_
                rotate_left
                · rintro w' ⟨s0, s1⟩
                  go_simp
                  with_reducible rfl
                rotate_left
                exact ap_
                refine take_ (i := 4) (N := (some 78)) (v := ?_) (a' := ?_) #[Tt,Tt,Ff,Tt,Tt,Ff,Ff] rfl rfl (take_ofW HT_.out HW_.out (by kernel_rfl)) (fun _ _ _ h => h) (Or.inl ⟨by rfl, ?_⟩) hHeld ?_ ?_
                rotate_left
                · rintro w' ⟨s0, s1⟩
                  go_simp
                  with_reducible rfl
                rotate_left
                exact ap_
                refine one_ (i := 2) (N := (some 76)) #[Tt,Tt,Tt,Tt,Tt,Ff,Ff] rfl rfl (one_of HT_.out (by kernel_rfl)) (by decide) (fun K hK => ?_)
                obtain ⟨rr, hrr⟩ : ∃ rr, (if (c.length : Int) = most then (20 : Int) else 0) = rr := ⟨_, rfl⟩
                obtain ⟨d, hd⟩ : ∃ d, (if (c.length : Int) = most then c else insL ⟨x1, x2⟩ c) = d := ⟨_, rfl⟩
                have HRR := Aside0.mk hrr
                have HDD := Aside0.mk hd
                clear hrr hd
                refine goes_ Try.func16 (by kernel_rfl) rfl #[.pointer (some ⟨gp, 0, none⟩), .agg #[.int .i64 x1, .int .i64 x2]] (by rfl) rfl rfl (by (try simp only [List.map_toArray, List.map_cons, List.map_nil]); first | done | rfl) ?_
                refine (DualP.pushA x1 x2 HB.out HD.out rr d HRR.out HDD.out).mono ?_
                rintro e w8 ⟨hb, rfl, hp, hkx⟩
                have n0_ := Aside0.mk hb
                have n1_ := Aside0.mk hp
                have n2_ := Aside0.mk ((hkx gb (Or.inr rfl)).trans BK19.out)
                clear HB HD BK19 hb hp hkx hHeld
                have HB := n0_
                have HD := n1_
                have BK19 := n2_
                clear n0_ n1_ n2_
                refine ⟨_, rfl, hK.out _ _ ⟨(blk_cell BK19.out 0).trans rfl, (blk_cell BK19.out 1).trans rfl⟩ (fun hHeld => ?_)⟩
                clear hK K
                refine norm_ (a' := ?_) ?_ ?_
                rotate_left
                · show Act.put _ (some 76) _ = _
                  simp only [Act.put, List.setIfInBounds_toArray, List.set_cons_zero, List.set_cons_succ, i64_w, i32_w]
                  rfl
                refine one_ (i := 5) (N := (some 79)) #[Tt,Tt,Tt,Tt,Tt,Tt,Ff] rfl rfl (one_of HT_.out (by kernel_rfl)) (by decide) (fun K hK => ?_)
                refine goes_ Try.func17 (by kernel_rfl) rfl #[.pointer (some ⟨gr, 0, none⟩), .agg #[.int .i64 x1, .int .i64 x2]] (by rfl) rfl rfl (by (try simp only [List.map_toArray, List.map_cons, List.map_nil]); first | done | rfl) ?_
                refine (DualP.pushB x1 x2 HB.out HD.out rr d HRR.out HDD.out).mono ?_
                rintro e w9 ⟨hb, rfl, hp, hkx⟩
                have n0_ := Aside0.mk hb
                have n1_ := Aside0.mk hp.free
                have n2_ := Aside0.mk ((hkx gb (Or.inr rfl)).trans BK19.out)
                clear HB HD BK19 hb hp hkx hHeld HRR HDD
                have HB := n0_
                have HD := n1_
                have BK19 := n2_
                clear n0_ n1_ n2_
                refine ⟨_, rfl, hK.out _ _ ⟨(blk_cell BK19.out 0).trans rfl, (blk_cell BK19.out 1).trans rfl⟩ (fun hHeld => ?_)⟩
                clear hK K
                refine norm_ (a' := ?_) ?_ ?_
                rotate_left
                · show Act.put _ (some 79) _ = _
                  simp only [Act.put, List.setIfInBounds_toArray, List.set_cons_zero, List.set_cons_succ, i64_w, i32_w]
                  rfl
                refine pv_ 6 80 #[Tt,Tt,Tt,Tt,Tt,Tt,Tt] ?_
                refine done_ (done_of HT_.out (by kernel_rfl)) ?_
                clear hHeld HT_ HW_
                go_wp2
                go_roundg gk
                case measure => omega
                case rel => exact ⟨i + 1, d, congrArg (Value.int .i64) HWI.out, ⟨by have := HI.out; omega⟩, HB, HD⟩
              · go_wp2
                obtain ⟨Ab, cb, hlb⟩ := HD.out.listB
                have n0_ := Aside0.mk (below_drew1 HB.out)
                have n1_ := Aside0.mk (HD.out.below (below_drew (Below.refl _ _)))
                have n2_ := Aside0.mk hlb
                clear HB HD hlb hx0
                have HB := n0_
                have HD := n1_
                have HLB := n2_
                clear n0_ n1_ n2_
                refine start_ (n := 8) (S := fun w' => w'.cell? ⟨gr, 1, none⟩ = some (.slice Ab c.length cb)) (ds := []) #[Ff,Ff,Ff,Ff,Ff,Ff,Ff,Ff] (by kernel_rfl) rfl rfl HLB.out (fun hHeld => ?_)
                generalize World.drew _ = w7 at HB HD hHeld ⊢
                refine with_tabW PilePlays.tab27 PilePlays.bits27 (fun HT_ HW_ => ?_)
                refine pv_ 0 124 #[Tt,Ff,Ff,Ff,Ff,Ff,Ff,Ff] ?_
                refine pv_ 2 126 #[Tt,Ff,Tt,Ff,Ff,Ff,Ff,Ff] ?_
                refine pv_ 3 127 #[Tt,Ff,Tt,Tt,Ff,Ff,Ff,Ff] ?_
                refine pv_ 4 128 #[Tt,Ff,Tt,Tt,Tt,Ff,Ff,Ff] ?_
                refine take_ (i := 5) (N := (some 129)) (v := ?_) (a' := ?_) #[Tt,Ff,Tt,Tt,Tt,Tt,Ff,Ff] rfl rfl (take_ofW HT_.out HW_.out (by kernel_rfl)) (fun _ _ _ h => h) (Or.inl ⟨by rfl, ?_⟩) hHeld ?_ ?_
                rotate_left
                · intro w' s0
                  go_simp
                  with_reducible rfl
                rotate_left
                exact ap_
                refine pv_ 6 130 #[Tt,Ff,Tt,Tt,Tt,Tt,Tt,Ff] ?_
                refine one_ (i := 1) (N := (some 125)) #[Tt,Tt,Tt,Tt,Tt,Tt,Tt,Ff] rfl rfl (one_of HT_.out (by kernel_rfl)) (by decide) (fun K hK => ?_)
                refine goes_ Try.func15 (by kernel_rfl) rfl #[.pointer (some ⟨gp, 0, none⟩)] (by rfl) rfl rfl (by (try simp only [List.map_toArray, List.map_cons, List.map_nil]); first | done | rfl) ?_
                refine HD.out.lenA.mono ?_
                rintro e w8 ⟨he, rfl⟩
                rw [List.length_map] at he
                subst he
                refine ⟨_, rfl, hK.out _ _ hHeld (fun hHeld => ?_)⟩
                clear hK K
                refine pv_ 7 131 #[Tt,Tt,Tt,Tt,Tt,Tt,Tt,Tt] ?_
                refine done_ (done_of HT_.out (by kernel_rfl)) ?_
                clear hHeld HT_ HW_
                go_wp2
                obtain ⟨d, hd⟩ : ∃ d, c = d := ⟨_, rfl⟩
                rw [hd] at HD
                clear hd
                go_roundg gk
                case measure => omega
                case rel => exact ⟨i + 1, d, congrArg (Value.int .i64) HWI.out, ⟨by have := HI.out; omega⟩, HB, HD⟩
            · go_wp2_with (first
                | (go_at_call 13; refine (DualP.leastA HD.out y0 y1 er HL.out).mono ?_; rintro e w5 ⟨rfl, hb⟩; have n0_ := Aside0.mk (below_step HB.out hb); have n1_ := Aside0.mk (HD.out.below hb); clear HB HD hb hx0; have HB := n0_; have HD := n1_; clear n0_ n1_)
                | ((with_reducible refine gate_dst (N := 15) rfl ?_); refine box_event ?hg (N := 15) ?hd (cs := #[.int .i64 0, .int .i64 0]) (t := 34) ?hr ?_; (case hd => rfl); (case hg => rfl); (case hr => first | (go_simp; done) | (go_simp; rfl)); intro g15 hg w6 hbox hb; have n3_ := Aside0.mk (by rw [hg]; exact below_size HB.out : w.heap.size ≤ g15); have n0_ := Aside0.mk (below_step HB.out hb); have n1_ := Aside0.mk (HD.out.box hb (Nat.le_of_eq hg.symm) ⟨_, hbox⟩); have n4_ := Aside0.mk hbox; clear HB HD hb hg hbox; have HB := n0_; have HD := n1_; have GE15 := n3_; have BK15 := n4_; clear n0_ n1_ n3_ n4_; have z0 : w6.cell? ⟨g15, 0, none⟩ = some (.int .i64 0) := (blk_cell BK15.out 0).trans rfl; have z1 : w6.cell? ⟨g15, 1, none⟩ = some (.int .i64 0) := (blk_cell BK15.out 1).trans rfl; have y0_ := blk_frozen BK15.out 0; have y1_ := blk_frozen BK15.out 1)
                | (go_at_call 14; have n0_ := Aside0.mk (below_set (below_set HB.out GE15.out (j := 0) (v := .int .i64 y0)) GE15.out (j := 1) (v := .int .i64 y1)); have n1_ := Aside0.mk (HD.out.far2 (Or.inr rfl) (.int .i64 y0) (.int .i64 y1)); have n2_ := Aside0.mk (blk_put (cs' := #[.int .i64 y0, .int .i64 y1]) (blk_put (cs' := #[.int .i64 y0, .int .i64 0]) BK15.out 0 (.int .i64 y0) rfl) 1 (.int .i64 y1) rfl); clear HB HD BK15 z0 z1 y0_ y1_; have HB := n0_; have HD := n1_; have BK15 := n2_; clear n0_ n1_ n2_; refine (DualP.leastB HD.out y0 y1 er HL.out).mono ?_; rintro e w7 ⟨rfl, hb⟩; have n0_ := Aside0.mk (below_step HB.out hb); have n1_ := Aside0.mk (HD.out.below hb); have n2_ := Aside0.mk (blk_below BK15.out hb); clear HB HD BK15 hb; have HB := n0_; have HD := n1_; have BK15 := n2_; clear n0_ n1_ n2_)
                | ((with_reducible refine gate_dst (N := 17) rfl ?_); refine box_event ?hg (N := 17) ?hd (cs := #[.int .i64 0, .int .i64 0]) (t := 34) ?hr ?_; (case hd => rfl); (case hg => rfl); (case hr => first | (go_simp; done) | (go_simp; rfl)); intro g17 hg w6 hbox hb; have n3_ := Aside0.mk (by rw [hg]; exact below_size HB.out : w.heap.size ≤ g17); have n0_ := Aside0.mk (below_step HB.out hb); have n1_ := Aside0.mk (HD.out.box hb (Nat.le_of_eq hg.symm) ⟨_, hbox⟩); have n4_ := Aside0.mk hbox; have n5_ := Aside0.mk (blk_below BK15.out hb); have n6_ := (show g15 ≠ g17 by rw [hg]; exact Nat.ne_of_lt (blk_lt BK15.out)); clear BK15; have BK15 := n5_; have ne1 := eq_false n6_; have ne2 := eq_false n6_.symm; clear n5_ n6_; clear HB HD hb hg hbox; have HB := n0_; have HD := n1_; have GE17 := n3_; have BK17 := n4_; clear n0_ n1_ n3_ n4_; have z0 : w6.cell? ⟨g17, 0, none⟩ = some (.int .i64 0) := (blk_cell BK17.out 0).trans rfl; have z1 : w6.cell? ⟨g17, 1, none⟩ = some (.int .i64 0) := (blk_cell BK17.out 1).trans rfl; have y0_ := blk_frozen BK17.out 0; have y1_ := blk_frozen BK17.out 1; have z2 : w6.cell? ⟨g15, 0, none⟩ = some (.int .i64 y0) := (blk_cell BK15.out 0).trans rfl; have z3 : w6.cell? ⟨g15, 1, none⟩ = some (.int .i64 y1) := (blk_cell BK15.out 1).trans rfl))
              have n0_ := Aside0.mk (below_set (below_set HB.out GE17.out (j := 0) (v := .int .i64 y0)) GE17.out (j := 1) (v := .int .i64 y1))
              have n1_ := Aside0.mk (HD.out.far2 (Or.inr rfl) (.int .i64 y0) (.int .i64 y1)).free
              clear HB HD
              have HB := n0_
              have HD := n1_
              clear n0_ n1_
              obtain ⟨d, hd⟩ : ∃ d, c = d := ⟨_, rfl⟩
              rw [hd] at HD
              clear hd
              go_roundg gk
              case measure => omega
              case rel => exact ⟨i + 1, d, congrArg (Value.int .i64) HWI.out, ⟨by have := HI.out; omega⟩, HB, HD⟩
          · skip
            go_wp2_with (first
              | (go_at_call 11; refine (DualP.popA HB.out HD.out y0 y1 er HL.out).mono ?_; rintro e w5 ⟨hb, rfl, hp, hkx⟩; have n0_ := Aside0.mk hb; have n1_ := Aside0.mk hp; clear HB HD hb hp hkx hx0; have HB := n0_; have HD := n1_; clear n0_ n1_)
              | ((with_reducible refine gate_dst (N := 11) rfl ?_); refine box_event ?hg (N := 11) ?hd (cs := #[.int .i64 0, .int .i64 0]) (t := 34) ?hr ?_; (case hd => rfl); (case hg => rfl); (case hr => first | (go_simp; done) | (go_simp; rfl)); intro g11 hg w6 hbox hb; have n3_ := Aside0.mk (by rw [hg]; exact below_size HB.out : w.heap.size ≤ g11); have n0_ := Aside0.mk (below_step HB.out hb); have n1_ := Aside0.mk (HD.out.box hb (Nat.le_of_eq hg.symm) ⟨_, hbox⟩); have n4_ := Aside0.mk hbox; clear HB HD hb hg hbox; have HB := n0_; have HD := n1_; have GE11 := n3_; have BK11 := n4_; clear n0_ n1_ n3_ n4_; have z0 : w6.cell? ⟨g11, 0, none⟩ = some (.int .i64 0) := (blk_cell BK11.out 0).trans rfl; have z1 : w6.cell? ⟨g11, 1, none⟩ = some (.int .i64 0) := (blk_cell BK11.out 1).trans rfl; have y0_ := blk_frozen BK11.out 0; have y1_ := blk_frozen BK11.out 1)
              | (go_at_call 12; have n0_ := Aside0.mk (below_set (below_set HB.out GE11.out (j := 0) (v := .int .i64 y0)) GE11.out (j := 1) (v := .int .i64 y1)); have n1_ := Aside0.mk (HD.out.far2 (Or.inr rfl) (.int .i64 y0) (.int .i64 y1)); have n2_ := Aside0.mk (blk_put (cs' := #[.int .i64 y0, .int .i64 y1]) (blk_put (cs' := #[.int .i64 y0, .int .i64 0]) BK11.out 0 (.int .i64 y0) rfl) 1 (.int .i64 y1) rfl); clear HB HD BK11 z0 z1 y0_ y1_; have HB := n0_; have HD := n1_; have BK11 := n2_; clear n0_ n1_ n2_; refine (DualP.popB HB.out HD.out y0 y1 er HL.out).mono ?_; rintro e w7 ⟨hb, rfl, hp, hkx⟩; have n0_ := Aside0.mk hb; have n1_ := Aside0.mk hp; have n2_ := Aside0.mk ((hkx g11 (Or.inr rfl)).trans BK11.out); clear HB HD BK11 hb hp hkx; have HB := n0_; have HD := n1_; have BK11 := n2_; clear n0_ n1_ n2_)
              | ((with_reducible refine gate_dst (N := 13) rfl ?_); refine box_event ?hg (N := 13) ?hd (cs := #[.int .i64 0, .int .i64 0]) (t := 34) ?hr ?_; (case hd => rfl); (case hg => rfl); (case hr => first | (go_simp; done) | (go_simp; rfl)); intro g13 hg w6 hbox hb; have n3_ := Aside0.mk (by rw [hg]; exact below_size HB.out : w.heap.size ≤ g13); have n0_ := Aside0.mk (below_step HB.out hb); have n1_ := Aside0.mk (HD.out.box hb (Nat.le_of_eq hg.symm) ⟨_, hbox⟩); have n4_ := Aside0.mk hbox; have n5_ := Aside0.mk (blk_below BK11.out hb); have n6_ := (show g11 ≠ g13 by rw [hg]; exact Nat.ne_of_lt (blk_lt BK11.out)); clear BK11; have BK11 := n5_; have ne1 := eq_false n6_; have ne2 := eq_false n6_.symm; clear n5_ n6_; clear HB HD hb hg hbox; have HB := n0_; have HD := n1_; have GE13 := n3_; have BK13 := n4_; clear n0_ n1_ n3_ n4_; have z0 : w6.cell? ⟨g13, 0, none⟩ = some (.int .i64 0) := (blk_cell BK13.out 0).trans rfl; have z1 : w6.cell? ⟨g13, 1, none⟩ = some (.int .i64 0) := (blk_cell BK13.out 1).trans rfl; have y0_ := blk_frozen BK13.out 0; have y1_ := blk_frozen BK13.out 1; have z2 : w6.cell? ⟨g11, 0, none⟩ = some (.int .i64 y0) := (blk_cell BK11.out 0).trans rfl; have z3 : w6.cell? ⟨g11, 1, none⟩ = some (.int .i64 y1) := (blk_cell BK11.out 1).trans rfl))
            have n0_ := Aside0.mk (below_set (below_set HB.out GE13.out (j := 0) (v := .int .i64 y0)) GE13.out (j := 1) (v := .int .i64 y1))
            have n1_ := Aside0.mk (HD.out.far2 (Or.inr rfl) (.int .i64 y0) (.int .i64 y1)).free
            clear HB HD
            have HB := n0_
            have HD := n1_
            clear n0_ n1_
            obtain ⟨d, hd⟩ : ∃ d, c.tail = d := ⟨_, rfl⟩
            rw [hd] at HD
            clear hd
            go_roundg gk
            case measure => omega
            case rel => exact ⟨i + 1, d, congrArg (Value.int .i64) HWI.out, ⟨by have := HI.out; omega⟩, HB, HD⟩
        · skip
          go_wp2_with (first
            | (go_at_call 11; refine (DualP.popA HB.out HD.out y0 y1 er HL.out).mono ?_; rintro e w5 ⟨hb, rfl, hp, hkx⟩; have n0_ := Aside0.mk hb; have n1_ := Aside0.mk hp; clear HB HD hb hp hkx hx0; have HB := n0_; have HD := n1_; clear n0_ n1_)
            | ((with_reducible refine gate_dst (N := 11) rfl ?_); refine box_event ?hg (N := 11) ?hd (cs := #[.int .i64 0, .int .i64 0]) (t := 34) ?hr ?_; (case hd => rfl); (case hg => rfl); (case hr => first | (go_simp; done) | (go_simp; rfl)); intro g11 hg w6 hbox hb; have n3_ := Aside0.mk (by rw [hg]; exact below_size HB.out : w.heap.size ≤ g11); have n0_ := Aside0.mk (below_step HB.out hb); have n1_ := Aside0.mk (HD.out.box hb (Nat.le_of_eq hg.symm) ⟨_, hbox⟩); have n4_ := Aside0.mk hbox; clear HB HD hb hg hbox; have HB := n0_; have HD := n1_; have GE11 := n3_; have BK11 := n4_; clear n0_ n1_ n3_ n4_; have z0 : w6.cell? ⟨g11, 0, none⟩ = some (.int .i64 0) := (blk_cell BK11.out 0).trans rfl; have z1 : w6.cell? ⟨g11, 1, none⟩ = some (.int .i64 0) := (blk_cell BK11.out 1).trans rfl; have y0_ := blk_frozen BK11.out 0; have y1_ := blk_frozen BK11.out 1)
            | (go_at_call 12; have n0_ := Aside0.mk (below_set (below_set HB.out GE11.out (j := 0) (v := .int .i64 y0)) GE11.out (j := 1) (v := .int .i64 y1)); have n1_ := Aside0.mk (HD.out.far2 (Or.inr rfl) (.int .i64 y0) (.int .i64 y1)); have n2_ := Aside0.mk (blk_put (cs' := #[.int .i64 y0, .int .i64 y1]) (blk_put (cs' := #[.int .i64 y0, .int .i64 0]) BK11.out 0 (.int .i64 y0) rfl) 1 (.int .i64 y1) rfl); clear HB HD BK11 z0 z1 y0_ y1_; have HB := n0_; have HD := n1_; have BK11 := n2_; clear n0_ n1_ n2_; refine (DualP.popB HB.out HD.out y0 y1 er HL.out).mono ?_; rintro e w7 ⟨hb, rfl, hp, hkx⟩; have n0_ := Aside0.mk hb; have n1_ := Aside0.mk hp; have n2_ := Aside0.mk ((hkx g11 (Or.inr rfl)).trans BK11.out); clear HB HD BK11 hb hp hkx; have HB := n0_; have HD := n1_; have BK11 := n2_; clear n0_ n1_ n2_)
            | ((with_reducible refine gate_dst (N := 13) rfl ?_); refine box_event ?hg (N := 13) ?hd (cs := #[.int .i64 0, .int .i64 0]) (t := 34) ?hr ?_; (case hd => rfl); (case hg => rfl); (case hr => first | (go_simp; done) | (go_simp; rfl)); intro g13 hg w6 hbox hb; have n3_ := Aside0.mk (by rw [hg]; exact below_size HB.out : w.heap.size ≤ g13); have n0_ := Aside0.mk (below_step HB.out hb); have n1_ := Aside0.mk (HD.out.box hb (Nat.le_of_eq hg.symm) ⟨_, hbox⟩); have n4_ := Aside0.mk hbox; have n5_ := Aside0.mk (blk_below BK11.out hb); have n6_ := (show g11 ≠ g13 by rw [hg]; exact Nat.ne_of_lt (blk_lt BK11.out)); clear BK11; have BK11 := n5_; have ne1 := eq_false n6_; have ne2 := eq_false n6_.symm; clear n5_ n6_; clear HB HD hb hg hbox; have HB := n0_; have HD := n1_; have GE13 := n3_; have BK13 := n4_; clear n0_ n1_ n3_ n4_; have z0 : w6.cell? ⟨g13, 0, none⟩ = some (.int .i64 0) := (blk_cell BK13.out 0).trans rfl; have z1 : w6.cell? ⟨g13, 1, none⟩ = some (.int .i64 0) := (blk_cell BK13.out 1).trans rfl; have y0_ := blk_frozen BK13.out 0; have y1_ := blk_frozen BK13.out 1; have z2 : w6.cell? ⟨g11, 0, none⟩ = some (.int .i64 y0) := (blk_cell BK11.out 0).trans rfl; have z3 : w6.cell? ⟨g11, 1, none⟩ = some (.int .i64 y1) := (blk_cell BK11.out 1).trans rfl))
          have n0_ := Aside0.mk (below_set (below_set HB.out GE13.out (j := 0) (v := .int .i64 y0)) GE13.out (j := 1) (v := .int .i64 y1))
          have n1_ := Aside0.mk (HD.out.far2 (Or.inr rfl) (.int .i64 y0) (.int .i64 y1)).free
          clear HB HD
          have HB := n0_
          have HD := n1_
          clear n0_ n1_
          obtain ⟨d, hd⟩ : ∃ d, c.tail = d := ⟨_, rfl⟩
          rw [hd] at HD
          clear hd
          go_roundg gk
          case measure => omega
          case rel => exact ⟨i + 1, d, congrArg (Value.int .i64) HWI.out, ⟨by have := HI.out; omega⟩, HB, HD⟩
  · have CC := Aside0.mk c
    clear c
    have hbad : ∀ w, Calls Try.prog 9 #[.int .i64 most] w fun e w' => Below w.heap.size w w' ∧ e = .returned (.tuple #[.pointer none, .int .i64 1]) := fun w => (Pile_New.calls most w).mono (fun e w' h => ⟨h.1, by have h2 := h.2; rw [if_neg CC.out] at h2; exact h2⟩)
    have HBAD := Aside0.mk hbad
    have hbad2 : ∀ w, Calls Try.prog 10 #[.int .i64 most] w fun e w' => Below w.heap.size w w' ∧ e = .returned (.tuple #[.pointer none, .int .i64 1]) := fun w => (RefP_New.calls most w).mono (fun e w' h => ⟨h.1, by have h2 := h.2; rw [if_neg CC.out] at h2; exact h2⟩)
    have HBAD2 := Aside0.mk hbad2
    clear hbad hbad2
    go_enter Try.func3, Try.ntmps3
    go_wp2_with (first
      | (go_at_call 8; refine (ebbtidelaw02_awake.calls 0 true _ rfl).mono ?_; rintro e w4 ⟨rfl, hb⟩; have n0_ := Aside0.mk (below_step HB.out hb); clear HB hb; have HB := n0_; clear n0_)
      | (go_at_call 9; refine (HBAD.out _).mono ?_; rintro e w2 ⟨hb, rfl⟩; have n0_ := Aside0.mk (below_step HB.out hb); clear HB hb; have HB := n0_; clear n0_)
      | (go_at_call 10; refine (HBAD2.out _).mono ?_; rintro e w3 ⟨hb, rfl⟩; have n0_ := Aside0.mk (below_step HB.out hb); clear HB hb; have HB := n0_; clear n0_))
    go_loopg [10] 0 (fun kq v10 w' => v10 = .int .i64 0 ∧ Aside0 (Below w.heap.size w w'))
    case atStart => exact ⟨rfl, HB⟩
    case round =>
      clear HB
      obtain ⟨rfl, HB⟩ := hrel
      go_wp2
      go_ret
      exact ⟨rfl, HB.out⟩
end Go.Proofs.Ytloebciamfbjfaa.Q
end
