/- A part of the proof: words, contracts, plain lemmas. Conditions: none. -/
import Derived.Test.YtgjgckpdilbbjaaZAdjSteps12
section
namespace Go.Proofs.Ytgjgckpdilbbjaa.Q
open Go.RowKit Go.Proofs.Ytgjgckpdilbbjaa.P Go.Proofs.YtgjgckpdilbbjaaW.PrintWords Go.Proofs.YtgjgckpdilbbjaaW.PrintLast Go.Proofs.YtgjgckpdilbbjaaW.PrintMore
set_option linter.unusedVariables false
set_option linter.unusedSimpArgs false
structure AS (w w' : World) (N1 gd gb : Nat) (d : List Int) (vo : Value) (out : List (List Int)) (net : Array Value) : Prop where
  below : Below w.heap.size w w'
  row : w'.heap[gd]? = some (.cells (ints d) 3 (0, 0))
  hs : Kd.S (Kd.slice 3 (Kd.int .i64)) 25 w' w.heap.size (fun k => k ≠ gd ∧ k < N1) vo out
  net : w'.heap[gb]? = some (.cells net 24 (0, 0))
  c1 : w.heap.size ≤ gd
  c2 : gd < N1
  c3 : gb < N1
  c4 : gb ≠ gd
section
variable {w w' w'' : World} {N1 gd gb : Nat} {d : List Int} {vo : Value} {out : List (List Int)} {net : Array Value}
theorem AS.step (h : AS w w' N1 gd gb d vo out net) (hb : Below w'.heap.size w' w'') : AS w w'' N1 gd gb d vo out net := ⟨below_step h.below hb, blk_below h.row hb, Kd.S_below h.hs hb, blk_below h.net hb, h.c1, h.c2, h.c3, h.c4⟩
theorem AS.set (h : AS w w' N1 gd gb d vo out net) {g : Nat} (hg : N1 ≤ g) (j : Nat) (u : Value) : AS w (w'.setCell ⟨g, j, none⟩ u) N1 gd gb d vo out net := by
  have h1 := h.c1; have h2 := h.c2; have h3 := h.c3
  exact ⟨below_set h.below (by omega), blk_far (p := ⟨g, j, none⟩) h.row (show gd ≠ g by omega) _, Kd.S_far (p := ⟨g, j, none⟩) h.hs (fun k hk => show k ≠ g by omega) _, blk_far (p := ⟨g, j, none⟩) h.net (show gb ≠ g by omega) _, h1, h2, h3, h.c4⟩
theorem AS.put (h : AS w w' N1 gd gb d vo out net) (j : Nat) (x : Int) : AS w (w'.setCell ⟨gd, j, none⟩ (.int .i64 x)) N1 gd gb (d.set j x) vo out net :=
  ⟨below_set h.below h.c1, ints_put h.row j x, Kd.S_far (p := ⟨gd, j, none⟩) h.hs (fun k hk => hk.1) _, blk_far (p := ⟨gd, j, none⟩) h.net h.c4 _, h.c1, h.c2, h.c3, h.c4⟩
theorem AS.kept (h : AS w w' N1 gd gb d vo out net) {S : Nat → Prop} (hk : Kept w' w'' S) (hS : ∀ k, S k → N1 ≤ k) (hb : Below w.heap.size w w'') : AS w w'' N1 gd gb d vo out net := by
  have h2 := h.c2; have h3 := h.c3
  exact ⟨hb, Kept.blk hk h.row (fun e => by have := hS _ e; omega), Kd.S_step h.hs (fun k ho hlt => hk.2 k hlt (fun e => by have := hS k e; omega)), Kept.blk hk h.net (fun e => by have := hS _ e; omega), h.c1, h2, h3, h.c4⟩
end
structure OS (w w' : World) (N1 gd gb gp : Nat) (most : Int) (d : List Int) (vo : Value) (out : List (List Int)) (net : Array Value) (s : List (Int × Int)) (vl : Value) (l : List Int) (X : Nat → Prop) : Prop where
  asx : AS w w' N1 gd gb d vo out net
  pile : PState w' w.heap.size (fun k => N1 ≤ k ∧ ¬ (X k ∨ vl.ownBlock = some k)) gp most s
  lr : Kd.R (Kd.int .i64) 3 w' w.heap.size (fun k => N1 ≤ k ∧ k ≠ gp ∧ ¬ X k) vl l
  c5 : N1 ≤ gp
  c6 : N1 ≤ w'.heap.size
theorem R_self {w : World} {base : Nat} {ok : Nat → Prop} {v : Value} {l : List Int} (h : Kd.R (Kd.int .i64) 3 w base ok v l) : Kd.R (Kd.int .i64) 3 w base (fun k => ok k ∧ v.ownBlock = some k) v l := Kd.R_of_own (Kd.own_of_R h) (fun k hk => ⟨h.1 k hk, hk⟩)
section
variable {w w' w'' : World} {N1 gd gb gp : Nat} {most : Int} {d : List Int} {vo : Value} {out : List (List Int)} {net : Array Value} {s : List (Int × Int)} {vl : Value} {l : List Int} {X Y : Nat → Prop}
theorem OS.box (h : OS w w' N1 gd gb gp most d vo out net s vl l X) {g : Nat} (hg : g = w'.heap.size) (hb : Below w'.heap.size w' w'') : OS w w'' N1 gd gb gp most d vo out net s vl l (fun k => X k ∨ k = g) :=
  ⟨h.asx.step hb, ((h.pile.elder g (by omega)).below hb).mono (fun k hk => ⟨hk.1.1, fun e => e.elim (fun e => e.elim (fun e => hk.1.2 (Or.inl e)) hk.2) (fun e => hk.1.2 (Or.inr e))⟩), Kd.R_mono (Kd.R_below (Kd.R_elderB h.lr g (by omega)) hb) (fun k hk => ⟨hk.1.1, hk.1.2.1, fun e => e.elim hk.1.2.2 hk.2⟩), h.c5, Nat.le_trans h.c6 (below_size hb)⟩
theorem OS.mono (h : OS w w' N1 gd gb gp most d vo out net s vl l X) (hk : ∀ k, Y k → X k) : OS w w' N1 gd gb gp most d vo out net s vl l Y :=
  ⟨h.asx, h.pile.mono (fun k e => ⟨e.1, fun y => e.2 (y.imp (hk k) id)⟩), Kd.R_mono h.lr (fun k e => ⟨e.1, e.2.1, fun y => e.2.2 (hk k y)⟩), h.c5, h.c6⟩
theorem OS.set (h : OS w w' N1 gd gb gp most d vo out net s vl l X) {g : Nat} (hx : X g) (hg : N1 ≤ g) (hp : gp ≠ g) (j : Nat) (u : Value) : OS w (w'.setCell ⟨g, j, none⟩ u) N1 gd gb gp most d vo out net s vl l X :=
  ⟨h.asx.set hg j u, h.pile.kept (S := fun k => k = g) (Kept.setCell (p := ⟨g, j, none⟩) (Kept.refl w' (fun k => k = g)) (Or.inl rfl) _) hp (fun k hk e => by subst e; exact hk.2 (Or.inl hx)), Kd.R_far (p := ⟨g, j, none⟩) h.lr (fun k hk (e : k = g) => hk.2.2 (by subst e; exact hx)) _, h.c5, by have := h.c6; simp only [World.setCell]; simpa using this⟩
theorem OS.put (h : OS w w' N1 gd gb gp most d vo out net s vl l X) (j : Nat) (x : Int) : OS w (w'.setCell ⟨gd, j, none⟩ (.int .i64 x)) N1 gd gb gp most (d.set j x) vo out net s vl l X :=
  ⟨h.asx.put j x, h.pile.kept (S := fun k => k = gd) (Kept.setCell (p := ⟨gd, j, none⟩) (Kept.refl w' (fun k => k = gd)) (Or.inl rfl) _) (by have := h.c5; have := h.asx.c2; omega) (fun k hk e => by have := h.asx.c2; omega), Kd.R_far (p := ⟨gd, j, none⟩) h.lr (fun k hk (e : k = gd) => by have := h.asx.c2; omega) _, h.c5, by have := h.c6; simp only [World.setCell]; simpa using this⟩
theorem OS.kept1 (h : OS w w' N1 gd gb gp most d vo out net s vl l X) (hk : Kept w' w'' (fun k => k = gp ∨ (N1 ≤ k ∧ ¬ (X k ∨ vl.ownBlock = some k)))) (hb : Below w.heap.size w w'') {s' : List (Int × Int)} (hq : PState w'' w.heap.size (fun k => N1 ≤ k ∧ ¬ (X k ∨ vl.ownBlock = some k)) gp most s') : OS w w'' N1 gd gb gp most d vo out net s' vl l X :=
  ⟨h.asx.kept hk (fun k e => e.elim (fun e => e ▸ h.c5) (fun e => e.1)) hb, hq, Kd.R_mono (Kd.R_kept (R_self h.lr) hk (fun k ho e => e.elim ho.1.2.1 (fun e => e.2 (Or.inr ho.2)))) (fun k hk => hk.1), h.c5, Nat.le_trans h.c6 hk.1⟩
theorem OS.pop {x : Int × Int} (h : OS w w' N1 gd gb gp most d vo out net (x :: s) vl l X) (hl : (x :: s).length ≤ 65536) : Calls Try.prog 37 #[.pointer (some ⟨gp, 0, none⟩)] w' fun e w'' => e = .returned (.tuple #[.agg #[.int .i64 x.1, .int .i64 x.2], .int .i64 0]) ∧ OS w w'' N1 gd gb gp most d vo out net s vl l X ∧ Kept w' w'' (fun k => k = gp ∨ (N1 ≤ k ∧ ¬ (X k ∨ vl.ownBlock = some k))) := by
  refine (popP1 _ gp most x s w w' h.asx.below h.pile hl).mono ?_
  rintro e w2 ⟨hb, hk, he, hq⟩
  exact ⟨he, h.kept1 hk hb hq, hk⟩
theorem OS.push (h : OS w w' N1 gd gb gp most d vo out net s vl l X) (hX : ∀ k, X k → k < w'.heap.size) (x0 x1 : Int) (hl : s.length ≤ 65536) (s' : List (Int × Int)) (hs : (if (s.length : Int) = most then s else ins (x0, x1) s) = s') : Calls Try.prog 35 #[.pointer (some ⟨gp, 0, none⟩), .agg #[.int .i64 x0, .int .i64 x1]] w' fun e w'' => (∃ r, e = .returned (.int .i64 r)) ∧ OS w w'' N1 gd gb gp most d vo out net s' vl l X ∧ Kept w' w'' (fun k => k = gp ∨ (N1 ≤ k ∧ ¬ (X k ∨ vl.ownBlock = some k))) := by
  refine (pushP1 _ gp most s x0 x1 w w' h.asx.below h.pile (fun k hk => ⟨Nat.le_trans h.c6 hk, fun e => e.elim (fun e => by have := hX k e; omega) (fun e => by have := Kd.R_lt h.lr k e; omega)⟩) hl s' hs).mono ?_
  rintro e w2 ⟨hb, hk, he, hq⟩
  exact ⟨he, h.kept1 hk hb hq, hk⟩
theorem OS.grown (h : OS w w' N1 gd gb gp most d vo out net s vl l X) {v1 : Value} {l1 : List Int} (hr : Kd.R (Kd.int .i64) 3 w'' w.heap.size (fun k => N1 ≤ k ∧ k ≠ gp ∧ ¬ X k) v1 l1) (hb : Below w.heap.size w w'') (hg : w'.grownBy w'' vl.ownBlock) (hat : v1.ownBlock = vl.ownBlock ∨ ∃ b, v1.ownBlock = some b ∧ w'.heap.size ≤ b) : OS w w'' N1 gd gb gp most d vo out net s v1 l1 X := by
  have hk : Kept w' w'' (fun k => vl.ownBlock = some k) := ⟨hg.size, fun k hk hne => hg.block k hk (fun e_ => hne e_.symm)⟩
  have hown := h.lr.1
  refine ⟨h.asx.kept hk (fun k e => (hown k e).1) hb, ?_, hr, h.c5, Nat.le_trans h.c6 hg.size⟩
  rcases hat with e | ⟨b, e, hle⟩
  · rw [e]
    exact h.pile.kept hk (fun e => (hown gp e).2.1 rfl) (fun k ho e => ho.2 (Or.inr e))
  · refine ((h.pile.elder b hle).kept hk (fun e => (hown gp e).2.1 rfl) (fun k ho e => ho.1.2 (Or.inr e))).mono (fun k hk => ⟨hk.1.1, fun y => y.elim (fun y => hk.1.2 (Or.inl y)) (fun y => hk.2 ?_)⟩)
    rw [e] at y
    exact (Option.some.inj y).symm
end
def orderWait : List S37 → List Int → Option (List Int)
  | [], d => some d
  | a :: r, d => if 0 ≤ a.f1 ∧ a.f1 < (d.length : Int) then orderWait r (d.set a.f1.toNat (wrap64 (rd d a.f1 + 1))) else none
def orderFree (most : Int) : Nat → List Int → List (Int × Int) → Option (List (Int × Int))
  | _, [], s => some s
  | v, x :: r, s => if s.length ≤ 65536 then (if x = 0 then orderFree most (v + 1) r (if (s.length : Int) = most then s else ins ((v : Int), 0) s) else orderFree most (v + 1) r s) else none
def orderIn (arcs : List S37) (most : Int) : List Int → List Int → List (Int × Int) → Option (List Int × List (Int × Int))
  | [], d, s => some (d, s)
  | i :: r, d, s =>
    if 0 ≤ i ∧ i < (arcs.length : Int) ∧ 0 ≤ (rd_T37 arcs i).f1 ∧ (rd_T37 arcs i).f1 < (d.length : Int) ∧ s.length ≤ 65536 then
      (if wrap64 (rd d (rd_T37 arcs i).f1 - 1) = 0 then orderIn arcs most r (d.set (rd_T37 arcs i).f1.toNat (wrap64 (rd d (rd_T37 arcs i).f1 - 1))) (if (s.length : Int) = most then s else ins ((rd_T37 arcs i).f1, 0) s)
       else orderIn arcs most r (d.set (rd_T37 arcs i).f1.toNat (wrap64 (rd d (rd_T37 arcs i).f1 - 1))) s)
    else none
def orderLoop (arcs : List S37) (out : List (List Int)) (most : Int) : Nat → List Int → List (Int × Int) → List Int → Option (List Int)
  | 0, _, _, _ => none
  | _ + 1, _, [], l => some l
  | k + 1, d, x :: s, l => if 0 ≤ x.1 ∧ x.1 < (out.length : Int) ∧ (x :: s).length ≤ 65536 ∧ l.length < 1000000 then (orderIn arcs most (rd_L3 out x.1) d s).bind (fun y => orderLoop arcs out most k y.1 y.2 (l ++ [x.1])) else none
def adj_Order.f (k : Nat) (a0_0 : Int) (a0_1 : Bool) (l0_2 : List S37) : Option (List Int × Bool × Int) :=
  (netfmt_Check.f k a0_0 a0_1 l0_2).bind fun e => if e = 0 then (if 1 ≤ a0_0 ∧ a0_0 ≤ 50 then (adj_Leaving.f k a0_0 a0_1 l0_2).bind fun out => (orderWait l0_2 (List.replicate a0_0.toNat 0)).bind fun d => (orderFree a0_0 0 d []).bind fun s => (orderLoop l0_2 out a0_0 k d s []).bind fun l => if (l.length : Int) < a0_0 then some ([], false, 0) else some (l, true, 0) else none) else some ([], false, e)
theorem orderLoop.mono (arcs : List S37) (out : List (List Int)) (N : Int) : ∀ k d q l, LeO (orderLoop arcs out N k d q l) (orderLoop arcs out N (k + 1) d q l)
  | 0, _, _, _ => LeO.none _
  | k + 1, d, [], _ => LeO.refl _
  | k + 1, d, v :: q, l => by
    unfold orderLoop
    exact LeO.ite (LeO.bind (LeO.refl _) (fun x => orderLoop.mono arcs out N k x.1 x.2 _)) (LeO.none _)
theorem adj_Order.mono : ∀ a0 a1 a2 k, LeO (adj_Order.f k a0 a1 a2) (adj_Order.f (k + 1) a0 a1 a2) := by
  intro a0 a1 a2 k
  unfold adj_Order.f
  exact LeO.bind (netfmt_Check.mono _ _ _ _) (fun _ => LeO.ite (LeO.ite (LeO.bind (adj_Leaving.mono _ _ _ _) (fun _ => LeO.bind (LeO.refl _) (fun _ => LeO.bind (LeO.refl _) (fun _ => LeO.bind (orderLoop.mono _ _ _ _ _ _ _) (fun _ => LeO.refl _))))) (LeO.none _)) (LeO.refl _))
theorem drop_T37 {l : List S37} {j : Nat} (h : j < l.length) : l.drop j = rd_T37 l (j : Int) :: l.drop (j + 1) := by
  rw [List.drop_eq_getElem_cons h]
  congr 1
  unfold rd_T37
  rw [Int.toNat_natCast, List.getD_eq_getElem?_getD, List.getElem?_eq_getElem h]; rfl
theorem make_run {P : Program} (hP : P = Try.prog) {o : Oper} {a : Act} {w : World} (l c : Operand) (hop : o.op = Op.makeSlice 25 l c) (n : Nat) (hl : a.eval l = .int .i64 (n : Int)) (hc : a.eval c = .int .i64 (n : Int)) (hn : n ≤ 1000000000) :
    (execOp a.eval o).run P w = .ok (.value (.slice (some ⟨w.heap.size, 0, none⟩) n n)) (w.alloc (.cells (ints (List.replicate n 0)) 3)) := by
  subst hP
  obtain ⟨i3, hi, hz0, hz1, hz2⟩ := info_parts info3
  have hr := run_make (P := Try.prog) w 25 3 i3 (.int .i64 0) Try.underlying25 hi hz0 .i64 .i64 (n : Int) (n : Int) (by omega) (by omega) (by rw [hz2]; omega) (by omega)
  rw [hz1, Int.toNat_natCast, made_ints] at hr
  simp [execOp, hop, hl, hc, hr, Result.andThen]
theorem S_row {w : World} {base : Nat} {ok : Nat → Prop} {A : Option Addr} {n c : Nat} {xs : List (List Int)} (h : Kd.S (Kd.slice 3 (Kd.int .i64)) 25 w base ok (.slice A n c) xs) (i : Int) (h0 : 0 ≤ i) (h1 : i < (xs.length : Int)) :
    ∃ ad A1 c1, A = some ad ∧ w.cell? (ad.add i.toNat) = some (.slice A1 (rd_L3 xs i).length c1) ∧ Kd.R (Kd.int .i64) 3 w base ok (.slice A1 (rd_L3 xs i).length c1) (rd_L3 xs i) := by
  obtain ⟨hn, _⟩ := Kd.S_reads' h
  obtain ⟨g, cap, hv, _⟩ := Kd.S_form h (by omega)
  injection hv with ha _ _
  subst ha
  obtain ⟨cs, _, ⟨v, rfl, hr⟩, hc⟩ := Kd.S_get h [] i h0 (by omega)
  have hr2 : Kd.R (Kd.int .i64) 3 w base ok v (rd_L3 xs i) := Kd.R_mono hr (fun k hk => hk.1)
  obtain ⟨A1, c1, rfl⟩ := Kd.R_slice hr2
  have hc0 := hc 0 _ rfl
  rw [show (Kd.slice 3 (Kd.int .i64)).sz = 1 from rfl, Nat.mul_one, Nat.add_zero] at hc0
  exact ⟨_, A1, c1, rfl, hc0, hr2⟩
theorem ints_new {w : World} {g i : Nat} {d : List Int} {y : Int} (h : w.heap[g]? = some (.cells (ints (d.set i y)) 3 (0, 0))) (hi : i < d.length) : w.cell? ⟨g, i, none⟩ = some (.int .i64 y) := by
  rw [blk_cell h, ints_get (by simp; exact hi), List.getElem_set_self]
def adj_Order.T4 : Bool × List (List Nat × List Nat) := (true, [([], []), ([0], [0]), ([], []), ([2], [2]), ([3, 3], [3]), ([1, 1, 0, 1], [1]), ([4, 5, 0, 1, 2, 3, 4, 5], [4])])
def adj_Order.B4 : List Nat := [0, 1, 0, 4, 12, 3, 63]
theorem adj_Order.tab4 : rtab .any (opsOf Try.f15 4) = adj_Order.T4 := by kernel_rfl
theorem adj_Order.bits4 : waitsOk adj_Order.T4.2 adj_Order.B4 = true := by kernel_rfl
set_option maxHeartbeats 8000000 in
set_option maxRecDepth 100000 in
theorem adj_Order.calls (k : Nat) (a0_0 : Int) (a0_1 : Bool) (A0_2 : Option Addr) (c0_2 : Nat) (l0_2 : List (S37)) (r1 : List Int) (r2 : Bool) (r3 : Int) (w : World) (hr0_2 : Kd.C k37 w A0_2 l0_2.length l0_2) (hc0_2 : l0_2.length ≤ c0_2) (h : adj_Order.f k a0_0 a0_1 l0_2 = some (r1, r2, r3)) :
    Calls Try.prog 15 #[.agg #[.int .i64 a0_0, .bool a0_1, .slice A0_2 l0_2.length c0_2]] w fun e w' => ∃ v0_, e = .returned (.tuple #[v0_, .bool r2, .int .i64 r3]) ∧ Kd.R (Kd.int .i64) 3 w' w.heap.size (fun _ => True) v0_ r1 ∧ Below w.heap.size w w' := by
  have hu24 := Try.underlying24
  have hu25 := Try.underlying25
  have HR0 := Aside0.mk hr0_2
  have HC0 := Aside0.mk hc0_2
  have HB := Aside0.mk (Below.refl w.heap.size w)
  clear hr0_2 hc0_2
  unfold adj_Order.f at h
  replace h := Option.bind_eq_some_iff.mp h
  obtain ⟨e0, ha, h⟩ := h
  have HA := Aside0.mk ha
  clear ha
  by_cases ce : e0 = 0
  · rw [if_pos ce] at h
    by_cases cg : 1 ≤ a0_0 ∧ a0_0 ≤ 50
    · rw [if_pos cg] at h
      replace h := Option.bind_eq_some_iff.mp h
      obtain ⟨out, ho, h⟩ := h
      replace h := Option.bind_eq_some_iff.mp h
      obtain ⟨dW, hwt, h⟩ := h
      replace h := Option.bind_eq_some_iff.mp h
      obtain ⟨s0, hfr, h⟩ := h
      replace h := Option.bind_eq_some_iff.mp h
      obtain ⟨lr, hlp, h⟩ := h
      have HO := Aside0.mk ho
      have HWT := Aside0.mk hwt
      have HFR := Aside0.mk hfr
      have HLP := Aside0.mk hlp
      have HEND := Aside0.mk h
      subst ce
      obtain ⟨N, hN⟩ : ∃ N : Nat, a0_0 = (N : Int) := ⟨a0_0.toNat, by omega⟩
      subst hN
      have HN : Aside0 (1 ≤ N ∧ N ≤ 50) := ⟨by omega⟩
      clear ho hwt hfr hlp h cg
      go_enter Try.func15, Try.ntmps15
      go_wp2_with (first
        | ((with_reducible refine gate_dst (N := 1) rfl ?_); refine box_event ?hg (N := 1) ?hd (cs := #[.int .i64 (N : Int), .bool a0_1, .slice A0_2 l0_2.length c0_2]) (t := 24) ?hr ?_; (case hd => rfl); (case hg => rfl); (case hr => first | (go_simp; done) | (go_simp; rfl)); intro gb hg w1 hbox hb; have n0_ := Aside0.mk (below_step HB.out hb); have n1_ := Aside0.mk hbox; have GB := Aside0.mk (show w.heap.size ≤ gb by rw [hg]; exact below_size HB.out); clear HB; have HB := n0_; have BK := n1_; clear n0_ n1_ hb hbox hg; have hcz0 : w1.cell? ⟨gb, 0, none⟩ = some (.int .i64 (N : Int)) := (blk_cell BK.out 0).trans rfl; have hcz1 : w1.cell? ⟨gb, 1, none⟩ = some (.bool a0_1) := (blk_cell BK.out 1).trans rfl; have hcz2 : w1.cell? ⟨gb, 2, none⟩ = some (.slice A0_2 l0_2.length c0_2) := (blk_cell BK.out 2).trans rfl)
        | (go_at_call 33; refine (netfmt_Check.calls k (N : Int) a0_1 _ _ l0_2 0 _ (Kd.C_below HR0.out HB.out) HC0.out HA.out).mono ?_; rintro e w2 ⟨rfl, hb⟩; have n0_ := Aside0.mk (below_step HB.out hb); have n1_ := Aside0.mk (blk_below BK.out hb); clear HB BK hb hcz0 hcz1 hcz2; have HB := n0_; have BK := n1_; clear n0_ n1_))
      clear HA
      have n0_ := Aside0.mk (below_drew1 HB.out)
      have n1_ := Aside0.mk (blk_drew BK.out)
      clear HB BK
      have HB := n0_
      have BK := n1_
      clear n0_ n1_
      obtain ⟨net, hnet⟩ : ∃ net : Array Value, net = #[.int .i64 (N : Int), .bool a0_1, .slice A0_2 l0_2.length c0_2] := ⟨_, rfl⟩
      refine start_ (n := 7) (S := fun w' => w'.cell? ⟨gb, 0, none⟩ = some (.int .i64 (N : Int)) ∧ w'.cell? ⟨gb, 1, none⟩ = some (.bool a0_1) ∧ w'.cell? ⟨gb, 2, none⟩ = some (.slice A0_2 l0_2.length c0_2)) (ds := []) #[Ff,Ff,Ff,Ff,Ff,Ff,Ff] (by kernel_rfl) rfl rfl ⟨(blk_cell BK.out 0).trans rfl, (blk_cell BK.out 1).trans rfl, (blk_cell BK.out 2).trans rfl⟩ (fun hHeld => ?_)
      generalize w2.drew = w3 at HB BK hHeld ⊢
      rw [← hnet] at BK
      have HNET := Aside0.mk hnet
      clear hnet
      refine with_tabW adj_Order.tab4 adj_Order.bits4 (fun HT_ HW_ => ?_)
      refine pv_ 2 25 #[Ff,Ff,Tt,Ff,Ff,Ff,Ff] ?_
      refine take_ (i := 0) (N := (some 23)) (v := ?_) (a' := ?_) #[Tt,Ff,Tt,Ff,Ff,Ff,Ff] rfl rfl (take_ofW HT_.out HW_.out (by kernel_rfl)) (fun _ _ _ h => h) (Or.inl ⟨by rfl, ?_⟩) hHeld ?_ ?_
      rotate_left
      · rintro w' ⟨s0, s1, s2⟩
        go_simp
        with_reducible rfl
      rotate_left
      exact ap_
      refine take_ (i := 3) (N := (some 26)) (v := ?_) (a' := ?_) #[Tt,Ff,Tt,Tt,Ff,Ff,Ff] rfl rfl (take_ofW HT_.out HW_.out (by kernel_rfl)) (fun _ _ _ h => h) (Or.inl ⟨by rfl, ?_⟩) hHeld ?_ ?_
      rotate_left
      · rintro w' ⟨s0, s1, s2⟩
        go_simp
        with_reducible rfl
      rotate_left
      exact ap_
      refine join_ (σ := Value × Nat) 1 #[Tt,Tt,Tt,Tt,Tt,Tt,Ff] (fun s_ => [(24, s_.1), (27, .slice (some ⟨s_.2, 0, none⟩) N N), (5, s_.1)]) (fun s_ w' => AS w w' w'.heap.size s_.2 gb (List.replicate N 0) s_.1 out net) ?_ ?_
      rotate_left
      · intro hCont
        have hcells : ∀ w' : World, w'.heap[gb]? = some (.cells net 24 (0, 0)) → (w'.cell? ⟨gb, 0, none⟩ = some (.int .i64 (N : Int)) ∧ w'.cell? ⟨gb, 1, none⟩ = some (.bool a0_1) ∧ w'.cell? ⟨gb, 2, none⟩ = some (.slice A0_2 l0_2.length c0_2)) := by
          intro w' hb
          rw [HNET.out] at hb
          exact ⟨(blk_cell hb 0).trans rfl, (blk_cell hb 1).trans rfl, (blk_cell hb 2).trans rfl⟩
        have HCELLS := Aside0.mk hcells
        have HCONT := Aside0.mk hCont
        clear hcells hCont
        refine two_ (i := 1) (j := 4) (Ni := some 24) (Nj := some 27) #[Tt,Tt,Tt,Tt,Ff,Ff,Ff] #[Tt,Ff,Tt,Tt,Tt,Ff,Ff] rfl rfl rfl rfl (two_of HT_.out (by kernel_rfl)) (by decide) (by decide) (fun K hK => ?_) (fun K hK => ?_)
        · refine goes_ Try.func26 (by kernel_rfl) rfl #[.agg #[.int .i64 (N : Int), .bool a0_1, .slice A0_2 l0_2.length c0_2]] (by rfl) rfl rfl (by (try simp only [List.map_toArray, List.map_cons, List.map_nil]); first | done | rfl) ?_
          refine (adj_Leaving.calls k (N : Int) a0_1 _ _ l0_2 out _ (Kd.C_below HR0.out HB.out) HC0.out HO.out).mono ?_
          rintro e w4 ⟨vo, rfl, hs, hb⟩
          have n1_ := blk_below BK.out hb
          refine ⟨_, rfl, hK.out _ _ (HCELLS.out _ n1_) (fun hHeld2 => ?_)⟩
          clear hK K
          refine norm_ (a' := ?_) ?_ ?_
          rotate_left
          · show Act.put _ (some 24) _ = _
            simp only [Act.put, List.setIfInBounds_toArray, List.set_cons_zero, List.set_cons_succ, i64_w, i32_w]
            rfl
          refine pv_ 5 5 #[Tt,Tt,Tt,Tt,Ff,Tt,Ff] ?_
          refine one_ (i := 4) (N := (some 27)) #[Tt,Tt,Tt,Tt,Tt,Tt,Ff] rfl rfl (one_of HT_.out (by kernel_rfl)) (by decide) (fun K hK => ?_)
          have hba := below_alloc (Below.refl w4.heap.size w4) (.cells (ints (List.replicate N 0)) 3)
          refine event_step (by rfl) (make_run rfl (.tmp 26) (.tmp 26) rfl N rfl rfl (by have := HN.out; omega)) ?_
          have n2_ := blk_below n1_ hba
          have n3_ := blk_new w4 (.cells (ints (List.replicate N 0)) 3)
          refine hK.out _ _ (HCELLS.out _ n2_) (fun hHeld3 => ?_)
          clear hK K
          refine norm_ (a' := ?_) ?_ ?_
          rotate_left
          · show Act.put _ (some 27) _ = _
            simp only [Act.put, List.setIfInBounds_toArray, List.set_cons_zero, List.set_cons_succ, i64_w, i32_w]
            rfl
          exact norm_ (by simp only [putAll, Act.put, List.setIfInBounds_toArray, List.set_cons_zero, List.set_cons_succ, i64_w, i32_w]) (HCONT.out (vo, w4.heap.size) _ ⟨below_step (below_step HB.out hb) hba, n3_, Kd.S_mono (Kd.S_below (Kd.S_lower (Kd.S_bound hs) (below_size HB.out)) hba) (fun k_ hk_ => ⟨Nat.ne_of_lt hk_.2.2.1, Nat.lt_trans hk_.2.2.1 (blk_lt n3_)⟩), n2_, below_size (below_step HB.out hb), blk_lt n3_, blk_lt n2_, Nat.ne_of_lt (blk_lt n1_)⟩)
        · have hba := below_alloc (Below.refl w3.heap.size w3) (.cells (ints (List.replicate N 0)) 3)
          refine event_step (by rfl) (make_run rfl (.tmp 26) (.tmp 26) rfl N rfl rfl (by have := HN.out; omega)) ?_
          have n1_ := blk_below BK.out hba
          have n3_ := blk_new w3 (.cells (ints (List.replicate N 0)) 3)
          refine hK.out _ _ (HCELLS.out _ n1_) (fun hHeld3 => ?_)
          clear hK K
          refine norm_ (a' := ?_) ?_ ?_
          rotate_left
          · show Act.put _ (some 27) _ = _
            simp only [Act.put, List.setIfInBounds_toArray, List.set_cons_zero, List.set_cons_succ, i64_w, i32_w]
            rfl
          refine one_ (i := 1) (N := (some 24)) #[Tt,Tt,Tt,Tt,Tt,Ff,Ff] rfl rfl (one_of HT_.out (by kernel_rfl)) (by decide) (fun K hK => ?_)
          refine goes_ Try.func26 (by kernel_rfl) rfl #[.agg #[.int .i64 (N : Int), .bool a0_1, .slice A0_2 l0_2.length c0_2]] (by rfl) rfl rfl (by (try simp only [List.map_toArray, List.map_cons, List.map_nil]); first | done | rfl) ?_
          refine (adj_Leaving.calls k (N : Int) a0_1 _ _ l0_2 out _ (Kd.C_below HR0.out (below_step HB.out hba)) HC0.out HO.out).mono ?_
          rintro e w5 ⟨vo, rfl, hs, hb⟩
          have n4_ := blk_below n1_ hb
          have n5_ := blk_below n3_ hb
          refine ⟨_, rfl, hK.out _ _ (HCELLS.out _ n4_) (fun hHeld2 => ?_)⟩
          clear hK K
          refine norm_ (a' := ?_) ?_ ?_
          rotate_left
          · show Act.put _ (some 24) _ = _
            simp only [Act.put, List.setIfInBounds_toArray, List.set_cons_zero, List.set_cons_succ, i64_w, i32_w]
            rfl
          refine pv_ 5 5 #[Tt,Tt,Tt,Tt,Tt,Tt,Ff] ?_
          exact norm_ (by simp only [putAll, Act.put, List.setIfInBounds_toArray, List.set_cons_zero, List.set_cons_succ, i64_w, i32_w]) (HCONT.out (vo, w3.heap.size) _ ⟨below_step (below_step HB.out hba) hb, n5_, Kd.S_mono (Kd.S_lower (Kd.S_bound hs) (below_size (below_step HB.out hba))) (fun k_ hk_ => ⟨fun e_ => by have h1_ := hk_.2.1; have h2_ := blk_lt n3_; rw [e_] at h1_; exact absurd h2_ (Nat.not_lt.2 h1_), hk_.2.2.1⟩), n4_, below_size HB.out, blk_lt n5_, blk_lt n4_, Nat.ne_of_lt (blk_lt BK.out)⟩)
      rintro ⟨vo, gd⟩ w5 hAS
      simp only at hAS
      obtain ⟨N1, hN1⟩ : ∃ N1, w5.heap.size = N1 := ⟨_, rfl⟩
      rw [hN1] at hAS
      have HSZ : Aside0 (N1 ≤ w5.heap.size) := ⟨Nat.le_of_eq hN1.symm⟩
      obtain ⟨Ao, co, rfl, _, _⟩ := Kd.S_reads hAS.hs
      have HS := Aside0.mk hAS
      clear HB BK hHeld hAS hN1
      refine norm_ (a' := ?_) ?_ ?_
      rotate_left
      · show putAll _ _ = _
        simp only [putAll, Act.put, List.setIfInBounds_toArray, List.set_cons_zero, List.set_cons_succ, i64_w, i32_w]
        rfl
      refine pv_ 6 6 #[Tt,Tt,Tt,Tt,Tt,Tt,Tt] ?_
      refine done_ (done_of HT_.out (by kernel_rfl)) ?_
      clear HT_ HW_
      have hnet5 := HS.out.net
      rw [HNET.out] at hnet5
      have hcz2 : w5.cell? ⟨gb, 2, none⟩ = some (.slice A0_2 l0_2.length c0_2) := (blk_cell hnet5 2).trans rfl
      have HD0 : Aside0 ((List.replicate N (0 : Int)).length = N) := ⟨by simp⟩
      have HW0 : Aside0 (orderWait l0_2 (List.replicate N 0) = some dW) := ⟨by have h_ := HWT.out; rw [Int.toNat_natCast] at h_; exact h_⟩
      clear hnet5 HWT HO
      go_wp2
      clear hcz2
      go_loopg [31] l0_2.length (fun kq v31 w' => ∃ (j : Nat) (d : List Int), v31 = .int .i64 (j : Int) ∧ Aside0 (j + kq = l0_2.length) ∧ Aside0 (orderWait (l0_2.drop j) d = some dW) ∧ Aside0 (d.length = N) ∧ Aside0 (AS w w' N1 gd gb d (.slice Ao out.length co) out net) ∧ Aside0 (N1 ≤ w'.heap.size))
      case atStart => exact ⟨0, _, rfl, ⟨by omega⟩, HW0, HD0, HS, HSZ⟩
      case round =>
        clear HS HSZ HD0 HW0
        obtain ⟨j, d, rfl, HJ, HW, HD, HS, HSZ⟩ := hrel
        cases gk with
        | zero =>
          have hj : j = l0_2.length := by have := HJ.out; omega
          subst hj
          have c1 : decide ((l0_2.length : Int) < (l0_2.length : Int)) = false := decide_eq_false (by omega)
          have c2 : decide (l0_2.length < l0_2.length) = false := decide_eq_false (by omega)
          have hW := HW.out
          rw [List.drop_length] at hW
          simp only [orderWait, Option.some.injEq] at hW
          subst hW
          have hnet5 := HS.out.net
          rw [HNET.out] at hnet5
          have hcz0 : wr.cell? ⟨gb, 0, none⟩ = some (.int .i64 (N : Int)) := (blk_cell hnet5 0).trans rfl
          clear hnet5
          go_wp2_with (go_at_call 34; refine (newP (N : Int) _ (by have := HN.out; omega) (by have := HN.out; omega)).mono ?_; rintro e w6 ⟨hb, gp, rfl, hq⟩; have n2_ : Aside0 (OS w w6 N1 gd gb gp (N : Int) d (.slice Ao out.length co) out net [] (.slice none 0 0) [] (fun _ => False)) := Aside0.mk ⟨HS.out.step hb, (hq.based.mono (fun k hk => ⟨Nat.le_trans HSZ.out hk.2, fun e_ => e_.elim id (fun e_ => by cases e_)⟩)).lower (below_size HS.out.below), Kd.R_nil _ _ _ _ _, Nat.le_trans HSZ.out hq.ge, Nat.le_trans HSZ.out (below_size hb)⟩; clear HS HSZ hb hq hcz0; have HS := n2_; clear n2_)
          have HF0 : Aside0 (orderFree (N : Int) 0 (d.drop 0) [] = some s0) := HFR
          clear c1 c2 HW HJ HFR
          go_loopg [51] N (fun kq v51 w' => ∃ (j : Nat) (s : List (Int × Int)), v51 = .int .i64 (j : Int) ∧ Aside0 (j + kq = N) ∧ Aside0 (orderFree (N : Int) j (d.drop j) s = some s0) ∧ Aside0 (OS w w' N1 gd gb gp (N : Int) d (.slice Ao out.length co) out net s (.slice none 0 0) [] (fun _ => False)))
          case atStart => exact ⟨0, [], rfl, ⟨by omega⟩, HF0, HS⟩
          case round =>
            clear HS HF0
            obtain ⟨j, s, rfl, HJ, HF, HS⟩ := hrel
            cases gk with
            | zero =>
              have hj : N = j := by have := HJ.out; omega
              subst hj
              have c1 : decide ((N : Int) < (N : Int)) = false := decide_eq_false (by omega)
              have c2 : decide (N < N) = false := decide_eq_false (by omega)
              have hF := HF.out
              rw [List.drop_of_length_le (by have := HD.out; omega)] at hF
              simp only [orderFree, Option.some.injEq] at hF
              subst hF
              go_wp2
              clear c1 c2 HJ HF
              have HL0 : Aside0 (orderLoop l0_2 out (N : Int) k d s [] = some lr) := HLP
              clear HLP
              go_loopg [2] k (fun kq v2 w' => ∃ (d : List Int) (s : List (Int × Int)) (l : List Int), Aside0 (orderLoop l0_2 out (N : Int) kq d s l = some lr) ∧ Aside0 (d.length = N) ∧ Aside0 (OS w w' N1 gd gb gp (N : Int) d (.slice Ao out.length co) out net s v2 l (fun _ => False)))
              case atStart => exact ⟨d, s, [], HL0, HD, HS⟩
              case round =>
                clear HS HL0 HD
                obtain ⟨d, s, l, HL, HD, HS⟩ := hrel
                cases gk with
                | zero => exact absurd HL.out (by simp [orderLoop])
                | succ k1 =>
                  cases s with
                  | nil =>
                    have hdr : l = lr := by have h_ := HL.out; simp only [orderLoop] at h_; exact Option.some.inj h_
                    subst hdr
                    obtain ⟨Al, cl, hvl⟩ := Kd.R_slice HS.out.lr
                    subst hvl
                    have hE := HEND.out
                    obtain ⟨bf, hbf⟩ : ∃ b, decide ((l.length : Int) < (N : Int)) = b := ⟨_, rfl⟩
                    have hbf2 : decide (l.length < N) = bf := by rw [← hbf]; exact decide_eq_decide.2 (by omega)
                    have hnet5 := HS.out.asx.net
                    rw [HNET.out] at hnet5
                    have hcz0 : wr.cell? ⟨gb, 0, none⟩ = some (.int .i64 (N : Int)) := (blk_cell hnet5 0).trans rfl
                    clear hnet5
                    cases bf
                    · rw [if_neg (of_decide_eq_false hbf)] at hE
                      simp only [Option.some.injEq, Prod.mk.injEq] at hE
                      obtain ⟨rfl, rfl, rfl⟩ := hE
                      go_wp2_with (go_at_call 36; refine (lenP' gp (N : Int) [] 0 _ HS.out.pile rfl).mono ?_; rintro e w7 ⟨rfl, rfl⟩)
                      go_ret3
                      exact ⟨_, rfl, Kd.R_mono HS.out.lr (fun _ _ => trivial), HS.out.asx.below⟩
                    · rw [if_pos (of_decide_eq_true hbf)] at hE
                      simp only [Option.some.injEq, Prod.mk.injEq] at hE
                      obtain ⟨rfl, rfl, rfl⟩ := hE
                      go_wp2_with (go_at_call 36; refine (lenP' gp (N : Int) [] 0 _ HS.out.pile rfl).mono ?_; rintro e w7 ⟨rfl, rfl⟩)
                      go_ret3
                      exact ⟨_, rfl, Kd.R_nil _ _ _ _ _, HS.out.asx.below⟩
                  | cons x s =>
                    obtain ⟨key, item⟩ := x
                    have hH := HL.out
                    unfold orderLoop at hH
                    by_cases cv : 0 ≤ key ∧ key < (out.length : Int) ∧ ((key, item) :: s).length ≤ 65536 ∧ l.length < 1000000
                    · rw [if_pos cv] at hH
                      replace hH := Option.bind_eq_some_iff.mp hH
                      obtain ⟨⟨d2, s2⟩, hI, hH⟩ := hH
                      have HI := Aside0.mk hI
                      have HH : Aside0 (orderLoop l0_2 out (N : Int) k1 d2 s2 (l ++ [key]) = some lr) := Aside0.mk hH
                      have HV := Aside0.mk cv
                      clear hI hH cv HL
                      obtain ⟨n, hn⟩ : ∃ n, ((key, item) :: s).length = n := ⟨_, rfl⟩
                      have hpos : 0 < n := by rw [← hn]; simp
                      have c1 : decide ((n : Int) > 0) = true := decide_eq_true (by omega)
                      have c2 : decide (0 < (n : Int)) = true := decide_eq_true (by omega)
                      have c3 : decide (0 < n) = true := decide_eq_true hpos
                      have HNL := Aside0.mk hn
                      clear hn hpos
                      obtain ⟨row, hrw⟩ : ∃ row, rd_L3 out key = row := ⟨_, rfl⟩
                      have HRW := Aside0.mk hrw
                      have n0_ : Aside0 (orderIn l0_2 (N : Int) (row.drop 0) d s = some (d2, s2)) := ⟨by have h_ := HI.out; rw [hrw] at h_; exact h_⟩
                      clear HI
                      have HI := n0_
                      clear n0_
                      have p0 := eq_true HV.out.1
                      have p1 := eq_true HV.out.2.1
                      clear hrw
                      go_wp2_with (first
                        | (go_at_call 36; refine (lenP' gp (N : Int) ((key, item) :: s) n _ HS.out.pile HNL.out).mono ?_; rintro e w7 ⟨rfl, rfl⟩)
                        | (go_at_call 37; refine (HS.out.pop HV.out.2.2.1).mono ?_; rintro e w8 ⟨rfl, hf, hk⟩; have n0_ := Aside0.mk hf; clear HS hf hk; have HS := n0_; clear n0_)
                        | ((with_reducible refine gate_dst (N := 13) rfl ?_); refine box_event ?hg (N := 13) ?hd (cs := #[.int .i64 0, .int .i64 0]) (t := 58) ?hr ?_; (case hd => rfl); (case hg => rfl); (case hr => first | (go_simp; done) | (go_simp; rfl)); intro gx hg w9 hbox hb; have n0_ := Aside0.mk (HS.out.box hg hb); have n1_ := Aside0.mk hbox; have GX : Aside0 (N1 ≤ gx ∧ gp ≠ gx) := Aside0.mk ⟨hg ▸ HS.out.c6, fun e_ => by have := HS.out.pile.ty.lt; omega⟩; clear HS hb hbox hg; have HS := n0_; have BX := n1_; clear n0_ n1_; have hcx0 : w9.cell? ⟨gx, 0, none⟩ = some (.int .i64 0) := (blk_cell BX.out 0).trans rfl; have hcx1 : w9.cell? ⟨gx, 1, none⟩ = some (.int .i64 0) := (blk_cell BX.out 1).trans rfl; have hfx0 := blk_frozen BX.out 0; have hfx1 := blk_frozen BX.out 1)
                        | ((with_reducible refine gate_store (t := 58) (p := 13) rfl ?_); refine store_event (t := 58) (p := 13) (v := ?vc1) (w1 := ?wc1) ?hg ?ho ?hn ?hr ?_; (case ho => rfl); (case hg => rfl); (case hn => rfl); (case hr => first | (go_simp; done) | (go_simp; rfl)); intro w10 hw; have n0_ : Aside0 (OS w w10 N1 gd gb gp (N : Int) d (.slice Ao out.length co) out net s u2 l (fun k => False ∨ k = gx)) := Aside0.mk (by rw [hw]; exact (HS.out.set (Or.inr rfl) GX.out.1 GX.out.2 0 _).set (Or.inr rfl) GX.out.1 GX.out.2 1 _); have n1_ : Aside0 (w10.heap[gx]? = some (.cells #[.int .i64 key, .int .i64 item] 58 (0, 0))) := Aside0.mk (by rw [hw]; exact blk_put (cs' := #[.int .i64 key, .int .i64 item]) (blk_put (cs' := #[.int .i64 key, .int .i64 0]) BX.out 0 (.int .i64 key) rfl) 1 (.int .i64 item) rfl); clear HS BX hw hcx0 hcx1 hfx0 hfx1; have HS := n0_; have BX := n1_; clear n0_ n1_; have hkx0 : w10.cell? ⟨gx, 0, none⟩ = some (.int .i64 key) := (blk_cell BX.out 0).trans rfl)
                        | ((with_reducible refine gate_builtin (b := .append) (xs := #[.tmp 71, .tmp 74]) rfl ?_); at_builtin; refine Kd.R_append (Kd.int .i64) (w0 := w) w.heap.size rfl (.tmp 71) (.tmp 74) 25 3 (.int .i64 0) 8 rfl Try.underlying25 info3 rfl (by decide) (by omega) u2 l key [.int .i64 key] (fun k => N1 ≤ k ∧ k ≠ gp ∧ ¬ (False ∨ k = gx)) (fun _ => False) rfl rfl ?aP (fun _ hk => hk.elim) ?aF ?aO ?aB ?aS ?aL ?_; (case aP => exact rfl); (case aB => exact HS.out.asx.below); (case aF => exact (fun k_ hk_ => ⟨Nat.le_trans HS.out.c6 hk_, fun e_ => by have := HS.out.pile.ty.lt; omega, fun e_ => e_.elim id (fun e_ => by have := blk_lt BX.out; omega)⟩)); (case aO => exact HS.out.lr); (case aS => exact below_size HS.out.asx.below); (case aL => have := HV.out.2.2.2; omega); intro v2 w11 hr hb hg hat; have n0_ := Aside0.mk (HS.out.grown hr hb hg hat); have n1_ : Aside0 (w11.heap[gx]? = some (.cells #[.int .i64 key, .int .i64 item] 58 (0, 0))) := Aside0.mk ((hg.block gx (blk_lt BX.out) (fun e_ => (HS.out.lr.1 gx e_.symm).2.2 (Or.inr rfl))).trans BX.out); clear HS BX hr hb hg hat hkx0; have HS := n0_; have BX := n1_; clear n0_ n1_; have hkx0 : w11.cell? ⟨gx, 0, none⟩ = some (.int .i64 key) := (blk_cell BX.out 0).trans rfl; obtain ⟨ado, A1, ca1, eA, hco, hrow⟩ := S_row HS.out.asx.hs key HV.out.1 HV.out.2.1; subst eA; rw [HRW.out] at hco hrow; have HROW := Aside0.mk hrow; clear hrow))
                      clear c1 c2 c3 p0 p1 hkx0 hco
                      have n0_ := Aside0.mk (HS.out.mono (Y := fun _ => False) (fun k hk => hk.elim))
                      clear HS BX
                      have HS := n0_
                      clear n0_
                      go_loopg [82] row.length (fun kj v82 w' => ∃ (j : Nat) (d1 : List Int) (s1 : List (Int × Int)), v82 = .int .i64 (j : Int) ∧ Aside0 (j + kj = row.length) ∧ Aside0 (orderIn l0_2 (N : Int) (row.drop j) d1 s1 = some (d2, s2)) ∧ Aside0 (d1.length = N) ∧ Aside0 (OS w w' N1 gd gb gp (N : Int) d1 (.slice (some ado) out.length co) out net s1 v2 (l ++ [key]) (fun _ => False)) ∧ Aside0 (Kd.R (Kd.int .i64) 3 w' w.heap.size (fun k => k ≠ gd ∧ k < N1) (.slice A1 row.length ca1) row))
                      case atStart => exact ⟨0, d, s, rfl, ⟨by omega⟩, HI, HD, HS, HROW⟩
                      case round =>
                        clear HS HROW HI
                        obtain ⟨j, d1, s1, rfl, HJ, HI, HD1, HS, HROW⟩ := hrel
                        cases gk with
                        | zero =>
                          have hj : j = row.length := by have := HJ.out; omega
                          subst hj
                          have c1 : decide ((row.length : Int) < (row.length : Int)) = false := decide_eq_false (by omega)
                          have c2 : decide (row.length < row.length) = false := decide_eq_false (by omega)
                          have hI := HI.out
                          rw [List.drop_length] at hI
                          simp only [orderIn, Option.some.injEq, Prod.mk.injEq] at hI
                          obtain ⟨rfl, rfl⟩ := hI
                          go_wp2
                          go_roundg k1
                          case measure => omega
                          case rel => exact ⟨d1, s1, l ++ [key], HH, HD1, HS⟩
                        | succ g1 =>
                          have hlt : j < row.length := by have := HJ.out; omega
                          have c1 : decide ((j : Int) < (row.length : Int)) = true := decide_eq_true (by omega)
                          have c2 : decide (j < row.length) = true := decide_eq_true hlt
                          have p0 := eq_true (show (0 : Int) ≤ (j : Int) by omega)
                          have p1 := eq_true (show (j : Int) < (row.length : Int) by omega)
                          have hI := HI.out
                          rw [drop_rd hlt] at hI
                          unfold orderIn at hI
                          have hrr := (Kd.R_reads' HROW.out).2.2
                          have hci := Kd.at_int hrr (j : Int) (by omega) (by omega)
                          have hwj : wrap64 ((j : Int) + 1) = ((j + 1 : Nat) : Int) := by have := hrr.2.1; unfold wrap64; omega
                          have HWJ := Aside0.mk hwj
                          clear hwj hrr
                          obtain ⟨i, hi⟩ : ∃ i, rd row (j : Int) = i := ⟨_, rfl⟩
                          rw [hi] at hI hci
                          by_cases ci : 0 ≤ i ∧ i < (l0_2.length : Int) ∧ 0 ≤ (rd_T37 l0_2 i).f1 ∧ (rd_T37 l0_2 i).f1 < (d1.length : Int) ∧ s1.length ≤ 65536
                          · rw [if_pos ci] at hI
                            obtain ⟨ad1, e1, hx1⟩ := hci
                            subst e1
                            rw [Int.toNat_natCast] at hx1
                            have p2 := eq_true ci.1
                            have p3 := eq_true ci.2.1
                            obtain ⟨ad37, e37, hy0, hy1, hy2, hy3⟩ := at_T37 HR0.out i ci.1 ci.2.1
                            subst e37
                            have hbw : Below w.heap.size w wr := HS.out.asx.below
                            replace hy0 := (hbw.cell (World.block_lt_of_cell? w _ hy0)).trans hy0
                            replace hy1 := (hbw.cell (World.block_lt_of_cell? w _ hy1)).trans hy1
                            replace hy2 := (hbw.cell (World.block_lt_of_cell? w _ hy2)).trans hy2
                            replace hy3 := (hbw.cell (World.block_lt_of_cell? w _ hy3)).trans hy3
                            have hnet5 := HS.out.asx.net
                            rw [HNET.out] at hnet5
                            have hcz2 : wr.cell? ⟨gb, 2, none⟩ = some (.slice (some ad37) l0_2.length c0_2) := (blk_cell hnet5 2).trans rfl
                            obtain ⟨u, hu⟩ : ∃ u, (rd_T37 l0_2 i).f1 = u := ⟨_, rfl⟩
                            rw [hu] at hI hy1 ci
                            have HCI := Aside0.mk ci
                            have p4 := eq_true ci.2.2.1
                            have p5 : (u < (N : Int)) = True := eq_true (by have := ci.2.2.2.1; rw [HD1.out] at this; exact this)
                            have hdu := ints_at HS.out.asx.row u ci.2.2.1 ci.2.2.2.1
                            have hfu := blk_frozen HS.out.asx.row u.toNat
                            obtain ⟨y, hy⟩ : ∃ y, wrap64 (rd d1 u - 1) = y := ⟨_, rfl⟩
                            rw [hy] at hI
                            obtain ⟨dn, hdn⟩ : ∃ dn, d1.set u.toNat y = dn := ⟨_, rfl⟩
                            rw [hdn] at hI
                            have HDN := Aside0.mk hdn
                            clear hlt hi hu ci hbw hnet5 hdn
                            obtain ⟨b1, hb1⟩ : ∃ b, decide (y = 0) = b := ⟨_, rfl⟩
                            have hb2 : (y == 0) = b1 := by rw [← hb1, Bool.beq_eq_decide_eq]
                            cases b1
                            · rw [if_neg (of_decide_eq_false hb1)] at hI
                              have HI2 := Aside0.mk hI
                              clear hI HI
                              go_wp2_with (first
                                | ((with_reducible refine gate_store (t := 3) (p := 97) rfl ?_); refine store_event (t := 3) (p := 97) (v := ?vd1) (w1 := ?wd1) ?hg ?ho ?hn ?hr ?_; (case ho => rfl); (case hg => rfl); (case hn => rfl); (case hr => first | (go_simp; done) | (go_simp; rfl)); intro w12 hw; have n0_ : Aside0 (OS w w12 N1 gd gb gp (N : Int) dn (.slice (some ado) out.length co) out net s1 v2 (l ++ [key]) (fun _ => False)) := Aside0.mk (by rw [hw, ← HDN.out]; exact HS.out.put _ _); have n1_ : Aside0 (Kd.R (Kd.int .i64) 3 w12 w.heap.size (fun k => k ≠ gd ∧ k < N1) (.slice (some ad1) row.length ca1) row) := Aside0.mk (by rw [hw]; exact Kd.R_far (p := ⟨gd, u.toNat, none⟩) HROW.out (fun k hk => hk.1) _); clear HS HROW hw hdu hfu; have HS := n0_; have HROW := n1_; clear n0_ n1_; have hkn : w12.cell? ⟨gd, u.toNat, none⟩ = some (.int .i64 y) := ints_new (d := d1) (by rw [HDN.out]; exact HS.out.asx.row) (by have := HCI.out; omega))
                                )
                              clear hb1 hb2 hy
                              go_roundg g1
                              case measure => omega
                              case rel => exact ⟨j + 1, dn, s1, congrArg (Value.int .i64) HWJ.out, ⟨by have := HJ.out; omega⟩, HI2, ⟨by rw [← HDN.out, List.length_set]; exact HD1.out⟩, HS, HROW⟩
                            · rw [if_pos (of_decide_eq_true hb1)] at hI
                              obtain ⟨sn, hsn⟩ : ∃ sn, (if (s1.length : Int) = (N : Int) then s1 else ins (u, 0) s1) = sn := ⟨_, rfl⟩
                              rw [hsn] at hI
                              have HSN := Aside0.mk hsn
                              have HI2 := Aside0.mk hI
                              clear hI HI hsn
                              go_wp2_with (first
                                | ((with_reducible refine gate_store (t := 3) (p := 97) rfl ?_); refine store_event (t := 3) (p := 97) (v := ?vd2) (w1 := ?wd2) ?hg ?ho ?hn ?hr ?_; (case ho => rfl); (case hg => rfl); (case hn => rfl); (case hr => first | (go_simp; done) | (go_simp; rfl)); intro w12 hw; have n0_ : Aside0 (OS w w12 N1 gd gb gp (N : Int) dn (.slice (some ado) out.length co) out net s1 v2 (l ++ [key]) (fun _ => False)) := Aside0.mk (by rw [hw, ← HDN.out]; exact HS.out.put _ _); have n1_ : Aside0 (Kd.R (Kd.int .i64) 3 w12 w.heap.size (fun k => k ≠ gd ∧ k < N1) (.slice (some ad1) row.length ca1) row) := Aside0.mk (by rw [hw]; exact Kd.R_far (p := ⟨gd, u.toNat, none⟩) HROW.out (fun k hk => hk.1) _); clear HS HROW hw hdu hfu; have HS := n0_; have HROW := n1_; clear n0_ n1_; have hkn : w12.cell? ⟨gd, u.toNat, none⟩ = some (.int .i64 y) := ints_new (d := d1) (by rw [HDN.out]; exact HS.out.asx.row) (by have := HCI.out; omega))
                                | (go_at_call 35; refine (HS.out.push (fun _ h_ => h_.elim) u 0 HCI.out.2.2.2.2 sn HSN.out).mono ?_; rintro e w15 ⟨⟨rp, rfl⟩, hf, hk⟩; have n0_ := Aside0.mk hf; have n1_ := Aside0.mk (Kd.R_kept HROW.out hk (fun k_ hk_ e_ => e_.elim (fun e_ => by have := HS.out.c5; omega) (fun e_ => by omega))); clear HS HROW hf hk hkn; have HS := n0_; have HROW := n1_; clear n0_ n1_))
                              clear hb1 hb2 hy
                              go_roundg g1
                              case measure => omega
                              case rel => exact ⟨j + 1, dn, sn, congrArg (Value.int .i64) HWJ.out, ⟨by have := HJ.out; omega⟩, HI2, ⟨by rw [← HDN.out, List.length_set]; exact HD1.out⟩, HS, HROW⟩
                          · rw [if_neg ci] at hI
                            cases hI
                    · rw [if_neg cv] at hH
                      cases hH
            | succ g1 =>
              have hlt : j < d.length := by have := HJ.out; have := HD.out; omega
              have c1 : decide ((j : Int) < (N : Int)) = true := decide_eq_true (by have := HJ.out; omega)
              have c2 : decide (j < N) = true := decide_eq_true (by have := HJ.out; omega)
              have p0 := eq_true (show (0 : Int) ≤ (j : Int) by omega)
              have p1 := eq_true (show (j : Int) < (N : Int) by have := HJ.out; omega)
              have hF := HF.out
              rw [drop_rd hlt] at hF
              unfold orderFree at hF
              by_cases cl : s.length ≤ 65536
              · rw [if_pos cl] at hF
                have HCL := Aside0.mk cl
                have hdj := ints_at HS.out.asx.row (j : Int) (by omega) (by omega)
                rw [Int.toNat_natCast] at hdj
                have hwj : wrap64 ((j : Int) + 1) = ((j + 1 : Nat) : Int) := wrapId (by omega) (by have := HN.out; have := HJ.out; omega)
                have HWJ := Aside0.mk hwj
                clear hwj hlt cl
                obtain ⟨x, hx⟩ : ∃ x, rd d (j : Int) = x := ⟨_, rfl⟩
                rw [hx] at hF hdj
                clear hx
                obtain ⟨b1, hb1⟩ : ∃ b, decide (x = 0) = b := ⟨_, rfl⟩
                have hb2 : (x == 0) = b1 := by rw [← hb1, Bool.beq_eq_decide_eq]
                cases b1
                · rw [if_neg (of_decide_eq_false hb1)] at hF
                  have HF2 := Aside0.mk hF
                  clear hF HF
                  go_wp2
                  clear hb1 hb2
                  go_roundg g1
                  case measure => omega
                  case rel => exact ⟨j + 1, s, congrArg (Value.int .i64) HWJ.out, ⟨by have := HJ.out; omega⟩, HF2, HS⟩
                · rw [if_pos (of_decide_eq_true hb1)] at hF
                  obtain ⟨sn, hsn⟩ : ∃ sn, (if (s.length : Int) = (N : Int) then s else ins ((j : Int), 0) s) = sn := ⟨_, rfl⟩
                  rw [hsn] at hF
                  have HSN := Aside0.mk hsn
                  have HF2 := Aside0.mk hF
                  clear hF HF hsn
                  go_wp2_with (go_at_call 35; refine (HS.out.push (fun _ h_ => h_.elim) (j : Int) 0 HCL.out sn HSN.out).mono ?_; rintro e w7 ⟨⟨rp, rfl⟩, hf, hk⟩; have n0_ := Aside0.mk hf; clear HS hf hk; have HS := n0_; clear n0_)
                  clear hb1 hb2
                  go_roundg g1
                  case measure => omega
                  case rel => exact ⟨j + 1, sn, congrArg (Value.int .i64) HWJ.out, ⟨by have := HJ.out; omega⟩, HF2, HS⟩
              · rw [if_neg cl] at hF
                cases hF
        | succ g1 =>
          have hlt : j < l0_2.length := by have := HJ.out; omega
          have c1 : decide ((j : Int) < (l0_2.length : Int)) = true := decide_eq_true (by omega)
          have c2 : decide (j < l0_2.length) = true := decide_eq_true hlt
          have p0 := eq_true (show (0 : Int) ≤ (j : Int) by omega)
          have p1 := eq_true (show (j : Int) < (l0_2.length : Int) by omega)
          have hW := HW.out
          rw [drop_T37 hlt] at hW
          unfold orderWait at hW
          obtain ⟨ad37, e37, hy0, hy1, hy2, hy3⟩ := at_T37 HR0.out (j : Int) (by omega) (by omega)
          subst e37
          have hbw : Below w.heap.size w wr := HS.out.below
          replace hy0 := (hbw.cell (World.block_lt_of_cell? w _ hy0)).trans hy0
          replace hy1 := (hbw.cell (World.block_lt_of_cell? w _ hy1)).trans hy1
          replace hy2 := (hbw.cell (World.block_lt_of_cell? w _ hy2)).trans hy2
          replace hy3 := (hbw.cell (World.block_lt_of_cell? w _ hy3)).trans hy3
          rw [Int.toNat_natCast] at hy0 hy1 hy2 hy3
          obtain ⟨A, hA⟩ : ∃ A, rd_T37 l0_2 (j : Int) = A := ⟨_, rfl⟩
          rw [hA] at hW hy0 hy1 hy2 hy3
          by_cases ci : 0 ≤ A.f1 ∧ A.f1 < (d.length : Int)
          · rw [if_pos ci] at hW
            have HCI := Aside0.mk ci
            have p4 := eq_true ci.1
            have p5 : (A.f1 < (N : Int)) = True := eq_true (by have := ci.2; rw [HD.out] at this; exact this)
            have hwj : wrap64 ((j : Int) + 1) = ((j + 1 : Nat) : Int) := by have := HR0.out.2.1; unfold wrap64; omega
            have HWJ := Aside0.mk hwj
            obtain ⟨dn, hdn⟩ : ∃ dn, d.set A.f1.toNat (wrap64 (rd d A.f1 + 1)) = dn := ⟨_, rfl⟩
            rw [hdn] at hW
            have HDN := Aside0.mk hdn
            have HW2 := Aside0.mk hW
            clear hwj hlt ci hbw hA hdn hW HW
            go_wp2_with (first
              | ((with_reducible refine gate_dst (N := 8) rfl ?_); refine box_event ?hg (N := 8) ?hd (cs := #[.int .i64 0, .int .i64 0, .int .i64 0, .int .i64 0]) (t := 37) ?hr ?_; (case hd => rfl); (case hg => rfl); (case hr => first | (go_simp; done) | (go_simp; rfl)); intro ga hg w12 hbox hb; have n0_ := Aside0.mk (HS.out.step hb); have n1_ := Aside0.mk hbox; have GA : Aside0 (N1 ≤ ga) := Aside0.mk (hg ▸ HSZ.out); have n3_ : Aside0 (N1 ≤ w12.heap.size) := Aside0.mk (Nat.le_trans HSZ.out (below_size hb)); clear HS HSZ hb hbox hg; have HS := n0_; have BA := n1_; have HSZ := n3_; clear n0_ n1_ n3_; have hcx0 : w12.cell? ⟨ga, 0, none⟩ = some (.int .i64 0) := (blk_cell BA.out 0).trans rfl; have hcx1 : w12.cell? ⟨ga, 1, none⟩ = some (.int .i64 0) := (blk_cell BA.out 1).trans rfl; have hcx2 : w12.cell? ⟨ga, 2, none⟩ = some (.int .i64 0) := (blk_cell BA.out 2).trans rfl; have hcx3 : w12.cell? ⟨ga, 3, none⟩ = some (.int .i64 0) := (blk_cell BA.out 3).trans rfl; have hfx0 := blk_frozen BA.out 0; have hfx1 := blk_frozen BA.out 1; have hfx2 := blk_frozen BA.out 2; have hfx3 := blk_frozen BA.out 3)
              | ((with_reducible refine gate_store (t := 37) (p := 8) rfl ?_); refine store_event (t := 37) (p := 8) (v := ?va1) (w1 := ?wa1) ?hg ?ho ?hn ?hr ?_; (case ho => rfl); (case hg => rfl); (case hn => rfl); (case hr => first | (go_simp; done) | (go_simp; rfl)); intro w13 hw; have n0_ : Aside0 (AS w w13 N1 gd gb d (.slice Ao out.length co) out net) := Aside0.mk (by rw [hw]; exact (((HS.out.set GA.out 0 _).set GA.out 1 _).set GA.out 2 _).set GA.out 3 _); have n1_ : Aside0 (w13.heap[ga]? = some (.cells #[.int .i64 A.f0, .int .i64 A.f1, .int .i64 A.f2, .int .i64 A.f3] 37 (0, 0))) := Aside0.mk (by rw [hw]; exact blk_put (cs' := #[.int .i64 A.f0, .int .i64 A.f1, .int .i64 A.f2, .int .i64 A.f3]) (blk_put (cs' := #[.int .i64 A.f0, .int .i64 A.f1, .int .i64 A.f2, .int .i64 0]) (blk_put (cs' := #[.int .i64 A.f0, .int .i64 A.f1, .int .i64 0, .int .i64 0]) (blk_put (cs' := #[.int .i64 A.f0, .int .i64 0, .int .i64 0, .int .i64 0]) BA.out 0 (.int .i64 A.f0) rfl) 1 (.int .i64 A.f1) rfl) 2 (.int .i64 A.f2) rfl) 3 (.int .i64 A.f3) rfl); have n3_ : Aside0 (N1 ≤ w13.heap.size) := Aside0.mk (by rw [hw]; have := HSZ.out; simp only [World.setCell]; simpa using this); clear HS HSZ BA hw hcx0 hcx1 hcx2 hcx3 hfx0 hfx1 hfx2 hfx3; have HS := n0_; have BA := n1_; have HSZ := n3_; clear n0_ n1_ n3_; have hk1 : w13.cell? ⟨ga, 1, none⟩ = some (.int .i64 A.f1) := (blk_cell BA.out 1).trans rfl; have hku : w13.cell? ⟨gd, A.f1.toNat, none⟩ = some (.int .i64 (rd d A.f1)) := ints_at HS.out.row A.f1 HCI.out.1 HCI.out.2; have hfu := blk_frozen HS.out.row A.f1.toNat)
              | ((with_reducible refine gate_store (t := 3) (p := 41) rfl ?_); refine store_event (t := 3) (p := 41) (v := ?vb1) (w1 := ?wb1) ?hg ?ho ?hn ?hr ?_; (case ho => rfl); (case hg => rfl); (case hn => rfl); (case hr => first | (go_simp; done) | (go_simp; rfl)); intro w14 hw; have n0_ : Aside0 (AS w w14 N1 gd gb dn (.slice Ao out.length co) out net) := Aside0.mk (by rw [hw, ← HDN.out]; exact HS.out.put _ _); have n3_ : Aside0 (N1 ≤ w14.heap.size) := Aside0.mk (by rw [hw]; have := HSZ.out; simp only [World.setCell]; simpa using this); clear HS HSZ BA hw hk1 hku hfu; have HS := n0_; have HSZ := n3_; clear n0_ n3_))
            go_roundg g1
            case measure => omega
            case rel => exact ⟨j + 1, dn, congrArg (Value.int .i64) HWJ.out, ⟨by have := HJ.out; omega⟩, HW2, ⟨by rw [← HDN.out, List.length_set]; exact HD.out⟩, HS, HSZ⟩
          · rw [if_neg ci] at hW
            cases hW
    · rw [if_neg cg] at h
      cases h
  · rw [if_neg ce] at h
    simp only [Option.some.injEq, Prod.mk.injEq] at h
    obtain ⟨rfl, rfl, rfl⟩ := h
    have c1 : decide (e0 = 0) = false := decide_eq_false ce
    have c2 : (e0 == 0) = false := beq_eq_false_iff_ne.2 ce
    have c3 := eq_false ce
    go_enter Try.func15, Try.ntmps15
    go_wp2_with (first
      | ((with_reducible refine gate_dst (N := 1) rfl ?_); refine box_event ?hg (N := 1) ?hd (cs := #[.int .i64 a0_0, .bool a0_1, .slice A0_2 l0_2.length c0_2]) (t := 24) ?hr ?_; (case hd => rfl); (case hg => rfl); (case hr => first | (go_simp; done) | (go_simp; rfl)); intro gb hg w1 hbox hb; have n0_ := Aside0.mk (below_step HB.out hb); have n1_ := Aside0.mk hbox; clear HB; have HB := n0_; have BK := n1_; clear n0_ n1_ hb hbox hg; have hcz0 : w1.cell? ⟨gb, 0, none⟩ = some (.int .i64 a0_0) := (blk_cell BK.out 0).trans rfl; have hcz1 : w1.cell? ⟨gb, 1, none⟩ = some (.bool a0_1) := (blk_cell BK.out 1).trans rfl; have hcz2 : w1.cell? ⟨gb, 2, none⟩ = some (.slice A0_2 l0_2.length c0_2) := (blk_cell BK.out 2).trans rfl)
      | (go_at_call 33; refine (netfmt_Check.calls k a0_0 a0_1 _ _ l0_2 e0 _ (Kd.C_below HR0.out HB.out) HC0.out HA.out).mono ?_; rintro e w2 ⟨rfl, hb⟩; have n0_ := Aside0.mk (below_step HB.out hb); clear HB BK hb hcz0 hcz1 hcz2; have HB := n0_; clear n0_))
    go_ret3
    exact ⟨_, rfl, Kd.R_nil _ _ _ _ _, HB.out⟩
end Go.Proofs.Ytgjgckpdilbbjaa.Q
end
