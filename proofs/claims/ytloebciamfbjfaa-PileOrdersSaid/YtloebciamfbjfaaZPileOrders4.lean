/- A part of the proof: words, contracts, plain lemmas. Conditions: none. -/
import Derived.Test.YtloebciamfbjfaaZPileOrders3
section
namespace Go.Proofs.Ytloebciamfbjfaa.Q
open Go.RowKit Go.Proofs.Ytloebciamfbjfaa.P Go.Proofs.YtloebciamfbjfaaW.PrintWords Go.Proofs.YtloebciamfbjfaaW.PrintLast Go.Proofs.YtloebciamfbjfaaW.PrintMore
set_option linter.unusedVariables false
set_option linter.unusedSimpArgs false
def pr (x : S34) : Int × Int := (x.f0, x.f1)
def cmpI (a b : Int) : Int := if a < b then -1 else if b < a then 1 else 0
theorem cmp_eq (a b : Int) : cmp_Compare_int.f a b = some (cmpI a b) := by
  unfold cmp_Compare_int.f cmp_isNaN_int.f cmpI
  simp only [bne_self_eq_false, Option.bind_some, Bool.false_eq_true, if_false, gt_iff_lt]
  (repeat' split) <;> rfl
def cfPair (x y : S34) : Int := if x.f0 < y.f0 then -1 else if y.f0 < x.f0 then 1 else if x.f1 < y.f1 then -1 else if y.f1 < x.f1 then 1 else 0
theorem or_2 (a b : Int) : cmp_Or_int.f 8 [a, b] = some (if a = 0 then b else a) := by
  unfold cmp_Or_int.f
  have e01 : wrap64 (0 + 1) = 1 := by unfold wrap64; omega
  have e02 : wrap64 (1 + 1) = 2 := by unfold wrap64; omega
  have h0 : rd [a, b] 0 = a := rfl
  have h1 : rd [a, b] 1 = b := rfl
  simp only [cmp_Or_int.l0, List.length_cons, List.length_nil, e01, e02, h0, h1, show ((0 + 1 + 1 : Nat) : Int) = 2 from rfl]
  by_cases c : a = 0
  · by_cases c2 : b = 0
    · simp [c, c2]
    · simp [c, c2]
  · simp [c]
theorem pile_compare_val (x y : S34) : pile_compare.f 8 x.f0 x.f1 y.f0 y.f1 = some (cfPair x y) := by
  unfold pile_compare.f cfPair
  simp only [cmp_eq, Option.bind_some]
  rw [or_2]
  simp only [Option.bind_some]
  congr 1
  unfold cmpI; (repeat' split) <;> omega
theorem cfPair_neg (x y : S34) : cfPair x y < 0 ↔ plt (pr x) (pr y) := by unfold cfPair plt pr; simp only; (repeat' split) <;> omega
theorem goesT_ {P : Program} {ops : Array Oper} {Q : Exit → Act → World → Prop} {oi : Oper} {N : Option Tmp} {a : Act} {w : World} {K : Act → World → Prop} {f : FuncId} {fn : Func} {t : Tmp} {as_ : Array Operand} {ts : Array TypeId} (hf : P.funcs[f]? = some fn) (hname : (fn.name == "runtime.NumGoroutine") = false) (hb : fn.body.isSome = true) (args : Array Value)
    (hw : Region.wanted oi (yielded ops a.tmps) = true) (hN : oi.dst = N) (hop : oi.op = .call { callee := .value (.tmp t), args := as_, argTypes := ts }) (hv : a.eval (.tmp t) = .func (.func f) #[] #[]) (hargs : as_.map a.eval = args)
    (h : Calls P f args w fun e w' => ∃ v, e = .returned v ∧ K (a.put N v) w') : if Region.wanted oi (yielded ops a.tmps) = true then Oper.wp P oi a w K Q else K (a.put N undef) w := by
  refine call_ f args hw hN ?_ h
  have he := enters_ hf hname hb args w
  unfold execOp
  simp [hop, resolve, Deferred.ofValue, invoke, hv, hargs, he]
theorem Kept.blk {w w' : World} {S : Nat → Prop} {g : Nat} {o : Obj} (hk : Kept w w' S) (h : w.heap[g]? = some o) (hn : ¬ S g) : w'.heap[g]? = some o := (hk.2 g (blk_lt h) hn).trans h
theorem wrapId {n : Int} (h0 : -1000000000000 ≤ n) (h1 : n ≤ 1000000000000) : wrap64 n = n := by unfold wrap64; omega
structure PileC (w : World) (base : Nat) (ok : Nat → Prop) (g : Nat) (most : Int) (v : Value) (l : List S34) : Prop where
  blk : w.heap[g]? = some (.cells #[.int .i64 most, v, .func (.func 29) #[] #[]] 62 (0, 0))
  row : Kd.R k34 34 w base (fun k => ok k ∧ k ≠ g) v l
  ge : base ≤ g
section
variable {w w1 : World} {base : Nat} {ok ok' : Nat → Prop} {g : Nat} {most : Int} {v : Value} {l : List S34}
theorem PileC.below (h : PileC w base ok g most v l) (hb : Below w.heap.size w w1) : PileC w1 base ok g most v l := ⟨blk_below h.blk hb, Kd.R_below h.row hb, h.ge⟩
theorem PileC.drew (h : PileC w base ok g most v l) : PileC w.drew base ok g most v l := h.below (below_drew (Below.refl _ _))
theorem PileC.mono (h : PileC w base ok g most v l) (hk : ∀ k, ok k → ok' k) : PileC w base ok' g most v l := ⟨h.blk, Kd.R_mono h.row (fun k hh => ⟨hk k hh.1, hh.2⟩), h.ge⟩
theorem PileC.elder (h : PileC w base ok g most v l) (a : Nat) (ha : w.heap.size ≤ a) : PileC w base (fun k => ok k ∧ k ≠ a) g most v l := ⟨h.blk, Kd.R_mono (Kd.R_elderB h.row a ha) (fun k hh => ⟨⟨hh.1.1, hh.2⟩, hh.1.2⟩), h.ge⟩
theorem PileC.lower {base' : Nat} (h : PileC w base ok g most v l) (hb : base' ≤ base) : PileC w base' ok g most v l := ⟨h.blk, Kd.R_lower h.row hb, Nat.le_trans hb h.ge⟩
theorem PileC.kept {S : Nat → Prop} (h : PileC w base ok g most v l) (hk : Kept w w1 S) (hg : ¬ S g) (ho : ∀ k, ok k → ¬ S k) : PileC w1 base ok g most v l := ⟨Kept.blk hk h.blk hg, Kd.R_kept h.row hk (fun k hh => ho k hh.1), h.ge⟩
theorem PileC.far (h : PileC w base ok g most v l) {gb j : Nat} (hne : g ≠ gb) (hok : ¬ ok gb) (u : Value) : PileC (w.setCell ⟨gb, j, none⟩ u) base ok g most v l :=
  ⟨blk_far h.blk hne u, Kd.R_far (p := ⟨gb, j, none⟩) h.row (fun k hk e => hok (by subst e; exact hk.1)) u, h.ge⟩
theorem PileC.fresh (h : PileC w base ok g most v l) (hf : ∀ k, w.heap.size ≤ k → ok k) : ∀ k, w.heap.size ≤ k → ok k ∧ k ≠ g := fun k hk => ⟨hf k hk, fun e => by have := blk_lt h.blk; omega⟩
theorem PileC.added {u : Value} {xs : List S34} (h : PileC w base ok g most u l) (ho : Kd.R k34 34 w1 base (fun k => ok k ∧ k ≠ g) v xs) (hg : w.grownBy w1 u.ownBlock) :
    PileC (w1.setCell ⟨g, 1, none⟩ v) base ok g most v xs ∧ w1.heap[g]? = some (.cells #[.int .i64 most, u, .func (.func 29) #[] #[]] 62 (0, 0)) ∧ Kept w (w1.setCell ⟨g, 1, none⟩ v) (fun k => k = g ∨ ok k) := by
  have hne : some g ≠ u.ownBlock := fun e => (h.row.1 g e.symm).2 rfl
  have hb := blk_grown h.blk hg hne
  exact ⟨⟨blk_put (cs' := #[.int .i64 most, v, .func (.func 29) #[] #[]]) hb 1 v rfl, Kd.R_far (p := ⟨g, 1, none⟩) ho (fun k hk => hk.2) _, h.ge⟩, hb, Kept.setCell (p := ⟨g, 1, none⟩) (Kept.of_grown hg (Kept.refl w (fun k => k = g ∨ ok k)) (fun k hk => Or.inl (Or.inr (h.row.1 k hk).1))) (Or.inl (Or.inl rfl)) v⟩
end
theorem pair_at {w : World} {base : Nat} {ok : Nat → Prop} {g n cap : Nat} {xs : List S34} (h : Kd.R k34 34 w base ok (.slice (some ⟨g, 0, none⟩) n cap) xs) (j : Nat) (hj : j < xs.length) :
    w.cell? ⟨g, j * 2, none⟩ = some (.int .i64 xs[j].f0) ∧ w.cell? ⟨g, j * 2 + 1, none⟩ = some (.int .i64 xs[j].f1) ∧ w.frozen? ⟨g, j * 2, none⟩ = false ∧ w.frozen? ⟨g, j * 2 + 1, none⟩ = false := by
  have hn := (Kd.R_reads' h).1
  obtain ⟨c, hcl, hM, hcc, hfr⟩ := Kd.R_elem h z34 (j : Int) (by omega) (by omega)
  obtain rfl := k34_openM hM
  rw [Int.toNat_natCast, List.getD_eq_getElem?_getD, List.getElem?_eq_getElem hj] at hcc
  rw [Int.toNat_natCast] at hfr
  exact ⟨hcc 0 _ rfl, hcc 1 _ rfl, hfr 0, hfr 1⟩
theorem pair_put {w : World} {base : Nat} {ok : Nat → Prop} {g n cap : Nat} {xs : List S34} (h : Kd.R k34 34 w base ok (.slice (some ⟨g, 0, none⟩) n cap) xs) (j : Nat) (hj : j < xs.length) (x : S34) :
    Kd.R k34 34 ((w.setCell ⟨g, j * 2, none⟩ (.int .i64 x.f0)).setCell ⟨g, j * 2 + 1, none⟩ (.int .i64 x.f1)) base ok (.slice (some ⟨g, 0, none⟩) n cap) (xs.set j x) ∧ w.grownBy ((w.setCell ⟨g, j * 2, none⟩ (.int .i64 x.f0)).setCell ⟨g, j * 2 + 1, none⟩ (.int .i64 x.f1)) (some g) := by
  have hn := (Kd.R_reads' h).1
  obtain ⟨c, hcl, hM, hcc, hfr⟩ := Kd.R_elem h z34 (j : Int) (by omega) (by omega)
  obtain rfl := k34_openM hM
  have h2 := Kd.R_seg h (j : Int) (by omega) (by omega) (seg := [.int .i64 x.f0, .int .i64 x.f1]) (j := 0) hcl hcc (show 2 ≤ 2 from by decide) (x' := x) (k34_mkM _ _ _ x) (fun _ hk => hk)
  rw [Int.toNat_natCast] at h2
  exact h2
theorem info34 : (Try.prog.info? 34).map (fun i => (i.zero, i.size, i.bytes)) = some (some (.agg #[(.int .i64 0), (.int .i64 0)]), 2, 16) := by kernel_rfl
def leastL (l : List S34) : Int × Int × Int := match l with | [] => (0, 0, 21) | x :: _ => (x.f0, x.f1, 0)
set_option maxHeartbeats 8000000 in
set_option maxRecDepth 100000 in
theorem Pile_New.calls (most : Int) (w : World) :
    Calls Try.prog 9 #[.int .i64 most] w fun e w' => Below w.heap.size w w' ∧ if 0 ≤ most ∧ most ≤ 65536 then ∃ g, e = .returned (.tuple #[.pointer (some ⟨g, 0, none⟩), .int .i64 0]) ∧ PileC w' w.heap.size (fun _ => True) g most (.slice none 0 0) [] else e = .returned (.tuple #[.pointer none, .int .i64 1]) := by
  have hu62 := Try.underlying62
  have HB := Aside0.mk (Below.refl w.heap.size w)
  by_cases c : 0 ≤ most ∧ most ≤ 65536
  · have hf : pile_room.f most = some true := by unfold pile_room.f; rw [if_pos (show most ≥ 0 by omega), decide_eq_true c.2]
    have HF := Aside0.mk hf
    simp only [if_pos c]
    clear hf
    go_enter Try.func9, Try.ntmps9
    go_wp2_with (first
      | (go_at_call 28; refine (pile_room.calls most true _ HF.out).mono ?_; rintro e w1 ⟨rfl, hd⟩; have n0_ := Aside0.mk (below_step HB.out (Drawn0.below hd)); clear HB hd; have HB := n0_; clear n0_)
      | ((with_reducible refine gate_dst (N := 9) rfl ?_); refine box_event ?hg (N := 9) ?hd (cs := #[.int .i64 most, .slice none 0 0, .func (.func 29) #[] #[]]) (t := 62) ?hr ?_; (case hd => rfl); (case hg => rfl); (case hr => first | (go_simp; done) | (go_simp; rfl)); intro g hg w2 hbox hb; have HG := Aside0.mk (⟨hbox, Kd.R_nil _ _ _ _ _, by rw [hg]; exact below_size HB.out⟩ : PileC w2 w.heap.size (fun _ => True) g most (.slice none 0 0) []); have n0_ := Aside0.mk (below_step HB.out hb); clear HB; have HB := n0_; clear n0_ hb hbox hg))
    go_ret2
    exact ⟨HB.out, g, rfl, HG.out⟩
  · have hf : pile_room.f most = some false := by
      unfold pile_room.f
      by_cases c1 : most ≥ 0
      · rw [if_pos c1, decide_eq_false (by omega)]
      · rw [if_neg c1]
    have HF := Aside0.mk hf
    simp only [if_neg c]
    clear hf
    go_enter Try.func9, Try.ntmps9
    go_wp2_with (go_at_call 28; refine (pile_room.calls most false _ HF.out).mono ?_; rintro e w1 ⟨rfl, hd⟩; have n0_ := Aside0.mk (below_step HB.out (Drawn0.below hd)); clear HB hd; have HB := n0_; clear n0_)
    go_ret2
    exact ⟨HB.out, rfl⟩
set_option maxHeartbeats 8000000 in
set_option maxRecDepth 100000 in
theorem Pile_Len.calls {base : Nat} {ok : Nat → Prop} (g : Nat) (most : Int) (v : Value) (l : List S34) (w : World) (hP : PileC w base ok g most v l) :
    Calls Try.prog 15 #[.pointer (some ⟨g, 0, none⟩)] w fun e w' => e = .returned (.int .i64 (l.length : Int)) ∧ w' = w := by
  obtain ⟨A, c, ev⟩ := Kd.R_slice hP.row
  subst ev
  have z : w.cell? ⟨g, 1, none⟩ = some (.slice A l.length c) := (blk_cell hP.blk 1).trans rfl
  have hu62 := Try.underlying62
  clear hP
  go_enter Try.func15, Try.ntmps15
  go_wp2
  go_ret
  exact ⟨rfl, rfl⟩
set_option maxHeartbeats 8000000 in
set_option maxRecDepth 100000 in
theorem Pile_Least.calls {base : Nat} {ok : Nat → Prop} (g : Nat) (most : Int) (v : Value) (l : List S34) (w : World) (hP : PileC w base ok g most v l) :
    Calls Try.prog 13 #[.pointer (some ⟨g, 0, none⟩)] w fun e w' => e = .returned (.tuple #[.agg #[.int .i64 (leastL l).1, .int .i64 (leastL l).2.1], .int .i64 (leastL l).2.2]) ∧ Below w.heap.size w w' := by
  have hu62 := Try.underlying62
  have hu34 := Try.underlying34
  have HB := Aside0.mk (Below.refl w.heap.size w)
  have HP := Aside0.mk hP
  cases l with
  | nil =>
    obtain ⟨A, c, ev⟩ := Kd.R_slice hP.row
    subst ev
    clear hP
    go_enter Try.func13, Try.ntmps13
    go_wp2_with ((with_reducible refine gate_dst (N := 2) rfl ?_); refine box_event ?hg (N := 2) ?hd (cs := #[.int .i64 0, .int .i64 0]) (t := 34) ?hr ?_; (case hd => rfl); (case hg => rfl); (case hr => first | (go_simp; done) | (go_simp; rfl)); intro gr hg w2 hbox hb; have n0_ := Aside0.mk (below_step HB.out hb); have n1_ := Aside0.mk (HP.out.below hb); have GE := Aside0.mk (show w.heap.size ≤ gr by rw [hg]; exact below_size HB.out); have BK := Aside0.mk hbox; clear HB HP; have HB := n0_; have HP := n1_; clear n0_ n1_ hb hbox hg; have z : w2.cell? ⟨g, 1, none⟩ = some (.slice A 0 c) := (blk_cell HP.out.blk 1).trans rfl; have z0 : w2.cell? ⟨gr, 0, none⟩ = some (.int .i64 0) := (blk_cell BK.out 0).trans rfl; have z1 : w2.cell? ⟨gr, 1, none⟩ = some (.int .i64 0) := (blk_cell BK.out 1).trans rfl; have y0 := blk_frozen BK.out 0; have y1 := blk_frozen BK.out 1)
    refine bodyPost_ret (results_ct rfl _ _ gr 34 #[.int .i64 0, .int .i64 0] (0, 0) _ rfl (blk_put (cs' := #[.int .i64 0, .int .i64 0]) (blk_put (cs' := #[.int .i64 0, .int .i64 0]) BK.out 0 (.int .i64 0) rfl) 1 (.int .i64 0) rfl) Try.underlying34 rfl (by kernel_rfl)) rfl ?_
    exact ⟨rfl, below_set (below_set HB.out GE.out) GE.out⟩
  | cons x l =>
    obtain ⟨g0, c, ev, _⟩ := Kd.R_form hP.row (by simp)
    subst ev
    clear hP
    have hln : decide (((x :: l).length : Int) = 0) = false := decide_eq_false (by simp only [List.length_cons]; omega)
    have hln2 : (((x :: l).length : Int) == 0) = false := by simpa using hln
    have p1 := eq_true (show (0 : Int) < ((x :: l).length : Int) by simp only [List.length_cons]; omega)
    have HLN := Aside0.mk (show 0 < (x :: l).length by simp)
    generalize (x :: l).length = n at *
    have hn0 := eq_false (show ¬ n = 0 by have := HLN.out; omega)
    have hn1 : decide (n = 0) = false := decide_eq_false (by have := HLN.out; omega)
    have hn2 : (n == 0) = false := by simpa using (show ¬ n = 0 by have := HLN.out; omega)
    have p2 := eq_true HLN.out
    go_enter Try.func13, Try.ntmps13
    go_wp2_with ((with_reducible refine gate_dst (N := 2) rfl ?_); refine box_event ?hg (N := 2) ?hd (cs := #[.int .i64 0, .int .i64 0]) (t := 34) ?hr ?_; (case hd => rfl); (case hg => rfl); (case hr => first | (go_simp; done) | (go_simp; rfl)); intro gr hg w2 hbox hb; have n0_ := Aside0.mk (below_step HB.out hb); have n1_ := Aside0.mk (HP.out.below hb); have GE := Aside0.mk (show w.heap.size ≤ gr by rw [hg]; exact below_size HB.out); have BK := Aside0.mk hbox; clear HB HP; have HB := n0_; have HP := n1_; clear n0_ n1_ hb hbox hg; have z : w2.cell? ⟨g, 1, none⟩ = some (.slice (some ⟨g0, 0, none⟩) n c) := (blk_cell HP.out.blk 1).trans rfl; have hpa := pair_at HP.out.row 0 (by simp); have q0 : w2.cell? ⟨g0, 0, none⟩ = some (.int .i64 x.f0) := hpa.1; have q1 : w2.cell? ⟨g0, 1, none⟩ = some (.int .i64 x.f1) := hpa.2.1; clear hpa; have z0 : w2.cell? ⟨gr, 0, none⟩ = some (.int .i64 0) := (blk_cell BK.out 0).trans rfl; have z1 : w2.cell? ⟨gr, 1, none⟩ = some (.int .i64 0) := (blk_cell BK.out 1).trans rfl; have y0 := blk_frozen BK.out 0; have y1 := blk_frozen BK.out 1)
    refine bodyPost_ret (results_ct rfl _ _ gr 34 #[.int .i64 x.f0, .int .i64 x.f1] (0, 0) _ rfl (blk_put (cs' := #[.int .i64 x.f0, .int .i64 x.f1]) (blk_put (cs' := #[.int .i64 x.f0, .int .i64 0]) BK.out 0 (.int .i64 x.f0) rfl) 1 (.int .i64 x.f1) rfl) Try.underlying34 rfl (by kernel_rfl)) rfl ?_
    exact ⟨rfl, below_set (below_set HB.out GE.out) GE.out⟩
def ints (zs : List Int) : Array Value := (zs.map (Value.int .i64)).toArray
theorem ints_get {zs : List Int} {j : Nat} (h : j < zs.length) : (ints zs)[j]? = some (.int .i64 zs[j]) := by unfold ints; simp [h]
theorem ints_set (zs : List Int) (j : Nat) (n : Int) : (ints zs).setIfInBounds j (.int .i64 n) = ints (zs.set j n) := by unfold ints; simp [List.map_set]
structure QueueC (w : World) (base : Nat) (ok : Nat → Prop) (g : Nat) (most : Int) (v : Value) (zs : List Int) (f s : Nat) : Prop where
  blk : w.heap[g]? = some (.cells #[v, .int .i64 (f : Int), .int .i64 (s : Int), .int .i64 most] 67 (0, 0))
  ge : base ≤ g
  ring : (v = .slice none 0 0 ∧ zs = []) ∨ ∃ gk, v = .slice (some ⟨gk, 0, none⟩) zs.length zs.length ∧ w.heap[gk]? = some (.cells (ints zs) 3 (0, 0)) ∧ base ≤ gk ∧ ok gk ∧ gk ≠ g ∧ 0 < zs.length
  fl : f < zs.length ∨ (zs = [] ∧ f = 0)
  sl : s ≤ zs.length
section
variable {w w1 : World} {base : Nat} {ok ok' : Nat → Prop} {g : Nat} {most : Int} {v : Value} {zs : List Int} {f s : Nat}
theorem QueueC.below (h : QueueC w base ok g most v zs f s) (hb : Below w.heap.size w w1) : QueueC w1 base ok g most v zs f s :=
  ⟨blk_below h.blk hb, h.ge, h.ring.imp id (fun ⟨gk, h1, h2, h3⟩ => ⟨gk, h1, blk_below h2 hb, h3⟩), h.fl, h.sl⟩
theorem QueueC.drew (h : QueueC w base ok g most v zs f s) : QueueC w.drew base ok g most v zs f s := h.below (below_drew (Below.refl _ _))
theorem QueueC.mono (h : QueueC w base ok g most v zs f s) (hk : ∀ k, ok k → ok' k) : QueueC w base ok' g most v zs f s :=
  ⟨h.blk, h.ge, h.ring.imp id (fun ⟨gk, h1, h2, h3, h4, h5⟩ => ⟨gk, h1, h2, h3, hk gk h4, h5⟩), h.fl, h.sl⟩
theorem QueueC.elder (h : QueueC w base ok g most v zs f s) (a : Nat) (ha : w.heap.size ≤ a) : QueueC w base (fun k => ok k ∧ k ≠ a) g most v zs f s :=
  ⟨h.blk, h.ge, h.ring.imp id (fun ⟨gk, h1, h2, h3, h4, h5⟩ => ⟨gk, h1, h2, h3, ⟨h4, by have := blk_lt h2; omega⟩, h5⟩), h.fl, h.sl⟩
theorem QueueC.kept {S : Nat → Prop} (h : QueueC w base ok g most v zs f s) (hk : Kept w w1 S) (hg : ¬ S g) (ho : ∀ k, ok k → ¬ S k) : QueueC w1 base ok g most v zs f s :=
  ⟨Kept.blk hk h.blk hg, h.ge, h.ring.imp id (fun ⟨gk, h1, h2, h3, h4, h5⟩ => ⟨gk, h1, Kept.blk hk h2 (ho gk h4), h3, h4, h5⟩), h.fl, h.sl⟩
theorem QueueC.lower {base' : Nat} (h : QueueC w base ok g most v zs f s) (hb : base' ≤ base) : QueueC w base' ok g most v zs f s :=
  ⟨h.blk, Nat.le_trans hb h.ge, h.ring.imp id (fun ⟨gk, h1, h2, h3, h4⟩ => ⟨gk, h1, h2, Nat.le_trans hb h3, h4⟩), h.fl, h.sl⟩
theorem QueueC.setF (h : QueueC w base ok g most v zs f s) (f' : Nat) (hf : f' < zs.length ∨ (zs = [] ∧ f' = 0)) : QueueC (w.setCell ⟨g, 1, none⟩ (.int .i64 (f' : Int))) base ok g most v zs f' s :=
  ⟨blk_put (cs' := #[v, .int .i64 (f' : Int), .int .i64 (s : Int), .int .i64 most]) h.blk 1 _ rfl, h.ge, h.ring.imp id (fun ⟨gk, h1, h2, h3, h4, h5, h6⟩ => ⟨gk, h1, blk_far (p := ⟨g, 1, none⟩) h2 h5 _, h3, h4, h5, h6⟩), hf, h.sl⟩
theorem QueueC.setS (h : QueueC w base ok g most v zs f s) (s' : Nat) (hs : s' ≤ zs.length) : QueueC (w.setCell ⟨g, 2, none⟩ (.int .i64 (s' : Int))) base ok g most v zs f s' :=
  ⟨blk_put (cs' := #[v, .int .i64 (f : Int), .int .i64 (s' : Int), .int .i64 most]) h.blk 2 _ rfl, h.ge, h.ring.imp id (fun ⟨gk, h1, h2, h3, h4, h5, h6⟩ => ⟨gk, h1, blk_far (p := ⟨g, 2, none⟩) h2 h5 _, h3, h4, h5, h6⟩), h.fl, hs⟩
theorem keptG (h : QueueC w base ok g most v zs f s) (j : Nat) (u : Value) : Kept w (w.setCell ⟨g, j, none⟩ u) (fun k => k = g ∨ ok k) := Kept.setCell (p := ⟨g, j, none⟩) (Kept.refl w _) (Or.inl (Or.inl rfl)) u
end
def content (zs : List Int) (f s : Nat) : List Int := (List.range s).map (fun i => zs.getD ((f + i) % zs.length) 0)
set_option maxHeartbeats 8000000 in
set_option maxRecDepth 100000 in
theorem Queue_New.calls (most : Int) (w : World) :
    Calls Try.prog 18 #[.int .i64 most] w fun e w' => Below w.heap.size w w' ∧ if 0 ≤ most ∧ most ≤ 65536 then ∃ g, e = .returned (.tuple #[.pointer (some ⟨g, 0, none⟩), .int .i64 0]) ∧ QueueC w' w.heap.size (fun _ => True) g most (.slice none 0 0) [] 0 0 else e = .returned (.tuple #[.pointer none, .int .i64 1]) := by
  have hu67 := Try.underlying67
  have HB := Aside0.mk (Below.refl w.heap.size w)
  by_cases c : 0 ≤ most ∧ most ≤ 65536
  · have hf : pile_room.f most = some true := by unfold pile_room.f; rw [if_pos (show most ≥ 0 by omega), decide_eq_true c.2]
    have HF := Aside0.mk hf
    simp only [if_pos c]
    clear hf
    go_enter Try.func18, Try.ntmps18
    go_wp2_with (first
      | (go_at_call 28; refine (pile_room.calls most true _ HF.out).mono ?_; rintro e w1 ⟨rfl, hd⟩; have n0_ := Aside0.mk (below_step HB.out (Drawn0.below hd)); clear HB hd; have HB := n0_; clear n0_)
      | ((with_reducible refine gate_dst (N := 9) rfl ?_); refine box_event ?hg (N := 9) ?hd (cs := #[.slice none 0 0, .int .i64 0, .int .i64 0, .int .i64 most]) (t := 67) ?hr ?_; (case hd => rfl); (case hg => rfl); (case hr => first | (go_simp; done) | (go_simp; rfl)); intro g hg w2 hbox hb; have HG := Aside0.mk (⟨hbox, by rw [hg]; exact below_size HB.out, .inl ⟨rfl, rfl⟩, .inr ⟨rfl, rfl⟩, Nat.le_refl _⟩ : QueueC w2 w.heap.size (fun _ => True) g most (.slice none 0 0) [] 0 0); have n0_ := Aside0.mk (below_step HB.out hb); clear HB; have HB := n0_; clear n0_ hb hbox hg))
    go_ret2
    exact ⟨HB.out, g, rfl, HG.out⟩
  · have hf : pile_room.f most = some false := by
      unfold pile_room.f
      by_cases c1 : most ≥ 0
      · rw [if_pos c1, decide_eq_false (by omega)]
      · rw [if_neg c1]
    have HF := Aside0.mk hf
    simp only [if_neg c]
    clear hf
    go_enter Try.func18, Try.ntmps18
    go_wp2_with (go_at_call 28; refine (pile_room.calls most false _ HF.out).mono ?_; rintro e w1 ⟨rfl, hd⟩; have n0_ := Aside0.mk (below_step HB.out (Drawn0.below hd)); clear HB hd; have HB := n0_; clear n0_)
    go_ret2
    exact ⟨HB.out, rfl⟩
set_option maxHeartbeats 8000000 in
set_option maxRecDepth 100000 in
theorem Queue_Len.calls {base : Nat} {ok : Nat → Prop} (g : Nat) (most : Int) (v : Value) (zs : List Int) (f s : Nat) (w : World) (hQ : QueueC w base ok g most v zs f s) :
    Calls Try.prog 24 #[.pointer (some ⟨g, 0, none⟩)] w fun e w' => e = .returned (.int .i64 (s : Int)) ∧ w' = w := by
  have z : w.cell? ⟨g, 2, none⟩ = some (.int .i64 (s : Int)) := (blk_cell hQ.blk 2).trans rfl
  have hu67 := Try.underlying67
  clear hQ
  go_enter Try.func24, Try.ntmps24
  go_wp2
  go_ret
  exact ⟨rfl, rfl⟩
theorem content_succ (zs : List Int) (f s : Nat) (hf : f < zs.length) : content zs f (s + 1) = zs.getD f 0 :: content zs ((f + 1) % zs.length) s := by
  unfold content
  rw [List.range_succ_eq_map, List.map_cons, List.map_map, Nat.add_zero, Nat.mod_eq_of_lt hf]
  congr 1
  refine List.map_congr_left fun i _ => ?_
  show zs.getD ((f + (i + 1)) % zs.length) 0 = zs.getD (((f + 1) % zs.length + i) % zs.length) 0
  rw [Nat.mod_add_mod, show f + (i + 1) = f + 1 + i by omega]
def Queue_Take.T3 : Bool × List (List Nat × List Nat) := (true, [([], []), ([0], [0]), ([1], [1]), ([2], [2]), ([], []), ([4], [4]), ([5], [5]), ([6], [6]), ([3, 7], [3, 7]), ([8], [8]), ([9, 0, 1, 2, 3, 4, 5, 6, 7, 8, 9], [9])])
def Queue_Take.B3 : List Nat := [0, 1, 3, 7, 0, 16, 48, 112, 255, 511, 1023]
theorem Queue_Take.tab3 : rtab .any (opsOf Try.f20 3) = Queue_Take.T3 := by kernel_rfl
theorem Queue_Take.bits3 : waitsOk Queue_Take.T3.2 Queue_Take.B3 = true := by kernel_rfl
def Queue_Take.T4 : Bool × List (List Nat × List Nat) := (true, [([], []), ([], []), ([1], [1]), ([2], [2]), ([3], [3]), ([4], [4]), ([], []), ([6], [6]), ([7], [7]), ([8], [8]), ([9], [9]), ([5, 10], [5, 10]), ([0, 0, 1, 2, 3, 4, 5, 6, 7, 8, 9, 10, 11], [0]), ([12, 0, 1, 2, 3, 4, 5, 6, 7, 8, 9, 10, 11], [12]), ([13, 11, 0, 1, 2, 3, 4, 5, 6, 7, 8, 9, 10, 11], [11, 13])])
def Queue_Take.B4 : List Nat := [0, 0, 2, 6, 14, 30, 0, 64, 192, 448, 960, 2046, 4095, 8191, 16383]
theorem Queue_Take.tab4 : rtab .any (opsOf Try.f20 4) = Queue_Take.T4 := by kernel_rfl
theorem Queue_Take.bits4 : waitsOk Queue_Take.T4.2 Queue_Take.B4 = true := by kernel_rfl
set_option maxHeartbeats 8000000 in
set_option maxRecDepth 100000 in
theorem Queue_Take.calls (ok : Nat → Prop) (g : Nat) (most : Int) (v : Value) (zs : List Int) (f s : Nat) (w0 w : World) (hB : Below w0.heap.size w0 w) (hQ : QueueC w w0.heap.size ok g most v zs f s) (hz : zs.length ≤ 1048576) :
    Calls Try.prog 20 #[.pointer (some ⟨g, 0, none⟩)] w fun e w' => Below w0.heap.size w0 w' ∧ Kept w w' (fun k => k = g ∨ ok k) ∧ if s = 0 then e = .returned (.tuple #[.int .i64 0, .int .i64 21]) ∧ QueueC w' w0.heap.size ok g most v zs f s else e = .returned (.tuple #[.int .i64 (zs.getD f 0), .int .i64 0]) ∧ QueueC w' w0.heap.size ok g most v zs ((f + 1) % zs.length) (s - 1) := by
  have hu67 := Try.underlying67
  have HB := Aside0.mk hB
  have HQ := Aside0.mk hQ
  have HK := Aside0.mk (Kept.refl w (fun k => k = g ∨ ok k))
  have hz2 : w.cell? ⟨g, 2, none⟩ = some (.int .i64 (s : Int)) := (blk_cell hQ.blk 2).trans rfl
  have HZ := Aside0.mk hz
  clear hz
  by_cases cs : s = 0
  · simp only [if_pos cs]
    subst cs
    clear hB hQ
    go_enter Try.func20, Try.ntmps20
    go_wp2
    go_ret2
    exact ⟨HB.out, HK.out, rfl, HQ.out⟩
  · simp only [if_neg cs]
    have c1 : decide ((s : Int) = 0) = false := decide_eq_false (by omega)
    have c2 : ((s : Int) == 0) = false := beq_eq_false_iff_ne.2 (by omega)
    have c3 : decide (s = 0) = false := decide_eq_false cs
    have c4 : (s == 0) = false := beq_eq_false_iff_ne.2 cs
    have c5 := eq_false cs
    have hsl := hQ.sl
    rcases hQ.ring with ⟨_, hzs⟩ | ⟨gk, ev, hk, hbk, hok, hne, hpos⟩
    · subst hzs; exact absurd hsl (by simp; omega)
    · subst ev
      have hfl : f < zs.length := by rcases hQ.fl with h | h; (exact h); (rw [h.1] at hpos; cases hpos)
      obtain ⟨n, hn⟩ : ∃ n, n = zs.length := ⟨_, rfl⟩
      obtain ⟨x, hx⟩ : ∃ x, zs.getD f 0 = x := ⟨_, rfl⟩
      have hxc : (ints zs)[f]? = some (.int .i64 x) := by rw [ints_get hfl, ← hx, List.getD_eq_getElem?_getD, List.getElem?_eq_getElem hfl]; rfl
      have HXC := Aside0.mk hxc
      have HFL := Aside0.mk hfl
      have HN := Aside0.mk hn
      have HCS := Aside0.mk cs
      have HNE := Aside0.mk hne
      rw [hx]
      have hf0 := eq_true (show (0 : Int) ≤ (f : Int) by omega)
      have hf1 := eq_true (show (f : Int) < (n : Int) by omega)
      have hrem : Int.tmod (wrap64 ((f : Int) + 1)) (n : Int) = ((((f + 1) % zs.length : Nat)) : Int) := by
        rw [wrapId (by omega) (by have := HZ.out; omega), hn]
        exact (Int.ofNat_tmod (f + 1) zs.length).symm
      have hsub : wrap64 ((s : Int) - 1) = ((s - 1 : Nat) : Int) := by rw [wrapId (by omega) (by have := HZ.out; omega)]; omega
      have HREM := Aside0.mk hrem
      have HSUB := Aside0.mk hsub
      have hn0 := eq_false (show ¬ (n : Int) = 0 by omega)
      have hn1 : decide ((n : Int) = 0) = false := decide_eq_false (by omega)
      have hn2 : ((n : Int) == 0) = false := beq_eq_false_iff_ne.2 (by omega)
      have hn3 := eq_false (show ¬ n = 0 by omega)
      rw [← hn] at HQ
      clear hB hQ hk hbk hok hne hpos hsl hfl hn hx hxc cs hrem hsub
      go_enter Try.func20, Try.ntmps20
      go_wp2
      clear c1 c2 c3 c4 c5 hz2
      have n0_ := Aside0.mk (below_drew1 HB.out)
      have n1_ := Aside0.mk HQ.out.drew
      have n2_ := Aside0.mk (Kept.drew HK.out)
      clear HB HQ HK
      have HB := n0_
      have HQ := n1_
      have HK := n2_
      clear n0_ n1_ n2_
      have hkb : Aside0 (w.drew.heap[gk]? = some (.cells (ints zs) 3 (0, 0))) := ⟨by
        rcases HQ.out.ring with ⟨h_, _⟩ | ⟨gk', h1, h2, _⟩
        · cases h_
        · injection h1 with h1; injection h1 with h1; injection h1 with h1; subst h1; exact h2⟩
      refine start_ (n := 11) (S := fun w' => w'.cell? ⟨g, 0, none⟩ = some (.slice (some ⟨gk, 0, none⟩) n n) ∧ w'.cell? ⟨g, 1, none⟩ = some (.int .i64 (f : Int)) ∧ w'.cell? ⟨gk, f, none⟩ = some (.int .i64 x)) (ds := []) #[Ff,Ff,Ff,Ff,Ff,Ff,Ff,Ff,Ff,Ff,Ff] (by kernel_rfl) rfl rfl ⟨(blk_cell HQ.out.blk 0).trans rfl, (blk_cell HQ.out.blk 1).trans rfl, (blk_cell hkb.out f).trans HXC.out⟩ (fun hHeld => ?_)
      generalize w.drew = w1 at HB HQ HK hkb hHeld ⊢
      refine with_tabW Queue_Take.tab3 Queue_Take.bits3 (fun HT_ HW_ => ?_)
      refine pv_ 0 10 #[Tt,Ff,Ff,Ff,Ff,Ff,Ff,Ff,Ff,Ff,Ff] ?_
      refine pv_ 1 11 #[Tt,Tt,Ff,Ff,Ff,Ff,Ff,Ff,Ff,Ff,Ff] ?_
      refine pv_ 2 12 #[Tt,Tt,Tt,Ff,Ff,Ff,Ff,Ff,Ff,Ff,Ff] ?_
      refine pv_ 4 14 #[Tt,Tt,Tt,Ff,Tt,Ff,Ff,Ff,Ff,Ff,Ff] ?_
      refine pv_ 5 15 #[Tt,Tt,Tt,Ff,Tt,Tt,Ff,Ff,Ff,Ff,Ff] ?_
      refine pv_ 6 16 #[Tt,Tt,Tt,Ff,Tt,Tt,Tt,Ff,Ff,Ff,Ff] ?_
      refine take_ (i := 3) (N := (some 13)) (v := ?_) (a' := ?_) #[Tt,Tt,Tt,Tt,Tt,Tt,Tt,Ff,Ff,Ff,Ff] rfl rfl (take_ofW HT_.out HW_.out (by kernel_rfl)) (fun _ _ _ h => h) (Or.inl ⟨by rfl, ?_⟩) hHeld ?_ ?_
      rotate_left
      · rintro w' ⟨s0, s1, s2⟩
        go_simp
        with_reducible rfl
      rotate_left
      exact ap_
      refine take_ (i := 7) (N := (some 17)) (v := ?_) (a' := ?_) #[Tt,Tt,Tt,Tt,Tt,Tt,Tt,Tt,Ff,Ff,Ff] rfl rfl (take_ofW HT_.out HW_.out (by kernel_rfl)) (fun _ _ _ h => h) (Or.inl ⟨by rfl, ?_⟩) hHeld ?_ ?_
      rotate_left
      · rintro w' ⟨s0, s1, s2⟩
        go_simp
        with_reducible rfl
      rotate_left
      exact ap_
      refine pv_ 8 18 #[Tt,Tt,Tt,Tt,Tt,Tt,Tt,Tt,Tt,Ff,Ff] ?_
      refine take_ (i := 9) (N := (some 19)) (v := ?_) (a' := ?_) #[Tt,Tt,Tt,Tt,Tt,Tt,Tt,Tt,Tt,Tt,Ff] rfl rfl (take_ofW HT_.out HW_.out (by kernel_rfl)) (fun _ _ _ h => h) (Or.inl ⟨by rfl, ?_⟩) hHeld ?_ ?_
      rotate_left
      · rintro w' ⟨s0, s1, s2⟩
        go_simp
        with_reducible rfl
      rotate_left
      exact ap_
      refine pv_ 10 4 #[Tt,Tt,Tt,Tt,Tt,Tt,Tt,Tt,Tt,Tt,Tt] ?_
      refine done_ (done_of HT_.out (by kernel_rfl)) ?_
      go_wp2
      clear HT_ HW_ hHeld
      have n0_ := Aside0.mk (below_drew1 HB.out)
      have n1_ := Aside0.mk HQ.out.drew
      have n2_ := Aside0.mk (Kept.drew HK.out)
      clear HB HQ HK hkb
      have HB := n0_
      have HQ := n1_
      have HK := n2_
      clear n0_ n1_ n2_
      refine start_ (n := 15) (S := fun w' => w'.cell? ⟨g, 0, none⟩ = some (.slice (some ⟨gk, 0, none⟩) n n) ∧ w'.cell? ⟨g, 1, none⟩ = some (.int .i64 (f : Int))) (ds := [14]) #[Ff,Ff,Ff,Ff,Ff,Ff,Ff,Ff,Ff,Ff,Ff,Ff,Ff,Ff,Ff] (by kernel_rfl) rfl rfl ⟨(blk_cell HQ.out.blk 0).trans rfl, (blk_cell HQ.out.blk 1).trans rfl⟩ (fun hHeld => ?_)
      generalize w1.drew = w2 at HB HQ HK hHeld ⊢
      have z1 := (blk_cell HQ.out.blk 1).trans (rfl : _ = some (Value.int .i64 (f : Int)))
      have y1 := blk_frozen HQ.out.blk 1
      refine with_tabW Queue_Take.tab4 Queue_Take.bits4 (fun HT_ HW_ => ?_)
      refine pv_ 0 20 #[Tt,Ff,Ff,Ff,Ff,Ff,Ff,Ff,Ff,Ff,Ff,Ff,Ff,Ff,Ff] ?_
      refine pv_ 1 21 #[Tt,Tt,Ff,Ff,Ff,Ff,Ff,Ff,Ff,Ff,Ff,Ff,Ff,Ff,Ff] ?_
      refine pv_ 2 22 #[Tt,Tt,Tt,Ff,Ff,Ff,Ff,Ff,Ff,Ff,Ff,Ff,Ff,Ff,Ff] ?_
      refine pv_ 3 23 #[Tt,Tt,Tt,Tt,Ff,Ff,Ff,Ff,Ff,Ff,Ff,Ff,Ff,Ff,Ff] ?_
      refine pv_ 6 26 #[Tt,Tt,Tt,Tt,Ff,Ff,Tt,Ff,Ff,Ff,Ff,Ff,Ff,Ff,Ff] ?_
      refine pv_ 7 27 #[Tt,Tt,Tt,Tt,Ff,Ff,Tt,Tt,Ff,Ff,Ff,Ff,Ff,Ff,Ff] ?_
      refine pv_ 8 28 #[Tt,Tt,Tt,Tt,Ff,Ff,Tt,Tt,Tt,Ff,Ff,Ff,Ff,Ff,Ff] ?_
      refine take_ (i := 4) (N := (some 24)) (v := ?_) (a' := ?_) #[Tt,Tt,Tt,Tt,Tt,Ff,Tt,Tt,Tt,Ff,Ff,Ff,Ff,Ff,Ff] rfl rfl (take_ofW HT_.out HW_.out (by kernel_rfl)) (fun _ _ _ h => h) (Or.inl ⟨by rfl, ?_⟩) hHeld ?_ ?_
      rotate_left
      · rintro w' ⟨s0, s1⟩
        go_simp
        with_reducible rfl
      rotate_left
      exact ap_
      refine pv_ 5 25 #[Tt,Tt,Tt,Tt,Tt,Tt,Tt,Tt,Tt,Ff,Ff,Ff,Ff,Ff,Ff] ?_
      refine take_ (i := 9) (N := (some 29)) (v := ?_) (a' := ?_) #[Tt,Tt,Tt,Tt,Tt,Tt,Tt,Tt,Tt,Tt,Ff,Ff,Ff,Ff,Ff] rfl rfl (take_ofW HT_.out HW_.out (by kernel_rfl)) (fun _ _ _ h => h) (Or.inl ⟨by rfl, ?_⟩) hHeld ?_ ?_
      rotate_left
      · rintro w' ⟨s0, s1⟩
        go_simp
        with_reducible rfl
      rotate_left
      exact ap_
      refine pv_ 10 30 #[Tt,Tt,Tt,Tt,Tt,Tt,Tt,Tt,Tt,Tt,Tt,Ff,Ff,Ff,Ff] ?_
      refine pv_ 11 31 #[Tt,Tt,Tt,Tt,Tt,Tt,Tt,Tt,Tt,Tt,Tt,Tt,Ff,Ff,Ff] ?_
      refine pv_ 12 32 #[Tt,Tt,Tt,Tt,Tt,Tt,Tt,Tt,Tt,Tt,Tt,Tt,Tt,Ff,Ff] ?_
      refine pv_ 13 33 #[Tt,Tt,Tt,Tt,Tt,Tt,Tt,Tt,Tt,Tt,Tt,Tt,Tt,Tt,Ff] ?_
      refine last_ (i := 14) (N := none) #[Tt,Tt,Tt,Tt,Tt,Tt,Tt,Tt,Tt,Tt,Tt,Tt,Tt,Tt,Tt] rfl rfl (one_of HT_.out (by kernel_rfl)) (by decide) (fun K hK => ?_)
      refine skip_ (w1 := ?_) (by rfl) rfl ?_ ?_
      rotate_left
      · go_simp
        rfl
      refine hK.out _ _ ?_
      clear hK K z1 y1
      rw [HREM.out]
      have hq := HQ.out.setF ((f + 1) % zs.length) (.inl (Nat.mod_lt _ (by have := HFL.out; omega)))
      have n0_ := Aside0.mk (below_set HB.out HQ.out.ge (j := 1) (v := .int .i64 (((f + 1) % zs.length : Nat) : Int)))
      have n2_ := Aside0.mk (Kept.then_ HK.out (keptG HQ.out 1 (.int .i64 (((f + 1) % zs.length : Nat) : Int))) (fun k hk => Or.inl hk))
      clear HB HQ HK
      have HQ := Aside0.mk hq
      have HB := n0_
      have HK := n2_
      clear n0_ n2_ hq hHeld
      refine done_ (done_of HT_.out (by kernel_rfl)) ?_
      generalize w2.setCell ⟨g, 1, none⟩ (.int .i64 (((f + 1) % zs.length : Nat) : Int)) = w3 at HB HQ HK ⊢
      have z2 : w3.cell? ⟨g, 2, none⟩ = some (.int .i64 (s : Int)) := (blk_cell HQ.out.blk 2).trans rfl
      have y2 := blk_frozen HQ.out.blk 2
      clear HT_ HW_
      go_wp2
      go_ret2
      rw [HSUB.out]
      exact ⟨below_set HB.out HQ.out.ge, Kept.then_ HK.out (keptG HQ.out 2 _) (fun k hk => Or.inl hk), rfl, by have h_ := HQ.out.setS (s - 1) (by have := HQ.out.sl; omega); rw [HN.out] at h_; exact h_⟩
end Go.Proofs.Ytloebciamfbjfaa.Q
end
