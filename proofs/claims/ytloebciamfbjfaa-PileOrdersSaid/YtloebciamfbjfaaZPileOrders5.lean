/- A part of the proof: words, contracts, plain lemmas. Conditions: none. -/
import Derived.Test.YtloebciamfbjfaaZPileOrders4
section
namespace Go.Proofs.Ytloebciamfbjfaa.Q
open Go.RowKit Go.Proofs.Ytloebciamfbjfaa.P Go.Proofs.YtloebciamfbjfaaW.PrintWords Go.Proofs.YtloebciamfbjfaaW.PrintLast Go.Proofs.YtloebciamfbjfaaW.PrintMore
set_option linter.unusedVariables false
set_option linter.unusedSimpArgs false
theorem made_ints (n : Nat) : madeCells (Value.int .i64 0).cells (n * 1) = ints (List.replicate n 0) := by
  unfold madeCells ints
  apply Array.ext
  · simp
  · intro i h1 h2
    simp [Value.cells, Nat.mod_one]
theorem wpList_mk {ops : Array Oper} {rest : List Oper} {o : Oper} {a : Act} {Q : Exit → Act → World → Prop} (w : World) (hg : o.guard = none) (l c : Operand) (hop : o.op = Op.makeSlice 52 l c) (n : Nat) (hl : a.eval l = .int .i64 0) (hc : a.eval c = .int .i64 (n : Int)) (hn : n ≤ 1000000000)
    (hK : ∀ g w1, g = w.heap.size → w1.heap[g]? = some (.cells (ints (List.replicate n 0)) 3 (0, 0)) → Below w.heap.size w w1 → wpList Try.prog ops Q rest (a.put o.dst (.slice (some ⟨g, 0, none⟩) 0 n)) w1) : wpList Try.prog ops Q (o :: rest) a w := by
  refine wpList_plain hg fun K hK' => ?_
  obtain ⟨i3, hi, hz0, hz1, hz2⟩ := info_parts info3
  have hr := run_make (P := Try.prog) w 52 3 i3 (.int .i64 0) Try.underlying52 hi hz0 .i64 .i64 0 (n : Int) (Int.le_refl _) (by omega) (by rw [hz2]; omega) (by omega)
  rw [hz1, Int.toNat_natCast, made_ints] at hr
  unfold Oper.wp
  simp [execOp, hop, hl, hc, hr, Result.andThen]
  exact hK' _ _ (hK _ _ rfl (blk_new w _) (below_alloc (Below.refl _ _) _))
theorem setRow_size' (w : World) (g : Nat) (cs : Array Value) : (w.setRow g cs).heap.size = w.heap.size := by unfold World.setRow; rw [Array.size_modify]
theorem exec_append {P : Program} {o : Oper} {a : Act} (s x : Operand) (t : TypeId) (hop : o.op = .call { callee := .builtin .append, args := #[s, x], argTypes := #[t, t] }) {vs vx v : Value} {w w' : World} (hs : a.eval s = vs) (hx : a.eval x = vx)
    (hr : (Builtin.append_ #[t, t] o.type #[vs, vx]).run P w = .ok v w') : (execOp a.eval o).run P w = .ok (.value v) w' := by
  subst hs hx
  unfold execOp
  rw [hop]
  simp only [resolve, invoke, builtin]
  simp [hr, Result.andThen]
theorem append_room_step {ops : Array Oper} {oi : Oper} {a : Act} {W : World} {Q : Exit → Act → World → Prop} {Kc : Act → World → Prop} (hw : Region.wanted oi (yielded ops a.tmps) = true) (s x : Operand) (hop : oi.op = .call { callee := .builtin .append, args := #[s, x], argTypes := #[52, 52] }) (gr i cap : Nat) (zs : List Int) (n : Int)
    (hs : a.eval s = .slice (some ⟨gr, 0, none⟩) i cap) (hx : a.eval x = .slice (some ⟨W.heap.size, 0, none⟩) 1 1) (hg : W.heap[gr]? = some (.cells (ints zs) 3 (0, 0))) (hi : i < zs.length) (hcap : zs.length = cap)
    (h : ∀ w1, w1.heap[gr]? = some (.cells (ints (zs.set i n)) 3 (0, 0)) → W.grownBy w1 (some gr) → Kc (a.put oi.dst (.slice (some ⟨gr, 0, none⟩) (i + 1) cap)) w1) :
    if Region.wanted oi (yielded ops a.tmps) = true then Oper.wp Try.prog oi a (W.alloc (.cells #[.int .i64 n] 3)) Kc Q else Kc (a.put oi.dst undef) (W.alloc (.cells #[.int .i64 n] 3)) := by
  obtain ⟨i3, h3, hz0, hz1, hz2⟩ := info_parts info3
  have hga : (W.alloc (.cells #[.int .i64 n] 3)).heap[gr]? = some (.cells (ints zs) 3 (0, 0)) := blk_below hg (below_alloc (Below.refl _ _) _)
  have hnew : (W.alloc (.cells #[.int .i64 n] 3)).heap[W.heap.size]? = some (.cells #[.int .i64 n] 3 (0, 0)) := blk_new W _
  have hr := run_append_room (P := Try.prog) (W.alloc (.cells #[.int .i64 n] 3)) 52 oi.type 3 i3 Try.underlying52 h3 gr i cap (ints zs) hga ⟨W.heap.size, 0, none⟩ 1 1 [.int .i64 n] (by rw [hz1]; rfl)
    (fun j u hu => by
      rcases j with _ | j
      · injection hu with hu; subst hu; exact (blk_cell hnew 0).trans rfl
      · cases hu)
    (fun u hu => by rcases List.mem_singleton.1 hu with rfl; rfl) (by omega) (by rw [hz1, Nat.mul_one]; unfold ints; simp; omega)
  rw [hz1, Nat.mul_one] at hr
  have harr : ((ints zs).toList.take i ++ [Value.int .i64 n] ++ (ints zs).toList.drop (i + [Value.int .i64 n].length)).toArray = ints (zs.set i n) := by
    unfold ints
    simp only [List.length_cons, List.length_nil, Nat.zero_add]
    rw [List.map_set, List.set_eq_take_append_cons_drop, if_pos (by rw [List.length_map]; exact hi)]
    simp
  rw [harr] at hr
  refine event_step hw (exec_append s x 52 hop hs hx hr) (h _ (setRow_heap _ gr _ _ _ _ hga) ?_)
  refine ⟨rfl, rfl, rfl, by rw [setRow_size']; exact (below_alloc (Below.refl W.heap.size W) (.cells #[.int .i64 n] 3)).size, fun k hk hne => ?_⟩
  rw [setRow_other _ gr k _ (fun e => hne (by rw [e]))]
  exact (below_alloc (Below.refl W.heap.size W) (.cells #[.int .i64 n] 3)).block k hk
theorem content_snoc (zs : List Int) (f s : Nat) : content zs f (s + 1) = content zs f s ++ [zs.getD ((f + s) % zs.length) 0] := by
  unfold content; rw [List.range_succ, List.map_append]; rfl
theorem content_length (zs : List Int) (f s : Nat) : (content zs f s).length = s := by unfold content; rw [List.length_map, List.length_range]
theorem grown_set (zs : List Int) (f i cap : Nat) (hi : i < cap) : (content zs f i ++ List.replicate (cap - i) 0).set i (zs.getD ((f + i) % zs.length) 0) = content zs f (i + 1) ++ List.replicate (cap - (i + 1)) 0 := by
  rw [List.set_append_right _ _ (by rw [content_length]; omega), content_length, Nat.sub_self, content_snoc, show cap - i = cap - (i + 1) + 1 by omega, List.replicate_succ, List.set_cons_zero, List.append_assoc]
  rfl
theorem content_grown (zs : List Int) (f s m : Nat) : content (content zs f s ++ List.replicate m 0) 0 s = content zs f s := by
  apply List.ext_getElem
  · rw [content_length, content_length]
  · intro i h1 h2
    rw [content_length] at h1
    have hl : (content zs f s ++ List.replicate m 0).length = s + m := by rw [List.length_append, content_length, List.length_replicate]
    have e1 : (content (content zs f s ++ List.replicate m 0) 0 s)[i]'(by rw [content_length]; exact h1) = (content zs f s ++ List.replicate m 0).getD ((0 + i) % (content zs f s ++ List.replicate m 0).length) 0 := by simp [content]
    rw [e1, hl, Nat.zero_add, Nat.mod_eq_of_lt (by omega), List.getD_eq_getElem?_getD, List.getElem?_append_left (by rw [content_length]; exact h1), List.getElem?_eq_getElem h2]
    rfl
def Queue_grow.T4 : Bool × List (List Nat × List Nat) := (true, [([], []), ([], []), ([1], [1]), ([2], [2]), ([3], [3]), ([], []), ([5], [5]), ([6], [6]), ([7], [7]), ([], []), ([8, 9], [8, 9]), ([], []), ([11], [11]), ([12], [12]), ([13], [13]), ([14], [14]), ([10, 15], [10, 15]), ([4, 16], [4, 16]), ([17], [17]), ([18], [18]), ([0, 19], [0, 19]), ([20, 20, 0, 1, 2, 3, 4, 5, 6, 7, 8, 9, 10, 11, 12, 13, 14, 15, 16, 17, 18, 19, 20], [0, 20])])
def Queue_grow.B4 : List Nat := [0, 0, 2, 6, 14, 0, 32, 96, 224, 0, 992, 0, 2048, 6144, 14336, 30720, 65504, 131070, 262142, 524286, 1048575, 2097151]
theorem Queue_grow.tab4 : rtab .any (opsOf Try.f32 4) = Queue_grow.T4 := by kernel_rfl
theorem Queue_grow.bits4 : waitsOk Queue_grow.T4.2 Queue_grow.B4 = true := by kernel_rfl
set_option maxHeartbeats 8000000 in
set_option maxRecDepth 100000 in
theorem Queue_grow.calls (ok : Nat → Prop) (g : Nat) (most : Int) (v : Value) (zs : List Int) (f : Nat) (w0 w : World) (hB : Below w0.heap.size w0 w) (hQ : QueueC w w0.heap.size ok g most v zs f zs.length) (hfresh : ∀ k, w.heap.size ≤ k → ok k) (hz : zs.length ≤ 1048576) :
    Calls Try.prog 32 #[.pointer (some ⟨g, 0, none⟩)] w fun e w' => e = .returned (.tuple #[]) ∧ Below w0.heap.size w0 w' ∧ Kept w w' (fun k => k = g ∨ ok k) ∧ ∃ v', QueueC w' w0.heap.size ok g most v' (content zs f zs.length ++ List.replicate (zs.length + 4) 0) 0 zs.length := by
  have hu67 := Try.underlying67
  have hu52 := Try.underlying52
  have HB := Aside0.mk hB
  have HQ := Aside0.mk hQ
  have HF := Aside0.mk hfresh
  have HZ := Aside0.mk hz
  have HK := Aside0.mk (Kept.refl w (fun k => k = g ∨ ok k))
  obtain ⟨n, hn⟩ : ∃ n, n = zs.length := ⟨_, rfl⟩
  obtain ⟨A, hA⟩ : ∃ A, v = .slice A n n := by
    rcases hQ.ring with ⟨h1, h2⟩ | ⟨gk, h1, _⟩
    · exact ⟨none, by rw [h1, hn, h2]; rfl⟩
    · exact ⟨_, by rw [h1, hn]⟩
  subst hA
  have hz0 : w.cell? ⟨g, 0, none⟩ = some (.slice A n n) := (blk_cell hQ.blk 0).trans rfl
  have HN := Aside0.mk hn
  have hcap : wrap64 (wrap64 (2 * (n : Int)) + 4) = ((2 * n + 4 : Nat) : Int) := by rw [wrapId (n := 2 * (n : Int)) (by omega) (by omega), wrapId (by omega) (by omega)]; omega
  have HCAP := Aside0.mk hcap
  have HNZ : Aside0 (n ≤ 1048576) := ⟨by omega⟩
  rw [← hn] at HQ ⊢
  clear hB hQ hfresh hz hcap hn
  go_enter Try.func32, Try.ntmps32
  go_wp2_with ((with_reducible refine gate_dst (N := 11) rfl ?_); refine wpList_mk _ rfl _ _ rfl (2 * n + 4) rfl ?hc (by have := HNZ.out; omega) ?_; (case hc => exact congrArg (Value.int .i64) HCAP.out); intro gr w1 hg hbox hb; have n0_ := Aside0.mk (below_step HB.out hb); have n1_ := Aside0.mk ((HQ.out.elder gr (Nat.le_of_eq hg.symm)).below hb); have n2_ := Aside0.mk (HK.out.below hb); have GR := Aside0.mk (show w.heap.size ≤ gr by rw [hg]; exact HK.out.1); have GRb := Aside0.mk (show w0.heap.size ≤ gr by rw [hg]; exact below_size HB.out); have NGr := Aside0.mk (show g ≠ gr by rw [hg]; exact Nat.ne_of_lt (blk_lt HQ.out.blk)); have BK := Aside0.mk hbox; clear HB HQ HK hz0 hb hbox hg; have HB := n0_; have HQ := n1_; have HK := n2_; clear n0_ n1_ n2_; have hz2 : w1.cell? ⟨g, 2, none⟩ = some (.int .i64 (n : Int)) := (blk_cell HQ.out.blk 2).trans rfl)
  clear hz2
  go_loopg [2, 16] n (fun kq v2 v16 w' => ∃ i : Nat, v2 = .slice (some ⟨gr, 0, none⟩) i (2 * n + 4) ∧ v16 = .int .i64 (i : Int) ∧ Aside0 (i + kq = n) ∧ Aside0 (Below w0.heap.size w0 w') ∧ Aside0 (QueueC w' w0.heap.size (fun k => ok k ∧ k ≠ gr) g most (.slice A n n) zs f n) ∧ Aside0 (Kept w w' (fun k => k = g ∨ ok k)) ∧ Aside0 (w'.heap[gr]? = some (.cells (ints (content zs f i ++ List.replicate (2 * n + 4 - i) 0)) 3 (0, 0))))
  case atStart => exact ⟨0, rfl, rfl, ⟨by omega⟩, HB, HQ, HK, BK⟩
  case round =>
    clear HB HQ HK BK
    obtain ⟨i, rfl, rfl, HI, HB, HQ, HK, BK⟩ := hrel
    cases gk with
    | zero =>
      have hi : i = n := by have := HI.out; omega
      have c1 : decide ((i : Int) < (n : Int)) = false := decide_eq_false (by omega)
      have c2 : decide (i < n) = false := decide_eq_false (by omega)
      have HI2 := Aside0.mk hi
      clear hi
      have z0 : wr.cell? ⟨g, 0, none⟩ = some (.slice A n n) := (blk_cell HQ.out.blk 0).trans rfl
      have z1 : wr.cell? ⟨g, 1, none⟩ = some (.int .i64 (f : Int)) := (blk_cell HQ.out.blk 1).trans rfl
      have y0 := blk_frozen HQ.out.blk 0
      have y1 := blk_frozen HQ.out.blk 1
      have p1 := eq_true (show (0 : Int) ≤ ((2 * n + 4 : Nat) : Int) by omega)
      go_wp2
      have hq : QueueC ((wr.setCell ⟨g, 0, none⟩ (.slice (some ⟨gr, 0, none⟩) (2 * n + 4) (2 * n + 4))).setCell ⟨g, 1, none⟩ (.int .i64 0)) w0.heap.size ok g most (.slice (some ⟨gr, 0, none⟩) (2 * n + 4) (2 * n + 4)) (content zs f n ++ List.replicate (n + 4) 0) 0 n := by
        have hb1 := blk_put (cs' := #[.slice (some ⟨gr, 0, none⟩) (2 * n + 4) (2 * n + 4), .int .i64 (f : Int), .int .i64 (n : Int), .int .i64 most]) HQ.out.blk 0 (.slice (some ⟨gr, 0, none⟩) (2 * n + 4) (2 * n + 4)) rfl
        have hb2 := blk_put (cs' := #[.slice (some ⟨gr, 0, none⟩) (2 * n + 4) (2 * n + 4), .int .i64 ((0 : Nat) : Int), .int .i64 (n : Int), .int .i64 most]) hb1 1 (.int .i64 0) rfl
        have hk := BK.out
        rw [HI2.out, show 2 * n + 4 - n = n + 4 by omega] at hk
        have hlen : (content zs f n ++ List.replicate (n + 4) 0).length = 2 * n + 4 := by rw [List.length_append, content_length, List.length_replicate]; omega
        refine ⟨hb2, HQ.out.ge, .inr ⟨gr, by rw [hlen], blk_far (p := ⟨g, 1, none⟩) (blk_far (p := ⟨g, 0, none⟩) hk NGr.out.symm _) NGr.out.symm _, GRb.out, HF.out gr GR.out, NGr.out.symm, by rw [hlen]; omega⟩, .inl (by rw [hlen]; omega), by rw [hlen]; omega⟩
      go_end0
      exact ⟨rfl, below_set (below_set HB.out HQ.out.ge) HQ.out.ge, Kept.setCell (p := ⟨g, 1, none⟩) (Kept.setCell (p := ⟨g, 0, none⟩) HK.out (Or.inl (Or.inl rfl)) _) (Or.inl (Or.inl rfl)) _, _, hq⟩
    | succ gk =>
      have hlt : i < n := by have := HI.out; omega
      have c1 : decide ((i : Int) < (n : Int)) = true := decide_eq_true (by omega)
      have c2 : decide (i < n) = true := decide_eq_true hlt
      rcases HQ.out.ring with ⟨_, hz⟩ | ⟨gk0, hv, hkb, hbk, hok, hne, hpos⟩
      · exact absurd hlt (by rw [HN.out, hz]; simp)
      · have HR := HQ.out.ring
        have hA2 : A = some ⟨gk0, 0, none⟩ := by injection hv
        subst hA2
        clear hv
        have hfl : f < zs.length := by rcases HQ.out.fl with h | h; (exact h); (rw [h.1] at hpos; cases hpos)
        have hp : (f + i) % zs.length < zs.length := Nat.mod_lt _ hpos
        have htm : Int.tmod (wrap64 ((f : Int) + (i : Int))) (n : Int) = (((f + i) % zs.length : Nat) : Int) := by
          have := HZ.out
          have := HN.out
          rw [wrapId (by omega) (by omega), HN.out]
          exact (Int.ofNat_tmod (f + i) zs.length).symm
        obtain ⟨x, hx⟩ : ∃ x, zs.getD ((f + i) % zs.length) 0 = x := ⟨_, rfl⟩
        have hxc : (ints zs)[(f + i) % zs.length]? = some (.int .i64 x) := by rw [ints_get hp, ← hx, List.getD_eq_getElem?_getD, List.getElem?_eq_getElem hp]; rfl
        have HX := Aside0.mk hx
        have HXC := Aside0.mk hxc
        have HTM := Aside0.mk htm
        have q0 := eq_true (show (0 : Int) ≤ Int.tmod (wrap64 ((f : Int) + (i : Int))) (n : Int) by rw [htm]; omega)
        have q1 := eq_true (show Int.tmod (wrap64 ((f : Int) + (i : Int))) (n : Int) < (n : Int) by rw [htm]; have := HN.out; omega)
        have hn0 := eq_false (show ¬ (n : Int) = 0 by omega)
        have hn1 : decide ((n : Int) = 0) = false := decide_eq_false (by omega)
        have hn2 : ((n : Int) == 0) = false := beq_eq_false_iff_ne.2 (by omega)
        have hn3 := eq_false (show ¬ n = 0 by omega)
        have hcell : wr.cell? ⟨gk0, (Int.tmod (wrap64 ((f : Int) + (i : Int))) (n : Int)).toNat, none⟩ = some (.int .i64 x) := by rw [htm, Int.toNat_natCast]; exact (blk_cell hkb _).trans hxc
        have hlc : (content zs f i ++ List.replicate (2 * n + 4 - i) 0).length = 2 * n + 4 := by rw [List.length_append, content_length, List.length_replicate]; omega
        have HLC := Aside0.mk hlc
        have HLT := Aside0.mk hlt
        have hwi : wrap64 ((i : Int) + 1) = ((i + 1 : Nat) : Int) := wrapId (by have := HNZ.out; omega) (by have := HNZ.out; omega)
        have HWI := Aside0.mk hwi
        clear hkb hbk hok hne hpos hfl hp htm hx hxc hlc hlt HR hwi
        go_wp2
        clear c1 c2
        have n0_ := Aside0.mk (below_drew1 HB.out)
        have n1_ := Aside0.mk HQ.out.drew
        have n2_ := Aside0.mk (Kept.drew HK.out)
        have n3_ := Aside0.mk (blk_drew BK.out)
        clear HB HQ HK BK
        have HB := n0_
        have HQ := n1_
        have HK := n2_
        have BK := n3_
        clear n0_ n1_ n2_ n3_
        refine start_ (n := 22) (S := fun w' => w'.cell? ⟨g, 0, none⟩ = some (.slice (some ⟨gk0, 0, none⟩) n n) ∧ w'.cell? ⟨g, 1, none⟩ = some (.int .i64 (f : Int)) ∧ w'.cell? ⟨gk0, (Int.tmod (wrap64 ((f : Int) + (i : Int))) (n : Int)).toNat, none⟩ = some (.int .i64 x)) (ds := []) #[Ff,Ff,Ff,Ff,Ff,Ff,Ff,Ff,Ff,Ff,Ff,Ff,Ff,Ff,Ff,Ff,Ff,Ff,Ff,Ff,Ff,Ff] (by kernel_rfl) rfl rfl ⟨(blk_cell HQ.out.blk 0).trans rfl, (blk_cell HQ.out.blk 1).trans rfl, hcell⟩ (fun hHeld => ?_)
        clear hcell
        generalize wr.drew = w2 at HB HQ HK BK hHeld ⊢
        refine with_tabW Queue_grow.tab4 Queue_grow.bits4 (fun HT_ HW_ => ?_)
        refine pv_ 0 19 #[Tt,Ff,Ff,Ff,Ff,Ff,Ff,Ff,Ff,Ff,Ff,Ff,Ff,Ff,Ff,Ff,Ff,Ff,Ff,Ff,Ff,Ff] ?_
        refine pv_ 1 20 #[Tt,Tt,Ff,Ff,Ff,Ff,Ff,Ff,Ff,Ff,Ff,Ff,Ff,Ff,Ff,Ff,Ff,Ff,Ff,Ff,Ff,Ff] ?_
        refine pv_ 2 21 #[Tt,Tt,Tt,Ff,Ff,Ff,Ff,Ff,Ff,Ff,Ff,Ff,Ff,Ff,Ff,Ff,Ff,Ff,Ff,Ff,Ff,Ff] ?_
        refine pv_ 3 22 #[Tt,Tt,Tt,Tt,Ff,Ff,Ff,Ff,Ff,Ff,Ff,Ff,Ff,Ff,Ff,Ff,Ff,Ff,Ff,Ff,Ff,Ff] ?_
        refine pv_ 5 24 #[Tt,Tt,Tt,Tt,Ff,Tt,Ff,Ff,Ff,Ff,Ff,Ff,Ff,Ff,Ff,Ff,Ff,Ff,Ff,Ff,Ff,Ff] ?_
        refine pv_ 6 25 #[Tt,Tt,Tt,Tt,Ff,Tt,Tt,Ff,Ff,Ff,Ff,Ff,Ff,Ff,Ff,Ff,Ff,Ff,Ff,Ff,Ff,Ff] ?_
        refine pv_ 7 26 #[Tt,Tt,Tt,Tt,Ff,Tt,Tt,Tt,Ff,Ff,Ff,Ff,Ff,Ff,Ff,Ff,Ff,Ff,Ff,Ff,Ff,Ff] ?_
        refine pv_ 9 28 #[Tt,Tt,Tt,Tt,Ff,Tt,Tt,Tt,Ff,Tt,Ff,Ff,Ff,Ff,Ff,Ff,Ff,Ff,Ff,Ff,Ff,Ff] ?_
        refine pv_ 11 30 #[Tt,Tt,Tt,Tt,Ff,Tt,Tt,Tt,Ff,Tt,Ff,Tt,Ff,Ff,Ff,Ff,Ff,Ff,Ff,Ff,Ff,Ff] ?_
        refine pv_ 12 31 #[Tt,Tt,Tt,Tt,Ff,Tt,Tt,Tt,Ff,Tt,Ff,Tt,Tt,Ff,Ff,Ff,Ff,Ff,Ff,Ff,Ff,Ff] ?_
        refine pv_ 13 32 #[Tt,Tt,Tt,Tt,Ff,Tt,Tt,Tt,Ff,Tt,Ff,Tt,Tt,Tt,Ff,Ff,Ff,Ff,Ff,Ff,Ff,Ff] ?_
        refine take_ (i := 4) (N := (some 23)) (v := ?_) (a' := ?_) #[Tt,Tt,Tt,Tt,Tt,Tt,Tt,Tt,Ff,Tt,Ff,Tt,Tt,Tt,Ff,Ff,Ff,Ff,Ff,Ff,Ff,Ff] rfl rfl (take_ofW HT_.out HW_.out (by kernel_rfl)) (fun _ _ _ h => h) (Or.inl ⟨by rfl, ?_⟩) hHeld ?_ ?_
        rotate_left
        · rintro w' ⟨s0, s1, s2⟩
          go_simp
          with_reducible rfl
        rotate_left
        exact ap_
        refine take_ (i := 8) (N := (some 27)) (v := ?_) (a' := ?_) #[Tt,Tt,Tt,Tt,Tt,Tt,Tt,Tt,Tt,Tt,Ff,Tt,Tt,Tt,Ff,Ff,Ff,Ff,Ff,Ff,Ff,Ff] rfl rfl (take_ofW HT_.out HW_.out (by kernel_rfl)) (fun _ _ _ h => h) (Or.inl ⟨by rfl, ?_⟩) hHeld ?_ ?_
        rotate_left
        · rintro w' ⟨s0, s1, s2⟩
          go_simp
          with_reducible rfl
        rotate_left
        exact ap_
        refine pv_ 10 29 #[Tt,Tt,Tt,Tt,Tt,Tt,Tt,Tt,Tt,Tt,Tt,Tt,Tt,Tt,Ff,Ff,Ff,Ff,Ff,Ff,Ff,Ff] ?_
        refine take_ (i := 14) (N := (some 33)) (v := ?_) (a' := ?_) #[Tt,Tt,Tt,Tt,Tt,Tt,Tt,Tt,Tt,Tt,Tt,Tt,Tt,Tt,Tt,Ff,Ff,Ff,Ff,Ff,Ff,Ff] rfl rfl (take_ofW HT_.out HW_.out (by kernel_rfl)) (fun _ _ _ h => h) (Or.inl ⟨by rfl, ?_⟩) hHeld ?_ ?_
        rotate_left
        · rintro w' ⟨s0, s1, s2⟩
          go_simp
          with_reducible rfl
        rotate_left
        exact ap_
        refine pv_ 15 34 #[Tt,Tt,Tt,Tt,Tt,Tt,Tt,Tt,Tt,Tt,Tt,Tt,Tt,Tt,Tt,Tt,Ff,Ff,Ff,Ff,Ff,Ff] ?_
        refine pv_ 16 35 #[Tt,Tt,Tt,Tt,Tt,Tt,Tt,Tt,Tt,Tt,Tt,Tt,Tt,Tt,Tt,Tt,Tt,Ff,Ff,Ff,Ff,Ff] ?_
        refine pv_ 17 36 #[Tt,Tt,Tt,Tt,Tt,Tt,Tt,Tt,Tt,Tt,Tt,Tt,Tt,Tt,Tt,Tt,Tt,Tt,Ff,Ff,Ff,Ff] ?_
        refine take_ (i := 18) (N := (some 37)) (v := ?_) (a' := ?_) #[Tt,Tt,Tt,Tt,Tt,Tt,Tt,Tt,Tt,Tt,Tt,Tt,Tt,Tt,Tt,Tt,Tt,Tt,Tt,Ff,Ff,Ff] rfl rfl (take_ofW HT_.out HW_.out (by kernel_rfl)) (fun _ _ _ h => h) (Or.inl ⟨by rfl, ?_⟩) hHeld ?_ ?_
        rotate_left
        · rintro w' ⟨s0, s1, s2⟩
          go_simp
          with_reducible rfl
        rotate_left
        exact ap_
        refine one_ (i := 19) (N := (some 38)) #[Tt,Tt,Tt,Tt,Tt,Tt,Tt,Tt,Tt,Tt,Tt,Tt,Tt,Tt,Tt,Tt,Tt,Tt,Tt,Tt,Ff,Ff] rfl rfl (one_of HT_.out (by kernel_rfl)) (by decide) (fun K hK => ?_)
        refine event_step (v := .slice (some ⟨w2.heap.size, 0, none⟩) 1 1) (w1 := w2.alloc (.cells #[.int .i64 x] 3)) (by rfl) (by first | (go_simp; done) | (go_simp; rfl)) ?_
        have hba := below_alloc (Below.refl w2.heap.size w2) (.cells #[.int .i64 x] 3)
        refine hK.out _ _ ⟨(hba.cell (World.block_lt_of_cell? _ _ hHeld.1)).trans hHeld.1, (hba.cell (World.block_lt_of_cell? _ _ hHeld.2.1)).trans hHeld.2.1, (hba.cell (World.block_lt_of_cell? _ _ hHeld.2.2)).trans hHeld.2.2⟩ (fun hHeld2 => ?_)
        clear hK K hba hHeld2
        refine norm_ (a' := ?_) ?_ ?_
        rotate_left
        · show Act.put _ (some 38) _ = _
          simp only [Act.put, List.setIfInBounds_toArray, List.set_cons_zero, List.set_cons_succ, i64_w, i32_w]
          rfl
        refine one_ (i := 20) (N := (some 39)) #[Tt,Tt,Tt,Tt,Tt,Tt,Tt,Tt,Tt,Tt,Tt,Tt,Tt,Tt,Tt,Tt,Tt,Tt,Tt,Tt,Tt,Ff] rfl rfl (one_of HT_.out (by kernel_rfl)) (by decide) (fun K hK => ?_)
        refine append_room_step (by rfl) (.tmp 19) (.tmp 38) rfl gr i (2 * n + 4) (content zs f i ++ List.replicate (2 * n + 4 - i) 0) x rfl rfl BK.out (by rw [HLC.out]; have := HLT.out; omega) HLC.out ?_
        intro w3 hb3 hg3
        have hset := grown_set zs f i (2 * n + 4) (by have := HLT.out; omega)
        rw [HX.out] at hset
        rw [hset] at hb3
        have n0_ := Aside0.mk (Below.grown HB.out hg3 (below_size HB.out) (fun k_ e_ => by injection e_ with e_; subst e_; exact GRb.out))
        have n2_ := Aside0.mk (Kept.of_grown hg3 HK.out (fun k_ e_ => by injection e_ with e_; subst e_; exact Or.inr GR.out))
        have hkp : Kept w2 w3 (fun k => k = gr) := ⟨hg3.size, fun k hk hne => hg3.block k hk (fun e_ => hne (Option.some.inj e_))⟩
        have n1_ := Aside0.mk (HQ.out.kept hkp NGr.out (fun k hk => hk.2))
        have hc2 : w3.cell? ⟨gk0, (Int.tmod (wrap64 ((f : Int) + (i : Int))) (n : Int)).toNat, none⟩ = some (.int .i64 x) := by
          rcases HQ.out.ring with ⟨h_, _⟩ | ⟨gk', h1, h2, _, h4, _⟩
          · cases h_
          · have e_ : gk0 = gk' := by injection h1 with h1; injection h1 with h1; injection h1
            subst e_
            rw [HTM.out, Int.toNat_natCast]
            exact (blk_cell (Kept.blk hkp h2 h4.2) _).trans HXC.out
        have BK2 := Aside0.mk hb3
        clear HB HQ HK BK hHeld hset hg3 hb3 hkp
        have HB := n0_
        have HQ := n1_
        have HK := n2_
        have BK := BK2
        clear n0_ n1_ n2_ BK2
        refine hK.out _ _ ⟨(blk_cell HQ.out.blk 0).trans rfl, (blk_cell HQ.out.blk 1).trans rfl, hc2⟩ (fun hHeld => ?_)
        clear hK K hc2
        refine norm_ (a' := ?_) ?_ ?_
        rotate_left
        · show Act.put _ (some 39) _ = _
          simp only [Act.put, List.setIfInBounds_toArray, List.set_cons_zero, List.set_cons_succ, i64_w, i32_w]
          rfl
        refine pv_ 21 2 #[Tt,Tt,Tt,Tt,Tt,Tt,Tt,Tt,Tt,Tt,Tt,Tt,Tt,Tt,Tt,Tt,Tt,Tt,Tt,Tt,Tt,Tt] ?_
        refine done_ (done_of HT_.out (by kernel_rfl)) ?_
        clear HT_ HW_ hHeld
        try go_wp2
        go_roundg gk
        case measure => omega
        case rel => exact ⟨i + 1, rfl, by first | exact congrArg (Value.int .i64) (by omega) | exact congrArg (Value.int .i64) HWI.out, ⟨by have := HI.out; omega⟩, HB, HQ, HK, BK⟩
end Go.Proofs.Ytloebciamfbjfaa.Q
end
