/- A part of the proof: words, contracts, plain lemmas. Conditions: none. -/
import Derived.Test.YtgjgckpdilbbjaaZAdjSteps14
import Derived.Test.YtgjgckpdilbbjaaZAdjSteps13
import Derived.Test.YtgjgckpdilbbjaaZAdjSteps16
section
namespace Go.Proofs.Ytgjgckpdilbbjaa.Q
open Go.RowKit Go.Proofs.Ytgjgckpdilbbjaa.P Go.Proofs.YtgjgckpdilbbjaaW.PrintWords Go.Proofs.YtgjgckpdilbbjaaW.PrintLast Go.Proofs.YtgjgckpdilbbjaaW.PrintMore
set_option linter.unusedVariables false
set_option linter.unusedSimpArgs false
def arcFine (d t : List Int) (a : S37) : Prop := (0 ≤ a.f0 ∧ a.f0 < (d.length : Int) ∧ 0 ≤ a.f1 ∧ a.f1 < (d.length : Int)) ∧ (0 ≤ rd d a.f0 → ¬ rd d a.f1 < 0 ∧ ¬ rd d a.f1 > wrap64 (rd d a.f0 + 1) ∧ ¬ rd t a.f1 < 0 ∧ ¬ rd t a.f1 > wrap64 (rd t a.f0 + a.f3))
instance (d t : List Int) (a : S37) : Decidable (arcFine d t a) := by unfold arcFine; exact inferInstance
def hopBy (d : List Int) (u : Int) (a : S37) : Bool := decide (a.f1 = u) && decide (rd d a.f0 ≥ 0) && decide (rd d u = wrap64 (rd d a.f0 + 1))
def timeBy (t : List Int) (u : Int) (a : S37) : Bool := decide (a.f1 = u) && decide (rd t a.f0 ≥ 0) && decide (rd t u = wrap64 (rd t a.f0 + a.f3))
def hopAt (l : List S37) (d : List Int) (h0 : Bool) (u : Int) (i : Nat) : Bool := h0 || (List.range i).any (fun (j : Nat) => hopBy d u (rd_T37 l (j : Int)))
def timeAt (l : List S37) (t : List Int) (h0 : Bool) (u : Int) (i : Nat) : Bool := h0 || (List.range i).any (fun (j : Nat) => timeBy t u (rd_T37 l (j : Int)))
theorem hopAt_succ (l : List S37) (d : List Int) (h0 : Bool) (u : Int) (i : Nat) : hopAt l d h0 u (i + 1) = (hopAt l d h0 u i || hopBy d u (rd_T37 l (i : Int))) := by
  unfold hopAt; rw [List.range_succ, List.any_append, Bool.or_assoc]; simp
theorem timeAt_succ (l : List S37) (t : List Int) (h0 : Bool) (u : Int) (i : Nat) : timeAt l t h0 u (i + 1) = (timeAt l t h0 u i || timeBy t u (rd_T37 l (i : Int))) := by
  unfold timeAt; rw [List.range_succ, List.any_append, Bool.or_assoc]; simp
theorem hopAt_zero (l : List S37) (d : List Int) (h0 : Bool) (u : Int) : hopAt l d h0 u 0 = h0 := by simp [hopAt]
theorem timeAt_zero (l : List S37) (t : List Int) (h0 : Bool) (u : Int) : timeAt l t h0 u 0 = h0 := by simp [timeAt]
def nodeFine (l : List S37) (d t : List Int) (v u : Int) : Prop := (rd d u < 0 ↔ rd t u < 0) ∧ hopAt l d (decide (u = v) || decide (rd d u < 0)) u l.length = true ∧ timeAt l t (decide (u = v) || decide (rd d u < 0)) u l.length = true
instance (l : List S37) (d t : List Int) (v u : Int) : Decidable (nodeFine l d t v u) := by unfold nodeFine; exact inferInstance
def stepsOk (n : Int) (l : List S37) (v : Int) (d t : List Int) : Prop := ((d.length : Int) = n ∧ (t.length : Int) = n ∧ n ≤ 50 ∧ l.length ≤ 200 ∧ 0 ≤ v ∧ v < n ∧ rd d v = 0 ∧ rd t v = 0) ∧ (∀ i : Nat, i < l.length → arcFine d t (rd_T37 l (i : Int))) ∧ (∀ u : Nat, u < d.length → nodeFine l d t v (u : Int))
instance (n : Int) (l : List S37) (v : Int) (d t : List Int) : Decidable (stepsOk n l v d t) := by unfold stepsOk; exact inferInstance
def endOk (n : Int) (l : List S37) (v : Int) (x y : List Int × Int) : Prop := (x.2 = 0 ∧ y.2 = 0 ∧ stepsOk n l v x.1 y.1) ∨ (x.2 ≠ 0 ∧ x.2 = y.2 ∧ x.1 = [] ∧ y.1 = [])
instance (n : Int) (l : List S37) (v : Int) (x y : List Int × Int) : Decidable (endOk n l v x y) := by unfold endOk; exact inferInstance
def ebbtidelaw06_AdjSteps.f (k : Nat) (n : Int) (b : Bool) (l : List S37) (v : Int) : Option Bool :=
  (ebbtidelaw06_awake.f k).bind fun z => (adj_Hops.f k n b l v).bind fun x => (adj_Fastest.f k n b l v).bind fun y => if z = true ∧ endOk n l v x y then some true else none
set_option maxHeartbeats 16000000 in
set_option maxRecDepth 100000 in
theorem ebbtidelaw06_AdjSteps.calls (k : Nat) (a0_0 : Int) (a0_1 : Bool) (A0_2 : Option Addr) (c0_2 : Nat) (l0_2 : List (S37)) (a1 : Int) (r : Bool) (w : World) (hr0_2 : Kd.C k37 w A0_2 l0_2.length l0_2) (hc0_2 : l0_2.length ≤ c0_2) (h : ebbtidelaw06_AdjSteps.f k a0_0 a0_1 l0_2 a1 = some r) (hrt : r = true := by first | rfl | exact HRT.out | assumption) :
    Calls Try.prog 6 #[.agg #[.int .i64 a0_0, .bool a0_1, .slice A0_2 l0_2.length c0_2], .int .i64 a1] w fun e w' => e = .returned (.bool r) ∧ Below w.heap.size w w' := by
  subst hrt
  have hu24 := Try.underlying24
  have hu25 := Try.underlying25
  have HR0 := Aside0.mk hr0_2
  have HC0 := Aside0.mk hc0_2
  have HB := Aside0.mk (Below.refl w.heap.size w)
  clear hr0_2 hc0_2
  unfold ebbtidelaw06_AdjSteps.f at h
  replace h := Option.bind_eq_some_iff.mp h
  obtain ⟨z, h1, h⟩ := h
  replace h := Option.bind_eq_some_iff.mp h
  obtain ⟨⟨d, e1⟩, h2, h⟩ := h
  replace h := Option.bind_eq_some_iff.mp h
  obtain ⟨⟨t, e2⟩, h3, h⟩ := h
  by_cases ck : z = true ∧ endOk a0_0 l0_2 a1 (d, e1) (t, e2)
  · clear h
    obtain ⟨rfl, ck⟩ := ck
    have H1 := Aside0.mk h1
    have H2 := Aside0.mk h2
    have H3 := Aside0.mk h3
    clear h1 h2 h3
    rcases ck with ⟨x1, x2, hs⟩ | ⟨x1, x2, x3, x4⟩
    · simp only at x1 x2 hs
      subst x1 x2
      obtain ⟨⟨s1, s2, s3, s4, s5, s6, s7, s8⟩, hA, hN⟩ := hs
      have HA := Aside0.mk hA
      have HN := Aside0.mk hN
      have HS := Aside0.mk (show (d.length : Int) = a0_0 ∧ (t.length : Int) = a0_0 ∧ a0_0 ≤ 50 ∧ l0_2.length ≤ 200 ∧ 0 ≤ a1 ∧ a1 < a0_0 ∧ rd d a1 = 0 ∧ rd t a1 = 0 from ⟨s1, s2, s3, s4, s5, s6, s7, s8⟩)
      clear hA hN s1 s2 s3 s4 s5 s6 s7 s8
      go_enter Try.func6, Try.ntmps6
      go_wp2_with (first
        | ((with_reducible refine gate_dst (N := 2) rfl ?_); refine box_event ?hg (N := 2) ?hd (cs := #[.int .i64 a0_0, .bool a0_1, .slice A0_2 l0_2.length c0_2]) (t := 24) ?hr ?_; (case hd => rfl); (case hg => rfl); (case hr => first | (go_simp; done) | (go_simp; rfl)); intro gb hg w1 hbox hb; have n0_ := Aside0.mk (below_step HB.out hb); have n1_ := Aside0.mk hbox; clear HB; have HB := n0_; have BK := n1_; clear n0_ n1_ hb hbox hg; have hb0 : w1.cell? ⟨gb, 0, none⟩ = some (.int .i64 a0_0) := (blk_cell BK.out 0).trans rfl; have hb1 : w1.cell? ⟨gb, 1, none⟩ = some (.bool a0_1) := (blk_cell BK.out 1).trans rfl; have hb2 : w1.cell? ⟨gb, 2, none⟩ = some (.slice A0_2 l0_2.length c0_2) := (blk_cell BK.out 2).trans rfl)
        | (go_at_call 12; refine (ebbtidelaw06_awake.calls k true _ H1.out).mono ?_; rintro e w2 ⟨rfl, hb⟩; have n0_ := Aside0.mk (below_step HB.out hb); have n1_ := Aside0.mk (blk_below BK.out hb); clear HB BK hb hb0 hb1 hb2; have HB := n0_; have BK := n1_; clear n0_ n1_; have hb0 : w2.cell? ⟨gb, 0, none⟩ = some (.int .i64 a0_0) := (blk_cell BK.out 0).trans rfl; have hb1 : w2.cell? ⟨gb, 1, none⟩ = some (.bool a0_1) := (blk_cell BK.out 1).trans rfl; have hb2 : w2.cell? ⟨gb, 2, none⟩ = some (.slice A0_2 l0_2.length c0_2) := (blk_cell BK.out 2).trans rfl)
        | (go_at_call 10; refine (adj_Hops.calls k a0_0 a0_1 A0_2 c0_2 l0_2 a1 _ _ _ (Kd.C_below HR0.out HB.out) HC0.out H2.out).mono ?_; rintro e w3 ⟨vd, rfl, hrd, hb⟩; obtain ⟨Ad, cd, rfl, hcd, hrdC⟩ := Kd.R_reads hrd; have HRD := Aside0.mk hrdC; have HB3 := Aside0.mk (Below.refl w3.heap.size w3); have n0_ := Aside0.mk (below_step HB.out hb); have n1_ := Aside0.mk (blk_below BK.out hb); clear HB BK hb hb0 hb1 hb2 hrd hcd hrdC; have HB := n0_; have BK := n1_; clear n0_ n1_; have hb0 : w3.cell? ⟨gb, 0, none⟩ = some (.int .i64 a0_0) := (blk_cell BK.out 0).trans rfl; have hb1 : w3.cell? ⟨gb, 1, none⟩ = some (.bool a0_1) := (blk_cell BK.out 1).trans rfl; have hb2 : w3.cell? ⟨gb, 2, none⟩ = some (.slice A0_2 l0_2.length c0_2) := (blk_cell BK.out 2).trans rfl)
        | (go_at_call 17; refine (adj_Fastest.calls k a0_0 a0_1 A0_2 c0_2 l0_2 a1 _ _ _ (Kd.C_below HR0.out HB.out) HC0.out H3.out).mono ?_; rintro e w4 ⟨vt, rfl, hrt, hb⟩; obtain ⟨At, ct, rfl, hct, hrtC⟩ := Kd.R_reads hrt; have HRT2 := Aside0.mk hrtC; have n2_ := Aside0.mk (Kd.C_below HRD.out (below_step HB3.out hb)); have n0_ := Aside0.mk (below_step HB.out hb); have n1_ := Aside0.mk (blk_below BK.out hb); clear HB BK HB3 HRD hb hb0 hb1 hb2 hrt hct hrtC; have HB := n0_; have BK := n1_; have HRD := n2_; clear n0_ n1_ n2_; have hb0 : w4.cell? ⟨gb, 0, none⟩ = some (.int .i64 a0_0) := (blk_cell BK.out 0).trans rfl; have hb1 : w4.cell? ⟨gb, 1, none⟩ = some (.bool a0_1) := (blk_cell BK.out 1).trans rfl; have hb2 : w4.cell? ⟨gb, 2, none⟩ = some (.slice A0_2 l0_2.length c0_2) := (blk_cell BK.out 2).trans rfl; have hp0 := eq_true HS.out.2.2.2.2.1; have hp1 : (a1 < (d.length : Int)) = True := eq_true (by have := HS.out; omega); have hp2 : (a1 < (t.length : Int)) = True := eq_true (by have := HS.out; omega); have hcd := Kd.at_int HRD.out a1 HS.out.2.2.2.2.1 (by have := HS.out; omega); have hct := Kd.at_int HRT2.out a1 HS.out.2.2.2.2.1 (by have := HS.out; omega); rw [HS.out.2.2.2.2.2.2.1] at hcd; rw [HS.out.2.2.2.2.2.2.2] at hct; obtain ⟨add, ed, hxd⟩ := hcd; obtain ⟨adt, et, hxt⟩ := hct; subst ed et; have q1 : decide ((d.length : Int) = a0_0) = true := decide_eq_true HS.out.1; have q2 : decide ((t.length : Int) = a0_0) = true := decide_eq_true HS.out.2.1; have q3 : ((d.length : Int) == a0_0) = true := (by rw [HS.out.1]; exact beq_self_eq_true _); have q4 : ((t.length : Int) == a0_0) = true := (by rw [HS.out.2.1]; exact beq_self_eq_true _); have q7 : ((d.length : Int) != a0_0) = false := (by rw [HS.out.1]; exact bne_self_eq_false _); have q8 : ((t.length : Int) != a0_0) = false := (by rw [HS.out.2.1]; exact bne_self_eq_false _); have q5 := eq_true HS.out.1; have q6 := eq_true HS.out.2.1))
      clear hb0 hb1 hb2 hp0 hp1 hp2 hxd hxt q1 q2 q3 q4 q5 q6 q7 q8
      have HB0 := HB
      have BK4 := BK
      clear HB BK
      have HB := Aside0.mk (Below.refl w4.heap.size w4)
      have HLL : Aside0 (l0_2.length ≤ 200) := ⟨HS.out.2.2.2.1⟩
      go_loopg [10] l0_2.length (fun kq v10 w' => ∃ i : Nat, v10 = .int .i64 (i : Int) ∧ Aside0 (i + kq = l0_2.length) ∧ Aside0 (Below w4.heap.size w4 w'))
      case atStart => exact ⟨0, rfl, ⟨by omega⟩, HB⟩
      case round =>
        clear HB
        obtain ⟨i, rfl, HI, HB⟩ := hrel
        cases gk with
        | zero =>
          have hi : i = l0_2.length := by have := HI.out; omega
          subst hi
          have c1 : decide ((l0_2.length : Int) < (l0_2.length : Int)) = false := decide_eq_false (by omega)
          have c2 : decide (l0_2.length < l0_2.length) = false := decide_eq_false (by omega)
          have hb2 : wr.cell? ⟨gb, 2, none⟩ = some (.slice A0_2 l0_2.length c0_2) := (blk_cell (blk_below BK4.out HB.out) 2).trans rfl
          go_wp2
          clear c1 c2 hb2 HI
          go_loopg [12] d.length (fun kq v12 w' => ∃ u : Nat, v12 = .int .i64 (u : Int) ∧ Aside0 (u + kq = d.length) ∧ Aside0 (Below w4.heap.size w4 w'))
          case atStart => exact ⟨0, rfl, ⟨by omega⟩, HB⟩
          case round =>
            clear HB
            obtain ⟨u, rfl, HU, HB⟩ := hrel
            have hb0 : wr.cell? ⟨gb, 0, none⟩ = some (.int .i64 a0_0) := (blk_cell (blk_below BK4.out HB.out) 0).trans rfl
            cases gk with
            | zero =>
              have c1 : decide ((u : Int) < a0_0) = false := decide_eq_false (by have := HU.out; have := HS.out; omega)
              go_wp2
              go_ret
              exact ⟨rfl, below_step HB0.out HB.out⟩
            | succ g0 =>
              have hlt : u < d.length := by have := HU.out; omega
              have c1 : decide ((u : Int) < a0_0) = true := decide_eq_true (by have := HS.out; omega)
              have p0 := eq_true (show (0 : Int) ≤ (u : Int) by omega)
              have p1 := eq_true (show (u : Int) < (d.length : Int) by omega)
              have p2 : ((u : Int) < (t.length : Int)) = True := eq_true (by have := HS.out; omega)
              have HLT := Aside0.mk hlt
              have HNF := Aside0.mk (HN.out u hlt)
              clear hlt
              go_wp2
              clear c1 hb0
              obtain ⟨x1, y1, z1⟩ := Kd.at_int HRD.out (u : Int) (by omega) (by have := HLT.out; omega)
              obtain ⟨x3, y3, z3⟩ := Kd.at_int HRT2.out (u : Int) (by omega) (by have := HS.out; have := HLT.out; omega)
              obtain rfl : add = x1 := Option.some.inj y1
              obtain rfl : adt = x3 := Option.some.inj y3
              clear y1 y3
              rw [Int.toNat_natCast] at z1 z3
              replace z1 := (HB.out.cell (World.block_lt_of_cell? w4 _ z1)).trans z1
              replace z3 := (HB.out.cell (World.block_lt_of_cell? w4 _ z3)).trans z3
              obtain ⟨b1, hb1⟩ : ∃ b, decide (rd d (u : Int) < 0) = b := ⟨_, rfl⟩
              have hb2 : decide (rd t (u : Int) < 0) = b1 := by rw [← hb1]; exact decide_eq_decide.2 HNF.out.1.symm
              have hb3 : (b1 != b1) = false := bne_self_eq_false b1
              have HB1 := Aside0.mk hb1
              go_quiet (fail)
              go_wp2
              have hwu : wrap64 ((u : Int) + 1) = ((u + 1 : Nat) : Int) := wrapId (by omega) (by have := HLT.out; have := HS.out; omega)
              have HWU := Aside0.mk hwu
              clear hwu
              by_cases ce : (u : Int) = a1
              · have e1 : decide ((u : Int) = a1) = true := decide_eq_true ce
                have e2 : ((u : Int) == a1) = true := beq_iff_eq.2 ce
                have HHE : Aside0 (hopAt l0_2 d true (u : Int) l0_2.length = true ∧ timeAt l0_2 t true (u : Int) l0_2.length = true) := ⟨by unfold hopAt timeAt; simp⟩
                clear ce
                go_quiet (fail)
                go_wp2
                clear hb1 hb2 hb3 e1 e2 z1 z3 p0 p1 p2
                go_loopg [13, 14, 15] l0_2.length (fun kq v13 v14 v15 w' => ∃ i : Nat, v13 = .bool (hopAt l0_2 d true (u : Int) i) ∧ v14 = .bool (timeAt l0_2 t true (u : Int) i) ∧ v15 = .int .i64 (i : Int) ∧ Aside0 (i + kq = l0_2.length) ∧ Aside0 (Below w4.heap.size w4 w'))
                case atStart => exact ⟨0, congrArg Value.bool (hopAt_zero l0_2 d true (u : Int)).symm, congrArg Value.bool (timeAt_zero l0_2 t true (u : Int)).symm, rfl, ⟨by omega⟩, ⟨by first | exact pw_below_drewN HB.out _ | exact pw_below_drewN (pw_below_drewN HB.out _) _⟩⟩
                case round =>
                  clear HB
                  obtain ⟨i, rfl, rfl, rfl, HI, HB⟩ := hrel
                  cases gk with
                  | zero =>
                    have hi : i = l0_2.length := by have := HI.out; omega
                    subst hi
                    have c1 : decide ((l0_2.length : Int) < (l0_2.length : Int)) = false := decide_eq_false (by omega)
                    have c2 : decide (l0_2.length < l0_2.length) = false := decide_eq_false (by omega)
                    have hb2 : wr.cell? ⟨gb, 2, none⟩ = some (.slice A0_2 l0_2.length c0_2) := (blk_cell (blk_below BK4.out HB.out) 2).trans rfl
                    have hw1 : hopAt l0_2 d true (u : Int) l0_2.length = true := HHE.out.1
                    have hw2 : timeAt l0_2 t true (u : Int) l0_2.length = true := HHE.out.2
                    rw [hw1, hw2]
                    clear hw1 hw2
                    go_wp2
                    clear c1 c2 hb2 HI
                    go_roundg g0
                    case measure => omega
                    case rel => exact ⟨u + 1, congrArg (Value.int .i64) HWU.out, ⟨by have := HU.out; omega⟩, HB⟩
                  | succ g1 =>
                    have hlt : i < l0_2.length := by have := HI.out; omega
                    have c1 : decide ((i : Int) < (l0_2.length : Int)) = true := decide_eq_true (by omega)
                    have c2 : decide (i < l0_2.length) = true := decide_eq_true hlt
                    have p3 := eq_true (show (0 : Int) ≤ (i : Int) by omega)
                    have p4 := eq_true (show (i : Int) < (l0_2.length : Int) by omega)
                    have hwi : wrap64 ((i : Int) + 1) = ((i + 1 : Nat) : Int) := wrapId (by omega) (by have := HLL.out; omega)
                    have HWI := Aside0.mk hwi
                    clear hwi
                    obtain ⟨ad37, e37, hy0, hy1, hy2, hy3⟩ := at_T37 HR0.out (i : Int) (by omega) (by omega)
                    subst e37
                    have hbw : Below w.heap.size w wr := below_step HB0.out HB.out
                    replace hy0 := (hbw.cell (World.block_lt_of_cell? w _ hy0)).trans hy0
                    replace hy1 := (hbw.cell (World.block_lt_of_cell? w _ hy1)).trans hy1
                    replace hy2 := (hbw.cell (World.block_lt_of_cell? w _ hy2)).trans hy2
                    replace hy3 := (hbw.cell (World.block_lt_of_cell? w _ hy3)).trans hy3
                    rw [Int.toNat_natCast] at hy0 hy1 hy2 hy3
                    have hb2 : wr.cell? ⟨gb, 2, none⟩ = some (.slice (some ad37) l0_2.length c0_2) := (blk_cell (blk_below BK4.out HB.out) 2).trans rfl
                    obtain ⟨⟨f0a, f0b, f1a, f1b⟩, hfine⟩ := HA.out i (by omega)
                    obtain ⟨A, hAr⟩ : ∃ A, rd_T37 l0_2 (i : Int) = A := ⟨_, rfl⟩
                    rw [hAr] at hy0 hy1 hy2 hy3 f0a f0b f1a f1b hfine
                    have HAR := Aside0.mk hAr
                    have HF := Aside0.mk (show 0 ≤ A.f0 ∧ A.f0 < (d.length : Int) ∧ 0 ≤ A.f1 ∧ A.f1 < (d.length : Int) from ⟨f0a, f0b, f1a, f1b⟩)
                    have HFI := Aside0.mk hfine
                    clear hAr hfine hbw f0a f0b f1a f1b
                    clear hlt
                    have hx : hopAt l0_2 d true (u : Int) i = true := by simp [hopAt]
                    have hy : timeAt l0_2 t true (u : Int) i = true := by simp [timeAt]
                    have HV : Aside0 (hopAt l0_2 d true (u : Int) (i + 1) = true) := ⟨by simp [hopAt]⟩
                    have HT : Aside0 (timeAt l0_2 t true (u : Int) (i + 1) = true) := ⟨by simp [timeAt]⟩
                    rw [hx, hy]
                    clear hx hy
                    go_wp2_with (first
                      | ((with_reducible refine gate_dst (N := 16) rfl ?_); refine box_event ?hg (N := 16) ?hd (cs := #[.int .i64 0, .int .i64 0, .int .i64 0, .int .i64 0]) (t := 37) ?hr ?_; (case hd => rfl); (case hg => rfl); (case hr => first | (go_simp; done) | (go_simp; rfl)); intro ga hg w12 hbox hb; have n0_ := Aside0.mk (below_step HB.out hb); have n1_ := Aside0.mk hbox; have GA : Aside0 (w4.heap.size ≤ ga) := Aside0.mk (by rw [hg]; exact below_size HB.out); clear HB hb hbox hg; have HB := n0_; have BA := n1_; clear n0_ n1_; have hcx0 : w12.cell? ⟨ga, 0, none⟩ = some (.int .i64 0) := (blk_cell BA.out 0).trans rfl; have hcx1 : w12.cell? ⟨ga, 1, none⟩ = some (.int .i64 0) := (blk_cell BA.out 1).trans rfl; have hcx2 : w12.cell? ⟨ga, 2, none⟩ = some (.int .i64 0) := (blk_cell BA.out 2).trans rfl; have hcx3 : w12.cell? ⟨ga, 3, none⟩ = some (.int .i64 0) := (blk_cell BA.out 3).trans rfl; have hfx0 := blk_frozen BA.out 0; have hfx1 := blk_frozen BA.out 1; have hfx2 := blk_frozen BA.out 2; have hfx3 := blk_frozen BA.out 3)
                      | ((with_reducible refine gate_store (t := 37) (p := 16) rfl ?_); refine store_event (t := 37) (p := 16) (v := ?va2) (w1 := ?wa2) ?hg ?ho ?hn ?hr ?_; (case ho => rfl); (case hg => rfl); (case hn => rfl); (case hr => first | (go_simp; done) | (go_simp; rfl)); intro w13 hw; have n0_ : Aside0 (Below w4.heap.size w4 w13) := Aside0.mk (by rw [hw]; exact below_set (below_set (below_set (below_set HB.out GA.out) GA.out) GA.out) GA.out); have n1_ : Aside0 (w13.heap[ga]? = some (.cells #[.int .i64 A.f0, .int .i64 A.f1, .int .i64 A.f2, .int .i64 A.f3] 37 (0, 0))) := Aside0.mk (by rw [hw]; exact blk_put (cs' := #[.int .i64 A.f0, .int .i64 A.f1, .int .i64 A.f2, .int .i64 A.f3]) (blk_put (cs' := #[.int .i64 A.f0, .int .i64 A.f1, .int .i64 A.f2, .int .i64 0]) (blk_put (cs' := #[.int .i64 A.f0, .int .i64 A.f1, .int .i64 0, .int .i64 0]) (blk_put (cs' := #[.int .i64 A.f0, .int .i64 0, .int .i64 0, .int .i64 0]) BA.out 0 (.int .i64 A.f0) rfl) 1 (.int .i64 A.f1) rfl) 2 (.int .i64 A.f2) rfl) 3 (.int .i64 A.f3) rfl); clear HB BA hw hcx0 hcx1 hcx2 hcx3 hfx0 hfx1 hfx2 hfx3; have HB := n0_; have BA := n1_; clear n0_ n1_))
                    have hk0 : w13.cell? ⟨ga, 0, none⟩ = some (.int .i64 A.f0) := (blk_cell BA.out 0).trans rfl
                    have hk1 : w13.cell? ⟨ga, 1, none⟩ = some (.int .i64 A.f1) := (blk_cell BA.out 1).trans rfl
                    have hk3 : w13.cell? ⟨ga, 3, none⟩ = some (.int .i64 A.f3) := (blk_cell BA.out 3).trans rfl
                    have r0 := eq_true HF.out.1
                    have r1 := eq_true HF.out.2.1
                    have r2 := eq_true HF.out.2.2.1
                    have r3 := eq_true HF.out.2.2.2
                    have r4 : (A.f0 < (t.length : Int)) = True := eq_true (by have := HS.out; have := HF.out; omega)
                    have r5 : (A.f1 < (t.length : Int)) = True := eq_true (by have := HS.out; have := HF.out; omega)
                    obtain ⟨x1, y1, z1⟩ := Kd.at_int HRD.out A.f0 HF.out.1 HF.out.2.1
                    obtain ⟨x2, y2, z2⟩ := Kd.at_int HRD.out A.f1 HF.out.2.2.1 HF.out.2.2.2
                    obtain ⟨x3, y3, z3⟩ := Kd.at_int HRT2.out A.f0 HF.out.1 (by have := HS.out; have := HF.out; omega)
                    obtain ⟨x4, y4, z4⟩ := Kd.at_int HRT2.out A.f1 HF.out.2.2.1 (by have := HS.out; have := HF.out; omega)
                    obtain rfl : add = x1 := Option.some.inj y1
                    obtain rfl : add = x2 := Option.some.inj y2
                    obtain rfl : adt = x3 := Option.some.inj y3
                    obtain rfl : adt = x4 := Option.some.inj y4
                    clear y1 y2 y3 y4
                    replace z1 := (HB.out.cell (World.block_lt_of_cell? w4 _ z1)).trans z1
                    replace z2 := (HB.out.cell (World.block_lt_of_cell? w4 _ z2)).trans z2
                    replace z3 := (HB.out.cell (World.block_lt_of_cell? w4 _ z3)).trans z3
                    replace z4 := (HB.out.cell (World.block_lt_of_cell? w4 _ z4)).trans z4
                    have p0 := eq_true (show (0 : Int) ≤ (u : Int) by omega)
                    have p1 := eq_true (show (u : Int) < (d.length : Int) by have := HLT.out; omega)
                    have p2 : ((u : Int) < (t.length : Int)) = True := eq_true (by have := HS.out; have := HLT.out; omega)
                    obtain ⟨x5, y5, z5⟩ := Kd.at_int HRD.out (u : Int) (by omega) (by have := HLT.out; omega)
                    obtain ⟨x6, y6, z6⟩ := Kd.at_int HRT2.out (u : Int) (by omega) (by have := HS.out; have := HLT.out; omega)
                    obtain rfl : add = x5 := Option.some.inj y5
                    obtain rfl : adt = x6 := Option.some.inj y6
                    clear y5 y6
                    rw [Int.toNat_natCast] at z5 z6
                    replace z5 := (HB.out.cell (World.block_lt_of_cell? w4 _ z5)).trans z5
                    replace z6 := (HB.out.cell (World.block_lt_of_cell? w4 _ z6)).trans z6
                    clear c1 c2 p3 p4 hy0 hy1 hy2 hy3 hb2
                    as_aux_lemma =>
                      go_quiet (fail)
                      go_wp2
                      go_quiet (fail)
                      go_wp2
                      go_roundg g1
                      case measure => omega
                      case rel => exact ⟨i + 1, congrArg Value.bool HV.out.symm, congrArg Value.bool HT.out.symm, congrArg (Value.int .i64) HWI.out, ⟨by have := HI.out; omega⟩, ⟨by first | exact pw_below_drewN HB.out _ | exact pw_below_drewN (pw_below_drewN HB.out _) _⟩⟩
              · have e1 : decide ((u : Int) = a1) = false := decide_eq_false ce
                have e2 : ((u : Int) == a1) = false := beq_eq_false_iff_ne.2 ce
                obtain ⟨h0, hh0⟩ : ∃ h0, h0 = b1 := ⟨b1, rfl⟩
                have HHE : Aside0 (hopAt l0_2 d h0 (u : Int) l0_2.length = true ∧ timeAt l0_2 t h0 (u : Int) l0_2.length = true) := ⟨by have h_ := HNF.out.2; rw [e1, hb1, ← hh0] at h_; exact h_⟩
                clear ce
                go_quiet (fail)
                go_wp2
                subst hh0
                clear hb1 hb2 hb3 e1 e2 z1 z3 p0 p1 p2
                go_loopg [13, 14, 15] l0_2.length (fun kq v13 v14 v15 w' => ∃ i : Nat, v13 = .bool (hopAt l0_2 d h0 (u : Int) i) ∧ v14 = .bool (timeAt l0_2 t h0 (u : Int) i) ∧ v15 = .int .i64 (i : Int) ∧ Aside0 (i + kq = l0_2.length) ∧ Aside0 (Below w4.heap.size w4 w'))
                case atStart => exact ⟨0, congrArg Value.bool (hopAt_zero l0_2 d h0 (u : Int)).symm, congrArg Value.bool (timeAt_zero l0_2 t h0 (u : Int)).symm, rfl, ⟨by omega⟩, ⟨by first | exact pw_below_drewN HB.out _ | exact pw_below_drewN (pw_below_drewN HB.out _) _⟩⟩
                case round =>
                  clear HB
                  obtain ⟨i, rfl, rfl, rfl, HI, HB⟩ := hrel
                  cases gk with
                  | zero =>
                    have hi : i = l0_2.length := by have := HI.out; omega
                    subst hi
                    have c1 : decide ((l0_2.length : Int) < (l0_2.length : Int)) = false := decide_eq_false (by omega)
                    have c2 : decide (l0_2.length < l0_2.length) = false := decide_eq_false (by omega)
                    have hb2 : wr.cell? ⟨gb, 2, none⟩ = some (.slice A0_2 l0_2.length c0_2) := (blk_cell (blk_below BK4.out HB.out) 2).trans rfl
                    have hw1 : hopAt l0_2 d h0 (u : Int) l0_2.length = true := HHE.out.1
                    have hw2 : timeAt l0_2 t h0 (u : Int) l0_2.length = true := HHE.out.2
                    rw [hw1, hw2]
                    clear hw1 hw2
                    go_wp2
                    clear c1 c2 hb2 HI
                    go_roundg g0
                    case measure => omega
                    case rel => exact ⟨u + 1, congrArg (Value.int .i64) HWU.out, ⟨by have := HU.out; omega⟩, HB⟩
                  | succ g1 =>
                    have hlt : i < l0_2.length := by have := HI.out; omega
                    have c1 : decide ((i : Int) < (l0_2.length : Int)) = true := decide_eq_true (by omega)
                    have c2 : decide (i < l0_2.length) = true := decide_eq_true hlt
                    have p3 := eq_true (show (0 : Int) ≤ (i : Int) by omega)
                    have p4 := eq_true (show (i : Int) < (l0_2.length : Int) by omega)
                    have hwi : wrap64 ((i : Int) + 1) = ((i + 1 : Nat) : Int) := wrapId (by omega) (by have := HLL.out; omega)
                    have HWI := Aside0.mk hwi
                    clear hwi
                    obtain ⟨ad37, e37, hy0, hy1, hy2, hy3⟩ := at_T37 HR0.out (i : Int) (by omega) (by omega)
                    subst e37
                    have hbw : Below w.heap.size w wr := below_step HB0.out HB.out
                    replace hy0 := (hbw.cell (World.block_lt_of_cell? w _ hy0)).trans hy0
                    replace hy1 := (hbw.cell (World.block_lt_of_cell? w _ hy1)).trans hy1
                    replace hy2 := (hbw.cell (World.block_lt_of_cell? w _ hy2)).trans hy2
                    replace hy3 := (hbw.cell (World.block_lt_of_cell? w _ hy3)).trans hy3
                    rw [Int.toNat_natCast] at hy0 hy1 hy2 hy3
                    have hb2 : wr.cell? ⟨gb, 2, none⟩ = some (.slice (some ad37) l0_2.length c0_2) := (blk_cell (blk_below BK4.out HB.out) 2).trans rfl
                    obtain ⟨⟨f0a, f0b, f1a, f1b⟩, hfine⟩ := HA.out i (by omega)
                    obtain ⟨A, hAr⟩ : ∃ A, rd_T37 l0_2 (i : Int) = A := ⟨_, rfl⟩
                    rw [hAr] at hy0 hy1 hy2 hy3 f0a f0b f1a f1b hfine
                    have HAR := Aside0.mk hAr
                    have HF := Aside0.mk (show 0 ≤ A.f0 ∧ A.f0 < (d.length : Int) ∧ 0 ≤ A.f1 ∧ A.f1 < (d.length : Int) from ⟨f0a, f0b, f1a, f1b⟩)
                    have HFI := Aside0.mk hfine
                    clear hAr hfine hbw f0a f0b f1a f1b
                    clear hlt
                    obtain ⟨x, hx⟩ : ∃ x, hopAt l0_2 d h0 (u : Int) i = x := ⟨_, rfl⟩
                    obtain ⟨y, hy⟩ : ∃ y, timeAt l0_2 t h0 (u : Int) i = y := ⟨_, rfl⟩
                    have HX := Aside0.mk hx
                    have HY := Aside0.mk hy
                    rw [hx, hy]
                    clear hx hy
                    go_wp2_with (first
                      | ((with_reducible refine gate_dst (N := 16) rfl ?_); refine box_event ?hg (N := 16) ?hd (cs := #[.int .i64 0, .int .i64 0, .int .i64 0, .int .i64 0]) (t := 37) ?hr ?_; (case hd => rfl); (case hg => rfl); (case hr => first | (go_simp; done) | (go_simp; rfl)); intro ga hg w12 hbox hb; have n0_ := Aside0.mk (below_step HB.out hb); have n1_ := Aside0.mk hbox; have GA : Aside0 (w4.heap.size ≤ ga) := Aside0.mk (by rw [hg]; exact below_size HB.out); clear HB hb hbox hg; have HB := n0_; have BA := n1_; clear n0_ n1_; have hcx0 : w12.cell? ⟨ga, 0, none⟩ = some (.int .i64 0) := (blk_cell BA.out 0).trans rfl; have hcx1 : w12.cell? ⟨ga, 1, none⟩ = some (.int .i64 0) := (blk_cell BA.out 1).trans rfl; have hcx2 : w12.cell? ⟨ga, 2, none⟩ = some (.int .i64 0) := (blk_cell BA.out 2).trans rfl; have hcx3 : w12.cell? ⟨ga, 3, none⟩ = some (.int .i64 0) := (blk_cell BA.out 3).trans rfl; have hfx0 := blk_frozen BA.out 0; have hfx1 := blk_frozen BA.out 1; have hfx2 := blk_frozen BA.out 2; have hfx3 := blk_frozen BA.out 3)
                      | ((with_reducible refine gate_store (t := 37) (p := 16) rfl ?_); refine store_event (t := 37) (p := 16) (v := ?va3) (w1 := ?wa3) ?hg ?ho ?hn ?hr ?_; (case ho => rfl); (case hg => rfl); (case hn => rfl); (case hr => first | (go_simp; done) | (go_simp; rfl)); intro w13 hw; have n0_ : Aside0 (Below w4.heap.size w4 w13) := Aside0.mk (by rw [hw]; exact below_set (below_set (below_set (below_set HB.out GA.out) GA.out) GA.out) GA.out); have n1_ : Aside0 (w13.heap[ga]? = some (.cells #[.int .i64 A.f0, .int .i64 A.f1, .int .i64 A.f2, .int .i64 A.f3] 37 (0, 0))) := Aside0.mk (by rw [hw]; exact blk_put (cs' := #[.int .i64 A.f0, .int .i64 A.f1, .int .i64 A.f2, .int .i64 A.f3]) (blk_put (cs' := #[.int .i64 A.f0, .int .i64 A.f1, .int .i64 A.f2, .int .i64 0]) (blk_put (cs' := #[.int .i64 A.f0, .int .i64 A.f1, .int .i64 0, .int .i64 0]) (blk_put (cs' := #[.int .i64 A.f0, .int .i64 0, .int .i64 0, .int .i64 0]) BA.out 0 (.int .i64 A.f0) rfl) 1 (.int .i64 A.f1) rfl) 2 (.int .i64 A.f2) rfl) 3 (.int .i64 A.f3) rfl); clear HB BA hw hcx0 hcx1 hcx2 hcx3 hfx0 hfx1 hfx2 hfx3; have HB := n0_; have BA := n1_; clear n0_ n1_))
                    have hk0 : w13.cell? ⟨ga, 0, none⟩ = some (.int .i64 A.f0) := (blk_cell BA.out 0).trans rfl
                    have hk1 : w13.cell? ⟨ga, 1, none⟩ = some (.int .i64 A.f1) := (blk_cell BA.out 1).trans rfl
                    have hk3 : w13.cell? ⟨ga, 3, none⟩ = some (.int .i64 A.f3) := (blk_cell BA.out 3).trans rfl
                    have r0 := eq_true HF.out.1
                    have r1 := eq_true HF.out.2.1
                    have r2 := eq_true HF.out.2.2.1
                    have r3 := eq_true HF.out.2.2.2
                    have r4 : (A.f0 < (t.length : Int)) = True := eq_true (by have := HS.out; have := HF.out; omega)
                    have r5 : (A.f1 < (t.length : Int)) = True := eq_true (by have := HS.out; have := HF.out; omega)
                    obtain ⟨x1, y1, z1⟩ := Kd.at_int HRD.out A.f0 HF.out.1 HF.out.2.1
                    obtain ⟨x2, y2, z2⟩ := Kd.at_int HRD.out A.f1 HF.out.2.2.1 HF.out.2.2.2
                    obtain ⟨x3, y3, z3⟩ := Kd.at_int HRT2.out A.f0 HF.out.1 (by have := HS.out; have := HF.out; omega)
                    obtain ⟨x4, y4, z4⟩ := Kd.at_int HRT2.out A.f1 HF.out.2.2.1 (by have := HS.out; have := HF.out; omega)
                    obtain rfl : add = x1 := Option.some.inj y1
                    obtain rfl : add = x2 := Option.some.inj y2
                    obtain rfl : adt = x3 := Option.some.inj y3
                    obtain rfl : adt = x4 := Option.some.inj y4
                    clear y1 y2 y3 y4
                    replace z1 := (HB.out.cell (World.block_lt_of_cell? w4 _ z1)).trans z1
                    replace z2 := (HB.out.cell (World.block_lt_of_cell? w4 _ z2)).trans z2
                    replace z3 := (HB.out.cell (World.block_lt_of_cell? w4 _ z3)).trans z3
                    replace z4 := (HB.out.cell (World.block_lt_of_cell? w4 _ z4)).trans z4
                    have p0 := eq_true (show (0 : Int) ≤ (u : Int) by omega)
                    have p1 := eq_true (show (u : Int) < (d.length : Int) by have := HLT.out; omega)
                    have p2 : ((u : Int) < (t.length : Int)) = True := eq_true (by have := HS.out; have := HLT.out; omega)
                    obtain ⟨x5, y5, z5⟩ := Kd.at_int HRD.out (u : Int) (by omega) (by have := HLT.out; omega)
                    obtain ⟨x6, y6, z6⟩ := Kd.at_int HRT2.out (u : Int) (by omega) (by have := HS.out; have := HLT.out; omega)
                    obtain rfl : add = x5 := Option.some.inj y5
                    obtain rfl : adt = x6 := Option.some.inj y6
                    clear y5 y6
                    rw [Int.toNat_natCast] at z5 z6
                    replace z5 := (HB.out.cell (World.block_lt_of_cell? w4 _ z5)).trans z5
                    replace z6 := (HB.out.cell (World.block_lt_of_cell? w4 _ z6)).trans z6
                    clear c1 c2 p3 p4 hy0 hy1 hy2 hy3 hb2
                    cases x
                    · by_cases caa : A.f1 = (u : Int)
                      · have a1 : decide (A.f1 = (u : Int)) = true := decide_eq_true caa
                        have a2 : (A.f1 == (u : Int)) = true := beq_iff_eq.2 caa
                        clear caa
                        by_cases cba : rd d A.f0 ≥ 0
                        · have a3 : decide (rd d A.f0 ≥ 0) = true := decide_eq_true cba
                          have a4 : decide (0 ≤ rd d A.f0) = true := decide_eq_true cba
                          obtain ⟨sa, a5⟩ : ∃ b, decide (rd d (u : Int) = wrap64 (rd d A.f0 + 1)) = b := ⟨_, rfl⟩
                          have a6 : (rd d (u : Int) == wrap64 (rd d A.f0 + 1)) = sa := by rw [← a5, Bool.beq_eq_decide_eq]
                          have HV : Aside0 (hopAt l0_2 d h0 (u : Int) (i + 1) = sa) := ⟨by rw [hopAt_succ, HX.out, HAR.out]; unfold hopBy; rw [a1, a3, a5]; rfl⟩
                          clear cba
                          have b1 := a1
                          cases y
                          · skip
                            by_cases cbb : rd t A.f0 ≥ 0
                            · have b3 : decide (rd t A.f0 ≥ 0) = true := decide_eq_true cbb
                              have b4 : decide (0 ≤ rd t A.f0) = true := decide_eq_true cbb
                              obtain ⟨sb, b5⟩ : ∃ b, decide (rd t (u : Int) = wrap64 (rd t A.f0 + A.f3)) = b := ⟨_, rfl⟩
                              have b6 : (rd t (u : Int) == wrap64 (rd t A.f0 + A.f3)) = sb := by rw [← b5, Bool.beq_eq_decide_eq]
                              have HT : Aside0 (timeAt l0_2 t h0 (u : Int) (i + 1) = sb) := ⟨by rw [timeAt_succ, HY.out, HAR.out]; unfold timeBy; rw [b1, b3, b5]; rfl⟩
                              clear cbb
                              as_aux_lemma =>
                                go_quiet (fail)
                                go_wp2
                                go_quiet (fail)
                                go_wp2
                                go_roundg g1
                                case measure => omega
                                case rel => exact ⟨i + 1, congrArg Value.bool HV.out.symm, congrArg Value.bool HT.out.symm, congrArg (Value.int .i64) HWI.out, ⟨by have := HI.out; omega⟩, ⟨by first | exact pw_below_drewN HB.out _ | exact pw_below_drewN (pw_below_drewN HB.out _) _⟩⟩
                            · have b3 : decide (rd t A.f0 ≥ 0) = false := decide_eq_false cbb
                              have b4 : decide (0 ≤ rd t A.f0) = false := decide_eq_false cbb
                              have HT : Aside0 (timeAt l0_2 t h0 (u : Int) (i + 1) = false) := ⟨by rw [timeAt_succ, HY.out, HAR.out]; unfold timeBy; rw [b1, b3]; rfl⟩
                              clear cbb
                              as_aux_lemma =>
                                go_quiet (fail)
                                go_wp2
                                go_quiet (fail)
                                go_wp2
                                go_roundg g1
                                case measure => omega
                                case rel => exact ⟨i + 1, congrArg Value.bool HV.out.symm, congrArg Value.bool HT.out.symm, congrArg (Value.int .i64) HWI.out, ⟨by have := HI.out; omega⟩, ⟨by first | exact pw_below_drewN HB.out _ | exact pw_below_drewN (pw_below_drewN HB.out _) _⟩⟩
                          · have HT : Aside0 (timeAt l0_2 t h0 (u : Int) (i + 1) = true) := ⟨by rw [timeAt_succ, HY.out]; rfl⟩
                            as_aux_lemma =>
                              go_quiet (fail)
                              go_wp2
                              go_quiet (fail)
                              go_wp2
                              go_roundg g1
                              case measure => omega
                              case rel => exact ⟨i + 1, congrArg Value.bool HV.out.symm, congrArg Value.bool HT.out.symm, congrArg (Value.int .i64) HWI.out, ⟨by have := HI.out; omega⟩, ⟨by first | exact pw_below_drewN HB.out _ | exact pw_below_drewN (pw_below_drewN HB.out _) _⟩⟩
                        · have a3 : decide (rd d A.f0 ≥ 0) = false := decide_eq_false cba
                          have a4 : decide (0 ≤ rd d A.f0) = false := decide_eq_false cba
                          have HV : Aside0 (hopAt l0_2 d h0 (u : Int) (i + 1) = false) := ⟨by rw [hopAt_succ, HX.out, HAR.out]; unfold hopBy; rw [a1, a3]; rfl⟩
                          clear cba
                          have b1 := a1
                          cases y
                          · skip
                            by_cases cbb : rd t A.f0 ≥ 0
                            · have b3 : decide (rd t A.f0 ≥ 0) = true := decide_eq_true cbb
                              have b4 : decide (0 ≤ rd t A.f0) = true := decide_eq_true cbb
                              obtain ⟨sb, b5⟩ : ∃ b, decide (rd t (u : Int) = wrap64 (rd t A.f0 + A.f3)) = b := ⟨_, rfl⟩
                              have b6 : (rd t (u : Int) == wrap64 (rd t A.f0 + A.f3)) = sb := by rw [← b5, Bool.beq_eq_decide_eq]
                              have HT : Aside0 (timeAt l0_2 t h0 (u : Int) (i + 1) = sb) := ⟨by rw [timeAt_succ, HY.out, HAR.out]; unfold timeBy; rw [b1, b3, b5]; rfl⟩
                              clear cbb
                              as_aux_lemma =>
                                go_quiet (fail)
                                go_wp2
                                go_quiet (fail)
                                go_wp2
                                go_roundg g1
                                case measure => omega
                                case rel => exact ⟨i + 1, congrArg Value.bool HV.out.symm, congrArg Value.bool HT.out.symm, congrArg (Value.int .i64) HWI.out, ⟨by have := HI.out; omega⟩, ⟨by first | exact pw_below_drewN HB.out _ | exact pw_below_drewN (pw_below_drewN HB.out _) _⟩⟩
                            · have b3 : decide (rd t A.f0 ≥ 0) = false := decide_eq_false cbb
                              have b4 : decide (0 ≤ rd t A.f0) = false := decide_eq_false cbb
                              have HT : Aside0 (timeAt l0_2 t h0 (u : Int) (i + 1) = false) := ⟨by rw [timeAt_succ, HY.out, HAR.out]; unfold timeBy; rw [b1, b3]; rfl⟩
                              clear cbb
                              as_aux_lemma =>
                                go_quiet (fail)
                                go_wp2
                                go_quiet (fail)
                                go_wp2
                                go_roundg g1
                                case measure => omega
                                case rel => exact ⟨i + 1, congrArg Value.bool HV.out.symm, congrArg Value.bool HT.out.symm, congrArg (Value.int .i64) HWI.out, ⟨by have := HI.out; omega⟩, ⟨by first | exact pw_below_drewN HB.out _ | exact pw_below_drewN (pw_below_drewN HB.out _) _⟩⟩
                          · have HT : Aside0 (timeAt l0_2 t h0 (u : Int) (i + 1) = true) := ⟨by rw [timeAt_succ, HY.out]; rfl⟩
                            as_aux_lemma =>
                              go_quiet (fail)
                              go_wp2
                              go_quiet (fail)
                              go_wp2
                              go_roundg g1
                              case measure => omega
                              case rel => exact ⟨i + 1, congrArg Value.bool HV.out.symm, congrArg Value.bool HT.out.symm, congrArg (Value.int .i64) HWI.out, ⟨by have := HI.out; omega⟩, ⟨by first | exact pw_below_drewN HB.out _ | exact pw_below_drewN (pw_below_drewN HB.out _) _⟩⟩
                      · have a1 : decide (A.f1 = (u : Int)) = false := decide_eq_false caa
                        have a2 : (A.f1 == (u : Int)) = false := beq_eq_false_iff_ne.2 caa
                        clear caa
                        have HV : Aside0 (hopAt l0_2 d h0 (u : Int) (i + 1) = false) := ⟨by rw [hopAt_succ, HX.out, HAR.out]; unfold hopBy; rw [a1]; rfl⟩
                        have b1 := a1
                        cases y
                        · skip
                          have HT : Aside0 (timeAt l0_2 t h0 (u : Int) (i + 1) = false) := ⟨by rw [timeAt_succ, HY.out, HAR.out]; unfold timeBy; rw [b1]; rfl⟩
                          as_aux_lemma =>
                            go_quiet (fail)
                            go_wp2
                            go_quiet (fail)
                            go_wp2
                            go_roundg g1
                            case measure => omega
                            case rel => exact ⟨i + 1, congrArg Value.bool HV.out.symm, congrArg Value.bool HT.out.symm, congrArg (Value.int .i64) HWI.out, ⟨by have := HI.out; omega⟩, ⟨by first | exact pw_below_drewN HB.out _ | exact pw_below_drewN (pw_below_drewN HB.out _) _⟩⟩
                        · have HT : Aside0 (timeAt l0_2 t h0 (u : Int) (i + 1) = true) := ⟨by rw [timeAt_succ, HY.out]; rfl⟩
                          as_aux_lemma =>
                            go_quiet (fail)
                            go_wp2
                            go_quiet (fail)
                            go_wp2
                            go_roundg g1
                            case measure => omega
                            case rel => exact ⟨i + 1, congrArg Value.bool HV.out.symm, congrArg Value.bool HT.out.symm, congrArg (Value.int .i64) HWI.out, ⟨by have := HI.out; omega⟩, ⟨by first | exact pw_below_drewN HB.out _ | exact pw_below_drewN (pw_below_drewN HB.out _) _⟩⟩
                    · have HV : Aside0 (hopAt l0_2 d h0 (u : Int) (i + 1) = true) := ⟨by rw [hopAt_succ, HX.out]; rfl⟩
                      cases y
                      · by_cases cab : A.f1 = (u : Int)
                        · have b1 : decide (A.f1 = (u : Int)) = true := decide_eq_true cab
                          have b2 : (A.f1 == (u : Int)) = true := beq_iff_eq.2 cab
                          clear cab
                          by_cases cbb : rd t A.f0 ≥ 0
                          · have b3 : decide (rd t A.f0 ≥ 0) = true := decide_eq_true cbb
                            have b4 : decide (0 ≤ rd t A.f0) = true := decide_eq_true cbb
                            obtain ⟨sb, b5⟩ : ∃ b, decide (rd t (u : Int) = wrap64 (rd t A.f0 + A.f3)) = b := ⟨_, rfl⟩
                            have b6 : (rd t (u : Int) == wrap64 (rd t A.f0 + A.f3)) = sb := by rw [← b5, Bool.beq_eq_decide_eq]
                            have HT : Aside0 (timeAt l0_2 t h0 (u : Int) (i + 1) = sb) := ⟨by rw [timeAt_succ, HY.out, HAR.out]; unfold timeBy; rw [b1, b3, b5]; rfl⟩
                            clear cbb
                            as_aux_lemma =>
                              go_quiet (fail)
                              go_wp2
                              go_quiet (fail)
                              go_wp2
                              go_roundg g1
                              case measure => omega
                              case rel => exact ⟨i + 1, congrArg Value.bool HV.out.symm, congrArg Value.bool HT.out.symm, congrArg (Value.int .i64) HWI.out, ⟨by have := HI.out; omega⟩, ⟨by first | exact pw_below_drewN HB.out _ | exact pw_below_drewN (pw_below_drewN HB.out _) _⟩⟩
                          · have b3 : decide (rd t A.f0 ≥ 0) = false := decide_eq_false cbb
                            have b4 : decide (0 ≤ rd t A.f0) = false := decide_eq_false cbb
                            have HT : Aside0 (timeAt l0_2 t h0 (u : Int) (i + 1) = false) := ⟨by rw [timeAt_succ, HY.out, HAR.out]; unfold timeBy; rw [b1, b3]; rfl⟩
                            clear cbb
                            as_aux_lemma =>
                              go_quiet (fail)
                              go_wp2
                              go_quiet (fail)
                              go_wp2
                              go_roundg g1
                              case measure => omega
                              case rel => exact ⟨i + 1, congrArg Value.bool HV.out.symm, congrArg Value.bool HT.out.symm, congrArg (Value.int .i64) HWI.out, ⟨by have := HI.out; omega⟩, ⟨by first | exact pw_below_drewN HB.out _ | exact pw_below_drewN (pw_below_drewN HB.out _) _⟩⟩
                        · have b1 : decide (A.f1 = (u : Int)) = false := decide_eq_false cab
                          have b2 : (A.f1 == (u : Int)) = false := beq_eq_false_iff_ne.2 cab
                          clear cab
                          have HT : Aside0 (timeAt l0_2 t h0 (u : Int) (i + 1) = false) := ⟨by rw [timeAt_succ, HY.out, HAR.out]; unfold timeBy; rw [b1]; rfl⟩
                          as_aux_lemma =>
                            go_quiet (fail)
                            go_wp2
                            go_quiet (fail)
                            go_wp2
                            go_roundg g1
                            case measure => omega
                            case rel => exact ⟨i + 1, congrArg Value.bool HV.out.symm, congrArg Value.bool HT.out.symm, congrArg (Value.int .i64) HWI.out, ⟨by have := HI.out; omega⟩, ⟨by first | exact pw_below_drewN HB.out _ | exact pw_below_drewN (pw_below_drewN HB.out _) _⟩⟩
                      · have HT : Aside0 (timeAt l0_2 t h0 (u : Int) (i + 1) = true) := ⟨by rw [timeAt_succ, HY.out]; rfl⟩
                        as_aux_lemma =>
                          go_quiet (fail)
                          go_wp2
                          go_quiet (fail)
                          go_wp2
                          go_roundg g1
                          case measure => omega
                          case rel => exact ⟨i + 1, congrArg Value.bool HV.out.symm, congrArg Value.bool HT.out.symm, congrArg (Value.int .i64) HWI.out, ⟨by have := HI.out; omega⟩, ⟨by first | exact pw_below_drewN HB.out _ | exact pw_below_drewN (pw_below_drewN HB.out _) _⟩⟩
        | succ gk =>
          have hlt : i < l0_2.length := by have := HI.out; omega
          have c1 : decide ((i : Int) < (l0_2.length : Int)) = true := decide_eq_true (by omega)
          have c2 : decide (i < l0_2.length) = true := decide_eq_true hlt
          have p0 := eq_true (show (0 : Int) ≤ (i : Int) by omega)
          have p1 := eq_true (show (i : Int) < (l0_2.length : Int) by omega)
          have hwi : wrap64 ((i : Int) + 1) = ((i + 1 : Nat) : Int) := wrapId (by omega) (by have := HLL.out; omega)
          have HWI := Aside0.mk hwi
          clear hwi
          obtain ⟨ad37, e37, hy0, hy1, hy2, hy3⟩ := at_T37 HR0.out (i : Int) (by omega) (by omega)
          subst e37
          have hbw : Below w.heap.size w wr := below_step HB0.out HB.out
          replace hy0 := (hbw.cell (World.block_lt_of_cell? w _ hy0)).trans hy0
          replace hy1 := (hbw.cell (World.block_lt_of_cell? w _ hy1)).trans hy1
          replace hy2 := (hbw.cell (World.block_lt_of_cell? w _ hy2)).trans hy2
          replace hy3 := (hbw.cell (World.block_lt_of_cell? w _ hy3)).trans hy3
          rw [Int.toNat_natCast] at hy0 hy1 hy2 hy3
          have hb2 : wr.cell? ⟨gb, 2, none⟩ = some (.slice (some ad37) l0_2.length c0_2) := (blk_cell (blk_below BK4.out HB.out) 2).trans rfl
          obtain ⟨⟨f0a, f0b, f1a, f1b⟩, hfine⟩ := HA.out i (by omega)
          obtain ⟨A, hAr⟩ : ∃ A, rd_T37 l0_2 (i : Int) = A := ⟨_, rfl⟩
          rw [hAr] at hy0 hy1 hy2 hy3 f0a f0b f1a f1b hfine
          have HAR := Aside0.mk hAr
          have HF := Aside0.mk (show 0 ≤ A.f0 ∧ A.f0 < (d.length : Int) ∧ 0 ≤ A.f1 ∧ A.f1 < (d.length : Int) from ⟨f0a, f0b, f1a, f1b⟩)
          have HFI := Aside0.mk hfine
          clear hAr hfine hbw f0a f0b f1a f1b
          clear hlt
          go_wp2_with (first
            | ((with_reducible refine gate_dst (N := 11) rfl ?_); refine box_event ?hg (N := 11) ?hd (cs := #[.int .i64 0, .int .i64 0, .int .i64 0, .int .i64 0]) (t := 37) ?hr ?_; (case hd => rfl); (case hg => rfl); (case hr => first | (go_simp; done) | (go_simp; rfl)); intro ga hg w12 hbox hb; have n0_ := Aside0.mk (below_step HB.out hb); have n1_ := Aside0.mk hbox; have GA : Aside0 (w4.heap.size ≤ ga) := Aside0.mk (by rw [hg]; exact below_size HB.out); clear HB hb hbox hg; have HB := n0_; have BA := n1_; clear n0_ n1_; have hcx0 : w12.cell? ⟨ga, 0, none⟩ = some (.int .i64 0) := (blk_cell BA.out 0).trans rfl; have hcx1 : w12.cell? ⟨ga, 1, none⟩ = some (.int .i64 0) := (blk_cell BA.out 1).trans rfl; have hcx2 : w12.cell? ⟨ga, 2, none⟩ = some (.int .i64 0) := (blk_cell BA.out 2).trans rfl; have hcx3 : w12.cell? ⟨ga, 3, none⟩ = some (.int .i64 0) := (blk_cell BA.out 3).trans rfl; have hfx0 := blk_frozen BA.out 0; have hfx1 := blk_frozen BA.out 1; have hfx2 := blk_frozen BA.out 2; have hfx3 := blk_frozen BA.out 3)
            | ((with_reducible refine gate_store (t := 37) (p := 11) rfl ?_); refine store_event (t := 37) (p := 11) (v := ?va8) (w1 := ?wa8) ?hg ?ho ?hn ?hr ?_; (case ho => rfl); (case hg => rfl); (case hn => rfl); (case hr => first | (go_simp; done) | (go_simp; rfl)); intro w13 hw; have n0_ : Aside0 (Below w4.heap.size w4 w13) := Aside0.mk (by rw [hw]; exact below_set (below_set (below_set (below_set HB.out GA.out) GA.out) GA.out) GA.out); have n1_ : Aside0 (w13.heap[ga]? = some (.cells #[.int .i64 A.f0, .int .i64 A.f1, .int .i64 A.f2, .int .i64 A.f3] 37 (0, 0))) := Aside0.mk (by rw [hw]; exact blk_put (cs' := #[.int .i64 A.f0, .int .i64 A.f1, .int .i64 A.f2, .int .i64 A.f3]) (blk_put (cs' := #[.int .i64 A.f0, .int .i64 A.f1, .int .i64 A.f2, .int .i64 0]) (blk_put (cs' := #[.int .i64 A.f0, .int .i64 A.f1, .int .i64 0, .int .i64 0]) (blk_put (cs' := #[.int .i64 A.f0, .int .i64 0, .int .i64 0, .int .i64 0]) BA.out 0 (.int .i64 A.f0) rfl) 1 (.int .i64 A.f1) rfl) 2 (.int .i64 A.f2) rfl) 3 (.int .i64 A.f3) rfl); clear HB BA hw hcx0 hcx1 hcx2 hcx3 hfx0 hfx1 hfx2 hfx3; have HB := n0_; have BA := n1_; clear n0_ n1_))
          have hk0 : w13.cell? ⟨ga, 0, none⟩ = some (.int .i64 A.f0) := (blk_cell BA.out 0).trans rfl
          have hk1 : w13.cell? ⟨ga, 1, none⟩ = some (.int .i64 A.f1) := (blk_cell BA.out 1).trans rfl
          have hk3 : w13.cell? ⟨ga, 3, none⟩ = some (.int .i64 A.f3) := (blk_cell BA.out 3).trans rfl
          have r0 := eq_true HF.out.1
          have r1 := eq_true HF.out.2.1
          have r2 := eq_true HF.out.2.2.1
          have r3 := eq_true HF.out.2.2.2
          have r4 : (A.f0 < (t.length : Int)) = True := eq_true (by have := HS.out; have := HF.out; omega)
          have r5 : (A.f1 < (t.length : Int)) = True := eq_true (by have := HS.out; have := HF.out; omega)
          obtain ⟨x1, y1, z1⟩ := Kd.at_int HRD.out A.f0 HF.out.1 HF.out.2.1
          obtain ⟨x2, y2, z2⟩ := Kd.at_int HRD.out A.f1 HF.out.2.2.1 HF.out.2.2.2
          obtain ⟨x3, y3, z3⟩ := Kd.at_int HRT2.out A.f0 HF.out.1 (by have := HS.out; have := HF.out; omega)
          obtain ⟨x4, y4, z4⟩ := Kd.at_int HRT2.out A.f1 HF.out.2.2.1 (by have := HS.out; have := HF.out; omega)
          obtain rfl : add = x1 := Option.some.inj y1
          obtain rfl : add = x2 := Option.some.inj y2
          obtain rfl : adt = x3 := Option.some.inj y3
          obtain rfl : adt = x4 := Option.some.inj y4
          clear y1 y2 y3 y4
          replace z1 := (HB.out.cell (World.block_lt_of_cell? w4 _ z1)).trans z1
          replace z2 := (HB.out.cell (World.block_lt_of_cell? w4 _ z2)).trans z2
          replace z3 := (HB.out.cell (World.block_lt_of_cell? w4 _ z3)).trans z3
          replace z4 := (HB.out.cell (World.block_lt_of_cell? w4 _ z4)).trans z4
          clear c1 c2 p0 p1 hy0 hy1 hy2 hy3 hb2
          by_cases cd : 0 ≤ rd d A.f0
          · obtain ⟨g1, g2, g3, g4⟩ := HFI.out cd
            have t0 : decide (rd d A.f0 ≥ 0) = true := decide_eq_true cd
            have t1 : decide (0 ≤ rd d A.f0) = true := decide_eq_true cd
            have t2 : decide (rd d A.f1 < 0) = false := decide_eq_false (by omega)
            have t3 : decide (rd d A.f1 > wrap64 (rd d A.f0 + 1)) = false := decide_eq_false (by omega)
            have t4 : decide (wrap64 (rd d A.f0 + 1) < rd d A.f1) = false := decide_eq_false (by omega)
            have t5 : decide (rd t A.f1 < 0) = false := decide_eq_false (by omega)
            have t6 : decide (rd t A.f1 > wrap64 (rd t A.f0 + A.f3)) = false := decide_eq_false (by omega)
            have t7 : decide (wrap64 (rd t A.f0 + A.f3) < rd t A.f1) = false := decide_eq_false (by omega)
            clear cd g1 g2 g3 g4
            as_aux_lemma =>
              go_quiet (fail)
              go_wp2
              go_roundg gk
              case measure => omega
              case rel => exact ⟨i + 1, congrArg (Value.int .i64) HWI.out, ⟨by have := HI.out; omega⟩, ⟨pw_below_drewN HB.out _⟩⟩
          · have t0 : decide (rd d A.f0 ≥ 0) = false := decide_eq_false cd
            have t1 : decide (0 ≤ rd d A.f0) = false := decide_eq_false cd
            clear cd
            as_aux_lemma =>
              go_quiet (fail)
              go_wp2
              go_roundg gk
              case measure => omega
              case rel => exact ⟨i + 1, congrArg (Value.int .i64) HWI.out, ⟨by have := HI.out; omega⟩, ⟨pw_below_drewN HB.out _⟩⟩
    · simp only at x1 x2 x3 x4
      subst x2 x3 x4
      have c1 : decide (e1 = 0) = false := decide_eq_false x1
      have c2 : (e1 == 0) = false := beq_eq_false_iff_ne.2 x1
      have c3 := eq_false x1
      go_enter Try.func6, Try.ntmps6
      go_wp2_with (first
        | ((with_reducible refine gate_dst (N := 2) rfl ?_); refine box_event ?hg (N := 2) ?hd (cs := #[.int .i64 a0_0, .bool a0_1, .slice A0_2 l0_2.length c0_2]) (t := 24) ?hr ?_; (case hd => rfl); (case hg => rfl); (case hr => first | (go_simp; done) | (go_simp; rfl)); intro gb hg w1 hbox hb; have n0_ := Aside0.mk (below_step HB.out hb); have n1_ := Aside0.mk hbox; clear HB; have HB := n0_; have BK := n1_; clear n0_ n1_ hb hbox hg; have hb0 : w1.cell? ⟨gb, 0, none⟩ = some (.int .i64 a0_0) := (blk_cell BK.out 0).trans rfl; have hb1 : w1.cell? ⟨gb, 1, none⟩ = some (.bool a0_1) := (blk_cell BK.out 1).trans rfl; have hb2 : w1.cell? ⟨gb, 2, none⟩ = some (.slice A0_2 l0_2.length c0_2) := (blk_cell BK.out 2).trans rfl)
        | (go_at_call 12; refine (ebbtidelaw06_awake.calls k true _ H1.out).mono ?_; rintro e w2 ⟨rfl, hb⟩; have n0_ := Aside0.mk (below_step HB.out hb); have n1_ := Aside0.mk (blk_below BK.out hb); clear HB BK hb hb0 hb1 hb2; have HB := n0_; have BK := n1_; clear n0_ n1_; have hb0 : w2.cell? ⟨gb, 0, none⟩ = some (.int .i64 a0_0) := (blk_cell BK.out 0).trans rfl; have hb1 : w2.cell? ⟨gb, 1, none⟩ = some (.bool a0_1) := (blk_cell BK.out 1).trans rfl; have hb2 : w2.cell? ⟨gb, 2, none⟩ = some (.slice A0_2 l0_2.length c0_2) := (blk_cell BK.out 2).trans rfl)
        | (go_at_call 10; refine (adj_Hops.calls k a0_0 a0_1 A0_2 c0_2 l0_2 a1 _ _ _ (Kd.C_below HR0.out HB.out) HC0.out H2.out).mono ?_; rintro e w3 ⟨vd, rfl, hrd, hb⟩; obtain ⟨Ad, cd, rfl, hcd, hrdC⟩ := Kd.R_reads hrd; have HRD := Aside0.mk hrdC; have HB3 := Aside0.mk (Below.refl w3.heap.size w3); have n0_ := Aside0.mk (below_step HB.out hb); have n1_ := Aside0.mk (blk_below BK.out hb); clear HB BK hb hb0 hb1 hb2 hrd hcd hrdC; have HB := n0_; have BK := n1_; clear n0_ n1_; have hb0 : w3.cell? ⟨gb, 0, none⟩ = some (.int .i64 a0_0) := (blk_cell BK.out 0).trans rfl; have hb1 : w3.cell? ⟨gb, 1, none⟩ = some (.bool a0_1) := (blk_cell BK.out 1).trans rfl; have hb2 : w3.cell? ⟨gb, 2, none⟩ = some (.slice A0_2 l0_2.length c0_2) := (blk_cell BK.out 2).trans rfl)
        | (go_at_call 17; refine (adj_Fastest.calls k a0_0 a0_1 A0_2 c0_2 l0_2 a1 _ _ _ (Kd.C_below HR0.out HB.out) HC0.out H3.out).mono ?_; rintro e w4 ⟨vt, rfl, hrt, hb⟩; obtain ⟨At, ct, rfl, hct, hrtC⟩ := Kd.R_reads hrt; have HRT2 := Aside0.mk hrtC; have n2_ := Aside0.mk (Kd.C_below HRD.out (below_step HB3.out hb)); have n0_ := Aside0.mk (below_step HB.out hb); have n1_ := Aside0.mk (blk_below BK.out hb); clear HB BK HB3 HRD hb hb0 hb1 hb2 hrt hct hrtC; have HB := n0_; have BK := n1_; have HRD := n2_; clear n0_ n1_ n2_; have hb0 : w4.cell? ⟨gb, 0, none⟩ = some (.int .i64 a0_0) := (blk_cell BK.out 0).trans rfl; have hb1 : w4.cell? ⟨gb, 1, none⟩ = some (.bool a0_1) := (blk_cell BK.out 1).trans rfl; have hb2 : w4.cell? ⟨gb, 2, none⟩ = some (.slice A0_2 l0_2.length c0_2) := (blk_cell BK.out 2).trans rfl))
      go_ret
      exact ⟨rfl, HB.out⟩
  · rw [if_neg ck] at h
    cases h
end Go.Proofs.Ytgjgckpdilbbjaa.Q
end
