/- A part of the proof: words, contracts, plain lemmas. Conditions: none. -/
import Derived.Test.YtloebciamfbjfaaZPileOrders5
section
namespace Go.Proofs.Ytloebciamfbjfaa.Q
open Go.RowKit Go.Proofs.Ytloebciamfbjfaa.P Go.Proofs.YtloebciamfbjfaaW.PrintWords Go.Proofs.YtloebciamfbjfaaW.PrintLast Go.Proofs.YtloebciamfbjfaaW.PrintMore
set_option linter.unusedVariables false
set_option linter.unusedSimpArgs false
theorem mod_two {N a : Nat} (h : a < 2 * N) : a % N = if a < N then a else a - N := by
  by_cases c : a < N
  · rw [if_pos c, Nat.mod_eq_of_lt c]
  · rw [if_neg c, Nat.mod_eq_sub_mod (by omega), Nat.mod_eq_of_lt (by omega)]
theorem content_put (zs : List Int) (f s : Nat) (x : Int) (hf : f < zs.length) (hs : s < zs.length) : content (zs.set ((f + s) % zs.length) x) f (s + 1) = content zs f s ++ [x] := by
  rw [content_snoc, List.length_set]
  have hp : (f + s) % zs.length < zs.length := Nat.mod_lt _ (by omega)
  have e1 : (zs.set ((f + s) % zs.length) x).getD ((f + s) % zs.length) 0 = x := by rw [List.getD_eq_getElem?_getD, List.getElem?_set, if_pos rfl, if_pos hp]; rfl
  rw [e1]
  congr 1
  unfold content
  refine List.map_congr_left fun i hi => ?_
  have hi := List.mem_range.1 hi
  rw [List.length_set, List.getD_eq_getElem?_getD, List.getElem?_set, if_neg, List.getD_eq_getElem?_getD]
  rw [mod_two (a := f + s) (by omega), mod_two (a := f + i) (by omega)]
  (repeat' split) <;> omega
def Queue_Put.T1 : Bool × List (List Nat × List Nat) := (true, [([], []), ([0], [0]), ([1], [1]), ([2], [2]), ([], []), ([4], [4]), ([5], [5]), ([6], [6]), ([3, 7], [3, 7])])
def Queue_Put.B1 : List Nat := [0, 1, 3, 7, 0, 16, 48, 112, 255]
theorem Queue_Put.tab1 : rtab .any (opsOf Try.f22 1) = Queue_Put.T1 := by kernel_rfl
theorem Queue_Put.bits1 : waitsOk Queue_Put.T1.2 Queue_Put.B1 = true := by kernel_rfl
def Queue_Put.T3 : Bool × List (List Nat × List Nat) := (true, [([], []), ([0], [0]), ([1], [1]), ([2], [2]), ([], []), ([4], [4]), ([5], [5]), ([6], [6]), ([7], [7]), ([3, 8], [3, 8])])
def Queue_Put.B3 : List Nat := [0, 1, 3, 7, 0, 16, 48, 112, 240, 511]
theorem Queue_Put.tab3 : rtab .any (opsOf Try.f22 3) = Queue_Put.T3 := by kernel_rfl
theorem Queue_Put.bits3 : waitsOk Queue_Put.T3.2 Queue_Put.B3 = true := by kernel_rfl
def Queue_Put.T5 : Bool × List (List Nat × List Nat) := (true, [([], []), ([0], [0]), ([1], [1]), ([2], [2]), ([], []), ([4], [4]), ([5], [5]), ([6], [6]), ([], []), ([8], [8]), ([9], [9]), ([10], [10]), ([7, 11], [7, 11]), ([], []), ([13], [13]), ([14], [14]), ([15], [15]), ([16], [16]), ([12, 17], [12, 17]), ([], []), ([3, 18, 0, 1, 2, 3, 4, 5, 6, 7, 8, 9, 10, 11, 12, 13, 14, 15, 16, 17, 18, 19], [3, 18]), ([20, 19, 0, 1, 2, 3, 4, 5, 6, 7, 8, 9, 10, 11, 12, 13, 14, 15, 16, 17, 18, 19], [19, 20])])
def Queue_Put.B5 : List Nat := [0, 1, 3, 7, 0, 16, 48, 112, 0, 256, 768, 1792, 4080, 0, 8192, 24576, 57344, 122880, 262128, 0, 1048575, 2097151]
theorem Queue_Put.tab5 : rtab .any (opsOf Try.f22 5) = Queue_Put.T5 := by kernel_rfl
theorem Queue_Put.bits5 : waitsOk Queue_Put.T5.2 Queue_Put.B5 = true := by kernel_rfl
set_option maxHeartbeats 8000000 in
set_option maxRecDepth 100000 in
theorem Queue_Put.calls (ok : Nat → Prop) (g : Nat) (most : Int) (v : Value) (zs : List Int) (f s : Nat) (x : Int) (w0 w : World) (hB : Below w0.heap.size w0 w) (hQ : QueueC w w0.heap.size ok g most v zs f s) (hfresh : ∀ k, w.heap.size ≤ k → ok k) (hz : zs.length ≤ 524288) :
    Calls Try.prog 22 #[.pointer (some ⟨g, 0, none⟩), .int .i64 x] w fun e w' => Below w0.heap.size w0 w' ∧ Kept w w' (fun k => k = g ∨ ok k) ∧ if (s : Int) = most then e = .returned (.int .i64 20) ∧ QueueC w' w0.heap.size ok g most v zs f s else e = .returned (.int .i64 0) ∧ ∃ v' zs' f', QueueC w' w0.heap.size ok g most v' zs' f' (s + 1) ∧ content zs' f' (s + 1) = content zs f s ++ [x] ∧ (zs'.length = zs.length ∨ zs'.length = 2 * s + 4) := by
  have hu67 := Try.underlying67
  have HB := Aside0.mk hB
  have HQ := Aside0.mk hQ
  have HF := Aside0.mk hfresh
  have HZ := Aside0.mk hz
  have HK := Aside0.mk (Kept.refl w (fun k => k = g ∨ ok k))
  obtain ⟨n, hn⟩ : ∃ n, n = zs.length := ⟨_, rfl⟩
  obtain ⟨A, hA⟩ : ∃ A, v = .slice A n n := by
    rcases hQ.ring with ⟨h1, h2⟩ | ⟨gk, h1, _⟩
    · exact ⟨none, by rw [h1, hn, h2]; rfl⟩
    · exact ⟨_, by rw [h1, hn]⟩
  subst hA
  have HN := Aside0.mk hn
  have hsl : s ≤ n := by rw [hn]; exact hQ.sl
  have hws : wrap64 ((s : Int) + 1) = ((s + 1 : Nat) : Int) := wrapId (by omega) (by omega)
  have HSL := Aside0.mk hsl
  have HWS := Aside0.mk hws
  clear hB hQ hfresh hz hn hsl hws
  obtain ⟨bf, hf⟩ : ∃ b, decide ((s : Int) = most) = b := ⟨_, rfl⟩
  have hf2 : ((s : Int) == most) = bf := by rw [← hf, Bool.beq_eq_decide_eq]
  cases bf
  · simp only [if_neg (of_decide_eq_false hf)]
    go_enter Try.func22, Try.ntmps22
    go_wp2
    have n0_ := Aside0.mk (below_drew1 HB.out)
    have n1_ := Aside0.mk HQ.out.drew
    have n2_ := Aside0.mk (Kept.drew HK.out)
    clear HB HQ HK
    have HB := n0_
    have HQ := n1_
    have HK := n2_
    clear n0_ n1_ n2_
    refine start_ (n := 9) (S := fun w' => w'.cell? ⟨g, 2, none⟩ = some (.int .i64 (s : Int)) ∧ w'.cell? ⟨g, 3, none⟩ = some (.int .i64 most)) (ds := []) #[Ff,Ff,Ff,Ff,Ff,Ff,Ff,Ff,Ff] (by kernel_rfl) rfl rfl ⟨(blk_cell HQ.out.blk 2).trans rfl, (blk_cell HQ.out.blk 3).trans rfl⟩ (fun hHeld => ?_)
    generalize w.drew = w1 at HB HQ HK hHeld ⊢
    refine with_tabW Queue_Put.tab1 Queue_Put.bits1 (fun HT_ HW_ => ?_)
    refine pv_ 0 5 #[Tt,Ff,Ff,Ff,Ff,Ff,Ff,Ff,Ff] ?_
    refine pv_ 1 6 #[Tt,Tt,Ff,Ff,Ff,Ff,Ff,Ff,Ff] ?_
    refine pv_ 2 7 #[Tt,Tt,Tt,Ff,Ff,Ff,Ff,Ff,Ff] ?_
    refine pv_ 4 9 #[Tt,Tt,Tt,Ff,Tt,Ff,Ff,Ff,Ff] ?_
    refine pv_ 5 10 #[Tt,Tt,Tt,Ff,Tt,Tt,Ff,Ff,Ff] ?_
    refine pv_ 6 11 #[Tt,Tt,Tt,Ff,Tt,Tt,Tt,Ff,Ff] ?_
    refine take_ (i := 3) (N := (some 8)) (v := ?_) (a' := ?_) #[Tt,Tt,Tt,Tt,Tt,Tt,Tt,Ff,Ff] rfl rfl (take_ofW HT_.out HW_.out (by kernel_rfl)) (fun _ _ _ h => h) (Or.inl ⟨by rfl, ?_⟩) hHeld ?_ ?_
    rotate_left
    · rintro w' ⟨s0, s1⟩
      go_simp
      with_reducible rfl
    rotate_left
    exact ap_
    refine take_ (i := 7) (N := (some 12)) (v := ?_) (a' := ?_) #[Tt,Tt,Tt,Tt,Tt,Tt,Tt,Tt,Ff] rfl rfl (take_ofW HT_.out HW_.out (by kernel_rfl)) (fun _ _ _ h => h) (Or.inl ⟨by rfl, ?_⟩) hHeld ?_ ?_
    rotate_left
    · rintro w' ⟨s0, s1⟩
      go_simp
      with_reducible rfl
    rotate_left
    exact ap_
    refine pv_ 8 13 #[Tt,Tt,Tt,Tt,Tt,Tt,Tt,Tt,Tt] ?_
    refine done_ (done_of HT_.out (by kernel_rfl)) ?_
    clear hHeld HT_ HW_
    go_wp2
    clear hf hf2
    obtain ⟨bg, hg⟩ : ∃ b, decide ((s : Int) = (n : Int)) = b := ⟨_, rfl⟩
    have hg2 : ((s : Int) == (n : Int)) = bg := by rw [← hg, Bool.beq_eq_decide_eq]
    have hg3 : decide (s = n) = bg := by rw [← hg]; exact decide_eq_decide.2 (by omega)
    have hg4 : (s == n) = bg := by rw [← hg3, Bool.beq_eq_decide_eq]
    cases bg
    · skip
      have n0_ := Aside0.mk (below_drew1 HB.out)
      have n1_ := Aside0.mk HQ.out.drew
      have n2_ := Aside0.mk (Kept.drew HK.out)
      clear HB HQ HK
      have HB := n0_
      have HQ := n1_
      have HK := n2_
      clear n0_ n1_ n2_
      refine start_ (n := 10) (S := fun w' => w'.cell? ⟨g, 2, none⟩ = some (.int .i64 (s : Int)) ∧ w'.cell? ⟨g, 0, none⟩ = some (.slice A n n)) (ds := []) #[Ff,Ff,Ff,Ff,Ff,Ff,Ff,Ff,Ff,Ff] (by kernel_rfl) rfl rfl ⟨(blk_cell HQ.out.blk 2).trans rfl, (blk_cell HQ.out.blk 0).trans rfl⟩ (fun hHeld => ?_)
      generalize w1.drew = w2 at HB HQ HK hHeld ⊢
      refine with_tabW Queue_Put.tab3 Queue_Put.bits3 (fun HT_ HW_ => ?_)
      refine pv_ 0 14 #[Tt,Ff,Ff,Ff,Ff,Ff,Ff,Ff,Ff,Ff] ?_
      refine pv_ 1 15 #[Tt,Tt,Ff,Ff,Ff,Ff,Ff,Ff,Ff,Ff] ?_
      refine pv_ 2 16 #[Tt,Tt,Tt,Ff,Ff,Ff,Ff,Ff,Ff,Ff] ?_
      refine pv_ 4 18 #[Tt,Tt,Tt,Ff,Tt,Ff,Ff,Ff,Ff,Ff] ?_
      refine pv_ 5 19 #[Tt,Tt,Tt,Ff,Tt,Tt,Ff,Ff,Ff,Ff] ?_
      refine pv_ 6 20 #[Tt,Tt,Tt,Ff,Tt,Tt,Tt,Ff,Ff,Ff] ?_
      refine take_ (i := 3) (N := (some 17)) (v := ?_) (a' := ?_) #[Tt,Tt,Tt,Tt,Tt,Tt,Tt,Ff,Ff,Ff] rfl rfl (take_ofW HT_.out HW_.out (by kernel_rfl)) (fun _ _ _ h => h) (Or.inl ⟨by rfl, ?_⟩) hHeld ?_ ?_
      rotate_left
      · rintro w' ⟨s0, s1⟩
        go_simp
        with_reducible rfl
      rotate_left
      exact ap_
      refine take_ (i := 7) (N := (some 21)) (v := ?_) (a' := ?_) #[Tt,Tt,Tt,Tt,Tt,Tt,Tt,Tt,Ff,Ff] rfl rfl (take_ofW HT_.out HW_.out (by kernel_rfl)) (fun _ _ _ h => h) (Or.inl ⟨by rfl, ?_⟩) hHeld ?_ ?_
      rotate_left
      · rintro w' ⟨s0, s1⟩
        go_simp
        with_reducible rfl
      rotate_left
      exact ap_
      refine pv_ 8 22 #[Tt,Tt,Tt,Tt,Tt,Tt,Tt,Tt,Tt,Ff] ?_
      refine pv_ 9 23 #[Tt,Tt,Tt,Tt,Tt,Tt,Tt,Tt,Tt,Tt] ?_
      refine done_ (done_of HT_.out (by kernel_rfl)) ?_
      clear hHeld HT_ HW_
      have HS : Aside0 (s < zs.length) := ⟨by have := of_decide_eq_false hg; have := HSL.out; have := HN.out; omega⟩
      go_wp2
      clear hg hg2 hg3 hg4
      have HZ1 : Aside0 (zs.length ≤ 2000000) := ⟨by have := HZ.out; omega⟩
      have hs2 := HS.out
      rcases HQ.out.ring with ⟨_, hzs⟩ | ⟨gk, ev, hk, hbk, hok, hne, hpos⟩
      · rw [hzs] at hs2; exact absurd hs2 (by simp)
      · have hA2 : A = some ⟨gk, 0, none⟩ := by injection ev
        subst hA2
        clear ev
        have hfl : f < zs.length := by rcases HQ.out.fl with h | h; (exact h); (rw [h.1] at hpos; cases hpos)
        have hp : (f + s) % zs.length < zs.length := Nat.mod_lt _ hpos
        have hm : n = zs.length := HN.out
        have htm : Int.tmod (wrap64 ((f : Int) + (s : Int))) (n : Int) = (((f + s) % zs.length : Nat) : Int) := by
          have := HZ1.out
          rw [wrapId (by omega) (by omega), hm]
          exact (Int.ofNat_tmod (f + s) zs.length).symm
        have q0 := eq_true (show (0 : Int) ≤ Int.tmod (wrap64 ((f : Int) + (s : Int))) (n : Int) by rw [htm]; omega)
        have q1 := eq_true (show Int.tmod (wrap64 ((f : Int) + (s : Int))) (n : Int) < (n : Int) by rw [htm]; omega)
        have hn0 := eq_false (show ¬ (n : Int) = 0 by omega)
        have hn1 : decide ((n : Int) = 0) = false := decide_eq_false (by omega)
        have hn2 : ((n : Int) == 0) = false := beq_eq_false_iff_ne.2 (by omega)
        have hn3 := eq_false (show ¬ n = 0 by omega)
        have HTM := Aside0.mk htm
        have HM := Aside0.mk hm
        have HP := Aside0.mk hp
        have HFL := Aside0.mk hfl
        have HNE := Aside0.mk hne
        have HBK := Aside0.mk hbk
        have HOKK := Aside0.mk hok
        clear hfl hp htm hm hs2 hk hbk hok hne hpos
        have n0_ := Aside0.mk (below_drew1 HB.out)
        have n1_ := Aside0.mk HQ.out.drew
        have n2_ := Aside0.mk (Kept.drew HK.out)
        clear HB HQ HK
        have HB := n0_
        have HQ := n1_
        have HK := n2_
        clear n0_ n1_ n2_
        refine start_ (n := 22) (S := fun w' => w'.cell? ⟨g, 0, none⟩ = some (.slice (some ⟨gk, 0, none⟩) n n) ∧ w'.cell? ⟨g, 1, none⟩ = some (.int .i64 (f : Int)) ∧ w'.cell? ⟨g, 2, none⟩ = some (.int .i64 (s : Int))) (ds := [21]) #[Ff,Ff,Ff,Ff,Ff,Ff,Ff,Ff,Ff,Ff,Ff,Ff,Ff,Ff,Ff,Ff,Ff,Ff,Ff,Ff,Ff,Ff] (by kernel_rfl) rfl rfl ⟨(blk_cell HQ.out.blk 0).trans rfl, (blk_cell HQ.out.blk 1).trans rfl, (blk_cell HQ.out.blk 2).trans rfl⟩ (fun hHeld => ?_)
        generalize w2.drew = w7 at HB HQ HK hHeld ⊢
        have hkb : Aside0 (w7.heap[gk]? = some (.cells (ints zs) 3 (0, 0))) := ⟨by
          rcases HQ.out.ring with ⟨h_, _⟩ | ⟨gk', h1, h2, _⟩
          · cases h_
          · have e_ : gk = gk' := by injection h1 with h1; injection h1 with h1; injection h1
            subst e_; exact h2⟩
        have zk : w7.cell? ⟨gk, (Int.tmod (wrap64 ((f : Int) + (s : Int))) (n : Int)).toNat, none⟩ = some (.int .i64 (zs[(f + s) % zs.length]'HP.out)) := by rw [HTM.out, Int.toNat_natCast]; exact (blk_cell hkb.out _).trans (ints_get HP.out)
        have yk : w7.frozen? ⟨gk, (Int.tmod (wrap64 ((f : Int) + (s : Int))) (n : Int)).toNat, none⟩ = false := blk_frozen hkb.out _
        refine with_tabW Queue_Put.tab5 Queue_Put.bits5 (fun HT_ HW_ => ?_)
        refine pv_ 0 26 #[Tt,Ff,Ff,Ff,Ff,Ff,Ff,Ff,Ff,Ff,Ff,Ff,Ff,Ff,Ff,Ff,Ff,Ff,Ff,Ff,Ff,Ff] ?_
        refine pv_ 1 27 #[Tt,Tt,Ff,Ff,Ff,Ff,Ff,Ff,Ff,Ff,Ff,Ff,Ff,Ff,Ff,Ff,Ff,Ff,Ff,Ff,Ff,Ff] ?_
        refine pv_ 2 28 #[Tt,Tt,Tt,Ff,Ff,Ff,Ff,Ff,Ff,Ff,Ff,Ff,Ff,Ff,Ff,Ff,Ff,Ff,Ff,Ff,Ff,Ff] ?_
        refine pv_ 4 30 #[Tt,Tt,Tt,Ff,Tt,Ff,Ff,Ff,Ff,Ff,Ff,Ff,Ff,Ff,Ff,Ff,Ff,Ff,Ff,Ff,Ff,Ff] ?_
        refine pv_ 5 31 #[Tt,Tt,Tt,Ff,Tt,Tt,Ff,Ff,Ff,Ff,Ff,Ff,Ff,Ff,Ff,Ff,Ff,Ff,Ff,Ff,Ff,Ff] ?_
        refine pv_ 6 32 #[Tt,Tt,Tt,Ff,Tt,Tt,Tt,Ff,Ff,Ff,Ff,Ff,Ff,Ff,Ff,Ff,Ff,Ff,Ff,Ff,Ff,Ff] ?_
        refine pv_ 8 34 #[Tt,Tt,Tt,Ff,Tt,Tt,Tt,Ff,Tt,Ff,Ff,Ff,Ff,Ff,Ff,Ff,Ff,Ff,Ff,Ff,Ff,Ff] ?_
        refine pv_ 9 35 #[Tt,Tt,Tt,Ff,Tt,Tt,Tt,Ff,Tt,Tt,Ff,Ff,Ff,Ff,Ff,Ff,Ff,Ff,Ff,Ff,Ff,Ff] ?_
        refine pv_ 10 36 #[Tt,Tt,Tt,Ff,Tt,Tt,Tt,Ff,Tt,Tt,Tt,Ff,Ff,Ff,Ff,Ff,Ff,Ff,Ff,Ff,Ff,Ff] ?_
        refine pv_ 13 39 #[Tt,Tt,Tt,Ff,Tt,Tt,Tt,Ff,Tt,Tt,Tt,Ff,Ff,Tt,Ff,Ff,Ff,Ff,Ff,Ff,Ff,Ff] ?_
        refine pv_ 14 40 #[Tt,Tt,Tt,Ff,Tt,Tt,Tt,Ff,Tt,Tt,Tt,Ff,Ff,Tt,Tt,Ff,Ff,Ff,Ff,Ff,Ff,Ff] ?_
        refine pv_ 15 41 #[Tt,Tt,Tt,Ff,Tt,Tt,Tt,Ff,Tt,Tt,Tt,Ff,Ff,Tt,Tt,Tt,Ff,Ff,Ff,Ff,Ff,Ff] ?_
        refine pv_ 19 45 #[Tt,Tt,Tt,Ff,Tt,Tt,Tt,Ff,Tt,Tt,Tt,Ff,Ff,Tt,Tt,Tt,Ff,Ff,Ff,Tt,Ff,Ff] ?_
        refine take_ (i := 3) (N := (some 29)) (v := ?_) (a' := ?_) #[Tt,Tt,Tt,Tt,Tt,Tt,Tt,Ff,Tt,Tt,Tt,Ff,Ff,Tt,Tt,Tt,Ff,Ff,Ff,Tt,Ff,Ff] rfl rfl (take_ofW HT_.out HW_.out (by kernel_rfl)) (fun _ _ _ h => h) (Or.inl ⟨by rfl, ?_⟩) hHeld ?_ ?_
        rotate_left
        · rintro w' ⟨s0, s1, s2⟩
          go_simp
          with_reducible rfl
        rotate_left
        exact ap_
        refine take_ (i := 7) (N := (some 33)) (v := ?_) (a' := ?_) #[Tt,Tt,Tt,Tt,Tt,Tt,Tt,Tt,Tt,Tt,Tt,Ff,Ff,Tt,Tt,Tt,Ff,Ff,Ff,Tt,Ff,Ff] rfl rfl (take_ofW HT_.out HW_.out (by kernel_rfl)) (fun _ _ _ h => h) (Or.inl ⟨by rfl, ?_⟩) hHeld ?_ ?_
        rotate_left
        · rintro w' ⟨s0, s1, s2⟩
          go_simp
          with_reducible rfl
        rotate_left
        exact ap_
        refine take_ (i := 11) (N := (some 37)) (v := ?_) (a' := ?_) #[Tt,Tt,Tt,Tt,Tt,Tt,Tt,Tt,Tt,Tt,Tt,Tt,Ff,Tt,Tt,Tt,Ff,Ff,Ff,Tt,Ff,Ff] rfl rfl (take_ofW HT_.out HW_.out (by kernel_rfl)) (fun _ _ _ h => h) (Or.inl ⟨by rfl, ?_⟩) hHeld ?_ ?_
        rotate_left
        · rintro w' ⟨s0, s1, s2⟩
          go_simp
          with_reducible rfl
        rotate_left
        exact ap_
        refine pv_ 12 38 #[Tt,Tt,Tt,Tt,Tt,Tt,Tt,Tt,Tt,Tt,Tt,Tt,Tt,Tt,Tt,Tt,Ff,Ff,Ff,Tt,Ff,Ff] ?_
        refine take_ (i := 16) (N := (some 42)) (v := ?_) (a' := ?_) #[Tt,Tt,Tt,Tt,Tt,Tt,Tt,Tt,Tt,Tt,Tt,Tt,Tt,Tt,Tt,Tt,Tt,Ff,Ff,Tt,Ff,Ff] rfl rfl (take_ofW HT_.out HW_.out (by kernel_rfl)) (fun _ _ _ h => h) (Or.inl ⟨by rfl, ?_⟩) hHeld ?_ ?_
        rotate_left
        · rintro w' ⟨s0, s1, s2⟩
          go_simp
          with_reducible rfl
        rotate_left
        exact ap_
        refine pv_ 17 43 #[Tt,Tt,Tt,Tt,Tt,Tt,Tt,Tt,Tt,Tt,Tt,Tt,Tt,Tt,Tt,Tt,Tt,Tt,Ff,Tt,Ff,Ff] ?_
        refine pv_ 18 44 #[Tt,Tt,Tt,Tt,Tt,Tt,Tt,Tt,Tt,Tt,Tt,Tt,Tt,Tt,Tt,Tt,Tt,Tt,Tt,Tt,Ff,Ff] ?_
        refine pv_ 20 46 #[Tt,Tt,Tt,Tt,Tt,Tt,Tt,Tt,Tt,Tt,Tt,Tt,Tt,Tt,Tt,Tt,Tt,Tt,Tt,Tt,Tt,Ff] ?_
        refine last_ (i := 21) (N := none) #[Tt,Tt,Tt,Tt,Tt,Tt,Tt,Tt,Tt,Tt,Tt,Tt,Tt,Tt,Tt,Tt,Tt,Tt,Tt,Tt,Tt,Tt] rfl rfl (one_of HT_.out (by kernel_rfl)) (by decide) (fun K hK => ?_)
        refine skip_ (w1 := ?_) (by rfl) rfl ?_ ?_
        rotate_left
        · go_simp
          rfl
        refine hK.out _ _ ?_
        clear hK K zk yk hHeld
        rw [HTM.out, Int.toNat_natCast]
        have hq : QueueC (w7.setCell ⟨gk, (f + s) % zs.length, none⟩ (.int .i64 x)) w0.heap.size ok g most (.slice (some ⟨gk, 0, none⟩) n n) (zs.set ((f + s) % zs.length) x) f s := by
          refine ⟨blk_far (p := ⟨gk, (f + s) % zs.length, none⟩) HQ.out.blk HNE.out.symm _, HQ.out.ge, .inr ⟨gk, by rw [List.length_set, HM.out], blk_put hkb.out _ _ (ints_set zs _ x), HBK.out, HOKK.out, HNE.out, by rw [List.length_set]; have := HFL.out; omega⟩, .inl (by rw [List.length_set]; exact HFL.out), by rw [List.length_set]; exact Nat.le_of_lt HS.out⟩
        have n0_ := Aside0.mk (below_set HB.out HBK.out (j := (f + s) % zs.length) (v := .int .i64 x))
        have n2_ := Aside0.mk (Kept.setCell (p := ⟨gk, (f + s) % zs.length, none⟩) HK.out (Or.inl (Or.inr HOKK.out)) (.int .i64 x))
        clear HB HQ HK hkb
        have HQ := Aside0.mk hq
        have HB := n0_
        have HK := n2_
        clear n0_ n2_ hq
        refine done_ (done_of HT_.out (by kernel_rfl)) ?_
        generalize w7.setCell ⟨gk, (f + s) % zs.length, none⟩ (.int .i64 x) = w8 at HB HQ HK ⊢
        have z2 : w8.cell? ⟨g, 2, none⟩ = some (.int .i64 (s : Int)) := (blk_cell HQ.out.blk 2).trans rfl
        have y2 := blk_frozen HQ.out.blk 2
        clear HT_ HW_
        go_wp2
        go_ret
        rw [HWS.out]
        have hq2 := HQ.out.setS (s + 1) (by rw [List.length_set]; exact HS.out)
        refine ⟨below_set HB.out HQ.out.ge, Kept.then_ HK.out (keptG HQ.out 2 _) (fun k hk => Or.inl hk), rfl, _, zs.set ((f + s) % zs.length) x, f, hq2, ?_, by rw [List.length_set]; exact Or.inl rfl⟩
        exact content_put zs f s x HFL.out HS.out
    · skip
      have n0_ := Aside0.mk (below_drew1 HB.out)
      have n1_ := Aside0.mk HQ.out.drew
      have n2_ := Aside0.mk (Kept.drew HK.out)
      clear HB HQ HK
      have HB := n0_
      have HQ := n1_
      have HK := n2_
      clear n0_ n1_ n2_
      refine start_ (n := 10) (S := fun w' => w'.cell? ⟨g, 2, none⟩ = some (.int .i64 (s : Int)) ∧ w'.cell? ⟨g, 0, none⟩ = some (.slice A n n)) (ds := []) #[Ff,Ff,Ff,Ff,Ff,Ff,Ff,Ff,Ff,Ff] (by kernel_rfl) rfl rfl ⟨(blk_cell HQ.out.blk 2).trans rfl, (blk_cell HQ.out.blk 0).trans rfl⟩ (fun hHeld => ?_)
      generalize w1.drew = w2 at HB HQ HK hHeld ⊢
      refine with_tabW Queue_Put.tab3 Queue_Put.bits3 (fun HT_ HW_ => ?_)
      refine pv_ 0 14 #[Tt,Ff,Ff,Ff,Ff,Ff,Ff,Ff,Ff,Ff] ?_
      refine pv_ 1 15 #[Tt,Tt,Ff,Ff,Ff,Ff,Ff,Ff,Ff,Ff] ?_
      refine pv_ 2 16 #[Tt,Tt,Tt,Ff,Ff,Ff,Ff,Ff,Ff,Ff] ?_
      refine pv_ 4 18 #[Tt,Tt,Tt,Ff,Tt,Ff,Ff,Ff,Ff,Ff] ?_
      refine pv_ 5 19 #[Tt,Tt,Tt,Ff,Tt,Tt,Ff,Ff,Ff,Ff] ?_
      refine pv_ 6 20 #[Tt,Tt,Tt,Ff,Tt,Tt,Tt,Ff,Ff,Ff] ?_
      refine take_ (i := 3) (N := (some 17)) (v := ?_) (a' := ?_) #[Tt,Tt,Tt,Tt,Tt,Tt,Tt,Ff,Ff,Ff] rfl rfl (take_ofW HT_.out HW_.out (by kernel_rfl)) (fun _ _ _ h => h) (Or.inl ⟨by rfl, ?_⟩) hHeld ?_ ?_
      rotate_left
      · rintro w' ⟨s0, s1⟩
        go_simp
        with_reducible rfl
      rotate_left
      exact ap_
      refine take_ (i := 7) (N := (some 21)) (v := ?_) (a' := ?_) #[Tt,Tt,Tt,Tt,Tt,Tt,Tt,Tt,Ff,Ff] rfl rfl (take_ofW HT_.out HW_.out (by kernel_rfl)) (fun _ _ _ h => h) (Or.inl ⟨by rfl, ?_⟩) hHeld ?_ ?_
      rotate_left
      · rintro w' ⟨s0, s1⟩
        go_simp
        with_reducible rfl
      rotate_left
      exact ap_
      refine pv_ 8 22 #[Tt,Tt,Tt,Tt,Tt,Tt,Tt,Tt,Tt,Ff] ?_
      refine pv_ 9 23 #[Tt,Tt,Tt,Tt,Tt,Tt,Tt,Tt,Tt,Tt] ?_
      refine done_ (done_of HT_.out (by kernel_rfl)) ?_
      clear hHeld HT_ HW_
      have hsn : s = zs.length := by have := of_decide_eq_true hg; have := HN.out; omega
      have HSN := Aside0.mk hsn
      clear hsn
      go_wp2_with (go_at_call 32; refine (Queue_grow.calls ok g most (.slice A n n) zs f w0 _ HB.out (by have h_ := HQ.out; rw [HSN.out] at h_; exact h_) (fun k hk => HF.out k (Nat.le_trans HK.out.1 hk)) (by have := HZ.out; omega)).mono ?_; rintro e w3 ⟨rfl, hb, hk, v1, hq⟩; rw [← HSN.out] at hq; have n0_ := Aside0.mk hb; have n1_ := Aside0.mk hq; have n2_ := Aside0.mk (Kept.then_ HK.out hk (fun k hk => Or.inl hk)); clear HB HQ HK hb hq hk; have HB := n0_; have HQ := n1_; have HK := n2_; clear n0_ n1_ n2_)
      clear hg hg2 hg3 hg4
      have hlen : (content zs f s ++ List.replicate (s + 4) 0).length = 2 * s + 4 := by rw [List.length_append, content_length, List.length_replicate]; omega
      have h_ := HQ.out
      have hcg : content (content zs f s ++ List.replicate (s + 4) 0) 0 s = content zs f s := content_grown zs f s _
      obtain ⟨zs1, hz1⟩ : ∃ zs1, content zs f s ++ List.replicate (s + 4) 0 = zs1 := ⟨_, rfl⟩
      obtain ⟨f1, hf1⟩ : ∃ f1, 0 = f1 := ⟨_, rfl⟩
      rw [hz1] at h_ hlen hcg
      rw [hf1] at h_ hcg
      have HS : Aside0 (s < zs1.length) := ⟨by omega⟩
      have HZ1 : Aside0 (zs1.length ≤ 2000000) := ⟨by have := HZ.out; have := HSN.out; omega⟩
      have HCONT := Aside0.mk hcg
      have HZL : Aside0 (zs1.length = zs.length ∨ zs1.length = 2 * s + 4) := ⟨.inr hlen⟩
      clear HQ
      have HQ := Aside0.mk h_
      clear h_ hlen hcg hz1 hf1
      have hs2 := HS.out
      rcases HQ.out.ring with ⟨_, hzs⟩ | ⟨gk, ev, hk, hbk, hok, hne, hpos⟩
      · rw [hzs] at hs2; exact absurd hs2 (by simp)
      · subst ev
        have hfl : f1 < zs1.length := by rcases HQ.out.fl with h | h; (exact h); (rw [h.1] at hpos; cases hpos)
        have hp : (f1 + s) % zs1.length < zs1.length := Nat.mod_lt _ hpos
        obtain ⟨m, hm⟩ : ∃ m, m = zs1.length := ⟨_, rfl⟩
        have htm : Int.tmod (wrap64 ((f1 : Int) + (s : Int))) (m : Int) = (((f1 + s) % zs1.length : Nat) : Int) := by
          have := HZ1.out
          rw [wrapId (by omega) (by omega), hm]
          exact (Int.ofNat_tmod (f1 + s) zs1.length).symm
        have q0 := eq_true (show (0 : Int) ≤ Int.tmod (wrap64 ((f1 : Int) + (s : Int))) (m : Int) by rw [htm]; omega)
        have q1 := eq_true (show Int.tmod (wrap64 ((f1 : Int) + (s : Int))) (m : Int) < (m : Int) by rw [htm]; omega)
        have hn0 := eq_false (show ¬ (m : Int) = 0 by omega)
        have hn1 : decide ((m : Int) = 0) = false := decide_eq_false (by omega)
        have hn2 : ((m : Int) == 0) = false := beq_eq_false_iff_ne.2 (by omega)
        have hn3 := eq_false (show ¬ m = 0 by omega)
        have HTM := Aside0.mk htm
        have HM := Aside0.mk hm
        have HP := Aside0.mk hp
        have HFL := Aside0.mk hfl
        have HNE := Aside0.mk hne
        have HBK := Aside0.mk hbk
        have HOKK := Aside0.mk hok
        rw [← hm] at HQ
        clear hfl hp htm hm hs2 hk hbk hok hne hpos
        have n0_ := Aside0.mk (below_drew1 HB.out)
        have n1_ := Aside0.mk HQ.out.drew
        have n2_ := Aside0.mk (Kept.drew HK.out)
        clear HB HQ HK
        have HB := n0_
        have HQ := n1_
        have HK := n2_
        clear n0_ n1_ n2_
        refine start_ (n := 22) (S := fun w' => w'.cell? ⟨g, 0, none⟩ = some (.slice (some ⟨gk, 0, none⟩) m m) ∧ w'.cell? ⟨g, 1, none⟩ = some (.int .i64 (f1 : Int)) ∧ w'.cell? ⟨g, 2, none⟩ = some (.int .i64 (s : Int))) (ds := [21]) #[Ff,Ff,Ff,Ff,Ff,Ff,Ff,Ff,Ff,Ff,Ff,Ff,Ff,Ff,Ff,Ff,Ff,Ff,Ff,Ff,Ff,Ff] (by kernel_rfl) rfl rfl ⟨(blk_cell HQ.out.blk 0).trans rfl, (blk_cell HQ.out.blk 1).trans rfl, (blk_cell HQ.out.blk 2).trans rfl⟩ (fun hHeld => ?_)
        generalize w3.drew = w7 at HB HQ HK hHeld ⊢
        have hkb : Aside0 (w7.heap[gk]? = some (.cells (ints zs1) 3 (0, 0))) := ⟨by
          rcases HQ.out.ring with ⟨h_, _⟩ | ⟨gk', h1, h2, _⟩
          · cases h_
          · have e_ : gk = gk' := by injection h1 with h1; injection h1 with h1; injection h1
            subst e_; exact h2⟩
        have zk : w7.cell? ⟨gk, (Int.tmod (wrap64 ((f1 : Int) + (s : Int))) (m : Int)).toNat, none⟩ = some (.int .i64 (zs1[(f1 + s) % zs1.length]'HP.out)) := by rw [HTM.out, Int.toNat_natCast]; exact (blk_cell hkb.out _).trans (ints_get HP.out)
        have yk : w7.frozen? ⟨gk, (Int.tmod (wrap64 ((f1 : Int) + (s : Int))) (m : Int)).toNat, none⟩ = false := blk_frozen hkb.out _
        refine with_tabW Queue_Put.tab5 Queue_Put.bits5 (fun HT_ HW_ => ?_)
        refine pv_ 0 26 #[Tt,Ff,Ff,Ff,Ff,Ff,Ff,Ff,Ff,Ff,Ff,Ff,Ff,Ff,Ff,Ff,Ff,Ff,Ff,Ff,Ff,Ff] ?_
        refine pv_ 1 27 #[Tt,Tt,Ff,Ff,Ff,Ff,Ff,Ff,Ff,Ff,Ff,Ff,Ff,Ff,Ff,Ff,Ff,Ff,Ff,Ff,Ff,Ff] ?_
        refine pv_ 2 28 #[Tt,Tt,Tt,Ff,Ff,Ff,Ff,Ff,Ff,Ff,Ff,Ff,Ff,Ff,Ff,Ff,Ff,Ff,Ff,Ff,Ff,Ff] ?_
        refine pv_ 4 30 #[Tt,Tt,Tt,Ff,Tt,Ff,Ff,Ff,Ff,Ff,Ff,Ff,Ff,Ff,Ff,Ff,Ff,Ff,Ff,Ff,Ff,Ff] ?_
        refine pv_ 5 31 #[Tt,Tt,Tt,Ff,Tt,Tt,Ff,Ff,Ff,Ff,Ff,Ff,Ff,Ff,Ff,Ff,Ff,Ff,Ff,Ff,Ff,Ff] ?_
        refine pv_ 6 32 #[Tt,Tt,Tt,Ff,Tt,Tt,Tt,Ff,Ff,Ff,Ff,Ff,Ff,Ff,Ff,Ff,Ff,Ff,Ff,Ff,Ff,Ff] ?_
        refine pv_ 8 34 #[Tt,Tt,Tt,Ff,Tt,Tt,Tt,Ff,Tt,Ff,Ff,Ff,Ff,Ff,Ff,Ff,Ff,Ff,Ff,Ff,Ff,Ff] ?_
        refine pv_ 9 35 #[Tt,Tt,Tt,Ff,Tt,Tt,Tt,Ff,Tt,Tt,Ff,Ff,Ff,Ff,Ff,Ff,Ff,Ff,Ff,Ff,Ff,Ff] ?_
        refine pv_ 10 36 #[Tt,Tt,Tt,Ff,Tt,Tt,Tt,Ff,Tt,Tt,Tt,Ff,Ff,Ff,Ff,Ff,Ff,Ff,Ff,Ff,Ff,Ff] ?_
        refine pv_ 13 39 #[Tt,Tt,Tt,Ff,Tt,Tt,Tt,Ff,Tt,Tt,Tt,Ff,Ff,Tt,Ff,Ff,Ff,Ff,Ff,Ff,Ff,Ff] ?_
        refine pv_ 14 40 #[Tt,Tt,Tt,Ff,Tt,Tt,Tt,Ff,Tt,Tt,Tt,Ff,Ff,Tt,Tt,Ff,Ff,Ff,Ff,Ff,Ff,Ff] ?_
        refine pv_ 15 41 #[Tt,Tt,Tt,Ff,Tt,Tt,Tt,Ff,Tt,Tt,Tt,Ff,Ff,Tt,Tt,Tt,Ff,Ff,Ff,Ff,Ff,Ff] ?_
        refine pv_ 19 45 #[Tt,Tt,Tt,Ff,Tt,Tt,Tt,Ff,Tt,Tt,Tt,Ff,Ff,Tt,Tt,Tt,Ff,Ff,Ff,Tt,Ff,Ff] ?_
        refine take_ (i := 3) (N := (some 29)) (v := ?_) (a' := ?_) #[Tt,Tt,Tt,Tt,Tt,Tt,Tt,Ff,Tt,Tt,Tt,Ff,Ff,Tt,Tt,Tt,Ff,Ff,Ff,Tt,Ff,Ff] rfl rfl (take_ofW HT_.out HW_.out (by kernel_rfl)) (fun _ _ _ h => h) (Or.inl ⟨by rfl, ?_⟩) hHeld ?_ ?_
        rotate_left
        · rintro w' ⟨s0, s1, s2⟩
          go_simp
          with_reducible rfl
        rotate_left
        exact ap_
        refine take_ (i := 7) (N := (some 33)) (v := ?_) (a' := ?_) #[Tt,Tt,Tt,Tt,Tt,Tt,Tt,Tt,Tt,Tt,Tt,Ff,Ff,Tt,Tt,Tt,Ff,Ff,Ff,Tt,Ff,Ff] rfl rfl (take_ofW HT_.out HW_.out (by kernel_rfl)) (fun _ _ _ h => h) (Or.inl ⟨by rfl, ?_⟩) hHeld ?_ ?_
        rotate_left
        · rintro w' ⟨s0, s1, s2⟩
          go_simp
          with_reducible rfl
        rotate_left
        exact ap_
        refine take_ (i := 11) (N := (some 37)) (v := ?_) (a' := ?_) #[Tt,Tt,Tt,Tt,Tt,Tt,Tt,Tt,Tt,Tt,Tt,Tt,Ff,Tt,Tt,Tt,Ff,Ff,Ff,Tt,Ff,Ff] rfl rfl (take_ofW HT_.out HW_.out (by kernel_rfl)) (fun _ _ _ h => h) (Or.inl ⟨by rfl, ?_⟩) hHeld ?_ ?_
        rotate_left
        · rintro w' ⟨s0, s1, s2⟩
          go_simp
          with_reducible rfl
        rotate_left
        exact ap_
        refine pv_ 12 38 #[Tt,Tt,Tt,Tt,Tt,Tt,Tt,Tt,Tt,Tt,Tt,Tt,Tt,Tt,Tt,Tt,Ff,Ff,Ff,Tt,Ff,Ff] ?_
        refine take_ (i := 16) (N := (some 42)) (v := ?_) (a' := ?_) #[Tt,Tt,Tt,Tt,Tt,Tt,Tt,Tt,Tt,Tt,Tt,Tt,Tt,Tt,Tt,Tt,Tt,Ff,Ff,Tt,Ff,Ff] rfl rfl (take_ofW HT_.out HW_.out (by kernel_rfl)) (fun _ _ _ h => h) (Or.inl ⟨by rfl, ?_⟩) hHeld ?_ ?_
        rotate_left
        · rintro w' ⟨s0, s1, s2⟩
          go_simp
          with_reducible rfl
        rotate_left
        exact ap_
        refine pv_ 17 43 #[Tt,Tt,Tt,Tt,Tt,Tt,Tt,Tt,Tt,Tt,Tt,Tt,Tt,Tt,Tt,Tt,Tt,Tt,Ff,Tt,Ff,Ff] ?_
        refine pv_ 18 44 #[Tt,Tt,Tt,Tt,Tt,Tt,Tt,Tt,Tt,Tt,Tt,Tt,Tt,Tt,Tt,Tt,Tt,Tt,Tt,Tt,Ff,Ff] ?_
        refine pv_ 20 46 #[Tt,Tt,Tt,Tt,Tt,Tt,Tt,Tt,Tt,Tt,Tt,Tt,Tt,Tt,Tt,Tt,Tt,Tt,Tt,Tt,Tt,Ff] ?_
        refine last_ (i := 21) (N := none) #[Tt,Tt,Tt,Tt,Tt,Tt,Tt,Tt,Tt,Tt,Tt,Tt,Tt,Tt,Tt,Tt,Tt,Tt,Tt,Tt,Tt,Tt] rfl rfl (one_of HT_.out (by kernel_rfl)) (by decide) (fun K hK => ?_)
        refine skip_ (w1 := ?_) (by rfl) rfl ?_ ?_
        rotate_left
        · go_simp
          rfl
        refine hK.out _ _ ?_
        clear hK K zk yk hHeld
        rw [HTM.out, Int.toNat_natCast]
        have hq : QueueC (w7.setCell ⟨gk, (f1 + s) % zs1.length, none⟩ (.int .i64 x)) w0.heap.size ok g most (.slice (some ⟨gk, 0, none⟩) m m) (zs1.set ((f1 + s) % zs1.length) x) f1 s := by
          refine ⟨blk_far (p := ⟨gk, (f1 + s) % zs1.length, none⟩) HQ.out.blk HNE.out.symm _, HQ.out.ge, .inr ⟨gk, by rw [List.length_set, HM.out], blk_put hkb.out _ _ (ints_set zs1 _ x), HBK.out, HOKK.out, HNE.out, by rw [List.length_set]; have := HFL.out; omega⟩, .inl (by rw [List.length_set]; exact HFL.out), by rw [List.length_set]; exact Nat.le_of_lt HS.out⟩
        have n0_ := Aside0.mk (below_set HB.out HBK.out (j := (f1 + s) % zs1.length) (v := .int .i64 x))
        have n2_ := Aside0.mk (Kept.setCell (p := ⟨gk, (f1 + s) % zs1.length, none⟩) HK.out (Or.inl (Or.inr HOKK.out)) (.int .i64 x))
        clear HB HQ HK hkb
        have HQ := Aside0.mk hq
        have HB := n0_
        have HK := n2_
        clear n0_ n2_ hq
        refine done_ (done_of HT_.out (by kernel_rfl)) ?_
        generalize w7.setCell ⟨gk, (f1 + s) % zs1.length, none⟩ (.int .i64 x) = w8 at HB HQ HK ⊢
        have z2 : w8.cell? ⟨g, 2, none⟩ = some (.int .i64 (s : Int)) := (blk_cell HQ.out.blk 2).trans rfl
        have y2 := blk_frozen HQ.out.blk 2
        clear HT_ HW_
        go_wp2
        go_ret
        rw [HWS.out]
        have hq2 := HQ.out.setS (s + 1) (by rw [List.length_set]; exact HS.out)
        refine ⟨below_set HB.out HQ.out.ge, Kept.then_ HK.out (keptG HQ.out 2 _) (fun k hk => Or.inl hk), rfl, _, zs1.set ((f1 + s) % zs1.length) x, f1, hq2, ?_, by rw [List.length_set]; exact HZL.out⟩
        rw [content_put zs1 f1 s x HFL.out HS.out, HCONT.out]
  · simp only [if_pos (of_decide_eq_true hf)]
    go_enter Try.func22, Try.ntmps22
    go_wp2
    have n0_ := Aside0.mk (below_drew1 HB.out)
    have n1_ := Aside0.mk HQ.out.drew
    have n2_ := Aside0.mk (Kept.drew HK.out)
    clear HB HQ HK
    have HB := n0_
    have HQ := n1_
    have HK := n2_
    clear n0_ n1_ n2_
    refine start_ (n := 9) (S := fun w' => w'.cell? ⟨g, 2, none⟩ = some (.int .i64 (s : Int)) ∧ w'.cell? ⟨g, 3, none⟩ = some (.int .i64 most)) (ds := []) #[Ff,Ff,Ff,Ff,Ff,Ff,Ff,Ff,Ff] (by kernel_rfl) rfl rfl ⟨(blk_cell HQ.out.blk 2).trans rfl, (blk_cell HQ.out.blk 3).trans rfl⟩ (fun hHeld => ?_)
    generalize w.drew = w1 at HB HQ HK hHeld ⊢
    refine with_tabW Queue_Put.tab1 Queue_Put.bits1 (fun HT_ HW_ => ?_)
    refine pv_ 0 5 #[Tt,Ff,Ff,Ff,Ff,Ff,Ff,Ff,Ff] ?_
    refine pv_ 1 6 #[Tt,Tt,Ff,Ff,Ff,Ff,Ff,Ff,Ff] ?_
    refine pv_ 2 7 #[Tt,Tt,Tt,Ff,Ff,Ff,Ff,Ff,Ff] ?_
    refine pv_ 4 9 #[Tt,Tt,Tt,Ff,Tt,Ff,Ff,Ff,Ff] ?_
    refine pv_ 5 10 #[Tt,Tt,Tt,Ff,Tt,Tt,Ff,Ff,Ff] ?_
    refine pv_ 6 11 #[Tt,Tt,Tt,Ff,Tt,Tt,Tt,Ff,Ff] ?_
    refine take_ (i := 3) (N := (some 8)) (v := ?_) (a' := ?_) #[Tt,Tt,Tt,Tt,Tt,Tt,Tt,Ff,Ff] rfl rfl (take_ofW HT_.out HW_.out (by kernel_rfl)) (fun _ _ _ h => h) (Or.inl ⟨by rfl, ?_⟩) hHeld ?_ ?_
    rotate_left
    · rintro w' ⟨s0, s1⟩
      go_simp
      with_reducible rfl
    rotate_left
    exact ap_
    refine take_ (i := 7) (N := (some 12)) (v := ?_) (a' := ?_) #[Tt,Tt,Tt,Tt,Tt,Tt,Tt,Tt,Ff] rfl rfl (take_ofW HT_.out HW_.out (by kernel_rfl)) (fun _ _ _ h => h) (Or.inl ⟨by rfl, ?_⟩) hHeld ?_ ?_
    rotate_left
    · rintro w' ⟨s0, s1⟩
      go_simp
      with_reducible rfl
    rotate_left
    exact ap_
    refine pv_ 8 13 #[Tt,Tt,Tt,Tt,Tt,Tt,Tt,Tt,Tt] ?_
    refine done_ (done_of HT_.out (by kernel_rfl)) ?_
    clear hHeld HT_ HW_
    go_wp2
    go_ret
    exact ⟨HB.out, HK.out, rfl, HQ.out⟩
end Go.Proofs.Ytloebciamfbjfaa.Q
end
