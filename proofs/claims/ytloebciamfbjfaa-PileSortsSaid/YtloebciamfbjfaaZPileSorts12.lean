/- A part of the proof: words, contracts, plain lemmas. Conditions: none. -/
import Derived.Test.YtloebciamfbjfaaZPileSorts11
import Derived.Test.YtloebciamfbjfaaZPileSorts9
import Derived.Test.YtloebciamfbjfaaZPileSorts3
section
namespace Go.Proofs.Ytloebciamfbjfaa.Q
open Go.RowKit Go.Proofs.Ytloebciamfbjfaa.P Go.Proofs.YtloebciamfbjfaaW.PrintWords Go.Proofs.YtloebciamfbjfaaW.PrintLast Go.Proofs.YtloebciamfbjfaaW.PrintMore
set_option linter.unusedVariables false
set_option linter.unusedSimpArgs false
def insL (x : S34) : List S34 → List S34
  | [] => [x]
  | y :: s => if plt (pr y) (pr x) then y :: insL x s else x :: y :: s
theorem insL_pr (x : S34) : ∀ s, (insL x s).map pr = ins (pr x) (s.map pr)
  | [] => rfl
  | y :: s => by
    unfold insL
    rw [List.map_cons]
    unfold ins
    by_cases c : plt (pr y) (pr x)
    · rw [if_pos c, if_pos c, List.map_cons, insL_pr x s]
    · rw [if_neg c, if_neg c]; rfl
theorem insL_cut (x : S34) : ∀ (s : List S34) (i : Nat), i ≤ s.length → (∀ j (h : j < s.length), j < i → plt (pr s[j]) (pr x)) → (∀ (h : i < s.length), ¬ plt (pr s[i]) (pr x)) → (s.take i ++ [x]) ++ s.drop i = insL x s
  | [], i, _, _, _ => by simp [insL]
  | y :: s, 0, _, _, h => by
    unfold insL
    have h_ : ¬ plt (pr y) (pr x) := h (by simp)
    rw [if_neg h_]; rfl
  | y :: s, i + 1, hi, h1, h2 => by
    unfold insL
    have h_ : plt (pr y) (pr x) := h1 0 (by simp) (by omega)
    rw [if_pos h_]
    rw [List.take_succ_cons, List.drop_succ_cons, List.cons_append, List.cons_append, insL_cut x s i (by simpa using hi) (fun j hj hji => h1 (j + 1) (by simpa using hj) (by omega)) (fun hi2 => h2 (by simpa using hi2))]
theorem insL_length (x : S34) : ∀ s, (insL x s).length = s.length + 1
  | [] => rfl
  | y :: s => by
    unfold insL
    split
    · rw [List.length_cons, insL_length x s, List.length_cons]
    · rfl
theorem before_val (a b : S34) : ebbtideref02_before.f a.f0 a.f1 b.f0 b.f1 = some (decide (plt (pr a) (pr b))) := by
  unfold ebbtideref02_before.f
  by_cases c1 : a.f0 < b.f0
  · rw [if_pos c1, decide_eq_true (show plt (pr a) (pr b) from Or.inl c1)]
  · rw [if_neg c1]
    by_cases c2 : a.f0 = b.f0
    · rw [if_pos c2]
      congr 1
      exact decide_eq_decide.2 ⟨fun h => Or.inr ⟨c2, h⟩, fun h => h.elim (fun h => absurd h c1) (fun h => h.2)⟩
    · rw [if_neg c2, decide_eq_false (show ¬ plt (pr a) (pr b) from fun h => h.elim c1 (fun h => c2 h.1))]
theorem RP.old {w : World} {base : Nat} {ok : Nat → Prop} {g : Nat} {most : Int} {v : Value} {c : List S34} (h : RP w base ok g most v c) : RP w base (fun k => ok k ∧ k < w.heap.size) g most v c :=
  ⟨h.blk, Kd.Q_mono (Kd.Q_bound h.row) (fun k hk => ⟨⟨hk.1.1, hk.2.2.1⟩, hk.1.2⟩), h.ge, h.le⟩
theorem addr_add (g o n : Nat) : Addr.add ⟨g, o, none⟩ n = ⟨g, o + n, none⟩ := by unfold Addr.add; split <;> simp_all
theorem Q_form2 {w : World} {base n cap : Nat} {ok : Nat → Prop} {A : Option Addr} {xs : List S34} (h : Kd.Q k34 34 w base ok (.slice A n cap) xs) : cap = 0 ∨ ∃ g o, A = some ⟨g, o, none⟩ := by
  obtain ⟨h0, inner, hq, hr⟩ := h
  rcases hq.2 with ⟨_, A', ev, _⟩ | ⟨g, off, cap', cur, ev, _⟩
  · injection ev with _ _ e3; exact Or.inl e3
  · injection ev with e1 _ _; exact Or.inr ⟨g, _, e1⟩
def RefP_Push.T1 : Bool × List (List Nat × List Nat) := (true, [([], []), ([0], [0]), ([1], [1]), ([2], [2]), ([3], [3]), ([], []), ([5], [5]), ([6], [6]), ([7], [7]), ([4, 8], [4, 8])])
def RefP_Push.B1 : List Nat := [0, 1, 3, 7, 15, 0, 32, 96, 224, 511]
theorem RefP_Push.tab1 : rtab .any (opsOf Try.f17 1) = RefP_Push.T1 := by kernel_rfl
theorem RefP_Push.bits1 : waitsOk RefP_Push.T1.2 RefP_Push.B1 = true := by kernel_rfl
def RefP_Push.T5 : Bool × List (List Nat × List Nat) := (true, [([], []), ([], []), ([1], [1]), ([2], [2]), ([3], [3]), ([4], [4]), ([0, 5], [0, 5]), ([6], [6]), ([7], [7]), ([8, 7], [7, 8]), ([9, 7], [7, 9]), ([10, 7], [7, 10]), ([7], [7]), ([11, 12, 7], [7, 11, 12]), ([13, 7], [7, 13]), ([7], [7]), ([14, 15, 7, 7], [7, 14, 15]), ([7, 16], [7, 16])])
def RefP_Push.B5 : List Nat := [0, 0, 2, 6, 14, 30, 63, 127, 255, 511, 1023, 2047, 255, 8191, 16383, 255, 65535, 131071]
theorem RefP_Push.tab5 : rtab .any (opsOf Try.f17 5) = RefP_Push.T5 := by kernel_rfl
theorem RefP_Push.bits5 : waitsOk RefP_Push.T5.2 RefP_Push.B5 = true := by kernel_rfl
set_option maxHeartbeats 8000000 in
set_option maxRecDepth 100000 in
theorem RefP_Push.calls (ok : Nat → Prop) (g : Nat) (most : Int) (v : Value) (c : List S34) (x0 x1 : Int) (w0 w : World) (hB : Below w0.heap.size w0 w) (hP : RP w w0.heap.size ok g most v c) (hfresh : ∀ k, w.heap.size ≤ k → ok k) :
    Calls Try.prog 17 #[.pointer (some ⟨g, 0, none⟩), .agg #[.int .i64 x0, .int .i64 x1]] w fun e w' => Below w0.heap.size w0 w' ∧ Kept w w' (fun k => k = g ∨ ok k) ∧ e = .returned (.int .i64 (if (c.length : Int) = most then 20 else 0)) ∧ ∃ v', RP w' w0.heap.size ok g most v' (if (c.length : Int) = most then c else insL ⟨x0, x1⟩ c) := by
  have hu40 := Try.underlying40
  have hu38 := Try.underlying38
  have hu34 := Try.underlying34
  have HB := Aside0.mk hB
  have HP := Aside0.mk hP.old
  have HF := Aside0.mk hfresh
  have HGL := Aside0.mk (blk_lt hP.blk)
  have HLM := Aside0.mk hP.le
  obtain ⟨A, cap, ev, hcap⟩ := Kd.Q_slice hP.row
  subst ev
  have HCAP := Aside0.mk hcap
  have HK := Aside0.mk (Kept.refl w (fun k => k = g ∨ ok k))
  clear hB hP hfresh hcap
  obtain ⟨bf, hf⟩ : ∃ b, decide (most ≤ (c.length : Int)) = b := ⟨_, rfl⟩
  cases bf
  · have HNE : Aside0 (¬ (c.length : Int) = most) := ⟨by have := of_decide_eq_false hf; omega⟩
    simp only [if_neg HNE.out]
    go_enter Try.func17, Try.ntmps17
    go_wp2_with ((with_reducible refine gate_dst (N := 3) rfl ?_); refine box_event ?hg (N := 3) ?hd (cs := #[.int .i64 x0, .int .i64 x1]) (t := 34) ?hr ?_; (case hd => rfl); (case hg => rfl); (case hr => first | (go_simp; done) | (go_simp; rfl)); intro g3 hg w2 hbox hb; have GE3 := Aside0.mk (show w.heap.size ≤ g3 by rw [hg]; exact HK.out.1); have n0_ := Aside0.mk (below_step HB.out hb); have n1_ := Aside0.mk (HP.out.below hb); have n2_ := Aside0.mk (HK.out.below hb); have n3_ := Aside0.mk hbox; clear HB HP HK hb hbox hg; have HB := n0_; have HP := n1_; have HK := n2_; have BK3 := n3_; clear n0_ n1_ n2_ n3_)
    have n0_ := Aside0.mk (below_drew1 HB.out)
    have n1_ := Aside0.mk HP.out.drew
    have n2_ := Aside0.mk (Kept.drew HK.out)
    have n3_ := Aside0.mk (blk_drew BK3.out)
    clear HB HP HK BK3
    have HB := n0_
    have HP := n1_
    have HK := n2_
    have BK3 := n3_
    clear n0_ n1_ n2_ n3_
    refine start_ (n := 10) (S := fun w' => w'.cell? ⟨g, 0, none⟩ = some (.int .i64 most) ∧ w'.cell? ⟨g, 1, none⟩ = some (.slice A c.length cap)) (ds := []) #[Ff,Ff,Ff,Ff,Ff,Ff,Ff,Ff,Ff,Ff] (by kernel_rfl) rfl rfl ⟨(blk_cell HP.out.blk 0).trans rfl, (blk_cell HP.out.blk 1).trans rfl⟩ (fun hHeld => ?_)
    generalize w2.drew = w3 at HB HP HK BK3 hHeld ⊢
    refine with_tabW RefP_Push.tab1 RefP_Push.bits1 (fun HT_ HW_ => ?_)
    refine pv_ 0 7 #[Tt,Ff,Ff,Ff,Ff,Ff,Ff,Ff,Ff,Ff] ?_
    refine pv_ 1 8 #[Tt,Tt,Ff,Ff,Ff,Ff,Ff,Ff,Ff,Ff] ?_
    refine pv_ 2 9 #[Tt,Tt,Tt,Ff,Ff,Ff,Ff,Ff,Ff,Ff] ?_
    refine pv_ 5 12 #[Tt,Tt,Tt,Ff,Ff,Tt,Ff,Ff,Ff,Ff] ?_
    refine pv_ 6 13 #[Tt,Tt,Tt,Ff,Ff,Tt,Tt,Ff,Ff,Ff] ?_
    refine pv_ 7 14 #[Tt,Tt,Tt,Ff,Ff,Tt,Tt,Tt,Ff,Ff] ?_
    refine take_ (i := 3) (N := (some 10)) (v := ?_) (a' := ?_) #[Tt,Tt,Tt,Tt,Ff,Tt,Tt,Tt,Ff,Ff] rfl rfl (take_ofW HT_.out HW_.out (by kernel_rfl)) (fun _ _ _ h => h) (Or.inl ⟨by rfl, ?_⟩) hHeld ?_ ?_
    rotate_left
    · rintro w' ⟨s0, s1⟩
      go_simp
      with_reducible rfl
    rotate_left
    exact ap_
    refine pv_ 4 11 #[Tt,Tt,Tt,Tt,Tt,Tt,Tt,Tt,Ff,Ff] ?_
    refine take_ (i := 8) (N := (some 15)) (v := ?_) (a' := ?_) #[Tt,Tt,Tt,Tt,Tt,Tt,Tt,Tt,Tt,Ff] rfl rfl (take_ofW HT_.out HW_.out (by kernel_rfl)) (fun _ _ _ h => h) (Or.inl ⟨by rfl, ?_⟩) hHeld ?_ ?_
    rotate_left
    · rintro w' ⟨s0, s1⟩
      go_simp
      with_reducible rfl
    rotate_left
    exact ap_
    refine pv_ 9 16 #[Tt,Tt,Tt,Tt,Tt,Tt,Tt,Tt,Tt,Tt] ?_
    refine done_ (done_of HT_.out (by kernel_rfl)) ?_
    clear hHeld HT_ HW_
    go_wp2
    clear hf
    go_loopg [5, 6] c.length (fun kq v5 v6 w' => ∃ i : Nat, v6 = .int .i64 (i : Int) ∧ Aside0 (i + kq = c.length) ∧ Aside0 (∀ j (h : j < c.length), j < i → plt (pr c[j]) (x0, x1)) ∧ Aside0 (Below w0.heap.size w0 w') ∧ Aside0 (RP w' w0.heap.size (fun k => ok k ∧ k < w.heap.size) g most (.slice A c.length cap) c) ∧ Aside0 (Kept w w' (fun k => k = g ∨ ok k)) ∧ Aside0 (w'.heap[g3]? = some (.cells #[.int .i64 x0, .int .i64 x1] 34 (0, 0))) ∧ Aside0 (Kd.R k34 34 w' w0.heap.size (fun k => w.heap.size ≤ k ∧ k ≠ g3) v5 (c.take i)))
    case atStart => exact ⟨0, rfl, ⟨by omega⟩, ⟨fun j h hj => absurd hj (Nat.not_lt_zero j)⟩, HB, HP, HK, BK3, ⟨Kd.R_nil _ _ _ _ _⟩⟩
    case round =>
      clear HB HP HK BK3
      obtain ⟨i, rfl, HI, HALL, HB, HP, HK, BK3, HO⟩ := hrel
      cases gk with
      | zero =>
        have hi : i = c.length := by have := HI.out; omega
        have HDone : Aside0 (∀ (h : i < c.length), ¬ plt (pr c[i]) (x0, x1)) := ⟨fun h => absurd h (by omega)⟩
        have d1 : decide ((i : Int) < (c.length : Int)) = false := decide_eq_false (by omega)
        have d2 : decide (i < c.length) = false := decide_eq_false (by omega)
        clear hi
        go_wp2
        have n0_ := Aside0.mk (below_drew1 HB.out)
        have n1_ := Aside0.mk HP.out.drew
        have n2_ := Aside0.mk (Kept.drew HK.out)
        have n3_ := Aside0.mk (blk_drew BK3.out)
        have n4_ := Aside0.mk (Kd.R_drew HO.out)
        clear HB HP HK BK3 HO
        have HB := n0_
        have HP := n1_
        have HK := n2_
        have BK3 := n3_
        have HO := n4_
        clear n0_ n1_ n2_ n3_ n4_
        refine start_ (n := 18) (S := fun w' => w'.cell? ⟨g, 1, none⟩ = some (.slice A c.length cap)) (ds := []) #[Ff,Ff,Ff,Ff,Ff,Ff,Ff,Ff,Ff,Ff,Ff,Ff,Ff,Ff,Ff,Ff,Ff,Ff] (by kernel_rfl) rfl rfl ((blk_cell HP.out.blk 1).trans rfl) (fun hHeld => ?_)
        generalize wr.drew = w5 at HB HP HK BK3 HO hHeld ⊢
        refine with_tabW RefP_Push.tab5 RefP_Push.bits5 (fun HT_ HW_ => ?_)
        refine pv_ 0 17 #[Tt,Ff,Ff,Ff,Ff,Ff,Ff,Ff,Ff,Ff,Ff,Ff,Ff,Ff,Ff,Ff,Ff,Ff] ?_
        refine pv_ 1 18 #[Tt,Tt,Ff,Ff,Ff,Ff,Ff,Ff,Ff,Ff,Ff,Ff,Ff,Ff,Ff,Ff,Ff,Ff] ?_
        refine pv_ 2 19 #[Tt,Tt,Tt,Ff,Ff,Ff,Ff,Ff,Ff,Ff,Ff,Ff,Ff,Ff,Ff,Ff,Ff,Ff] ?_
        refine pv_ 3 20 #[Tt,Tt,Tt,Tt,Ff,Ff,Ff,Ff,Ff,Ff,Ff,Ff,Ff,Ff,Ff,Ff,Ff,Ff] ?_
        refine take_ (i := 4) (N := (some 21)) (v := ?_) (a' := ?_) #[Tt,Tt,Tt,Tt,Tt,Ff,Ff,Ff,Ff,Ff,Ff,Ff,Ff,Ff,Ff,Ff,Ff,Ff] rfl rfl (take_ofW HT_.out HW_.out (by kernel_rfl)) (fun _ _ _ h => h) (Or.inl ⟨by rfl, ?_⟩) hHeld ?_ ?_
        rotate_left
        · intro w' s0
          go_simp
          with_reducible rfl
        rotate_left
        exact ap_
        refine pv_ 5 22 #[Tt,Tt,Tt,Tt,Tt,Tt,Ff,Ff,Ff,Ff,Ff,Ff,Ff,Ff,Ff,Ff,Ff,Ff] ?_
        refine pv_ 6 23 #[Tt,Tt,Tt,Tt,Tt,Tt,Tt,Ff,Ff,Ff,Ff,Ff,Ff,Ff,Ff,Ff,Ff,Ff] ?_
        refine pv_ 7 24 #[Tt,Tt,Tt,Tt,Tt,Tt,Tt,Tt,Ff,Ff,Ff,Ff,Ff,Ff,Ff,Ff,Ff,Ff] ?_
        refine pu_ 8 25 #[Tt,Tt,Tt,Tt,Tt,Tt,Tt,Tt,Tt,Ff,Ff,Ff,Ff,Ff,Ff,Ff,Ff,Ff] ?_
        refine pu_ 9 26 #[Tt,Tt,Tt,Tt,Tt,Tt,Tt,Tt,Tt,Tt,Ff,Ff,Ff,Ff,Ff,Ff,Ff,Ff] ?_
        refine pu_ 10 27 #[Tt,Tt,Tt,Tt,Tt,Tt,Tt,Tt,Tt,Tt,Tt,Ff,Ff,Ff,Ff,Ff,Ff,Ff] ?_
        refine pu_ 11 28 #[Tt,Tt,Tt,Tt,Tt,Tt,Tt,Tt,Tt,Tt,Tt,Tt,Ff,Ff,Ff,Ff,Ff,Ff] ?_
        refine pu_ 12 29 #[Tt,Tt,Tt,Tt,Tt,Tt,Tt,Tt,Tt,Tt,Tt,Tt,Tt,Ff,Ff,Ff,Ff,Ff] ?_
        refine pu_ 13 30 #[Tt,Tt,Tt,Tt,Tt,Tt,Tt,Tt,Tt,Tt,Tt,Tt,Tt,Tt,Ff,Ff,Ff,Ff] ?_
        refine pu_ 14 31 #[Tt,Tt,Tt,Tt,Tt,Tt,Tt,Tt,Tt,Tt,Tt,Tt,Tt,Tt,Tt,Ff,Ff,Ff] ?_
        refine pu_ 15 32 #[Tt,Tt,Tt,Tt,Tt,Tt,Tt,Tt,Tt,Tt,Tt,Tt,Tt,Tt,Tt,Tt,Ff,Ff] ?_
        refine pu_ 16 33 #[Tt,Tt,Tt,Tt,Tt,Tt,Tt,Tt,Tt,Tt,Tt,Tt,Tt,Tt,Tt,Tt,Tt,Ff] ?_
        refine pv_ 17 34 #[Tt,Tt,Tt,Tt,Tt,Tt,Tt,Tt,Tt,Tt,Tt,Tt,Tt,Tt,Tt,Tt,Tt,Tt] ?_
        refine done_ (done_of HT_.out (by kernel_rfl)) ?_
        clear hHeld HT_ HW_
        have z := (blk_cell HP.out.blk 1).trans (rfl : _ = some (Value.slice A c.length cap))
        have y := blk_frozen HP.out.blk 1
        have z0 := (blk_cell BK3.out 0).trans (rfl : _ = some (Value.int .i64 x0))
        have z1 := (blk_cell BK3.out 1).trans (rfl : _ = some (Value.int .i64 x1))
        have p1 := eq_true (show (0 : Int) ≤ (i : Int) by omega)
        have p3 := eq_true (show (i : Int) ≤ (c.length : Int) by have := HI.out; omega)
        have p4 := eq_true (show (c.length : Int) ≤ (cap : Int) by have := HCAP.out; omega)
        have p5 := eq_true (show i ≤ c.length by have := HI.out; omega)
        have p6 := eq_true HCAP.out
        by_cases c3 : cap = i
        · have c4 := eq_true c3
          have HC3 := Aside0.mk c3
          clear c3
          go_wp2_with (first
            | ((with_reducible refine gate_builtin (b := .append) (xs := #[.tmp 47, .tmp 49]) rfl ?_); at_builtin; refine Kd.R_append k34 (w0 := w0) w0.heap.size rfl (.tmp 47) (.tmp 49) 38 34 (.agg #[(.int .i64 0), (.int .i64 0)]) 16 rfl Try.underlying38 info34 rfl (by decide) (by omega) u5 (c.take i) (⟨x0, x1⟩ : S34) [.int .i64 (⟨x0, x1⟩ : S34).f0, .int .i64 (⟨x0, x1⟩ : S34).f1] (fun k => w.heap.size ≤ k ∧ k ≠ g3) (fun _ => False) rfl rfl (k34_mkM _ _ _ _) (fun _ hk => hk.elim) (fun k hk => ⟨Nat.le_trans HK.out.1 hk, fun e_ => by have := blk_lt BK3.out; omega⟩) HO.out HB.out (below_size HB.out) (by have := HLM.out; have := HI.out; rw [List.length_take]; omega) ?_; intro v1 w8 ho hb hg hat; have hgn := fun k_ (e_ : u5.ownBlock = some k_) => (HO.out.1 k_ e_); have hkp : Kept _ w8 (fun k => w.heap.size ≤ k ∧ k ≠ g3) := Kept.of_grown hg (Kept.refl _ _) (fun k_ e_ => Or.inl (hgn k_ e_)); have n0_ := Aside0.mk hb; have n1_ := Aside0.mk (HP.out.kept hkp (fun e_ => by have := HGL.out; omega) (fun k hk e_ => by have := hk.2; omega)); have n2_ := Aside0.mk (Kept.then_ HK.out hkp (fun k hk => Or.inr hk.1)); have n3_ := Aside0.mk (Kept.blk hkp BK3.out (fun e_ => e_.2 rfl)); have n4_ := Aside0.mk ho; clear HB HP HK BK3 HO hgn hkp ho hb hg hat; have HB := n0_; have HP := n1_; have HK := n2_; have BK3 := n3_; have HO := n4_; clear n0_ n1_ n2_ n3_ n4_; clear z y z0 z1; have z := (blk_cell HP.out.blk 1).trans (rfl : _ = some (Value.slice A c.length cap)); have y := blk_frozen HP.out.blk 1)
            | ((with_reducible refine gate_builtin (b := .append) (xs := #[.tmp 52, .tmp 58]) rfl ?_); at_builtin; have hd_ := Kd.Q_drop (k := i) HP.out.row (by have := HI.out; omega); rw [if_pos HC3.out] at hd_; have hrd := (Kd.Q_reads' hd_).2.2; rw [List.length_drop] at hrd; refine Kd.R_append_rows k34 (Rr := k34.K _) (w0 := w0) w0.heap.size rfl (.tmp 52) (.tmp 58) 38 34 (.agg #[(.int .i64 0), (.int .i64 0)]) 16 rfl Try.underlying38 info34 rfl (by decide) (by omega) v1 (c.take i ++ [(⟨x0, x1⟩ : S34)]) (c.drop i) (A) (c.length - i) (cap - i) (fun k => w.heap.size ≤ k ∧ k ≠ g3) (fun _ => False) rfl rfl HO.out hrd (fun x cs h => by obtain rfl := k34_open h; exact k34_mkM _ _ _ x) (fun _ hk => hk.elim) (fun k hk => ⟨Nat.le_trans HK.out.1 hk, fun e_ => by have := blk_lt BK3.out; omega⟩) HB.out (below_size HB.out) (by have := HLM.out; have := HI.out; simp only [List.length_append, List.length_take, List.length_cons, List.length_nil]; omega) ?_; clear hd_ hrd; intro v2 w9 ho hb hg hat; have hgn := fun k_ (e_ : v1.ownBlock = some k_) => (HO.out.1 k_ e_); have hkp : Kept _ w9 (fun k => w.heap.size ≤ k ∧ k ≠ g3) := Kept.of_grown hg (Kept.refl _ _) (fun k_ e_ => Or.inl (hgn k_ e_)); have n0_ := Aside0.mk hb; have n1_ := Aside0.mk (HP.out.kept hkp (fun e_ => by have := HGL.out; omega) (fun k hk e_ => by have := hk.2; omega)); have n2_ := Aside0.mk (Kept.then_ HK.out hkp (fun k hk => Or.inr hk.1)); have n3_ := Aside0.mk (Kept.blk hkp BK3.out (fun e_ => e_.2 rfl)); have n4_ := Aside0.mk ho; clear HB HP HK BK3 HO hgn hkp ho hb hg hat z y; have HB := n0_; have HP := n1_; have HK := n2_; have BK3 := n3_; have HO := n4_; clear n0_ n1_ n2_ n3_ n4_; have z := (blk_cell HP.out.blk 1).trans (rfl : _ = some (Value.slice A c.length cap)); have y := blk_frozen HP.out.blk 1; rw [insL_cut ⟨x0, x1⟩ c i (by have := HI.out; omega) HALL.out HDone.out] at HO; obtain ⟨A3, cap3, e3⟩ := Kd.R_slice HO.out; subst e3))
          go_ret
          exact ⟨below_set HB.out HP.out.ge, Kept.setCell (p := ⟨g, 1, none⟩) HK.out (Or.inl (Or.inl rfl)) _, rfl, _, (HP.out.mono (ok' := ok) (fun k hk => hk.1)).put (Kd.Q_of_R (Kd.R_mono HO.out (fun k hk => ⟨HF.out k hk.1, fun e_ => by have := HGL.out; have := hk.1; omega⟩))) (by have := HLM.out; have := HNE.out; rw [insL_length]; omega)⟩
        · have c4 := eq_false c3
          have HC3 := Aside0.mk c3
          clear c3
          rcases Q_form2 HP.out.row with h0_ | ⟨gr, o, eA⟩
          · exact absurd h0_ (by have := HC3.out; have := HCAP.out; have := HI.out; omega)
          subst eA
          go_wp2_with (first
            | ((with_reducible refine gate_builtin (b := .append) (xs := #[.tmp 47, .tmp 49]) rfl ?_); at_builtin; refine Kd.R_append k34 (w0 := w0) w0.heap.size rfl (.tmp 47) (.tmp 49) 38 34 (.agg #[(.int .i64 0), (.int .i64 0)]) 16 rfl Try.underlying38 info34 rfl (by decide) (by omega) u5 (c.take i) (⟨x0, x1⟩ : S34) [.int .i64 (⟨x0, x1⟩ : S34).f0, .int .i64 (⟨x0, x1⟩ : S34).f1] (fun k => w.heap.size ≤ k ∧ k ≠ g3) (fun _ => False) rfl rfl (k34_mkM _ _ _ _) (fun _ hk => hk.elim) (fun k hk => ⟨Nat.le_trans HK.out.1 hk, fun e_ => by have := blk_lt BK3.out; omega⟩) HO.out HB.out (below_size HB.out) (by have := HLM.out; have := HI.out; rw [List.length_take]; omega) ?_; intro v1 w8 ho hb hg hat; have hgn := fun k_ (e_ : u5.ownBlock = some k_) => (HO.out.1 k_ e_); have hkp : Kept _ w8 (fun k => w.heap.size ≤ k ∧ k ≠ g3) := Kept.of_grown hg (Kept.refl _ _) (fun k_ e_ => Or.inl (hgn k_ e_)); have n0_ := Aside0.mk hb; have n1_ := Aside0.mk (HP.out.kept hkp (fun e_ => by have := HGL.out; omega) (fun k hk e_ => by have := hk.2; omega)); have n2_ := Aside0.mk (Kept.then_ HK.out hkp (fun k hk => Or.inr hk.1)); have n3_ := Aside0.mk (Kept.blk hkp BK3.out (fun e_ => e_.2 rfl)); have n4_ := Aside0.mk ho; clear HB HP HK BK3 HO hgn hkp ho hb hg hat; have HB := n0_; have HP := n1_; have HK := n2_; have BK3 := n3_; have HO := n4_; clear n0_ n1_ n2_ n3_ n4_; clear z y z0 z1; have z := (blk_cell HP.out.blk 1).trans (rfl : _ = some (Value.slice (some ⟨gr, o, none⟩) c.length cap)); have y := blk_frozen HP.out.blk 1)
            | ((with_reducible refine gate_builtin (b := .append) (xs := #[.tmp 52, .tmp 58]) rfl ?_); at_builtin; have hd_ := Kd.Q_drop (k := i) HP.out.row (by have := HI.out; omega); rw [if_neg HC3.out] at hd_; have hrd := (Kd.Q_reads' hd_).2.2; rw [show (Option.map (fun x : Addr => x.add (i * k34.sz)) (some (⟨gr, o, none⟩ : Addr))) = some ⟨gr, o + i * 2, none⟩ from congrArg some (addr_add gr o (i * 2))] at hrd; rw [List.length_drop] at hrd; refine Kd.R_append_rows k34 (Rr := k34.K _) (w0 := w0) w0.heap.size rfl (.tmp 52) (.tmp 58) 38 34 (.agg #[(.int .i64 0), (.int .i64 0)]) 16 rfl Try.underlying38 info34 rfl (by decide) (by omega) v1 (c.take i ++ [(⟨x0, x1⟩ : S34)]) (c.drop i) (some ⟨gr, o + i * 2, none⟩) (c.length - i) (cap - i) (fun k => w.heap.size ≤ k ∧ k ≠ g3) (fun _ => False) rfl rfl HO.out hrd (fun x cs h => by obtain rfl := k34_open h; exact k34_mkM _ _ _ x) (fun _ hk => hk.elim) (fun k hk => ⟨Nat.le_trans HK.out.1 hk, fun e_ => by have := blk_lt BK3.out; omega⟩) HB.out (below_size HB.out) (by have := HLM.out; have := HI.out; simp only [List.length_append, List.length_take, List.length_cons, List.length_nil]; omega) ?_; clear hd_ hrd; intro v2 w9 ho hb hg hat; have hgn := fun k_ (e_ : v1.ownBlock = some k_) => (HO.out.1 k_ e_); have hkp : Kept _ w9 (fun k => w.heap.size ≤ k ∧ k ≠ g3) := Kept.of_grown hg (Kept.refl _ _) (fun k_ e_ => Or.inl (hgn k_ e_)); have n0_ := Aside0.mk hb; have n1_ := Aside0.mk (HP.out.kept hkp (fun e_ => by have := HGL.out; omega) (fun k hk e_ => by have := hk.2; omega)); have n2_ := Aside0.mk (Kept.then_ HK.out hkp (fun k hk => Or.inr hk.1)); have n3_ := Aside0.mk (Kept.blk hkp BK3.out (fun e_ => e_.2 rfl)); have n4_ := Aside0.mk ho; clear HB HP HK BK3 HO hgn hkp ho hb hg hat z y; have HB := n0_; have HP := n1_; have HK := n2_; have BK3 := n3_; have HO := n4_; clear n0_ n1_ n2_ n3_ n4_; have z := (blk_cell HP.out.blk 1).trans (rfl : _ = some (Value.slice (some ⟨gr, o, none⟩) c.length cap)); have y := blk_frozen HP.out.blk 1; rw [insL_cut ⟨x0, x1⟩ c i (by have := HI.out; omega) HALL.out HDone.out] at HO; obtain ⟨A3, cap3, e3⟩ := Kd.R_slice HO.out; subst e3))
          go_ret
          exact ⟨below_set HB.out HP.out.ge, Kept.setCell (p := ⟨g, 1, none⟩) HK.out (Or.inl (Or.inl rfl)) _, rfl, _, (HP.out.mono (ok' := ok) (fun k hk => hk.1)).put (Kd.Q_of_R (Kd.R_mono HO.out (fun k hk => ⟨HF.out k hk.1, fun e_ => by have := HGL.out; have := hk.1; omega⟩))) (by have := HLM.out; have := HNE.out; rw [insL_length]; omega)⟩
      | succ gk =>
        have HLT : Aside0 (i < c.length) := ⟨by have := HI.out; omega⟩
        obtain ⟨gr, o, cap2, ev, _⟩ := Kd.Q_form HP.out.row (by have := HLT.out; omega)
        injection ev with ev1 ev2 ev3
        subst ev1 ev3
        clear ev2
        have d1 : decide ((i : Int) < (c.length : Int)) = true := decide_eq_true (by have := HLT.out; omega)
        have d2 : decide (i < c.length) = true := decide_eq_true HLT.out
        have p1 := eq_true (show (0 : Int) ≤ (i : Int) by omega)
        have p2 := eq_true (show (i : Int) < (c.length : Int) by have := HLT.out; omega)
        obtain ⟨a0, a1, ha⟩ : ∃ a0 a1, c[i]'HLT.out = (⟨a0, a1⟩ : S34) := ⟨_, _, rfl⟩
        have HA := Aside0.mk ha
        clear ha
        have hpair : ∀ (W : World) (okk : Nat → Prop), Kd.Q k34 34 W w0.heap.size okk (.slice (some ⟨gr, o, none⟩) c.length cap) c → W.cell? ⟨gr, o + i * 2, none⟩ = some (.int .i64 a0) ∧ W.cell? ⟨gr, o + i * 2 + 1, none⟩ = some (.int .i64 a1) := fun W okk h => by
          have h2 := pairQ h i HLT.out
          rw [HA.out] at h2
          exact h2
        have HPR := Aside0.mk hpair
        clear hpair
        have hbef := before_val ⟨a0, a1⟩ ⟨x0, x1⟩
        obtain ⟨b2, hb2⟩ : ∃ b, decide (plt (pr ⟨a0, a1⟩) (pr ⟨x0, x1⟩)) = b := ⟨_, rfl⟩
        rw [hb2] at hbef
        have HBEF := Aside0.mk hbef
        have HB2 := Aside0.mk hb2
        clear hbef hb2
        go_wp2
        have n0_ := Aside0.mk (below_drew1 HB.out)
        have n1_ := Aside0.mk HP.out.drew
        have n2_ := Aside0.mk (Kept.drew HK.out)
        have n3_ := Aside0.mk (blk_drew BK3.out)
        have n4_ := Aside0.mk (Kd.R_drew HO.out)
        clear HB HP HK BK3 HO
        have HB := n0_
        have HP := n1_
        have HK := n2_
        have BK3 := n3_
        have HO := n4_
        clear n0_ n1_ n2_ n3_ n4_
        refine start_ (n := 18) (S := fun w' => w'.cell? ⟨g, 1, none⟩ = some (.slice (some ⟨gr, o, none⟩) c.length cap) ∧ w'.cell? ⟨gr, o + i * 2, none⟩ = some (.int .i64 a0) ∧ w'.cell? ⟨gr, o + i * 2 + 1, none⟩ = some (.int .i64 a1) ∧ w'.cell? ⟨g3, 0, none⟩ = some (.int .i64 x0) ∧ w'.cell? ⟨g3, 1, none⟩ = some (.int .i64 x1)) (ds := []) #[Ff,Ff,Ff,Ff,Ff,Ff,Ff,Ff,Ff,Ff,Ff,Ff,Ff,Ff,Ff,Ff,Ff,Ff] (by kernel_rfl) rfl rfl ⟨(blk_cell HP.out.blk 1).trans rfl, (HPR.out _ _ HP.out.row).1, (HPR.out _ _ HP.out.row).2, (blk_cell BK3.out 0).trans rfl, (blk_cell BK3.out 1).trans rfl⟩ (fun hHeld => ?_)
        generalize wr.drew = w5 at HB HP HK BK3 HO hHeld ⊢
        refine with_tabW RefP_Push.tab5 RefP_Push.bits5 (fun HT_ HW_ => ?_)
        refine pv_ 0 17 #[Tt,Ff,Ff,Ff,Ff,Ff,Ff,Ff,Ff,Ff,Ff,Ff,Ff,Ff,Ff,Ff,Ff,Ff] ?_
        refine pv_ 1 18 #[Tt,Tt,Ff,Ff,Ff,Ff,Ff,Ff,Ff,Ff,Ff,Ff,Ff,Ff,Ff,Ff,Ff,Ff] ?_
        refine pv_ 2 19 #[Tt,Tt,Tt,Ff,Ff,Ff,Ff,Ff,Ff,Ff,Ff,Ff,Ff,Ff,Ff,Ff,Ff,Ff] ?_
        refine pv_ 3 20 #[Tt,Tt,Tt,Tt,Ff,Ff,Ff,Ff,Ff,Ff,Ff,Ff,Ff,Ff,Ff,Ff,Ff,Ff] ?_
        refine take_ (i := 4) (N := (some 21)) (v := ?_) (a' := ?_) #[Tt,Tt,Tt,Tt,Tt,Ff,Ff,Ff,Ff,Ff,Ff,Ff,Ff,Ff,Ff,Ff,Ff,Ff] rfl rfl (take_ofW HT_.out HW_.out (by kernel_rfl)) (fun _ _ _ h => h) (Or.inl ⟨by rfl, ?_⟩) hHeld ?_ ?_
        rotate_left
        · rintro w' ⟨s0, s1, s2, s3, s4⟩
          go_simp
          with_reducible rfl
        rotate_left
        exact ap_
        refine pv_ 5 22 #[Tt,Tt,Tt,Tt,Tt,Tt,Ff,Ff,Ff,Ff,Ff,Ff,Ff,Ff,Ff,Ff,Ff,Ff] ?_
        refine pv_ 6 23 #[Tt,Tt,Tt,Tt,Tt,Tt,Tt,Ff,Ff,Ff,Ff,Ff,Ff,Ff,Ff,Ff,Ff,Ff] ?_
        refine pv_ 7 24 #[Tt,Tt,Tt,Tt,Tt,Tt,Tt,Tt,Ff,Ff,Ff,Ff,Ff,Ff,Ff,Ff,Ff,Ff] ?_
        refine pv_ 8 25 #[Tt,Tt,Tt,Tt,Tt,Tt,Tt,Tt,Tt,Ff,Ff,Ff,Ff,Ff,Ff,Ff,Ff,Ff] ?_
        refine pv_ 9 26 #[Tt,Tt,Tt,Tt,Tt,Tt,Tt,Tt,Tt,Tt,Ff,Ff,Ff,Ff,Ff,Ff,Ff,Ff] ?_
        refine pv_ 10 27 #[Tt,Tt,Tt,Tt,Tt,Tt,Tt,Tt,Tt,Tt,Tt,Ff,Ff,Ff,Ff,Ff,Ff,Ff] ?_
        refine pv_ 12 29 #[Tt,Tt,Tt,Tt,Tt,Tt,Tt,Tt,Tt,Tt,Tt,Ff,Tt,Ff,Ff,Ff,Ff,Ff] ?_
        refine take_ (i := 11) (N := (some 28)) (v := ?_) (a' := ?_) #[Tt,Tt,Tt,Tt,Tt,Tt,Tt,Tt,Tt,Tt,Tt,Tt,Tt,Ff,Ff,Ff,Ff,Ff] rfl rfl (take_ofW HT_.out HW_.out (by kernel_rfl)) (fun _ _ _ h => h) (Or.inl ⟨by rfl, ?_⟩) hHeld ?_ ?_
        rotate_left
        · rintro w' ⟨s0, s1, s2, s3, s4⟩
          go_simp
          with_reducible rfl
        rotate_left
        exact ap_
        refine pv_ 13 30 #[Tt,Tt,Tt,Tt,Tt,Tt,Tt,Tt,Tt,Tt,Tt,Tt,Tt,Tt,Ff,Ff,Ff,Ff] ?_
        refine take_ (i := 14) (N := (some 31)) (v := ?_) (a' := ?_) #[Tt,Tt,Tt,Tt,Tt,Tt,Tt,Tt,Tt,Tt,Tt,Tt,Tt,Tt,Tt,Ff,Ff,Ff] rfl rfl (take_ofW HT_.out HW_.out (by kernel_rfl)) (fun _ _ _ h => h) (Or.inl ⟨by rfl, ?_⟩) hHeld ?_ ?_
        rotate_left
        · rintro w' ⟨s0, s1, s2, s3, s4⟩
          go_simp
          with_reducible rfl
        rotate_left
        exact ap_
        refine take_ (i := 15) (N := (some 32)) (v := ?_) (a' := ?_) #[Tt,Tt,Tt,Tt,Tt,Tt,Tt,Tt,Tt,Tt,Tt,Tt,Tt,Tt,Tt,Tt,Ff,Ff] rfl rfl (take_ofW HT_.out HW_.out (by kernel_rfl)) (fun _ _ _ h => h) (Or.inl ⟨by rfl, ?_⟩) hHeld ?_ ?_
        rotate_left
        · rintro w' ⟨s0, s1, s2, s3, s4⟩
          go_simp
          with_reducible rfl
        rotate_left
        exact ap_
        refine one_ (i := 16) (N := (some 33)) #[Tt,Tt,Tt,Tt,Tt,Tt,Tt,Tt,Tt,Tt,Tt,Tt,Tt,Tt,Tt,Tt,Tt,Ff] rfl rfl (one_of HT_.out (by kernel_rfl)) (by decide) (fun K hK => ?_)
        refine goes_ Try.func31 (by kernel_rfl) rfl #[.agg #[.int .i64 a0, .int .i64 a1], .agg #[.int .i64 x0, .int .i64 x1]] (by rfl) rfl rfl (by (try simp only [List.map_toArray, List.map_cons, List.map_nil]); first | done | rfl) ?_
        refine (ebbtideref02_before.calls a0 a1 x0 x1 b2 _ HBEF.out).mono ?_
        rintro e w6 ⟨rfl, hb⟩
        have n0_ := Aside0.mk (below_step HB.out hb)
        have n1_ := Aside0.mk (HP.out.below hb)
        have n2_ := Aside0.mk (HK.out.below hb)
        have n3_ := Aside0.mk (blk_below BK3.out hb)
        have n4_ := Aside0.mk (Kd.R_below HO.out hb)
        clear HB HP HK BK3 HO hb hHeld
        have HB := n0_
        have HP := n1_
        have HK := n2_
        have BK3 := n3_
        have HO := n4_
        clear n0_ n1_ n2_ n3_ n4_
        refine ⟨_, rfl, hK.out _ _ ⟨(blk_cell HP.out.blk 1).trans rfl, (HPR.out _ _ HP.out.row).1, (HPR.out _ _ HP.out.row).2, (blk_cell BK3.out 0).trans rfl, (blk_cell BK3.out 1).trans rfl⟩ (fun hHeld => ?_)⟩
        clear hK K
        refine norm_ (a' := ?_) ?_ ?_
        rotate_left
        · show Act.put _ (some 33) _ = _
          simp only [Act.put, List.setIfInBounds_toArray, List.set_cons_zero, List.set_cons_succ, i64_w, i32_w]
          rfl
        refine pv_ 17 34 #[Tt,Tt,Tt,Tt,Tt,Tt,Tt,Tt,Tt,Tt,Tt,Tt,Tt,Tt,Tt,Tt,Tt,Tt] ?_
        refine done_ (done_of HT_.out (by kernel_rfl)) ?_
        clear hHeld HT_ HW_
        cases b2
        · have HDone : Aside0 (∀ (h : i < c.length), ¬ plt (pr c[i]) (x0, x1)) := ⟨fun h => by rw [HA.out]; exact of_decide_eq_false HB2.out⟩
          generalize hA2 : (some (⟨gr, o, none⟩ : Addr)) = A at HP
          have z := (blk_cell HP.out.blk 1).trans (rfl : _ = some (Value.slice A c.length cap))
          have y := blk_frozen HP.out.blk 1
          have z0 := (blk_cell BK3.out 0).trans (rfl : _ = some (Value.int .i64 x0))
          have z1 := (blk_cell BK3.out 1).trans (rfl : _ = some (Value.int .i64 x1))
          have p1 := eq_true (show (0 : Int) ≤ (i : Int) by omega)
          have p3 := eq_true (show (i : Int) ≤ (c.length : Int) by have := HI.out; omega)
          have p4 := eq_true (show (c.length : Int) ≤ (cap : Int) by have := HCAP.out; omega)
          have p5 := eq_true (show i ≤ c.length by have := HI.out; omega)
          have p6 := eq_true HCAP.out
          by_cases c3 : cap = i
          · have c4 := eq_true c3
            have HC3 := Aside0.mk c3
            clear c3
            go_wp2_with (first
              | ((with_reducible refine gate_builtin (b := .append) (xs := #[.tmp 47, .tmp 49]) rfl ?_); at_builtin; refine Kd.R_append k34 (w0 := w0) w0.heap.size rfl (.tmp 47) (.tmp 49) 38 34 (.agg #[(.int .i64 0), (.int .i64 0)]) 16 rfl Try.underlying38 info34 rfl (by decide) (by omega) u5 (c.take i) (⟨x0, x1⟩ : S34) [.int .i64 (⟨x0, x1⟩ : S34).f0, .int .i64 (⟨x0, x1⟩ : S34).f1] (fun k => w.heap.size ≤ k ∧ k ≠ g3) (fun _ => False) rfl rfl (k34_mkM _ _ _ _) (fun _ hk => hk.elim) (fun k hk => ⟨Nat.le_trans HK.out.1 hk, fun e_ => by have := blk_lt BK3.out; omega⟩) HO.out HB.out (below_size HB.out) (by have := HLM.out; have := HI.out; rw [List.length_take]; omega) ?_; intro v1 w8 ho hb hg hat; have hgn := fun k_ (e_ : u5.ownBlock = some k_) => (HO.out.1 k_ e_); have hkp : Kept _ w8 (fun k => w.heap.size ≤ k ∧ k ≠ g3) := Kept.of_grown hg (Kept.refl _ _) (fun k_ e_ => Or.inl (hgn k_ e_)); have n0_ := Aside0.mk hb; have n1_ := Aside0.mk (HP.out.kept hkp (fun e_ => by have := HGL.out; omega) (fun k hk e_ => by have := hk.2; omega)); have n2_ := Aside0.mk (Kept.then_ HK.out hkp (fun k hk => Or.inr hk.1)); have n3_ := Aside0.mk (Kept.blk hkp BK3.out (fun e_ => e_.2 rfl)); have n4_ := Aside0.mk ho; clear HB HP HK BK3 HO hgn hkp ho hb hg hat; have HB := n0_; have HP := n1_; have HK := n2_; have BK3 := n3_; have HO := n4_; clear n0_ n1_ n2_ n3_ n4_; clear z y z0 z1; have z := (blk_cell HP.out.blk 1).trans (rfl : _ = some (Value.slice A c.length cap)); have y := blk_frozen HP.out.blk 1)
              | ((with_reducible refine gate_builtin (b := .append) (xs := #[.tmp 52, .tmp 58]) rfl ?_); at_builtin; have hd_ := Kd.Q_drop (k := i) HP.out.row (by have := HI.out; omega); rw [if_pos HC3.out] at hd_; have hrd := (Kd.Q_reads' hd_).2.2; rw [List.length_drop] at hrd; refine Kd.R_append_rows k34 (Rr := k34.K _) (w0 := w0) w0.heap.size rfl (.tmp 52) (.tmp 58) 38 34 (.agg #[(.int .i64 0), (.int .i64 0)]) 16 rfl Try.underlying38 info34 rfl (by decide) (by omega) v1 (c.take i ++ [(⟨x0, x1⟩ : S34)]) (c.drop i) (A) (c.length - i) (cap - i) (fun k => w.heap.size ≤ k ∧ k ≠ g3) (fun _ => False) rfl rfl HO.out hrd (fun x cs h => by obtain rfl := k34_open h; exact k34_mkM _ _ _ x) (fun _ hk => hk.elim) (fun k hk => ⟨Nat.le_trans HK.out.1 hk, fun e_ => by have := blk_lt BK3.out; omega⟩) HB.out (below_size HB.out) (by have := HLM.out; have := HI.out; simp only [List.length_append, List.length_take, List.length_cons, List.length_nil]; omega) ?_; clear hd_ hrd; intro v2 w9 ho hb hg hat; have hgn := fun k_ (e_ : v1.ownBlock = some k_) => (HO.out.1 k_ e_); have hkp : Kept _ w9 (fun k => w.heap.size ≤ k ∧ k ≠ g3) := Kept.of_grown hg (Kept.refl _ _) (fun k_ e_ => Or.inl (hgn k_ e_)); have n0_ := Aside0.mk hb; have n1_ := Aside0.mk (HP.out.kept hkp (fun e_ => by have := HGL.out; omega) (fun k hk e_ => by have := hk.2; omega)); have n2_ := Aside0.mk (Kept.then_ HK.out hkp (fun k hk => Or.inr hk.1)); have n3_ := Aside0.mk (Kept.blk hkp BK3.out (fun e_ => e_.2 rfl)); have n4_ := Aside0.mk ho; clear HB HP HK BK3 HO hgn hkp ho hb hg hat z y; have HB := n0_; have HP := n1_; have HK := n2_; have BK3 := n3_; have HO := n4_; clear n0_ n1_ n2_ n3_ n4_; have z := (blk_cell HP.out.blk 1).trans (rfl : _ = some (Value.slice A c.length cap)); have y := blk_frozen HP.out.blk 1; rw [insL_cut ⟨x0, x1⟩ c i (by have := HI.out; omega) HALL.out HDone.out] at HO; obtain ⟨A3, cap3, e3⟩ := Kd.R_slice HO.out; subst e3))
            go_ret
            exact ⟨below_set HB.out HP.out.ge, Kept.setCell (p := ⟨g, 1, none⟩) HK.out (Or.inl (Or.inl rfl)) _, rfl, _, (HP.out.mono (ok' := ok) (fun k hk => hk.1)).put (Kd.Q_of_R (Kd.R_mono HO.out (fun k hk => ⟨HF.out k hk.1, fun e_ => by have := HGL.out; have := hk.1; omega⟩))) (by have := HLM.out; have := HNE.out; rw [insL_length]; omega)⟩
          · have c4 := eq_false c3
            have HC3 := Aside0.mk c3
            clear c3
            rcases Q_form2 HP.out.row with h0_ | ⟨gr, o, eA⟩
            · exact absurd h0_ (by have := HC3.out; have := HCAP.out; have := HI.out; omega)
            subst eA
            go_wp2_with (first
              | ((with_reducible refine gate_builtin (b := .append) (xs := #[.tmp 47, .tmp 49]) rfl ?_); at_builtin; refine Kd.R_append k34 (w0 := w0) w0.heap.size rfl (.tmp 47) (.tmp 49) 38 34 (.agg #[(.int .i64 0), (.int .i64 0)]) 16 rfl Try.underlying38 info34 rfl (by decide) (by omega) u5 (c.take i) (⟨x0, x1⟩ : S34) [.int .i64 (⟨x0, x1⟩ : S34).f0, .int .i64 (⟨x0, x1⟩ : S34).f1] (fun k => w.heap.size ≤ k ∧ k ≠ g3) (fun _ => False) rfl rfl (k34_mkM _ _ _ _) (fun _ hk => hk.elim) (fun k hk => ⟨Nat.le_trans HK.out.1 hk, fun e_ => by have := blk_lt BK3.out; omega⟩) HO.out HB.out (below_size HB.out) (by have := HLM.out; have := HI.out; rw [List.length_take]; omega) ?_; intro v1 w8 ho hb hg hat; have hgn := fun k_ (e_ : u5.ownBlock = some k_) => (HO.out.1 k_ e_); have hkp : Kept _ w8 (fun k => w.heap.size ≤ k ∧ k ≠ g3) := Kept.of_grown hg (Kept.refl _ _) (fun k_ e_ => Or.inl (hgn k_ e_)); have n0_ := Aside0.mk hb; have n1_ := Aside0.mk (HP.out.kept hkp (fun e_ => by have := HGL.out; omega) (fun k hk e_ => by have := hk.2; omega)); have n2_ := Aside0.mk (Kept.then_ HK.out hkp (fun k hk => Or.inr hk.1)); have n3_ := Aside0.mk (Kept.blk hkp BK3.out (fun e_ => e_.2 rfl)); have n4_ := Aside0.mk ho; clear HB HP HK BK3 HO hgn hkp ho hb hg hat; have HB := n0_; have HP := n1_; have HK := n2_; have BK3 := n3_; have HO := n4_; clear n0_ n1_ n2_ n3_ n4_; clear z y z0 z1; have z := (blk_cell HP.out.blk 1).trans (rfl : _ = some (Value.slice (some ⟨gr, o, none⟩) c.length cap)); have y := blk_frozen HP.out.blk 1)
              | ((with_reducible refine gate_builtin (b := .append) (xs := #[.tmp 52, .tmp 58]) rfl ?_); at_builtin; have hd_ := Kd.Q_drop (k := i) HP.out.row (by have := HI.out; omega); rw [if_neg HC3.out] at hd_; have hrd := (Kd.Q_reads' hd_).2.2; rw [show (Option.map (fun x : Addr => x.add (i * k34.sz)) (some (⟨gr, o, none⟩ : Addr))) = some ⟨gr, o + i * 2, none⟩ from congrArg some (addr_add gr o (i * 2))] at hrd; rw [List.length_drop] at hrd; refine Kd.R_append_rows k34 (Rr := k34.K _) (w0 := w0) w0.heap.size rfl (.tmp 52) (.tmp 58) 38 34 (.agg #[(.int .i64 0), (.int .i64 0)]) 16 rfl Try.underlying38 info34 rfl (by decide) (by omega) v1 (c.take i ++ [(⟨x0, x1⟩ : S34)]) (c.drop i) (some ⟨gr, o + i * 2, none⟩) (c.length - i) (cap - i) (fun k => w.heap.size ≤ k ∧ k ≠ g3) (fun _ => False) rfl rfl HO.out hrd (fun x cs h => by obtain rfl := k34_open h; exact k34_mkM _ _ _ x) (fun _ hk => hk.elim) (fun k hk => ⟨Nat.le_trans HK.out.1 hk, fun e_ => by have := blk_lt BK3.out; omega⟩) HB.out (below_size HB.out) (by have := HLM.out; have := HI.out; simp only [List.length_append, List.length_take, List.length_cons, List.length_nil]; omega) ?_; clear hd_ hrd; intro v2 w9 ho hb hg hat; have hgn := fun k_ (e_ : v1.ownBlock = some k_) => (HO.out.1 k_ e_); have hkp : Kept _ w9 (fun k => w.heap.size ≤ k ∧ k ≠ g3) := Kept.of_grown hg (Kept.refl _ _) (fun k_ e_ => Or.inl (hgn k_ e_)); have n0_ := Aside0.mk hb; have n1_ := Aside0.mk (HP.out.kept hkp (fun e_ => by have := HGL.out; omega) (fun k hk e_ => by have := hk.2; omega)); have n2_ := Aside0.mk (Kept.then_ HK.out hkp (fun k hk => Or.inr hk.1)); have n3_ := Aside0.mk (Kept.blk hkp BK3.out (fun e_ => e_.2 rfl)); have n4_ := Aside0.mk ho; clear HB HP HK BK3 HO hgn hkp ho hb hg hat z y; have HB := n0_; have HP := n1_; have HK := n2_; have BK3 := n3_; have HO := n4_; clear n0_ n1_ n2_ n3_ n4_; have z := (blk_cell HP.out.blk 1).trans (rfl : _ = some (Value.slice (some ⟨gr, o, none⟩) c.length cap)); have y := blk_frozen HP.out.blk 1; rw [insL_cut ⟨x0, x1⟩ c i (by have := HI.out; omega) HALL.out HDone.out] at HO; obtain ⟨A3, cap3, e3⟩ := Kd.R_slice HO.out; subst e3))
            go_ret
            exact ⟨below_set HB.out HP.out.ge, Kept.setCell (p := ⟨g, 1, none⟩) HK.out (Or.inl (Or.inl rfl)) _, rfl, _, (HP.out.mono (ok' := ok) (fun k hk => hk.1)).put (Kd.Q_of_R (Kd.R_mono HO.out (fun k hk => ⟨HF.out k hk.1, fun e_ => by have := HGL.out; have := hk.1; omega⟩))) (by have := HLM.out; have := HNE.out; rw [insL_length]; omega)⟩
        · have z := (blk_cell HP.out.blk 1).trans (rfl : _ = some (Value.slice (some ⟨gr, o, none⟩) c.length cap))
          have q0 := (HPR.out _ _ HP.out.row).1
          have q1 := (HPR.out _ _ HP.out.row).2
          have hwi : wrap64 ((i : Int) + 1) = ((i + 1 : Nat) : Int) := wrapId (by omega) (by have := HLT.out; have := HLM.out; omega)
          have HWI := Aside0.mk hwi
          clear hwi
          go_wp2_with (first
            | ((with_reducible refine gate_builtin (b := .append) (xs := #[.tmp 35, .tmp 43]) rfl ?_); at_builtin; refine Kd.R_append k34 (w0 := w0) w0.heap.size rfl (.tmp 35) (.tmp 43) 38 34 (.agg #[(.int .i64 0), (.int .i64 0)]) 16 rfl Try.underlying38 info34 rfl (by decide) (by omega) u5 (c.take i) (⟨a0, a1⟩ : S34) [.int .i64 (⟨a0, a1⟩ : S34).f0, .int .i64 (⟨a0, a1⟩ : S34).f1] (fun k => w.heap.size ≤ k ∧ k ≠ g3) (fun _ => False) rfl rfl (k34_mkM _ _ _ _) (fun _ hk => hk.elim) (fun k hk => ⟨Nat.le_trans HK.out.1 hk, fun e_ => by have := blk_lt BK3.out; omega⟩) HO.out HB.out (below_size HB.out) (by have := HLM.out; have := HI.out; rw [List.length_take]; omega) ?_; intro v1 w8 ho hb hg hat; have hgn := fun k_ (e_ : u5.ownBlock = some k_) => (HO.out.1 k_ e_); have hkp : Kept _ w8 (fun k => w.heap.size ≤ k ∧ k ≠ g3) := Kept.of_grown hg (Kept.refl _ _) (fun k_ e_ => Or.inl (hgn k_ e_)); have n0_ := Aside0.mk hb; have n1_ := Aside0.mk (HP.out.kept hkp (fun e_ => by have := HGL.out; omega) (fun k hk e_ => by have := hk.2; omega)); have n2_ := Aside0.mk (Kept.then_ HK.out hkp (fun k hk => Or.inr hk.1)); have n3_ := Aside0.mk (Kept.blk hkp BK3.out (fun e_ => e_.2 rfl)); have n4_ := Aside0.mk ho; clear HB HP HK BK3 HO hgn hkp ho hb hg hat; have HB := n0_; have HP := n1_; have HK := n2_; have BK3 := n3_; have HO := n4_; clear n0_ n1_ n2_ n3_ n4_; clear z q0 q1; rw [show c.take i ++ [(⟨a0, a1⟩ : S34)] = c.take (i + 1) by rw [← HA.out, List.take_succ_eq_append_getElem HLT.out]] at HO))
          go_roundg gk
          case measure => omega
          case rel => exact ⟨i + 1, congrArg (Value.int .i64) HWI.out, ⟨by have := HI.out; omega⟩, ⟨fun j h hj => by
            rcases Nat.lt_or_ge j i with h1 | h1
            · exact HALL.out j h h1
            · have : j = i := by omega
              subst this
              rw [HA.out]; exact of_decide_eq_true HB2.out⟩, HB, HP, HK, BK3, HO⟩
  · have HEQ : Aside0 ((c.length : Int) = most) := ⟨by have := of_decide_eq_true hf; have := HLM.out; omega⟩
    simp only [if_pos HEQ.out]
    go_enter Try.func17, Try.ntmps17
    go_wp2_with ((with_reducible refine gate_dst (N := 3) rfl ?_); refine box_event ?hg (N := 3) ?hd (cs := #[.int .i64 x0, .int .i64 x1]) (t := 34) ?hr ?_; (case hd => rfl); (case hg => rfl); (case hr => first | (go_simp; done) | (go_simp; rfl)); intro g3 hg w2 hbox hb; have GE3 := Aside0.mk (show w.heap.size ≤ g3 by rw [hg]; exact HK.out.1); have n0_ := Aside0.mk (below_step HB.out hb); have n1_ := Aside0.mk (HP.out.below hb); have n2_ := Aside0.mk (HK.out.below hb); have n3_ := Aside0.mk hbox; clear HB HP HK hb hbox hg; have HB := n0_; have HP := n1_; have HK := n2_; have BK3 := n3_; clear n0_ n1_ n2_ n3_)
    have n0_ := Aside0.mk (below_drew1 HB.out)
    have n1_ := Aside0.mk HP.out.drew
    have n2_ := Aside0.mk (Kept.drew HK.out)
    have n3_ := Aside0.mk (blk_drew BK3.out)
    clear HB HP HK BK3
    have HB := n0_
    have HP := n1_
    have HK := n2_
    have BK3 := n3_
    clear n0_ n1_ n2_ n3_
    refine start_ (n := 10) (S := fun w' => w'.cell? ⟨g, 0, none⟩ = some (.int .i64 most) ∧ w'.cell? ⟨g, 1, none⟩ = some (.slice A c.length cap)) (ds := []) #[Ff,Ff,Ff,Ff,Ff,Ff,Ff,Ff,Ff,Ff] (by kernel_rfl) rfl rfl ⟨(blk_cell HP.out.blk 0).trans rfl, (blk_cell HP.out.blk 1).trans rfl⟩ (fun hHeld => ?_)
    generalize w2.drew = w3 at HB HP HK BK3 hHeld ⊢
    refine with_tabW RefP_Push.tab1 RefP_Push.bits1 (fun HT_ HW_ => ?_)
    refine pv_ 0 7 #[Tt,Ff,Ff,Ff,Ff,Ff,Ff,Ff,Ff,Ff] ?_
    refine pv_ 1 8 #[Tt,Tt,Ff,Ff,Ff,Ff,Ff,Ff,Ff,Ff] ?_
    refine pv_ 2 9 #[Tt,Tt,Tt,Ff,Ff,Ff,Ff,Ff,Ff,Ff] ?_
    refine pv_ 5 12 #[Tt,Tt,Tt,Ff,Ff,Tt,Ff,Ff,Ff,Ff] ?_
    refine pv_ 6 13 #[Tt,Tt,Tt,Ff,Ff,Tt,Tt,Ff,Ff,Ff] ?_
    refine pv_ 7 14 #[Tt,Tt,Tt,Ff,Ff,Tt,Tt,Tt,Ff,Ff] ?_
    refine take_ (i := 3) (N := (some 10)) (v := ?_) (a' := ?_) #[Tt,Tt,Tt,Tt,Ff,Tt,Tt,Tt,Ff,Ff] rfl rfl (take_ofW HT_.out HW_.out (by kernel_rfl)) (fun _ _ _ h => h) (Or.inl ⟨by rfl, ?_⟩) hHeld ?_ ?_
    rotate_left
    · rintro w' ⟨s0, s1⟩
      go_simp
      with_reducible rfl
    rotate_left
    exact ap_
    refine pv_ 4 11 #[Tt,Tt,Tt,Tt,Tt,Tt,Tt,Tt,Ff,Ff] ?_
    refine take_ (i := 8) (N := (some 15)) (v := ?_) (a' := ?_) #[Tt,Tt,Tt,Tt,Tt,Tt,Tt,Tt,Tt,Ff] rfl rfl (take_ofW HT_.out HW_.out (by kernel_rfl)) (fun _ _ _ h => h) (Or.inl ⟨by rfl, ?_⟩) hHeld ?_ ?_
    rotate_left
    · rintro w' ⟨s0, s1⟩
      go_simp
      with_reducible rfl
    rotate_left
    exact ap_
    refine pv_ 9 16 #[Tt,Tt,Tt,Tt,Tt,Tt,Tt,Tt,Tt,Tt] ?_
    refine done_ (done_of HT_.out (by kernel_rfl)) ?_
    clear hHeld HT_ HW_
    go_wp2
    go_ret
    exact ⟨HB.out, HK.out, rfl, _, HP.out.mono (fun k hk => hk.1)⟩
end Go.Proofs.Ytloebciamfbjfaa.Q
end
section
namespace Go.Proofs.Ytloebciamfbjfaa.Q
open Go.RowKit Go.Proofs.YtloebciamfbjfaaW.PrintWords Go.Proofs.YtloebciamfbjfaaW.PrintLast Go.Proofs.YtloebciamfbjfaaW.PrintMore
set_option linter.unusedVariables false
set_option linter.unusedSimpArgs false
theorem eqA34 (d : Nat) (w : World) (x0 y0 : Int) (x1 y1 : Int) :
  (Op.equalIn (d + 2) 34 (.agg #[.int .i64 x0, .int .i64 x1]) (.agg #[.int .i64 y0, .int .i64 y1])).run Try.prog w = .ok (x0 == y0 && (x1 == y1)) w := by
 refine eqA_of Try.underlying34 (by kernel_rfl) ?_; refine eqf_cons (by rfl) (by go_simp; rfl) (by go_simp; rfl) (by go_simp) ?_; exact eqf_last (by rfl) (by go_simp; rfl) (by go_simp; rfl) (by go_simp)
end Go.Proofs.Ytloebciamfbjfaa.Q
end
