/- A part of the proof: words, contracts, plain lemmas. Conditions: none. -/
import Derived.Test.YtfhkkbpkajfdlaaZExpandRuns5
set_option linter.unusedSimpArgs false
set_option linter.unusedVariables false
section
namespace Go.Proofs.Ytfhkkbpkajfdlaa.Q
open Go.RowKit Go.Maps Go.Proofs.YtfhkkbpkajfdlaaW.PrintWords Go.Proofs.YtfhkkbpkajfdlaaW.PrintLast Go.Proofs.YtfhkkbpkajfdlaaW.PrintMore
abbrev GS : Type := List S54 × List ((Int × Int) × Int) × List ((Int × Int) × Int)
def arcStep (V H s t : Int) (a : Int) (g : GS) (i : Nat) (x : S54) : GS :=
 if a + x.f3 ≤ H ∧ (x.f1 != s && x.f0 != t) = true then (g.1 ++ [⟨a * V + x.f0, (a + x.f3) * V + x.f1, x.f2, 0⟩], g.2.1 ++ [(((i : Int), a), (g.1.length : Int))], g.2.2) else g
def arcLoop (V H s t : Int) (l0 : List S54) (a : Int) (g : GS) (n : Nat) : GS := (List.range n).foldl (fun g i => arcStep V H s t a g i (l0.getD i z54)) g
def waitStep (V H : Int) (hold : Bool) (s t : Int) (a : Int) (g : GS) (v : Nat) : GS :=
 if a < H ∧ ((hold && (v : Int) != s) && (v : Int) != t) = true then (g.1 ++ [⟨a * V + (v : Int), (a + 1) * V + (v : Int), 1099511627776, 0⟩], g.2.1, g.2.2 ++ [(((v : Int), a), (g.1.length : Int))]) else g
def waitLoop (V H : Int) (hold : Bool) (s t : Int) (a : Int) (g : GS) (n : Nat) : GS := (List.range n).foldl (fun g v => waitStep V H hold s t a g v) g
def atLoop (V H : Int) (hold : Bool) (s t : Int) (l0 : List S54) (n : Nat) : GS := (List.range n).foldl (fun (g : GS) (k : Nat) => waitLoop V H hold s t (k : Int) (arcLoop V H s t l0 (k : Int) g l0.length) V.toNat) ([], [], [])
def Bal (g : GS) : Prop := g.1.length = g.2.1.length + g.2.2.length
theorem arcStep_bal {V H s t a : Int} {g : GS} {i : Nat} {x : S54} (h : Bal g) : Bal (arcStep V H s t a g i x) ∧ (arcStep V H s t a g i x).1.length ≤ g.1.length + 1 := by
 unfold arcStep Bal at *
 split
 ·simp only [List.length_append, List.length_cons, List.length_nil]; omega
 ·exact ⟨h, by omega⟩
theorem waitStep_bal {V H s t a : Int} {hold : Bool} {g : GS} {v : Nat} (h : Bal g) : Bal (waitStep V H hold s t a g v) ∧ (waitStep V H hold s t a g v).1.length ≤ g.1.length + 1 := by
 unfold waitStep Bal at *
 split
 ·simp only [List.length_append, List.length_cons, List.length_nil]; omega
 ·exact ⟨h, by omega⟩
theorem arcLoop_succ (V H s t : Int) (l0 : List S54) (a : Int) (g : GS) (n : Nat) : arcLoop V H s t l0 a g (n + 1) = arcStep V H s t a (arcLoop V H s t l0 a g n) n (l0.getD n z54) := by
 unfold arcLoop; rw [List.range_succ, List.foldl_append]; rfl
theorem waitLoop_succ (V H : Int) (hold : Bool) (s t : Int) (a : Int) (g : GS) (n : Nat) : waitLoop V H hold s t a g (n + 1) = waitStep V H hold s t a (waitLoop V H hold s t a g n) n := by
 unfold waitLoop; rw [List.range_succ, List.foldl_append]; rfl
theorem atLoop_succ (V H : Int) (hold : Bool) (s t : Int) (l0 : List S54) (n : Nat) : atLoop V H hold s t l0 (n + 1) = waitLoop V H hold s t (n : Int) (arcLoop V H s t l0 (n : Int) (atLoop V H hold s t l0 n) l0.length) V.toNat := by
 unfold atLoop; rw [List.range_succ, List.foldl_append]; rfl
theorem arcLoop_bal {V H s t : Int} {l0 : List S54} {a : Int} {g : GS} (h : Bal g) : ∀ n, Bal (arcLoop V H s t l0 a g n) ∧ (arcLoop V H s t l0 a g n).1.length ≤ g.1.length + n
 | 0 => ⟨h, Nat.le_refl _⟩
 | n + 1 => by
  rw [arcLoop_succ]
  obtain ⟨h1, h2⟩ := arcLoop_bal h n
  obtain ⟨h3, h4⟩ := arcStep_bal (V := V) (H := H) (s := s) (t := t) (a := a) (i := n) (x := l0.getD n z54) h1
  exact ⟨h3, by omega⟩
theorem waitLoop_bal {V H s t : Int} {hold : Bool} {a : Int} {g : GS} (h : Bal g) : ∀ n, Bal (waitLoop V H hold s t a g n) ∧ (waitLoop V H hold s t a g n).1.length ≤ g.1.length + n
 | 0 => ⟨h, Nat.le_refl _⟩
 | n + 1 => by
  rw [waitLoop_succ]
  obtain ⟨h1, h2⟩ := waitLoop_bal h n
  obtain ⟨h3, h4⟩ := waitStep_bal (V := V) (H := H) (hold := hold) (s := s) (t := t) (a := a) (v := n) h1
  exact ⟨h3, by omega⟩
theorem atLoop_bal {V H s t : Int} {hold : Bool} {l0 : List S54} (hV : V ≤ 50) (hl : l0.length ≤ 200) : ∀ n, Bal (atLoop V H hold s t l0 n) ∧ (atLoop V H hold s t l0 n).1.length ≤ 250 * n
 | 0 => ⟨rfl, Nat.le_refl _⟩
 | n + 1 => by
  rw [atLoop_succ]
  obtain ⟨h1, h2⟩ := atLoop_bal (H := H) (s := s) (t := t) (hold := hold) hV hl n
  obtain ⟨h3, h4⟩ := arcLoop_bal (V := V) (H := H) (s := s) (t := t) (l0 := l0) (a := (n : Int)) h1 l0.length
  obtain ⟨h5, h6⟩ := waitLoop_bal (V := V) (H := H) (hold := hold) (s := s) (t := t) (a := (n : Int)) h3 V.toNat
  exact ⟨h5, by omega⟩
theorem wf_i64B {n : Int} (h0 : -9223372036854775808 ≤ n) (h1 : n ≤ 9223372036854775807) : w64 n := by
 unfold w64
 simp [Lit.wf, IntKind.min, IntKind.max, IntKind.bits, IntKind.signed]
 omega
theorem wrapId {n : Int} (h0 : -1000000000000 ≤ n) (h1 : n ≤ 1000000000000) : wrap64 n = n := by unfold wrap64; omega
theorem mulB {a b : Int} (h0 : 0 ≤ a) (h1 : a ≤ 1050000) (g0 : 0 ≤ b) (g1 : b ≤ 50) : 0 ≤ a * b ∧ a * b ≤ 52500000 :=
 ⟨Int.mul_nonneg h0 g0, Int.le_trans (Int.mul_le_mul h1 g1 g0 (by decide)) (by decide)⟩
def okA (V : Int) (x : S54) : Bool := decide (0 ≤ x.f0 ∧ x.f0 < V ∧ 0 ≤ x.f1 ∧ x.f1 < V ∧ 0 ≤ x.f2 ∧ x.f2 ≤ 1048576 ∧ 0 ≤ x.f3 ∧ x.f3 ≤ 1048576)
def okNet (V H : Int) (l0 : List S54) : Bool := decide (0 ≤ V ∧ V ≤ 50 ∧ 0 ≤ H ∧ H ≤ 1024 ∧ l0.length ≤ 200) && l0.all (okA V)
theorem Kept.blk {w w' : World} {S : Nat → Prop} {g : Nat} {o : Obj} (hk : Kept w w' S) (h : w.heap[g]? = some o) (hn : ¬ S g) : w'.heap[g]? = some o := (hk.2 g (blk_lt h) hn).trans h
theorem GridW.box4 {w : World} {base : Nat} {ok : Nat → Prop} {gg ga : Nat} {N V : Int} {v : Value} {arcs : List S54} {m1 m2 m3 m4 : Nat} {l1 l2 : List ((Int × Int) × Int)} {l3 l4 : List (Int × Int)} {a0 a1 a2 a3 : Value}
 (h : GridW w base (fun k => ok k ∧ k ≠ ga) gg N V v arcs m1 m2 m3 m4 l1 l2 l3 l4) (hb : w.heap[ga]? = some (.cells #[a0, a1, a2, a3] 54 (0, 0))) (hne : gg ≠ ga) (f0 f1 f2 f3 : Value) :
 GridW ((((w.setCell ⟨ga, 0, none⟩ f0).setCell ⟨ga, 1, none⟩ f1).setCell ⟨ga, 2, none⟩ f2).setCell ⟨ga, 3, none⟩ f3) base (fun k => ok k ∧ k ≠ ga) gg N V v arcs m1 m2 m3 m4 l1 l2 l3 l4 ∧ ((((w.setCell ⟨ga, 0, none⟩ f0).setCell ⟨ga, 1, none⟩ f1).setCell ⟨ga, 2, none⟩ f2).setCell ⟨ga, 3, none⟩ f3).heap[ga]? = some (.cells #[f0, f1, f2, f3] 54 (0, 0)) := by
 have b0 := blk_put (cs' := #[f0, a1, a2, a3]) hb 0 f0 rfl
 have b1 := blk_put (cs' := #[f0, f1, a2, a3]) b0 1 f1 rfl
 have b2 := blk_put (cs' := #[f0, f1, f2, a3]) b1 2 f2 rfl
 have b3 := blk_put (cs' := #[f0, f1, f2, f3]) b2 3 f3 rfl
 exact ⟨(((h.far hb hne (fun hk => hk.2 rfl) 0 f0).far b0 hne (fun hk => hk.2 rfl) 1 f1).far b1 hne (fun hk => hk.2 rfl) 2 f2).far b2 hne (fun hk => hk.2 rfl) 3 f3, b3⟩
theorem GridW.setN {w : World} {base : Nat} {ok : Nat → Prop} {gg : Nat} {N V : Int} {v : Value} {arcs : List S54} {m1 m2 m3 m4 : Nat} {l1 l2 : List ((Int × Int) × Int)} {l3 l4 : List (Int × Int)}
 (h : GridW w base ok gg N V v arcs m1 m2 m3 m4 l1 l2 l3 l4) (N' : Int) : GridW (w.setCell ⟨gg, 0, none⟩ (.int .i64 N')) base ok gg N' V v arcs m1 m2 m3 m4 l1 l2 l3 l4 :=
 ⟨blk_put (cs' := #[.int .i64 N', .bool false, v, .map (some m1), .map (some m2), .map (some m3), .map (some m4), .int .i64 V]) h.blk 0 _ rfl, Kd.R_far (p := ⟨gg, 0, none⟩) h.row (fun k hk => hk.2) _, h.ge, h.M1.farg (h.M1.ne h.blk) _, h.M2.farg (h.M2.ne h.blk) _, h.M3.farg (h.M3.ne h.blk) _, h.M4.farg (h.M4.ne h.blk) _, h.o1, h.o2, h.o3, h.o4⟩
def expand_Begin.T10 : Bool × List (List Nat × List Nat) := (true, [([], []), ([0], [0]), ([1], [1]), ([2], [2]), ([], []), ([], []), ([4, 5], [4, 5]), ([], []), ([], []), ([], []), ([9], [9]), ([], []), ([8, 10, 11], [8, 10, 11]), ([], []), ([], []), ([14], [14]), ([], []), ([], []), ([17], [17]), ([16, 18], [16, 18]), ([13, 15, 19, 12], [13, 15, 19]), ([], []), ([21], [21]), ([7, 12, 20, 22, 20], [7, 12, 20, 22]), ([3, 6, 23, 23, 0, 1, 2, 3, 4, 5, 6, 7, 8, 9, 10, 11, 12, 13, 14, 15, 16, 17, 18, 19, 20, 21, 22, 23], [3, 6, 23])])
def expand_Begin.B10 : List Nat := [0, 1, 3, 7, 0, 0, 48, 0, 0, 0, 512, 0, 3840, 0, 0, 16384, 0, 0, 131072, 458752, 1048320, 0, 2097152, 8388480, 16777215]
theorem expand_Begin.tab10 : rtab .any (opsOf Try.f59 10) = expand_Begin.T10 := by kernel_rfl
theorem expand_Begin.bits10 : waitsOk expand_Begin.T10.2 expand_Begin.B10 = true := by kernel_rfl
def expand_Begin.T16 : Bool × List (List Nat × List Nat) := (true, [([], []), ([0], [0]), ([1], [1]), ([2], [2]), ([], []), ([], []), ([4, 5], [4, 5]), ([], []), ([], []), ([], []), ([], []), ([8, 9, 10], [8, 9, 10]), ([], []), ([], []), ([], []), ([14], [14]), ([12, 13, 15, 11], [12, 13, 15]), ([7, 11, 16, 16], [7, 11, 16]), ([3, 6, 17, 17, 0, 1, 2, 3, 4, 5, 6, 7, 8, 9, 10, 11, 12, 13, 14, 15, 16, 17], [3, 6, 17])])
def expand_Begin.B16 : List Nat := [0, 1, 3, 7, 0, 0, 48, 0, 0, 0, 0, 1792, 0, 0, 0, 16384, 65280, 130944, 262143]
theorem expand_Begin.tab16 : rtab .any (opsOf Try.f59 16) = expand_Begin.T16 := by kernel_rfl
theorem expand_Begin.bits16 : waitsOk expand_Begin.T16.2 expand_Begin.B16 = true := by kernel_rfl
set_option maxHeartbeats 8000000 in
set_option maxRecDepth 100000 in
theorem expand_Begin.calls (V H s t : Int) (hold : Bool) (A0 : Option Addr) (c0 : Nat) (l0 : List S54) (gs gt gn : Nat) (w : World) (hr0 : Kd.C k54 w A0 l0.length l0) (hc0 : l0.length ≤ c0)
 (hs : w.heap[gs]? = some (.cells #[.int .i64 s] 3 (0, 0))) (ht : w.heap[gt]? = some (.cells #[.int .i64 t] 3 (0, 0))) (hn : w.heap[gn]? = some (.cells #[.int .i64 V, .bool hold, .slice A0 l0.length c0] 24 (0, 0))) (hok : okNet V H l0 = true) :
 Calls Try.prog 59 #[.agg #[.int .i64 V, .bool hold, .slice A0 l0.length c0], .int .i64 H, .func (.func 60) #[] #[.pointer (some ⟨gs, 0, none⟩), .pointer (some ⟨gt, 0, none⟩)], .func (.func 61) #[] #[.pointer (some ⟨gn, 0, none⟩), .pointer (some ⟨gs, 0, none⟩), .pointer (some ⟨gt, 0, none⟩)]] w fun e w' =>
  ∃ gg v m1 m2 m3 m4, e = .returned (.pointer (some ⟨gg, 0, none⟩)) ∧ GridW w' w.heap.size (fun _ => True) gg ((H + 1) * V + 2) V v (atLoop V H hold s t l0 (H.toNat + 1)).1 m1 m2 m3 m4 (atLoop V H hold s t l0 (H.toNat + 1)).2.1 (atLoop V H hold s t l0 (H.toNat + 1)).2.2 [] [] ∧ Below w.heap.size w w' := by
 have hu54 := Try.underlying54
 have hu24 := Try.underlying24
 have hu76 := Try.underlying76
 unfold okNet at hok
 simp only [Bool.and_eq_true, decide_eq_true_eq] at hok
 obtain ⟨⟨hV0, hV1, hH0, hH1, hlen⟩, hall⟩ := hok
 have HR0 := am_ hr0
 have HC0 := am_ hc0
 have HS := am_ hs
 have HT := am_ ht
 have HN := am_ hn
 have HV0 := am_ hV0
 have HV1 := am_ hV1
 have HH0 := am_ hH0
 have HH1 := am_ hH1
 have HLEN := am_ hlen
 have HALL := am_ hall
 have HB := am_ (Below.refl w.heap.size w)
 have hw1 : wrap64 (H + 1) = H + 1 := by unfold wrap64; omega
 have hmb := mulB (a := H + 1) (b := V) (by omega) (by omega) hV0 hV1
 have hw2 : wrap64 ((H + 1) * V) = (H + 1) * V := by unfold wrap64; omega
 have hw3 : wrap64 ((H + 1) * V + 2) = (H + 1) * V + 2 := by unfold wrap64; omega
 clear hr0 hc0 hs ht hn hV0 hV1 hH0 hH1 hlen hall hmb
 go_enter Try.func59, Try.ntmps59
 go_wp2_with (first
  | ((with_reducible refine gate_dst (N := 4) rfl ?_); refine box_event ?hg (N := 4) ?hd (cs := #[.int .i64 V, .bool hold, .slice A0 l0.length c0]) (t := 24) ?hr ?_; (case hd => rfl); (case hg => rfl); (case hr => first | (go_simp; done) | (go_simp; rfl)); intro gb hg w2 hbox hb; have BKn := am_ hbox; have GEn := am_ (by rw [hg]; exact below_size HB.out : w.heap.size ≤ gb); replace HB := am_ (below_step HB.out hb); clear hb hbox hg)
  | ((with_reducible refine gate_dst (N := 14) rfl ?_); refine mmake E26 _ rfl 73 rfl ?_; intro w3 m1 hM_ hb hge; have n0_ := am_ (below_step HB.out hb); have n1_ := am_ (blk_below BKn.out hb); have n2_ := am_ (Nat.le_trans (below_size HB.out) hge); clear HB BKn; have HB := n0_; have BKn := n1_; have O1 := n2_; have HM1 := am_ hM_; clear n0_ n1_ n2_ hM_ hb hge)
  | ((with_reducible refine gate_dst (N := 15) rfl ?_); refine mmake E26 _ rfl 73 rfl ?_; intro w4 m2 hM_ hb hge; have n0_ := am_ (below_step HB.out hb); have n1_ := am_ (blk_below BKn.out hb); have n2_ := am_ (Nat.lt_of_lt_of_le HM1.out.lt hge); have n3_ := am_ (HM1.out.below hb); clear HB BKn HM1; have HB := n0_; have BKn := n1_; have O2 := n2_; have HM1 := n3_; have HM2 := am_ hM_; clear n0_ n1_ n2_ n3_ hM_ hb hge)
  | ((with_reducible refine gate_dst (N := 16) rfl ?_); refine mmake E3 _ rfl 74 rfl ?_; intro w5 m3 hM_ hb hge; have n0_ := am_ (below_step HB.out hb); have n1_ := am_ (blk_below BKn.out hb); have n2_ := am_ (Nat.lt_of_lt_of_le HM2.out.lt hge); have n3_ := am_ (HM1.out.below hb); have n4_ := am_ (HM2.out.below hb); clear HB BKn HM1 HM2; have HB := n0_; have BKn := n1_; have O3 := n2_; have HM1 := n3_; have HM2 := n4_; have HM3 := am_ hM_; clear n0_ n1_ n2_ n3_ n4_ hM_ hb hge)
  | ((with_reducible refine gate_dst (N := 17) rfl ?_); refine mmake E3 _ rfl 74 rfl ?_; intro w6 m4 hM_ hb hge; have n0_ := am_ (below_step HB.out hb); have n1_ := am_ (blk_below BKn.out hb); have n2_ := am_ (Nat.lt_of_lt_of_le HM3.out.lt hge); have n3_ := am_ (HM1.out.below hb); have n4_ := am_ (HM2.out.below hb); have n5_ := am_ (HM3.out.below hb); clear HB BKn HM1 HM2 HM3; have HB := n0_; have BKn := n1_; have O4 := n2_; have HM1 := n3_; have HM2 := n4_; have HM3 := n5_; have HM4 := am_ hM_; clear n0_ n1_ n2_ n3_ n4_ n5_ hM_ hb hge; have zn0 : w6.cell? ⟨gb, 0, none⟩ = some (.int .i64 V) := (blk_cell BKn.out 0).trans rfl)
  | ((with_reducible refine gate_dst (N := 21) rfl ?_); refine box_event ?hg (N := 21) ?hd (cs := #[.int .i64 0, .bool false, .slice none 0 0, .map (some m1), .map (some m2), .map (some m3), .map (some m4), .int .i64 V]) (t := 76) ?hr ?_; (case hd => rfl); (case hg => rfl); (case hr => first | (go_simp; done) | (go_simp; rfl)); intro gg hg w7 hbox hb; clear zn0; have HG := am_ (⟨hbox, Kd.R_nil _ _ _ _ _, by rw [hg]; exact below_size HB.out, HM1.out.below hb, HM2.out.below hb, HM3.out.below hb, HM4.out.below hb, O1.out, O2.out, O3.out, O4.out⟩ : GridW w7 w.heap.size (fun k => k ≠ gb) gg 0 V (.slice none 0 0) [] m1 m2 m3 m4 [] [] [] []); have n0_ := am_ (below_step HB.out hb); have n1_ := am_ (blk_below BKn.out hb); have NBng := am_ (by rw [hg]; exact Nat.ne_of_lt (blk_lt BKn.out) : gb ≠ gg); clear HB BKn HM1 HM2 HM3 HM4 O1 O2 O3 O4; have HB := n0_; have BKn := n1_; clear n0_ n1_; clear hb hbox hg; have zn0 : w7.cell? ⟨gb, 0, none⟩ = some (.int .i64 V) := (blk_cell BKn.out 0).trans rfl; have zg0 : w7.cell? ⟨gg, 0, none⟩ = some (.int .i64 0) := (blk_cell HG.out.blk 0).trans rfl; have yg0 := blk_frozen HG.out.blk 0))
 have n0_ := am_ (HG.out.setN ((H + 1) * V + 2))
 have n1_ := am_ (below_set HB.out HG.out.ge (j := 0) (v := .int .i64 ((H + 1) * V + 2)))
 have n2_ := am_ (blk_far (p := ⟨gg, 0, none⟩) BKn.out NBng.out (.int .i64 ((H + 1) * V + 2)))
 have HW1 := am_ hw1
 clear HB HG BKn zn0 zg0 yg0 hw1 hw2 hw3
 have HG := n0_
 have HB := n1_
 have BKn := n2_
 clear n0_ n1_ n2_
 generalize w7.setCell ⟨gg, 0, none⟩ (.int .i64 ((H + 1) * V + 2)) = w8 at HG HB BKn ⊢
 go_loopg [34] (H.toNat + 1) (fun kq v34 w' => ∃ (j : Nat) (v : Value), v34 = .int .i64 (j : Int) ∧ Aside0 (j + kq = H.toNat + 1) ∧ Aside0 (Below w.heap.size w w') ∧ Aside0 (GridW w' w.heap.size (fun k => k ≠ gb) gg ((H + 1) * V + 2) V v (atLoop V H hold s t l0 j).1 m1 m2 m3 m4 (atLoop V H hold s t l0 j).2.1 (atLoop V H hold s t l0 j).2.2 [] []) ∧ Aside0 (w'.heap[gb]? = some (.cells #[.int .i64 V, .bool hold, .slice A0 l0.length c0] 24 (0, 0))))
 case atStart => exact ⟨0, _, rfl, ⟨by omega⟩, HB, HG, BKn⟩
 case round =>
  clear HB HG BKn
  obtain ⟨j, v, rfl, HJ, HB, HG, BKn⟩ := hrel
  cases gk with
  | zero =>
   have hj : j = H.toNat + 1 := by have := HJ.out; omega
   have c1 : decide ((j : Int) < wrap64 (H + 1)) = false := by rw [HW1.out]; exact decide_eq_false (by have := HH0.out; omega)
   have HJ2 := am_ hj
   clear hj
   go_wp2
   go_ret
   exact ⟨gg, v, m1, m2, m3, m4, rfl, by rw [← HJ2.out]; exact HG.out.mono (fun _ _ => trivial), HB.out⟩
  | succ gk0 =>
   have hjb : (j : Int) ≤ H := by have := HJ.out; have := HH0.out; omega
   have c1 : decide ((j : Int) < wrap64 (H + 1)) = true := by rw [HW1.out]; exact decide_eq_true (by omega)
   have HJB := am_ hjb
   have hbal := atLoop_bal (V := V) (H := H) (s := s) (t := t) (hold := hold) (l0 := l0) HV1.out HLEN.out j
   have HBAL := am_ hbal
   clear hjb hbal
   have zn2 : wr.cell? ⟨gb, 2, none⟩ = some (.slice A0 l0.length c0) := (blk_cell BKn.out 2).trans rfl
   go_wp2
   clear zn2
   clear c1
   go_loopg [40] l0.length (fun kq v40 w' => ∃ (i : Nat) (v : Value), v40 = .int .i64 (i : Int) ∧ Aside0 (i + kq = l0.length) ∧ Aside0 (Below w.heap.size w w') ∧ Aside0 (GridW w' w.heap.size (fun k => k ≠ gb) gg ((H + 1) * V + 2) V v (arcLoop V H s t l0 (j : Int) (atLoop V H hold s t l0 j) i).1 m1 m2 m3 m4 (arcLoop V H s t l0 (j : Int) (atLoop V H hold s t l0 j) i).2.1 (arcLoop V H s t l0 (j : Int) (atLoop V H hold s t l0 j) i).2.2 [] []) ∧ Aside0 (w'.heap[gb]? = some (.cells #[.int .i64 V, .bool hold, .slice A0 l0.length c0] 24 (0, 0))))
   case atStart => exact ⟨0, v, rfl, ⟨by omega⟩, HB, HG, BKn⟩
   case round =>
    clear HB HG BKn
    obtain ⟨i, v, rfl, HI, HB, HG, BKn⟩ := hrel
    cases gk with
    | zero =>
     have hi : i = l0.length := by have := HI.out; omega
     have c1 : decide ((i : Int) < (l0.length : Int)) = false := decide_eq_false (by omega)
     have c2 : decide (i < l0.length) = false := decide_eq_false (by omega)
     subst hi
     have zn0 : wr.cell? ⟨gb, 0, none⟩ = some (.int .i64 V) := (blk_cell BKn.out 0).trans rfl
     go_wp2
     clear zn0 c1 c2
     go_loopg [83] V.toNat (fun kq v83 w' => ∃ (k : Nat) (v : Value), v83 = .int .i64 (k : Int) ∧ Aside0 (k + kq = V.toNat) ∧ Aside0 (Below w.heap.size w w') ∧ Aside0 (GridW w' w.heap.size (fun k => k ≠ gb) gg ((H + 1) * V + 2) V v (waitLoop V H hold s t (j : Int) (arcLoop V H s t l0 (j : Int) (atLoop V H hold s t l0 j) l0.length) k).1 m1 m2 m3 m4 (waitLoop V H hold s t (j : Int) (arcLoop V H s t l0 (j : Int) (atLoop V H hold s t l0 j) l0.length) k).2.1 (waitLoop V H hold s t (j : Int) (arcLoop V H s t l0 (j : Int) (atLoop V H hold s t l0 j) l0.length) k).2.2 [] []) ∧ Aside0 (w'.heap[gb]? = some (.cells #[.int .i64 V, .bool hold, .slice A0 l0.length c0] 24 (0, 0))))
     case atStart => exact ⟨0, v, rfl, ⟨by omega⟩, HB, HG, BKn⟩
     case round =>
      clear HB HG BKn
      obtain ⟨k, v, rfl, HK, HB, HG, BKn⟩ := hrel
      have hwj : wrap64 ((j : Int) + 1) = (j : Int) + 1 := by have := HJB.out; have := HH1.out; unfold wrap64; omega
      cases gk with
      | zero =>
       have hk : k = V.toNat := by have := HK.out; omega
       have c1 : decide ((k : Int) < V) = false := decide_eq_false (by have := HV0.out; omega)
       have HK2 := am_ hk
       clear hk
       go_wp2
       go_roundg gk0
       case measure => omega
       case rel =>
        refine ⟨j + 1, v, by first | rfl | exact congrArg (Value.int .i64) (by omega), ⟨by have := HJ.out; omega⟩, HB, ⟨?_⟩, BKn⟩
        rw [atLoop_succ, ← HK2.out]
        exact HG.out
      | succ gk2 =>
       have hltV : (k : Int) < V := by have := HK.out; have := HV0.out; omega
       have c1 : decide ((k : Int) < V) = true := decide_eq_true hltV
       obtain ⟨gA, g1, g2, hg⟩ : ∃ a b c, waitLoop V H hold s t (j : Int) (arcLoop V H s t l0 (j : Int) (atLoop V H hold s t l0 j) l0.length) k = (a, b, c) := ⟨_, _, _, rfl⟩
       have hst := waitLoop_succ V H hold s t (j : Int) (arcLoop V H s t l0 (j : Int) (atLoop V H hold s t l0 j) l0.length) k
       rw [hg] at hst
       unfold waitStep at hst
       simp only at hst
       have hlb0 := arcLoop_bal (V := V) (H := H) (s := s) (t := t) (l0 := l0) (a := (j : Int)) HBAL.out.1 l0.length
       have hlb := waitLoop_bal (V := V) (H := H) (s := s) (t := t) (hold := hold) (a := (j : Int)) hlb0.1 k
       rw [hg] at hlb
       have hlA : gA.length ≤ 300000 ∧ g2.length ≤ 300000 := by
        have h1 := HBAL.out.2
        have h2 := HJB.out
        have h3 := HH1.out
        have h4 := HLEN.out
        have h5 := hlb.1
        have h6 := hlb.2
        have h7 := hlb0.2
        have h8 := HV1.out
        unfold Bal at h5
        simp only at h5 h6
        omega
       have hG := HG.out
       rw [hg] at hG
       simp only at hG
       clear HG
       have HG := am_ hG
       have HST := am_ hst
       have HLA := am_ hlA
       have hkey : w64 (k : Int) ∧ w64 (j : Int) := by
        clear hwj
        have := HV1.out; have := HJB.out; have := HH1.out
        exact ⟨wf_i64B (by omega) (by omega), wf_i64B (by omega) (by omega)⟩
       have hkv : w64 (gA.length : Int) := by clear hwj; have := hlA.1; exact wf_i64B (by omega) (by omega)
       have hm1 := mulB (a := (j : Int)) (b := V) (by omega) (by have := HJB.out; have := HH1.out; omega) HV0.out HV1.out
       have hm2 := mulB (a := (j : Int) + 1) (b := V) (by omega) (by have := HJB.out; have := HH1.out; omega) HV0.out HV1.out
       have hbj : (j : Int) ≤ 1024 := by have := HJB.out; have := HH1.out; omega
       have hbV := HV1.out
       have q1 : -1000000000000 ≤ (j : Int) * V + (k : Int) ∧ (j : Int) * V + (k : Int) ≤ 1000000000000 := by clear hwj; omega
       have q2 : -1000000000000 ≤ ((j : Int) + 1) * V + (k : Int) ∧ ((j : Int) + 1) * V + (k : Int) ≤ 1000000000000 := by clear hwj; omega
       have q3 : -1000000000000 ≤ ((k + 1 : Nat) : Int) ∧ ((k + 1 : Nat) : Int) ≤ 1000000000000 := by clear hwj; omega
       have q5 : -1000000000000 ≤ (j : Int) * V ∧ (j : Int) * V ≤ 1000000000000 := by clear hwj; omega
       have q6 : -1000000000000 ≤ ((j : Int) + 1) * V ∧ ((j : Int) + 1) * V ≤ 1000000000000 := by clear hwj; omega
       have hwa : wrap64 (wrap64 ((j : Int) * V) + (k : Int)) = (j : Int) * V + (k : Int) := by rw [wrapId q5.1 q5.2, wrapId q1.1 q1.2]
       have hwb : wrap64 (wrap64 (wrap64 ((j : Int) + 1) * V) + (k : Int)) = ((j : Int) + 1) * V + (k : Int) := by rw [hwj, wrapId q6.1 q6.2, wrapId q2.1 q2.2]
       have hwi : wrap64 ((k : Int) + 1) = ((k + 1 : Nat) : Int) := wrapId q3.1 q3.2
       clear q1 q2 q3 q5 q6 hbj hbV
       have HWA := am_ hwa
       have HWB := am_ hwb
       have HWI := am_ hwi
       have HKEY := am_ hkey
       have HKV := am_ hkv
       clear hg hst hlb0 hlb hlA hG hkey hkv hm1 hm2 hwa hwb hwi hltV
       obtain ⟨bd, hd⟩ : ∃ b, decide ((j : Int) < H) = b := ⟨_, rfl⟩
       obtain ⟨bu, hu⟩ : ∃ b, ((hold && (k : Int) != s) && (k : Int) != t) = b := ⟨_, rfl⟩
       cases bd
       ·cases bu
        ·skip
         go_wp2_with (go_at_call 61; (with_reducible refine (Of2.calls (k : Int) V s t hold (.slice A0 l0.length c0) gn gs gt _ (blk_below HN.out HB.out) (blk_below HS.out HB.out) (blk_below HT.out HB.out)).mono ?_); rintro e w9 ⟨rfl, hw'⟩; subst hw'; rw [hu])
         go_roundg gk2
         case measure => omega
         case rel =>
          refine ⟨k + 1, v, by first | exact congrArg (Value.int .i64) (by omega) | exact congrArg (Value.int .i64) HWI.out, ⟨by have := HK.out; omega⟩, HB, ⟨?_⟩, BKn⟩
          have h_ := HST.out
          rw [if_neg (fun hc => by first | exact absurd (decide_eq_true hc.1) (by rw [hd]; decide) | exact absurd hc.2 (by rw [hu]; decide))] at h_
          rw [h_]
          exact HG.out
        ·skip
         go_wp2_with (go_at_call 61; (with_reducible refine (Of2.calls (k : Int) V s t hold (.slice A0 l0.length c0) gn gs gt _ (blk_below HN.out HB.out) (blk_below HS.out HB.out) (blk_below HT.out HB.out)).mono ?_); rintro e w9 ⟨rfl, hw'⟩; subst hw'; rw [hu])
         go_roundg gk2
         case measure => omega
         case rel =>
          refine ⟨k + 1, v, by first | exact congrArg (Value.int .i64) (by omega) | exact congrArg (Value.int .i64) HWI.out, ⟨by have := HK.out; omega⟩, HB, ⟨?_⟩, BKn⟩
          have h_ := HST.out
          rw [if_neg (fun hc => by first | exact absurd (decide_eq_true hc.1) (by rw [hd]; decide) | exact absurd hc.2 (by rw [hu]; decide))] at h_
          rw [h_]
          exact HG.out
       ·cases bu
        ·skip
         go_wp2_with (go_at_call 61; (with_reducible refine (Of2.calls (k : Int) V s t hold (.slice A0 l0.length c0) gn gs gt _ (blk_below HN.out HB.out) (blk_below HS.out HB.out) (blk_below HT.out HB.out)).mono ?_); rintro e w9 ⟨rfl, hw'⟩; subst hw'; rw [hu])
         go_roundg gk2
         case measure => omega
         case rel =>
          refine ⟨k + 1, v, by first | exact congrArg (Value.int .i64) (by omega) | exact congrArg (Value.int .i64) HWI.out, ⟨by have := HK.out; omega⟩, HB, ⟨?_⟩, BKn⟩
          have h_ := HST.out
          rw [if_neg (fun hc => by first | exact absurd (decide_eq_true hc.1) (by rw [hd]; decide) | exact absurd hc.2 (by rw [hu]; decide))] at h_
          rw [h_]
          exact HG.out
        ·skip
         go_wp2_with (go_at_call 61; (with_reducible refine (Of2.calls (k : Int) V s t hold (.slice A0 l0.length c0) gn gs gt _ (blk_below HN.out HB.out) (blk_below HS.out HB.out) (blk_below HT.out HB.out)).mono ?_); rintro e w9 ⟨rfl, hw'⟩; subst hw'; rw [hu])
         have hz3 : w9.cell? ⟨gg, 4, none⟩ = some (.map (some m2)) := (blk_cell HG.out.blk 4).trans rfl
         have n0_ := am_ HG.out.drew
         have n1_ := am_ (below_drew1 HB.out)
         have n2_ := am_ (blk_drew BKn.out)
         clear HG HB BKn
         have HG := n0_
         have HB := n1_
         have BKn := n2_
         clear n0_ n1_ n2_
         refine start_ (n := 19) (S := fun w' => w'.cell? ⟨gg, 4, none⟩ = some (.map (some m2))) (ds := [18]) #[Ff,Ff,Ff,Ff,Ff,Ff,Ff,Ff,Ff,Ff,Ff,Ff,Ff,Ff,Ff,Ff,Ff,Ff,Ff] (by kernel_rfl) rfl rfl hz3 (fun hHeld => ?_)
         clear hz3
         generalize w9.drew = w10 at HG HB BKn hHeld ⊢
         refine with_tabW expand_Begin.tab16 expand_Begin.bits16 (fun HT_ HW_ => ?_)
         refine pw_ 0 94 ?_
         refine pw_ 1 95 ?_
         refine pw_ 2 96 ?_
         refine pw_ 4 98 ?_
         refine pw_ 5 99 ?_
         refine pw_ 6 100 ?_
         refine pw_ 7 101 ?_
         refine pw_ 8 102 ?_
         refine pw_ 9 103 ?_
         refine pw_ 10 104 ?_
         refine pw_ 12 106 ?_
         refine pw_ 13 107 ?_
         refine pw_ 14 108 ?_
         refine pw_ 15 109 ?_
         refine tk_ 3 97 ?_
         refine one_ (i := 11) (N := (some 105)) #[Tt,Tt,Tt,Tt,Tt,Tt,Tt,Tt,Tt,Tt,Tt,Tt,Tt,Tt,Tt,Tt,Ff,Ff,Ff] rfl rfl (one_of HT_.out (by kernel_rfl)) (by decide) (fun K hK => ?_)
         refine goes_ Try.func64 (by kernel_rfl) rfl #[.pointer (some ⟨gg, 0, none⟩), .int .i64 (k : Int), .int .i64 (j : Int)] (by rfl) rfl rfl q9_ ?_
         refine (Grid_At.calls gg _ V (k : Int) (j : Int) _ _ _ _ _ _ HG.out.blk).mono ?_
         rintro e w' ⟨rfl, hw'⟩
         subst hw'
         rw [HWA.out]
         refine ⟨_, rfl, ?_⟩
         refine hK.out _ _ hHeld (fun hHeld => ?_)
         clear hK K
         refine norm_ (a' := ?_) ?_ ?_
         rotate_left
         ·show Act.put _ (some 105) _ = _
          simp only [Act.put, List.setIfInBounds_toArray, List.set_cons_zero, List.set_cons_succ, i64_w, i32_w]
          rfl
         refine one_ (i := 16) (N := (some 110)) #[Tt,Tt,Tt,Tt,Tt,Tt,Tt,Tt,Tt,Tt,Tt,Tt,Tt,Tt,Tt,Tt,Tt,Ff,Ff] rfl rfl (one_of HT_.out (by kernel_rfl)) (by decide) (fun K hK => ?_)
         refine goes_ Try.func64 (by kernel_rfl) rfl #[.pointer (some ⟨gg, 0, none⟩), .int .i64 (k : Int), .int .i64 (wrap64 ((j : Int) + 1))] (by rfl) rfl rfl q9_ ?_
         refine (Grid_At.calls gg _ V (k : Int) (wrap64 ((j : Int) + 1)) _ _ _ _ _ _ HG.out.blk).mono ?_
         rintro e w' ⟨rfl, hw'⟩
         subst hw'
         rw [HWB.out]
         refine ⟨_, rfl, ?_⟩
         refine hK.out _ _ hHeld (fun hHeld => ?_)
         clear hK K
         refine norm_ (a' := ?_) ?_ ?_
         rotate_left
         ·show Act.put _ (some 110) _ = _
          simp only [Act.put, List.setIfInBounds_toArray, List.set_cons_zero, List.set_cons_succ, i64_w, i32_w]
          rfl
         refine one_ (i := 17) (N := (some 111)) #[Tt,Tt,Tt,Tt,Tt,Tt,Tt,Tt,Tt,Tt,Tt,Tt,Tt,Tt,Tt,Tt,Tt,Tt,Ff] rfl rfl (one_of HT_.out (by kernel_rfl)) (by decide) (fun K hK => ?_)
         refine goes_ Try.func63 (by kernel_rfl) rfl #[.pointer (some ⟨gg, 0, none⟩), .int .i64 ((j : Int) * V + (k : Int)), .int .i64 (((j : Int) + 1) * V + (k : Int)), .int .i64 1099511627776] (by rfl) rfl rfl q9_ ?_
         refine (Grid_Add.calls (fun k => k ≠ gb) gg _ V v gA m1 m2 m3 m4 g1 g2 [] [] ((j : Int) * V + (k : Int)) (((j : Int) + 1) * V + (k : Int)) 1099511627776 w _ HB.out HG.out (fun k hk e_ => by have := blk_lt BKn.out; omega) (by have := HLA.out.1; omega)).mono ?_
         rintro e w11 ⟨rfl, v2, hG, hb, hk⟩
         refine ⟨_, rfl, ?_⟩
         have n0_ := am_ (Kept.blk (S := fun k => k = gg ∨ k ≠ gb) hk BKn.out (fun hc => by rcases hc with hc | hc; (exact NBng.out hc); (exact hc rfl)))
         clear HG HB BKn hk hHeld
         have HG := am_ hG
         have HB := am_ hb
         have BKn := n0_
         clear n0_ hG hb
         refine hK.out _ _ ((blk_cell HG.out.blk 4).trans rfl) (fun hHeld => ?_)
         clear hK K
         refine norm_ (a' := ?_) ?_ ?_
         rotate_left
         ·show Act.put _ (some 111) _ = _
          simp only [Act.put, List.setIfInBounds_toArray, List.set_cons_zero, List.set_cons_succ, i64_w, i32_w]
          rfl
         refine last_ (i := 18) (N := none) #[Tt,Tt,Tt,Tt,Tt,Tt,Tt,Tt,Tt,Tt,Tt,Tt,Tt,Tt,Tt,Tt,Tt,Tt,Tt] rfl rfl (one_of HT_.out (by kernel_rfl)) (by decide) (fun K hK => ?_)
         refine mput_step E26 (by rfl) rfl (.tmp 97) (.tmp 100) (.tmp 111) 73 rfl Try.underlying73 rfl HG.out.M2 ((k : Int), (j : Int)) (gA.length : Int) rfl rfl HKEY.out HKV.out (by have := HLA.out.2; unfold maxLen; omega) ?_
         intro w12 hM hg
         refine hK.out _ _ ?_
         clear hK K
         have n0_ := am_ (HG.out.put2 hg hM)
         have n1_ := am_ (Below.grown HB.out hg (below_size HB.out) (fun k_ e_ => by injection e_ with e_; subst e_; exact Nat.le_trans HG.out.o1 (Nat.le_of_lt HG.out.o2)))
         have n2_ := am_ (blk_grown BKn.out hg (fun e_ => HG.out.M2.ne BKn.out (Option.some.inj e_)))
         clear HG HB BKn hM hg
         have HG := n0_
         have HB := n1_
         have BKn := n2_
         clear n0_ n1_ n2_
         refine done_ (done_of HT_.out (by kernel_rfl)) ?_
         try go_wp2
         go_roundg gk2
         case measure => omega
         case rel =>
          refine ⟨k + 1, v2, by first | exact congrArg (Value.int .i64) (by omega) | exact congrArg (Value.int .i64) HWI.out, ⟨by have := HK.out; omega⟩, HB, ⟨?_⟩, BKn⟩
          have h_ := HST.out
          rw [if_pos ⟨of_decide_eq_true hd, hu⟩] at h_
          rw [h_]
          exact HG.out
    | succ gk1 =>
     have hlt : i < l0.length := by have := HI.out; omega
     have c1 : decide ((i : Int) < (l0.length : Int)) = true := decide_eq_true (by omega)
     have c2 : decide (i < l0.length) = true := decide_eq_true hlt
     obtain ⟨ad1, e1, hx_0, hx_1, hx_2, hx_3⟩ := at_T54 HR0.out (i : Int) (by omega) (by omega)
     cases e1
     simp only [Int.toNat_natCast] at hx_0 hx_1 hx_2 hx_3
     have hr : rd_T54 l0 (i : Int) = l0.getD i z54 := by unfold rd_T54; rw [Int.toNat_natCast]
     have hmem : l0.getD i z54 ∈ l0 := by rw [List.getD_eq_getElem?_getD, List.getElem?_eq_getElem hlt]; exact List.getElem_mem hlt
     have hbd := List.all_eq_true.1 HALL.out _ hmem
     rw [hr] at hx_0 hx_1 hx_2 hx_3
     obtain ⟨f0, f1, f2, f3, hl0⟩ : ∃ a b c d, l0.getD i z54 = (⟨a, b, c, d⟩ : S54) := ⟨_, _, _, _, rfl⟩
     rw [hl0] at hx_0 hx_1 hx_2 hx_3 hbd
     unfold okA at hbd
     simp only [decide_eq_true_eq] at hbd
     obtain ⟨b0, b1, b2, b3, b4, b5, b6, b7⟩ := hbd
     obtain ⟨gA, g1, g2, hg⟩ : ∃ a b c, arcLoop V H s t l0 (j : Int) (atLoop V H hold s t l0 j) i = (a, b, c) := ⟨_, _, _, rfl⟩
     have hst := arcLoop_succ V H s t l0 (j : Int) (atLoop V H hold s t l0 j) i
     rw [hl0, hg] at hst
     unfold arcStep at hst
     simp only at hst
     have hlb := arcLoop_bal (V := V) (H := H) (s := s) (t := t) (l0 := l0) (a := (j : Int)) HBAL.out.1 i
     rw [hg] at hlb
     have hlA : gA.length ≤ 300000 ∧ g1.length ≤ 300000 := by
      have h1 := HBAL.out.2
      have h2 := HJB.out
      have h3 := HH1.out
      have h4 := HLEN.out
      have h5 := hlb.1
      have h6 := hlb.2
      unfold Bal at h5
      simp only at h5 h6
      omega
     have hG := HG.out
     rw [hg] at hG
     simp only at hG
     clear HG
     have HG := am_ hG
     have HST := am_ hst
     have HLA := am_ hlA
     have hkey : w64 (i : Int) ∧ w64 (j : Int) := by
      have := HLEN.out; have := HJB.out; have := HH1.out
      exact ⟨wf_i64B (by omega) (by omega), wf_i64B (by omega) (by omega)⟩
     have hkv : w64 (gA.length : Int) := by have := hlA.1; exact wf_i64B (by omega) (by omega)
     have hm1 := mulB (a := (j : Int)) (b := V) (by omega) (by have := HJB.out; have := HH1.out; omega) HV0.out HV1.out
     have hm2 := mulB (a := (j : Int) + f3) (b := V) (by omega) (by have := HJB.out; have := HH1.out; omega) HV0.out HV1.out
     have hbj : (j : Int) ≤ 1024 := by have := HJB.out; have := HH1.out; omega
     have hbV := HV1.out
     have hbL := HLEN.out
     have q1 : -1000000000000 ≤ (j : Int) * V + f0 ∧ (j : Int) * V + f0 ≤ 1000000000000 := by omega
     have q2 : -1000000000000 ≤ ((j : Int) + f3) * V + f1 ∧ ((j : Int) + f3) * V + f1 ≤ 1000000000000 := by omega
     have q3 : -1000000000000 ≤ ((i + 1 : Nat) : Int) ∧ ((i + 1 : Nat) : Int) ≤ 1000000000000 := by omega
     have q4 : -1000000000000 ≤ (j : Int) + f3 ∧ (j : Int) + f3 ≤ 1000000000000 := by omega
     have q5 : -1000000000000 ≤ (j : Int) * V ∧ (j : Int) * V ≤ 1000000000000 := by omega
     have q6 : -1000000000000 ≤ ((j : Int) + f3) * V ∧ ((j : Int) + f3) * V ≤ 1000000000000 := by omega
     have hwf : wrap64 ((j : Int) + f3) = (j : Int) + f3 := wrapId q4.1 q4.2
     have hwa : wrap64 (wrap64 ((j : Int) * V) + f0) = (j : Int) * V + f0 := by rw [wrapId q5.1 q5.2, wrapId q1.1 q1.2]
     have hwb : wrap64 (wrap64 (wrap64 ((j : Int) + f3) * V) + f1) = ((j : Int) + f3) * V + f1 := by rw [hwf, wrapId q6.1 q6.2, wrapId q2.1 q2.2]
     have hwi : wrap64 ((i : Int) + 1) = ((i + 1 : Nat) : Int) := wrapId q3.1 q3.2
     clear q1 q2 q3 q4 q5 q6 hbj hbV hbL
     have HWA := am_ hwa
     have HWB := am_ hwb
     have HWI := am_ hwi
     have W0 := am_ hx_0
     have W1 := am_ hx_1
     have W2 := am_ hx_2
     have W3 := am_ hx_3
     have HKEY := am_ hkey
     have HKV := am_ hkv
     clear hr hmem hl0 hg hst hlb hlA hG hm1 hm2 hwa hwb hwi hx_0 hx_1 hx_2 hx_3 hkey hkv b0 b1 b2 b3 b4 b5 b6 b7
     have p1_ := eq_true (show (0 : Int) ≤ (i : Int) by omega)
     have p2_ := eq_true (show (i : Int) < (l0.length : Int) by omega)
     clear hlt
     obtain ⟨bd, hd⟩ : ∃ b, decide ((j : Int) + f3 ≤ H) = b := ⟨_, rfl⟩
     obtain ⟨bu, hu⟩ : ∃ b, (f1 != s && f0 != t) = b := ⟨_, rfl⟩
     have hx_0 : wr.cell? (ad1.add (i * 4)) = some (.int .i64 f0) := (HB.out.cell (World.block_lt_of_cell? w _ W0.out)).trans W0.out
     have hx_1 : wr.cell? ⟨(ad1.add (i * 4)).block, (ad1.add (i * 4)).off + 1, none⟩ = some (.int .i64 f1) := (HB.out.cell (World.block_lt_of_cell? w _ W1.out)).trans W1.out
     have hx_2 : wr.cell? ⟨(ad1.add (i * 4)).block, (ad1.add (i * 4)).off + 2, none⟩ = some (.int .i64 f2) := (HB.out.cell (World.block_lt_of_cell? w _ W2.out)).trans W2.out
     have hx_3 : wr.cell? ⟨(ad1.add (i * 4)).block, (ad1.add (i * 4)).off + 3, none⟩ = some (.int .i64 f3) := (HB.out.cell (World.block_lt_of_cell? w _ W3.out)).trans W3.out
     cases bd
     ·cases bu
      ·skip
       go_wp2_with (first
        | ((with_reducible refine gate_dst (N := 12) rfl ?_); refine box_event ?hg (N := 12) ?hd (cs := #[.int .i64 0, .int .i64 0, .int .i64 0, .int .i64 0]) (t := 54) ?hr ?_; (case hd => rfl); (case hg => rfl); (case hr => first | (go_simp; done) | (go_simp; rfl)); intro ga hg w5 hbox hb; have n0_ := am_ ((HG.out.elder ga (Nat.le_of_eq hg.symm)).below hb); have n1_ := am_ (below_step HB.out hb); have n2_ := am_ (blk_below BKn.out hb); have GEa := am_ (show w.heap.size ≤ ga by rw [hg]; exact below_size HB.out); have NGa := am_ (show gg ≠ ga by rw [hg]; exact Nat.ne_of_lt HG.out.lt); have NBa := am_ (show gb ≠ ga by rw [hg]; exact Nat.ne_of_lt (blk_lt BKn.out)); have BKa := am_ hbox; clear HG HB BKn; have HG := n0_; have HB := n1_; have BKn := n2_; clear n0_ n1_ n2_ hb hbox hg hx_0 hx_1 hx_2 hx_3; have hcz_0 : w5.cell? ⟨ga, 0, none⟩ = some (.int .i64 0) := (blk_cell BKa.out 0).trans rfl; have hcz_1 : w5.cell? ⟨ga, 1, none⟩ = some (.int .i64 0) := (blk_cell BKa.out 1).trans rfl; have hcz_2 : w5.cell? ⟨ga, 2, none⟩ = some (.int .i64 0) := (blk_cell BKa.out 2).trans rfl; have hcz_3 : w5.cell? ⟨ga, 3, none⟩ = some (.int .i64 0) := (blk_cell BKa.out 3).trans rfl; have hfz_0 := blk_frozen BKa.out 0; have hfz_1 := blk_frozen BKa.out 1; have hfz_2 := blk_frozen BKa.out 2; have hfz_3 := blk_frozen BKa.out 3)
        | ((with_reducible refine gate_store (t := 54) (p := 12) rfl ?_); refine store_event (t := 54) (p := 12) (v := ?vo8) (w1 := ?wo8) ?hg ?ho ?hn ?hr ?_; (case ho => rfl); (case hg => rfl); (case hn => rfl); (case hr => first | (go_simp; done) | (go_simp; rfl)); intro w6 hw; have hbx := HG.out.box4 BKa.out NGa.out (.int .i64 f0) (.int .i64 f1) (.int .i64 f2) (.int .i64 f3); rw [← hw] at hbx; have n2_ := am_ (show Below w.heap.size w w6 from q23_); have n3_ := am_ (show w6.heap[gb]? = some (.cells #[.int .i64 V, .bool hold, .slice (some ad1) l0.length c0] 24 (0, 0)) from q13_); clear BKa HG HB BKn hw hcz_0 hcz_1 hcz_2 hcz_3 hfz_0 hfz_1 hfz_2 hfz_3; have HG := am_ hbx.1; have BKa := am_ hbx.2; have HB := n2_; have BKn := n3_; clear n2_ n3_ hbx; have hcz_0 : w6.cell? ⟨ga, 0, none⟩ = some (.int .i64 f0) := (blk_cell BKa.out 0).trans rfl; have hcz_1 : w6.cell? ⟨ga, 1, none⟩ = some (.int .i64 f1) := (blk_cell BKa.out 1).trans rfl; have hcz_2 : w6.cell? ⟨ga, 2, none⟩ = some (.int .i64 f2) := (blk_cell BKa.out 2).trans rfl; have hcz_3 : w6.cell? ⟨ga, 3, none⟩ = some (.int .i64 f3) := (blk_cell BKa.out 3).trans rfl)
        | (go_at_call 60; (with_reducible refine (Of1.calls f0 f1 f2 f3 s t gs gt _ (blk_below HS.out HB.out) (blk_below HT.out HB.out)).mono ?_); rintro e w9 ⟨rfl, hb⟩; rw [hu]; have n0_ := am_ (HG.out.below hb); have n1_ := am_ (below_step HB.out hb); have n2_ := am_ (blk_below BKn.out hb); have n3_ := am_ (blk_below BKa.out hb); clear HG HB BKn BKa hb hcz_0 hcz_1 hcz_2 hcz_3; have HG := n0_; have HB := n1_; have BKn := n2_; have BKa := n3_; clear n0_ n1_ n2_ n3_; have hcz_0 : w9.cell? ⟨ga, 0, none⟩ = some (.int .i64 f0) := (blk_cell BKa.out 0).trans rfl; have hcz_1 : w9.cell? ⟨ga, 1, none⟩ = some (.int .i64 f1) := (blk_cell BKa.out 1).trans rfl; have hcz_2 : w9.cell? ⟨ga, 2, none⟩ = some (.int .i64 f2) := (blk_cell BKa.out 2).trans rfl; have hcz_3 : w9.cell? ⟨ga, 3, none⟩ = some (.int .i64 f3) := (blk_cell BKa.out 3).trans rfl))
       go_roundg gk1
       case measure => omega
       case rel =>
        refine ⟨i + 1, v, by first | exact congrArg (Value.int .i64) (by omega) | exact congrArg (Value.int .i64) HWI.out, ⟨by have := HI.out; omega⟩, HB, ⟨?_⟩, BKn⟩
        have h_ := HST.out
        rw [if_neg (fun hc => by first | exact absurd (decide_eq_true hc.1) (by rw [hd]; decide) | exact absurd hc.2 (by rw [hu]; decide))] at h_
        rw [h_]
        exact HG.out.mono (fun k hk => hk.1)
      ·skip
       go_wp2_with (first
        | ((with_reducible refine gate_dst (N := 12) rfl ?_); refine box_event ?hg (N := 12) ?hd (cs := #[.int .i64 0, .int .i64 0, .int .i64 0, .int .i64 0]) (t := 54) ?hr ?_; (case hd => rfl); (case hg => rfl); (case hr => first | (go_simp; done) | (go_simp; rfl)); intro ga hg w5 hbox hb; have n0_ := am_ ((HG.out.elder ga (Nat.le_of_eq hg.symm)).below hb); have n1_ := am_ (below_step HB.out hb); have n2_ := am_ (blk_below BKn.out hb); have GEa := am_ (show w.heap.size ≤ ga by rw [hg]; exact below_size HB.out); have NGa := am_ (show gg ≠ ga by rw [hg]; exact Nat.ne_of_lt HG.out.lt); have NBa := am_ (show gb ≠ ga by rw [hg]; exact Nat.ne_of_lt (blk_lt BKn.out)); have BKa := am_ hbox; clear HG HB BKn; have HG := n0_; have HB := n1_; have BKn := n2_; clear n0_ n1_ n2_ hb hbox hg hx_0 hx_1 hx_2 hx_3; have hcz_0 : w5.cell? ⟨ga, 0, none⟩ = some (.int .i64 0) := (blk_cell BKa.out 0).trans rfl; have hcz_1 : w5.cell? ⟨ga, 1, none⟩ = some (.int .i64 0) := (blk_cell BKa.out 1).trans rfl; have hcz_2 : w5.cell? ⟨ga, 2, none⟩ = some (.int .i64 0) := (blk_cell BKa.out 2).trans rfl; have hcz_3 : w5.cell? ⟨ga, 3, none⟩ = some (.int .i64 0) := (blk_cell BKa.out 3).trans rfl; have hfz_0 := blk_frozen BKa.out 0; have hfz_1 := blk_frozen BKa.out 1; have hfz_2 := blk_frozen BKa.out 2; have hfz_3 := blk_frozen BKa.out 3)
        | ((with_reducible refine gate_store (t := 54) (p := 12) rfl ?_); refine store_event (t := 54) (p := 12) (v := ?vo10) (w1 := ?wo10) ?hg ?ho ?hn ?hr ?_; (case ho => rfl); (case hg => rfl); (case hn => rfl); (case hr => first | (go_simp; done) | (go_simp; rfl)); intro w6 hw; have hbx := HG.out.box4 BKa.out NGa.out (.int .i64 f0) (.int .i64 f1) (.int .i64 f2) (.int .i64 f3); rw [← hw] at hbx; have n2_ := am_ (show Below w.heap.size w w6 from q23_); have n3_ := am_ (show w6.heap[gb]? = some (.cells #[.int .i64 V, .bool hold, .slice (some ad1) l0.length c0] 24 (0, 0)) from q13_); clear BKa HG HB BKn hw hcz_0 hcz_1 hcz_2 hcz_3 hfz_0 hfz_1 hfz_2 hfz_3; have HG := am_ hbx.1; have BKa := am_ hbx.2; have HB := n2_; have BKn := n3_; clear n2_ n3_ hbx; have hcz_0 : w6.cell? ⟨ga, 0, none⟩ = some (.int .i64 f0) := (blk_cell BKa.out 0).trans rfl; have hcz_1 : w6.cell? ⟨ga, 1, none⟩ = some (.int .i64 f1) := (blk_cell BKa.out 1).trans rfl; have hcz_2 : w6.cell? ⟨ga, 2, none⟩ = some (.int .i64 f2) := (blk_cell BKa.out 2).trans rfl; have hcz_3 : w6.cell? ⟨ga, 3, none⟩ = some (.int .i64 f3) := (blk_cell BKa.out 3).trans rfl)
        | (go_at_call 60; (with_reducible refine (Of1.calls f0 f1 f2 f3 s t gs gt _ (blk_below HS.out HB.out) (blk_below HT.out HB.out)).mono ?_); rintro e w9 ⟨rfl, hb⟩; rw [hu]; have n0_ := am_ (HG.out.below hb); have n1_ := am_ (below_step HB.out hb); have n2_ := am_ (blk_below BKn.out hb); have n3_ := am_ (blk_below BKa.out hb); clear HG HB BKn BKa hb hcz_0 hcz_1 hcz_2 hcz_3; have HG := n0_; have HB := n1_; have BKn := n2_; have BKa := n3_; clear n0_ n1_ n2_ n3_; have hcz_0 : w9.cell? ⟨ga, 0, none⟩ = some (.int .i64 f0) := (blk_cell BKa.out 0).trans rfl; have hcz_1 : w9.cell? ⟨ga, 1, none⟩ = some (.int .i64 f1) := (blk_cell BKa.out 1).trans rfl; have hcz_2 : w9.cell? ⟨ga, 2, none⟩ = some (.int .i64 f2) := (blk_cell BKa.out 2).trans rfl; have hcz_3 : w9.cell? ⟨ga, 3, none⟩ = some (.int .i64 f3) := (blk_cell BKa.out 3).trans rfl))
       go_roundg gk1
       case measure => omega
       case rel =>
        refine ⟨i + 1, v, by first | exact congrArg (Value.int .i64) (by omega) | exact congrArg (Value.int .i64) HWI.out, ⟨by have := HI.out; omega⟩, HB, ⟨?_⟩, BKn⟩
        have h_ := HST.out
        rw [if_neg (fun hc => by first | exact absurd (decide_eq_true hc.1) (by rw [hd]; decide) | exact absurd hc.2 (by rw [hu]; decide))] at h_
        rw [h_]
        exact HG.out.mono (fun k hk => hk.1)
     ·cases bu
      ·skip
       go_wp2_with (first
        | ((with_reducible refine gate_dst (N := 12) rfl ?_); refine box_event ?hg (N := 12) ?hd (cs := #[.int .i64 0, .int .i64 0, .int .i64 0, .int .i64 0]) (t := 54) ?hr ?_; (case hd => rfl); (case hg => rfl); (case hr => first | (go_simp; done) | (go_simp; rfl)); intro ga hg w5 hbox hb; have n0_ := am_ ((HG.out.elder ga (Nat.le_of_eq hg.symm)).below hb); have n1_ := am_ (below_step HB.out hb); have n2_ := am_ (blk_below BKn.out hb); have GEa := am_ (show w.heap.size ≤ ga by rw [hg]; exact below_size HB.out); have NGa := am_ (show gg ≠ ga by rw [hg]; exact Nat.ne_of_lt HG.out.lt); have NBa := am_ (show gb ≠ ga by rw [hg]; exact Nat.ne_of_lt (blk_lt BKn.out)); have BKa := am_ hbox; clear HG HB BKn; have HG := n0_; have HB := n1_; have BKn := n2_; clear n0_ n1_ n2_ hb hbox hg hx_0 hx_1 hx_2 hx_3; have hcz_0 : w5.cell? ⟨ga, 0, none⟩ = some (.int .i64 0) := (blk_cell BKa.out 0).trans rfl; have hcz_1 : w5.cell? ⟨ga, 1, none⟩ = some (.int .i64 0) := (blk_cell BKa.out 1).trans rfl; have hcz_2 : w5.cell? ⟨ga, 2, none⟩ = some (.int .i64 0) := (blk_cell BKa.out 2).trans rfl; have hcz_3 : w5.cell? ⟨ga, 3, none⟩ = some (.int .i64 0) := (blk_cell BKa.out 3).trans rfl; have hfz_0 := blk_frozen BKa.out 0; have hfz_1 := blk_frozen BKa.out 1; have hfz_2 := blk_frozen BKa.out 2; have hfz_3 := blk_frozen BKa.out 3)
        | ((with_reducible refine gate_store (t := 54) (p := 12) rfl ?_); refine store_event (t := 54) (p := 12) (v := ?vo12) (w1 := ?wo12) ?hg ?ho ?hn ?hr ?_; (case ho => rfl); (case hg => rfl); (case hn => rfl); (case hr => first | (go_simp; done) | (go_simp; rfl)); intro w6 hw; have hbx := HG.out.box4 BKa.out NGa.out (.int .i64 f0) (.int .i64 f1) (.int .i64 f2) (.int .i64 f3); rw [← hw] at hbx; have n2_ := am_ (show Below w.heap.size w w6 from q23_); have n3_ := am_ (show w6.heap[gb]? = some (.cells #[.int .i64 V, .bool hold, .slice (some ad1) l0.length c0] 24 (0, 0)) from q13_); clear BKa HG HB BKn hw hcz_0 hcz_1 hcz_2 hcz_3 hfz_0 hfz_1 hfz_2 hfz_3; have HG := am_ hbx.1; have BKa := am_ hbx.2; have HB := n2_; have BKn := n3_; clear n2_ n3_ hbx; have hcz_0 : w6.cell? ⟨ga, 0, none⟩ = some (.int .i64 f0) := (blk_cell BKa.out 0).trans rfl; have hcz_1 : w6.cell? ⟨ga, 1, none⟩ = some (.int .i64 f1) := (blk_cell BKa.out 1).trans rfl; have hcz_2 : w6.cell? ⟨ga, 2, none⟩ = some (.int .i64 f2) := (blk_cell BKa.out 2).trans rfl; have hcz_3 : w6.cell? ⟨ga, 3, none⟩ = some (.int .i64 f3) := (blk_cell BKa.out 3).trans rfl)
        | (go_at_call 60; (with_reducible refine (Of1.calls f0 f1 f2 f3 s t gs gt _ (blk_below HS.out HB.out) (blk_below HT.out HB.out)).mono ?_); rintro e w9 ⟨rfl, hb⟩; rw [hu]; have n0_ := am_ (HG.out.below hb); have n1_ := am_ (below_step HB.out hb); have n2_ := am_ (blk_below BKn.out hb); have n3_ := am_ (blk_below BKa.out hb); clear HG HB BKn BKa hb hcz_0 hcz_1 hcz_2 hcz_3; have HG := n0_; have HB := n1_; have BKn := n2_; have BKa := n3_; clear n0_ n1_ n2_ n3_; have hcz_0 : w9.cell? ⟨ga, 0, none⟩ = some (.int .i64 f0) := (blk_cell BKa.out 0).trans rfl; have hcz_1 : w9.cell? ⟨ga, 1, none⟩ = some (.int .i64 f1) := (blk_cell BKa.out 1).trans rfl; have hcz_2 : w9.cell? ⟨ga, 2, none⟩ = some (.int .i64 f2) := (blk_cell BKa.out 2).trans rfl; have hcz_3 : w9.cell? ⟨ga, 3, none⟩ = some (.int .i64 f3) := (blk_cell BKa.out 3).trans rfl))
       go_roundg gk1
       case measure => omega
       case rel =>
        refine ⟨i + 1, v, by first | exact congrArg (Value.int .i64) (by omega) | exact congrArg (Value.int .i64) HWI.out, ⟨by have := HI.out; omega⟩, HB, ⟨?_⟩, BKn⟩
        have h_ := HST.out
        rw [if_neg (fun hc => by first | exact absurd (decide_eq_true hc.1) (by rw [hd]; decide) | exact absurd hc.2 (by rw [hu]; decide))] at h_
        rw [h_]
        exact HG.out.mono (fun k hk => hk.1)
      ·skip
       go_wp2_with (first
        | ((with_reducible refine gate_dst (N := 12) rfl ?_); refine box_event ?hg (N := 12) ?hd (cs := #[.int .i64 0, .int .i64 0, .int .i64 0, .int .i64 0]) (t := 54) ?hr ?_; (case hd => rfl); (case hg => rfl); (case hr => first | (go_simp; done) | (go_simp; rfl)); intro ga hg w5 hbox hb; have n0_ := am_ ((HG.out.elder ga (Nat.le_of_eq hg.symm)).below hb); have n1_ := am_ (below_step HB.out hb); have n2_ := am_ (blk_below BKn.out hb); have GEa := am_ (show w.heap.size ≤ ga by rw [hg]; exact below_size HB.out); have NGa := am_ (show gg ≠ ga by rw [hg]; exact Nat.ne_of_lt HG.out.lt); have NBa := am_ (show gb ≠ ga by rw [hg]; exact Nat.ne_of_lt (blk_lt BKn.out)); have BKa := am_ hbox; clear HG HB BKn; have HG := n0_; have HB := n1_; have BKn := n2_; clear n0_ n1_ n2_ hb hbox hg hx_0 hx_1 hx_2 hx_3; have hcz_0 : w5.cell? ⟨ga, 0, none⟩ = some (.int .i64 0) := (blk_cell BKa.out 0).trans rfl; have hcz_1 : w5.cell? ⟨ga, 1, none⟩ = some (.int .i64 0) := (blk_cell BKa.out 1).trans rfl; have hcz_2 : w5.cell? ⟨ga, 2, none⟩ = some (.int .i64 0) := (blk_cell BKa.out 2).trans rfl; have hcz_3 : w5.cell? ⟨ga, 3, none⟩ = some (.int .i64 0) := (blk_cell BKa.out 3).trans rfl; have hfz_0 := blk_frozen BKa.out 0; have hfz_1 := blk_frozen BKa.out 1; have hfz_2 := blk_frozen BKa.out 2; have hfz_3 := blk_frozen BKa.out 3)
        | ((with_reducible refine gate_store (t := 54) (p := 12) rfl ?_); refine store_event (t := 54) (p := 12) (v := ?vo14) (w1 := ?wo14) ?hg ?ho ?hn ?hr ?_; (case ho => rfl); (case hg => rfl); (case hn => rfl); (case hr => first | (go_simp; done) | (go_simp; rfl)); intro w6 hw; have hbx := HG.out.box4 BKa.out NGa.out (.int .i64 f0) (.int .i64 f1) (.int .i64 f2) (.int .i64 f3); rw [← hw] at hbx; have n2_ := am_ (show Below w.heap.size w w6 from q23_); have n3_ := am_ (show w6.heap[gb]? = some (.cells #[.int .i64 V, .bool hold, .slice (some ad1) l0.length c0] 24 (0, 0)) from q13_); clear BKa HG HB BKn hw hcz_0 hcz_1 hcz_2 hcz_3 hfz_0 hfz_1 hfz_2 hfz_3; have HG := am_ hbx.1; have BKa := am_ hbx.2; have HB := n2_; have BKn := n3_; clear n2_ n3_ hbx; have hcz_0 : w6.cell? ⟨ga, 0, none⟩ = some (.int .i64 f0) := (blk_cell BKa.out 0).trans rfl; have hcz_1 : w6.cell? ⟨ga, 1, none⟩ = some (.int .i64 f1) := (blk_cell BKa.out 1).trans rfl; have hcz_2 : w6.cell? ⟨ga, 2, none⟩ = some (.int .i64 f2) := (blk_cell BKa.out 2).trans rfl; have hcz_3 : w6.cell? ⟨ga, 3, none⟩ = some (.int .i64 f3) := (blk_cell BKa.out 3).trans rfl)
        | (go_at_call 60; (with_reducible refine (Of1.calls f0 f1 f2 f3 s t gs gt _ (blk_below HS.out HB.out) (blk_below HT.out HB.out)).mono ?_); rintro e w9 ⟨rfl, hb⟩; rw [hu]; have n0_ := am_ (HG.out.below hb); have n1_ := am_ (below_step HB.out hb); have n2_ := am_ (blk_below BKn.out hb); have n3_ := am_ (blk_below BKa.out hb); clear HG HB BKn BKa hb hcz_0 hcz_1 hcz_2 hcz_3; have HG := n0_; have HB := n1_; have BKn := n2_; have BKa := n3_; clear n0_ n1_ n2_ n3_; have hcz_0 : w9.cell? ⟨ga, 0, none⟩ = some (.int .i64 f0) := (blk_cell BKa.out 0).trans rfl; have hcz_1 : w9.cell? ⟨ga, 1, none⟩ = some (.int .i64 f1) := (blk_cell BKa.out 1).trans rfl; have hcz_2 : w9.cell? ⟨ga, 2, none⟩ = some (.int .i64 f2) := (blk_cell BKa.out 2).trans rfl; have hcz_3 : w9.cell? ⟨ga, 3, none⟩ = some (.int .i64 f3) := (blk_cell BKa.out 3).trans rfl))
       have hz3 : w9.cell? ⟨gg, 3, none⟩ = some (.map (some m1)) := (blk_cell HG.out.blk 3).trans rfl
       have n0_ := am_ HG.out.drew
       have n1_ := am_ (below_drew1 HB.out)
       have n2_ := am_ (blk_drew BKn.out)
       have n3_ := am_ (blk_drew BKa.out)
       clear HG HB BKn BKa
       have HG := n0_
       have HB := n1_
       have BKn := n2_
       have BKa := n3_
       clear n0_ n1_ n2_ n3_
       refine start_ (n := 25) (S := fun w' => w'.cell? ⟨ga, 0, none⟩ = some (.int .i64 f0) ∧ w'.cell? ⟨ga, 1, none⟩ = some (.int .i64 f1) ∧ w'.cell? ⟨ga, 2, none⟩ = some (.int .i64 f2) ∧ w'.cell? ⟨ga, 3, none⟩ = some (.int .i64 f3) ∧ w'.cell? ⟨gg, 3, none⟩ = some (.map (some m1))) (ds := [24]) #[Ff,Ff,Ff,Ff,Ff,Ff,Ff,Ff,Ff,Ff,Ff,Ff,Ff,Ff,Ff,Ff,Ff,Ff,Ff,Ff,Ff,Ff,Ff,Ff,Ff] (by kernel_rfl) rfl rfl ⟨hcz_0, hcz_1, hcz_2, hcz_3, hz3⟩ (fun hHeld => ?_)
       clear hcz_0 hcz_1 hcz_2 hcz_3 hz3
       generalize w9.drew = w10 at HG HB BKn BKa hHeld ⊢
       refine with_tabW expand_Begin.tab10 expand_Begin.bits10 (fun HT_ HW_ => ?_)
       refine pw_ 0 56 ?_
       refine pw_ 1 57 ?_
       refine pw_ 2 58 ?_
       refine pw_ 4 60 ?_
       refine pw_ 5 61 ?_
       refine pw_ 6 62 ?_
       refine pw_ 7 63 ?_
       refine pw_ 8 64 ?_
       refine pw_ 9 65 ?_
       refine pw_ 11 67 ?_
       refine pw_ 13 69 ?_
       refine pw_ 14 70 ?_
       refine pw_ 16 72 ?_
       refine pw_ 17 73 ?_
       refine pw_ 21 77 ?_
       refine tk_ 3 59 ?_
       refine tk_ 10 66 ?_
       refine tk_ 15 71 ?_
       refine tk_ 18 74 ?_
       refine pw_ 19 75 ?_
       refine tk_ 22 78 ?_
       refine one_ (i := 12) (N := (some 68)) #[Tt,Tt,Tt,Tt,Tt,Tt,Tt,Tt,Tt,Tt,Tt,Tt,Tt,Tt,Tt,Tt,Tt,Tt,Tt,Tt,Ff,Tt,Tt,Ff,Ff] rfl rfl (one_of HT_.out (by kernel_rfl)) (by decide) (fun K hK => ?_)
       refine goes_ Try.func64 (by kernel_rfl) rfl #[.pointer (some ⟨gg, 0, none⟩), .int .i64 f0, .int .i64 (j : Int)] (by rfl) rfl rfl q9_ ?_
       refine (Grid_At.calls gg _ V f0 (j : Int) _ _ _ _ _ _ HG.out.blk).mono ?_
       rintro e w' ⟨rfl, hw'⟩
       subst hw'
       rw [HWA.out]
       refine ⟨_, rfl, ?_⟩
       refine hK.out _ _ hHeld (fun hHeld => ?_)
       clear hK K
       refine norm_ (a' := ?_) ?_ ?_
       rotate_left
       ·show Act.put _ (some 68) _ = _
        simp only [Act.put, List.setIfInBounds_toArray, List.set_cons_zero, List.set_cons_succ, i64_w, i32_w]
        rfl
       refine one_ (i := 20) (N := (some 76)) #[Tt,Tt,Tt,Tt,Tt,Tt,Tt,Tt,Tt,Tt,Tt,Tt,Tt,Tt,Tt,Tt,Tt,Tt,Tt,Tt,Tt,Tt,Tt,Ff,Ff] rfl rfl (one_of HT_.out (by kernel_rfl)) (by decide) (fun K hK => ?_)
       refine goes_ Try.func64 (by kernel_rfl) rfl #[.pointer (some ⟨gg, 0, none⟩), .int .i64 f1, .int .i64 (wrap64 ((j : Int) + f3))] (by rfl) rfl rfl q9_ ?_
       refine (Grid_At.calls gg _ V f1 (wrap64 ((j : Int) + f3)) _ _ _ _ _ _ HG.out.blk).mono ?_
       rintro e w' ⟨rfl, hw'⟩
       subst hw'
       rw [HWB.out]
       refine ⟨_, rfl, ?_⟩
       refine hK.out _ _ hHeld (fun hHeld => ?_)
       clear hK K
       refine norm_ (a' := ?_) ?_ ?_
       rotate_left
       ·show Act.put _ (some 76) _ = _
        simp only [Act.put, List.setIfInBounds_toArray, List.set_cons_zero, List.set_cons_succ, i64_w, i32_w]
        rfl
       refine one_ (i := 23) (N := (some 79)) #[Tt,Tt,Tt,Tt,Tt,Tt,Tt,Tt,Tt,Tt,Tt,Tt,Tt,Tt,Tt,Tt,Tt,Tt,Tt,Tt,Tt,Tt,Tt,Tt,Ff] rfl rfl (one_of HT_.out (by kernel_rfl)) (by decide) (fun K hK => ?_)
       refine goes_ Try.func63 (by kernel_rfl) rfl #[.pointer (some ⟨gg, 0, none⟩), .int .i64 ((j : Int) * V + f0), .int .i64 (((j : Int) + f3) * V + f1), .int .i64 f2] (by rfl) rfl rfl q9_ ?_
       refine (Grid_Add.calls (fun k => k ≠ gb ∧ k ≠ ga) gg _ V v gA m1 m2 m3 m4 g1 g2 [] [] ((j : Int) * V + f0) (((j : Int) + f3) * V + f1) f2 w _ HB.out HG.out (fun k hk => ⟨fun e_ => by have := blk_lt BKn.out; omega, fun e_ => by have := blk_lt BKa.out; omega⟩) (by have := HLA.out.1; omega)).mono ?_
       rintro e w11 ⟨rfl, v2, hG, hb, hk⟩
       refine ⟨_, rfl, ?_⟩
       have n0_ := am_ (Kept.blk (S := fun k => k = gg ∨ (k ≠ gb ∧ k ≠ ga)) hk BKn.out (fun hc => by rcases hc with hc | hc; (exact NBng.out hc); (exact hc.1 rfl)))
       have n1_ := am_ (Kept.blk (S := fun k => k = gg ∨ (k ≠ gb ∧ k ≠ ga)) hk BKa.out (fun hc => by rcases hc with hc | hc; (exact NGa.out hc.symm); (exact hc.2 rfl)))
       clear HG HB BKn BKa hk hHeld
       have HG := am_ hG
       have HB := am_ hb
       have BKn := n0_
       have BKa := n1_
       clear n0_ n1_ hG hb
       refine hK.out _ _ ⟨(blk_cell BKa.out 0).trans rfl, (blk_cell BKa.out 1).trans rfl, (blk_cell BKa.out 2).trans rfl, (blk_cell BKa.out 3).trans rfl, (blk_cell HG.out.blk 3).trans rfl⟩ (fun hHeld => ?_)
       clear hK K
       refine norm_ (a' := ?_) ?_ ?_
       rotate_left
       ·show Act.put _ (some 79) _ = _
        simp only [Act.put, List.setIfInBounds_toArray, List.set_cons_zero, List.set_cons_succ, i64_w, i32_w]
        rfl
       refine last_ (i := 24) (N := none) #[Tt,Tt,Tt,Tt,Tt,Tt,Tt,Tt,Tt,Tt,Tt,Tt,Tt,Tt,Tt,Tt,Tt,Tt,Tt,Tt,Tt,Tt,Tt,Tt,Tt] rfl rfl (one_of HT_.out (by kernel_rfl)) (by decide) (fun K hK => ?_)
       refine mput_step E26 (by rfl) rfl (.tmp 59) (.tmp 62) (.tmp 79) 73 rfl Try.underlying73 rfl HG.out.M1 ((i : Int), (j : Int)) (gA.length : Int) rfl rfl HKEY.out HKV.out (by have := HLA.out.2; unfold maxLen; omega) ?_
       intro w12 hM hg
       refine hK.out _ _ ?_
       clear hK K
       have n0_ := am_ (HG.out.put1 hg hM)
       have n1_ := am_ (Below.grown HB.out hg (below_size HB.out) (fun k_ e_ => by injection e_ with e_; subst e_; exact HG.out.o1))
       have n2_ := am_ (blk_grown BKn.out hg (fun e_ => HG.out.M1.ne BKn.out (Option.some.inj e_)))
       clear HG HB BKn BKa hM hg
       have HG := n0_
       have HB := n1_
       have BKn := n2_
       clear n0_ n1_ n2_
       refine done_ (done_of HT_.out (by kernel_rfl)) ?_
       try go_wp2
       go_roundg gk1
       case measure => omega
       case rel =>
        refine ⟨i + 1, v2, by first | exact congrArg (Value.int .i64) (by omega) | exact congrArg (Value.int .i64) HWI.out, ⟨by have := HI.out; omega⟩, HB, ⟨?_⟩, BKn⟩
        have h_ := HST.out
        rw [if_pos ⟨of_decide_eq_true hd, hu⟩] at h_
        rw [h_]
        exact HG.out.mono (fun k hk => hk.1)
end Go.Proofs.Ytfhkkbpkajfdlaa.Q
end
