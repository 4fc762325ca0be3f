/- A part of the proof: words, contracts, plain lemmas. Conditions: none. -/
import Derived.Test.YtloebciamfbjfaaZPileSorts4
section
namespace Go.Proofs.Ytloebciamfbjfaa.Q
open Go.RowKit Go.Proofs.Ytloebciamfbjfaa.P Go.Proofs.YtloebciamfbjfaaW.PrintWords Go.Proofs.YtloebciamfbjfaaW.PrintLast Go.Proofs.YtloebciamfbjfaaW.PrintMore
set_option linter.unusedVariables false
set_option linter.unusedSimpArgs false
def ints (zs : List Int) : Array Value := (zs.map (Value.int .i64)).toArray
theorem ints_get {zs : List Int} {j : Nat} (h : j < zs.length) : (ints zs)[j]? = some (.int .i64 zs[j]) := by unfold ints; simp [h]
theorem ints_set (zs : List Int) (j : Nat) (n : Int) : (ints zs).setIfInBounds j (.int .i64 n) = ints (zs.set j n) := by unfold ints; simp [List.map_set]
structure QueueC (w : World) (base : Nat) (ok : Nat → Prop) (g : Nat) (most : Int) (v : Value) (zs : List Int) (f s : Nat) : Prop where
  blk : w.heap[g]? = some (.cells #[v, .int .i64 (f : Int), .int .i64 (s : Int), .int .i64 most] 67 (0, 0))
  ge : base ≤ g
  ring : (v = .slice none 0 0 ∧ zs = []) ∨ ∃ gk, v = .slice (some ⟨gk, 0, none⟩) zs.length zs.length ∧ w.heap[gk]? = some (.cells (ints zs) 3 (0, 0)) ∧ base ≤ gk ∧ ok gk ∧ gk ≠ g ∧ 0 < zs.length
  fl : f < zs.length ∨ (zs = [] ∧ f = 0)
  sl : s ≤ zs.length
section
variable {w w1 : World} {base : Nat} {ok ok' : Nat → Prop} {g : Nat} {most : Int} {v : Value} {zs : List Int} {f s : Nat}
theorem QueueC.below (h : QueueC w base ok g most v zs f s) (hb : Below w.heap.size w w1) : QueueC w1 base ok g most v zs f s :=
  ⟨blk_below h.blk hb, h.ge, h.ring.imp id (fun ⟨gk, h1, h2, h3⟩ => ⟨gk, h1, blk_below h2 hb, h3⟩), h.fl, h.sl⟩
theorem QueueC.drew (h : QueueC w base ok g most v zs f s) : QueueC w.drew base ok g most v zs f s := h.below (below_drew (Below.refl _ _))
theorem QueueC.mono (h : QueueC w base ok g most v zs f s) (hk : ∀ k, ok k → ok' k) : QueueC w base ok' g most v zs f s :=
  ⟨h.blk, h.ge, h.ring.imp id (fun ⟨gk, h1, h2, h3, h4, h5⟩ => ⟨gk, h1, h2, h3, hk gk h4, h5⟩), h.fl, h.sl⟩
theorem QueueC.elder (h : QueueC w base ok g most v zs f s) (a : Nat) (ha : w.heap.size ≤ a) : QueueC w base (fun k => ok k ∧ k ≠ a) g most v zs f s :=
  ⟨h.blk, h.ge, h.ring.imp id (fun ⟨gk, h1, h2, h3, h4, h5⟩ => ⟨gk, h1, h2, h3, ⟨h4, by have := blk_lt h2; omega⟩, h5⟩), h.fl, h.sl⟩
theorem QueueC.kept {S : Nat → Prop} (h : QueueC w base ok g most v zs f s) (hk : Kept w w1 S) (hg : ¬ S g) (ho : ∀ k, ok k → ¬ S k) : QueueC w1 base ok g most v zs f s :=
  ⟨Kept.blk hk h.blk hg, h.ge, h.ring.imp id (fun ⟨gk, h1, h2, h3, h4, h5⟩ => ⟨gk, h1, Kept.blk hk h2 (ho gk h4), h3, h4, h5⟩), h.fl, h.sl⟩
theorem QueueC.lower {base' : Nat} (h : QueueC w base ok g most v zs f s) (hb : base' ≤ base) : QueueC w base' ok g most v zs f s :=
  ⟨h.blk, Nat.le_trans hb h.ge, h.ring.imp id (fun ⟨gk, h1, h2, h3, h4⟩ => ⟨gk, h1, h2, Nat.le_trans hb h3, h4⟩), h.fl, h.sl⟩
theorem QueueC.setF (h : QueueC w base ok g most v zs f s) (f' : Nat) (hf : f' < zs.length ∨ (zs = [] ∧ f' = 0)) : QueueC (w.setCell ⟨g, 1, none⟩ (.int .i64 (f' : Int))) base ok g most v zs f' s :=
  ⟨blk_put (cs' := #[v, .int .i64 (f' : Int), .int .i64 (s : Int), .int .i64 most]) h.blk 1 _ rfl, h.ge, h.ring.imp id (fun ⟨gk, h1, h2, h3, h4, h5, h6⟩ => ⟨gk, h1, blk_far (p := ⟨g, 1, none⟩) h2 h5 _, h3, h4, h5, h6⟩), hf, h.sl⟩
theorem QueueC.setS (h : QueueC w base ok g most v zs f s) (s' : Nat) (hs : s' ≤ zs.length) : QueueC (w.setCell ⟨g, 2, none⟩ (.int .i64 (s' : Int))) base ok g most v zs f s' :=
  ⟨blk_put (cs' := #[v, .int .i64 (f : Int), .int .i64 (s' : Int), .int .i64 most]) h.blk 2 _ rfl, h.ge, h.ring.imp id (fun ⟨gk, h1, h2, h3, h4, h5, h6⟩ => ⟨gk, h1, blk_far (p := ⟨g, 2, none⟩) h2 h5 _, h3, h4, h5, h6⟩), h.fl, hs⟩
theorem keptG (h : QueueC w base ok g most v zs f s) (j : Nat) (u : Value) : Kept w (w.setCell ⟨g, j, none⟩ u) (fun k => k = g ∨ ok k) := Kept.setCell (p := ⟨g, j, none⟩) (Kept.refl w _) (Or.inl (Or.inl rfl)) u
end
def content (zs : List Int) (f s : Nat) : List Int := (List.range s).map (fun i => zs.getD ((f + i) % zs.length) 0)
set_option maxHeartbeats 8000000 in
set_option maxRecDepth 100000 in
theorem Queue_New.calls (most : Int) (w : World) :
    Calls Try.prog 18 #[.int .i64 most] w fun e w' => Below w.heap.size w w' ∧ if 0 ≤ most ∧ most ≤ 65536 then ∃ g, e = .returned (.tuple #[.pointer (some ⟨g, 0, none⟩), .int .i64 0]) ∧ QueueC w' w.heap.size (fun _ => True) g most (.slice none 0 0) [] 0 0 else e = .returned (.tuple #[.pointer none, .int .i64 1]) := by
  have hu67 := Try.underlying67
  have HB := Aside0.mk (Below.refl w.heap.size w)
  by_cases c : 0 ≤ most ∧ most ≤ 65536
  · have hf : pile_room.f most = some true := by unfold pile_room.f; rw [if_pos (show most ≥ 0 by omega), decide_eq_true c.2]
    have HF := Aside0.mk hf
    simp only [if_pos c]
    clear hf
    go_enter Try.func18, Try.ntmps18
    go_wp2_with (first
      | (go_at_call 28; refine (pile_room.calls most true _ HF.out).mono ?_; rintro e w1 ⟨rfl, hd⟩; have n0_ := Aside0.mk (below_step HB.out (Drawn0.below hd)); clear HB hd; have HB := n0_; clear n0_)
      | ((with_reducible refine gate_dst (N := 9) rfl ?_); refine box_event ?hg (N := 9) ?hd (cs := #[.slice none 0 0, .int .i64 0, .int .i64 0, .int .i64 most]) (t := 67) ?hr ?_; (case hd => rfl); (case hg => rfl); (case hr => first | (go_simp; done) | (go_simp; rfl)); intro g hg w2 hbox hb; have HG := Aside0.mk (⟨hbox, by rw [hg]; exact below_size HB.out, .inl ⟨rfl, rfl⟩, .inr ⟨rfl, rfl⟩, Nat.le_refl _⟩ : QueueC w2 w.heap.size (fun _ => True) g most (.slice none 0 0) [] 0 0); have n0_ := Aside0.mk (below_step HB.out hb); clear HB; have HB := n0_; clear n0_ hb hbox hg))
    go_ret2
    exact ⟨HB.out, g, rfl, HG.out⟩
  · have hf : pile_room.f most = some false := by
      unfold pile_room.f
      by_cases c1 : most ≥ 0
      · rw [if_pos c1, decide_eq_false (by omega)]
      · rw [if_neg c1]
    have HF := Aside0.mk hf
    simp only [if_neg c]
    clear hf
    go_enter Try.func18, Try.ntmps18
    go_wp2_with (go_at_call 28; refine (pile_room.calls most false _ HF.out).mono ?_; rintro e w1 ⟨rfl, hd⟩; have n0_ := Aside0.mk (below_step HB.out (Drawn0.below hd)); clear HB hd; have HB := n0_; clear n0_)
    go_ret2
    exact ⟨HB.out, rfl⟩
set_option maxHeartbeats 8000000 in
set_option maxRecDepth 100000 in
theorem Queue_Len.calls {base : Nat} {ok : Nat → Prop} (g : Nat) (most : Int) (v : Value) (zs : List Int) (f s : Nat) (w : World) (hQ : QueueC w base ok g most v zs f s) :
    Calls Try.prog 24 #[.pointer (some ⟨g, 0, none⟩)] w fun e w' => e = .returned (.int .i64 (s : Int)) ∧ w' = w := by
  have z : w.cell? ⟨g, 2, none⟩ = some (.int .i64 (s : Int)) := (blk_cell hQ.blk 2).trans rfl
  have hu67 := Try.underlying67
  clear hQ
  go_enter Try.func24, Try.ntmps24
  go_wp2
  go_ret
  exact ⟨rfl, rfl⟩
theorem content_succ (zs : List Int) (f s : Nat) (hf : f < zs.length) : content zs f (s + 1) = zs.getD f 0 :: content zs ((f + 1) % zs.length) s := by
  unfold content
  rw [List.range_succ_eq_map, List.map_cons, List.map_map, Nat.add_zero, Nat.mod_eq_of_lt hf]
  congr 1
  refine List.map_congr_left fun i _ => ?_
  show zs.getD ((f + (i + 1)) % zs.length) 0 = zs.getD (((f + 1) % zs.length + i) % zs.length) 0
  rw [Nat.mod_add_mod, show f + (i + 1) = f + 1 + i by omega]
def Queue_Take.T3 : Bool × List (List Nat × List Nat) := (true, [([], []), ([0], [0]), ([1], [1]), ([2], [2]), ([], []), ([4], [4]), ([5], [5]), ([6], [6]), ([3, 7], [3, 7]), ([8], [8]), ([9, 0, 1, 2, 3, 4, 5, 6, 7, 8, 9], [9])])
def Queue_Take.B3 : List Nat := [0, 1, 3, 7, 0, 16, 48, 112, 255, 511, 1023]
theorem Queue_Take.tab3 : rtab .any (opsOf Try.f20 3) = Queue_Take.T3 := by kernel_rfl
theorem Queue_Take.bits3 : waitsOk Queue_Take.T3.2 Queue_Take.B3 = true := by kernel_rfl
def Queue_Take.T4 : Bool × List (List Nat × List Nat) := (true, [([], []), ([], []), ([1], [1]), ([2], [2]), ([3], [3]), ([4], [4]), ([], []), ([6], [6]), ([7], [7]), ([8], [8]), ([9], [9]), ([5, 10], [5, 10]), ([0, 0, 1, 2, 3, 4, 5, 6, 7, 8, 9, 10, 11], [0]), ([12, 0, 1, 2, 3, 4, 5, 6, 7, 8, 9, 10, 11], [12]), ([13, 11, 0, 1, 2, 3, 4, 5, 6, 7, 8, 9, 10, 11], [11, 13])])
def Queue_Take.B4 : List Nat := [0, 0, 2, 6, 14, 30, 0, 64, 192, 448, 960, 2046, 4095, 8191, 16383]
theorem Queue_Take.tab4 : rtab .any (opsOf Try.f20 4) = Queue_Take.T4 := by kernel_rfl
theorem Queue_Take.bits4 : waitsOk Queue_Take.T4.2 Queue_Take.B4 = true := by kernel_rfl
set_option maxHeartbeats 8000000 in
set_option maxRecDepth 100000 in
theorem Queue_Take.calls (ok : Nat → Prop) (g : Nat) (most : Int) (v : Value) (zs : List Int) (f s : Nat) (w0 w : World) (hB : Below w0.heap.size w0 w) (hQ : QueueC w w0.heap.size ok g most v zs f s) (hz : zs.length ≤ 1048576) :
    Calls Try.prog 20 #[.pointer (some ⟨g, 0, none⟩)] w fun e w' => Below w0.heap.size w0 w' ∧ Kept w w' (fun k => k = g ∨ ok k) ∧ if s = 0 then e = .returned (.tuple #[.int .i64 0, .int .i64 21]) ∧ QueueC w' w0.heap.size ok g most v zs f s else e = .returned (.tuple #[.int .i64 (zs.getD f 0), .int .i64 0]) ∧ QueueC w' w0.heap.size ok g most v zs ((f + 1) % zs.length) (s - 1) := by
  have hu67 := Try.underlying67
  have HB := Aside0.mk hB
  have HQ := Aside0.mk hQ
  have HK := Aside0.mk (Kept.refl w (fun k => k = g ∨ ok k))
  have hz2 : w.cell? ⟨g, 2, none⟩ = some (.int .i64 (s : Int)) := (blk_cell hQ.blk 2).trans rfl
  have HZ := Aside0.mk hz
  clear hz
  by_cases cs : s = 0
  · simp only [if_pos cs]
    subst cs
    clear hB hQ
    go_enter Try.func20, Try.ntmps20
    go_wp2
    go_ret2
    exact ⟨HB.out, HK.out, rfl, HQ.out⟩
  · simp only [if_neg cs]
    have c1 : decide ((s : Int) = 0) = false := decide_eq_false (by omega)
    have c2 : ((s : Int) == 0) = false := beq_eq_false_iff_ne.2 (by omega)
    have c3 : decide (s = 0) = false := decide_eq_false cs
    have c4 : (s == 0) = false := beq_eq_false_iff_ne.2 cs
    have c5 := eq_false cs
    have hsl := hQ.sl
    rcases hQ.ring with ⟨_, hzs⟩ | ⟨gk, ev, hk, hbk, hok, hne, hpos⟩
    · subst hzs; exact absurd hsl (by simp; omega)
    · subst ev
      have hfl : f < zs.length := by rcases hQ.fl with h | h; (exact h); (rw [h.1] at hpos; cases hpos)
      obtain ⟨n, hn⟩ : ∃ n, n = zs.length := ⟨_, rfl⟩
      obtain ⟨x, hx⟩ : ∃ x, zs.getD f 0 = x := ⟨_, rfl⟩
      have hxc : (ints zs)[f]? = some (.int .i64 x) := by rw [ints_get hfl, ← hx, List.getD_eq_getElem?_getD, List.getElem?_eq_getElem hfl]; rfl
      have HXC := Aside0.mk hxc
      have HFL := Aside0.mk hfl
      have HN := Aside0.mk hn
      have HCS := Aside0.mk cs
      have HNE := Aside0.mk hne
      rw [hx]
      have hf0 := eq_true (show (0 : Int) ≤ (f : Int) by omega)
      have hf1 := eq_true (show (f : Int) < (n : Int) by omega)
      have hrem : Int.tmod (wrap64 ((f : Int) + 1)) (n : Int) = ((((f + 1) % zs.length : Nat)) : Int) := by
        rw [wrapId (by omega) (by have := HZ.out; omega), hn]
        exact (Int.ofNat_tmod (f + 1) zs.length).symm
      have hsub : wrap64 ((s : Int) - 1) = ((s - 1 : Nat) : Int) := by rw [wrapId (by omega) (by have := HZ.out; omega)]; omega
      have HREM := Aside0.mk hrem
      have HSUB := Aside0.mk hsub
      have hn0 := eq_false (show ¬ (n : Int) = 0 by omega)
      have hn1 : decide ((n : Int) = 0) = false := decide_eq_false (by omega)
      have hn2 : ((n : Int) == 0) = false := beq_eq_false_iff_ne.2 (by omega)
      have hn3 := eq_false (show ¬ n = 0 by omega)
      rw [← hn] at HQ
      clear hB hQ hk hbk hok hne hpos hsl hfl hn hx hxc cs hrem hsub
      go_enter Try.func20, Try.ntmps20
      go_wp2
      clear c1 c2 c3 c4 c5 hz2
      have n0_ := Aside0.mk (below_drew1 HB.out)
      have n1_ := Aside0.mk HQ.out.drew
      have n2_ := Aside0.mk (Kept.drew HK.out)
      clear HB HQ HK
      have HB := n0_
      have HQ := n1_
      have HK := n2_
      clear n0_ n1_ n2_
      have hkb : Aside0 (w.drew.heap[gk]? = some (.cells (ints zs) 3 (0, 0))) := ⟨by
        rcases HQ.out.ring with ⟨h_, _⟩ | ⟨gk', h1, h2, _⟩
        · cases h_
        · injection h1 with h1; injection h1 with h1; injection h1 with h1; subst h1; exact h2⟩
      refine start_ (n := 11) (S := fun w' => w'.cell? ⟨g, 0, none⟩ = some (.slice (some ⟨gk, 0, none⟩) n n) ∧ w'.cell? ⟨g, 1, none⟩ = some (.int .i64 (f : Int)) ∧ w'.cell? ⟨gk, f, none⟩ = some (.int .i64 x)) (ds := []) #[Ff,Ff,Ff,Ff,Ff,Ff,Ff,Ff,Ff,Ff,Ff] (by kernel_rfl) rfl rfl ⟨(blk_cell HQ.out.blk 0).trans rfl, (blk_cell HQ.out.blk 1).trans rfl, (blk_cell hkb.out f).trans HXC.out⟩ (fun hHeld => ?_)
      generalize w.drew = w1 at HB HQ HK hkb hHeld ⊢
      refine with_tabW Queue_Take.tab3 Queue_Take.bits3 (fun HT_ HW_ => ?_)
      refine pv_ 0 10 #[Tt,Ff,Ff,Ff,Ff,Ff,Ff,Ff,Ff,Ff,Ff] ?_
      refine pv_ 1 11 #[Tt,Tt,Ff,Ff,Ff,Ff,Ff,Ff,Ff,Ff,Ff] ?_
      refine pv_ 2 12 #[Tt,Tt,Tt,Ff,Ff,Ff,Ff,Ff,Ff,Ff,Ff] ?_
      refine pv_ 4 14 #[Tt,Tt,Tt,Ff,Tt,Ff,Ff,Ff,Ff,Ff,Ff] ?_
      refine pv_ 5 15 #[Tt,Tt,Tt,Ff,Tt,Tt,Ff,Ff,Ff,Ff,Ff] ?_
      refine pv_ 6 16 #[Tt,Tt,Tt,Ff,Tt,Tt,Tt,Ff,Ff,Ff,Ff] ?_
      refine take_ (i := 3) (N := (some 13)) (v := ?_) (a' := ?_) #[Tt,Tt,Tt,Tt,Tt,Tt,Tt,Ff,Ff,Ff,Ff] rfl rfl (take_ofW HT_.out HW_.out (by kernel_rfl)) (fun _ _ _ h => h) (Or.inl ⟨by rfl, ?_⟩) hHeld ?_ ?_
      rotate_left
      · rintro w' ⟨s0, s1, s2⟩
        go_simp
        with_reducible rfl
      rotate_left
      exact ap_
      refine take_ (i := 7) (N := (some 17)) (v := ?_) (a' := ?_) #[Tt,Tt,Tt,Tt,Tt,Tt,Tt,Tt,Ff,Ff,Ff] rfl rfl (take_ofW HT_.out HW_.out (by kernel_rfl)) (fun _ _ _ h => h) (Or.inl ⟨by rfl, ?_⟩) hHeld ?_ ?_
      rotate_left
      · rintro w' ⟨s0, s1, s2⟩
        go_simp
        with_reducible rfl
      rotate_left
      exact ap_
      refine pv_ 8 18 #[Tt,Tt,Tt,Tt,Tt,Tt,Tt,Tt,Tt,Ff,Ff] ?_
      refine take_ (i := 9) (N := (some 19)) (v := ?_) (a' := ?_) #[Tt,Tt,Tt,Tt,Tt,Tt,Tt,Tt,Tt,Tt,Ff] rfl rfl (take_ofW HT_.out HW_.out (by kernel_rfl)) (fun _ _ _ h => h) (Or.inl ⟨by rfl, ?_⟩) hHeld ?_ ?_
      rotate_left
      · rintro w' ⟨s0, s1, s2⟩
        go_simp
        with_reducible rfl
      rotate_left
      exact ap_
      refine pv_ 10 4 #[Tt,Tt,Tt,Tt,Tt,Tt,Tt,Tt,Tt,Tt,Tt] ?_
      refine done_ (done_of HT_.out (by kernel_rfl)) ?_
      go_wp2
      clear HT_ HW_ hHeld
      have n0_ := Aside0.mk (below_drew1 HB.out)
      have n1_ := Aside0.mk HQ.out.drew
      have n2_ := Aside0.mk (Kept.drew HK.out)
      clear HB HQ HK hkb
      have HB := n0_
      have HQ := n1_
      have HK := n2_
      clear n0_ n1_ n2_
      refine start_ (n := 15) (S := fun w' => w'.cell? ⟨g, 0, none⟩ = some (.slice (some ⟨gk, 0, none⟩) n n) ∧ w'.cell? ⟨g, 1, none⟩ = some (.int .i64 (f : Int))) (ds := [14]) #[Ff,Ff,Ff,Ff,Ff,Ff,Ff,Ff,Ff,Ff,Ff,Ff,Ff,Ff,Ff] (by kernel_rfl) rfl rfl ⟨(blk_cell HQ.out.blk 0).trans rfl, (blk_cell HQ.out.blk 1).trans rfl⟩ (fun hHeld => ?_)
      generalize w1.drew = w2 at HB HQ HK hHeld ⊢
      have z1 := (blk_cell HQ.out.blk 1).trans (rfl : _ = some (Value.int .i64 (f : Int)))
      have y1 := blk_frozen HQ.out.blk 1
      refine with_tabW Queue_Take.tab4 Queue_Take.bits4 (fun HT_ HW_ => ?_)
      refine pv_ 0 20 #[Tt,Ff,Ff,Ff,Ff,Ff,Ff,Ff,Ff,Ff,Ff,Ff,Ff,Ff,Ff] ?_
      refine pv_ 1 21 #[Tt,Tt,Ff,Ff,Ff,Ff,Ff,Ff,Ff,Ff,Ff,Ff,Ff,Ff,Ff] ?_
      refine pv_ 2 22 #[Tt,Tt,Tt,Ff,Ff,Ff,Ff,Ff,Ff,Ff,Ff,Ff,Ff,Ff,Ff] ?_
      refine pv_ 3 23 #[Tt,Tt,Tt,Tt,Ff,Ff,Ff,Ff,Ff,Ff,Ff,Ff,Ff,Ff,Ff] ?_
      refine pv_ 6 26 #[Tt,Tt,Tt,Tt,Ff,Ff,Tt,Ff,Ff,Ff,Ff,Ff,Ff,Ff,Ff] ?_
      refine pv_ 7 27 #[Tt,Tt,Tt,Tt,Ff,Ff,Tt,Tt,Ff,Ff,Ff,Ff,Ff,Ff,Ff] ?_
      refine pv_ 8 28 #[Tt,Tt,Tt,Tt,Ff,Ff,Tt,Tt,Tt,Ff,Ff,Ff,Ff,Ff,Ff] ?_
      refine take_ (i := 4) (N := (some 24)) (v := ?_) (a' := ?_) #[Tt,Tt,Tt,Tt,Tt,Ff,Tt,Tt,Tt,Ff,Ff,Ff,Ff,Ff,Ff] rfl rfl (take_ofW HT_.out HW_.out (by kernel_rfl)) (fun _ _ _ h => h) (Or.inl ⟨by rfl, ?_⟩) hHeld ?_ ?_
      rotate_left
      · rintro w' ⟨s0, s1⟩
        go_simp
        with_reducible rfl
      rotate_left
      exact ap_
      refine pv_ 5 25 #[Tt,Tt,Tt,Tt,Tt,Tt,Tt,Tt,Tt,Ff,Ff,Ff,Ff,Ff,Ff] ?_
      refine take_ (i := 9) (N := (some 29)) (v := ?_) (a' := ?_) #[Tt,Tt,Tt,Tt,Tt,Tt,Tt,Tt,Tt,Tt,Ff,Ff,Ff,Ff,Ff] rfl rfl (take_ofW HT_.out HW_.out (by kernel_rfl)) (fun _ _ _ h => h) (Or.inl ⟨by rfl, ?_⟩) hHeld ?_ ?_
      rotate_left
      · rintro w' ⟨s0, s1⟩
        go_simp
        with_reducible rfl
      rotate_left
      exact ap_
      refine pv_ 10 30 #[Tt,Tt,Tt,Tt,Tt,Tt,Tt,Tt,Tt,Tt,Tt,Ff,Ff,Ff,Ff] ?_
      refine pv_ 11 31 #[Tt,Tt,Tt,Tt,Tt,Tt,Tt,Tt,Tt,Tt,Tt,Tt,Ff,Ff,Ff] ?_
      refine pv_ 12 32 #[Tt,Tt,Tt,Tt,Tt,Tt,Tt,Tt,Tt,Tt,Tt,Tt,Tt,Ff,Ff] ?_
      refine pv_ 13 33 #[Tt,Tt,Tt,Tt,Tt,Tt,Tt,Tt,Tt,Tt,Tt,Tt,Tt,Tt,Ff] ?_
      refine last_ (i := 14) (N := none) #[Tt,Tt,Tt,Tt,Tt,Tt,Tt,Tt,Tt,Tt,Tt,Tt,Tt,Tt,Tt] rfl rfl (one_of HT_.out (by kernel_rfl)) (by decide) (fun K hK => ?_)
      refine skip_ (w1 := ?_) (by rfl) rfl ?_ ?_
      rotate_left
      · go_simp
        rfl
      refine hK.out _ _ ?_
      clear hK K z1 y1
      rw [HREM.out]
      have hq := HQ.out.setF ((f + 1) % zs.length) (.inl (Nat.mod_lt _ (by have := HFL.out; omega)))
      have n0_ := Aside0.mk (below_set HB.out HQ.out.ge (j := 1) (v := .int .i64 (((f + 1) % zs.length : Nat) : Int)))
      have n2_ := Aside0.mk (Kept.then_ HK.out (keptG HQ.out 1 (.int .i64 (((f + 1) % zs.length : Nat) : Int))) (fun k hk => Or.inl hk))
      clear HB HQ HK
      have HQ := Aside0.mk hq
      have HB := n0_
      have HK := n2_
      clear n0_ n2_ hq hHeld
      refine done_ (done_of HT_.out (by kernel_rfl)) ?_
      generalize w2.setCell ⟨g, 1, none⟩ (.int .i64 (((f + 1) % zs.length : Nat) : Int)) = w3 at HB HQ HK ⊢
      have z2 : w3.cell? ⟨g, 2, none⟩ = some (.int .i64 (s : Int)) := (blk_cell HQ.out.blk 2).trans rfl
      have y2 := blk_frozen HQ.out.blk 2
      clear HT_ HW_
      go_wp2
      go_ret2
      rw [HSUB.out]
      exact ⟨below_set HB.out HQ.out.ge, Kept.then_ HK.out (keptG HQ.out 2 _) (fun k hk => Or.inl hk), rfl, by have h_ := HQ.out.setS (s - 1) (by have := HQ.out.sl; omega); rw [HN.out] at h_; exact h_⟩
theorem made_ints (n : Nat) : madeCells (Value.int .i64 0).cells (n * 1) = ints (List.replicate n 0) := by
  unfold madeCells ints
  apply Array.ext
  · simp
  · intro i h1 h2
    simp [Value.cells, Nat.mod_one]
theorem wpList_mk {ops : Array Oper} {rest : List Oper} {o : Oper} {a : Act} {Q : Exit → Act → World → Prop} (w : World) (hg : o.guard = none) (l c : Operand) (hop : o.op = Op.makeSlice 52 l c) (n : Nat) (hl : a.eval l = .int .i64 0) (hc : a.eval c = .int .i64 (n : Int)) (hn : n ≤ 1000000000)
    (hK : ∀ g w1, g = w.heap.size → w1.heap[g]? = some (.cells (ints (List.replicate n 0)) 3 (0, 0)) → Below w.heap.size w w1 → wpList Try.prog ops Q rest (a.put o.dst (.slice (some ⟨g, 0, none⟩) 0 n)) w1) : wpList Try.prog ops Q (o :: rest) a w := by
  refine wpList_plain hg fun K hK' => ?_
  obtain ⟨i3, hi, hz0, hz1, hz2⟩ := info_parts info3
  have hr := run_make (P := Try.prog) w 52 3 i3 (.int .i64 0) Try.underlying52 hi hz0 .i64 .i64 0 (n : Int) (Int.le_refl _) (by omega) (by rw [hz2]; omega) (by omega)
  rw [hz1, Int.toNat_natCast, made_ints] at hr
  unfold Oper.wp
  simp [execOp, hop, hl, hc, hr, Result.andThen]
  exact hK' _ _ (hK _ _ rfl (blk_new w _) (below_alloc (Below.refl _ _) _))
theorem setRow_size' (w : World) (g : Nat) (cs : Array Value) : (w.setRow g cs).heap.size = w.heap.size := by unfold World.setRow; rw [Array.size_modify]
theorem exec_append {P : Program} {o : Oper} {a : Act} (s x : Operand) (t : TypeId) (hop : o.op = .call { callee := .builtin .append, args := #[s, x], argTypes := #[t, t] }) {vs vx v : Value} {w w' : World} (hs : a.eval s = vs) (hx : a.eval x = vx)
    (hr : (Builtin.append_ #[t, t] o.type #[vs, vx]).run P w = .ok v w') : (execOp a.eval o).run P w = .ok (.value v) w' := by
  subst hs hx
  unfold execOp
  rw [hop]
  simp only [resolve, invoke, builtin]
  simp [hr, Result.andThen]
theorem append_room_step {ops : Array Oper} {oi : Oper} {a : Act} {W : World} {Q : Exit → Act → World → Prop} {Kc : Act → World → Prop} (hw : Region.wanted oi (yielded ops a.tmps) = true) (s x : Operand) (hop : oi.op = .call { callee := .builtin .append, args := #[s, x], argTypes := #[52, 52] }) (gr i cap : Nat) (zs : List Int) (n : Int)
    (hs : a.eval s = .slice (some ⟨gr, 0, none⟩) i cap) (hx : a.eval x = .slice (some ⟨W.heap.size, 0, none⟩) 1 1) (hg : W.heap[gr]? = some (.cells (ints zs) 3 (0, 0))) (hi : i < zs.length) (hcap : zs.length = cap)
    (h : ∀ w1, w1.heap[gr]? = some (.cells (ints (zs.set i n)) 3 (0, 0)) → W.grownBy w1 (some gr) → Kc (a.put oi.dst (.slice (some ⟨gr, 0, none⟩) (i + 1) cap)) w1) :
    if Region.wanted oi (yielded ops a.tmps) = true then Oper.wp Try.prog oi a (W.alloc (.cells #[.int .i64 n] 3)) Kc Q else Kc (a.put oi.dst undef) (W.alloc (.cells #[.int .i64 n] 3)) := by
  obtain ⟨i3, h3, hz0, hz1, hz2⟩ := info_parts info3
  have hga : (W.alloc (.cells #[.int .i64 n] 3)).heap[gr]? = some (.cells (ints zs) 3 (0, 0)) := blk_below hg (below_alloc (Below.refl _ _) _)
  have hnew : (W.alloc (.cells #[.int .i64 n] 3)).heap[W.heap.size]? = some (.cells #[.int .i64 n] 3 (0, 0)) := blk_new W _
  have hr := run_append_room (P := Try.prog) (W.alloc (.cells #[.int .i64 n] 3)) 52 oi.type 3 i3 Try.underlying52 h3 gr i cap (ints zs) hga ⟨W.heap.size, 0, none⟩ 1 1 [.int .i64 n] (by rw [hz1]; rfl)
    (fun j u hu => by
      rcases j with _ | j
      · injection hu with hu; subst hu; exact (blk_cell hnew 0).trans rfl
      · cases hu)
    (fun u hu => by rcases List.mem_singleton.1 hu with rfl; rfl) (by omega) (by rw [hz1, Nat.mul_one]; unfold ints; simp; omega)
  rw [hz1, Nat.mul_one] at hr
  have harr : ((ints zs).toList.take i ++ [Value.int .i64 n] ++ (ints zs).toList.drop (i + [Value.int .i64 n].length)).toArray = ints (zs.set i n) := by
    unfold ints
    simp only [List.length_cons, List.length_nil, Nat.zero_add]
    rw [List.map_set, List.set_eq_take_append_cons_drop, if_pos (by rw [List.length_map]; exact hi)]
    simp
  rw [harr] at hr
  refine event_step hw (exec_append s x 52 hop hs hx hr) (h _ (setRow_heap _ gr _ _ _ _ hga) ?_)
  refine ⟨rfl, rfl, rfl, by rw [setRow_size']; exact (below_alloc (Below.refl W.heap.size W) (.cells #[.int .i64 n] 3)).size, fun k hk hne => ?_⟩
  rw [setRow_other _ gr k _ (fun e => hne (by rw [e]))]
  exact (below_alloc (Below.refl W.heap.size W) (.cells #[.int .i64 n] 3)).block k hk
theorem content_snoc (zs : List Int) (f s : Nat) : content zs f (s + 1) = content zs f s ++ [zs.getD ((f + s) % zs.length) 0] := by
  unfold content; rw [List.range_succ, List.map_append]; rfl
theorem content_length (zs : List Int) (f s : Nat) : (content zs f s).length = s := by unfold content; rw [List.length_map, List.length_range]
theorem grown_set (zs : List Int) (f i cap : Nat) (hi : i < cap) : (content zs f i ++ List.replicate (cap - i) 0).set i (zs.getD ((f + i) % zs.length) 0) = content zs f (i + 1) ++ List.replicate (cap - (i + 1)) 0 := by
  rw [List.set_append_right _ _ (by rw [content_length]; omega), content_length, Nat.sub_self, content_snoc, show cap - i = cap - (i + 1) + 1 by omega, List.replicate_succ, List.set_cons_zero, List.append_assoc]
  rfl
theorem content_grown (zs : List Int) (f s m : Nat) : content (content zs f s ++ List.replicate m 0) 0 s = content zs f s := by
  apply List.ext_getElem
  · rw [content_length, content_length]
  · intro i h1 h2
    rw [content_length] at h1
    have hl : (content zs f s ++ List.replicate m 0).length = s + m := by rw [List.length_append, content_length, List.length_replicate]
    have e1 : (content (content zs f s ++ List.replicate m 0) 0 s)[i]'(by rw [content_length]; exact h1) = (content zs f s ++ List.replicate m 0).getD ((0 + i) % (content zs f s ++ List.replicate m 0).length) 0 := by simp [content]
    rw [e1, hl, Nat.zero_add, Nat.mod_eq_of_lt (by omega), List.getD_eq_getElem?_getD, List.getElem?_append_left (by rw [content_length]; exact h1), List.getElem?_eq_getElem h2]
    rfl
def Queue_grow.T4 : Bool × List (List Nat × List Nat) := (true, [([], []), ([], []), ([1], [1]), ([2], [2]), ([3], [3]), ([], []), ([5], [5]), ([6], [6]), ([7], [7]), ([], []), ([8, 9], [8, 9]), ([], []), ([11], [11]), ([12], [12]), ([13], [13]), ([14], [14]), ([10, 15], [10, 15]), ([4, 16], [4, 16]), ([17], [17]), ([18], [18]), ([0, 19], [0, 19]), ([20, 20, 0, 1, 2, 3, 4, 5, 6, 7, 8, 9, 10, 11, 12, 13, 14, 15, 16, 17, 18, 19, 20], [0, 20])])
def Queue_grow.B4 : List Nat := [0, 0, 2, 6, 14, 0, 32, 96, 224, 0, 992, 0, 2048, 6144, 14336, 30720, 65504, 131070, 262142, 524286, 1048575, 2097151]
theorem Queue_grow.tab4 : rtab .any (opsOf Try.f32 4) = Queue_grow.T4 := by kernel_rfl
theorem Queue_grow.bits4 : waitsOk Queue_grow.T4.2 Queue_grow.B4 = true := by kernel_rfl
set_option maxHeartbeats 8000000 in
set_option maxRecDepth 100000 in
theorem Queue_grow.calls (ok : Nat → Prop) (g : Nat) (most : Int) (v : Value) (zs : List Int) (f : Nat) (w0 w : World) (hB : Below w0.heap.size w0 w) (hQ : QueueC w w0.heap.size ok g most v zs f zs.length) (hfresh : ∀ k, w.heap.size ≤ k → ok k) (hz : zs.length ≤ 1048576) :
    Calls Try.prog 32 #[.pointer (some ⟨g, 0, none⟩)] w fun e w' => e = .returned (.tuple #[]) ∧ Below w0.heap.size w0 w' ∧ Kept w w' (fun k => k = g ∨ ok k) ∧ ∃ v', QueueC w' w0.heap.size ok g most v' (content zs f zs.length ++ List.replicate (zs.length + 4) 0) 0 zs.length := by
  have hu67 := Try.underlying67
  have hu52 := Try.underlying52
  have HB := Aside0.mk hB
  have HQ := Aside0.mk hQ
  have HF := Aside0.mk hfresh
  have HZ := Aside0.mk hz
  have HK := Aside0.mk (Kept.refl w (fun k => k = g ∨ ok k))
  obtain ⟨n, hn⟩ : ∃ n, n = zs.length := ⟨_, rfl⟩
  obtain ⟨A, hA⟩ : ∃ A, v = .slice A n n := by
    rcases hQ.ring with ⟨h1, h2⟩ | ⟨gk, h1, _⟩
    · exact ⟨none, by rw [h1, hn, h2]; rfl⟩
    · exact ⟨_, by rw [h1, hn]⟩
  subst hA
  have hz0 : w.cell? ⟨g, 0, none⟩ = some (.slice A n n) := (blk_cell hQ.blk 0).trans rfl
  have HN := Aside0.mk hn
  have hcap : wrap64 (wrap64 (2 * (n : Int)) + 4) = ((2 * n + 4 : Nat) : Int) := by rw [wrapId (n := 2 * (n : Int)) (by omega) (by omega), wrapId (by omega) (by omega)]; omega
  have HCAP := Aside0.mk hcap
  have HNZ : Aside0 (n ≤ 1048576) := ⟨by omega⟩
  rw [← hn] at HQ ⊢
  clear hB hQ hfresh hz hcap hn
  go_enter Try.func32, Try.ntmps32
  go_wp2_with ((with_reducible refine gate_dst (N := 11) rfl ?_); refine wpList_mk _ rfl _ _ rfl (2 * n + 4) rfl ?hc (by have := HNZ.out; omega) ?_; (case hc => exact congrArg (Value.int .i64) HCAP.out); intro gr w1 hg hbox hb; have n0_ := Aside0.mk (below_step HB.out hb); have n1_ := Aside0.mk ((HQ.out.elder gr (Nat.le_of_eq hg.symm)).below hb); have n2_ := Aside0.mk (HK.out.below hb); have GR := Aside0.mk (show w.heap.size ≤ gr by rw [hg]; exact HK.out.1); have GRb := Aside0.mk (show w0.heap.size ≤ gr by rw [hg]; exact below_size HB.out); have NGr := Aside0.mk (show g ≠ gr by rw [hg]; exact Nat.ne_of_lt (blk_lt HQ.out.blk)); have BK := Aside0.mk hbox; clear HB HQ HK hz0 hb hbox hg; have HB := n0_; have HQ := n1_; have HK := n2_; clear n0_ n1_ n2_; have hz2 : w1.cell? ⟨g, 2, none⟩ = some (.int .i64 (n : Int)) := (blk_cell HQ.out.blk 2).trans rfl)
  clear hz2
  go_loopg [2, 16] n (fun kq v2 v16 w' => ∃ i : Nat, v2 = .slice (some ⟨gr, 0, none⟩) i (2 * n + 4) ∧ v16 = .int .i64 (i : Int) ∧ Aside0 (i + kq = n) ∧ Aside0 (Below w0.heap.size w0 w') ∧ Aside0 (QueueC w' w0.heap.size (fun k => ok k ∧ k ≠ gr) g most (.slice A n n) zs f n) ∧ Aside0 (Kept w w' (fun k => k = g ∨ ok k)) ∧ Aside0 (w'.heap[gr]? = some (.cells (ints (content zs f i ++ List.replicate (2 * n + 4 - i) 0)) 3 (0, 0))))
  case atStart => exact ⟨0, rfl, rfl, ⟨by omega⟩, HB, HQ, HK, BK⟩
  case round =>
    clear HB HQ HK BK
    obtain ⟨i, rfl, rfl, HI, HB, HQ, HK, BK⟩ := hrel
    cases gk with
    | zero =>
      have hi : i = n := by have := HI.out; omega
      have c1 : decide ((i : Int) < (n : Int)) = false := decide_eq_false (by omega)
      have c2 : decide (i < n) = false := decide_eq_false (by omega)
      have HI2 := Aside0.mk hi
      clear hi
      have z0 : wr.cell? ⟨g, 0, none⟩ = some (.slice A n n) := (blk_cell HQ.out.blk 0).trans rfl
      have z1 : wr.cell? ⟨g, 1, none⟩ = some (.int .i64 (f : Int)) := (blk_cell HQ.out.blk 1).trans rfl
      have y0 := blk_frozen HQ.out.blk 0
      have y1 := blk_frozen HQ.out.blk 1
      have p1 := eq_true (show (0 : Int) ≤ ((2 * n + 4 : Nat) : Int) by omega)
      go_wp2
      have hq : QueueC ((wr.setCell ⟨g, 0, none⟩ (.slice (some ⟨gr, 0, none⟩) (2 * n + 4) (2 * n + 4))).setCell ⟨g, 1, none⟩ (.int .i64 0)) w0.heap.size ok g most (.slice (some ⟨gr, 0, none⟩) (2 * n + 4) (2 * n + 4)) (content zs f n ++ List.replicate (n + 4) 0) 0 n := by
        have hb1 := blk_put (cs' := #[.slice (some ⟨gr, 0, none⟩) (2 * n + 4) (2 * n + 4), .int .i64 (f : Int), .int .i64 (n : Int), .int .i64 most]) HQ.out.blk 0 (.slice (some ⟨gr, 0, none⟩) (2 * n + 4) (2 * n + 4)) rfl
        have hb2 := blk_put (cs' := #[.slice (some ⟨gr, 0, none⟩) (2 * n + 4) (2 * n + 4), .int .i64 ((0 : Nat) : Int), .int .i64 (n : Int), .int .i64 most]) hb1 1 (.int .i64 0) rfl
        have hk := BK.out
        rw [HI2.out, show 2 * n + 4 - n = n + 4 by omega] at hk
        have hlen : (content zs f n ++ List.replicate (n + 4) 0).length = 2 * n + 4 := by rw [List.length_append, content_length, List.length_replicate]; omega
        refine ⟨hb2, HQ.out.ge, .inr ⟨gr, by rw [hlen], blk_far (p := ⟨g, 1, none⟩) (blk_far (p := ⟨g, 0, none⟩) hk NGr.out.symm _) NGr.out.symm _, GRb.out, HF.out gr GR.out, NGr.out.symm, by rw [hlen]; omega⟩, .inl (by rw [hlen]; omega), by rw [hlen]; omega⟩
      go_end0
      exact ⟨rfl, below_set (below_set HB.out HQ.out.ge) HQ.out.ge, Kept.setCell (p := ⟨g, 1, none⟩) (Kept.setCell (p := ⟨g, 0, none⟩) HK.out (Or.inl (Or.inl rfl)) _) (Or.inl (Or.inl rfl)) _, _, hq⟩
    | succ gk =>
      have hlt : i < n := by have := HI.out; omega
      have c1 : decide ((i : Int) < (n : Int)) = true := decide_eq_true (by omega)
      have c2 : decide (i < n) = true := decide_eq_true hlt
      rcases HQ.out.ring with ⟨_, hz⟩ | ⟨gk0, hv, hkb, hbk, hok, hne, hpos⟩
      · exact absurd hlt (by rw [HN.out, hz]; simp)
      · have HR := HQ.out.ring
        have hA2 : A = some ⟨gk0, 0, none⟩ := by injection hv
        subst hA2
        clear hv
        have hfl : f < zs.length := by rcases HQ.out.fl with h | h; (exact h); (rw [h.1] at hpos; cases hpos)
        have hp : (f + i) % zs.length < zs.length := Nat.mod_lt _ hpos
        have htm : Int.tmod (wrap64 ((f : Int) + (i : Int))) (n : Int) = (((f + i) % zs.length : Nat) : Int) := by
          have := HZ.out
          have := HN.out
          rw [wrapId (by omega) (by omega), HN.out]
          exact (Int.ofNat_tmod (f + i) zs.length).symm
        obtain ⟨x, hx⟩ : ∃ x, zs.getD ((f + i) % zs.length) 0 = x := ⟨_, rfl⟩
        have hxc : (ints zs)[(f + i) % zs.length]? = some (.int .i64 x) := by rw [ints_get hp, ← hx, List.getD_eq_getElem?_getD, List.getElem?_eq_getElem hp]; rfl
        have HX := Aside0.mk hx
        have HXC := Aside0.mk hxc
        have HTM := Aside0.mk htm
        have q0 := eq_true (show (0 : Int) ≤ Int.tmod (wrap64 ((f : Int) + (i : Int))) (n : Int) by rw [htm]; omega)
        have q1 := eq_true (show Int.tmod (wrap64 ((f : Int) + (i : Int))) (n : Int) < (n : Int) by rw [htm]; have := HN.out; omega)
        have hn0 := eq_false (show ¬ (n : Int) = 0 by omega)
        have hn1 : decide ((n : Int) = 0) = false := decide_eq_false (by omega)
        have hn2 : ((n : Int) == 0) = false := beq_eq_false_iff_ne.2 (by omega)
        have hn3 := eq_false (show ¬ n = 0 by omega)
        have hcell : wr.cell? ⟨gk0, (Int.tmod (wrap64 ((f : Int) + (i : Int))) (n : Int)).toNat, none⟩ = some (.int .i64 x) := by rw [htm, Int.toNat_natCast]; exact (blk_cell hkb _).trans hxc
        have hlc : (content zs f i ++ List.replicate (2 * n + 4 - i) 0).length = 2 * n + 4 := by rw [List.length_append, content_length, List.length_replicate]; omega
        have HLC := Aside0.mk hlc
        have HLT := Aside0.mk hlt
        have hwi : wrap64 ((i : Int) + 1) = ((i + 1 : Nat) : Int) := wrapId (by have := HNZ.out; omega) (by have := HNZ.out; omega)
        have HWI := Aside0.mk hwi
        clear hkb hbk hok hne hpos hfl hp htm hx hxc hlc hlt HR hwi
        go_wp2
        clear c1 c2
        have n0_ := Aside0.mk (below_drew1 HB.out)
        have n1_ := Aside0.mk HQ.out.drew
        have n2_ := Aside0.mk (Kept.drew HK.out)
        have n3_ := Aside0.mk (blk_drew BK.out)
        clear HB HQ HK BK
        have HB := n0_
        have HQ := n1_
        have HK := n2_
        have BK := n3_
        clear n0_ n1_ n2_ n3_
        refine start_ (n := 22) (S := fun w' => w'.cell? ⟨g, 0, none⟩ = some (.slice (some ⟨gk0, 0, none⟩) n n) ∧ w'.cell? ⟨g, 1, none⟩ = some (.int .i64 (f : Int)) ∧ w'.cell? ⟨gk0, (Int.tmod (wrap64 ((f : Int) + (i : Int))) (n : Int)).toNat, none⟩ = some (.int .i64 x)) (ds := []) #[Ff,Ff,Ff,Ff,Ff,Ff,Ff,Ff,Ff,Ff,Ff,Ff,Ff,Ff,Ff,Ff,Ff,Ff,Ff,Ff,Ff,Ff] (by kernel_rfl) rfl rfl ⟨(blk_cell HQ.out.blk 0).trans rfl, (blk_cell HQ.out.blk 1).trans rfl, hcell⟩ (fun hHeld => ?_)
        clear hcell
        generalize wr.drew = w2 at HB HQ HK BK hHeld ⊢
        refine with_tabW Queue_grow.tab4 Queue_grow.bits4 (fun HT_ HW_ => ?_)
        refine pv_ 0 19 #[Tt,Ff,Ff,Ff,Ff,Ff,Ff,Ff,Ff,Ff,Ff,Ff,Ff,Ff,Ff,Ff,Ff,Ff,Ff,Ff,Ff,Ff] ?_
        refine pv_ 1 20 #[Tt,Tt,Ff,Ff,Ff,Ff,Ff,Ff,Ff,Ff,Ff,Ff,Ff,Ff,Ff,Ff,Ff,Ff,Ff,Ff,Ff,Ff] ?_
        refine pv_ 2 21 #[Tt,Tt,Tt,Ff,Ff,Ff,Ff,Ff,Ff,Ff,Ff,Ff,Ff,Ff,Ff,Ff,Ff,Ff,Ff,Ff,Ff,Ff] ?_
        refine pv_ 3 22 #[Tt,Tt,Tt,Tt,Ff,Ff,Ff,Ff,Ff,Ff,Ff,Ff,Ff,Ff,Ff,Ff,Ff,Ff,Ff,Ff,Ff,Ff] ?_
        refine pv_ 5 24 #[Tt,Tt,Tt,Tt,Ff,Tt,Ff,Ff,Ff,Ff,Ff,Ff,Ff,Ff,Ff,Ff,Ff,Ff,Ff,Ff,Ff,Ff] ?_
        refine pv_ 6 25 #[Tt,Tt,Tt,Tt,Ff,Tt,Tt,Ff,Ff,Ff,Ff,Ff,Ff,Ff,Ff,Ff,Ff,Ff,Ff,Ff,Ff,Ff] ?_
        refine pv_ 7 26 #[Tt,Tt,Tt,Tt,Ff,Tt,Tt,Tt,Ff,Ff,Ff,Ff,Ff,Ff,Ff,Ff,Ff,Ff,Ff,Ff,Ff,Ff] ?_
        refine pv_ 9 28 #[Tt,Tt,Tt,Tt,Ff,Tt,Tt,Tt,Ff,Tt,Ff,Ff,Ff,Ff,Ff,Ff,Ff,Ff,Ff,Ff,Ff,Ff] ?_
        refine pv_ 11 30 #[Tt,Tt,Tt,Tt,Ff,Tt,Tt,Tt,Ff,Tt,Ff,Tt,Ff,Ff,Ff,Ff,Ff,Ff,Ff,Ff,Ff,Ff] ?_
        refine pv_ 12 31 #[Tt,Tt,Tt,Tt,Ff,Tt,Tt,Tt,Ff,Tt,Ff,Tt,Tt,Ff,Ff,Ff,Ff,Ff,Ff,Ff,Ff,Ff] ?_
        refine pv_ 13 32 #[Tt,Tt,Tt,Tt,Ff,Tt,Tt,Tt,Ff,Tt,Ff,Tt,Tt,Tt,Ff,Ff,Ff,Ff,Ff,Ff,Ff,Ff] ?_
        refine take_ (i := 4) (N := (some 23)) (v := ?_) (a' := ?_) #[Tt,Tt,Tt,Tt,Tt,Tt,Tt,Tt,Ff,Tt,Ff,Tt,Tt,Tt,Ff,Ff,Ff,Ff,Ff,Ff,Ff,Ff] rfl rfl (take_ofW HT_.out HW_.out (by kernel_rfl)) (fun _ _ _ h => h) (Or.inl ⟨by rfl, ?_⟩) hHeld ?_ ?_
        rotate_left
        · rintro w' ⟨s0, s1, s2⟩
          go_simp
          with_reducible rfl
        rotate_left
        exact ap_
        refine take_ (i := 8) (N := (some 27)) (v := ?_) (a' := ?_) #[Tt,Tt,Tt,Tt,Tt,Tt,Tt,Tt,Tt,Tt,Ff,Tt,Tt,Tt,Ff,Ff,Ff,Ff,Ff,Ff,Ff,Ff] rfl rfl (take_ofW HT_.out HW_.out (by kernel_rfl)) (fun _ _ _ h => h) (Or.inl ⟨by rfl, ?_⟩) hHeld ?_ ?_
        rotate_left
        · rintro w' ⟨s0, s1, s2⟩
          go_simp
          with_reducible rfl
        rotate_left
        exact ap_
        refine pv_ 10 29 #[Tt,Tt,Tt,Tt,Tt,Tt,Tt,Tt,Tt,Tt,Tt,Tt,Tt,Tt,Ff,Ff,Ff,Ff,Ff,Ff,Ff,Ff] ?_
        refine take_ (i := 14) (N := (some 33)) (v := ?_) (a' := ?_) #[Tt,Tt,Tt,Tt,Tt,Tt,Tt,Tt,Tt,Tt,Tt,Tt,Tt,Tt,Tt,Ff,Ff,Ff,Ff,Ff,Ff,Ff] rfl rfl (take_ofW HT_.out HW_.out (by kernel_rfl)) (fun _ _ _ h => h) (Or.inl ⟨by rfl, ?_⟩) hHeld ?_ ?_
        rotate_left
        · rintro w' ⟨s0, s1, s2⟩
          go_simp
          with_reducible rfl
        rotate_left
        exact ap_
        refine pv_ 15 34 #[Tt,Tt,Tt,Tt,Tt,Tt,Tt,Tt,Tt,Tt,Tt,Tt,Tt,Tt,Tt,Tt,Ff,Ff,Ff,Ff,Ff,Ff] ?_
        refine pv_ 16 35 #[Tt,Tt,Tt,Tt,Tt,Tt,Tt,Tt,Tt,Tt,Tt,Tt,Tt,Tt,Tt,Tt,Tt,Ff,Ff,Ff,Ff,Ff] ?_
        refine pv_ 17 36 #[Tt,Tt,Tt,Tt,Tt,Tt,Tt,Tt,Tt,Tt,Tt,Tt,Tt,Tt,Tt,Tt,Tt,Tt,Ff,Ff,Ff,Ff] ?_
        refine take_ (i := 18) (N := (some 37)) (v := ?_) (a' := ?_) #[Tt,Tt,Tt,Tt,Tt,Tt,Tt,Tt,Tt,Tt,Tt,Tt,Tt,Tt,Tt,Tt,Tt,Tt,Tt,Ff,Ff,Ff] rfl rfl (take_ofW HT_.out HW_.out (by kernel_rfl)) (fun _ _ _ h => h) (Or.inl ⟨by rfl, ?_⟩) hHeld ?_ ?_
        rotate_left
        · rintro w' ⟨s0, s1, s2⟩
          go_simp
          with_reducible rfl
        rotate_left
        exact ap_
        refine one_ (i := 19) (N := (some 38)) #[Tt,Tt,Tt,Tt,Tt,Tt,Tt,Tt,Tt,Tt,Tt,Tt,Tt,Tt,Tt,Tt,Tt,Tt,Tt,Tt,Ff,Ff] rfl rfl (one_of HT_.out (by kernel_rfl)) (by decide) (fun K hK => ?_)
        refine event_step (v := .slice (some ⟨w2.heap.size, 0, none⟩) 1 1) (w1 := w2.alloc (.cells #[.int .i64 x] 3)) (by rfl) (by first | (go_simp; done) | (go_simp; rfl)) ?_
        have hba := below_alloc (Below.refl w2.heap.size w2) (.cells #[.int .i64 x] 3)
        refine hK.out _ _ ⟨(hba.cell (World.block_lt_of_cell? _ _ hHeld.1)).trans hHeld.1, (hba.cell (World.block_lt_of_cell? _ _ hHeld.2.1)).trans hHeld.2.1, (hba.cell (World.block_lt_of_cell? _ _ hHeld.2.2)).trans hHeld.2.2⟩ (fun hHeld2 => ?_)
        clear hK K hba hHeld2
        refine norm_ (a' := ?_) ?_ ?_
        rotate_left
        · show Act.put _ (some 38) _ = _
          simp only [Act.put, List.setIfInBounds_toArray, List.set_cons_zero, List.set_cons_succ, i64_w, i32_w]
          rfl
        refine one_ (i := 20) (N := (some 39)) #[Tt,Tt,Tt,Tt,Tt,Tt,Tt,Tt,Tt,Tt,Tt,Tt,Tt,Tt,Tt,Tt,Tt,Tt,Tt,Tt,Tt,Ff] rfl rfl (one_of HT_.out (by kernel_rfl)) (by decide) (fun K hK => ?_)
        refine append_room_step (by rfl) (.tmp 19) (.tmp 38) rfl gr i (2 * n + 4) (content zs f i ++ List.replicate (2 * n + 4 - i) 0) x rfl rfl BK.out (by rw [HLC.out]; have := HLT.out; omega) HLC.out ?_
        intro w3 hb3 hg3
        have hset := grown_set zs f i (2 * n + 4) (by have := HLT.out; omega)
        rw [HX.out] at hset
        rw [hset] at hb3
        have n0_ := Aside0.mk (Below.grown HB.out hg3 (below_size HB.out) (fun k_ e_ => by injection e_ with e_; subst e_; exact GRb.out))
        have n2_ := Aside0.mk (Kept.of_grown hg3 HK.out (fun k_ e_ => by injection e_ with e_; subst e_; exact Or.inr GR.out))
        have hkp : Kept w2 w3 (fun k => k = gr) := ⟨hg3.size, fun k hk hne => hg3.block k hk (fun e_ => hne (Option.some.inj e_))⟩
        have n1_ := Aside0.mk (HQ.out.kept hkp NGr.out (fun k hk => hk.2))
        have hc2 : w3.cell? ⟨gk0, (Int.tmod (wrap64 ((f : Int) + (i : Int))) (n : Int)).toNat, none⟩ = some (.int .i64 x) := by
          rcases HQ.out.ring with ⟨h_, _⟩ | ⟨gk', h1, h2, _, h4, _⟩
          · cases h_
          · have e_ : gk0 = gk' := by injection h1 with h1; injection h1 with h1; injection h1
            subst e_
            rw [HTM.out, Int.toNat_natCast]
            exact (blk_cell (Kept.blk hkp h2 h4.2) _).trans HXC.out
        have BK2 := Aside0.mk hb3
        clear HB HQ HK BK hHeld hset hg3 hb3 hkp
        have HB := n0_
        have HQ := n1_
        have HK := n2_
        have BK := BK2
        clear n0_ n1_ n2_ BK2
        refine hK.out _ _ ⟨(blk_cell HQ.out.blk 0).trans rfl, (blk_cell HQ.out.blk 1).trans rfl, hc2⟩ (fun hHeld => ?_)
        clear hK K hc2
        refine norm_ (a' := ?_) ?_ ?_
        rotate_left
        · show Act.put _ (some 39) _ = _
          simp only [Act.put, List.setIfInBounds_toArray, List.set_cons_zero, List.set_cons_succ, i64_w, i32_w]
          rfl
        refine pv_ 21 2 #[Tt,Tt,Tt,Tt,Tt,Tt,Tt,Tt,Tt,Tt,Tt,Tt,Tt,Tt,Tt,Tt,Tt,Tt,Tt,Tt,Tt,Tt] ?_
        refine done_ (done_of HT_.out (by kernel_rfl)) ?_
        clear HT_ HW_ hHeld
        try go_wp2
        go_roundg gk
        case measure => omega
        case rel => exact ⟨i + 1, rfl, by first | exact congrArg (Value.int .i64) (by omega) | exact congrArg (Value.int .i64) HWI.out, ⟨by have := HI.out; omega⟩, HB, HQ, HK, BK⟩
end Go.Proofs.Ytloebciamfbjfaa.Q
end
