/- A part of the proof: words, contracts, plain lemmas. Conditions: none. -/
import Derived.Test.YtloebciamfbjfaaZPileOrders6
import Derived.Test.YtloebciamfbjfaaZPileOrders8
section
namespace Go.Proofs.Ytloebciamfbjfaa.Q
open Go.RowKit Go.Proofs.Ytloebciamfbjfaa.P Go.Proofs.YtloebciamfbjfaaW.PrintWords Go.Proofs.YtloebciamfbjfaaW.PrintLast Go.Proofs.YtloebciamfbjfaaW.PrintMore
set_option linter.unusedVariables false
set_option linter.unusedSimpArgs false
def Sorted2 (s : List (Int × Int)) : Prop := s.Pairwise (fun a b => ¬ plt b a)
def ins (x : Int × Int) : List (Int × Int) → List (Int × Int)
  | [] => [x]
  | y :: s => if plt y x then y :: ins x s else x :: y :: s
theorem sorted2_nil : Sorted2 [] := List.Pairwise.nil
theorem ins_perm (x : Int × Int) : ∀ s, (ins x s).Perm (x :: s)
  | [] => List.Perm.refl _
  | y :: s => by
    unfold ins
    split
    · exact (List.Perm.cons y (ins_perm x s)).trans (List.Perm.swap x y s)
    · exact List.Perm.refl _
theorem ins_sorted (x : Int × Int) : ∀ s, Sorted2 s → Sorted2 (ins x s)
  | [], _ => List.pairwise_singleton _ _
  | y :: s, h => by
    unfold ins
    obtain ⟨h1, h2⟩ := List.pairwise_cons.1 h
    split
    · rename_i c
      refine List.pairwise_cons.2 ⟨fun z hz => ?_, ins_sorted x s h2⟩
      rcases List.mem_cons.1 ((ins_perm x s).mem_iff.1 hz) with rfl | hz
      · exact plt_asym c
      · exact h1 z hz
    · rename_i c
      refine List.pairwise_cons.2 ⟨fun z hz => ?_, h⟩
      rcases List.mem_cons.1 hz with rfl | hz
      · exact c
      · exact plt_ntrans (h1 z hz) c
theorem sorted_unique : ∀ {s t : List (Int × Int)}, Sorted2 s → Sorted2 t → s.Perm t → s = t
  | [], t, _, _, h => by rw [List.nil_perm.1 h]
  | a :: s, [], _, _, h => by cases List.perm_nil.1 h
  | a :: s, b :: t, hs, ht, h => by
    obtain ⟨h1, h2⟩ := List.pairwise_cons.1 hs
    obtain ⟨g1, g2⟩ := List.pairwise_cons.1 ht
    have e : a = b := by
      rcases List.mem_cons.1 (h.mem_iff.1 List.mem_cons_self) with e | ha
      · exact e
      · rcases List.mem_cons.1 (h.mem_iff.2 List.mem_cons_self) with e | hb
        · exact e.symm
        · exact plt_total (g1 a ha) (h1 b hb)
    subst e
    rw [sorted_unique h2 g2 (List.Perm.cons_inv h)]
def headS (s : List (Int × Int)) : Int × Int × Int := match s with | [] => (0, 0, 21) | x :: _ => (x.1, x.2, 0)
theorem least_head {l : List S34} {s : List (Int × Int)} (hH : Heaped l.length (fA l)) (hs : Sorted2 s) (hp : (l.map pr).Perm s) : leastL l = headS s ∧ (∀ x r, l = x :: r → ∃ t, s = pr x :: t) := by
  cases l with
  | nil => rw [List.map_nil, List.nil_perm] at hp; subst hp; exact ⟨rfl, fun _ _ h => by cases h⟩
  | cons x r =>
    cases s with
    | nil => cases List.perm_nil.1 hp
    | cons y t =>
      have e : pr x = y := by
        have h0 : ∀ z, z ∈ (x :: r).map pr → ¬ plt z (pr x) := by
          intro z hz
          obtain ⟨j, hj, rfl⟩ := List.mem_iff_getElem.1 hz
          rw [List.length_map] at hj
          have := heaped_least hH j hj
          rw [fA_get hj, fA_get (show 0 < (x :: r).length by simp)] at this
          rw [List.getElem_map]
          exact this
        have h1 := h0 y (hp.mem_iff.2 List.mem_cons_self)
        rcases List.mem_cons.1 (hp.mem_iff.1 (show pr x ∈ (x :: r).map pr from List.mem_cons_self)) with e | hx
        · exact e
        · exact plt_total ((List.pairwise_cons.1 hs).1 _ hx) h1
      subst e
      exact ⟨rfl, fun x' r' h => by cases h; exact ⟨t, rfl⟩⟩
def PState (w : World) (base : Nat) (ok : Nat → Prop) (g : Nat) (most : Int) (s : List (Int × Int)) : Prop :=
  ∃ v l, PileC w base ok g most v l ∧ Heaped l.length (fA l) ∧ Sorted2 s ∧ (l.map pr).Perm s
def QState (w : World) (base : Nat) (ok : Nat → Prop) (g : Nat) (most : Int) (c : List Int) : Prop :=
  ∃ v zs f s, QueueC w base ok g most v zs f s ∧ content zs f s = c ∧ zs.length ≤ 131076 ∧ (s : Int) ≤ most ∧ most ≤ 65536
def Ty (w : World) (t k : Nat) : Prop := ∃ cells, w.heap[k]? = some (.cells cells t (0, 0))
theorem Ty.lt {w : World} {t k : Nat} (h : Ty w t k) : k < w.heap.size := by obtain ⟨c, h⟩ := h; exact blk_lt h
theorem Ty.one {w : World} {t t' k : Nat} (h : Ty w t k) (h' : Ty w t' k) : t = t' := by
  obtain ⟨c, h⟩ := h
  obtain ⟨c', h'⟩ := h'
  rw [h] at h'; injection h' with h'; injection h'
section
variable {w w1 : World} {base : Nat} {ok ok' : Nat → Prop} {g : Nat} {most : Int} {s : List (Int × Int)} {c : List Int}
theorem PState.below (h : PState w base ok g most s) (hb : Below w.heap.size w w1) : PState w1 base ok g most s := by obtain ⟨v, l, h, k⟩ := h; exact ⟨v, l, h.below hb, k⟩
theorem PState.mono (h : PState w base ok g most s) (hk : ∀ k, ok k → ok' k) : PState w base ok' g most s := by obtain ⟨v, l, h, k⟩ := h; exact ⟨v, l, h.mono hk, k⟩
theorem PState.lower {base' : Nat} (h : PState w base ok g most s) (hb : base' ≤ base) : PState w base' ok g most s := by obtain ⟨v, l, h, k⟩ := h; exact ⟨v, l, h.lower hb, k⟩
theorem PState.kept {S : Nat → Prop} (h : PState w base ok g most s) (hk : Kept w w1 S) (hg : ¬ S g) (ho : ∀ k, ok k → ¬ S k) : PState w1 base ok g most s := by obtain ⟨v, l, h, k⟩ := h; exact ⟨v, l, h.kept hk hg ho, k⟩
theorem PState.typed (h : PState w base ok g most s) : PState w base (fun k => ok k ∧ Ty w 34 k) g most s := by
  obtain ⟨v, l, h, k⟩ := h
  refine ⟨v, l, ⟨h.blk, Kd.R_mono (Kd.R_bound h.row) (fun k hk => ?_), h.ge⟩, k⟩
  obtain ⟨⟨h1, h2⟩, _, _, q, hq, hc⟩ := hk
  rcases List.mem_cons.1 hq with rfl | hq
  · exact ⟨⟨h1, hc⟩, h2⟩
  · cases hq
theorem PState.ty (h : PState w base ok g most s) : Ty w 62 g := by obtain ⟨v, l, h, k⟩ := h; exact ⟨_, h.blk⟩
theorem QState.below (h : QState w base ok g most c) (hb : Below w.heap.size w w1) : QState w1 base ok g most c := by obtain ⟨v, zs, f, s, h, k⟩ := h; exact ⟨v, zs, f, s, h.below hb, k⟩
theorem QState.mono (h : QState w base ok g most c) (hk : ∀ k, ok k → ok' k) : QState w base ok' g most c := by obtain ⟨v, zs, f, s, h, k⟩ := h; exact ⟨v, zs, f, s, h.mono hk, k⟩
theorem QState.lower {base' : Nat} (h : QState w base ok g most c) (hb : base' ≤ base) : QState w base' ok g most c := by obtain ⟨v, zs, f, s, h, k⟩ := h; exact ⟨v, zs, f, s, h.lower hb, k⟩
theorem QState.kept {S : Nat → Prop} (h : QState w base ok g most c) (hk : Kept w w1 S) (hg : ¬ S g) (ho : ∀ k, ok k → ¬ S k) : QState w1 base ok g most c := by obtain ⟨v, zs, f, s, h, k⟩ := h; exact ⟨v, zs, f, s, h.kept hk hg ho, k⟩
theorem QState.typed (h : QState w base ok g most c) : QState w base (fun k => ok k ∧ Ty w 3 k) g most c := by
  obtain ⟨v, zs, f, s, h, k⟩ := h
  exact ⟨v, zs, f, s, ⟨h.blk, h.ge, h.ring.imp id (fun ⟨gk, h1, h2, h3, h4, h5⟩ => ⟨gk, h1, h2, h3, ⟨h4, _, h2⟩, h5⟩), h.fl, h.sl⟩, k⟩
theorem QState.ty (h : QState w base ok g most c) : Ty w 67 g := by obtain ⟨v, zs, f, s, h, k⟩ := h; exact ⟨_, h.blk⟩
end
theorem newP (most : Int) (w : World) (h0 : 0 ≤ most) (h1 : most ≤ 65536) :
    Calls Try.prog 9 #[.int .i64 most] w fun e w' => Below w.heap.size w w' ∧ ∃ g, e = .returned (.tuple #[.pointer (some ⟨g, 0, none⟩), .int .i64 0]) ∧ PState w' w.heap.size (fun _ => True) g most [] := by
  refine (Pile_New.calls most w).mono ?_
  rintro e w' ⟨hb, h⟩
  rw [if_pos ⟨h0, h1⟩] at h
  obtain ⟨g, he, hp⟩ := h
  exact ⟨hb, g, he, _, _, hp, (fun j _ hj => absurd hj (Nat.not_lt_zero j)), sorted2_nil, List.Perm.refl _⟩
theorem newQ (most : Int) (w : World) (h0 : 0 ≤ most) (h1 : most ≤ 65536) :
    Calls Try.prog 18 #[.int .i64 most] w fun e w' => Below w.heap.size w w' ∧ ∃ g, e = .returned (.tuple #[.pointer (some ⟨g, 0, none⟩), .int .i64 0]) ∧ QState w' w.heap.size (fun _ => True) g most [] := by
  refine (Queue_New.calls most w).mono ?_
  rintro e w' ⟨hb, h⟩
  rw [if_pos ⟨h0, h1⟩] at h
  obtain ⟨g, he, hp⟩ := h
  exact ⟨hb, g, he, _, _, _, _, hp, rfl, by simp, h0, h1⟩
theorem pushP (ok : Nat → Prop) (g : Nat) (most : Int) (s : List (Int × Int)) (x0 x1 : Int) (w0 w : World) (hB : Below w0.heap.size w0 w) (hP : PState w w0.heap.size ok g most s) (hfresh : ∀ k, w.heap.size ≤ k → ok k) (hl : s.length ≤ 65536) :
    Calls Try.prog 16 #[.pointer (some ⟨g, 0, none⟩), .agg #[.int .i64 x0, .int .i64 x1]] w fun e w' => Below w0.heap.size w0 w' ∧ Kept w w' (fun k => k = g ∨ ok k) ∧ e = .returned (.int .i64 (if (s.length : Int) = most then 20 else 0)) ∧ PState w' w0.heap.size ok g most (if (s.length : Int) = most then s else ins (x0, x1) s) := by
  obtain ⟨v, l, hP, hH, hs, hp⟩ := hP
  have hlen : l.length = s.length := by rw [← hp.length_eq, List.length_map]
  refine (Pile_Push.calls ok g most v l x0 x1 w0 w hB hP hfresh (by omega) hH).mono ?_
  rintro e w' ⟨hb, hk, h⟩
  rw [hlen] at h
  refine ⟨hb, hk, ?_⟩
  by_cases c : (s.length : Int) = most
  · rw [if_pos c] at h
    rw [if_pos c, if_pos c]
    exact ⟨h.1, v, l, h.2, hH, hs, hp⟩
  · rw [if_neg c] at h
    rw [if_neg c, if_neg c]
    obtain ⟨he, v', l', hq, hH', hp'⟩ := h
    exact ⟨he, v', l', hq, hH', ins_sorted _ _ hs, ((hp'.map pr).trans (List.Perm.cons _ hp)).trans (ins_perm _ _).symm⟩
theorem popP (ok : Nat → Prop) (g : Nat) (most : Int) (s : List (Int × Int)) (w0 w : World) (hB : Below w0.heap.size w0 w) (hP : PState w w0.heap.size ok g most s) (hl : s.length ≤ 65536) :
    Calls Try.prog 11 #[.pointer (some ⟨g, 0, none⟩)] w fun e w' => Below w0.heap.size w0 w' ∧ Kept w w' (fun k => k = g ∨ ok k) ∧ e = .returned (.tuple #[.agg #[.int .i64 (headS s).1, .int .i64 (headS s).2.1], .int .i64 (headS s).2.2]) ∧ PState w' w0.heap.size ok g most s.tail := by
  obtain ⟨v, l, hP, hH, hs, hp⟩ := hP
  have hlen : l.length = s.length := by rw [← hp.length_eq, List.length_map]
  refine (Pile_Pop.calls ok g most v l w0 w hB hP (by omega) hH).mono ?_
  rintro e w' ⟨hb, hk, he, v', l', hq, hH', hr⟩
  obtain ⟨h1, h2⟩ := least_head hH hs hp
  rw [h1] at he
  refine ⟨hb, hk, he, v', l', hq, hH', hs.tail, ?_⟩
  cases l with
  | nil => rw [List.map_nil, List.nil_perm] at hp; subst hp; rw [show l' = [] from hr]; exact List.Perm.refl _
  | cons x r =>
    obtain ⟨t, rfl⟩ := h2 x r rfl
    exact List.Perm.cons_inv ((List.Perm.map pr (show (x :: l').Perm (x :: r) from hr)).trans hp)
theorem leastP {base : Nat} {ok : Nat → Prop} (g : Nat) (most : Int) (s : List (Int × Int)) (w : World) (hP : PState w base ok g most s) :
    Calls Try.prog 13 #[.pointer (some ⟨g, 0, none⟩)] w fun e w' => e = .returned (.tuple #[.agg #[.int .i64 (headS s).1, .int .i64 (headS s).2.1], .int .i64 (headS s).2.2]) ∧ Below w.heap.size w w' := by
  obtain ⟨v, l, hP, hH, hs, hp⟩ := hP
  have h := Pile_Least.calls g most v l w hP
  rw [(least_head hH hs hp).1] at h
  exact h
theorem lenP {base : Nat} {ok : Nat → Prop} (g : Nat) (most : Int) (s : List (Int × Int)) (w : World) (hP : PState w base ok g most s) :
    Calls Try.prog 15 #[.pointer (some ⟨g, 0, none⟩)] w fun e w' => e = .returned (.int .i64 (s.length : Int)) ∧ w' = w := by
  obtain ⟨v, l, hP, hH, hs, hp⟩ := hP
  have h := Pile_Len.calls g most v l w hP
  rw [show l.length = s.length by rw [← hp.length_eq, List.length_map]] at h
  exact h
theorem lenQ {base : Nat} {ok : Nat → Prop} (g : Nat) (most : Int) (c : List Int) (w : World) (hQ : QState w base ok g most c) :
    Calls Try.prog 24 #[.pointer (some ⟨g, 0, none⟩)] w fun e w' => e = .returned (.int .i64 (c.length : Int)) ∧ w' = w := by
  obtain ⟨v, zs, f, s, hQ, rfl, _⟩ := hQ
  have h := Queue_Len.calls g most v zs f s w hQ
  rw [content_length]
  exact h
def headQ (c : List Int) : Int × Int := match c with | [] => (0, 21) | x :: _ => (x, 0)
theorem takeQ (ok : Nat → Prop) (g : Nat) (most : Int) (c : List Int) (w0 w : World) (hB : Below w0.heap.size w0 w) (hQ : QState w w0.heap.size ok g most c) :
    Calls Try.prog 20 #[.pointer (some ⟨g, 0, none⟩)] w fun e w' => Below w0.heap.size w0 w' ∧ Kept w w' (fun k => k = g ∨ ok k) ∧ e = .returned (.tuple #[.int .i64 (headQ c).1, .int .i64 (headQ c).2]) ∧ QState w' w0.heap.size ok g most c.tail := by
  obtain ⟨v, zs, f, s, hQ, rfl, h1, h2, h3⟩ := hQ
  refine (Queue_Take.calls ok g most v zs f s w0 w hB hQ (by omega)).mono ?_
  rintro e w' ⟨hb, hk, h⟩
  refine ⟨hb, hk, ?_⟩
  cases s with
  | zero =>
    rw [if_pos rfl] at h
    exact ⟨h.1, v, zs, f, 0, h.2, rfl, h1, h2, h3⟩
  | succ s =>
    rw [if_neg (Nat.succ_ne_zero s)] at h
    have hsl := hQ.sl
    have hf : f < zs.length := by rcases hQ.fl with h | h; (exact h); (rw [h.1] at hsl; exact absurd hsl (by simp))
    rw [content_succ zs f s hf]
    exact ⟨h.1, v, zs, (f + 1) % zs.length, s, h.2, rfl, h1, by omega, h3⟩
theorem putQ (ok : Nat → Prop) (g : Nat) (most : Int) (c : List Int) (x : Int) (w0 w : World) (hB : Below w0.heap.size w0 w) (hQ : QState w w0.heap.size ok g most c) (hfresh : ∀ k, w.heap.size ≤ k → ok k) :
    Calls Try.prog 22 #[.pointer (some ⟨g, 0, none⟩), .int .i64 x] w fun e w' => Below w0.heap.size w0 w' ∧ Kept w w' (fun k => k = g ∨ ok k) ∧ e = .returned (.int .i64 (if (c.length : Int) = most then 20 else 0)) ∧ QState w' w0.heap.size ok g most (if (c.length : Int) = most then c else c ++ [x]) := by
  obtain ⟨v, zs, f, s, hQ, rfl, h1, h2, h3⟩ := hQ
  refine (Queue_Put.calls ok g most v zs f s x w0 w hB hQ hfresh (by omega)).mono ?_
  rintro e w' ⟨hb, hk, h⟩
  refine ⟨hb, hk, ?_⟩
  rw [content_length]
  by_cases c : (s : Int) = most
  · rw [if_pos c] at h
    rw [if_pos c, if_pos c]
    exact ⟨h.1, v, zs, f, s, h.2, rfl, h1, h2, h3⟩
  · rw [if_neg c] at h
    rw [if_neg c, if_neg c]
    obtain ⟨he, v', zs', f', hq, hc, hl⟩ := h
    exact ⟨he, v', zs', f', s + 1, hq, hc, by omega, by omega, h3⟩
def okT (W : World) (t k : Nat) : Prop := W.heap.size ≤ k ∨ Ty W t k
abbrev tt : Nat → Prop := fun _ => True
section
variable {W w' : World} {base : Nat} {g gp : Nat} {most : Int} {s : List (Int × Int)} {c : List Int}
theorem PState.okT (h : PState W base tt g most s) : PState W base (okT W 34) g most s := h.typed.mono (fun k hk => Or.inr hk.2)
theorem QState.okT (h : QState W base tt g most c) : QState W base (okT W 3) g most c := h.typed.mono (fun k hk => Or.inr hk.2)
theorem okT_ne {t t' k : Nat} (h : okT W t k) (h' : Ty W t' k) : t = t' := h.elim (fun h => by have := h'.lt; omega) (fun h => h.one h')
theorem QState.stays (h : QState W base tt g most c) (hp : Ty W 62 gp) (hk : Kept W w' (fun k => k = gp ∨ Q.okT W 34 k)) : QState w' base tt g most c :=
  (h.typed.kept hk (fun e => e.elim (fun e => by subst e; exact absurd (hp.one h.ty) (by decide)) (fun e => absurd (okT_ne e h.ty) (by decide)))
    (fun j hj e => e.elim (fun e => by subst e; exact absurd (hp.one hj.2) (by decide)) (fun e => absurd (okT_ne e hj.2) (by decide)))).mono (fun _ _ => trivial)
theorem PState.stays (h : PState W base tt g most s) (hp : Ty W 67 gp) (hk : Kept W w' (fun k => k = gp ∨ Q.okT W 3 k)) : PState w' base tt g most s :=
  (h.typed.kept hk (fun e => e.elim (fun e => by subst e; exact absurd (hp.one h.ty) (by decide)) (fun e => absurd (okT_ne e h.ty) (by decide)))
    (fun j hj e => e.elim (fun e => by subst e; exact absurd (hp.one hj.2) (by decide)) (fun e => absurd (okT_ne e hj.2) (by decide)))).mono (fun _ _ => trivial)
theorem PState.elder {ok : Nat → Prop} (h : PState W base ok g most s) (a : Nat) (ha : W.heap.size ≤ a) : PState W base (fun k => ok k ∧ k ≠ a) g most s := by obtain ⟨v, l, h, k⟩ := h; exact ⟨v, l, h.elder a ha, k⟩
theorem PState.far2 {ok : Nat → Prop} {gb : Nat} (h : PState W base ok g most s) (hb : Ty W 34 gb) (hok : ∀ k, ok k → k ≠ gb) (u v : Value) : PState ((W.setCell ⟨gb, 0, none⟩ u).setCell ⟨gb, 1, none⟩ v) base tt g most s :=
  (h.kept (S := fun k => k = gb) (Kept.setCell (p := ⟨gb, 1, none⟩) (Kept.setCell (p := ⟨gb, 0, none⟩) (Kept.refl W (fun k => k = gb)) (Or.inl rfl) u) (Or.inl rfl) v) (fun e => absurd ((e ▸ h.ty : Ty W 62 gb).one hb) (by decide)) hok).mono (fun _ _ => trivial)
theorem QState.far2 {gb : Nat} (h : QState W base tt g most c) (hb : Ty W 34 gb) (u v : Value) : QState ((W.setCell ⟨gb, 0, none⟩ u).setCell ⟨gb, 1, none⟩ v) base tt g most c :=
  (h.typed.kept (S := fun k => k = gb) (Kept.setCell (p := ⟨gb, 1, none⟩) (Kept.setCell (p := ⟨gb, 0, none⟩) (Kept.refl W (fun k => k = gb)) (Or.inl rfl) u) (Or.inl rfl) v) (fun e => absurd ((e ▸ h.ty : Ty W 67 gb).one hb) (by decide)) (fun k hk e => absurd ((e ▸ hk.2 : Ty W 3 gb).one hb) (by decide))).mono (fun _ _ => trivial)
end
theorem pushPT (g : Nat) (most : Int) (s t : List (Int × Int)) (x0 x1 : Int) (w0 w : World) (hB : Below w0.heap.size w0 w) (hP : PState w w0.heap.size tt g most s) (hl : s.length ≤ 65536) (hn : ¬ (s.length : Int) = most) (ht : ins (x0, x1) s = t) :
    Calls Try.prog 16 #[.pointer (some ⟨g, 0, none⟩), .agg #[.int .i64 x0, .int .i64 x1]] w fun e w' => Below w0.heap.size w0 w' ∧ Kept w w' (fun k => k = g ∨ okT w 34 k) ∧ e = .returned (.int .i64 0) ∧ PState w' w0.heap.size tt g most t := by
  refine (pushP (okT w 34) g most s x0 x1 w0 w hB hP.okT (fun k hk => Or.inl hk) hl).mono ?_
  rintro e w' ⟨hb, hk, he, hp⟩
  rw [if_neg hn] at he hp
  exact ⟨hb, hk, he, ht ▸ hp.mono (fun _ _ => trivial)⟩
theorem popPT (g : Nat) (most : Int) (x0 x1 : Int) (s : List (Int × Int)) (w0 w : World) (hB : Below w0.heap.size w0 w) (hP : PState w w0.heap.size tt g most ((x0, x1) :: s)) (hl : ((x0, x1) :: s).length ≤ 65536) :
    Calls Try.prog 11 #[.pointer (some ⟨g, 0, none⟩)] w fun e w' => Below w0.heap.size w0 w' ∧ Kept w w' (fun k => k = g ∨ okT w 34 k) ∧ e = .returned (.tuple #[.agg #[.int .i64 x0, .int .i64 x1], .int .i64 0]) ∧ PState w' w0.heap.size tt g most s := by
  refine (popP (okT w 34) g most _ w0 w hB hP.okT hl).mono ?_
  rintro e w' ⟨hb, hk, he, hp⟩
  exact ⟨hb, hk, he, hp.mono (fun _ _ => trivial)⟩
theorem takeQT (g : Nat) (most : Int) (x : Int) (c : List Int) (w0 w : World) (hB : Below w0.heap.size w0 w) (hQ : QState w w0.heap.size tt g most (x :: c)) :
    Calls Try.prog 20 #[.pointer (some ⟨g, 0, none⟩)] w fun e w' => Below w0.heap.size w0 w' ∧ Kept w w' (fun k => k = g ∨ okT w 3 k) ∧ e = .returned (.tuple #[.int .i64 x, .int .i64 0]) ∧ QState w' w0.heap.size tt g most c := by
  refine (takeQ (okT w 3) g most _ w0 w hB hQ.okT).mono ?_
  rintro e w' ⟨hb, hk, he, hp⟩
  exact ⟨hb, hk, he, hp.mono (fun _ _ => trivial)⟩
theorem putQT (g : Nat) (most : Int) (c : List Int) (x : Int) (w0 w : World) (hB : Below w0.heap.size w0 w) (hQ : QState w w0.heap.size tt g most c) (r : Int) (d : List Int) (hr : (if (c.length : Int) = most then (20 : Int) else 0) = r) (hd : (if (c.length : Int) = most then c else c ++ [x]) = d) :
    Calls Try.prog 22 #[.pointer (some ⟨g, 0, none⟩), .int .i64 x] w fun e w' => Below w0.heap.size w0 w' ∧ Kept w w' (fun k => k = g ∨ okT w 3 k) ∧ e = .returned (.int .i64 r) ∧ QState w' w0.heap.size tt g most d := by
  refine (putQ (okT w 3) g most c x w0 w hB hQ.okT (fun k hk => Or.inl hk)).mono ?_
  rintro e w' ⟨hb, hk, he, hp⟩
  exact ⟨hb, hk, hr ▸ he, hd ▸ hp.mono (fun _ _ => trivial)⟩
def ebbtidelaw02_awake.f (_ : Nat) : Option Bool := some true
set_option maxHeartbeats 8000000 in
set_option maxRecDepth 100000 in
theorem ebbtidelaw02_awake.calls (k : Nat) (r : Bool) (w : World) (h : ebbtidelaw02_awake.f k = some r) :
    Calls Try.prog 8 #[] w fun e w' => e = .returned (.bool r) ∧ Below w.heap.size w w' := by
  obtain rfl := Option.some.inj h
  clear h
  have hu34 := Try.underlying34
  have HB := Aside0.mk (Below.refl w.heap.size w)
  go_enter Try.func8, Try.ntmps8
  go_wp2_with (first
    | (go_at_call 9; refine (newP 3 _ (by decide) (by decide)).mono ?_; rintro e w1 ⟨hb, gp, rfl, hp⟩; have n0_ := Aside0.mk (below_step HB.out hb); have n1_ := Aside0.mk hp; clear HB hb hp; have HB := n0_; have HP := n1_; clear n0_ n1_)
    | (go_at_call 18; refine (newQ 1 _ (by decide) (by decide)).mono ?_; rintro e w2 ⟨hb, gq, rfl, hq⟩; have n1_ := Aside0.mk (HP.out.below hb); have n2_ := Aside0.mk (hq.lower (below_size HB.out)); have n0_ := Aside0.mk (below_step HB.out hb); clear HB HP hb hq; have HB := n0_; have HP := n1_; have HQ := n2_; clear n0_ n1_ n2_)
    | (go_at_call 16; refine (pushPT gp 3 [] [(3, 1)] 3 1 w _ HB.out HP.out (by decide) (by decide) (by decide)).mono ?_; rintro e w3 ⟨hb, hk, rfl, hp⟩; have n0_ := Aside0.mk hb; have n1_ := Aside0.mk hp; have n2_ := Aside0.mk (HQ.out.stays HP.out.ty hk); clear HB HP HQ hb hk hp; have HB := n0_; have HP := n1_; have HQ := n2_; clear n0_ n1_ n2_)
    | (go_at_call 16; refine (pushPT gp 3 [(3, 1)] [(1, 2), (3, 1)] 1 2 w _ HB.out HP.out (by decide) (by decide) (by decide)).mono ?_; rintro e w4 ⟨hb, hk, rfl, hp⟩; have n0_ := Aside0.mk hb; have n1_ := Aside0.mk hp; have n2_ := Aside0.mk (HQ.out.stays HP.out.ty hk); clear HB HP HQ hb hk hp; have HB := n0_; have HP := n1_; have HQ := n2_; clear n0_ n1_ n2_)
    | (go_at_call 16; refine (pushPT gp 3 [(1, 2), (3, 1)] [(1, 1), (1, 2), (3, 1)] 1 1 w _ HB.out HP.out (by decide) (by decide) (by decide)).mono ?_; rintro e w5 ⟨hb, hk, rfl, hp⟩; have n0_ := Aside0.mk hb; have n1_ := Aside0.mk hp; have n2_ := Aside0.mk (HQ.out.stays HP.out.ty hk); clear HB HP HQ hb hk hp; have HB := n0_; have HP := n1_; have HQ := n2_; clear n0_ n1_ n2_)
    | (go_at_call 11; refine (popPT gp 3 1 1 [(1, 2), (3, 1)] w _ HB.out HP.out (by decide)).mono ?_; rintro e w6 ⟨hb, hk, rfl, hp⟩; have n0_ := Aside0.mk hb; have n1_ := Aside0.mk hp; have n2_ := Aside0.mk (HQ.out.stays HP.out.ty hk); clear HB HP HQ hb hk hp; have HB := n0_; have HP := n1_; have HQ := n2_; clear n0_ n1_ n2_)
    | ((with_reducible refine gate_dst (N := 5) rfl ?_); refine box_event ?hg (N := 5) ?hd (cs := #[.int .i64 0, .int .i64 0]) (t := 34) ?hr ?_; (case hd => rfl); (case hg => rfl); (case hr => first | (go_simp; done) | (go_simp; rfl)); intro g5 hg w7 hbox hb; have n3_ := Aside0.mk (by rw [hg]; exact below_size HB.out : w.heap.size ≤ g5); have n0_ := Aside0.mk (below_step HB.out hb); have n1_ := Aside0.mk ((HP.out.elder g5 (by rw [hg]; exact Nat.le_refl _)).below hb); have n2_ := Aside0.mk (HQ.out.below hb); have n4_ := Aside0.mk hbox; clear HB HP HQ hb hg hbox; have HB := n0_; have HP := n1_; have HQ := n2_; have GE5 := n3_; have BK5 := n4_; clear n0_ n1_ n2_ n3_ n4_; have z0 : w7.cell? ⟨g5, 0, none⟩ = some (.int .i64 0) := (blk_cell BK5.out 0).trans rfl; have z1 : w7.cell? ⟨g5, 1, none⟩ = some (.int .i64 0) := (blk_cell BK5.out 1).trans rfl; have y0 := blk_frozen BK5.out 0; have y1 := blk_frozen BK5.out 1)
    | (go_at_call 13; have n0_ := Aside0.mk (below_set (below_set HB.out GE5.out (j := 0) (v := .int .i64 1)) GE5.out (j := 1) (v := .int .i64 1)); have n1_ := Aside0.mk (blk_put (cs' := #[.int .i64 1, .int .i64 1]) (blk_put (cs' := #[.int .i64 1, .int .i64 0]) BK5.out 0 (.int .i64 1) rfl) 1 (.int .i64 1) rfl); have n2_ := Aside0.mk ((HP.out.far2 ⟨_, BK5.out⟩ (fun k hk => hk.2) (.int .i64 1) (.int .i64 1))); have n3_ := Aside0.mk ((HQ.out.far2 ⟨_, BK5.out⟩ (.int .i64 1) (.int .i64 1))); clear HB BK5 HP HQ z0 z1 y0 y1; have HB := n0_; have BK5 := n1_; have HP := n2_; have HQ := n3_; clear n0_ n1_ n2_ n3_; refine (leastP gp 3 [(1, 2), (3, 1)] _ HP.out).mono ?_; rintro e w8 ⟨rfl, hb⟩; have n0_ := Aside0.mk (below_step HB.out hb); have n1_ := Aside0.mk (blk_below BK5.out hb); have n2_ := Aside0.mk (HP.out.below hb); have n3_ := Aside0.mk (HQ.out.below hb); clear HB BK5 HP HQ hb; have HB := n0_; have BK5 := n1_; have HP := n2_; have HQ := n3_; clear n0_ n1_ n2_ n3_; dsimp only [headS])
    | ((with_reducible refine gate_dst (N := 7) rfl ?_); refine box_event ?hg (N := 7) ?hd (cs := #[.int .i64 0, .int .i64 0]) (t := 34) ?hr ?_; (case hd => rfl); (case hg => rfl); (case hr => first | (go_simp; done) | (go_simp; rfl)); intro g7 hg w9 hbox hb; have n3_ := Aside0.mk (by rw [hg]; exact below_size HB.out : w.heap.size ≤ g7); have n5_ := Aside0.mk (by rw [hg]; exact Nat.ne_of_lt (blk_lt BK5.out) : g5 ≠ g7); have n6_ := Aside0.mk (blk_below BK5.out hb); have n0_ := Aside0.mk (below_step HB.out hb); have n1_ := Aside0.mk ((HP.out.elder g7 (by rw [hg]; exact Nat.le_refl _)).below hb); have n2_ := Aside0.mk (HQ.out.below hb); have n4_ := Aside0.mk hbox; clear HB HP HQ BK5 hb hg hbox; have HB := n0_; have HP := n1_; have HQ := n2_; have GE7 := n3_; have BK7 := n4_; have NE57 := n5_; have BK5 := n6_; clear n0_ n1_ n2_ n3_ n4_ n5_ n6_; have z0 : w9.cell? ⟨g7, 0, none⟩ = some (.int .i64 0) := (blk_cell BK7.out 0).trans rfl; have z1 : w9.cell? ⟨g7, 1, none⟩ = some (.int .i64 0) := (blk_cell BK7.out 1).trans rfl; have y0 := blk_frozen BK7.out 0; have y1 := blk_frozen BK7.out 1)
    | (go_at_call 22; have n0_ := Aside0.mk (below_set (below_set HB.out GE7.out (j := 0) (v := .int .i64 1)) GE7.out (j := 1) (v := .int .i64 2)); have n1_ := Aside0.mk (blk_put (cs' := #[.int .i64 1, .int .i64 2]) (blk_put (cs' := #[.int .i64 1, .int .i64 0]) BK7.out 0 (.int .i64 1) rfl) 1 (.int .i64 2) rfl); have n2_ := Aside0.mk ((HP.out.far2 ⟨_, BK7.out⟩ (fun k hk => hk.2) (.int .i64 1) (.int .i64 2))); have n3_ := Aside0.mk ((HQ.out.far2 ⟨_, BK7.out⟩ (.int .i64 1) (.int .i64 2))); have n4_ := Aside0.mk (blk_far (p := ⟨g7, 1, none⟩) (blk_far (p := ⟨g7, 0, none⟩) BK5.out NE57.out (.int .i64 1)) NE57.out (.int .i64 2)); clear HB BK5 BK7 HP HQ z0 z1 y0 y1; have HB := n0_; have BK7 := n1_; have HP := n2_; have HQ := n3_; have BK5 := n4_; clear n0_ n1_ n2_ n3_ n4_; refine (putQT gq 1 [] 5 w _ HB.out HQ.out 0 [5] (by decide) (by decide)).mono ?_; rintro e w10 ⟨hb, hk, rfl, hp⟩; have n0_ := Aside0.mk hb; have n1_ := Aside0.mk (HP.out.stays HQ.out.ty hk); have n2_ := Aside0.mk (Kept.blk hk BK5.out (fun e => e.elim (fun e => by subst e; exact absurd (HQ.out.ty.one ⟨_, BK5.out⟩) (by decide)) (fun e => absurd (okT_ne e ⟨_, BK5.out⟩) (by decide)))); have n3_ := Aside0.mk (Kept.blk hk BK7.out (fun e => e.elim (fun e => by subst e; exact absurd (HQ.out.ty.one ⟨_, BK7.out⟩) (by decide)) (fun e => absurd (okT_ne e ⟨_, BK7.out⟩) (by decide)))); have n4_ := Aside0.mk hp; clear HB HP HQ BK5 BK7 hb hk hp; have HB := n0_; have HP := n1_; have HQ := n4_; have BK5 := n2_; have BK7 := n3_; clear n0_ n1_ n2_ n3_ n4_)
    | (go_at_call 22; refine (putQT gq 1 [5] 6 w _ HB.out HQ.out 20 [5] (by decide) (by decide)).mono ?_; rintro e w11 ⟨hb, hk, rfl, hp⟩; have n0_ := Aside0.mk hb; have n1_ := Aside0.mk (HP.out.stays HQ.out.ty hk); have n2_ := Aside0.mk (Kept.blk hk BK5.out (fun e => e.elim (fun e => by subst e; exact absurd (HQ.out.ty.one ⟨_, BK5.out⟩) (by decide)) (fun e => absurd (okT_ne e ⟨_, BK5.out⟩) (by decide)))); have n3_ := Aside0.mk (Kept.blk hk BK7.out (fun e => e.elim (fun e => by subst e; exact absurd (HQ.out.ty.one ⟨_, BK7.out⟩) (by decide)) (fun e => absurd (okT_ne e ⟨_, BK7.out⟩) (by decide)))); have n4_ := Aside0.mk hp; clear HB HP HQ BK5 BK7 hb hk hp; have HB := n0_; have HP := n1_; have HQ := n4_; have BK5 := n2_; have BK7 := n3_; clear n0_ n1_ n2_ n3_ n4_)
    | (go_at_call 20; refine (takeQT gq 1 5 [] w _ HB.out HQ.out).mono ?_; rintro e w12 ⟨hb, hk, rfl, hp⟩; have n0_ := Aside0.mk hb; have n1_ := Aside0.mk (HP.out.stays HQ.out.ty hk); have n2_ := Aside0.mk (Kept.blk hk BK5.out (fun e => e.elim (fun e => by subst e; exact absurd (HQ.out.ty.one ⟨_, BK5.out⟩) (by decide)) (fun e => absurd (okT_ne e ⟨_, BK5.out⟩) (by decide)))); have n3_ := Aside0.mk (Kept.blk hk BK7.out (fun e => e.elim (fun e => by subst e; exact absurd (HQ.out.ty.one ⟨_, BK7.out⟩) (by decide)) (fun e => absurd (okT_ne e ⟨_, BK7.out⟩) (by decide)))); have n4_ := Aside0.mk hp; clear HB HP HQ BK5 BK7 hb hk hp; have HB := n0_; have HP := n1_; have HQ := n4_; have BK5 := n2_; have BK7 := n3_; clear n0_ n1_ n2_ n3_ n4_; have z0 : w12.cell? ⟨g5, 0, none⟩ = some (.int .i64 1) := (blk_cell BK5.out 0).trans rfl; have z1 : w12.cell? ⟨g5, 1, none⟩ = some (.int .i64 1) := (blk_cell BK5.out 1).trans rfl; have z2 : w12.cell? ⟨g7, 0, none⟩ = some (.int .i64 1) := (blk_cell BK7.out 0).trans rfl; have z3 : w12.cell? ⟨g7, 1, none⟩ = some (.int .i64 2) := (blk_cell BK7.out 1).trans rfl; have y0 := blk_frozen BK5.out 0; have y1 := blk_frozen BK5.out 1; have y2 := blk_frozen BK7.out 0; have y3 := blk_frozen BK7.out 1)
    | (go_at_call 15; refine (lenP gp 3 [(1, 2), (3, 1)] _ HP.out).mono ?_; rintro e w13 ⟨rfl, rfl⟩)
    | (go_at_call 24; refine (lenQ gq 1 [] _ HQ.out).mono ?_; rintro e w13 ⟨rfl, rfl⟩))
  go_ret
  exact ⟨rfl, HB.out⟩
end Go.Proofs.Ytloebciamfbjfaa.Q
end
