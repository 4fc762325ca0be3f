/- A part of the proof: words, contracts, plain lemmas. Conditions: none. -/
import Derived.Test.YtloebciamfbjfaaZPileRounds6
import Derived.Test.YtloebciamfbjfaaZPileRounds8
import Derived.Test.YtloebciamfbjfaaRows
import Derived.Test.YtloebciamfbjfaaZPileRounds3
import Derived.Deep.Slices
import Derived.ProofKit
section
namespace Go.Proofs.Ytloebciamfbjfaa.Q
open Go.RowKit Go.Proofs.Ytloebciamfbjfaa.P Go.Proofs.YtloebciamfbjfaaW.PrintWords Go.Proofs.YtloebciamfbjfaaW.PrintLast Go.Proofs.YtloebciamfbjfaaW.PrintMore
set_option linter.unusedVariables false
set_option linter.unusedSimpArgs false
def Sorted2 (s : List (Int × Int)) : Prop := s.Pairwise (fun a b => ¬ plt b a)
def ins (x : Int × Int) : List (Int × Int) → List (Int × Int)
  | [] => [x]
  | y :: s => if plt y x then y :: ins x s else x :: y :: s
theorem sorted2_nil : Sorted2 [] := List.Pairwise.nil
theorem ins_perm (x : Int × Int) : ∀ s, (ins x s).Perm (x :: s)
  | [] => List.Perm.refl _
  | y :: s => by
    unfold ins
    split
    · exact (List.Perm.cons y (ins_perm x s)).trans (List.Perm.swap x y s)
    · exact List.Perm.refl _
theorem ins_sorted (x : Int × Int) : ∀ s, Sorted2 s → Sorted2 (ins x s)
  | [], _ => List.pairwise_singleton _ _
  | y :: s, h => by
    unfold ins
    obtain ⟨h1, h2⟩ := List.pairwise_cons.1 h
    split
    · rename_i c
      refine List.pairwise_cons.2 ⟨fun z hz => ?_, ins_sorted x s h2⟩
      rcases List.mem_cons.1 ((ins_perm x s).mem_iff.1 hz) with rfl | hz
      · exact plt_asym c
      · exact h1 z hz
    · rename_i c
      refine List.pairwise_cons.2 ⟨fun z hz => ?_, h⟩
      rcases List.mem_cons.1 hz with rfl | hz
      · exact c
      · exact plt_ntrans (h1 z hz) c
def headS (s : List (Int × Int)) : Int × Int × Int := match s with | [] => (0, 0, 21) | x :: _ => (x.1, x.2, 0)
theorem least_head {l : List S34} {s : List (Int × Int)} (hH : Heaped l.length (fA l)) (hs : Sorted2 s) (hp : (l.map pr).Perm s) : leastL l = headS s ∧ (∀ x r, l = x :: r → ∃ t, s = pr x :: t) := by
  cases l with
  | nil => rw [List.map_nil, List.nil_perm] at hp; subst hp; exact ⟨rfl, fun _ _ h => by cases h⟩
  | cons x r =>
    cases s with
    | nil => cases List.perm_nil.1 hp
    | cons y t =>
      have e : pr x = y := by
        have h0 : ∀ z, z ∈ (x :: r).map pr → ¬ plt z (pr x) := by
          intro z hz
          obtain ⟨j, hj, rfl⟩ := List.mem_iff_getElem.1 hz
          rw [List.length_map] at hj
          have := heaped_least hH j hj
          rw [fA_get hj, fA_get (show 0 < (x :: r).length by simp)] at this
          rw [List.getElem_map]
          exact this
        have h1 := h0 y (hp.mem_iff.2 List.mem_cons_self)
        rcases List.mem_cons.1 (hp.mem_iff.1 (show pr x ∈ (x :: r).map pr from List.mem_cons_self)) with e | hx
        · exact e
        · exact plt_total ((List.pairwise_cons.1 hs).1 _ hx) h1
      subst e
      exact ⟨rfl, fun x' r' h => by cases h; exact ⟨t, rfl⟩⟩
def PState (w : World) (base : Nat) (ok : Nat → Prop) (g : Nat) (most : Int) (s : List (Int × Int)) : Prop :=
  ∃ v l, PileC w base ok g most v l ∧ Heaped l.length (fA l) ∧ Sorted2 s ∧ (l.map pr).Perm s
def QState (w : World) (base : Nat) (ok : Nat → Prop) (g : Nat) (most : Int) (c : List Int) : Prop :=
  ∃ v zs f s, QueueC w base ok g most v zs f s ∧ content zs f s = c ∧ zs.length ≤ 131076 ∧ (s : Int) ≤ most ∧ most ≤ 65536
def Ty (w : World) (t k : Nat) : Prop := ∃ cells, w.heap[k]? = some (.cells cells t (0, 0))
theorem Ty.lt {w : World} {t k : Nat} (h : Ty w t k) : k < w.heap.size := by obtain ⟨c, h⟩ := h; exact blk_lt h
theorem Ty.one {w : World} {t t' k : Nat} (h : Ty w t k) (h' : Ty w t' k) : t = t' := by
  obtain ⟨c, h⟩ := h
  obtain ⟨c', h'⟩ := h'
  rw [h] at h'; injection h' with h'; injection h'
section
variable {w w1 : World} {base : Nat} {ok ok' : Nat → Prop} {g : Nat} {most : Int} {s : List (Int × Int)} {c : List Int}
theorem PState.below (h : PState w base ok g most s) (hb : Below w.heap.size w w1) : PState w1 base ok g most s := by obtain ⟨v, l, h, k⟩ := h; exact ⟨v, l, h.below hb, k⟩
theorem PState.mono (h : PState w base ok g most s) (hk : ∀ k, ok k → ok' k) : PState w base ok' g most s := by obtain ⟨v, l, h, k⟩ := h; exact ⟨v, l, h.mono hk, k⟩
theorem PState.kept {S : Nat → Prop} (h : PState w base ok g most s) (hk : Kept w w1 S) (hg : ¬ S g) (ho : ∀ k, ok k → ¬ S k) : PState w1 base ok g most s := by obtain ⟨v, l, h, k⟩ := h; exact ⟨v, l, h.kept hk hg ho, k⟩
theorem PState.typed (h : PState w base ok g most s) : PState w base (fun k => ok k ∧ Ty w 34 k) g most s := by
  obtain ⟨v, l, h, k⟩ := h
  refine ⟨v, l, ⟨h.blk, Kd.R_mono (Kd.R_bound h.row) (fun k hk => ?_), h.ge⟩, k⟩
  obtain ⟨⟨h1, h2⟩, _, _, q, hq, hc⟩ := hk
  rcases List.mem_cons.1 hq with rfl | hq
  · exact ⟨⟨h1, hc⟩, h2⟩
  · cases hq
theorem PState.ty (h : PState w base ok g most s) : Ty w 62 g := by obtain ⟨v, l, h, k⟩ := h; exact ⟨_, h.blk⟩
theorem QState.below (h : QState w base ok g most c) (hb : Below w.heap.size w w1) : QState w1 base ok g most c := by obtain ⟨v, zs, f, s, h, k⟩ := h; exact ⟨v, zs, f, s, h.below hb, k⟩
theorem QState.mono (h : QState w base ok g most c) (hk : ∀ k, ok k → ok' k) : QState w base ok' g most c := by obtain ⟨v, zs, f, s, h, k⟩ := h; exact ⟨v, zs, f, s, h.mono hk, k⟩
theorem QState.lower {base' : Nat} (h : QState w base ok g most c) (hb : base' ≤ base) : QState w base' ok g most c := by obtain ⟨v, zs, f, s, h, k⟩ := h; exact ⟨v, zs, f, s, h.lower hb, k⟩
theorem QState.kept {S : Nat → Prop} (h : QState w base ok g most c) (hk : Kept w w1 S) (hg : ¬ S g) (ho : ∀ k, ok k → ¬ S k) : QState w1 base ok g most c := by obtain ⟨v, zs, f, s, h, k⟩ := h; exact ⟨v, zs, f, s, h.kept hk hg ho, k⟩
theorem QState.typed (h : QState w base ok g most c) : QState w base (fun k => ok k ∧ Ty w 3 k) g most c := by
  obtain ⟨v, zs, f, s, h, k⟩ := h
  exact ⟨v, zs, f, s, ⟨h.blk, h.ge, h.ring.imp id (fun ⟨gk, h1, h2, h3, h4, h5⟩ => ⟨gk, h1, h2, h3, ⟨h4, _, h2⟩, h5⟩), h.fl, h.sl⟩, k⟩
theorem QState.ty (h : QState w base ok g most c) : Ty w 67 g := by obtain ⟨v, zs, f, s, h, k⟩ := h; exact ⟨_, h.blk⟩
end
theorem newP (most : Int) (w : World) (h0 : 0 ≤ most) (h1 : most ≤ 65536) :
    Calls Try.prog 9 #[.int .i64 most] w fun e w' => Below w.heap.size w w' ∧ ∃ g, e = .returned (.tuple #[.pointer (some ⟨g, 0, none⟩), .int .i64 0]) ∧ PState w' w.heap.size (fun _ => True) g most [] := by
  refine (Pile_New.calls most w).mono ?_
  rintro e w' ⟨hb, h⟩
  rw [if_pos ⟨h0, h1⟩] at h
  obtain ⟨g, he, hp⟩ := h
  exact ⟨hb, g, he, _, _, hp, (fun j _ hj => absurd hj (Nat.not_lt_zero j)), sorted2_nil, List.Perm.refl _⟩
theorem newQ (most : Int) (w : World) (h0 : 0 ≤ most) (h1 : most ≤ 65536) :
    Calls Try.prog 18 #[.int .i64 most] w fun e w' => Below w.heap.size w w' ∧ ∃ g, e = .returned (.tuple #[.pointer (some ⟨g, 0, none⟩), .int .i64 0]) ∧ QState w' w.heap.size (fun _ => True) g most [] := by
  refine (Queue_New.calls most w).mono ?_
  rintro e w' ⟨hb, h⟩
  rw [if_pos ⟨h0, h1⟩] at h
  obtain ⟨g, he, hp⟩ := h
  exact ⟨hb, g, he, _, _, _, _, hp, rfl, by simp, h0, h1⟩
theorem pushP (ok : Nat → Prop) (g : Nat) (most : Int) (s : List (Int × Int)) (x0 x1 : Int) (w0 w : World) (hB : Below w0.heap.size w0 w) (hP : PState w w0.heap.size ok g most s) (hfresh : ∀ k, w.heap.size ≤ k → ok k) (hl : s.length ≤ 65536) :
    Calls Try.prog 16 #[.pointer (some ⟨g, 0, none⟩), .agg #[.int .i64 x0, .int .i64 x1]] w fun e w' => Below w0.heap.size w0 w' ∧ Kept w w' (fun k => k = g ∨ ok k) ∧ e = .returned (.int .i64 (if (s.length : Int) = most then 20 else 0)) ∧ PState w' w0.heap.size ok g most (if (s.length : Int) = most then s else ins (x0, x1) s) := by
  obtain ⟨v, l, hP, hH, hs, hp⟩ := hP
  have hlen : l.length = s.length := by rw [← hp.length_eq, List.length_map]
  refine (Pile_Push.calls ok g most v l x0 x1 w0 w hB hP hfresh (by omega) hH).mono ?_
  rintro e w' ⟨hb, hk, h⟩
  rw [hlen] at h
  refine ⟨hb, hk, ?_⟩
  by_cases c : (s.length : Int) = most
  · rw [if_pos c] at h
    rw [if_pos c, if_pos c]
    exact ⟨h.1, v, l, h.2, hH, hs, hp⟩
  · rw [if_neg c] at h
    rw [if_neg c, if_neg c]
    obtain ⟨he, v', l', hq, hH', hp'⟩ := h
    exact ⟨he, v', l', hq, hH', ins_sorted _ _ hs, ((hp'.map pr).trans (List.Perm.cons _ hp)).trans (ins_perm _ _).symm⟩
theorem popP (ok : Nat → Prop) (g : Nat) (most : Int) (s : List (Int × Int)) (w0 w : World) (hB : Below w0.heap.size w0 w) (hP : PState w w0.heap.size ok g most s) (hl : s.length ≤ 65536) :
    Calls Try.prog 11 #[.pointer (some ⟨g, 0, none⟩)] w fun e w' => Below w0.heap.size w0 w' ∧ Kept w w' (fun k => k = g ∨ ok k) ∧ e = .returned (.tuple #[.agg #[.int .i64 (headS s).1, .int .i64 (headS s).2.1], .int .i64 (headS s).2.2]) ∧ PState w' w0.heap.size ok g most s.tail := by
  obtain ⟨v, l, hP, hH, hs, hp⟩ := hP
  have hlen : l.length = s.length := by rw [← hp.length_eq, List.length_map]
  refine (Pile_Pop.calls ok g most v l w0 w hB hP (by omega) hH).mono ?_
  rintro e w' ⟨hb, hk, he, v', l', hq, hH', hr⟩
  obtain ⟨h1, h2⟩ := least_head hH hs hp
  rw [h1] at he
  refine ⟨hb, hk, he, v', l', hq, hH', hs.tail, ?_⟩
  cases l with
  | nil => rw [List.map_nil, List.nil_perm] at hp; subst hp; rw [show l' = [] from hr]; exact List.Perm.refl _
  | cons x r =>
    obtain ⟨t, rfl⟩ := h2 x r rfl
    exact List.Perm.cons_inv ((List.Perm.map pr (show (x :: l').Perm (x :: r) from hr)).trans hp)
theorem leastP {base : Nat} {ok : Nat → Prop} (g : Nat) (most : Int) (s : List (Int × Int)) (w : World) (hP : PState w base ok g most s) :
    Calls Try.prog 13 #[.pointer (some ⟨g, 0, none⟩)] w fun e w' => e = .returned (.tuple #[.agg #[.int .i64 (headS s).1, .int .i64 (headS s).2.1], .int .i64 (headS s).2.2]) ∧ Below w.heap.size w w' := by
  obtain ⟨v, l, hP, hH, hs, hp⟩ := hP
  have h := Pile_Least.calls g most v l w hP
  rw [(least_head hH hs hp).1] at h
  exact h
theorem lenP {base : Nat} {ok : Nat → Prop} (g : Nat) (most : Int) (s : List (Int × Int)) (w : World) (hP : PState w base ok g most s) :
    Calls Try.prog 15 #[.pointer (some ⟨g, 0, none⟩)] w fun e w' => e = .returned (.int .i64 (s.length : Int)) ∧ w' = w := by
  obtain ⟨v, l, hP, hH, hs, hp⟩ := hP
  have h := Pile_Len.calls g most v l w hP
  rw [show l.length = s.length by rw [← hp.length_eq, List.length_map]] at h
  exact h
theorem lenQ {base : Nat} {ok : Nat → Prop} (g : Nat) (most : Int) (c : List Int) (w : World) (hQ : QState w base ok g most c) :
    Calls Try.prog 24 #[.pointer (some ⟨g, 0, none⟩)] w fun e w' => e = .returned (.int .i64 (c.length : Int)) ∧ w' = w := by
  obtain ⟨v, zs, f, s, hQ, rfl, _⟩ := hQ
  have h := Queue_Len.calls g most v zs f s w hQ
  rw [content_length]
  exact h
def headQ (c : List Int) : Int × Int := match c with | [] => (0, 21) | x :: _ => (x, 0)
theorem takeQ (ok : Nat → Prop) (g : Nat) (most : Int) (c : List Int) (w0 w : World) (hB : Below w0.heap.size w0 w) (hQ : QState w w0.heap.size ok g most c) :
    Calls Try.prog 20 #[.pointer (some ⟨g, 0, none⟩)] w fun e w' => Below w0.heap.size w0 w' ∧ Kept w w' (fun k => k = g ∨ ok k) ∧ e = .returned (.tuple #[.int .i64 (headQ c).1, .int .i64 (headQ c).2]) ∧ QState w' w0.heap.size ok g most c.tail := by
  obtain ⟨v, zs, f, s, hQ, rfl, h1, h2, h3⟩ := hQ
  refine (Queue_Take.calls ok g most v zs f s w0 w hB hQ (by omega)).mono ?_
  rintro e w' ⟨hb, hk, h⟩
  refine ⟨hb, hk, ?_⟩
  cases s with
  | zero =>
    rw [if_pos rfl] at h
    exact ⟨h.1, v, zs, f, 0, h.2, rfl, h1, h2, h3⟩
  | succ s =>
    rw [if_neg (Nat.succ_ne_zero s)] at h
    have hsl := hQ.sl
    have hf : f < zs.length := by rcases hQ.fl with h | h; (exact h); (rw [h.1] at hsl; exact absurd hsl (by simp))
    rw [content_succ zs f s hf]
    exact ⟨h.1, v, zs, (f + 1) % zs.length, s, h.2, rfl, h1, by omega, h3⟩
theorem putQ (ok : Nat → Prop) (g : Nat) (most : Int) (c : List Int) (x : Int) (w0 w : World) (hB : Below w0.heap.size w0 w) (hQ : QState w w0.heap.size ok g most c) (hfresh : ∀ k, w.heap.size ≤ k → ok k) :
    Calls Try.prog 22 #[.pointer (some ⟨g, 0, none⟩), .int .i64 x] w fun e w' => Below w0.heap.size w0 w' ∧ Kept w w' (fun k => k = g ∨ ok k) ∧ e = .returned (.int .i64 (if (c.length : Int) = most then 20 else 0)) ∧ QState w' w0.heap.size ok g most (if (c.length : Int) = most then c else c ++ [x]) := by
  obtain ⟨v, zs, f, s, hQ, rfl, h1, h2, h3⟩ := hQ
  refine (Queue_Put.calls ok g most v zs f s x w0 w hB hQ hfresh (by omega)).mono ?_
  rintro e w' ⟨hb, hk, h⟩
  refine ⟨hb, hk, ?_⟩
  rw [content_length]
  by_cases c : (s : Int) = most
  · rw [if_pos c] at h
    rw [if_pos c, if_pos c]
    exact ⟨h.1, v, zs, f, s, h.2, rfl, h1, h2, h3⟩
  · rw [if_neg c] at h
    rw [if_neg c, if_neg c]
    obtain ⟨he, v', zs', f', hq, hc, hl⟩ := h
    exact ⟨he, v', zs', f', s + 1, hq, hc, by omega, by omega, h3⟩
def okT (W : World) (t k : Nat) : Prop := W.heap.size ≤ k ∨ Ty W t k
abbrev tt : Nat → Prop := fun _ => True
section
variable {W w' : World} {base : Nat} {g gp : Nat} {most : Int} {s : List (Int × Int)} {c : List Int}
theorem PState.okT (h : PState W base tt g most s) : PState W base (okT W 34) g most s := h.typed.mono (fun k hk => Or.inr hk.2)
theorem QState.okT (h : QState W base tt g most c) : QState W base (okT W 3) g most c := h.typed.mono (fun k hk => Or.inr hk.2)
theorem okT_ne {t t' k : Nat} (h : okT W t k) (h' : Ty W t' k) : t = t' := h.elim (fun h => by have := h'.lt; omega) (fun h => h.one h')
theorem QState.stays (h : QState W base tt g most c) (hp : Ty W 62 gp) (hk : Kept W w' (fun k => k = gp ∨ Q.okT W 34 k)) : QState w' base tt g most c :=
  (h.typed.kept hk (fun e => e.elim (fun e => by subst e; exact absurd (hp.one h.ty) (by decide)) (fun e => absurd (okT_ne e h.ty) (by decide)))
    (fun j hj e => e.elim (fun e => by subst e; exact absurd (hp.one hj.2) (by decide)) (fun e => absurd (okT_ne e hj.2) (by decide)))).mono (fun _ _ => trivial)
theorem PState.stays (h : PState W base tt g most s) (hp : Ty W 67 gp) (hk : Kept W w' (fun k => k = gp ∨ Q.okT W 3 k)) : PState w' base tt g most s :=
  (h.typed.kept hk (fun e => e.elim (fun e => by subst e; exact absurd (hp.one h.ty) (by decide)) (fun e => absurd (okT_ne e h.ty) (by decide)))
    (fun j hj e => e.elim (fun e => by subst e; exact absurd (hp.one hj.2) (by decide)) (fun e => absurd (okT_ne e hj.2) (by decide)))).mono (fun _ _ => trivial)
theorem PState.elder {ok : Nat → Prop} (h : PState W base ok g most s) (a : Nat) (ha : W.heap.size ≤ a) : PState W base (fun k => ok k ∧ k ≠ a) g most s := by obtain ⟨v, l, h, k⟩ := h; exact ⟨v, l, h.elder a ha, k⟩
theorem PState.far2 {ok : Nat → Prop} {gb : Nat} (h : PState W base ok g most s) (hb : Ty W 34 gb) (hok : ∀ k, ok k → k ≠ gb) (u v : Value) : PState ((W.setCell ⟨gb, 0, none⟩ u).setCell ⟨gb, 1, none⟩ v) base tt g most s :=
  (h.kept (S := fun k => k = gb) (Kept.setCell (p := ⟨gb, 1, none⟩) (Kept.setCell (p := ⟨gb, 0, none⟩) (Kept.refl W (fun k => k = gb)) (Or.inl rfl) u) (Or.inl rfl) v) (fun e => absurd ((e ▸ h.ty : Ty W 62 gb).one hb) (by decide)) hok).mono (fun _ _ => trivial)
theorem QState.far2 {gb : Nat} (h : QState W base tt g most c) (hb : Ty W 34 gb) (u v : Value) : QState ((W.setCell ⟨gb, 0, none⟩ u).setCell ⟨gb, 1, none⟩ v) base tt g most c :=
  (h.typed.kept (S := fun k => k = gb) (Kept.setCell (p := ⟨gb, 1, none⟩) (Kept.setCell (p := ⟨gb, 0, none⟩) (Kept.refl W (fun k => k = gb)) (Or.inl rfl) u) (Or.inl rfl) v) (fun e => absurd ((e ▸ h.ty : Ty W 67 gb).one hb) (by decide)) (fun k hk e => absurd ((e ▸ hk.2 : Ty W 3 gb).one hb) (by decide))).mono (fun _ _ => trivial)
end
theorem pushPT (g : Nat) (most : Int) (s t : List (Int × Int)) (x0 x1 : Int) (w0 w : World) (hB : Below w0.heap.size w0 w) (hP : PState w w0.heap.size tt g most s) (hl : s.length ≤ 65536) (hn : ¬ (s.length : Int) = most) (ht : ins (x0, x1) s = t) :
    Calls Try.prog 16 #[.pointer (some ⟨g, 0, none⟩), .agg #[.int .i64 x0, .int .i64 x1]] w fun e w' => Below w0.heap.size w0 w' ∧ Kept w w' (fun k => k = g ∨ okT w 34 k) ∧ e = .returned (.int .i64 0) ∧ PState w' w0.heap.size tt g most t := by
  refine (pushP (okT w 34) g most s x0 x1 w0 w hB hP.okT (fun k hk => Or.inl hk) hl).mono ?_
  rintro e w' ⟨hb, hk, he, hp⟩
  rw [if_neg hn] at he hp
  exact ⟨hb, hk, he, ht ▸ hp.mono (fun _ _ => trivial)⟩
theorem popPT (g : Nat) (most : Int) (x0 x1 : Int) (s : List (Int × Int)) (w0 w : World) (hB : Below w0.heap.size w0 w) (hP : PState w w0.heap.size tt g most ((x0, x1) :: s)) (hl : ((x0, x1) :: s).length ≤ 65536) :
    Calls Try.prog 11 #[.pointer (some ⟨g, 0, none⟩)] w fun e w' => Below w0.heap.size w0 w' ∧ Kept w w' (fun k => k = g ∨ okT w 34 k) ∧ e = .returned (.tuple #[.agg #[.int .i64 x0, .int .i64 x1], .int .i64 0]) ∧ PState w' w0.heap.size tt g most s := by
  refine (popP (okT w 34) g most _ w0 w hB hP.okT hl).mono ?_
  rintro e w' ⟨hb, hk, he, hp⟩
  exact ⟨hb, hk, he, hp.mono (fun _ _ => trivial)⟩
theorem takeQT (g : Nat) (most : Int) (x : Int) (c : List Int) (w0 w : World) (hB : Below w0.heap.size w0 w) (hQ : QState w w0.heap.size tt g most (x :: c)) :
    Calls Try.prog 20 #[.pointer (some ⟨g, 0, none⟩)] w fun e w' => Below w0.heap.size w0 w' ∧ Kept w w' (fun k => k = g ∨ okT w 3 k) ∧ e = .returned (.tuple #[.int .i64 x, .int .i64 0]) ∧ QState w' w0.heap.size tt g most c := by
  refine (takeQ (okT w 3) g most _ w0 w hB hQ.okT).mono ?_
  rintro e w' ⟨hb, hk, he, hp⟩
  exact ⟨hb, hk, he, hp.mono (fun _ _ => trivial)⟩
theorem putQT (g : Nat) (most : Int) (c : List Int) (x : Int) (w0 w : World) (hB : Below w0.heap.size w0 w) (hQ : QState w w0.heap.size tt g most c) (r : Int) (d : List Int) (hr : (if (c.length : Int) = most then (20 : Int) else 0) = r) (hd : (if (c.length : Int) = most then c else c ++ [x]) = d) :
    Calls Try.prog 22 #[.pointer (some ⟨g, 0, none⟩), .int .i64 x] w fun e w' => Below w0.heap.size w0 w' ∧ Kept w w' (fun k => k = g ∨ okT w 3 k) ∧ e = .returned (.int .i64 r) ∧ QState w' w0.heap.size tt g most d := by
  refine (putQ (okT w 3) g most c x w0 w hB hQ.okT (fun k hk => Or.inl hk)).mono ?_
  rintro e w' ⟨hb, hk, he, hp⟩
  exact ⟨hb, hk, hr ▸ he, hd ▸ hp.mono (fun _ _ => trivial)⟩
def ebbtidelaw02_awake.f (_ : Nat) : Option Bool := some true
set_option maxHeartbeats 8000000 in
set_option maxRecDepth 100000 in
theorem ebbtidelaw02_awake.calls (k : Nat) (r : Bool) (w : World) (h : ebbtidelaw02_awake.f k = some r) :
    Calls Try.prog 8 #[] w fun e w' => e = .returned (.bool r) ∧ Below w.heap.size w w' := by
  obtain rfl := Option.some.inj h
  clear h
  have hu34 := Try.underlying34
  have HB := Aside0.mk (Below.refl w.heap.size w)
  go_enter Try.func8, Try.ntmps8
  go_wp2_with (first
    | (go_at_call 9; refine (newP 3 _ (by decide) (by decide)).mono ?_; rintro e w1 ⟨hb, gp, rfl, hp⟩; have n0_ := Aside0.mk (below_step HB.out hb); have n1_ := Aside0.mk hp; clear HB hb hp; have HB := n0_; have HP := n1_; clear n0_ n1_)
    | (go_at_call 18; refine (newQ 1 _ (by decide) (by decide)).mono ?_; rintro e w2 ⟨hb, gq, rfl, hq⟩; have n1_ := Aside0.mk (HP.out.below hb); have n2_ := Aside0.mk (hq.lower (below_size HB.out)); have n0_ := Aside0.mk (below_step HB.out hb); clear HB HP hb hq; have HB := n0_; have HP := n1_; have HQ := n2_; clear n0_ n1_ n2_)
    | (go_at_call 16; refine (pushPT gp 3 [] [(3, 1)] 3 1 w _ HB.out HP.out (by decide) (by decide) (by decide)).mono ?_; rintro e w3 ⟨hb, hk, rfl, hp⟩; have n0_ := Aside0.mk hb; have n1_ := Aside0.mk hp; have n2_ := Aside0.mk (HQ.out.stays HP.out.ty hk); clear HB HP HQ hb hk hp; have HB := n0_; have HP := n1_; have HQ := n2_; clear n0_ n1_ n2_)
    | (go_at_call 16; refine (pushPT gp 3 [(3, 1)] [(1, 2), (3, 1)] 1 2 w _ HB.out HP.out (by decide) (by decide) (by decide)).mono ?_; rintro e w4 ⟨hb, hk, rfl, hp⟩; have n0_ := Aside0.mk hb; have n1_ := Aside0.mk hp; have n2_ := Aside0.mk (HQ.out.stays HP.out.ty hk); clear HB HP HQ hb hk hp; have HB := n0_; have HP := n1_; have HQ := n2_; clear n0_ n1_ n2_)
    | (go_at_call 16; refine (pushPT gp 3 [(1, 2), (3, 1)] [(1, 1), (1, 2), (3, 1)] 1 1 w _ HB.out HP.out (by decide) (by decide) (by decide)).mono ?_; rintro e w5 ⟨hb, hk, rfl, hp⟩; have n0_ := Aside0.mk hb; have n1_ := Aside0.mk hp; have n2_ := Aside0.mk (HQ.out.stays HP.out.ty hk); clear HB HP HQ hb hk hp; have HB := n0_; have HP := n1_; have HQ := n2_; clear n0_ n1_ n2_)
    | (go_at_call 11; refine (popPT gp 3 1 1 [(1, 2), (3, 1)] w _ HB.out HP.out (by decide)).mono ?_; rintro e w6 ⟨hb, hk, rfl, hp⟩; have n0_ := Aside0.mk hb; have n1_ := Aside0.mk hp; have n2_ := Aside0.mk (HQ.out.stays HP.out.ty hk); clear HB HP HQ hb hk hp; have HB := n0_; have HP := n1_; have HQ := n2_; clear n0_ n1_ n2_)
    | ((with_reducible refine gate_dst (N := 5) rfl ?_); refine box_event ?hg (N := 5) ?hd (cs := #[.int .i64 0, .int .i64 0]) (t := 34) ?hr ?_; (case hd => rfl); (case hg => rfl); (case hr => first | (go_simp; done) | (go_simp; rfl)); intro g5 hg w7 hbox hb; have n3_ := Aside0.mk (by rw [hg]; exact below_size HB.out : w.heap.size ≤ g5); have n0_ := Aside0.mk (below_step HB.out hb); have n1_ := Aside0.mk ((HP.out.elder g5 (by rw [hg]; exact Nat.le_refl _)).below hb); have n2_ := Aside0.mk (HQ.out.below hb); have n4_ := Aside0.mk hbox; clear HB HP HQ hb hg hbox; have HB := n0_; have HP := n1_; have HQ := n2_; have GE5 := n3_; have BK5 := n4_; clear n0_ n1_ n2_ n3_ n4_; have z0 : w7.cell? ⟨g5, 0, none⟩ = some (.int .i64 0) := (blk_cell BK5.out 0).trans rfl; have z1 : w7.cell? ⟨g5, 1, none⟩ = some (.int .i64 0) := (blk_cell BK5.out 1).trans rfl; have y0 := blk_frozen BK5.out 0; have y1 := blk_frozen BK5.out 1)
    | (go_at_call 13; have n0_ := Aside0.mk (below_set (below_set HB.out GE5.out (j := 0) (v := .int .i64 1)) GE5.out (j := 1) (v := .int .i64 1)); have n1_ := Aside0.mk (blk_put (cs' := #[.int .i64 1, .int .i64 1]) (blk_put (cs' := #[.int .i64 1, .int .i64 0]) BK5.out 0 (.int .i64 1) rfl) 1 (.int .i64 1) rfl); have n2_ := Aside0.mk ((HP.out.far2 ⟨_, BK5.out⟩ (fun k hk => hk.2) (.int .i64 1) (.int .i64 1))); have n3_ := Aside0.mk ((HQ.out.far2 ⟨_, BK5.out⟩ (.int .i64 1) (.int .i64 1))); clear HB BK5 HP HQ z0 z1 y0 y1; have HB := n0_; have BK5 := n1_; have HP := n2_; have HQ := n3_; clear n0_ n1_ n2_ n3_; refine (leastP gp 3 [(1, 2), (3, 1)] _ HP.out).mono ?_; rintro e w8 ⟨rfl, hb⟩; have n0_ := Aside0.mk (below_step HB.out hb); have n1_ := Aside0.mk (blk_below BK5.out hb); have n2_ := Aside0.mk (HP.out.below hb); have n3_ := Aside0.mk (HQ.out.below hb); clear HB BK5 HP HQ hb; have HB := n0_; have BK5 := n1_; have HP := n2_; have HQ := n3_; clear n0_ n1_ n2_ n3_; dsimp only [headS])
    | ((with_reducible refine gate_dst (N := 7) rfl ?_); refine box_event ?hg (N := 7) ?hd (cs := #[.int .i64 0, .int .i64 0]) (t := 34) ?hr ?_; (case hd => rfl); (case hg => rfl); (case hr => first | (go_simp; done) | (go_simp; rfl)); intro g7 hg w9 hbox hb; have n3_ := Aside0.mk (by rw [hg]; exact below_size HB.out : w.heap.size ≤ g7); have n5_ := Aside0.mk (by rw [hg]; exact Nat.ne_of_lt (blk_lt BK5.out) : g5 ≠ g7); have n6_ := Aside0.mk (blk_below BK5.out hb); have n0_ := Aside0.mk (below_step HB.out hb); have n1_ := Aside0.mk ((HP.out.elder g7 (by rw [hg]; exact Nat.le_refl _)).below hb); have n2_ := Aside0.mk (HQ.out.below hb); have n4_ := Aside0.mk hbox; clear HB HP HQ BK5 hb hg hbox; have HB := n0_; have HP := n1_; have HQ := n2_; have GE7 := n3_; have BK7 := n4_; have NE57 := n5_; have BK5 := n6_; clear n0_ n1_ n2_ n3_ n4_ n5_ n6_; have z0 : w9.cell? ⟨g7, 0, none⟩ = some (.int .i64 0) := (blk_cell BK7.out 0).trans rfl; have z1 : w9.cell? ⟨g7, 1, none⟩ = some (.int .i64 0) := (blk_cell BK7.out 1).trans rfl; have y0 := blk_frozen BK7.out 0; have y1 := blk_frozen BK7.out 1)
    | (go_at_call 22; have n0_ := Aside0.mk (below_set (below_set HB.out GE7.out (j := 0) (v := .int .i64 1)) GE7.out (j := 1) (v := .int .i64 2)); have n1_ := Aside0.mk (blk_put (cs' := #[.int .i64 1, .int .i64 2]) (blk_put (cs' := #[.int .i64 1, .int .i64 0]) BK7.out 0 (.int .i64 1) rfl) 1 (.int .i64 2) rfl); have n2_ := Aside0.mk ((HP.out.far2 ⟨_, BK7.out⟩ (fun k hk => hk.2) (.int .i64 1) (.int .i64 2))); have n3_ := Aside0.mk ((HQ.out.far2 ⟨_, BK7.out⟩ (.int .i64 1) (.int .i64 2))); have n4_ := Aside0.mk (blk_far (p := ⟨g7, 1, none⟩) (blk_far (p := ⟨g7, 0, none⟩) BK5.out NE57.out (.int .i64 1)) NE57.out (.int .i64 2)); clear HB BK5 BK7 HP HQ z0 z1 y0 y1; have HB := n0_; have BK7 := n1_; have HP := n2_; have HQ := n3_; have BK5 := n4_; clear n0_ n1_ n2_ n3_ n4_; refine (putQT gq 1 [] 5 w _ HB.out HQ.out 0 [5] (by decide) (by decide)).mono ?_; rintro e w10 ⟨hb, hk, rfl, hp⟩; have n0_ := Aside0.mk hb; have n1_ := Aside0.mk (HP.out.stays HQ.out.ty hk); have n2_ := Aside0.mk (Kept.blk hk BK5.out (fun e => e.elim (fun e => by subst e; exact absurd (HQ.out.ty.one ⟨_, BK5.out⟩) (by decide)) (fun e => absurd (okT_ne e ⟨_, BK5.out⟩) (by decide)))); have n3_ := Aside0.mk (Kept.blk hk BK7.out (fun e => e.elim (fun e => by subst e; exact absurd (HQ.out.ty.one ⟨_, BK7.out⟩) (by decide)) (fun e => absurd (okT_ne e ⟨_, BK7.out⟩) (by decide)))); have n4_ := Aside0.mk hp; clear HB HP HQ BK5 BK7 hb hk hp; have HB := n0_; have HP := n1_; have HQ := n4_; have BK5 := n2_; have BK7 := n3_; clear n0_ n1_ n2_ n3_ n4_)
    | (go_at_call 22; refine (putQT gq 1 [5] 6 w _ HB.out HQ.out 20 [5] (by decide) (by decide)).mono ?_; rintro e w11 ⟨hb, hk, rfl, hp⟩; have n0_ := Aside0.mk hb; have n1_ := Aside0.mk (HP.out.stays HQ.out.ty hk); have n2_ := Aside0.mk (Kept.blk hk BK5.out (fun e => e.elim (fun e => by subst e; exact absurd (HQ.out.ty.one ⟨_, BK5.out⟩) (by decide)) (fun e => absurd (okT_ne e ⟨_, BK5.out⟩) (by decide)))); have n3_ := Aside0.mk (Kept.blk hk BK7.out (fun e => e.elim (fun e => by subst e; exact absurd (HQ.out.ty.one ⟨_, BK7.out⟩) (by decide)) (fun e => absurd (okT_ne e ⟨_, BK7.out⟩) (by decide)))); have n4_ := Aside0.mk hp; clear HB HP HQ BK5 BK7 hb hk hp; have HB := n0_; have HP := n1_; have HQ := n4_; have BK5 := n2_; have BK7 := n3_; clear n0_ n1_ n2_ n3_ n4_)
    | (go_at_call 20; refine (takeQT gq 1 5 [] w _ HB.out HQ.out).mono ?_; rintro e w12 ⟨hb, hk, rfl, hp⟩; have n0_ := Aside0.mk hb; have n1_ := Aside0.mk (HP.out.stays HQ.out.ty hk); have n2_ := Aside0.mk (Kept.blk hk BK5.out (fun e => e.elim (fun e => by subst e; exact absurd (HQ.out.ty.one ⟨_, BK5.out⟩) (by decide)) (fun e => absurd (okT_ne e ⟨_, BK5.out⟩) (by decide)))); have n3_ := Aside0.mk (Kept.blk hk BK7.out (fun e => e.elim (fun e => by subst e; exact absurd (HQ.out.ty.one ⟨_, BK7.out⟩) (by decide)) (fun e => absurd (okT_ne e ⟨_, BK7.out⟩) (by decide)))); have n4_ := Aside0.mk hp; clear HB HP HQ BK5 BK7 hb hk hp; have HB := n0_; have HP := n1_; have HQ := n4_; have BK5 := n2_; have BK7 := n3_; clear n0_ n1_ n2_ n3_ n4_; have z0 : w12.cell? ⟨g5, 0, none⟩ = some (.int .i64 1) := (blk_cell BK5.out 0).trans rfl; have z1 : w12.cell? ⟨g5, 1, none⟩ = some (.int .i64 1) := (blk_cell BK5.out 1).trans rfl; have z2 : w12.cell? ⟨g7, 0, none⟩ = some (.int .i64 1) := (blk_cell BK7.out 0).trans rfl; have z3 : w12.cell? ⟨g7, 1, none⟩ = some (.int .i64 2) := (blk_cell BK7.out 1).trans rfl; have y0 := blk_frozen BK5.out 0; have y1 := blk_frozen BK5.out 1; have y2 := blk_frozen BK7.out 0; have y3 := blk_frozen BK7.out 1)
    | (go_at_call 15; refine (lenP gp 3 [(1, 2), (3, 1)] _ HP.out).mono ?_; rintro e w13 ⟨rfl, rfl⟩)
    | (go_at_call 24; refine (lenQ gq 1 [] _ HQ.out).mono ?_; rintro e w13 ⟨rfl, rfl⟩))
  go_ret
  exact ⟨rfl, HB.out⟩
def ebbtidelaw02_PileRounds.f (_ : Nat) (_ : List Int) (_ : Int) : Option Bool := some true
theorem wi64 (n : Int) : IntKind.i64.wrap n = wrap64 n := by
  simp [IntKind.wrap, IntKind.bits, IntKind.signed, wrap64]; split <;> omega
theorem and_15 (a : Int) : Go.bits .and .i64 a 15 = a % 16 := by
  show IntKind.i64.wrap ((BitVec.ofInt 64 a &&& BitVec.ofInt 64 15).toNat) = _
  have ha : ((BitVec.ofInt 64 a).toNat : Int) = a % 18446744073709551616 := by rw [BitVec.toNat_ofInt]; omega
  have hm : (BitVec.ofInt 64 15).toNat = 2 ^ 4 - 1 := by decide
  rw [wi64, BitVec.toNat_and, hm, Nat.and_two_pow_sub_one_eq_mod]
  unfold wrap64
  omega
theorem rd_nat (l : List Int) (i : Nat) (h : i < l.length) : rd l (i : Int) = l[i] := by
  unfold rd; rw [Int.toNat_natCast, List.getD_eq_getElem?_getD, List.getElem?_eq_getElem h]; rfl
theorem wait_snoc (l : List Int) (a i : Nat) (h : a ≤ i) (hi : i < l.length) : (l.take i).drop a ++ [rd l (i : Int)] = (l.take (i + 1)).drop a := by
  rw [rd_nat l i hi, List.take_succ_eq_append_getElem hi, List.drop_append_of_le_length (by rw [List.length_take]; omega)]
theorem wait_cons (l : List Int) (a i : Nat) (h : a < i) (hi : i ≤ l.length) : (l.take i).drop a = rd l (a : Int) :: (l.take i).drop (a + 1) := by
  rw [rd_nat l a (by omega), List.drop_eq_getElem_cons (by rw [List.length_take]; omega), List.getElem_take]
theorem wait_len (l : List Int) (a i : Nat) (hi : i ≤ l.length) : ((l.take i).drop a).length = i - a := by rw [List.length_drop, List.length_take]; omega
theorem lenQ' {base : Nat} {ok : Nat → Prop} (g : Nat) (most : Int) (c : List Int) (n : Nat) (w : World) (hQ : QState w base ok g most c) (hn : c.length = n) :
    Calls Try.prog 24 #[.pointer (some ⟨g, 0, none⟩)] w fun e w' => e = .returned (.int .i64 (n : Int)) ∧ w' = w := by
  subst hn; exact lenQ g most c w hQ
theorem takeQ0 (g : Nat) (most : Int) (w0 w : World) (hB : Below w0.heap.size w0 w) (hQ : QState w w0.heap.size tt g most []) :
    Calls Try.prog 20 #[.pointer (some ⟨g, 0, none⟩)] w fun e w' => Below w0.heap.size w0 w' ∧ Kept w w' (fun k => k = g ∨ okT w 3 k) ∧ e = .returned (.tuple #[.int .i64 0, .int .i64 21]) ∧ QState w' w0.heap.size tt g most [] := by
  refine (takeQ (okT w 3) g most _ w0 w hB hQ.okT).mono ?_
  rintro e w' ⟨hb, hk, he, hp⟩
  exact ⟨hb, hk, he, hp.mono (fun _ _ => trivial)⟩
set_option maxHeartbeats 8000000 in
set_option maxRecDepth 100000 in
theorem ebbtidelaw02_PileRounds.calls (k : Nat) (A0 : Option Addr) (c0 : Nat) (l0 : List Int) (n1 : Int) (r : Bool) (w : World) (hr0 : Kd.C (Kd.int .i64) w A0 l0.length l0) (hc0 : l0.length ≤ c0) (h : ebbtidelaw02_PileRounds.f k l0 n1 = some r) (hrt : r = true := by first | rfl | exact HRT.out | assumption) :
    Calls Try.prog 5 #[.slice A0 l0.length c0, .int .i64 n1] w fun e w' => e = .returned (.bool r) ∧ Below w.heap.size w w' := by
  subst hrt
  have HR0 := Aside0.mk hr0
  have HC0 := Aside0.mk hc0
  have HB := Aside0.mk (Below.refl w.heap.size w)
  clear hr0 hc0 h
  by_cases c : l0.length > 200
  · have c1 : decide (200 < (l0.length : Int)) = true := decide_eq_true (by omega)
    have c2 : decide (200 < l0.length) = true := decide_eq_true c
    clear c
    go_enter Try.func5, Try.ntmps5
    go_wp2_with (go_at_call 8; refine (ebbtidelaw02_awake.calls 0 true _ rfl).mono ?_; rintro e w4 ⟨rfl, hb⟩; have n0_ := Aside0.mk (below_step HB.out hb); clear HB hb; have HB := n0_; clear n0_)
    go_ret
    exact ⟨rfl, HB.out⟩
  · have c1 : decide (200 < (l0.length : Int)) = false := decide_eq_false (by omega)
    have c2 : decide (200 < l0.length) = false := decide_eq_false c
    have HLN : Aside0 (l0.length ≤ 200) := ⟨by omega⟩
    clear c
    obtain ⟨K, hK⟩ : ∃ K, wrap64 (1 + bits BinOp.and IntKind.i64 n1 15) = K := ⟨_, rfl⟩
    have HKB : Aside0 (1 ≤ K ∧ K ≤ 16) := ⟨by rw [← hK, and_15]; unfold wrap64; omega⟩
    go_enter Try.func5, Try.ntmps5
    go_wp2_with (first
      | (go_at_call 8; refine (ebbtidelaw02_awake.calls 0 true _ rfl).mono ?_; rintro e w4 ⟨rfl, hb⟩; have n0_ := Aside0.mk (below_step HB.out hb); clear HB hb; have HB := n0_; clear n0_)
      | (go_at_call 18; refine (newQ K _ (by have := HKB.out; omega) (by have := HKB.out; omega)).mono ?_; rintro e w2 ⟨hb, gq, rfl, hq⟩; have n2_ := Aside0.mk (hq.lower (below_size HB.out)); have n0_ := Aside0.mk (below_step HB.out hb); clear HB hb hq; have HB := n0_; have HQ := n2_; clear n0_ n2_))
    clear c1 c2 hK
    go_loopg [9, 10] l0.length (fun kq v9 v10 w' => ∃ (a i : Nat), v9 = .int .i64 (a : Int) ∧ v10 = .int .i64 (i : Int) ∧ Aside0 (i + kq = l0.length ∧ a ≤ i) ∧ Aside0 (Below w.heap.size w w') ∧ Aside0 (QState w' w.heap.size tt gq K ((l0.take i).drop a)))
    case atStart => exact ⟨0, 0, rfl, rfl, ⟨by omega, by omega⟩, HB, HQ⟩
    case round =>
      clear HB HQ
      obtain ⟨a, i, rfl, rfl, HI, HB, HQ⟩ := hrel
      cases gk with
      | zero =>
        have c1 : decide ((i : Int) < (l0.length : Int)) = false := decide_eq_false (by have := HI.out; omega)
        have c2 : decide (i < l0.length) = false := decide_eq_false (by have := HI.out; omega)
        have HQ2 : Aside0 (QState wr w.heap.size tt gq K (l0.drop a)) := ⟨by have h_ := HQ.out; rw [show i = l0.length by have := HI.out; omega, List.take_length] at h_; exact h_⟩
        have HA : Aside0 (a ≤ l0.length) := ⟨by have := HI.out; omega⟩
        clear HQ
        go_wp2
        clear c1 c2 HI
        go_loopg [9] (l0.length - a) (fun kq v9 w' => ∃ (a : Nat), v9 = .int .i64 (a : Int) ∧ Aside0 (a + kq = l0.length) ∧ Aside0 (Below w.heap.size w w') ∧ Aside0 (QState w' w.heap.size tt gq K (l0.drop a)))
        case atStart => exact ⟨a, rfl, ⟨by have := HA.out; omega⟩, HB, HQ2⟩
        case round =>
          clear HB HQ2 HA
          obtain ⟨b, rfl, HJ, HB, HQ⟩ := hrel
          cases gk with
          | zero =>
            have c1 : decide ((b : Int) < (l0.length : Int)) = false := decide_eq_false (by have := HJ.out; omega)
            have c2 : decide (b < l0.length) = false := decide_eq_false (by have := HJ.out; omega)
            have HQ2 : Aside0 (QState wr w.heap.size tt gq K []) := ⟨by have h_ := HQ.out; rw [show b = l0.length by have := HJ.out; omega, List.drop_length] at h_; exact h_⟩
            clear HQ
            have HQ := HQ2
            clear HQ2
            go_wp2_with (first
              | (go_at_call 20; refine (takeQ0 gq K w _ HB.out HQ.out).mono ?_; rintro e w6 ⟨hb, hk, rfl, hp⟩; have n0_ := Aside0.mk hb; have n1_ := Aside0.mk hp; clear HB HQ hb hk hp; have HB := n0_; have HQ := n1_; clear n0_ n1_)
              | (go_at_call 24; refine (lenQ' gq K [] 0 _ HQ.out rfl).mono ?_; rintro e w7 ⟨rfl, rfl⟩))
            go_ret
            exact ⟨rfl, HB.out⟩
          | succ gk =>
            have HLT : Aside0 (b < l0.length) := ⟨by have := HJ.out; omega⟩
            have c1 : decide ((b : Int) < (l0.length : Int)) = true := decide_eq_true (by have := HJ.out; omega)
            have c2 : decide (b < l0.length) = true := decide_eq_true (by have := HJ.out; omega)
            have HQ2 : Aside0 (QState wr w.heap.size tt gq K (rd l0 (b : Int) :: l0.drop (b + 1))) := ⟨by have h_ := HQ.out; rw [List.drop_eq_getElem_cons HLT.out, ← rd_nat l0 b HLT.out] at h_; exact h_⟩
            clear HQ
            have HQ := HQ2
            clear HQ2
            have p1 := eq_true (show (0 : Int) ≤ (b : Int) by omega)
            have p2 := eq_true (show (b : Int) < (l0.length : Int) by have := HJ.out; omega)
            have hwb : wrap64 ((b : Int) + 1) = ((b + 1 : Nat) : Int) := wrapId (by omega) (by have := HJ.out; have := HLN.out; omega)
            have HWB := Aside0.mk hwb
            clear hwb
            obtain ⟨x, hx⟩ : ∃ x, rd l0 (b : Int) = x := ⟨_, rfl⟩
            rw [hx] at HQ
            have HX := Aside0.mk hx
            clear hx
            go_wp2_with (go_at_call 20; refine (takeQT gq K x _ w _ HB.out HQ.out).mono ?_; rintro e w6 ⟨hb, hk, rfl, hp⟩; have n0_ := Aside0.mk hb; have n1_ := Aside0.mk hp; clear HB HQ hb hk hp; have HB := n0_; have HQ := n1_; clear n0_ n1_; have hcb := Kd.at_int (Kd.C_below HR0.out HB.out) (b : Int) (by omega) (by have := HJ.out; omega); rw [HX.out] at hcb; obtain ⟨ad, ea, hxa⟩ := hcb; have EA := Aside0.mk ea; have hxb : w6.cell? (ad.add b) = some (.int .i64 x) := (by simpa using hxa); clear hxa; cases ea; clear EA)
            clear c1 c2 p1 p2
            go_roundg gk
            case measure => omega
            case rel => exact ⟨b + 1, congrArg (Value.int .i64) HWB.out, ⟨by have := HJ.out; omega⟩, HB, HQ⟩
      | succ gk =>
        have HLT : Aside0 (i < l0.length) := ⟨by have := HI.out; omega⟩
        have c1 : decide ((i : Int) < (l0.length : Int)) = true := decide_eq_true (by have := HI.out; omega)
        have c2 : decide (i < l0.length) = true := decide_eq_true (by have := HI.out; omega)
        have p1 := eq_true (show (0 : Int) ≤ (i : Int) by omega)
        have p2 := eq_true (show (i : Int) < (l0.length : Int) by have := HI.out; omega)
        have p3 := eq_true (show (0 : Int) ≤ (a : Int) by omega)
        have p4 := eq_true (show (a : Int) < (l0.length : Int) by have := HI.out; omega)
        have hwi : wrap64 ((i : Int) + 1) = ((i + 1 : Nat) : Int) := wrapId (by omega) (by have := HI.out; have := HLN.out; omega)
        have hwa : wrap64 ((a : Int) + 1) = ((a + 1 : Nat) : Int) := wrapId (by omega) (by have := HI.out; have := HLN.out; omega)
        have HWI := Aside0.mk hwi
        have HWA := Aside0.mk hwa
        clear hwi hwa
        obtain ⟨n, hn⟩ : ∃ n, i - a = n := ⟨_, rfl⟩
        have HN := Aside0.mk hn
        clear hn
        have HCL : Aside0 (((l0.take i).drop a).length = n) := ⟨by rw [wait_len l0 a i (by have := HI.out; omega)]; exact HN.out⟩
        obtain ⟨x, hx⟩ : ∃ x, rd l0 (a : Int) = x := ⟨_, rfl⟩
        obtain ⟨y, hy⟩ : ∃ y, rd l0 (i : Int) = y := ⟨_, rfl⟩
        have HX := Aside0.mk hx
        have HY := Aside0.mk hy
        clear hx hy
        obtain ⟨bb, hb1⟩ : ∃ b, decide ((n : Int) = K) = b := ⟨_, rfl⟩
        have hb2 : ((n : Int) == K) = bb := by rw [← hb1, Bool.beq_eq_decide_eq]
        cases bb
        · have HNE : Aside0 (¬ (n : Int) = K) := ⟨of_decide_eq_false hb1⟩
          go_wp2_with (first
            | (go_at_call 24; refine (lenQ' gq K _ n _ HQ.out HCL.out).mono ?_; rintro e w7 ⟨rfl, rfl⟩; have hci := Kd.at_int (Kd.C_below HR0.out HB.out) (i : Int) (by omega) (by have := HLT.out; omega); rw [HY.out] at hci; obtain ⟨ad, ea, hxa⟩ := hci; have hxi : Go.World.cell? _ (ad.add i) = some (.int .i64 y) := (by simpa using hxa); clear hxa; cases ea)
            | (go_at_call 22; refine (putQT gq K _ y w _ HB.out HQ.out 0 ((l0.take (i + 1)).drop a) (by rw [HCL.out, if_neg HNE.out]) (by rw [HCL.out, if_neg HNE.out, ← HY.out]; exact wait_snoc l0 a i HI.out.2 HLT.out)).mono ?_; rintro e w8 ⟨hb, hk, rfl, hp⟩; clear hxi; have n0_ := Aside0.mk hb; have n1_ := Aside0.mk hp; clear HB HQ hb hk hp; have HB := n0_; have HQ := n1_; clear n0_ n1_))
          clear c1 c2 p1 p2 p3 p4 hb1 hb2
          go_roundg gk
          case measure => omega
          case rel => exact ⟨a, i + 1, rfl, congrArg (Value.int .i64) HWI.out, ⟨by have := HI.out; omega, by have := HI.out; omega⟩, HB, HQ⟩
        · have HEQ : Aside0 ((n : Int) = K) := ⟨of_decide_eq_true hb1⟩
          have HAI : Aside0 (a < i) := ⟨by have := HEQ.out; have := HKB.out; have := HN.out; omega⟩
          have HQ2 : Aside0 (QState wr w.heap.size tt gq K (x :: (l0.take i).drop (a + 1))) := ⟨by have h_ := HQ.out; rw [wait_cons l0 a i HAI.out (Nat.le_of_lt HLT.out), HX.out] at h_; exact h_⟩
          have HCL2 : Aside0 ((x :: (l0.take i).drop (a + 1)).length = n) := ⟨by have h_ := HCL.out; rw [wait_cons l0 a i HAI.out (Nat.le_of_lt HLT.out), HX.out] at h_; exact h_⟩
          clear HQ HCL
          have HQ := HQ2
          clear HQ2
          go_wp2_with (first
            | (go_at_call 24; refine (lenQ' gq K _ n _ HQ.out HCL2.out).mono ?_; rintro e w7 ⟨rfl, rfl⟩)
            | (go_at_call 20; refine (takeQT gq K x _ w _ HB.out HQ.out).mono ?_; rintro e w6 ⟨hb, hk, rfl, hp⟩; have n0_ := Aside0.mk hb; have n1_ := Aside0.mk hp; clear HB HQ hb hk hp; have HB := n0_; have HQ := n1_; clear n0_ n1_; have hci := Kd.at_int (Kd.C_below HR0.out HB.out) (i : Int) (by omega) (by have := HLT.out; omega); rw [HY.out] at hci; have hca := Kd.at_int (Kd.C_below HR0.out HB.out) (a : Int) (by omega) (by have := HLT.out; have := HAI.out; omega); rw [HX.out] at hca; obtain ⟨ad, ea, hxa⟩ := hci; obtain ⟨ad2, ea2, hxa2⟩ := hca; have hxi : w6.cell? (ad.add i) = some (.int .i64 y) := (by simpa using hxa); have hea : ad = ad2 := Option.some.inj (ea.symm.trans ea2); subst hea; have hxj : w6.cell? (ad.add a) = some (.int .i64 x) := (by simpa using hxa2); clear hxa hxa2 ea2; cases ea)
            | (go_at_call 22; refine (putQT gq K _ y w _ HB.out HQ.out 0 ((l0.take (i + 1)).drop (a + 1)) (by rw [if_neg (by have h1_ := HCL2.out; have h2_ := HEQ.out; simp only [List.length_cons] at h1_; omega)]) (by rw [if_neg (by have h1_ := HCL2.out; have h2_ := HEQ.out; simp only [List.length_cons] at h1_; omega), ← HY.out]; exact wait_snoc l0 (a + 1) i HAI.out HLT.out)).mono ?_; rintro e w8 ⟨hb, hk, rfl, hp⟩; clear hxi hxj; have n0_ := Aside0.mk hb; have n1_ := Aside0.mk hp; clear HB HQ hb hk hp; have HB := n0_; have HQ := n1_; clear n0_ n1_))
          clear c1 c2 p1 p2 p3 p4 hb1 hb2
          go_roundg gk
          case measure => omega
          case rel => exact ⟨a + 1, i + 1, congrArg (Value.int .i64) HWA.out, congrArg (Value.int .i64) HWI.out, ⟨by have := HI.out; omega, by have := HAI.out; omega⟩, HB, HQ⟩
end Go.Proofs.Ytloebciamfbjfaa.Q
end
section
namespace Go.Proofs.Ytloebciamfbjfaa.R
open Go.RowKit Go.Proofs.Ytloebciamfbjfaa.Q Go.Proofs.YtloebciamfbjfaaW.PrintWords Go.Proofs.YtloebciamfbjfaaW.PrintLast Go.Proofs.YtloebciamfbjfaaW.PrintMore
open Go.ChangeShapes Go.WideShapes Go.Deep
def Reads (t : TypeId) {α : Type} (d : Kd α) (G : Nat → α → Prop) : Prop :=
  ∀ {H : Type} (enc : TypeId × Value → H) (w : World) (base : Nat) (spare : Nat → Bool) (held : Bool) (fuel : Nat) (cs : List Value) (x : DataW H × List MemPlace),
    DataW.trod enc Try.prog w base spare held fuel t cs = some x → ∃ a, d.K w a cs ∧ ∀ N, Rows.uptoBulk x.1 ≤ N → G N a
def gInt (k : IntKind) (_ : Nat) (n : Int) : Prop := (Lit.int k n).wf = true
def gList {α : Type} (G : Nat → α → Prop) (N : Nat) (l : List α) : Prop := l.length ≤ maxLen ∧ l.length ≤ N ∧ ∀ x ∈ l, G N x
theorem readsInt {t : TypeId} {k : IntKind} (ht : Try.prog.underlying t = some (.int k)) : Reads t (Kd.int k) (gInt k) := by
  intro H enc w base spare held fuel cs x h
  obtain ⟨n, rfl, rfl, hw⟩ := DataW.trod_int ht h
  exact ⟨n, rfl, fun _ _ => hw⟩
theorem one_le {H : Type} (d : DataW H) : 1 ≤ Rows.uptoBulk d := by
  cases d with
  | lit l => cases l <;> simp [Rows.uptoBulk]
  | nil => simp [Rows.uptoBulk]
  | ptr d => simp [Rows.uptoBulk]
  | slice elems spare => simp [Rows.uptoBulk]
  | agg parts => simp [Rows.uptoBulk]
  | iface t d => simp [Rows.uptoBulk]
  | map entries => simp [Rows.uptoBulk]
  | held h => simp [Rows.uptoBulk]
theorem part_le {H : Type} {d : DataW H} {l : List (DataW H)} (h : d ∈ l) : Rows.uptoBulk d ≤ Rows.uptoBulkAll l := by
  induction l with
  | nil => cases h
  | cons x r ih =>
    simp only [Rows.uptoBulkAll]
    cases List.mem_cons.1 h with
    | inl e => subst e; omega
    | inr e => have := ih e; omega
theorem length_le {H : Type} (l : List (DataW H)) : l.length ≤ Rows.uptoBulkAll l := by
  induction l with
  | nil => simp [Rows.uptoBulkAll]
  | cons x r ih => have := one_le x; simp only [Rows.uptoBulkAll, List.length_cons]; omega
theorem readsSlice {t e : TypeId} {α : Type} [Inhabited α] {d : Kd α} {G : Nat → α → Prop} (ht : Try.prog.underlying t = some (.slice e)) (hc : Try.prog.cellsOf e = d.sz) (R : Reads e d G) : Reads t (Kd.slice e d) (gList G) := by
  intro H enc w base spare held fuel cs x h
  rcases open_slice ht h with ⟨rfl, rfl⟩ | ⟨a, len, cap, m, n, D, Pl, rfl, hb, hl, hm, hmm, rfl, hx⟩
  · exact ⟨[], ⟨none, 0, rfl, Nat.le_refl _, Kd.C_nil d w⟩, fun N _ => ⟨Nat.zero_le _, Nat.zero_le _, fun x hx => by cases hx⟩⟩
  · have hlm : len ≤ m := by rw [hmm]; split <;> omega
    obtain ⟨f, hf⟩ := choose_lt (α := α) (n := m) (p := fun i y => ∃ c, c.length = d.sz ∧ d.K w y c ∧ (∀ j u, c[j]? = some u → w.cell? (a.add (i * d.sz + j)) = some u) ∧ ∀ N, Rows.uptoBulk (D i) ≤ N → G N y) (fun i hi => by
      obtain ⟨c, h1, h2⟩ := hx i hi
      obtain ⟨y, hK, hG⟩ := R enc w base spare held n c _ h2
      obtain ⟨_, hlen, hcell⟩ := World.cells?_some h1
      rw [hc] at hlen hcell
      refine ⟨y, c, hlen, hK, fun j u hu => ?_, hG⟩
      have hj : j < d.sz := by rw [← hlen]; exact (List.getElem?_eq_some_iff.1 hu).1
      have := hcell j hj
      rw [Deep.add_add] at this
      rw [this, hu])
    have hL : ((List.range len).map f).length = len := by simp
    refine ⟨(List.range len).map f, ⟨some a, cap, by rw [hL], by rw [hL]; exact hl, ?_⟩, fun N hN => ?_⟩
    · refine ⟨rfl, by rw [hL]; exact Nat.le_trans hl (Nat.le_trans hm (by decide)), fun _ => ⟨a, rfl, fun j p hj => ?_⟩⟩
      have hjl : j < len := by
        have := (List.getElem?_eq_some_iff.1 hj).1
        rwa [hL] at this
      have hp : f j = p := by
        rw [List.getElem?_map, List.getElem?_range hjl] at hj
        exact Option.some.inj hj
      obtain ⟨c, h1, h2, h3, _⟩ := hf j (by omega)
      rw [hp] at h2
      exact ⟨c, h1, h2, h3⟩
    · have hbulk : Rows.uptoBulkAll ((List.range len).map D) ≤ N := by
        simp only [Rows.uptoBulk] at hN
        omega
      refine ⟨by rw [hL]; omega, by rw [hL]; have := length_le ((List.range len).map D); simp at this; omega, fun y hy => ?_⟩
      obtain ⟨i, hi, rfl⟩ := List.mem_map.1 hy
      have hi' := List.mem_range.1 hi
      obtain ⟨c, _, _, _, hG⟩ := hf i (by omega)
      exact hG N (Nat.le_trans (part_le (List.mem_map.2 ⟨i, hi, rfl⟩)) hbulk)
end Go.Proofs.Ytloebciamfbjfaa.R
end
section
namespace Go.Proofs.Ytloebciamfbjfaa.R
open Go.RowKit Go.Proofs.Ytloebciamfbjfaa.Q Go.Proofs.YtloebciamfbjfaaW.PrintWords Go.Proofs.YtloebciamfbjfaaW.PrintLast Go.Proofs.YtloebciamfbjfaaW.PrintMore
def PileRounds.Pure : Prop := ∀ N0 : Nat, ∀ N1 : Nat, ∀ (x0 : List Int) (x1 : Int), gList (gInt .i64) N0 x0 → gInt .i64 N1 x1 → ∃ k, ebbtidelaw02_PileRounds.f k x0 x1 = some true
end Go.Proofs.Ytloebciamfbjfaa.R
end
section
namespace Go.Proofs.Ytloebciamfbjfaa.Pure
open Go.RowKit Go.Proofs.Ytloebciamfbjfaa.Q Go.Proofs.YtloebciamfbjfaaW.PrintWords Go.Proofs.YtloebciamfbjfaaW.PrintLast Go.Proofs.YtloebciamfbjfaaW.PrintMore
open Go.Proofs.Ytloebciamfbjfaa.R
theorem PileRounds : PileRounds.Pure := fun _ _ _ _ _ _ => ⟨0, rfl⟩
end Go.Proofs.Ytloebciamfbjfaa.Pure
end
