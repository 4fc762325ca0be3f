/- A part of the proof: words, contracts, plain lemmas. Conditions: none. -/
import Derived.Test.YtgjgckpdilbbjaaZAdjSteps6
import Derived.Test.YtgjgckpdilbbjaaZAdjSteps8
import Derived.Test.YtgjgckpdilbbjaaZAdjSteps3
section
namespace Go.Proofs.Ytgjgckpdilbbjaa.Q
open Go.RowKit Go.Proofs.Ytgjgckpdilbbjaa.P Go.Proofs.YtgjgckpdilbbjaaW.PrintWords Go.Proofs.YtgjgckpdilbbjaaW.PrintLast Go.Proofs.YtgjgckpdilbbjaaW.PrintMore
set_option linter.unusedVariables false
set_option linter.unusedSimpArgs false
def Sorted2 (s : List (Int × Int)) : Prop := s.Pairwise (fun a b => ¬ plt b a)
def ins (x : Int × Int) : List (Int × Int) → List (Int × Int)
  | [] => [x]
  | y :: s => if plt y x then y :: ins x s else x :: y :: s
theorem sorted2_nil : Sorted2 [] := List.Pairwise.nil
theorem ins_perm (x : Int × Int) : ∀ s, (ins x s).Perm (x :: s)
  | [] => List.Perm.refl _
  | y :: s => by
    unfold ins
    split
    · exact (List.Perm.cons y (ins_perm x s)).trans (List.Perm.swap x y s)
    · exact List.Perm.refl _
theorem ins_length (x : Int × Int) (s : List (Int × Int)) : (ins x s).length = s.length + 1 := (ins_perm x s).length_eq
theorem ins_sorted (x : Int × Int) : ∀ s, Sorted2 s → Sorted2 (ins x s)
  | [], _ => List.pairwise_singleton _ _
  | y :: s, h => by
    unfold ins
    obtain ⟨h1, h2⟩ := List.pairwise_cons.1 h
    split
    · rename_i c
      refine List.pairwise_cons.2 ⟨fun z hz => ?_, ins_sorted x s h2⟩
      rcases List.mem_cons.1 ((ins_perm x s).mem_iff.1 hz) with rfl | hz
      · exact plt_asym c
      · exact h1 z hz
    · rename_i c
      refine List.pairwise_cons.2 ⟨fun z hz => ?_, h⟩
      rcases List.mem_cons.1 hz with rfl | hz
      · exact c
      · exact plt_ntrans (h1 z hz) c
def headS (s : List (Int × Int)) : Int × Int × Int := match s with | [] => (0, 0, 21) | x :: _ => (x.1, x.2, 0)
theorem least_head {l : List S58} {s : List (Int × Int)} (hH : Heaped l.length (fA l)) (hs : Sorted2 s) (hp : (l.map pr).Perm s) : leastL l = headS s ∧ (∀ x r, l = x :: r → ∃ t, s = pr x :: t) := by
  cases l with
  | nil => rw [List.map_nil, List.nil_perm] at hp; subst hp; exact ⟨rfl, fun _ _ h => by cases h⟩
  | cons x r =>
    cases s with
    | nil => cases List.perm_nil.1 hp
    | cons y t =>
      have e : pr x = y := by
        have h0 : ∀ z, z ∈ (x :: r).map pr → ¬ plt z (pr x) := by
          intro z hz
          obtain ⟨j, hj, rfl⟩ := List.mem_iff_getElem.1 hz
          rw [List.length_map] at hj
          have := heaped_least hH j hj
          rw [fA_get hj, fA_get (show 0 < (x :: r).length by simp)] at this
          rw [List.getElem_map]
          exact this
        have h1 := h0 y (hp.mem_iff.2 List.mem_cons_self)
        rcases List.mem_cons.1 (hp.mem_iff.1 (show pr x ∈ (x :: r).map pr from List.mem_cons_self)) with e | hx
        · exact e
        · exact plt_total ((List.pairwise_cons.1 hs).1 _ hx) h1
      subst e
      exact ⟨rfl, fun x' r' h => by cases h; exact ⟨t, rfl⟩⟩
def PState (w : World) (base : Nat) (ok : Nat → Prop) (g : Nat) (most : Int) (s : List (Int × Int)) : Prop :=
  ∃ v l, PileC w base ok g most v l ∧ Heaped l.length (fA l) ∧ Sorted2 s ∧ (l.map pr).Perm s
def QState (w : World) (base : Nat) (ok : Nat → Prop) (g : Nat) (most : Int) (c : List Int) : Prop :=
  ∃ v zs f s, QueueC w base ok g most v zs f s ∧ content zs f s = c ∧ zs.length ≤ 131076 ∧ (s : Int) ≤ most ∧ most ≤ 65536
def Ty (w : World) (t k : Nat) : Prop := ∃ cells, w.heap[k]? = some (.cells cells t (0, 0))
theorem Ty.lt {w : World} {t k : Nat} (h : Ty w t k) : k < w.heap.size := by obtain ⟨c, h⟩ := h; exact blk_lt h
section
variable {w w1 : World} {base : Nat} {ok ok' : Nat → Prop} {g : Nat} {most : Int} {s : List (Int × Int)} {c : List Int}
theorem PState.below (h : PState w base ok g most s) (hb : Below w.heap.size w w1) : PState w1 base ok g most s := by obtain ⟨v, l, h, k⟩ := h; exact ⟨v, l, h.below hb, k⟩
theorem PState.mono (h : PState w base ok g most s) (hk : ∀ k, ok k → ok' k) : PState w base ok' g most s := by obtain ⟨v, l, h, k⟩ := h; exact ⟨v, l, h.mono hk, k⟩
theorem PState.lower {base' : Nat} (h : PState w base ok g most s) (hb : base' ≤ base) : PState w base' ok g most s := by obtain ⟨v, l, h, k⟩ := h; exact ⟨v, l, h.lower hb, k⟩
theorem PState.kept {S : Nat → Prop} (h : PState w base ok g most s) (hk : Kept w w1 S) (hg : ¬ S g) (ho : ∀ k, ok k → ¬ S k) : PState w1 base ok g most s := by obtain ⟨v, l, h, k⟩ := h; exact ⟨v, l, h.kept hk hg ho, k⟩
theorem PState.ty (h : PState w base ok g most s) : Ty w 72 g := by obtain ⟨v, l, h, k⟩ := h; exact ⟨_, h.blk⟩
theorem PState.ge (h : PState w base ok g most s) : base ≤ g := by obtain ⟨v, l, h, k⟩ := h; exact h.ge
theorem QState.mono (h : QState w base ok g most c) (hk : ∀ k, ok k → ok' k) : QState w base ok' g most c := by obtain ⟨v, zs, f, s, h, k⟩ := h; exact ⟨v, zs, f, s, h.mono hk, k⟩
theorem QState.lower {base' : Nat} (h : QState w base ok g most c) (hb : base' ≤ base) : QState w base' ok g most c := by obtain ⟨v, zs, f, s, h, k⟩ := h; exact ⟨v, zs, f, s, h.lower hb, k⟩
theorem QState.kept {S : Nat → Prop} (h : QState w base ok g most c) (hk : Kept w w1 S) (hg : ¬ S g) (ho : ∀ k, ok k → ¬ S k) : QState w1 base ok g most c := by obtain ⟨v, zs, f, s, h, k⟩ := h; exact ⟨v, zs, f, s, h.kept hk hg ho, k⟩
theorem QState.ge (h : QState w base ok g most c) : base ≤ g := by obtain ⟨v, zs, f, s, h, k⟩ := h; exact h.ge
end
theorem newP (most : Int) (w : World) (h0 : 0 ≤ most) (h1 : most ≤ 65536) :
    Calls Try.prog 34 #[.int .i64 most] w fun e w' => Below w.heap.size w w' ∧ ∃ g, e = .returned (.tuple #[.pointer (some ⟨g, 0, none⟩), .int .i64 0]) ∧ PState w' w.heap.size (fun _ => True) g most [] := by
  refine (Pile_New.calls most w).mono ?_
  rintro e w' ⟨hb, h⟩
  rw [if_pos ⟨h0, h1⟩] at h
  obtain ⟨g, he, hp⟩ := h
  exact ⟨hb, g, he, _, _, hp, (fun j _ hj => absurd hj (Nat.not_lt_zero j)), sorted2_nil, List.Perm.refl _⟩
theorem newQ (most : Int) (w : World) (h0 : 0 ≤ most) (h1 : most ≤ 65536) :
    Calls Try.prog 28 #[.int .i64 most] w fun e w' => Below w.heap.size w w' ∧ ∃ g, e = .returned (.tuple #[.pointer (some ⟨g, 0, none⟩), .int .i64 0]) ∧ QState w' w.heap.size (fun _ => True) g most [] := by
  refine (Queue_New.calls most w).mono ?_
  rintro e w' ⟨hb, h⟩
  rw [if_pos ⟨h0, h1⟩] at h
  obtain ⟨g, he, hp⟩ := h
  exact ⟨hb, g, he, _, _, _, _, hp, rfl, by simp, h0, h1⟩
theorem pushP (ok : Nat → Prop) (g : Nat) (most : Int) (s : List (Int × Int)) (x0 x1 : Int) (w0 w : World) (hB : Below w0.heap.size w0 w) (hP : PState w w0.heap.size ok g most s) (hfresh : ∀ k, w.heap.size ≤ k → ok k) (hl : s.length ≤ 65536) :
    Calls Try.prog 35 #[.pointer (some ⟨g, 0, none⟩), .agg #[.int .i64 x0, .int .i64 x1]] w fun e w' => Below w0.heap.size w0 w' ∧ Kept w w' (fun k => k = g ∨ ok k) ∧ e = .returned (.int .i64 (if (s.length : Int) = most then 20 else 0)) ∧ PState w' w0.heap.size ok g most (if (s.length : Int) = most then s else ins (x0, x1) s) := by
  obtain ⟨v, l, hP, hH, hs, hp⟩ := hP
  have hlen : l.length = s.length := by rw [← hp.length_eq, List.length_map]
  refine (Pile_Push.calls ok g most v l x0 x1 w0 w hB hP hfresh (by omega) hH).mono ?_
  rintro e w' ⟨hb, hk, h⟩
  rw [hlen] at h
  refine ⟨hb, hk, ?_⟩
  by_cases c : (s.length : Int) = most
  · rw [if_pos c] at h
    rw [if_pos c, if_pos c]
    exact ⟨h.1, v, l, h.2, hH, hs, hp⟩
  · rw [if_neg c] at h
    rw [if_neg c, if_neg c]
    obtain ⟨he, v', l', hq, hH', hp'⟩ := h
    exact ⟨he, v', l', hq, hH', ins_sorted _ _ hs, ((hp'.map pr).trans (List.Perm.cons _ hp)).trans (ins_perm _ _).symm⟩
theorem popP (ok : Nat → Prop) (g : Nat) (most : Int) (s : List (Int × Int)) (w0 w : World) (hB : Below w0.heap.size w0 w) (hP : PState w w0.heap.size ok g most s) (hl : s.length ≤ 65536) :
    Calls Try.prog 37 #[.pointer (some ⟨g, 0, none⟩)] w fun e w' => Below w0.heap.size w0 w' ∧ Kept w w' (fun k => k = g ∨ ok k) ∧ e = .returned (.tuple #[.agg #[.int .i64 (headS s).1, .int .i64 (headS s).2.1], .int .i64 (headS s).2.2]) ∧ PState w' w0.heap.size ok g most s.tail := by
  obtain ⟨v, l, hP, hH, hs, hp⟩ := hP
  have hlen : l.length = s.length := by rw [← hp.length_eq, List.length_map]
  refine (Pile_Pop.calls ok g most v l w0 w hB hP (by omega) hH).mono ?_
  rintro e w' ⟨hb, hk, he, v', l', hq, hH', hr⟩
  obtain ⟨h1, h2⟩ := least_head hH hs hp
  rw [h1] at he
  refine ⟨hb, hk, he, v', l', hq, hH', hs.tail, ?_⟩
  cases l with
  | nil => rw [List.map_nil, List.nil_perm] at hp; subst hp; rw [show l' = [] from hr]; exact List.Perm.refl _
  | cons x r =>
    obtain ⟨t, rfl⟩ := h2 x r rfl
    exact List.Perm.cons_inv ((List.Perm.map pr (show (x :: l').Perm (x :: r) from hr)).trans hp)
theorem lenP {base : Nat} {ok : Nat → Prop} (g : Nat) (most : Int) (s : List (Int × Int)) (w : World) (hP : PState w base ok g most s) :
    Calls Try.prog 36 #[.pointer (some ⟨g, 0, none⟩)] w fun e w' => e = .returned (.int .i64 (s.length : Int)) ∧ w' = w := by
  obtain ⟨v, l, hP, hH, hs, hp⟩ := hP
  have h := Pile_Len.calls g most v l w hP
  rw [show l.length = s.length by rw [← hp.length_eq, List.length_map]] at h
  exact h
theorem lenQ {base : Nat} {ok : Nat → Prop} (g : Nat) (most : Int) (c : List Int) (w : World) (hQ : QState w base ok g most c) :
    Calls Try.prog 30 #[.pointer (some ⟨g, 0, none⟩)] w fun e w' => e = .returned (.int .i64 (c.length : Int)) ∧ w' = w := by
  obtain ⟨v, zs, f, s, hQ, rfl, _⟩ := hQ
  have h := Queue_Len.calls g most v zs f s w hQ
  rw [content_length]
  exact h
def headQ (c : List Int) : Int × Int := match c with | [] => (0, 21) | x :: _ => (x, 0)
theorem takeQ (ok : Nat → Prop) (g : Nat) (most : Int) (c : List Int) (w0 w : World) (hB : Below w0.heap.size w0 w) (hQ : QState w w0.heap.size ok g most c) :
    Calls Try.prog 31 #[.pointer (some ⟨g, 0, none⟩)] w fun e w' => Below w0.heap.size w0 w' ∧ Kept w w' (fun k => k = g ∨ ok k) ∧ e = .returned (.tuple #[.int .i64 (headQ c).1, .int .i64 (headQ c).2]) ∧ QState w' w0.heap.size ok g most c.tail := by
  obtain ⟨v, zs, f, s, hQ, rfl, h1, h2, h3⟩ := hQ
  refine (Queue_Take.calls ok g most v zs f s w0 w hB hQ (by omega)).mono ?_
  rintro e w' ⟨hb, hk, h⟩
  refine ⟨hb, hk, ?_⟩
  cases s with
  | zero =>
    rw [if_pos rfl] at h
    exact ⟨h.1, v, zs, f, 0, h.2, rfl, h1, h2, h3⟩
  | succ s =>
    rw [if_neg (Nat.succ_ne_zero s)] at h
    have hsl := hQ.sl
    have hf : f < zs.length := by rcases hQ.fl with h | h; (exact h); (rw [h.1] at hsl; exact absurd hsl (by simp))
    rw [content_succ zs f s hf]
    exact ⟨h.1, v, zs, (f + 1) % zs.length, s, h.2, rfl, h1, by omega, h3⟩
theorem putQ (ok : Nat → Prop) (g : Nat) (most : Int) (c : List Int) (x : Int) (w0 w : World) (hB : Below w0.heap.size w0 w) (hQ : QState w w0.heap.size ok g most c) (hfresh : ∀ k, w.heap.size ≤ k → ok k) :
    Calls Try.prog 29 #[.pointer (some ⟨g, 0, none⟩), .int .i64 x] w fun e w' => Below w0.heap.size w0 w' ∧ Kept w w' (fun k => k = g ∨ ok k) ∧ e = .returned (.int .i64 (if (c.length : Int) = most then 20 else 0)) ∧ QState w' w0.heap.size ok g most (if (c.length : Int) = most then c else c ++ [x]) := by
  obtain ⟨v, zs, f, s, hQ, rfl, h1, h2, h3⟩ := hQ
  refine (Queue_Put.calls ok g most v zs f s x w0 w hB hQ hfresh (by omega)).mono ?_
  rintro e w' ⟨hb, hk, h⟩
  refine ⟨hb, hk, ?_⟩
  rw [content_length]
  by_cases c : (s : Int) = most
  · rw [if_pos c] at h
    rw [if_pos c, if_pos c]
    exact ⟨h.1, v, zs, f, s, h.2, rfl, h1, h2, h3⟩
  · rw [if_neg c] at h
    rw [if_neg c, if_neg c]
    obtain ⟨he, v', zs', f', hq, hc, hl⟩ := h
    exact ⟨he, v', zs', f', s + 1, hq, hc, by omega, by omega, h3⟩
section
variable {W w' : World} {base : Nat} {g gp : Nat} {most : Int} {s : List (Int × Int)} {c : List Int}
theorem PState.elder {ok : Nat → Prop} (h : PState W base ok g most s) (a : Nat) (ha : W.heap.size ≤ a) : PState W base (fun k => ok k ∧ k ≠ a) g most s := by obtain ⟨v, l, h, k⟩ := h; exact ⟨v, l, h.elder a ha, k⟩
end
end Go.Proofs.Ytgjgckpdilbbjaa.Q
end
section
namespace Go.Proofs.Ytgjgckpdilbbjaa.Q
open Go.RowKit Go.Proofs.YtgjgckpdilbbjaaW.PrintWords Go.Proofs.YtgjgckpdilbbjaaW.PrintLast Go.Proofs.YtgjgckpdilbbjaaW.PrintMore
attribute [local go_sem] max2_int min2_int max_two min_four
set_option linter.unusedVariables false
set_option linter.unusedSimpArgs false
def bits_Mul64.f (a0 : Int) (a1 : Int) : Option (Int × Int) := some (IntKind.u64.wrap ((IntKind.u64.wrap ((IntKind.u64.wrap ((a0 / 4294967296) * (a1 / 4294967296))) + ((IntKind.u64.wrap ((IntKind.u64.wrap ((a0 / 4294967296) * (Go.bits .and .u64 a1 4294967295))) + ((IntKind.u64.wrap ((Go.bits .and .u64 a0 4294967295) * (Go.bits .and .u64 a1 4294967295))) / 4294967296))) / 4294967296))) + ((IntKind.u64.wrap ((Go.bits .and .u64 (IntKind.u64.wrap ((IntKind.u64.wrap ((a0 / 4294967296) * (Go.bits .and .u64 a1 4294967295))) + ((IntKind.u64.wrap ((Go.bits .and .u64 a0 4294967295) * (Go.bits .and .u64 a1 4294967295))) / 4294967296))) 4294967295) + (IntKind.u64.wrap ((Go.bits .and .u64 a0 4294967295) * (a1 / 4294967296))))) / 4294967296)), IntKind.u64.wrap (a0 * a1))
set_option maxHeartbeats 8000000 in
set_option maxRecDepth 100000 in
theorem bits_Mul64.calls (a0 : Int) (a1 : Int) (r1 : Int) (r2 : Int) (w : World) (h : bits_Mul64.f a0 a1 = some (r1, r2)) :
  Calls Try.prog 56 #[.int .u64 a0, .int .u64 a1] w fun e w' => e = .returned (.tuple #[.int .u64 r1, .int .u64 r2]) ∧ Drawn0 w w' := by
 have H : (some (IntKind.u64.wrap ((IntKind.u64.wrap ((IntKind.u64.wrap ((a0 / 4294967296) * (a1 / 4294967296))) + ((IntKind.u64.wrap ((IntKind.u64.wrap ((a0 / 4294967296) * (Go.bits .and .u64 a1 4294967295))) + ((IntKind.u64.wrap ((Go.bits .and .u64 a0 4294967295) * (Go.bits .and .u64 a1 4294967295))) / 4294967296))) / 4294967296))) + ((IntKind.u64.wrap ((Go.bits .and .u64 (IntKind.u64.wrap ((IntKind.u64.wrap ((a0 / 4294967296) * (Go.bits .and .u64 a1 4294967295))) + ((IntKind.u64.wrap ((Go.bits .and .u64 a0 4294967295) * (Go.bits .and .u64 a1 4294967295))) / 4294967296))) 4294967295) + (IntKind.u64.wrap ((Go.bits .and .u64 a0 4294967295) * (a1 / 4294967296))))) / 4294967296)), IntKind.u64.wrap (a0 * a1))) = some (r1, r2) := h; clear h; simp only [Option.some.injEq, Prod.mk.injEq] at H; obtain ⟨rfl, rfl⟩ := H
 go_enter Try.func56, Try.ntmps56
 go_wp2
 go_ret2
 exact ⟨by first | rfl | (simp; done) | (simp [*]; done), by repeat (first | exact Drawn0.refl _ | apply Drawn0.step)⟩
def bits_Mul.f (a0 : Int) (a1 : Int) : Option (Int × Int) := (bits_Mul64.f a0 a1).bind fun bt122 => (some (bt122.1, bt122.2))
set_option maxHeartbeats 8000000 in
set_option maxRecDepth 100000 in
theorem bits_Mul.calls (a0 : Int) (a1 : Int) (r1 : Int) (r2 : Int) (w : World) (h : bits_Mul.f a0 a1 = some (r1, r2)) :
  Calls Try.prog 52 #[.int .u64 a0, .int .u64 a1] w fun e w' => e = .returned (.tuple #[.int .u64 r1, .int .u64 r2]) ∧ Drawn0 w w' := by
 have H : ((bits_Mul64.f a0 a1).bind fun bt122 => (some (bt122.1, bt122.2))) = some (r1, r2) := h; clear h; replace H := Option.bind_eq_some_iff.mp H; obtain ⟨⟨t122, t123⟩, A30, H⟩ := H; replace H : (some (t122, t123)) = some (r1, r2) := H; have A3 := Aside0.mk A30; clear A30; simp only [Option.some.injEq, Prod.mk.injEq] at H; obtain ⟨rfl, rfl⟩ := H
 go_enter Try.func52, Try.ntmps52
 go_wp2_with (first | ((with_reducible refine gate_callee (f := 56) rfl ?_); refine goesL_ (some 25) rfl rfl Try.func56 (by kernel_rfl) rfl #[.int .u64 a0, .int .u64 a1] rfl (by (try simp only [List.map_toArray, List.map_cons, List.map_nil]); first | done | rfl | (simp only [List.length_drop, List.length_take]; rfl)) ?_; (with_reducible refine (bits_Mul64.calls a0 a1 t122 t123 _ A3.out).mono ?_); rintro e w' ⟨rfl, ⟨nd, rfl⟩⟩; refine ⟨_, rfl, ?_⟩))
 go_ret2
 exact ⟨by first | rfl | (simp; done) | (simp [*]; done), by repeat (first | exact Drawn0.refl _ | apply Drawn0.step)⟩
end Go.Proofs.Ytgjgckpdilbbjaa.Q
end
section
namespace Go.Proofs.Ytgjgckpdilbbjaa.Q
open Go.RowKit Go.Proofs.Ytgjgckpdilbbjaa.P Go.Proofs.YtgjgckpdilbbjaaW.PrintWords Go.Proofs.YtgjgckpdilbbjaaW.PrintLast Go.Proofs.YtgjgckpdilbbjaaW.PrintMore
set_option linter.unusedVariables false
set_option linter.unusedSimpArgs false
theorem ints_size (zs : List Int) : (ints zs).size = zs.length := by unfold ints; simp
theorem ints_list (zs : List Int) : (ints zs).toList = zs.map (Value.int .i64) := by unfold ints; simp
theorem mk_ints {ops : Array Oper} {rest : List Oper} {o : Oper} {a : Act} {Q : Exit → Act → World → Prop} (w : World) (hg : o.guard = none) (l c : Operand) (hop : o.op = Op.makeSlice 25 l c) (n : Nat) (hl : a.eval l = .int .i64 (n : Int)) (hc : a.eval c = .int .i64 (n : Int)) (hn : n ≤ 1000000000)
    (hK : ∀ g w1, g = w.heap.size → w1.heap[g]? = some (.cells (ints (List.replicate n 0)) 3 (0, 0)) → Below w.heap.size w w1 → wpList Try.prog ops Q rest (a.put o.dst (.slice (some ⟨g, 0, none⟩) n n)) w1) : wpList Try.prog ops Q (o :: rest) a w := by
  refine wpList_plain hg fun K hK' => ?_
  obtain ⟨i3, hi, hz0, hz1, hz2⟩ := info_parts info3
  have hr := run_make (P := Try.prog) w 25 3 i3 (.int .i64 0) Try.underlying25 hi hz0 .i64 .i64 (n : Int) (n : Int) (by omega) (by omega) (by rw [hz2]; omega) (by omega)
  rw [hz1, Int.toNat_natCast, made_ints] at hr
  unfold Oper.wp
  simp [execOp, hop, hl, hc, hr, Result.andThen]
  exact hK' _ _ (hK _ _ rfl (blk_new w _) (below_alloc (Below.refl _ _) _))
theorem copy_run {W : World} {g off n cap m c : Nat} {ad : Addr} {zs ys : List Int} (t : TypeId) (hh : W.heap[g]? = some (.cells (ints zs) 3 (0, 0))) (hk : ys.length = Nat.min m n) (hfit : off + ys.length ≤ zs.length)
    (hsrc : ∀ j, (hj : j < ys.length) → W.cell? (ad.add j) = some (.int .i64 ys[j])) :
    ∃ w1, (Builtin.copy_ #[25, 25] t #[.slice (some ⟨g, off, none⟩) n cap, .slice (some ad) m c]).run Try.prog W = .ok (.int .i64 (ys.length : Int)) w1 ∧ w1.heap[g]? = some (.cells (ints (zs.take off ++ ys ++ zs.drop (off + ys.length))) 3 (0, 0)) ∧ W.grownBy w1 (some g) := by
  have hl : (ys.map (Value.int .i64)).length = ys.length := by simp
  have hi3 : (Try.prog.info? 3).map (·.size) = some 1 := by
    obtain ⟨i3, hi, hz0, hz1, hz2⟩ := info_parts info3
    rw [hi]; simp [hz1]
  have hr := run_copy_cells (P := Try.prog) W 25 25 t 3 g off n cap ad m c (ys.map (Value.int .i64)) Try.underlying25 hi3 (by rw [hl]; exact hk)
    (fun j u hu => by
      rw [List.getElem?_map] at hu
      rcases Nat.lt_or_ge j ys.length with hj | hj
      · rw [List.getElem?_eq_getElem hj] at hu; simp at hu; rw [← hu]; exact hsrc j hj
      · rw [List.getElem?_eq_none hj] at hu; cases hu)
    (fun j hj => by rw [hl] at hj; rw [blk_cell hh]; rw [ints_get (by omega)]; rfl) (fun j _ => blk_frozen hh _) (by intro u hu; rw [List.mem_map] at hu; obtain ⟨q, _, rfl⟩ := hu; rfl)
  obtain ⟨cur', h3, h4, h5⟩ := setCells_row (ys.map (Value.int .i64)) off W (ints zs) hh (by rw [hl, ints_size]; exact hfit)
  obtain ⟨s1, s2, s3, s4⟩ := setCells_same g (ys.map (Value.int .i64)) off W
  refine ⟨_, by rw [hr, hl]; rfl, ?_, s1, s2, s3, by rw [s4]; exact Nat.le_refl _, fun k _ hk => setCells_far _ _ k (fun he => hk (by rw [he]))⟩
  rw [h3]
  have : cur' = ints (zs.take off ++ ys ++ zs.drop (off + ys.length)) := by
    apply Array.toList_inj.1
    rw [h5, ints_list, ints_list, hl]
    simp
  rw [this]
theorem exec_copy {P : Program} {o : Oper} {a : Act} (s x : Operand) (t t' : TypeId) (hop : o.op = .call { callee := .builtin .copy, args := #[s, x], argTypes := #[t, t'] }) {vs vx v : Value} {w w' : World} (hs : a.eval s = vs) (hx : a.eval x = vx)
    (hr : (Builtin.copy_ #[t, t'] o.type #[vs, vx]).run P w = .ok v w') : (execOp a.eval o).run P w = .ok (.value v) w' := by
  subst hs hx
  unfold execOp
  rw [hop]
  simp only [resolve, invoke, builtin]
  simp [hr, Result.andThen]
theorem copy_list {P : Program} {ops : Array Oper} {rest : List Oper} {o : Oper} {a : Act} {Q : Exit → Act → World → Prop} {W : World} (hgd : o.guard = none) (s x : Operand) (t t' : TypeId) (hop : o.op = .call { callee := .builtin .copy, args := #[s, x], argTypes := #[t, t'] }) {vs vx v : Value} {w' : World} (hs : a.eval s = vs) (hx : a.eval x = vx)
    (hr : (Builtin.copy_ #[t, t'] o.type #[vs, vx]).run P W = .ok v w') (h : wpList P ops Q rest (a.put o.dst v) w') : wpList P ops Q (o :: rest) a W := by
  refine wpList_plain hgd fun K hK => ?_
  unfold Oper.wp
  rw [exec_copy s x t t' hop hs hx hr]
  exact hK _ _ h
theorem rep_put (N n : Nat) (x y : Int) (k : Nat) (h : n + k ≤ N) : (List.replicate n x ++ List.replicate (N - n) y).take n ++ List.replicate k x ++ (List.replicate n x ++ List.replicate (N - n) y).drop (n + k) = List.replicate (n + k) x ++ List.replicate (N - (n + k)) y := by
  rw [List.take_append_of_le_length (by simp), List.take_of_length_le (by simp), List.drop_append, List.drop_eq_nil_of_le (by simp), List.length_replicate, List.nil_append, List.drop_replicate, List.replicate_append_replicate]
  congr 2
  omega
theorem addr0 (g j : Nat) : (⟨g, 0, none⟩ : Addr).add j = ⟨g, j, none⟩ := by
  unfold Addr.add
  split
  · rename_i h; rw [h]
  · rw [Nat.zero_add]
theorem mul_one : ∀ N : Fin 51, bits_Mul.f 1 ((N : Nat) : Int) = some (0, ((N : Nat) : Int)) := by decide +kernel
def slices_Repeat.T9 : Bool × List (List Nat × List Nat) := (true, [([], []), ([], []), ([], []), ([1, 2], [1, 2]), ([], []), ([], []), ([4, 5], [4, 5]), ([3, 6], [3, 6]), ([0, 7], [0, 7]), ([8, 7, 0, 1, 2, 3, 4, 5, 6, 7, 8], [0, 2, 5, 8])])
def slices_Repeat.B9 : List Nat := [0, 0, 0, 6, 0, 0, 48, 126, 255, 511]
theorem slices_Repeat.tab9 : rtab .any (opsOf Try.f43 9) = slices_Repeat.T9 := by kernel_rfl
theorem slices_Repeat.bits9 : waitsOk slices_Repeat.T9.2 slices_Repeat.B9 = true := by kernel_rfl
set_option maxHeartbeats 8000000 in
set_option maxRecDepth 100000 in
theorem slices_Repeat.calls (N : Nat) (h1 : 1 ≤ N) (h2 : N ≤ 50) (ad : Addr) (c : Nat) (x : Int) (w : World) (hc : w.cell? (ad.add 0) = some (.int .i64 x)) :
    Calls Try.prog 43 #[.slice (some ad) 1 c, .int .i64 (N : Int)] w fun e w' => ∃ g, e = .returned (.slice (some ⟨g, 0, none⟩) N N) ∧ w'.heap[g]? = some (.cells (ints (List.replicate N x)) 3 (0, 0)) ∧ w.heap.size ≤ g ∧ Below w.heap.size w w' := by
  have hu25 := Try.underlying25
  have HB := Aside0.mk (Below.refl w.heap.size w)
  have HC := Aside0.mk hc
  have H1 := Aside0.mk h1
  have H2 := Aside0.mk h2
  have c1 : decide ((N : Int) < 0) = false := decide_eq_false (by omega)
  have k1 : IntKind.u64.wrap (N : Int) = (N : Int) := by simp [IntKind.wrap, IntKind.bits, IntKind.signed]; omega
  have k2 : IntKind.i64.wrap (N : Int) = (N : Int) := by simp [IntKind.wrap, IntKind.bits, IntKind.signed]; omega
  have k3 : wrap64 (N : Int) = (N : Int) := wrapId (by omega) (by omega)
  have c3 : decide ((N : Int) > 9223372036854775807) = false := decide_eq_false (by omega)
  have c4 : decide (9223372036854775807 < (N : Int)) = false := decide_eq_false (by omega)
  have p0 := eq_true (show (0 : Int) ≤ (N : Int) by omega)
  have HM : Aside0 (bits_Mul.f 1 (N : Int) = some (0, (N : Int))) := ⟨mul_one ⟨N, by omega⟩⟩
  clear hc h1 h2
  go_enter Try.func43, Try.ntmps43
  go_wp2_with (first
    | (go_at_call 52; refine (bits_Mul.calls 1 (N : Int) 0 (N : Int) _ HM.out).mono ?_; rintro e w1 ⟨rfl, hd⟩; have n0_ := Aside0.mk (below_step HB.out (Drawn0.below hd)); clear HB hd; have HB := n0_; clear n0_)
    | ((with_reducible refine gate_dst (N := 30) rfl ?_); refine mk_ints _ rfl _ _ rfl N rfl rfl (by have := H2.out; omega) ?_; intro gr w1 hg hbox hb; have n0_ := Aside0.mk (below_step HB.out hb); have GR := Aside0.mk (show w.heap.size ≤ gr by rw [hg]; exact below_size HB.out); have BK := Aside0.mk hbox; clear HB hb hbox hg; have HB := n0_; clear n0_)
    | ((with_reducible refine gate_dst (N := 33) rfl ?_); obtain ⟨w3, hr3, hk3, hg3⟩ := copy_run (ys := [x]) (ad := ad) (off := 0) (n := N) (cap := N) (m := 1) (c := c) 3 BK.out (by have := H1.out; simp [Nat.min_def]; omega) (by have := H1.out; simp; omega) (fun j hj => by simp at hj; subst hj; exact (HB.out.cell (World.block_lt_of_cell? _ _ HC.out)).trans HC.out); refine copy_list rfl _ _ 25 25 rfl rfl rfl hr3 ?_; have n0_ := Aside0.mk (Below.grown HB.out hg3 (below_size HB.out) (fun k_ e_ => by injection e_ with e_; subst e_; exact GR.out)); have n1_ := Aside0.mk hk3; clear HB BK hr3 hk3 hg3; have HB := n0_; have BK := n1_; clear n0_ n1_))
  have n0_ : Aside0 (w3.heap[gr]? = some (.cells (ints (List.replicate 1 x ++ List.replicate (N - 1) 0)) 3 (0, 0))) := ⟨by have h_ := BK.out; rw [List.take_zero, List.drop_replicate] at h_; exact h_⟩
  clear BK
  have BK := n0_
  clear n0_ c1 c3 c4 k1 k2 k3 HM HC
  go_loopg [8] (N - 1) (fun kq v8 w' => ∃ n : Nat, v8 = .int .i64 (n : Int) ∧ Aside0 (kq = N - n ∧ 1 ≤ n ∧ n ≤ N) ∧ Aside0 (Below w.heap.size w w') ∧ Aside0 (w'.heap[gr]? = some (.cells (ints (List.replicate n x ++ List.replicate (N - n) 0)) 3 (0, 0))))
  case atStart => exact ⟨1, rfl, ⟨rfl, Nat.le_refl _, H1.out⟩, HB, BK⟩
  case round =>
    clear HB BK
    obtain ⟨n, rfl, HI, HB, BK⟩ := hrel
    cases gk with
    | zero =>
      have hn : n = N := by have := HI.out; omega
      subst hn
      have c1 : decide ((n : Int) < (n : Int)) = false := decide_eq_false (by omega)
      have c2 : decide (n < n) = false := decide_eq_false (by omega)
      go_wp2
      go_ret
      exact ⟨gr, rfl, by have h_ := BK.out; rw [Nat.sub_self, List.replicate_zero, List.append_nil] at h_; exact h_, GR.out, HB.out⟩
    | succ gk =>
      have hlt : n < N := by have := HI.out; omega
      have c1 : decide ((n : Int) < (N : Int)) = true := decide_eq_true (by omega)
      have c2 : decide (n < N) = true := decide_eq_true hlt
      have HLT := Aside0.mk hlt
      have q0 := eq_true (show (0 : Int) ≤ (n : Int) by omega)
      have q1 := eq_true (show (n : Int) ≤ (N : Int) by omega)
      have q2 := eq_false (show ¬ N = n by omega)
      have q3 := eq_false (show ¬ (N : Int) = (n : Int) by omega)
      obtain ⟨k, hk⟩ : ∃ k, Nat.min n (N - n) = k := ⟨_, rfl⟩
      have HKE : Aside0 (Nat.min n (N - n) = k ∧ 1 ≤ k ∧ k ≤ n ∧ n + k ≤ N) := ⟨hk, by have := HI.out; rw [← hk]; simp [Nat.min_def]; split <;> omega⟩
      have hwn : wrap64 ((n : Int) + (k : Int)) = ((n + k : Nat) : Int) := wrapId (by have := HI.out; omega) (by have := HI.out; have := H2.out; have := HKE.out; omega)
      have HWN := Aside0.mk hwn
      clear hk hwn
      clear hlt
      go_wp2
      clear c1 c2
      have n0_ := Aside0.mk (below_drew1 HB.out)
      have n3_ := Aside0.mk (blk_drew BK.out)
      clear HB BK
      have HB := n0_
      have BK := n3_
      clear n0_ n3_
      refine start_ (n := 10) (S := fun w' => True) (ds := []) #[Ff,Ff,Ff,Ff,Ff,Ff,Ff,Ff,Ff,Ff] (by kernel_rfl) rfl rfl trivial (fun hHeld => ?_)
      generalize wr.drew = w4 at HB BK hHeld ⊢
      refine with_tabW slices_Repeat.tab9 slices_Repeat.bits9 (fun HT_ HW_ => ?_)
      refine pv_ 0 38 #[Tt,Ff,Ff,Ff,Ff,Ff,Ff,Ff,Ff,Ff] ?_
      refine pv_ 1 39 #[Tt,Tt,Ff,Ff,Ff,Ff,Ff,Ff,Ff,Ff] ?_
      refine pv_ 2 40 #[Tt,Tt,Tt,Ff,Ff,Ff,Ff,Ff,Ff,Ff] ?_
      refine pv_ 3 41 #[Tt,Tt,Tt,Tt,Ff,Ff,Ff,Ff,Ff,Ff] ?_
      refine pv_ 4 42 #[Tt,Tt,Tt,Tt,Tt,Ff,Ff,Ff,Ff,Ff] ?_
      refine pv_ 5 43 #[Tt,Tt,Tt,Tt,Tt,Tt,Ff,Ff,Ff,Ff] ?_
      refine pv_ 6 44 #[Tt,Tt,Tt,Tt,Tt,Tt,Tt,Ff,Ff,Ff] ?_
      refine one_ (i := 7) (N := (some 45)) #[Tt,Tt,Tt,Tt,Tt,Tt,Tt,Tt,Ff,Ff] rfl rfl (one_of HT_.out (by kernel_rfl)) (by decide) (fun K hK => ?_)
      have hcp := copy_run (ys := List.replicate k x) (ad := ⟨gr, 0, none⟩) (off := n) (n := N - n) (cap := N - n) (m := n) (c := N) 3 BK.out (by rw [List.length_replicate]; exact HKE.out.1.symm) (by have := HKE.out; have := HI.out; simp; omega) (fun j hj => by
        rw [List.length_replicate] at hj
        have := HKE.out
        have h_ := blk_cell BK.out j
        rw [ints_get (by simp; omega), List.getElem_append_left (by simp; omega), List.getElem_replicate] at h_
        rw [List.getElem_replicate]
        rw [addr0]
        exact h_)
      rw [List.length_replicate] at hcp
      obtain ⟨w5, hr5, hb5, hg5⟩ := hcp
      refine event_step (by rfl) (exec_copy (.tmp 41) (.tmp 44) 25 25 rfl rfl rfl hr5) ?_
      refine hK.out _ _ trivial (fun hHeld2 => ?_)
      have n0_ := Aside0.mk (Below.grown HB.out hg5 (below_size HB.out) (fun k_ e_ => by injection e_ with e_; subst e_; exact GR.out))
      have n1_ : Aside0 (w5.heap[gr]? = some (.cells (ints (List.replicate (n + k) x ++ List.replicate (N - (n + k)) 0)) 3 (0, 0))) := ⟨by rw [rep_put N n x 0 k HKE.out.2.2.2] at hb5; exact hb5⟩
      clear HB BK hK K hr5 hb5 hg5 hHeld hHeld2
      have HB := n0_
      have BK := n1_
      clear n0_ n1_
      refine norm_ (a' := ?_) ?_ ?_
      rotate_left
      · show Act.put _ (some 45) _ = _
        simp only [Act.put, List.setIfInBounds_toArray, List.set_cons_zero, List.set_cons_succ, i64_w, i32_w]
        rfl
      refine pv_ 8 46 #[Tt,Tt,Tt,Tt,Tt,Tt,Tt,Tt,Tt,Ff] ?_
      refine pv_ 9 8 #[Tt,Tt,Tt,Tt,Tt,Tt,Tt,Tt,Tt,Tt] ?_
      refine done_ (done_of HT_.out (by kernel_rfl)) ?_
      clear HT_ HW_
      go_wp2
      go_roundg (N - (n + k))
      case measure => have := HKE.out; have := HI.out; omega
      case rel => exact ⟨n + k, congrArg (Value.int .i64) HWN.out, ⟨rfl, by have := HKE.out; omega, HKE.out.2.2.2⟩, HB, BK⟩
set_option maxHeartbeats 8000000 in
set_option maxRecDepth 100000 in
theorem adj_none.calls (N v : Nat) (h1 : v < N) (h2 : N ≤ 50) (b : Bool) (A : Value) (w : World) (hA : A.cells = #[A]) :
    Calls Try.prog 27 #[.agg #[.int .i64 (N : Int), .bool b, A], .int .i64 (v : Int)] w fun e w' => ∃ g, e = .returned (.slice (some ⟨g, 0, none⟩) N N) ∧ w'.heap[g]? = some (.cells (ints ((List.replicate N (-1)).set v 0)) 3 (0, 0)) ∧ w.heap.size ≤ g ∧ Below w.heap.size w w' := by
  have hu24 := Try.underlying24
  have hu25 := Try.underlying25
  have HB := Aside0.mk (Below.refl w.heap.size w)
  have H1 := Aside0.mk h1
  have H2 := Aside0.mk h2
  have q0 := eq_true (show (0 : Int) ≤ (v : Int) by omega)
  have q1 := eq_true (show (v : Int) < (N : Int) by omega)
  clear h1 h2
  go_enter Try.func27, Try.ntmps27
  go_wp2_with (first
    | ((with_reducible refine gate_dst (N := 2) rfl ?_); refine box_event ?hg (N := 2) ?hd (cs := #[.int .i64 (N : Int), .bool b, A]) (t := 24) ?hr ?_; (case hd => rfl); (case hg => rfl); (case hr => first | (go_simp; done) | (go_simp; rfl)); intro gb hg w5 hbox hb; have n0_ := Aside0.mk (below_step HB.out hb); have n1_ := Aside0.mk hbox; clear HB; have HB := n0_; have BK := n1_; clear n0_ n1_ hb hbox hg; have hcz0 : (w5.alloc (.cells #[.int .i64 (-1)] 3)).cell? ⟨gb, 0, none⟩ = some (.int .i64 (N : Int)) := (blk_cell (blk_alloc BK.out _) 0).trans rfl; have hfz0 := blk_frozen (blk_alloc BK.out (.cells #[.int .i64 (-1)] 3)) 0)
    | (go_at_call 43; refine (slices_Repeat.calls N (by have := H1.out; omega) H2.out ⟨w5.heap.size, 0, none⟩ 1 (-1) _ (by rw [addr0]; exact (blk_cell (blk_new w5 _) 0).trans rfl)).mono ?_; rintro e w6 ⟨gd, rfl, hk, hgd, hb⟩; have n0_ := Aside0.mk (below_step HB.out (below_step (below_alloc (Below.refl _ _) _) hb)); have n1_ := Aside0.mk hk; have n2_ := Aside0.mk (Nat.le_trans (below_size (below_step HB.out (below_alloc (Below.refl _ _) _))) hgd); clear HB hb hk hgd hcz0 hfz0; have HB := n0_; have BD := n1_; have GD := n2_; clear n0_ n1_ n2_; have hcz1 : w6.cell? ⟨gd, v, none⟩ = some (.int .i64 (-1)) := (by rw [blk_cell BD.out v, ints_get (by have := H1.out; simp; omega), List.getElem_replicate]); have hfz1 := blk_frozen BD.out v))
  go_ret
  exact ⟨gd, rfl, by rw [← ints_set]; exact blk_set BD.out v _, GD.out, below_set HB.out GD.out⟩
end Go.Proofs.Ytgjgckpdilbbjaa.Q
end
section
namespace Go.Proofs.Ytgjgckpdilbbjaa.Q
open Go.RowKit Go.Proofs.YtgjgckpdilbbjaaW.PrintWords Go.Proofs.YtgjgckpdilbbjaaW.PrintLast Go.Proofs.YtgjgckpdilbbjaaW.PrintMore
attribute [local go_sem] max2_int min2_int max_two min_four
set_option linter.unusedVariables false
set_option linter.unusedSimpArgs false
def adj_from.f (a0_0 : Int) (a0_1 : Int) (a0_2 : Int) (a0_3 : Int) : Option (Int) := some a0_0
set_option maxHeartbeats 8000000 in
set_option maxRecDepth 100000 in
theorem adj_from.calls (a0_0 : Int) (a0_1 : Int) (a0_2 : Int) (a0_3 : Int) (r : Int) (w : World) (h : adj_from.f a0_0 a0_1 a0_2 a0_3 = some r) :
  Calls Try.prog 42 #[.agg #[.int .i64 a0_0, .int .i64 a0_1, .int .i64 a0_2, .int .i64 a0_3]] w fun e w' => e = .returned (.int .i64 r) ∧ Below w.heap.size w w' := by
 have hu37 := Try.underlying37; have HB := Aside0.mk (Below.refl w.heap.size w); have H : (some a0_0) = some r := h; clear h; obtain rfl := Option.some.inj H
 go_enter Try.func42, Try.ntmps42
 go_wp2_with (first | ((with_reducible refine gate_dst (N := 1) rfl ?_); refine box_event ?hg (N := 1) ?hd (cs := #[.int .i64 a0_0, .int .i64 a0_1, .int .i64 a0_2, .int .i64 a0_3]) (t := 37) ?hr ?_; (case hd => rfl); (case hg => rfl); (case hr => first | (go_simp; done) | (go_simp; rfl)); intro gb120 hg w2 hbox hb; have n0_ := Aside0.mk (below_step (by repeat (first | (with_reducible first | exact HB.out | apply below_alloc | apply pw_below_drewN | apply below_drew1) | exact HB.out)) hb); have n1_ := Aside0.mk (hbox); have n2_ := Aside0.mk ((by rw [hg]; exact (below_size (by repeat (first | (with_reducible first | exact HB.out | apply below_alloc | apply pw_below_drewN | apply below_drew1) | exact HB.out))) : w.heap.size ≤ gb120)); have n3_ := Aside0.mk ((by rw [hg]; exact (below_size (by repeat (first | (with_reducible first | exact HB.out | apply below_alloc | apply pw_below_drewN | apply below_drew1) | exact HB.out))) : w.heap.size ≤ gb120)); clear HB; have HB := n0_; have BK120 := n1_; have GW120 := n2_; have GE120 := n3_; clear n0_ n1_ n2_ n3_; clear hb hbox hg; have hcz3_0 : w2.cell? ⟨gb120, 0, none⟩ = some (.int .i64 a0_0) := (blk_cell BK120.out 0).trans rfl; have hcz3_1 : w2.cell? ⟨gb120, 1, none⟩ = some (.int .i64 a0_1) := (blk_cell BK120.out 1).trans rfl; have hcz3_2 : w2.cell? ⟨gb120, 2, none⟩ = some (.int .i64 a0_2) := (blk_cell BK120.out 2).trans rfl; have hcz3_3 : w2.cell? ⟨gb120, 3, none⟩ = some (.int .i64 a0_3) := (blk_cell BK120.out 3).trans rfl; have hfz3_0 := blk_frozen BK120.out 0; have hfz3_1 := blk_frozen BK120.out 1; have hfz3_2 := blk_frozen BK120.out 2; have hfz3_3 := blk_frozen BK120.out 3))
 go_ret
 exact ⟨by first | rfl | (simp [errW_none, errW_some] <;> rfl) | (simp [*, errW_none, errW_some] <;> rfl), by repeat (first | (with_reducible first | exact HB.out | apply below_alloc | apply pw_below_drewN | apply below_drew1 | refine below_set ?_ GE120.out) | exact HB.out)⟩
end Go.Proofs.Ytgjgckpdilbbjaa.Q
end
