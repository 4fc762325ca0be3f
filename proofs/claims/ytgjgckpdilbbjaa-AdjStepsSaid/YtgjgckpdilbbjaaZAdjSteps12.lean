/- A part of the proof: words, contracts, plain lemmas. Conditions: none. -/
import Derived.Test.YtgjgckpdilbbjaaZAdjSteps9
import Derived.Test.YtgjgckpdilbbjaaZAdjSteps10
import Derived.Test.YtgjgckpdilbbjaaZAdjSteps11
section
namespace Go.Proofs.Ytgjgckpdilbbjaa.Q
open Go.RowKit Go.Proofs.Ytgjgckpdilbbjaa.P Go.Proofs.YtgjgckpdilbbjaaW.PrintWords Go.Proofs.YtgjgckpdilbbjaaW.PrintLast Go.Proofs.YtgjgckpdilbbjaaW.PrintMore
set_option linter.unusedVariables false
set_option linter.unusedSimpArgs false
theorem R_block {w : World} {g base : Nat} {d : List Int} (h : w.heap[g]? = some (.cells (ints d) 3 (0, 0))) (hb : base ≤ g) (hp : d.length ≤ 1000) : Kd.R (Kd.int .i64) 3 w base (fun _ => True) (.slice (some ⟨g, 0, none⟩) d.length d.length) d := by
  refine Kd.R_of_own ⟨by rw [encs_length, Nat.mul_one], .inr ⟨g, d.length, ints d, rfl, hb, h, Nat.le_refl _, ?_, by rw [ints_size]; simp, ?_⟩⟩ (fun _ _ => trivial)
  · simp only [maxLen]; omega
  · rw [ints_list, List.take_of_length_le (by simp)]; rfl
theorem ints_at {w : World} {g : Nat} {d : List Int} (h : w.heap[g]? = some (.cells (ints d) 3 (0, 0))) (i : Int) (h0 : 0 ≤ i) (h1 : i < (d.length : Int)) : w.cell? ⟨g, i.toNat, none⟩ = some (.int .i64 (rd d i)) := by
  rw [blk_cell h, ints_get (by omega)]
  congr 2
  unfold rd
  rw [List.getD_eq_getElem?_getD, List.getElem?_eq_getElem (by omega)]; rfl
theorem ints_put {w : World} {g : Nat} {d : List Int} (h : w.heap[g]? = some (.cells (ints d) 3 (0, 0))) (i : Nat) (x : Int) : (w.setCell ⟨g, i, none⟩ (.int .i64 x)).heap[g]? = some (.cells (ints (d.set i x)) 3 (0, 0)) := by
  rw [← ints_set]; exact blk_set h i _
theorem QState.based {w : World} {base : Nat} {ok : Nat → Prop} {g : Nat} {most : Int} {c : List Int} (h : QState w base ok g most c) : QState w base (fun k => ok k ∧ base ≤ k) g most c := by
  obtain ⟨v, zs, f, s, h, k⟩ := h
  exact ⟨v, zs, f, s, ⟨h.blk, h.ge, h.ring.imp id (fun ⟨gk, h1, h2, h3, h4, h5⟩ => ⟨gk, h1, h2, h3, ⟨h4, h3⟩, h5⟩), h.fl, h.sl⟩, k⟩
theorem PState.based {w : World} {base : Nat} {ok : Nat → Prop} {g : Nat} {most : Int} {s : List (Int × Int)} (h : PState w base ok g most s) : PState w base (fun k => ok k ∧ base ≤ k) g most s := by
  obtain ⟨v, l, h, k⟩ := h
  refine ⟨v, l, ⟨h.blk, Kd.R_mono (Kd.R_bound h.row) (fun k hk => ?_), h.ge⟩, k⟩
  exact ⟨⟨hk.1.1, hk.2.1⟩, hk.1.2⟩
theorem lenQ' {base : Nat} {ok : Nat → Prop} (g : Nat) (most : Int) (c : List Int) (n : Nat) (w : World) (hQ : QState w base ok g most c) (hn : c.length = n) :
    Calls Try.prog 30 #[.pointer (some ⟨g, 0, none⟩)] w fun e w' => e = .returned (.int .i64 (n : Int)) ∧ w' = w := by
  subst hn; exact lenQ g most c w hQ
theorem lenP' {base : Nat} {ok : Nat → Prop} (g : Nat) (most : Int) (s : List (Int × Int)) (n : Nat) (w : World) (hP : PState w base ok g most s) (hn : s.length = n) :
    Calls Try.prog 36 #[.pointer (some ⟨g, 0, none⟩)] w fun e w' => e = .returned (.int .i64 (n : Int)) ∧ w' = w := by
  subst hn; exact lenP g most s w hP
theorem takeQ1 (ok : Nat → Prop) (g : Nat) (most : Int) (x : Int) (c : List Int) (w0 w : World) (hB : Below w0.heap.size w0 w) (hQ : QState w w0.heap.size ok g most (x :: c)) :
    Calls Try.prog 31 #[.pointer (some ⟨g, 0, none⟩)] w fun e w' => Below w0.heap.size w0 w' ∧ Kept w w' (fun k => k = g ∨ ok k) ∧ e = .returned (.tuple #[.int .i64 x, .int .i64 0]) ∧ QState w' w0.heap.size ok g most c := takeQ ok g most (x :: c) w0 w hB hQ
theorem popP1 (ok : Nat → Prop) (g : Nat) (most : Int) (x : Int × Int) (s : List (Int × Int)) (w0 w : World) (hB : Below w0.heap.size w0 w) (hP : PState w w0.heap.size ok g most (x :: s)) (hl : (x :: s).length ≤ 65536) :
    Calls Try.prog 37 #[.pointer (some ⟨g, 0, none⟩)] w fun e w' => Below w0.heap.size w0 w' ∧ Kept w w' (fun k => k = g ∨ ok k) ∧ e = .returned (.tuple #[.agg #[.int .i64 x.1, .int .i64 x.2], .int .i64 0]) ∧ PState w' w0.heap.size ok g most s := popP ok g most (x :: s) w0 w hB hP hl
theorem drop_rd {l : List Int} {j : Nat} (h : j < l.length) : l.drop j = rd l (j : Int) :: l.drop (j + 1) := by
  rw [List.drop_eq_getElem_cons h]
  congr 1
  unfold rd
  rw [Int.toNat_natCast, List.getD_eq_getElem?_getD, List.getElem?_eq_getElem h]; rfl
theorem putQ1 (ok : Nat → Prop) (g : Nat) (most : Int) (c : List Int) (x : Int) (w0 w : World) (hB : Below w0.heap.size w0 w) (hQ : QState w w0.heap.size ok g most c) (hfresh : ∀ k, w.heap.size ≤ k → ok k) (d : List Int) (hd : (if (c.length : Int) = most then c else c ++ [x]) = d) :
    Calls Try.prog 29 #[.pointer (some ⟨g, 0, none⟩), .int .i64 x] w fun e w' => Below w0.heap.size w0 w' ∧ Kept w w' (fun k => k = g ∨ ok k) ∧ (∃ r, e = .returned (.int .i64 r)) ∧ QState w' w0.heap.size ok g most d := by
  refine (putQ ok g most c x w0 w hB hQ hfresh).mono ?_
  rintro e w' ⟨hb, hk, he, hq⟩
  exact ⟨hb, hk, ⟨_, he⟩, hd ▸ hq⟩
theorem pushP1 (ok : Nat → Prop) (g : Nat) (most : Int) (s : List (Int × Int)) (x0 x1 : Int) (w0 w : World) (hB : Below w0.heap.size w0 w) (hP : PState w w0.heap.size ok g most s) (hfresh : ∀ k, w.heap.size ≤ k → ok k) (hl : s.length ≤ 65536) (d : List (Int × Int)) (hd : (if (s.length : Int) = most then s else ins (x0, x1) s) = d) :
    Calls Try.prog 35 #[.pointer (some ⟨g, 0, none⟩), .agg #[.int .i64 x0, .int .i64 x1]] w fun e w' => Below w0.heap.size w0 w' ∧ Kept w w' (fun k => k = g ∨ ok k) ∧ (∃ r, e = .returned (.int .i64 r)) ∧ PState w' w0.heap.size ok g most d := by
  refine (pushP ok g most s x0 x1 w0 w hB hP hfresh hl).mono ?_
  rintro e w' ⟨hb, hk, he, hq⟩
  exact ⟨hb, hk, ⟨_, he⟩, hd ▸ hq⟩
end Go.Proofs.Ytgjgckpdilbbjaa.Q
end
