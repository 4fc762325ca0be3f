/- A part of the proof: words, contracts, plain lemmas. Conditions: none. -/
import Derived.Test.YtfhkkbpkajfdlaaProg
import Derived.Maps.OwnSet
import Derived.Maps.OwnOps
import Derived.Maps.Views
import Derived.DeepKeys4
import Derived.WideKeyPair
import Derived.Test.YtfhkkbpkajfdlaaZExpandPlans4
set_option linter.unusedSimpArgs false
set_option linter.unusedVariables false
section
namespace Go.Proofs.Ytfhkkbpkajfdlaa.Q
open Go.RowKit Go.Proofs.YtfhkkbpkajfdlaaW.PrintWords Go.Proofs.YtfhkkbpkajfdlaaW.PrintLast Go.Proofs.YtfhkkbpkajfdlaaW.PrintMore
attribute [local go_sem] max2_int min2_int max_two min_two min_four
def errW : Option Int → Value
 | none => .nilIface
 | some c => .iface 0 (.int .i64 c)
theorem errW_none : errW none = .nilIface := rfl
theorem errW_some (c : Int) : errW (some c) = .iface 0 (.int .i64 c) := rfl
theorem info3 : (Try.prog.info? 3).map (fun i => (i.zero, i.size, i.bytes)) = some (some (.int .i64 0), 1, 8) := by kernel_rfl
theorem info42 : (Try.prog.info? 42).map (fun i => (i.zero, i.size, i.bytes)) = some (some (.slice none 0 0), 1, 24) := by kernel_rfl
theorem info54 : (Try.prog.info? 54).map (fun i => (i.zero, i.size, i.bytes)) = some (some (.agg #[(.int .i64 0), (.int .i64 0), (.int .i64 0), (.int .i64 0)]), 4, 32) := by kernel_rfl
theorem info85 : (Try.prog.info? 85).map (fun i => (i.zero, i.size, i.bytes)) = some (some (.agg #[(.int .i64 0), (.int .i64 0), (.int .i64 0)]), 3, 24) := by kernel_rfl
structure S54 where
 f0 : Int
 f1 : Int
 f2 : Int
 f3 : Int
def z54 : S54 := ⟨(0 : Int), (0 : Int), (0 : Int), (0 : Int)⟩
def k54 : Kd S54 := Kd.iso (Kd.pair (Kd.int .i64) (Kd.pair (Kd.int .i64) (Kd.pair (Kd.int .i64) (Kd.int .i64)))) (fun x : S54 => (x.f0, x.f1, x.f2, x.f3))
theorem k54_open {w : World} {x : S54} {cs : List Value} (h : k54.K w x cs) : cs = [.int .i64 x.f0, .int .i64 x.f1, .int .i64 x.f2, .int .i64 x.f3] := by
 obtain ⟨_, _, rfl, rfl, ⟨_, _, rfl, rfl, ⟨_, _, rfl, rfl, rfl⟩⟩⟩ := h; exact rfl
theorem k54_mkM (w : World) (base : Nat) (ok : Nat → Prop) (x : S54)  : k54.M w base ok x [.int .i64 x.f0, .int .i64 x.f1, .int .i64 x.f2, .int .i64 x.f3] := ⟨[.int .i64 x.f0], [.int .i64 x.f1, .int .i64 x.f2, .int .i64 x.f3], rfl, rfl, ⟨[.int .i64 x.f1], [.int .i64 x.f2, .int .i64 x.f3], rfl, rfl, ⟨[.int .i64 x.f2], [.int .i64 x.f3], rfl, rfl, rfl⟩⟩⟩
def rd_T54 (xs : List S54) (i : Int) : S54 := xs.getD i.toNat z54
theorem at_T54 {w : World} {A : Option Addr} {n : Nat} {xs : List S54} (h : Kd.C k54 w A n xs) (i : Int) (h0 : 0 ≤ i) (h1 : i < n) : ∃ ad , A = some ad ∧ w.cell? (ad.add (i.toNat * 4)) = some (.int .i64 (rd_T54 xs i).f0) ∧ w.cell? ⟨(ad.add (i.toNat * 4)).block, (ad.add (i.toNat * 4)).off + 1, none⟩ = some (.int .i64 (rd_T54 xs i).f1) ∧ w.cell? ⟨(ad.add (i.toNat * 4)).block, (ad.add (i.toNat * 4)).off + 2, none⟩ = some (.int .i64 (rd_T54 xs i).f2) ∧ w.cell? ⟨(ad.add (i.toNat * 4)).block, (ad.add (i.toNat * 4)).off + 3, none⟩ = some (.int .i64 (rd_T54 xs i).f3) := by
 obtain ⟨ad, c, e, _, hK, hc0⟩ := Kd.C_get h z54 i h0 h1; have hc : ∀ j u, c[j]? = some u → w.cell? (ad.add (i.toNat * 4 + j)) = some u := hc0; obtain rfl := k54_open hK; exact ⟨ad, e, hc 0 _ rfl, by rw [← add_field _ _ 1 (by omega)]; exact hc 1 _ rfl, by rw [← add_field _ _ 2 (by omega)]; exact hc 2 _ rfl, by rw [← add_field _ _ 3 (by omega)]; exact hc 3 _ rfl⟩
structure S85 where
 f0 : Int
 f1 : Int
 f2 : Int
def z85 : S85 := ⟨(0 : Int), (0 : Int), (0 : Int)⟩
def k85 : Kd S85 := Kd.iso (Kd.pair (Kd.int .i64) (Kd.pair (Kd.int .i64) (Kd.int .i64))) (fun x : S85 => (x.f0, x.f1, x.f2))
theorem k85_open {w : World} {x : S85} {cs : List Value} (h : k85.K w x cs) : cs = [.int .i64 x.f0, .int .i64 x.f1, .int .i64 x.f2] := by
 obtain ⟨_, _, rfl, rfl, ⟨_, _, rfl, rfl, rfl⟩⟩ := h; exact rfl
theorem k85_openM {w : World} {base : Nat} {ok : Nat → Prop} {x : S85} {cs : List Value} (h : k85.M w base ok x cs) : cs = [.int .i64 x.f0, .int .i64 x.f1, .int .i64 x.f2] := by
 obtain ⟨_, _, rfl, rfl, ⟨_, _, rfl, rfl, rfl⟩⟩ := h; exact rfl
theorem k85_mkM (w : World) (base : Nat) (ok : Nat → Prop) (x : S85)  : k85.M w base ok x [.int .i64 x.f0, .int .i64 x.f1, .int .i64 x.f2] := ⟨[.int .i64 x.f0], [.int .i64 x.f1, .int .i64 x.f2], rfl, rfl, ⟨[.int .i64 x.f1], [.int .i64 x.f2], rfl, rfl, rfl⟩⟩
def rd_T85 (xs : List S85) (i : Int) : S85 := xs.getD i.toNat z85
theorem at_T85 {w : World} {A : Option Addr} {n : Nat} {xs : List S85} (h : Kd.C k85 w A n xs) (i : Int) (h0 : 0 ≤ i) (h1 : i < n) : ∃ ad , A = some ad ∧ w.cell? (ad.add (i.toNat * 3)) = some (.int .i64 (rd_T85 xs i).f0) ∧ w.cell? ⟨(ad.add (i.toNat * 3)).block, (ad.add (i.toNat * 3)).off + 1, none⟩ = some (.int .i64 (rd_T85 xs i).f1) ∧ w.cell? ⟨(ad.add (i.toNat * 3)).block, (ad.add (i.toNat * 3)).off + 2, none⟩ = some (.int .i64 (rd_T85 xs i).f2) := by
 obtain ⟨ad, c, e, _, hK, hc0⟩ := Kd.C_get h z85 i h0 h1; have hc : ∀ j u, c[j]? = some u → w.cell? (ad.add (i.toNat * 3 + j)) = some u := hc0; obtain rfl := k85_open hK; exact ⟨ad, e, hc 0 _ rfl, by rw [← add_field _ _ 1 (by omega)]; exact hc 1 _ rfl, by rw [← add_field _ _ 2 (by omega)]; exact hc 2 _ rfl⟩
def rd_L3 (xs : List (List Int)) (i : Int) : (List Int) := xs.getD i.toNat ([] : List Int)
theorem at_L3 {w : World} {A : Option Addr} {n : Nat} {xs : List (List Int)} (h : Kd.C (Kd.slice 3 (Kd.int .i64)) w A n xs) (i : Int) (h0 : 0 ≤ i) (h1 : i < n) : ∃ ad A0 c0, A = some ad ∧ w.cell? (ad.add i.toNat) = some (.slice A0 (rd_L3 xs i).length c0) ∧ (rd_L3 xs i).length ≤ c0 ∧ (Kd.int .i64).C w A0 (rd_L3 xs i).length (rd_L3 xs i) := by
 obtain ⟨ad, c, e, _, hK, hc0⟩ := Kd.C_get h ([] : List Int) i h0 h1; have hc : ∀ j u, c[j]? = some u → w.cell? (ad.add (i.toNat * 1 + j)) = some u := hc0; obtain ⟨A0, c0, rfl, l0, g0⟩ := hK; exact ⟨ad, A0, c0, e, by have hq := hc 0 _ rfl; rwa [Nat.mul_one, Nat.add_zero] at hq, l0, g0⟩
structure S83 where
 f0 : Bool
 f1 : Bool
 f2 : Int
 f3 : Int
 f4 : Int
structure S80 where
 f0 : Int
 f1 : Int
 f2 : Int
 f3 : Int
def z80 : S80 := ⟨(0 : Int), (0 : Int), (0 : Int), (0 : Int)⟩
def k80 : Kd S80 := Kd.iso (Kd.pair (Kd.int .u8) (Kd.pair (Kd.int .u8) (Kd.pair (Kd.int .u8) (Kd.int .u8)))) (fun x : S80 => (x.f0, x.f1, x.f2, x.f3))
theorem k80_open {w : World} {x : S80} {cs : List Value} (h : k80.K w x cs) : cs = [.int .u8 x.f0, .int .u8 x.f1, .int .u8 x.f2, .int .u8 x.f3] := by
 obtain ⟨_, _, rfl, rfl, ⟨_, _, rfl, rfl, ⟨_, _, rfl, rfl, rfl⟩⟩⟩ := h; exact rfl
def rd_T80 (xs : List S80) (i : Int) : S80 := xs.getD i.toNat z80
theorem at_T80 {w : World} {A : Option Addr} {n : Nat} {xs : List S80} (h : Kd.C k80 w A n xs) (i : Int) (h0 : 0 ≤ i) (h1 : i < n) : ∃ ad , A = some ad ∧ w.cell? (ad.add (i.toNat * 4)) = some (.int .u8 (rd_T80 xs i).f0) ∧ w.cell? ⟨(ad.add (i.toNat * 4)).block, (ad.add (i.toNat * 4)).off + 1, none⟩ = some (.int .u8 (rd_T80 xs i).f1) ∧ w.cell? ⟨(ad.add (i.toNat * 4)).block, (ad.add (i.toNat * 4)).off + 2, none⟩ = some (.int .u8 (rd_T80 xs i).f2) ∧ w.cell? ⟨(ad.add (i.toNat * 4)).block, (ad.add (i.toNat * 4)).off + 3, none⟩ = some (.int .u8 (rd_T80 xs i).f3) := by
 obtain ⟨ad, c, e, _, hK, hc0⟩ := Kd.C_get h z80 i h0 h1; have hc : ∀ j u, c[j]? = some u → w.cell? (ad.add (i.toNat * 4 + j)) = some u := hc0; obtain rfl := k80_open hK; exact ⟨ad, e, hc 0 _ rfl, by rw [← add_field _ _ 1 (by omega)]; exact hc 1 _ rfl, by rw [← add_field _ _ 2 (by omega)]; exact hc 2 _ rfl, by rw [← add_field _ _ 3 (by omega)]; exact hc 3 _ rfl⟩
structure S96 where
 f0 : Int
 f1 : Int
 f2 : Int
def z96 : S96 := ⟨(0 : Int), (0 : Int), (0 : Int)⟩
def k96 : Kd S96 := Kd.iso (Kd.pair (Kd.int .u8) (Kd.pair (Kd.int .u8) (Kd.int .u8))) (fun x : S96 => (x.f0, x.f1, x.f2))
theorem k96_open {w : World} {x : S96} {cs : List Value} (h : k96.K w x cs) : cs = [.int .u8 x.f0, .int .u8 x.f1, .int .u8 x.f2] := by
 obtain ⟨_, _, rfl, rfl, ⟨_, _, rfl, rfl, rfl⟩⟩ := h; exact rfl
def rd_T96 (xs : List S96) (i : Int) : S96 := xs.getD i.toNat z96
theorem at_T96 {w : World} {A : Option Addr} {n : Nat} {xs : List S96} (h : Kd.C k96 w A n xs) (i : Int) (h0 : 0 ≤ i) (h1 : i < n) : ∃ ad , A = some ad ∧ w.cell? (ad.add (i.toNat * 3)) = some (.int .u8 (rd_T96 xs i).f0) ∧ w.cell? ⟨(ad.add (i.toNat * 3)).block, (ad.add (i.toNat * 3)).off + 1, none⟩ = some (.int .u8 (rd_T96 xs i).f1) ∧ w.cell? ⟨(ad.add (i.toNat * 3)).block, (ad.add (i.toNat * 3)).off + 2, none⟩ = some (.int .u8 (rd_T96 xs i).f2) := by
 obtain ⟨ad, c, e, _, hK, hc0⟩ := Kd.C_get h z96 i h0 h1; have hc : ∀ j u, c[j]? = some u → w.cell? (ad.add (i.toNat * 3 + j)) = some u := hc0; obtain rfl := k96_open hK; exact ⟨ad, e, hc 0 _ rfl, by rw [← add_field _ _ 1 (by omega)]; exact hc 1 _ rfl, by rw [← add_field _ _ 2 (by omega)]; exact hc 2 _ rfl⟩
end Go.Proofs.Ytfhkkbpkajfdlaa.Q
end
section
namespace Go.Proofs.Ytfhkkbpkajfdlaa.Q
open Go.RowKit Go.Maps Go.Proofs.YtfhkkbpkajfdlaaW.PrintWords Go.Proofs.YtfhkkbpkajfdlaaW.PrintLast Go.Proofs.YtfhkkbpkajfdlaaW.PrintMore
def lookM {α : Type} [DecidableEq α] (es : List (α × Int)) (x : α) : Option Int := es.foldl (fun r p => if p.1 = x then some p.2 else r) none
theorem lookM_snoc {α : Type} [DecidableEq α] (es : List (α × Int)) (k : α) (v : Int) (x : α) : lookM (es ++ [(k, v)]) x = if k = x then some v else lookM es x := by
 unfold lookM; rw [List.foldl_append]; rfl
structure KeyEnc (K : TypeId) (α : Type) where
 enc : α → Value
 good : α → Prop
 kl : α → Lit
 law : Keyed Try.prog K
 key : ∀ x, good x → keyOf Try.prog K (enc x) = some (kl x)
 inj : ∀ x y, enc x = enc y → x = y
theorem KeyEnc.kl_inj {K : TypeId} {α : Type} (E : KeyEnc K α) {x y : α} (hx : E.good x) (hy : E.good y) (h : E.kl x = E.kl y) : x = y :=
 E.inj _ _ (E.law.inj (E.key x hx) (by rw [E.key y hy, h]))
theorem KeyEnc.isKey {K : TypeId} {α : Type} (E : KeyEnc K α) {x : α} (hx : E.good x) : WideAt.IsKeyLit (E.kl x) := E.law.key (E.key x hx)
def datM {α : Type} (kl : α → Lit) (es : List (α × Int)) : DataW Unit := es.foldl (fun m p => m.put (kl p.1) (.lit (.int .i64 p.2))) (.map [])
theorem datM_snoc {α : Type} (kl : α → Lit) (es : List (α × Int)) (k : α) (v : Int) : datM kl (es ++ [(k, v)]) = (datM kl es).put (kl k) (.lit (.int .i64 v)) := by
 unfold datM; rw [List.foldl_append]; rfl
section
variable {K : TypeId} {α : Type} [DecidableEq α] (E : KeyEnc K α)
theorem datM_fold (es : List (α × Int)) : ∀ (m : DataW Unit) (r : Option Int) (x : α), E.good x → (∀ p ∈ es, E.good p.1) → IsMap m → Maps.has m (E.kl x) = r.isSome → m.atKey (E.kl x) (.lit (.int .i64 0)) = .lit (.int .i64 (r.getD 0)) →
 Maps.has (es.foldl (fun m p => m.put (E.kl p.1) (.lit (.int .i64 p.2))) m) (E.kl x) = (es.foldl (fun r p => if p.1 = x then some p.2 else r) r).isSome ∧
 (es.foldl (fun m p => m.put (E.kl p.1) (.lit (.int .i64 p.2))) m).atKey (E.kl x) (.lit (.int .i64 0)) = .lit (.int .i64 ((es.foldl (fun r p => if p.1 = x then some p.2 else r) r).getD 0)) := by
 induction es with
 | nil => intro m r x _ _ _ h1 h2; exact ⟨h1, h2⟩
 | cons p es ih =>
  intro m r x hx hg hm h1 h2
  simp only [List.foldl_cons]
  have hp := hg p List.mem_cons_self
  refine ih _ _ x hx (fun q hq => hg q (List.mem_cons_of_mem _ hq)) (hm.put _ _) ?_ ?_
  ·by_cases e : p.1 = x
   ·rw [if_pos e, e, has_put_same hm (E.isKey hx)]; rfl
   ·rw [if_neg e, has_put_other (fun h => e (E.kl_inj hp hx h.symm))]; exact h1
  ·by_cases e : p.1 = x
   ·rw [if_pos e, e, atKey_put_same hm (E.isKey hx)]; rfl
   ·rw [if_neg e, atKey_put_other (fun h => e (E.kl_inj hp hx h.symm))]; exact h2
theorem has_datM {es : List (α × Int)} (hes : ∀ p ∈ es, E.good p.1) {x : α} (hx : E.good x) : Maps.has (datM E.kl es) (E.kl x) = (lookM es x).isSome :=
 (datM_fold E es (.map []) none x hx hes isMap_empty rfl rfl).1
theorem at_datM {es : List (α × Int)} (hes : ∀ p ∈ es, E.good p.1) {x : α} (hx : E.good x) : (datM E.kl es).atKey (E.kl x) (.lit (.int .i64 0)) = .lit (.int .i64 ((lookM es x).getD 0)) :=
 (datM_fold E es (.map []) none x hx hes isMap_empty rfl rfl).2
end
def MapI {K : TypeId} {α : Type} (E : KeyEnc K α) (w : World) (b n : Nat) (es : List (α × Int)) : Prop := (w.ownsMap Try.prog K (plainElem Try.prog 3) b n (datM E.kl es)) ∧ ∀ p ∈ es, E.good p.1
section
variable {K : TypeId} {α : Type} {E : KeyEnc K α} {w w1 : World} {b n : Nat} {es : List (α × Int)}
theorem MapI.made (E : KeyEnc K α) (w : World) : MapI E (w.alloc (.map #[] 0)) w.heap.size 0 ([] : List (α × Int)) := ⟨World.ownsMap_made _ _ _ _, fun p hp => by cases hp⟩
theorem MapI.block (h : MapI E w b n es) : ∃ es clock, w.heap[b]? = some (.map es clock) := by obtain ⟨⟨x, c, hb, _⟩, _⟩ := h; exact ⟨x, c, hb⟩
theorem MapI.lt (h : MapI E w b n es) : b < w.heap.size := by
 obtain ⟨x, c, hb⟩ := h.block
 exact (Array.getElem?_eq_some_iff.1 hb).1
theorem MapI.move (h : MapI E w b n es) (hb : w1.heap[b]? = w.heap[b]?) : MapI E w1 b n es := by
 obtain ⟨⟨x, c, hx, r⟩, g⟩ := h
 exact ⟨⟨x, c, hb.trans hx, r⟩, g⟩
theorem MapI.below (h : MapI E w b n es) (hb : Below w.heap.size w w1) : MapI E w1 b n es := h.move (hb.block b h.lt)
theorem MapI.alloc (h : MapI E w b n es) (o : Obj) : MapI E (w.alloc o) b n es := h.below (below_alloc (Below.refl _ _) o)
theorem MapI.drew (h : MapI E w b n es) : MapI E w.drew b n es := h.below (below_drew (Below.refl _ _))
theorem MapI.drewN (h : MapI E w b n es) (m : Nat) : MapI E (w.drewN m) b n es := h.below (pw_below_drewN (Below.refl _ _) m)
theorem MapI.grown (h : MapI E w b n es) {row : Option Nat} (hg : w.grownBy w1 row) (ht : ∀ k, row = some k → ∃ cells q fr, w.heap[k]? = some (.cells cells q fr)) : MapI E w1 b n es :=
 h.move (hg.block b h.lt (fun e => by
  obtain ⟨x, c, hb⟩ := h.block
  obtain ⟨cells, q, fr, hk⟩ := ht b e.symm
  rw [hk] at hb; injection hb with hb; cases hb))
theorem MapI.put [DecidableEq α] (h : MapI E w b n es) {n' : Nat} {x : α} {v : Int} (hx : E.good x) (hw : w1.ownsMap Try.prog K (plainElem Try.prog 3) b n' ((datM E.kl es).put (E.kl x) (.lit (.int .i64 v)))) : MapI E w1 b n' (es ++ [(x, v)]) := by
 refine ⟨by rw [datM_snoc]; exact hw, fun p hp => ?_⟩
 rcases List.mem_append.1 hp with hp | hp
 ·exact h.2 p hp
 ·rw [List.mem_singleton.1 hp]; exact hx
end
theorem S_nomap {α : Type} {d : Kd α} {e : Nat} {w : World} {base : Nat} {ok : Nat → Prop} {v : Value} {xs : List α} (h : Kd.S d e w base ok v xs) {b : Nat} (hb : ∃ es clock, w.heap[b]? = some (.map es clock)) : Kd.S d e w base (fun k => ok k ∧ k ≠ b) v xs :=
 Kd.S_mono (Kd.S_bound h) (fun k hk => ⟨hk.1, by
  obtain ⟨_, _, _, q, _, cells, hc⟩ := hk
  obtain ⟨es, clock, hm⟩ := hb
  rintro rfl
  rw [hc] at hm; injection hm with hm; cases hm⟩)
theorem R_nomap {α : Type} {d : Kd α} {e : Nat} {w : World} {base : Nat} {ok : Nat → Prop} {v : Value} {xs : List α} (h : Kd.R d e w base ok v xs) {b : Nat} (hb : ∃ es clock, w.heap[b]? = some (.map es clock)) : Kd.R d e w base (fun k => ok k ∧ k ≠ b) v xs :=
 Kd.R_mono (Kd.R_bound h) (fun k hk => ⟨hk.1, by
  obtain ⟨_, _, _, q, _, cells, hc⟩ := hk
  obtain ⟨es, clock, hm⟩ := hb
  rintro rfl
  rw [hc] at hm; injection hm with hm; cases hm⟩)
theorem laidOutT : laidOutB Try.prog = true := by kernel_rfl
theorem zeroInt (w : World) : (zeroValue 3).run Try.prog w = .ok (.int .i64 0) w := by kernel_rfl
def w64 (n : Int) : Prop := (Lit.int .i64 n).wf = true
def kl2 (p : Int × Int) : Lit := .string (keyBytes [.int .i64 p.1, .int .i64 p.2])
theorem sizeT : ∃ m, Try.prog.types.size = m + 1 := ⟨170, by kernel_rfl⟩
theorem arr120 : WideMaps.ArrKey Try.prog 120 3 2 := ⟨Try.underlying120, by kernel_rfl, by kernel_rfl, by kernel_rfl⟩
theorem keyT26 : Try.prog.keyType 26 = true := by kernel_rfl
theorem cells26 : Try.prog.cellsOf 26 = 2 := by kernel_rfl
theorem cells3 : Try.prog.cellsOf 3 = 1 := by kernel_rfl
theorem key_120 (a b : Int) (ha : w64 a) (hb : w64 b) : keyOf Try.prog 120 (.agg #[.int .i64 a, .int .i64 b]) = some (kl2 (a, b)) :=
 WideMaps.keyOf_pair arr120 Try.underlying3 sizeT ha hb
theorem key_26 (a b : Int) (ha : w64 a) (hb : w64 b) : keyOf Try.prog 26 (.agg #[.int .i64 a, .int .i64 b]) = some (kl2 (a, b)) := by
 have ha' : (Lit.int .i64 a).wf = true := ha
 have hb' : (Lit.int .i64 b).wf = true := hb
 obtain ⟨m, hm⟩ := sizeT
 unfold keyOf
 simp only [Try.underlying26]
 rw [if_pos (by simp [keyT26, Value.formed, Try.underlying26, cells26]), hm]
 unfold Program.keyLits
 simp only [Try.underlying26, Value.cells]
 rw [if_pos ⟨by rw [cells26]; rfl, by decide +kernel⟩]
 simp [cells3, Program.keyLits, Try.underlying3, ha', hb', kl2]
theorem law120 : Keyed Try.prog 120 := Keyed.of_law (deep_law_laid laidOutT (m := 2) (by decide) (by decide +kernel) (by kernel_rfl) (by rw [Try.underlying120]))
theorem law26 : Keyed Try.prog 26 := Keyed.of_law (deep_law_laid laidOutT (m := 2) (by decide) (by decide +kernel) (by kernel_rfl) (by rw [Try.underlying26]))
theorem law3 : Keyed Try.prog 3 := int_keyed Try.underlying3
def enc2 (p : Int × Int) : Value := .agg #[.int .i64 p.1, .int .i64 p.2]
theorem enc2_inj (x y : Int × Int) (h : enc2 x = enc2 y) : x = y := by
 unfold enc2 at h
 injection h with h
 simp only [Array.mk.injEq, List.cons.injEq, Value.int.injEq, true_and, and_true] at h
 exact Prod.ext h.1 h.2
def E120 : KeyEnc 120 (Int × Int) := ⟨enc2, fun p => w64 p.1 ∧ w64 p.2, kl2, law120, fun x h => key_120 x.1 x.2 h.1 h.2, enc2_inj⟩
def E26 : KeyEnc 26 (Int × Int) := ⟨enc2, fun p => w64 p.1 ∧ w64 p.2, kl2, law26, fun x h => key_26 x.1 x.2 h.1 h.2, enc2_inj⟩
def E3 : KeyEnc 3 Int := ⟨Value.int .i64, w64, Lit.int .i64, law3, fun x h => keyOf_int_mk Try.underlying3 h, fun x y h => by injection h⟩
section
variable {K : TypeId} {α : Type} {E : KeyEnc K α} {w w1 : World} {b n : Nat} {es : List (α × Int)}
theorem MapI.ne (h : MapI E w b n es) {g : Nat} {cells : Array Value} {q : TypeId} {fr : Nat × Nat} (hg : w.heap[g]? = some (.cells cells q fr)) : g ≠ b := by
 obtain ⟨x, c, hb⟩ := h.block
 rintro rfl
 rw [hg] at hb; injection hb with hb; cases hb
theorem MapI.far (h : MapI E w b n es) {p : Addr} (hne : p.block ≠ b) (u : Value) : MapI E (w.setCell p u) b n es := h.move (Below.heap_setCell w p u b (fun e => hne e.symm))
theorem MapI.farg (h : MapI E w b n es) {g j : Nat} (hne : g ≠ b) (u : Value) : MapI E (w.setCell ⟨g, j, none⟩ u) b n es := h.far (p := ⟨g, j, none⟩) hne u
theorem MapI.grownT (h : MapI E w b n es) {row : Option Nat} (hg : w.grownBy w1 row) {q : TypeId} (ht : ∀ k, row = some k → ∃ cells, w.heap[k]? = some (.cells cells q (0, 0))) : MapI E w1 b n es :=
 h.grown hg (fun k hk => by obtain ⟨c, hc⟩ := ht k hk; exact ⟨c, q, (0, 0), hc⟩)
end
section
variable {ops : Array Oper} {rest : List Oper} {o : Oper} {a : Act} {Q : Exit → Act → World → Prop} {K : TypeId} {α : Type}
theorem mmake (E : KeyEnc K α) (W : World) (hg : o.guard = none) (t : TypeId) (hop : o.op = Op.makeMap t none)
 (hK : ∀ w' mb, MapI E w' mb 0 ([] : List (α × Int)) → Below W.heap.size W w' → W.heap.size ≤ mb → wpList Try.prog ops Q rest (a.put o.dst (.map (some mb))) w') : wpList Try.prog ops Q (o :: rest) a W := by
 refine wpList_plain hg fun K' hK' => ?_
 unfold Oper.wp
 have hmm := @run_makeMap Try.prog t W
 simp [execOp, hop, hmm, Result.andThen]
 exact hK' _ _ (hK _ _ (MapI.made E W) (below_alloc (Below.refl _ _) _) (Nat.le_refl _))
theorem mlook [DecidableEq α] (E : KeyEnc K α) (W : World) (hg : o.guard = none) (m x : Operand) (t : TypeId) (hop : o.op = Op.lookup t m x true) (ht : Try.prog.underlying t = some (.map K 3)) {b n : Nat} {es : List (α × Int)}
 (hm : a.eval m = .map (some b)) (hM : MapI E W b n es) (key : α) (hx : a.eval x = E.enc key) (hk : E.good key)
 (hK : ∀ w', Below W.heap.size W w' → wpList Try.prog ops Q rest (a.put o.dst (.tuple #[.int .i64 ((lookM es key).getD 0), .bool (lookM es key).isSome])) w') : wpList Try.prog ops Q (o :: rest) a W := by
 refine wpList_lookup_own_ok_int W hg m x t hop K 3 .i64 E.law ht Try.underlying3 (zeroInt W) b n _ hm hM.1 _ (E.kl key) hx (E.key key hk) ?_
 intro c hat hwc
 rw [has_datM E hM.2 hk]
 have h2 := at_datM E hM.2 hk
 rw [hat] at h2
 injection h2 with h2
 injection h2 with _ h2
 subst h2
 exact hK W (Below.refl _ _)
theorem mput [DecidableEq α] (E : KeyEnc K α) (W : World) (hg : o.guard = none) (m x v : Operand) (t : TypeId) (hop : o.op = Op.mapUpdate t m x v) (ht : Try.prog.underlying t = some (.map K 3)) {b n : Nat} {es : List (α × Int)}
 (hm : a.eval m = .map (some b)) (hM : MapI E W b n es) (key : α) (val : Int) (hx : a.eval x = E.enc key) (hv : a.eval v = .int .i64 val) (hk : E.good key) (hw : w64 val) (hn : n < maxLen)
 (hK : ∀ w', MapI E w' b (n + 1) (es ++ [(key, val)]) → W.grownBy w' (some b) → wpList Try.prog ops Q rest (a.put o.dst undef) w') : wpList Try.prog ops Q (o :: rest) a W := by
 refine wpList_mapUpdate_own W hg m x v t hop K 3 E.law ht (plainElem Try.prog 3) b n _ hm hM.1 hn _ _ (E.kl key) hx hv (E.key key hk) (.lit (.int .i64 val)) [] (plainElem_int Try.underlying3 hw) ?_
 intro w' h1 h2
 exact hK w' (MapI.put hM hk h1) h2
end
def lookF {α : Type} [DecidableEq α] (good : α → Bool) (es : List (α × Int)) (x : α) : Option (Int × Bool) := if good x = true then some ((lookM es x).getD 0, (lookM es x).isSome) else none
def putF {α : Type} (good : α → Bool) (es : List (α × Int)) (x : α) (v : Int) : Option (List (α × Int)) := if good x = true ∧ (Lit.int .i64 v).wf = true ∧ es.length < 100000000 then some (es ++ [(x, v)]) else none
def good2 (p : Int × Int) : Bool := (Lit.int .i64 p.1).wf && (Lit.int .i64 p.2).wf
theorem good2_ok {p : Int × Int} (h : good2 p = true) : w64 p.1 ∧ w64 p.2 := by simpa [good2, w64] using h
theorem lookF_some {α : Type} [DecidableEq α] {good : α → Bool} {es : List (α × Int)} {x : α} {v : Int} {b : Bool} (h : lookF good es x = some (v, b)) : good x = true ∧ (lookM es x).getD 0 = v ∧ (lookM es x).isSome = b := by
 unfold lookF at h
 split at h
 ·rename_i hg
  injection h with h
  injection h with h1 h2
  exact ⟨hg, h1, h2⟩
 ·cases h
theorem putF_some {α : Type} {good : α → Bool} {es es' : List (α × Int)} {x : α} {v : Int} (h : putF good es x v = some es') : good x = true ∧ w64 v ∧ es.length < 100000000 ∧ es' = es ++ [(x, v)] := by
 unfold putF at h
 split at h
 ·rename_i hg
  injection h with h
  exact ⟨hg.1, hg.2.1, hg.2.2, h.symm⟩
 ·cases h
theorem mput_step {ops : Array Oper} {oi : Oper} {a : Act} {w : World} {Q : Exit → Act → World → Prop} {Kc : Act → World → Prop} {K : TypeId} {α : Type} [DecidableEq α] (E : KeyEnc K α) (hw : Region.wanted oi (yielded ops a.tmps) = true) (hN : oi.dst = none) (m x v : Operand) (t : TypeId) (hop : oi.op = Op.mapUpdate t m x v) (ht : Try.prog.underlying t = some (.map K 3)) {b n : Nat} {es : List (α × Int)}
 (hm : a.eval m = .map (some b)) (hM : MapI E w b n es) (key : α) (val : Int) (hx : a.eval x = E.enc key) (hv : a.eval v = .int .i64 val) (hk : E.good key) (hwv : w64 val) (hn : n < maxLen)
 (h : ∀ w', MapI E w' b (n + 1) (es ++ [(key, val)]) → w.grownBy w' (some b) → Kc a w') : if Region.wanted oi (yielded ops a.tmps) = true then Oper.wp Try.prog oi a w Kc Q else Kc (a.put none undef) w := by
 rw [if_pos hw]
 obtain ⟨w', hrun, r1, r2⟩ := hM.1.update E.law ht hn (E.key key hk) (plainElem_int Try.underlying3 hwv)
 unfold Oper.wp
 simp [execOp, hop, hm, hx, hv, hrun, Result.andThen]
 show Kc (a.put oi.dst undef) w'
 rw [hN]
 exact h w' (MapI.put hM hk r1) r2
theorem MapI.grownO {K : TypeId} {α : Type} {E : KeyEnc K α} {w w1 : World} {b n : Nat} {es : List (α × Int)} (h : MapI E w b n es) {m : Nat} (hg : w.grownBy w1 (some m)) (hne : b ≠ m) : MapI E w1 b n es :=
 h.move (hg.block b h.lt (fun e => hne (Option.some.inj e)))
structure GridW (w : World) (base : Nat) (ok : Nat → Prop) (gg : Nat) (N V : Int) (v : Value) (arcs : List S54) (m1 m2 m3 m4 : Nat) (l1 l2 : List ((Int × Int) × Int)) (l3 l4 : List (Int × Int)) : Prop where
 blk : w.heap[gg]? = some (.cells #[.int .i64 N, .bool false, v, .map (some m1), .map (some m2), .map (some m3), .map (some m4), .int .i64 V] 76 (0, 0))
 row : Kd.R k54 54 w base (fun k => ok k ∧ k ≠ gg) v arcs
 ge : base ≤ gg
 M1 : MapI E26 w m1 l1.length l1
 M2 : MapI E26 w m2 l2.length l2
 M3 : MapI E3 w m3 l3.length l3
 M4 : MapI E3 w m4 l4.length l4
 o1 : base ≤ m1
 o2 : m1 < m2
 o3 : m2 < m3
 o4 : m3 < m4
section
variable {w w1 : World} {base : Nat} {ok ok' : Nat → Prop} {gg : Nat} {N V : Int} {v : Value} {arcs : List S54} {m1 m2 m3 m4 : Nat} {l1 l2 : List ((Int × Int) × Int)} {l3 l4 : List (Int × Int)}
theorem GridW.below (h : GridW w base ok gg N V v arcs m1 m2 m3 m4 l1 l2 l3 l4) (hb : Below w.heap.size w w1) : GridW w1 base ok gg N V v arcs m1 m2 m3 m4 l1 l2 l3 l4 :=
 ⟨blk_below h.blk hb, Kd.R_below h.row hb, h.ge, h.M1.below hb, h.M2.below hb, h.M3.below hb, h.M4.below hb, h.o1, h.o2, h.o3, h.o4⟩
theorem GridW.drew (h : GridW w base ok gg N V v arcs m1 m2 m3 m4 l1 l2 l3 l4) : GridW w.drew base ok gg N V v arcs m1 m2 m3 m4 l1 l2 l3 l4 := h.below (below_drew (Below.refl _ _))
theorem GridW.mono (h : GridW w base ok gg N V v arcs m1 m2 m3 m4 l1 l2 l3 l4) (hk : ∀ k, ok k → ok' k) : GridW w base ok' gg N V v arcs m1 m2 m3 m4 l1 l2 l3 l4 :=
 ⟨h.blk, Kd.R_mono h.row (fun k hh => ⟨hk k hh.1, hh.2⟩), h.ge, h.M1, h.M2, h.M3, h.M4, h.o1, h.o2, h.o3, h.o4⟩
theorem GridW.elder (h : GridW w base ok gg N V v arcs m1 m2 m3 m4 l1 l2 l3 l4) (a : Nat) (ha : w.heap.size ≤ a) : GridW w base (fun k => ok k ∧ k ≠ a) gg N V v arcs m1 m2 m3 m4 l1 l2 l3 l4 :=
 ⟨h.blk, Kd.R_mono (Kd.R_elderB h.row a ha) (fun k hh => ⟨⟨hh.1.1, hh.2⟩, hh.1.2⟩), h.ge, h.M1, h.M2, h.M3, h.M4, h.o1, h.o2, h.o3, h.o4⟩
theorem GridW.lower {base' : Nat} (h : GridW w base ok gg N V v arcs m1 m2 m3 m4 l1 l2 l3 l4) (hb : base' ≤ base) : GridW w base' ok gg N V v arcs m1 m2 m3 m4 l1 l2 l3 l4 :=
 ⟨h.blk, Kd.R_lower h.row hb, Nat.le_trans hb h.ge, h.M1, h.M2, h.M3, h.M4, Nat.le_trans hb h.o1, h.o2, h.o3, h.o4⟩
theorem GridW.far (h : GridW w base ok gg N V v arcs m1 m2 m3 m4 l1 l2 l3 l4) {g : Nat} {cs : Array Value} {t : TypeId} (hg : w.heap[g]? = some (.cells cs t (0, 0))) (hne : gg ≠ g) (hok : ¬ ok g) (j : Nat) (u : Value) : GridW (w.setCell ⟨g, j, none⟩ u) base ok gg N V v arcs m1 m2 m3 m4 l1 l2 l3 l4 :=
 ⟨blk_far h.blk hne u, Kd.R_far (p := ⟨g, j, none⟩) h.row (fun k hk e => hok (by subst e; exact hk.1)) u, h.ge, h.M1.farg (h.M1.ne hg) u, h.M2.farg (h.M2.ne hg) u, h.M3.farg (h.M3.ne hg) u, h.M4.farg (h.M4.ne hg) u, h.o1, h.o2, h.o3, h.o4⟩
theorem GridW.lt (h : GridW w base ok gg N V v arcs m1 m2 m3 m4 l1 l2 l3 l4) : gg < w.heap.size := blk_lt h.blk
theorem GridW.put1 (h : GridW w base ok gg N V v arcs m1 m2 m3 m4 l1 l2 l3 l4) {x : (Int × Int) × Int} (hg : w.grownBy w1 (some m1)) (hM : MapI E26 w1 m1 (l1.length + 1) (l1 ++ [x])) : GridW w1 base ok gg N V v arcs m1 m2 m3 m4 (l1 ++ [x]) l2 l3 l4 :=
 ⟨blk_grown h.blk hg (fun e => h.M1.ne h.blk (Option.some.inj e)), Kd.R_mono (Kd.R_grown (R_nomap h.row h.M1.block) hg (fun k hk e => hk.2 (Option.some.inj e))) (fun k hk => hk.1), h.ge, by rw [List.length_append]; exact hM, h.M2.grownO hg (by have := h.o2; omega), h.M3.grownO hg (by have := h.o2; have := h.o3; omega), h.M4.grownO hg (by have := h.o2; have := h.o3; have := h.o4; omega), h.o1, h.o2, h.o3, h.o4⟩
theorem GridW.put2 (h : GridW w base ok gg N V v arcs m1 m2 m3 m4 l1 l2 l3 l4) {x : (Int × Int) × Int} (hg : w.grownBy w1 (some m2)) (hM : MapI E26 w1 m2 (l2.length + 1) (l2 ++ [x])) : GridW w1 base ok gg N V v arcs m1 m2 m3 m4 l1 (l2 ++ [x]) l3 l4 :=
 ⟨blk_grown h.blk hg (fun e => h.M2.ne h.blk (Option.some.inj e)), Kd.R_mono (Kd.R_grown (R_nomap h.row h.M2.block) hg (fun k hk e => hk.2 (Option.some.inj e))) (fun k hk => hk.1), h.ge, h.M1.grownO hg (by have := h.o2; omega), by rw [List.length_append]; exact hM, h.M3.grownO hg (by have := h.o3; omega), h.M4.grownO hg (by have := h.o3; have := h.o4; omega), h.o1, h.o2, h.o3, h.o4⟩
theorem GridW.put3 (h : GridW w base ok gg N V v arcs m1 m2 m3 m4 l1 l2 l3 l4) {x : Int × Int} (hg : w.grownBy w1 (some m3)) (hM : MapI E3 w1 m3 (l3.length + 1) (l3 ++ [x])) : GridW w1 base ok gg N V v arcs m1 m2 m3 m4 l1 l2 (l3 ++ [x]) l4 :=
 ⟨blk_grown h.blk hg (fun e => h.M3.ne h.blk (Option.some.inj e)), Kd.R_mono (Kd.R_grown (R_nomap h.row h.M3.block) hg (fun k hk e => hk.2 (Option.some.inj e))) (fun k hk => hk.1), h.ge, h.M1.grownO hg (by have := h.o2; have := h.o3; omega), h.M2.grownO hg (by have := h.o3; omega), by rw [List.length_append]; exact hM, h.M4.grownO hg (by have := h.o4; omega), h.o1, h.o2, h.o3, h.o4⟩
theorem GridW.put4 (h : GridW w base ok gg N V v arcs m1 m2 m3 m4 l1 l2 l3 l4) {x : Int × Int} (hg : w.grownBy w1 (some m4)) (hM : MapI E3 w1 m4 (l4.length + 1) (l4 ++ [x])) : GridW w1 base ok gg N V v arcs m1 m2 m3 m4 l1 l2 l3 (l4 ++ [x]) :=
 ⟨blk_grown h.blk hg (fun e => h.M4.ne h.blk (Option.some.inj e)), Kd.R_mono (Kd.R_grown (R_nomap h.row h.M4.block) hg (fun k hk e => hk.2 (Option.some.inj e))) (fun k hk => hk.1), h.ge, h.M1.grownO hg (by have := h.o2; have := h.o3; have := h.o4; omega), h.M2.grownO hg (by have := h.o3; have := h.o4; omega), h.M3.grownO hg (by have := h.o4; omega), by rw [List.length_append]; exact hM, h.o1, h.o2, h.o3, h.o4⟩
theorem GridW.added {u : Value} {xs : List S54} (h : GridW w base ok gg N V u arcs m1 m2 m3 m4 l1 l2 l3 l4) (ho : Kd.R k54 54 w1 base (fun k => ok k ∧ k ≠ gg) v xs) (hg : w.grownBy w1 u.ownBlock) :
 GridW (w1.setCell ⟨gg, 2, none⟩ v) base ok gg N V v xs m1 m2 m3 m4 l1 l2 l3 l4 ∧ w1.heap[gg]? = some (.cells #[.int .i64 N, .bool false, u, .map (some m1), .map (some m2), .map (some m3), .map (some m4), .int .i64 V] 76 (0, 0)) ∧ Kept w (w1.setCell ⟨gg, 2, none⟩ v) (fun k => k = gg ∨ ok k) := by
 have hne : some gg ≠ u.ownBlock := fun e => (h.row.1 gg e.symm).2 rfl
 have hb := blk_grown h.blk hg hne
 refine ⟨⟨blk_put (cs' := #[.int .i64 N, .bool false, v, .map (some m1), .map (some m2), .map (some m3), .map (some m4), .int .i64 V]) hb 2 v rfl, Kd.R_far (p := ⟨gg, 2, none⟩) ho (fun k hk => hk.2) _, h.ge, ?_, ?_, ?_, ?_, h.o1, h.o2, h.o3, h.o4⟩, hb, ?_⟩
 ·exact MapI.farg (MapI.grownT h.M1 (q := 54) hg (Kd.R_typed h.row)) (h.M1.ne h.blk) _
 ·exact MapI.farg (MapI.grownT h.M2 (q := 54) hg (Kd.R_typed h.row)) (h.M2.ne h.blk) _
 ·exact MapI.farg (MapI.grownT h.M3 (q := 54) hg (Kd.R_typed h.row)) (h.M3.ne h.blk) _
 ·exact MapI.farg (MapI.grownT h.M4 (q := 54) hg (Kd.R_typed h.row)) (h.M4.ne h.blk) _
 ·exact Kept.setCell (p := ⟨gg, 2, none⟩) (Kept.of_grown hg (Kept.refl w (fun k => k = gg ∨ ok k)) (fun k hk => Or.inl (Or.inr (h.row.1 k hk).1))) (Or.inl (Or.inl rfl)) v
theorem GridW.fresh (h : GridW w base ok gg N V v arcs m1 m2 m3 m4 l1 l2 l3 l4) (hf : ∀ k, w.heap.size ≤ k → ok k) : ∀ k, w.heap.size ≤ k → ok k ∧ k ≠ gg := fun k hk => ⟨hf k hk, fun e => by have := h.lt; omega⟩
end
set_option maxHeartbeats 8000000 in
set_option maxRecDepth 100000 in
theorem Grid_At.calls (gg : Nat) (N V x1 x2 : Int) (u p1 p2 p3 p4 : Value) (w : World) (hb : w.heap[gg]? = some (.cells #[.int .i64 N, .bool false, u, p1, p2, p3, p4, .int .i64 V] 76 (0, 0))) :
 Calls Try.prog 64 #[.pointer (some ⟨gg, 0, none⟩), .int .i64 x1, .int .i64 x2] w fun e w' => e = .returned (.int .i64 (wrap64 (wrap64 (x2 * V) + x1))) ∧ w' = w := by
 have z : w.cell? ⟨gg, 7, none⟩ = some (.int .i64 V) := (blk_cell hb 7).trans rfl
 clear hb
 go_enter Try.func64, Try.ntmps64
 go_wp2
 go_ret
 exact ⟨rfl, rfl⟩
def Grid_Ends.T1 : Bool × List (List Nat × List Nat) := (true, [([], []), ([0], [0]), ([1], [1]), ([2], [2]), ([3], [3]), ([4], [4]), ([], []), ([6], [6]), ([7], [7]), ([8], [8]), ([9], [9]), ([10], [10]), ([5, 0, 1, 2, 3, 4, 5], [5]), ([11, 12, 0, 1, 2, 3, 4, 5, 6, 7, 8, 9, 10, 11, 12], [11])])
def Grid_Ends.B1 : List Nat := [0, 1, 3, 7, 15, 31, 0, 64, 192, 448, 960, 1984, 63, 8191]
theorem Grid_Ends.tab1 : rtab .any (opsOf Try.f62 1) = Grid_Ends.T1 := by kernel_rfl
theorem Grid_Ends.bits1 : waitsOk Grid_Ends.T1.2 Grid_Ends.B1 = true := by kernel_rfl
set_option maxHeartbeats 8000000 in
set_option maxRecDepth 100000 in
theorem Grid_Ends.calls (gg : Nat) (N V : Int) (u p1 p2 p3 p4 : Value) (w : World) (hb : w.heap[gg]? = some (.cells #[.int .i64 N, .bool false, u, p1, p2, p3, p4, .int .i64 V] 76 (0, 0))) :
 Calls Try.prog 62 #[.pointer (some ⟨gg, 0, none⟩)] w fun e w' => e = .returned (.tuple #[.int .i64 (wrap64 (N - 2)), .int .i64 (wrap64 (N - 1))]) ∧ Below w.heap.size w w' := by
 have z : w.cell? ⟨gg, 0, none⟩ = some (.int .i64 N) := (blk_cell hb 0).trans rfl
 have HB := am_ (below_drew1 (Below.refl w.heap.size w))
 clear hb
 go_enter Try.func62, Try.ntmps62
 go_wp2
 refine start_ (n := 14) (S := fun w' => w'.cell? ⟨gg, 0, none⟩ = some (.int .i64 N)) (ds := []) #[Ff,Ff,Ff,Ff,Ff,Ff,Ff,Ff,Ff,Ff,Ff,Ff,Ff,Ff] (by kernel_rfl) rfl rfl z (fun hHeld => ?_)
 clear z
 generalize w.drew = w1 at HB hHeld ⊢
 refine with_tabW Grid_Ends.tab1 Grid_Ends.bits1 (fun HT_ HW_ => ?_)
 refine pw_ 0 4 ?_
 refine pw_ 1 5 ?_
 refine pw_ 2 6 ?_
 refine pw_ 3 7 ?_
 refine pw_ 6 10 ?_
 refine pw_ 7 11 ?_
 refine pw_ 8 12 ?_
 refine pw_ 9 13 ?_
 refine tk_ 4 8 ?_
 refine pw_ 5 9 ?_
 refine pw_ 12 2 ?_
 refine tk_ 10 14 ?_
 refine pw_ 11 15 ?_
 refine pw_ 13 3 ?_
 refine done_ (done_of HT_.out (by kernel_rfl)) ?_
 go_wp2
 go_ret2
 exact ⟨rfl, HB.out⟩
set_option maxHeartbeats 8000000 in
set_option maxRecDepth 100000 in
theorem Grid_Add.calls (ok : Nat → Prop) (gg : Nat) (N V : Int) (v : Value) (arcs : List S54) (m1 m2 m3 m4 : Nat) (l1 l2 : List ((Int × Int) × Int)) (l3 l4 : List (Int × Int)) (x1 x2 x3 : Int) (w0 w : World) (hB : Below w0.heap.size w0 w)
 (hG : GridW w w0.heap.size ok gg N V v arcs m1 m2 m3 m4 l1 l2 l3 l4) (hfresh : ∀ k, w.heap.size ≤ k → ok k) (hl : arcs.length ≤ 1048576) :
 Calls Try.prog 63 #[.pointer (some ⟨gg, 0, none⟩), .int .i64 x1, .int .i64 x2, .int .i64 x3] w fun e w' => e = .returned (.int .i64 (arcs.length : Int)) ∧ ∃ v', GridW w' w0.heap.size ok gg N V v' (arcs ++ [⟨x1, x2, x3, 0⟩]) m1 m2 m3 m4 l1 l2 l3 l4 ∧ Below w0.heap.size w0 w' ∧ Kept w w' (fun k => k = gg ∨ ok k) := by
 have HB := am_ hB
 have HG := am_ hG
 have HF := am_ hfresh
 have HL := am_ hl
 obtain ⟨A, c, ev⟩ := Kd.R_slice hG.row
 subst ev
 have z : w.cell? ⟨gg, 2, none⟩ = some (.slice A arcs.length c) := (blk_cell hG.blk 2).trans rfl
 clear hB hG hfresh hl
 go_enter Try.func63, Try.ntmps63
 go_wp2_with ((with_reducible refine gate_builtin (b := .append) (xs := #[.tmp 14, .tmp 19]) rfl ?_); at_builtin; refine Kd.R_append k54 (w0 := w0) w0.heap.size rfl (.tmp 14) (.tmp 19) 22 54 (.agg #[(.int .i64 0), (.int .i64 0), (.int .i64 0), (.int .i64 0)]) 32 rfl Try.underlying22 info54 rfl (by decide) (by omega) (.slice A arcs.length c) arcs (⟨x1, x2, x3, 0⟩ : S54) [(.int .i64 x1), (.int .i64 x2), (.int .i64 x3), (.int .i64 0)] (fun k_ => ok k_ ∧ k_ ≠ gg) (fun _ => False) rfl (by first | (go_simp; done) | (go_simp; rfl)) ?aP (fun _ hk => hk.elim) ?aF ?aO ?aB ?aS ?aL ?_; (case aP => exact k54_mkM _ _ _ (⟨x1, x2, x3, 0⟩ : S54)); (case aB => exact HB.out); (case aF => exact HG.out.fresh HF.out); (case aO => exact HG.out.row); (case aS => exact below_size HB.out); (case aL => have := HL.out; omega); intro v1 w1 ho hb hg hat; have hadd := HG.out.added ho hg; clear z; have z : w1.cell? ⟨gg, 2, none⟩ = some (.slice A arcs.length c) := (blk_cell hadd.2.1 2).trans rfl; have y := blk_frozen hadd.2.1 2; have n1_ := am_ (below_set hb HG.out.ge (j := 2) (v := v1)); obtain ⟨A1, c1, e1⟩ := Kd.R_slice ho; rw [show (arcs ++ [(⟨x1, x2, x3, 0⟩ : S54)]).length = arcs.length + 1 from by simp] at e1; subst e1; have n0_ := am_ hadd.1; have n2_ := am_ hadd.2.2; clear hadd; clear hb hg hat ho HB HG HF; have HB := n1_; have HG := n0_; have HK := n2_; clear n0_ n1_ n2_)
 go_ret
 exact ⟨by first | rfl | exact congrArg (fun i => Ending.returned (.int .i64 i)) (by have := HL.out; unfold wrap64; omega), _, HG.out, HB.out, HK.out⟩
theorem Of1.calls (f0 f1 f2 f3 s t : Int) (gs gt : Nat) (w : World) (hs : w.heap[gs]? = some (.cells #[.int .i64 s] 3 (0, 0))) (ht : w.heap[gt]? = some (.cells #[.int .i64 t] 3 (0, 0))) :
 Calls Try.prog 60 #[.agg #[.int .i64 f0, .int .i64 f1, .int .i64 f2, .int .i64 f3], .pointer (some ⟨gs, 0, none⟩), .pointer (some ⟨gt, 0, none⟩)] w fun e w' => e = .returned (.bool (f1 != s && f0 != t)) ∧ Below w.heap.size w w' := by
 have HB := am_ (Below.refl w.heap.size w)
 have HS := am_ hs
 have HT := am_ ht
 clear hs ht
 obtain ⟨b1, d1⟩ : ∃ b, (f1 != s) = b := ⟨_, rfl⟩
 cases b1
 all_goals
  rw [d1]
  go_enter Try.func60, Try.ntmps60
  go_wp2_with ((with_reducible refine gate_dst (N := 3) rfl ?_); refine box_event ?hg (N := 3) ?hd (cs := #[.int .i64 f0, .int .i64 f1, .int .i64 f2, .int .i64 f3]) (t := 54) ?hr ?_; (case hd => rfl); (case hg => rfl); (case hr => first | (go_simp; done) | (go_simp; rfl)); intro gb hg w5 hbox hb; have n0_ := am_ (below_step HB.out hb); have n1_ := am_ (blk_below HS.out hb); have n2_ := am_ (blk_below HT.out hb); clear HB HS HT; have HB := n0_; have HS := n1_; have HT := n2_; clear n0_ n1_ n2_; have z0 : w5.cell? ⟨gb, 0, none⟩ = some (.int .i64 f0) := (blk_cell hbox 0).trans rfl; have z1 : w5.cell? ⟨gb, 1, none⟩ = some (.int .i64 f1) := (blk_cell hbox 1).trans rfl; have z2 : w5.cell? ⟨gs, 0, none⟩ = some (.int .i64 s) := (blk_cell HS.out 0).trans rfl; have z3 : w5.cell? ⟨gt, 0, none⟩ = some (.int .i64 t) := (blk_cell HT.out 0).trans rfl; clear hb hbox hg)
  go_ret
  exact ⟨rfl, HB.out⟩
theorem Of2.calls (x V s t : Int) (hold : Bool) (sl : Value) (gn gs gt : Nat) (w : World) (hn : w.heap[gn]? = some (.cells #[.int .i64 V, .bool hold, sl] 24 (0, 0))) (hs : w.heap[gs]? = some (.cells #[.int .i64 s] 3 (0, 0))) (ht : w.heap[gt]? = some (.cells #[.int .i64 t] 3 (0, 0))) :
 Calls Try.prog 61 #[.int .i64 x, .pointer (some ⟨gn, 0, none⟩), .pointer (some ⟨gs, 0, none⟩), .pointer (some ⟨gt, 0, none⟩)] w fun e w' => e = .returned (.bool ((hold && x != s) && x != t)) ∧ w' = w := by
 have z1 : w.cell? ⟨gn, 1, none⟩ = some (.bool hold) := (blk_cell hn 1).trans rfl
 have z2 : w.cell? ⟨gs, 0, none⟩ = some (.int .i64 s) := (blk_cell hs 0).trans rfl
 have z3 : w.cell? ⟨gt, 0, none⟩ = some (.int .i64 t) := (blk_cell ht 0).trans rfl
 have hu24 := Try.underlying24
 clear hn hs ht
 obtain ⟨b1, d1⟩ : ∃ b, (x != s) = b := ⟨_, rfl⟩
 cases hold
 ·go_enter Try.func61, Try.ntmps61
  go_wp2
  go_ret
  exact ⟨rfl, rfl⟩
 ·cases b1
  ·rw [d1]
   go_enter Try.func61, Try.ntmps61
   go_wp2
   go_ret
   exact ⟨rfl, rfl⟩
  ·rw [d1]
   go_enter Try.func61, Try.ntmps61
   go_wp2
   go_ret
   exact ⟨rfl, rfl⟩
abbrev GS : Type := List S54 × List ((Int × Int) × Int) × List ((Int × Int) × Int)
def arcStep (V H s t : Int) (a : Int) (g : GS) (i : Nat) (x : S54) : GS :=
 if a + x.f3 ≤ H ∧ (x.f1 != s && x.f0 != t) = true then (g.1 ++ [⟨a * V + x.f0, (a + x.f3) * V + x.f1, x.f2, 0⟩], g.2.1 ++ [(((i : Int), a), (g.1.length : Int))], g.2.2) else g
def arcLoop (V H s t : Int) (l0 : List S54) (a : Int) (g : GS) (n : Nat) : GS := (List.range n).foldl (fun g i => arcStep V H s t a g i (l0.getD i z54)) g
def waitStep (V H : Int) (hold : Bool) (s t : Int) (a : Int) (g : GS) (v : Nat) : GS :=
 if a < H ∧ ((hold && (v : Int) != s) && (v : Int) != t) = true then (g.1 ++ [⟨a * V + (v : Int), (a + 1) * V + (v : Int), 1099511627776, 0⟩], g.2.1, g.2.2 ++ [(((v : Int), a), (g.1.length : Int))]) else g
def waitLoop (V H : Int) (hold : Bool) (s t : Int) (a : Int) (g : GS) (n : Nat) : GS := (List.range n).foldl (fun g v => waitStep V H hold s t a g v) g
def atLoop (V H : Int) (hold : Bool) (s t : Int) (l0 : List S54) (n : Nat) : GS := (List.range n).foldl (fun (g : GS) (k : Nat) => waitLoop V H hold s t (k : Int) (arcLoop V H s t l0 (k : Int) g l0.length) V.toNat) ([], [], [])
def Bal (g : GS) : Prop := g.1.length = g.2.1.length + g.2.2.length
theorem arcStep_bal {V H s t a : Int} {g : GS} {i : Nat} {x : S54} (h : Bal g) : Bal (arcStep V H s t a g i x) ∧ (arcStep V H s t a g i x).1.length ≤ g.1.length + 1 := by
 unfold arcStep Bal at *
 split
 ·simp only [List.length_append, List.length_cons, List.length_nil]; omega
 ·exact ⟨h, by omega⟩
theorem waitStep_bal {V H s t a : Int} {hold : Bool} {g : GS} {v : Nat} (h : Bal g) : Bal (waitStep V H hold s t a g v) ∧ (waitStep V H hold s t a g v).1.length ≤ g.1.length + 1 := by
 unfold waitStep Bal at *
 split
 ·simp only [List.length_append, List.length_cons, List.length_nil]; omega
 ·exact ⟨h, by omega⟩
theorem arcLoop_succ (V H s t : Int) (l0 : List S54) (a : Int) (g : GS) (n : Nat) : arcLoop V H s t l0 a g (n + 1) = arcStep V H s t a (arcLoop V H s t l0 a g n) n (l0.getD n z54) := by
 unfold arcLoop; rw [List.range_succ, List.foldl_append]; rfl
theorem waitLoop_succ (V H : Int) (hold : Bool) (s t : Int) (a : Int) (g : GS) (n : Nat) : waitLoop V H hold s t a g (n + 1) = waitStep V H hold s t a (waitLoop V H hold s t a g n) n := by
 unfold waitLoop; rw [List.range_succ, List.foldl_append]; rfl
theorem atLoop_succ (V H : Int) (hold : Bool) (s t : Int) (l0 : List S54) (n : Nat) : atLoop V H hold s t l0 (n + 1) = waitLoop V H hold s t (n : Int) (arcLoop V H s t l0 (n : Int) (atLoop V H hold s t l0 n) l0.length) V.toNat := by
 unfold atLoop; rw [List.range_succ, List.foldl_append]; rfl
theorem arcLoop_bal {V H s t : Int} {l0 : List S54} {a : Int} {g : GS} (h : Bal g) : ∀ n, Bal (arcLoop V H s t l0 a g n) ∧ (arcLoop V H s t l0 a g n).1.length ≤ g.1.length + n
 | 0 => ⟨h, Nat.le_refl _⟩
 | n + 1 => by
  rw [arcLoop_succ]
  obtain ⟨h1, h2⟩ := arcLoop_bal h n
  obtain ⟨h3, h4⟩ := arcStep_bal (V := V) (H := H) (s := s) (t := t) (a := a) (i := n) (x := l0.getD n z54) h1
  exact ⟨h3, by omega⟩
theorem waitLoop_bal {V H s t : Int} {hold : Bool} {a : Int} {g : GS} (h : Bal g) : ∀ n, Bal (waitLoop V H hold s t a g n) ∧ (waitLoop V H hold s t a g n).1.length ≤ g.1.length + n
 | 0 => ⟨h, Nat.le_refl _⟩
 | n + 1 => by
  rw [waitLoop_succ]
  obtain ⟨h1, h2⟩ := waitLoop_bal h n
  obtain ⟨h3, h4⟩ := waitStep_bal (V := V) (H := H) (hold := hold) (s := s) (t := t) (a := a) (v := n) h1
  exact ⟨h3, by omega⟩
theorem atLoop_bal {V H s t : Int} {hold : Bool} {l0 : List S54} (hV : V ≤ 50) (hl : l0.length ≤ 200) : ∀ n, Bal (atLoop V H hold s t l0 n) ∧ (atLoop V H hold s t l0 n).1.length ≤ 250 * n
 | 0 => ⟨rfl, Nat.le_refl _⟩
 | n + 1 => by
  rw [atLoop_succ]
  obtain ⟨h1, h2⟩ := atLoop_bal (H := H) (s := s) (t := t) (hold := hold) hV hl n
  obtain ⟨h3, h4⟩ := arcLoop_bal (V := V) (H := H) (s := s) (t := t) (l0 := l0) (a := (n : Int)) h1 l0.length
  obtain ⟨h5, h6⟩ := waitLoop_bal (V := V) (H := H) (hold := hold) (s := s) (t := t) (a := (n : Int)) h3 V.toNat
  exact ⟨h5, by omega⟩
theorem wf_i64B {n : Int} (h0 : -9223372036854775808 ≤ n) (h1 : n ≤ 9223372036854775807) : w64 n := by
 unfold w64
 simp [Lit.wf, IntKind.min, IntKind.max, IntKind.bits, IntKind.signed]
 omega
theorem wrapId {n : Int} (h0 : -1000000000000 ≤ n) (h1 : n ≤ 1000000000000) : wrap64 n = n := by unfold wrap64; omega
theorem mulB {a b : Int} (h0 : 0 ≤ a) (h1 : a ≤ 1050000) (g0 : 0 ≤ b) (g1 : b ≤ 50) : 0 ≤ a * b ∧ a * b ≤ 52500000 :=
 ⟨Int.mul_nonneg h0 g0, Int.le_trans (Int.mul_le_mul h1 g1 g0 (by decide)) (by decide)⟩
def okA (V : Int) (x : S54) : Bool := decide (0 ≤ x.f0 ∧ x.f0 < V ∧ 0 ≤ x.f1 ∧ x.f1 < V ∧ 0 ≤ x.f2 ∧ x.f2 ≤ 1048576 ∧ 0 ≤ x.f3 ∧ x.f3 ≤ 1048576)
def okNet (V H : Int) (l0 : List S54) : Bool := decide (0 ≤ V ∧ V ≤ 50 ∧ 0 ≤ H ∧ H ≤ 1024 ∧ l0.length ≤ 200) && l0.all (okA V)
theorem Kept.blk {w w' : World} {S : Nat → Prop} {g : Nat} {o : Obj} (hk : Kept w w' S) (h : w.heap[g]? = some o) (hn : ¬ S g) : w'.heap[g]? = some o := (hk.2 g (blk_lt h) hn).trans h
theorem GridW.box4 {w : World} {base : Nat} {ok : Nat → Prop} {gg ga : Nat} {N V : Int} {v : Value} {arcs : List S54} {m1 m2 m3 m4 : Nat} {l1 l2 : List ((Int × Int) × Int)} {l3 l4 : List (Int × Int)} {a0 a1 a2 a3 : Value}
 (h : GridW w base (fun k => ok k ∧ k ≠ ga) gg N V v arcs m1 m2 m3 m4 l1 l2 l3 l4) (hb : w.heap[ga]? = some (.cells #[a0, a1, a2, a3] 54 (0, 0))) (hne : gg ≠ ga) (f0 f1 f2 f3 : Value) :
 GridW ((((w.setCell ⟨ga, 0, none⟩ f0).setCell ⟨ga, 1, none⟩ f1).setCell ⟨ga, 2, none⟩ f2).setCell ⟨ga, 3, none⟩ f3) base (fun k => ok k ∧ k ≠ ga) gg N V v arcs m1 m2 m3 m4 l1 l2 l3 l4 ∧ ((((w.setCell ⟨ga, 0, none⟩ f0).setCell ⟨ga, 1, none⟩ f1).setCell ⟨ga, 2, none⟩ f2).setCell ⟨ga, 3, none⟩ f3).heap[ga]? = some (.cells #[f0, f1, f2, f3] 54 (0, 0)) := by
 have b0 := blk_put (cs' := #[f0, a1, a2, a3]) hb 0 f0 rfl
 have b1 := blk_put (cs' := #[f0, f1, a2, a3]) b0 1 f1 rfl
 have b2 := blk_put (cs' := #[f0, f1, f2, a3]) b1 2 f2 rfl
 have b3 := blk_put (cs' := #[f0, f1, f2, f3]) b2 3 f3 rfl
 exact ⟨(((h.far hb hne (fun hk => hk.2 rfl) 0 f0).far b0 hne (fun hk => hk.2 rfl) 1 f1).far b1 hne (fun hk => hk.2 rfl) 2 f2).far b2 hne (fun hk => hk.2 rfl) 3 f3, b3⟩
theorem GridW.setN {w : World} {base : Nat} {ok : Nat → Prop} {gg : Nat} {N V : Int} {v : Value} {arcs : List S54} {m1 m2 m3 m4 : Nat} {l1 l2 : List ((Int × Int) × Int)} {l3 l4 : List (Int × Int)}
 (h : GridW w base ok gg N V v arcs m1 m2 m3 m4 l1 l2 l3 l4) (N' : Int) : GridW (w.setCell ⟨gg, 0, none⟩ (.int .i64 N')) base ok gg N' V v arcs m1 m2 m3 m4 l1 l2 l3 l4 :=
 ⟨blk_put (cs' := #[.int .i64 N', .bool false, v, .map (some m1), .map (some m2), .map (some m3), .map (some m4), .int .i64 V]) h.blk 0 _ rfl, Kd.R_far (p := ⟨gg, 0, none⟩) h.row (fun k hk => hk.2) _, h.ge, h.M1.farg (h.M1.ne h.blk) _, h.M2.farg (h.M2.ne h.blk) _, h.M3.farg (h.M3.ne h.blk) _, h.M4.farg (h.M4.ne h.blk) _, h.o1, h.o2, h.o3, h.o4⟩
def expand_Begin.T10 : Bool × List (List Nat × List Nat) := (true, [([], []), ([0], [0]), ([1], [1]), ([2], [2]), ([], []), ([], []), ([4, 5], [4, 5]), ([], []), ([], []), ([], []), ([9], [9]), ([], []), ([8, 10, 11], [8, 10, 11]), ([], []), ([], []), ([14], [14]), ([], []), ([], []), ([17], [17]), ([16, 18], [16, 18]), ([13, 15, 19, 12], [13, 15, 19]), ([], []), ([21], [21]), ([7, 12, 20, 22, 20], [7, 12, 20, 22]), ([3, 6, 23, 23, 0, 1, 2, 3, 4, 5, 6, 7, 8, 9, 10, 11, 12, 13, 14, 15, 16, 17, 18, 19, 20, 21, 22, 23], [3, 6, 23])])
def expand_Begin.B10 : List Nat := [0, 1, 3, 7, 0, 0, 48, 0, 0, 0, 512, 0, 3840, 0, 0, 16384, 0, 0, 131072, 458752, 1048320, 0, 2097152, 8388480, 16777215]
theorem expand_Begin.tab10 : rtab .any (opsOf Try.f59 10) = expand_Begin.T10 := by kernel_rfl
theorem expand_Begin.bits10 : waitsOk expand_Begin.T10.2 expand_Begin.B10 = true := by kernel_rfl
def expand_Begin.T16 : Bool × List (List Nat × List Nat) := (true, [([], []), ([0], [0]), ([1], [1]), ([2], [2]), ([], []), ([], []), ([4, 5], [4, 5]), ([], []), ([], []), ([], []), ([], []), ([8, 9, 10], [8, 9, 10]), ([], []), ([], []), ([], []), ([14], [14]), ([12, 13, 15, 11], [12, 13, 15]), ([7, 11, 16, 16], [7, 11, 16]), ([3, 6, 17, 17, 0, 1, 2, 3, 4, 5, 6, 7, 8, 9, 10, 11, 12, 13, 14, 15, 16, 17], [3, 6, 17])])
def expand_Begin.B16 : List Nat := [0, 1, 3, 7, 0, 0, 48, 0, 0, 0, 0, 1792, 0, 0, 0, 16384, 65280, 130944, 262143]
theorem expand_Begin.tab16 : rtab .any (opsOf Try.f59 16) = expand_Begin.T16 := by kernel_rfl
theorem expand_Begin.bits16 : waitsOk expand_Begin.T16.2 expand_Begin.B16 = true := by kernel_rfl
set_option maxHeartbeats 8000000 in
set_option maxRecDepth 100000 in
theorem expand_Begin.calls (V H s t : Int) (hold : Bool) (A0 : Option Addr) (c0 : Nat) (l0 : List S54) (gs gt gn : Nat) (w : World) (hr0 : Kd.C k54 w A0 l0.length l0) (hc0 : l0.length ≤ c0)
 (hs : w.heap[gs]? = some (.cells #[.int .i64 s] 3 (0, 0))) (ht : w.heap[gt]? = some (.cells #[.int .i64 t] 3 (0, 0))) (hn : w.heap[gn]? = some (.cells #[.int .i64 V, .bool hold, .slice A0 l0.length c0] 24 (0, 0))) (hok : okNet V H l0 = true) :
 Calls Try.prog 59 #[.agg #[.int .i64 V, .bool hold, .slice A0 l0.length c0], .int .i64 H, .func (.func 60) #[] #[.pointer (some ⟨gs, 0, none⟩), .pointer (some ⟨gt, 0, none⟩)], .func (.func 61) #[] #[.pointer (some ⟨gn, 0, none⟩), .pointer (some ⟨gs, 0, none⟩), .pointer (some ⟨gt, 0, none⟩)]] w fun e w' =>
  ∃ gg v m1 m2 m3 m4, e = .returned (.pointer (some ⟨gg, 0, none⟩)) ∧ GridW w' w.heap.size (fun _ => True) gg ((H + 1) * V + 2) V v (atLoop V H hold s t l0 (H.toNat + 1)).1 m1 m2 m3 m4 (atLoop V H hold s t l0 (H.toNat + 1)).2.1 (atLoop V H hold s t l0 (H.toNat + 1)).2.2 [] [] ∧ Below w.heap.size w w' := by
 have hu54 := Try.underlying54
 have hu24 := Try.underlying24
 have hu76 := Try.underlying76
 unfold okNet at hok
 simp only [Bool.and_eq_true, decide_eq_true_eq] at hok
 obtain ⟨⟨hV0, hV1, hH0, hH1, hlen⟩, hall⟩ := hok
 have HR0 := am_ hr0
 have HC0 := am_ hc0
 have HS := am_ hs
 have HT := am_ ht
 have HN := am_ hn
 have HV0 := am_ hV0
 have HV1 := am_ hV1
 have HH0 := am_ hH0
 have HH1 := am_ hH1
 have HLEN := am_ hlen
 have HALL := am_ hall
 have HB := am_ (Below.refl w.heap.size w)
 have hw1 : wrap64 (H + 1) = H + 1 := by unfold wrap64; omega
 have hmb := mulB (a := H + 1) (b := V) (by omega) (by omega) hV0 hV1
 have hw2 : wrap64 ((H + 1) * V) = (H + 1) * V := by unfold wrap64; omega
 have hw3 : wrap64 ((H + 1) * V + 2) = (H + 1) * V + 2 := by unfold wrap64; omega
 clear hr0 hc0 hs ht hn hV0 hV1 hH0 hH1 hlen hall hmb
 go_enter Try.func59, Try.ntmps59
 go_wp2_with (first
  | ((with_reducible refine gate_dst (N := 4) rfl ?_); refine box_event ?hg (N := 4) ?hd (cs := #[.int .i64 V, .bool hold, .slice A0 l0.length c0]) (t := 24) ?hr ?_; (case hd => rfl); (case hg => rfl); (case hr => first | (go_simp; done) | (go_simp; rfl)); intro gb hg w2 hbox hb; have BKn := am_ hbox; have GEn := am_ (by rw [hg]; exact below_size HB.out : w.heap.size ≤ gb); replace HB := am_ (below_step HB.out hb); clear hb hbox hg)
  | ((with_reducible refine gate_dst (N := 14) rfl ?_); refine mmake E26 _ rfl 73 rfl ?_; intro w3 m1 hM_ hb hge; have n0_ := am_ (below_step HB.out hb); have n1_ := am_ (blk_below BKn.out hb); have n2_ := am_ (Nat.le_trans (below_size HB.out) hge); clear HB BKn; have HB := n0_; have BKn := n1_; have O1 := n2_; have HM1 := am_ hM_; clear n0_ n1_ n2_ hM_ hb hge)
  | ((with_reducible refine gate_dst (N := 15) rfl ?_); refine mmake E26 _ rfl 73 rfl ?_; intro w4 m2 hM_ hb hge; have n0_ := am_ (below_step HB.out hb); have n1_ := am_ (blk_below BKn.out hb); have n2_ := am_ (Nat.lt_of_lt_of_le HM1.out.lt hge); have n3_ := am_ (HM1.out.below hb); clear HB BKn HM1; have HB := n0_; have BKn := n1_; have O2 := n2_; have HM1 := n3_; have HM2 := am_ hM_; clear n0_ n1_ n2_ n3_ hM_ hb hge)
  | ((with_reducible refine gate_dst (N := 16) rfl ?_); refine mmake E3 _ rfl 74 rfl ?_; intro w5 m3 hM_ hb hge; have n0_ := am_ (below_step HB.out hb); have n1_ := am_ (blk_below BKn.out hb); have n2_ := am_ (Nat.lt_of_lt_of_le HM2.out.lt hge); have n3_ := am_ (HM1.out.below hb); have n4_ := am_ (HM2.out.below hb); clear HB BKn HM1 HM2; have HB := n0_; have BKn := n1_; have O3 := n2_; have HM1 := n3_; have HM2 := n4_; have HM3 := am_ hM_; clear n0_ n1_ n2_ n3_ n4_ hM_ hb hge)
  | ((with_reducible refine gate_dst (N := 17) rfl ?_); refine mmake E3 _ rfl 74 rfl ?_; intro w6 m4 hM_ hb hge; have n0_ := am_ (below_step HB.out hb); have n1_ := am_ (blk_below BKn.out hb); have n2_ := am_ (Nat.lt_of_lt_of_le HM3.out.lt hge); have n3_ := am_ (HM1.out.below hb); have n4_ := am_ (HM2.out.below hb); have n5_ := am_ (HM3.out.below hb); clear HB BKn HM1 HM2 HM3; have HB := n0_; have BKn := n1_; have O4 := n2_; have HM1 := n3_; have HM2 := n4_; have HM3 := n5_; have HM4 := am_ hM_; clear n0_ n1_ n2_ n3_ n4_ n5_ hM_ hb hge; have zn0 : w6.cell? ⟨gb, 0, none⟩ = some (.int .i64 V) := (blk_cell BKn.out 0).trans rfl)
  | ((with_reducible refine gate_dst (N := 21) rfl ?_); refine box_event ?hg (N := 21) ?hd (cs := #[.int .i64 0, .bool false, .slice none 0 0, .map (some m1), .map (some m2), .map (some m3), .map (some m4), .int .i64 V]) (t := 76) ?hr ?_; (case hd => rfl); (case hg => rfl); (case hr => first | (go_simp; done) | (go_simp; rfl)); intro gg hg w7 hbox hb; clear zn0; have HG := am_ (⟨hbox, Kd.R_nil _ _ _ _ _, by rw [hg]; exact below_size HB.out, HM1.out.below hb, HM2.out.below hb, HM3.out.below hb, HM4.out.below hb, O1.out, O2.out, O3.out, O4.out⟩ : GridW w7 w.heap.size (fun k => k ≠ gb) gg 0 V (.slice none 0 0) [] m1 m2 m3 m4 [] [] [] []); have n0_ := am_ (below_step HB.out hb); have n1_ := am_ (blk_below BKn.out hb); have NBng := am_ (by rw [hg]; exact Nat.ne_of_lt (blk_lt BKn.out) : gb ≠ gg); clear HB BKn HM1 HM2 HM3 HM4 O1 O2 O3 O4; have HB := n0_; have BKn := n1_; clear n0_ n1_; clear hb hbox hg; have zn0 : w7.cell? ⟨gb, 0, none⟩ = some (.int .i64 V) := (blk_cell BKn.out 0).trans rfl; have zg0 : w7.cell? ⟨gg, 0, none⟩ = some (.int .i64 0) := (blk_cell HG.out.blk 0).trans rfl; have yg0 := blk_frozen HG.out.blk 0))
 have n0_ := am_ (HG.out.setN ((H + 1) * V + 2))
 have n1_ := am_ (below_set HB.out HG.out.ge (j := 0) (v := .int .i64 ((H + 1) * V + 2)))
 have n2_ := am_ (blk_far (p := ⟨gg, 0, none⟩) BKn.out NBng.out (.int .i64 ((H + 1) * V + 2)))
 have HW1 := am_ hw1
 clear HB HG BKn zn0 zg0 yg0 hw1 hw2 hw3
 have HG := n0_
 have HB := n1_
 have BKn := n2_
 clear n0_ n1_ n2_
 generalize w7.setCell ⟨gg, 0, none⟩ (.int .i64 ((H + 1) * V + 2)) = w8 at HG HB BKn ⊢
 go_loopg [34] (H.toNat + 1) (fun kq v34 w' => ∃ (j : Nat) (v : Value), v34 = .int .i64 (j : Int) ∧ Aside0 (j + kq = H.toNat + 1) ∧ Aside0 (Below w.heap.size w w') ∧ Aside0 (GridW w' w.heap.size (fun k => k ≠ gb) gg ((H + 1) * V + 2) V v (atLoop V H hold s t l0 j).1 m1 m2 m3 m4 (atLoop V H hold s t l0 j).2.1 (atLoop V H hold s t l0 j).2.2 [] []) ∧ Aside0 (w'.heap[gb]? = some (.cells #[.int .i64 V, .bool hold, .slice A0 l0.length c0] 24 (0, 0))))
 case atStart => exact ⟨0, _, rfl, ⟨by omega⟩, HB, HG, BKn⟩
 case round =>
  clear HB HG BKn
  obtain ⟨j, v, rfl, HJ, HB, HG, BKn⟩ := hrel
  cases gk with
  | zero =>
   have hj : j = H.toNat + 1 := by have := HJ.out; omega
   have c1 : decide ((j : Int) < wrap64 (H + 1)) = false := by rw [HW1.out]; exact decide_eq_false (by have := HH0.out; omega)
   have HJ2 := am_ hj
   clear hj
   go_wp2
   go_ret
   exact ⟨gg, v, m1, m2, m3, m4, rfl, by rw [← HJ2.out]; exact HG.out.mono (fun _ _ => trivial), HB.out⟩
  | succ gk0 =>
   have hjb : (j : Int) ≤ H := by have := HJ.out; have := HH0.out; omega
   have c1 : decide ((j : Int) < wrap64 (H + 1)) = true := by rw [HW1.out]; exact decide_eq_true (by omega)
   have HJB := am_ hjb
   have hbal := atLoop_bal (V := V) (H := H) (s := s) (t := t) (hold := hold) (l0 := l0) HV1.out HLEN.out j
   have HBAL := am_ hbal
   clear hjb hbal
   have zn2 : wr.cell? ⟨gb, 2, none⟩ = some (.slice A0 l0.length c0) := (blk_cell BKn.out 2).trans rfl
   go_wp2
   clear zn2
   clear c1
   go_loopg [40] l0.length (fun kq v40 w' => ∃ (i : Nat) (v : Value), v40 = .int .i64 (i : Int) ∧ Aside0 (i + kq = l0.length) ∧ Aside0 (Below w.heap.size w w') ∧ Aside0 (GridW w' w.heap.size (fun k => k ≠ gb) gg ((H + 1) * V + 2) V v (arcLoop V H s t l0 (j : Int) (atLoop V H hold s t l0 j) i).1 m1 m2 m3 m4 (arcLoop V H s t l0 (j : Int) (atLoop V H hold s t l0 j) i).2.1 (arcLoop V H s t l0 (j : Int) (atLoop V H hold s t l0 j) i).2.2 [] []) ∧ Aside0 (w'.heap[gb]? = some (.cells #[.int .i64 V, .bool hold, .slice A0 l0.length c0] 24 (0, 0))))
   case atStart => exact ⟨0, v, rfl, ⟨by omega⟩, HB, HG, BKn⟩
   case round =>
    clear HB HG BKn
    obtain ⟨i, v, rfl, HI, HB, HG, BKn⟩ := hrel
    cases gk with
    | zero =>
     have hi : i = l0.length := by have := HI.out; omega
     have c1 : decide ((i : Int) < (l0.length : Int)) = false := decide_eq_false (by omega)
     have c2 : decide (i < l0.length) = false := decide_eq_false (by omega)
     subst hi
     have zn0 : wr.cell? ⟨gb, 0, none⟩ = some (.int .i64 V) := (blk_cell BKn.out 0).trans rfl
     go_wp2
     clear zn0 c1 c2
     go_loopg [83] V.toNat (fun kq v83 w' => ∃ (k : Nat) (v : Value), v83 = .int .i64 (k : Int) ∧ Aside0 (k + kq = V.toNat) ∧ Aside0 (Below w.heap.size w w') ∧ Aside0 (GridW w' w.heap.size (fun k => k ≠ gb) gg ((H + 1) * V + 2) V v (waitLoop V H hold s t (j : Int) (arcLoop V H s t l0 (j : Int) (atLoop V H hold s t l0 j) l0.length) k).1 m1 m2 m3 m4 (waitLoop V H hold s t (j : Int) (arcLoop V H s t l0 (j : Int) (atLoop V H hold s t l0 j) l0.length) k).2.1 (waitLoop V H hold s t (j : Int) (arcLoop V H s t l0 (j : Int) (atLoop V H hold s t l0 j) l0.length) k).2.2 [] []) ∧ Aside0 (w'.heap[gb]? = some (.cells #[.int .i64 V, .bool hold, .slice A0 l0.length c0] 24 (0, 0))))
     case atStart => exact ⟨0, v, rfl, ⟨by omega⟩, HB, HG, BKn⟩
     case round =>
      clear HB HG BKn
      obtain ⟨k, v, rfl, HK, HB, HG, BKn⟩ := hrel
      have hwj : wrap64 ((j : Int) + 1) = (j : Int) + 1 := by have := HJB.out; have := HH1.out; unfold wrap64; omega
      cases gk with
      | zero =>
       have hk : k = V.toNat := by have := HK.out; omega
       have c1 : decide ((k : Int) < V) = false := decide_eq_false (by have := HV0.out; omega)
       have HK2 := am_ hk
       clear hk
       go_wp2
       go_roundg gk0
       case measure => omega
       case rel =>
        refine ⟨j + 1, v, by first | rfl | exact congrArg (Value.int .i64) (by omega), ⟨by have := HJ.out; omega⟩, HB, ⟨?_⟩, BKn⟩
        rw [atLoop_succ, ← HK2.out]
        exact HG.out
      | succ gk2 =>
       have hltV : (k : Int) < V := by have := HK.out; have := HV0.out; omega
       have c1 : decide ((k : Int) < V) = true := decide_eq_true hltV
       obtain ⟨gA, g1, g2, hg⟩ : ∃ a b c, waitLoop V H hold s t (j : Int) (arcLoop V H s t l0 (j : Int) (atLoop V H hold s t l0 j) l0.length) k = (a, b, c) := ⟨_, _, _, rfl⟩
       have hst := waitLoop_succ V H hold s t (j : Int) (arcLoop V H s t l0 (j : Int) (atLoop V H hold s t l0 j) l0.length) k
       rw [hg] at hst
       unfold waitStep at hst
       simp only at hst
       have hlb0 := arcLoop_bal (V := V) (H := H) (s := s) (t := t) (l0 := l0) (a := (j : Int)) HBAL.out.1 l0.length
       have hlb := waitLoop_bal (V := V) (H := H) (s := s) (t := t) (hold := hold) (a := (j : Int)) hlb0.1 k
       rw [hg] at hlb
       have hlA : gA.length ≤ 300000 ∧ g2.length ≤ 300000 := by
        have h1 := HBAL.out.2
        have h2 := HJB.out
        have h3 := HH1.out
        have h4 := HLEN.out
        have h5 := hlb.1
        have h6 := hlb.2
        have h7 := hlb0.2
        have h8 := HV1.out
        unfold Bal at h5
        simp only at h5 h6
        omega
       have hG := HG.out
       rw [hg] at hG
       simp only at hG
       clear HG
       have HG := am_ hG
       have HST := am_ hst
       have HLA := am_ hlA
       have hkey : w64 (k : Int) ∧ w64 (j : Int) := by
        clear hwj
        have := HV1.out; have := HJB.out; have := HH1.out
        exact ⟨wf_i64B (by omega) (by omega), wf_i64B (by omega) (by omega)⟩
       have hkv : w64 (gA.length : Int) := by clear hwj; have := hlA.1; exact wf_i64B (by omega) (by omega)
       have hm1 := mulB (a := (j : Int)) (b := V) (by omega) (by have := HJB.out; have := HH1.out; omega) HV0.out HV1.out
       have hm2 := mulB (a := (j : Int) + 1) (b := V) (by omega) (by have := HJB.out; have := HH1.out; omega) HV0.out HV1.out
       have hbj : (j : Int) ≤ 1024 := by have := HJB.out; have := HH1.out; omega
       have hbV := HV1.out
       have q1 : -1000000000000 ≤ (j : Int) * V + (k : Int) ∧ (j : Int) * V + (k : Int) ≤ 1000000000000 := by clear hwj; omega
       have q2 : -1000000000000 ≤ ((j : Int) + 1) * V + (k : Int) ∧ ((j : Int) + 1) * V + (k : Int) ≤ 1000000000000 := by clear hwj; omega
       have q3 : -1000000000000 ≤ ((k + 1 : Nat) : Int) ∧ ((k + 1 : Nat) : Int) ≤ 1000000000000 := by clear hwj; omega
       have q5 : -1000000000000 ≤ (j : Int) * V ∧ (j : Int) * V ≤ 1000000000000 := by clear hwj; omega
       have q6 : -1000000000000 ≤ ((j : Int) + 1) * V ∧ ((j : Int) + 1) * V ≤ 1000000000000 := by clear hwj; omega
       have hwa : wrap64 (wrap64 ((j : Int) * V) + (k : Int)) = (j : Int) * V + (k : Int) := by rw [wrapId q5.1 q5.2, wrapId q1.1 q1.2]
       have hwb : wrap64 (wrap64 (wrap64 ((j : Int) + 1) * V) + (k : Int)) = ((j : Int) + 1) * V + (k : Int) := by rw [hwj, wrapId q6.1 q6.2, wrapId q2.1 q2.2]
       have hwi : wrap64 ((k : Int) + 1) = ((k + 1 : Nat) : Int) := wrapId q3.1 q3.2
       clear q1 q2 q3 q5 q6 hbj hbV
       have HWA := am_ hwa
       have HWB := am_ hwb
       have HWI := am_ hwi
       have HKEY := am_ hkey
       have HKV := am_ hkv
       clear hg hst hlb0 hlb hlA hG hkey hkv hm1 hm2 hwa hwb hwi hltV
       obtain ⟨bd, hd⟩ : ∃ b, decide ((j : Int) < H) = b := ⟨_, rfl⟩
       obtain ⟨bu, hu⟩ : ∃ b, ((hold && (k : Int) != s) && (k : Int) != t) = b := ⟨_, rfl⟩
       cases bd
       ·cases bu
        ·skip
         go_wp2_with (go_at_call 61; (with_reducible refine (Of2.calls (k : Int) V s t hold (.slice A0 l0.length c0) gn gs gt _ (blk_below HN.out HB.out) (blk_below HS.out HB.out) (blk_below HT.out HB.out)).mono ?_); rintro e w9 ⟨rfl, hw'⟩; subst hw'; rw [hu])
         go_roundg gk2
         case measure => omega
         case rel =>
          refine ⟨k + 1, v, by first | exact congrArg (Value.int .i64) (by omega) | exact congrArg (Value.int .i64) HWI.out, ⟨by have := HK.out; omega⟩, HB, ⟨?_⟩, BKn⟩
          have h_ := HST.out
          rw [if_neg (fun hc => by first | exact absurd (decide_eq_true hc.1) (by rw [hd]; decide) | exact absurd hc.2 (by rw [hu]; decide))] at h_
          rw [h_]
          exact HG.out
        ·skip
         go_wp2_with (go_at_call 61; (with_reducible refine (Of2.calls (k : Int) V s t hold (.slice A0 l0.length c0) gn gs gt _ (blk_below HN.out HB.out) (blk_below HS.out HB.out) (blk_below HT.out HB.out)).mono ?_); rintro e w9 ⟨rfl, hw'⟩; subst hw'; rw [hu])
         go_roundg gk2
         case measure => omega
         case rel =>
          refine ⟨k + 1, v, by first | exact congrArg (Value.int .i64) (by omega) | exact congrArg (Value.int .i64) HWI.out, ⟨by have := HK.out; omega⟩, HB, ⟨?_⟩, BKn⟩
          have h_ := HST.out
          rw [if_neg (fun hc => by first | exact absurd (decide_eq_true hc.1) (by rw [hd]; decide) | exact absurd hc.2 (by rw [hu]; decide))] at h_
          rw [h_]
          exact HG.out
       ·cases bu
        ·skip
         go_wp2_with (go_at_call 61; (with_reducible refine (Of2.calls (k : Int) V s t hold (.slice A0 l0.length c0) gn gs gt _ (blk_below HN.out HB.out) (blk_below HS.out HB.out) (blk_below HT.out HB.out)).mono ?_); rintro e w9 ⟨rfl, hw'⟩; subst hw'; rw [hu])
         go_roundg gk2
         case measure => omega
         case rel =>
          refine ⟨k + 1, v, by first | exact congrArg (Value.int .i64) (by omega) | exact congrArg (Value.int .i64) HWI.out, ⟨by have := HK.out; omega⟩, HB, ⟨?_⟩, BKn⟩
          have h_ := HST.out
          rw [if_neg (fun hc => by first | exact absurd (decide_eq_true hc.1) (by rw [hd]; decide) | exact absurd hc.2 (by rw [hu]; decide))] at h_
          rw [h_]
          exact HG.out
        ·skip
         go_wp2_with (go_at_call 61; (with_reducible refine (Of2.calls (k : Int) V s t hold (.slice A0 l0.length c0) gn gs gt _ (blk_below HN.out HB.out) (blk_below HS.out HB.out) (blk_below HT.out HB.out)).mono ?_); rintro e w9 ⟨rfl, hw'⟩; subst hw'; rw [hu])
         have hz3 : w9.cell? ⟨gg, 4, none⟩ = some (.map (some m2)) := (blk_cell HG.out.blk 4).trans rfl
         have n0_ := am_ HG.out.drew
         have n1_ := am_ (below_drew1 HB.out)
         have n2_ := am_ (blk_drew BKn.out)
         clear HG HB BKn
         have HG := n0_
         have HB := n1_
         have BKn := n2_
         clear n0_ n1_ n2_
         refine start_ (n := 19) (S := fun w' => w'.cell? ⟨gg, 4, none⟩ = some (.map (some m2))) (ds := [18]) #[Ff,Ff,Ff,Ff,Ff,Ff,Ff,Ff,Ff,Ff,Ff,Ff,Ff,Ff,Ff,Ff,Ff,Ff,Ff] (by kernel_rfl) rfl rfl hz3 (fun hHeld => ?_)
         clear hz3
         generalize w9.drew = w10 at HG HB BKn hHeld ⊢
         refine with_tabW expand_Begin.tab16 expand_Begin.bits16 (fun HT_ HW_ => ?_)
         refine pw_ 0 94 ?_
         refine pw_ 1 95 ?_
         refine pw_ 2 96 ?_
         refine pw_ 4 98 ?_
         refine pw_ 5 99 ?_
         refine pw_ 6 100 ?_
         refine pw_ 7 101 ?_
         refine pw_ 8 102 ?_
         refine pw_ 9 103 ?_
         refine pw_ 10 104 ?_
         refine pw_ 12 106 ?_
         refine pw_ 13 107 ?_
         refine pw_ 14 108 ?_
         refine pw_ 15 109 ?_
         refine tk_ 3 97 ?_
         refine one_ (i := 11) (N := (some 105)) #[Tt,Tt,Tt,Tt,Tt,Tt,Tt,Tt,Tt,Tt,Tt,Tt,Tt,Tt,Tt,Tt,Ff,Ff,Ff] rfl rfl (one_of HT_.out (by kernel_rfl)) (by decide) (fun K hK => ?_)
         refine goes_ Try.func64 (by kernel_rfl) rfl #[.pointer (some ⟨gg, 0, none⟩), .int .i64 (k : Int), .int .i64 (j : Int)] (by rfl) rfl rfl q7_ ?_
         refine (Grid_At.calls gg _ V (k : Int) (j : Int) _ _ _ _ _ _ HG.out.blk).mono ?_
         rintro e w' ⟨rfl, hw'⟩
         subst hw'
         rw [HWA.out]
         refine ⟨_, rfl, ?_⟩
         refine hK.out _ _ hHeld (fun hHeld => ?_)
         clear hK K
         refine norm_ (a' := ?_) ?_ ?_
         rotate_left
         ·show Act.put _ (some 105) _ = _
          simp only [Act.put, List.setIfInBounds_toArray, List.set_cons_zero, List.set_cons_succ, i64_w, i32_w]
          rfl
         refine one_ (i := 16) (N := (some 110)) #[Tt,Tt,Tt,Tt,Tt,Tt,Tt,Tt,Tt,Tt,Tt,Tt,Tt,Tt,Tt,Tt,Tt,Ff,Ff] rfl rfl (one_of HT_.out (by kernel_rfl)) (by decide) (fun K hK => ?_)
         refine goes_ Try.func64 (by kernel_rfl) rfl #[.pointer (some ⟨gg, 0, none⟩), .int .i64 (k : Int), .int .i64 (wrap64 ((j : Int) + 1))] (by rfl) rfl rfl q7_ ?_
         refine (Grid_At.calls gg _ V (k : Int) (wrap64 ((j : Int) + 1)) _ _ _ _ _ _ HG.out.blk).mono ?_
         rintro e w' ⟨rfl, hw'⟩
         subst hw'
         rw [HWB.out]
         refine ⟨_, rfl, ?_⟩
         refine hK.out _ _ hHeld (fun hHeld => ?_)
         clear hK K
         refine norm_ (a' := ?_) ?_ ?_
         rotate_left
         ·show Act.put _ (some 110) _ = _
          simp only [Act.put, List.setIfInBounds_toArray, List.set_cons_zero, List.set_cons_succ, i64_w, i32_w]
          rfl
         refine one_ (i := 17) (N := (some 111)) #[Tt,Tt,Tt,Tt,Tt,Tt,Tt,Tt,Tt,Tt,Tt,Tt,Tt,Tt,Tt,Tt,Tt,Tt,Ff] rfl rfl (one_of HT_.out (by kernel_rfl)) (by decide) (fun K hK => ?_)
         refine goes_ Try.func63 (by kernel_rfl) rfl #[.pointer (some ⟨gg, 0, none⟩), .int .i64 ((j : Int) * V + (k : Int)), .int .i64 (((j : Int) + 1) * V + (k : Int)), .int .i64 1099511627776] (by rfl) rfl rfl q7_ ?_
         refine (Grid_Add.calls (fun k => k ≠ gb) gg _ V v gA m1 m2 m3 m4 g1 g2 [] [] ((j : Int) * V + (k : Int)) (((j : Int) + 1) * V + (k : Int)) 1099511627776 w _ HB.out HG.out (fun k hk e_ => by have := blk_lt BKn.out; omega) (by have := HLA.out.1; omega)).mono ?_
         rintro e w11 ⟨rfl, v2, hG, hb, hk⟩
         refine ⟨_, rfl, ?_⟩
         have n0_ := am_ (Kept.blk (S := fun k => k = gg ∨ k ≠ gb) hk BKn.out (fun hc => by rcases hc with hc | hc; (exact NBng.out hc); (exact hc rfl)))
         clear HG HB BKn hk hHeld
         have HG := am_ hG
         have HB := am_ hb
         have BKn := n0_
         clear n0_ hG hb
         refine hK.out _ _ ((blk_cell HG.out.blk 4).trans rfl) (fun hHeld => ?_)
         clear hK K
         refine norm_ (a' := ?_) ?_ ?_
         rotate_left
         ·show Act.put _ (some 111) _ = _
          simp only [Act.put, List.setIfInBounds_toArray, List.set_cons_zero, List.set_cons_succ, i64_w, i32_w]
          rfl
         refine last_ (i := 18) (N := none) #[Tt,Tt,Tt,Tt,Tt,Tt,Tt,Tt,Tt,Tt,Tt,Tt,Tt,Tt,Tt,Tt,Tt,Tt,Tt] rfl rfl (one_of HT_.out (by kernel_rfl)) (by decide) (fun K hK => ?_)
         refine mput_step E26 (by rfl) rfl (.tmp 97) (.tmp 100) (.tmp 111) 73 rfl Try.underlying73 rfl HG.out.M2 ((k : Int), (j : Int)) (gA.length : Int) rfl rfl HKEY.out HKV.out (by have := HLA.out.2; unfold maxLen; omega) ?_
         intro w12 hM hg
         refine hK.out _ _ ?_
         clear hK K
         have n0_ := am_ (HG.out.put2 hg hM)
         have n1_ := am_ (Below.grown HB.out hg (below_size HB.out) (fun k_ e_ => by injection e_ with e_; subst e_; exact Nat.le_trans HG.out.o1 (Nat.le_of_lt HG.out.o2)))
         have n2_ := am_ (blk_grown BKn.out hg (fun e_ => HG.out.M2.ne BKn.out (Option.some.inj e_)))
         clear HG HB BKn hM hg
         have HG := n0_
         have HB := n1_
         have BKn := n2_
         clear n0_ n1_ n2_
         refine done_ (done_of HT_.out (by kernel_rfl)) ?_
         try go_wp2
         go_roundg gk2
         case measure => omega
         case rel =>
          refine ⟨k + 1, v2, by first | exact congrArg (Value.int .i64) (by omega) | exact congrArg (Value.int .i64) HWI.out, ⟨by have := HK.out; omega⟩, HB, ⟨?_⟩, BKn⟩
          have h_ := HST.out
          rw [if_pos ⟨of_decide_eq_true hd, hu⟩] at h_
          rw [h_]
          exact HG.out
    | succ gk1 =>
     have hlt : i < l0.length := by have := HI.out; omega
     have c1 : decide ((i : Int) < (l0.length : Int)) = true := decide_eq_true (by omega)
     have c2 : decide (i < l0.length) = true := decide_eq_true hlt
     obtain ⟨ad1, e1, hx_0, hx_1, hx_2, hx_3⟩ := at_T54 HR0.out (i : Int) (by omega) (by omega)
     cases e1
     simp only [Int.toNat_natCast] at hx_0 hx_1 hx_2 hx_3
     have hr : rd_T54 l0 (i : Int) = l0.getD i z54 := by unfold rd_T54; rw [Int.toNat_natCast]
     have hmem : l0.getD i z54 ∈ l0 := by rw [List.getD_eq_getElem?_getD, List.getElem?_eq_getElem hlt]; exact List.getElem_mem hlt
     have hbd := List.all_eq_true.1 HALL.out _ hmem
     rw [hr] at hx_0 hx_1 hx_2 hx_3
     obtain ⟨f0, f1, f2, f3, hl0⟩ : ∃ a b c d, l0.getD i z54 = (⟨a, b, c, d⟩ : S54) := ⟨_, _, _, _, rfl⟩
     rw [hl0] at hx_0 hx_1 hx_2 hx_3 hbd
     unfold okA at hbd
     simp only [decide_eq_true_eq] at hbd
     obtain ⟨b0, b1, b2, b3, b4, b5, b6, b7⟩ := hbd
     obtain ⟨gA, g1, g2, hg⟩ : ∃ a b c, arcLoop V H s t l0 (j : Int) (atLoop V H hold s t l0 j) i = (a, b, c) := ⟨_, _, _, rfl⟩
     have hst := arcLoop_succ V H s t l0 (j : Int) (atLoop V H hold s t l0 j) i
     rw [hl0, hg] at hst
     unfold arcStep at hst
     simp only at hst
     have hlb := arcLoop_bal (V := V) (H := H) (s := s) (t := t) (l0 := l0) (a := (j : Int)) HBAL.out.1 i
     rw [hg] at hlb
     have hlA : gA.length ≤ 300000 ∧ g1.length ≤ 300000 := by
      have h1 := HBAL.out.2
      have h2 := HJB.out
      have h3 := HH1.out
      have h4 := HLEN.out
      have h5 := hlb.1
      have h6 := hlb.2
      unfold Bal at h5
      simp only at h5 h6
      omega
     have hG := HG.out
     rw [hg] at hG
     simp only at hG
     clear HG
     have HG := am_ hG
     have HST := am_ hst
     have HLA := am_ hlA
     have hkey : w64 (i : Int) ∧ w64 (j : Int) := by
      have := HLEN.out; have := HJB.out; have := HH1.out
      exact ⟨wf_i64B (by omega) (by omega), wf_i64B (by omega) (by omega)⟩
     have hkv : w64 (gA.length : Int) := by have := hlA.1; exact wf_i64B (by omega) (by omega)
     have hm1 := mulB (a := (j : Int)) (b := V) (by omega) (by have := HJB.out; have := HH1.out; omega) HV0.out HV1.out
     have hm2 := mulB (a := (j : Int) + f3) (b := V) (by omega) (by have := HJB.out; have := HH1.out; omega) HV0.out HV1.out
     have hbj : (j : Int) ≤ 1024 := by have := HJB.out; have := HH1.out; omega
     have hbV := HV1.out
     have hbL := HLEN.out
     have q1 : -1000000000000 ≤ (j : Int) * V + f0 ∧ (j : Int) * V + f0 ≤ 1000000000000 := by omega
     have q2 : -1000000000000 ≤ ((j : Int) + f3) * V + f1 ∧ ((j : Int) + f3) * V + f1 ≤ 1000000000000 := by omega
     have q3 : -1000000000000 ≤ ((i + 1 : Nat) : Int) ∧ ((i + 1 : Nat) : Int) ≤ 1000000000000 := by omega
     have q4 : -1000000000000 ≤ (j : Int) + f3 ∧ (j : Int) + f3 ≤ 1000000000000 := by omega
     have q5 : -1000000000000 ≤ (j : Int) * V ∧ (j : Int) * V ≤ 1000000000000 := by omega
     have q6 : -1000000000000 ≤ ((j : Int) + f3) * V ∧ ((j : Int) + f3) * V ≤ 1000000000000 := by omega
     have hwf : wrap64 ((j : Int) + f3) = (j : Int) + f3 := wrapId q4.1 q4.2
     have hwa : wrap64 (wrap64 ((j : Int) * V) + f0) = (j : Int) * V + f0 := by rw [wrapId q5.1 q5.2, wrapId q1.1 q1.2]
     have hwb : wrap64 (wrap64 (wrap64 ((j : Int) + f3) * V) + f1) = ((j : Int) + f3) * V + f1 := by rw [hwf, wrapId q6.1 q6.2, wrapId q2.1 q2.2]
     have hwi : wrap64 ((i : Int) + 1) = ((i + 1 : Nat) : Int) := wrapId q3.1 q3.2
     clear q1 q2 q3 q4 q5 q6 hbj hbV hbL
     have HWA := am_ hwa
     have HWB := am_ hwb
     have HWI := am_ hwi
     have W0 := am_ hx_0
     have W1 := am_ hx_1
     have W2 := am_ hx_2
     have W3 := am_ hx_3
     have HKEY := am_ hkey
     have HKV := am_ hkv
     clear hr hmem hl0 hg hst hlb hlA hG hm1 hm2 hwa hwb hwi hx_0 hx_1 hx_2 hx_3 hkey hkv b0 b1 b2 b3 b4 b5 b6 b7
     have p1_ := eq_true (show (0 : Int) ≤ (i : Int) by omega)
     have p2_ := eq_true (show (i : Int) < (l0.length : Int) by omega)
     clear hlt
     obtain ⟨bd, hd⟩ : ∃ b, decide ((j : Int) + f3 ≤ H) = b := ⟨_, rfl⟩
     obtain ⟨bu, hu⟩ : ∃ b, (f1 != s && f0 != t) = b := ⟨_, rfl⟩
     have hx_0 : wr.cell? (ad1.add (i * 4)) = some (.int .i64 f0) := (HB.out.cell (World.block_lt_of_cell? w _ W0.out)).trans W0.out
     have hx_1 : wr.cell? ⟨(ad1.add (i * 4)).block, (ad1.add (i * 4)).off + 1, none⟩ = some (.int .i64 f1) := (HB.out.cell (World.block_lt_of_cell? w _ W1.out)).trans W1.out
     have hx_2 : wr.cell? ⟨(ad1.add (i * 4)).block, (ad1.add (i * 4)).off + 2, none⟩ = some (.int .i64 f2) := (HB.out.cell (World.block_lt_of_cell? w _ W2.out)).trans W2.out
     have hx_3 : wr.cell? ⟨(ad1.add (i * 4)).block, (ad1.add (i * 4)).off + 3, none⟩ = some (.int .i64 f3) := (HB.out.cell (World.block_lt_of_cell? w _ W3.out)).trans W3.out
     cases bd
     ·cases bu
      ·skip
       go_wp2_with (first
        | ((with_reducible refine gate_dst (N := 12) rfl ?_); refine box_event ?hg (N := 12) ?hd (cs := #[.int .i64 0, .int .i64 0, .int .i64 0, .int .i64 0]) (t := 54) ?hr ?_; (case hd => rfl); (case hg => rfl); (case hr => first | (go_simp; done) | (go_simp; rfl)); intro ga hg w5 hbox hb; have n0_ := am_ ((HG.out.elder ga (Nat.le_of_eq hg.symm)).below hb); have n1_ := am_ (below_step HB.out hb); have n2_ := am_ (blk_below BKn.out hb); have GEa := am_ (show w.heap.size ≤ ga by rw [hg]; exact below_size HB.out); have NGa := am_ (show gg ≠ ga by rw [hg]; exact Nat.ne_of_lt HG.out.lt); have NBa := am_ (show gb ≠ ga by rw [hg]; exact Nat.ne_of_lt (blk_lt BKn.out)); have BKa := am_ hbox; clear HG HB BKn; have HG := n0_; have HB := n1_; have BKn := n2_; clear n0_ n1_ n2_ hb hbox hg hx_0 hx_1 hx_2 hx_3; have hcz_0 : w5.cell? ⟨ga, 0, none⟩ = some (.int .i64 0) := (blk_cell BKa.out 0).trans rfl; have hcz_1 : w5.cell? ⟨ga, 1, none⟩ = some (.int .i64 0) := (blk_cell BKa.out 1).trans rfl; have hcz_2 : w5.cell? ⟨ga, 2, none⟩ = some (.int .i64 0) := (blk_cell BKa.out 2).trans rfl; have hcz_3 : w5.cell? ⟨ga, 3, none⟩ = some (.int .i64 0) := (blk_cell BKa.out 3).trans rfl; have hfz_0 := blk_frozen BKa.out 0; have hfz_1 := blk_frozen BKa.out 1; have hfz_2 := blk_frozen BKa.out 2; have hfz_3 := blk_frozen BKa.out 3)
        | ((with_reducible refine gate_store (t := 54) (p := 12) rfl ?_); refine store_event (t := 54) (p := 12) (v := ?vo8) (w1 := ?wo8) ?hg ?ho ?hn ?hr ?_; (case ho => rfl); (case hg => rfl); (case hn => rfl); (case hr => first | (go_simp; done) | (go_simp; rfl)); intro w6 hw; have hbx := HG.out.box4 BKa.out NGa.out (.int .i64 f0) (.int .i64 f1) (.int .i64 f2) (.int .i64 f3); rw [← hw] at hbx; have n2_ := am_ (show Below w.heap.size w w6 from q33_); have n3_ := am_ (show w6.heap[gb]? = some (.cells #[.int .i64 V, .bool hold, .slice (some ad1) l0.length c0] 24 (0, 0)) from q12_); clear BKa HG HB BKn hw hcz_0 hcz_1 hcz_2 hcz_3 hfz_0 hfz_1 hfz_2 hfz_3; have HG := am_ hbx.1; have BKa := am_ hbx.2; have HB := n2_; have BKn := n3_; clear n2_ n3_ hbx; have hcz_0 : w6.cell? ⟨ga, 0, none⟩ = some (.int .i64 f0) := (blk_cell BKa.out 0).trans rfl; have hcz_1 : w6.cell? ⟨ga, 1, none⟩ = some (.int .i64 f1) := (blk_cell BKa.out 1).trans rfl; have hcz_2 : w6.cell? ⟨ga, 2, none⟩ = some (.int .i64 f2) := (blk_cell BKa.out 2).trans rfl; have hcz_3 : w6.cell? ⟨ga, 3, none⟩ = some (.int .i64 f3) := (blk_cell BKa.out 3).trans rfl)
        | (go_at_call 60; (with_reducible refine (Of1.calls f0 f1 f2 f3 s t gs gt _ (blk_below HS.out HB.out) (blk_below HT.out HB.out)).mono ?_); rintro e w9 ⟨rfl, hb⟩; rw [hu]; have n0_ := am_ (HG.out.below hb); have n1_ := am_ (below_step HB.out hb); have n2_ := am_ (blk_below BKn.out hb); have n3_ := am_ (blk_below BKa.out hb); clear HG HB BKn BKa hb hcz_0 hcz_1 hcz_2 hcz_3; have HG := n0_; have HB := n1_; have BKn := n2_; have BKa := n3_; clear n0_ n1_ n2_ n3_; have hcz_0 : w9.cell? ⟨ga, 0, none⟩ = some (.int .i64 f0) := (blk_cell BKa.out 0).trans rfl; have hcz_1 : w9.cell? ⟨ga, 1, none⟩ = some (.int .i64 f1) := (blk_cell BKa.out 1).trans rfl; have hcz_2 : w9.cell? ⟨ga, 2, none⟩ = some (.int .i64 f2) := (blk_cell BKa.out 2).trans rfl; have hcz_3 : w9.cell? ⟨ga, 3, none⟩ = some (.int .i64 f3) := (blk_cell BKa.out 3).trans rfl))
       go_roundg gk1
       case measure => omega
       case rel =>
        refine ⟨i + 1, v, by first | exact congrArg (Value.int .i64) (by omega) | exact congrArg (Value.int .i64) HWI.out, ⟨by have := HI.out; omega⟩, HB, ⟨?_⟩, BKn⟩
        have h_ := HST.out
        rw [if_neg (fun hc => by first | exact absurd (decide_eq_true hc.1) (by rw [hd]; decide) | exact absurd hc.2 (by rw [hu]; decide))] at h_
        rw [h_]
        exact HG.out.mono (fun k hk => hk.1)
      ·skip
       go_wp2_with (first
        | ((with_reducible refine gate_dst (N := 12) rfl ?_); refine box_event ?hg (N := 12) ?hd (cs := #[.int .i64 0, .int .i64 0, .int .i64 0, .int .i64 0]) (t := 54) ?hr ?_; (case hd => rfl); (case hg => rfl); (case hr => first | (go_simp; done) | (go_simp; rfl)); intro ga hg w5 hbox hb; have n0_ := am_ ((HG.out.elder ga (Nat.le_of_eq hg.symm)).below hb); have n1_ := am_ (below_step HB.out hb); have n2_ := am_ (blk_below BKn.out hb); have GEa := am_ (show w.heap.size ≤ ga by rw [hg]; exact below_size HB.out); have NGa := am_ (show gg ≠ ga by rw [hg]; exact Nat.ne_of_lt HG.out.lt); have NBa := am_ (show gb ≠ ga by rw [hg]; exact Nat.ne_of_lt (blk_lt BKn.out)); have BKa := am_ hbox; clear HG HB BKn; have HG := n0_; have HB := n1_; have BKn := n2_; clear n0_ n1_ n2_ hb hbox hg hx_0 hx_1 hx_2 hx_3; have hcz_0 : w5.cell? ⟨ga, 0, none⟩ = some (.int .i64 0) := (blk_cell BKa.out 0).trans rfl; have hcz_1 : w5.cell? ⟨ga, 1, none⟩ = some (.int .i64 0) := (blk_cell BKa.out 1).trans rfl; have hcz_2 : w5.cell? ⟨ga, 2, none⟩ = some (.int .i64 0) := (blk_cell BKa.out 2).trans rfl; have hcz_3 : w5.cell? ⟨ga, 3, none⟩ = some (.int .i64 0) := (blk_cell BKa.out 3).trans rfl; have hfz_0 := blk_frozen BKa.out 0; have hfz_1 := blk_frozen BKa.out 1; have hfz_2 := blk_frozen BKa.out 2; have hfz_3 := blk_frozen BKa.out 3)
        | ((with_reducible refine gate_store (t := 54) (p := 12) rfl ?_); refine store_event (t := 54) (p := 12) (v := ?vo10) (w1 := ?wo10) ?hg ?ho ?hn ?hr ?_; (case ho => rfl); (case hg => rfl); (case hn => rfl); (case hr => first | (go_simp; done) | (go_simp; rfl)); intro w6 hw; have hbx := HG.out.box4 BKa.out NGa.out (.int .i64 f0) (.int .i64 f1) (.int .i64 f2) (.int .i64 f3); rw [← hw] at hbx; have n2_ := am_ (show Below w.heap.size w w6 from q33_); have n3_ := am_ (show w6.heap[gb]? = some (.cells #[.int .i64 V, .bool hold, .slice (some ad1) l0.length c0] 24 (0, 0)) from q12_); clear BKa HG HB BKn hw hcz_0 hcz_1 hcz_2 hcz_3 hfz_0 hfz_1 hfz_2 hfz_3; have HG := am_ hbx.1; have BKa := am_ hbx.2; have HB := n2_; have BKn := n3_; clear n2_ n3_ hbx; have hcz_0 : w6.cell? ⟨ga, 0, none⟩ = some (.int .i64 f0) := (blk_cell BKa.out 0).trans rfl; have hcz_1 : w6.cell? ⟨ga, 1, none⟩ = some (.int .i64 f1) := (blk_cell BKa.out 1).trans rfl; have hcz_2 : w6.cell? ⟨ga, 2, none⟩ = some (.int .i64 f2) := (blk_cell BKa.out 2).trans rfl; have hcz_3 : w6.cell? ⟨ga, 3, none⟩ = some (.int .i64 f3) := (blk_cell BKa.out 3).trans rfl)
        | (go_at_call 60; (with_reducible refine (Of1.calls f0 f1 f2 f3 s t gs gt _ (blk_below HS.out HB.out) (blk_below HT.out HB.out)).mono ?_); rintro e w9 ⟨rfl, hb⟩; rw [hu]; have n0_ := am_ (HG.out.below hb); have n1_ := am_ (below_step HB.out hb); have n2_ := am_ (blk_below BKn.out hb); have n3_ := am_ (blk_below BKa.out hb); clear HG HB BKn BKa hb hcz_0 hcz_1 hcz_2 hcz_3; have HG := n0_; have HB := n1_; have BKn := n2_; have BKa := n3_; clear n0_ n1_ n2_ n3_; have hcz_0 : w9.cell? ⟨ga, 0, none⟩ = some (.int .i64 f0) := (blk_cell BKa.out 0).trans rfl; have hcz_1 : w9.cell? ⟨ga, 1, none⟩ = some (.int .i64 f1) := (blk_cell BKa.out 1).trans rfl; have hcz_2 : w9.cell? ⟨ga, 2, none⟩ = some (.int .i64 f2) := (blk_cell BKa.out 2).trans rfl; have hcz_3 : w9.cell? ⟨ga, 3, none⟩ = some (.int .i64 f3) := (blk_cell BKa.out 3).trans rfl))
       go_roundg gk1
       case measure => omega
       case rel =>
        refine ⟨i + 1, v, by first | exact congrArg (Value.int .i64) (by omega) | exact congrArg (Value.int .i64) HWI.out, ⟨by have := HI.out; omega⟩, HB, ⟨?_⟩, BKn⟩
        have h_ := HST.out
        rw [if_neg (fun hc => by first | exact absurd (decide_eq_true hc.1) (by rw [hd]; decide) | exact absurd hc.2 (by rw [hu]; decide))] at h_
        rw [h_]
        exact HG.out.mono (fun k hk => hk.1)
     ·cases bu
      ·skip
       go_wp2_with (first
        | ((with_reducible refine gate_dst (N := 12) rfl ?_); refine box_event ?hg (N := 12) ?hd (cs := #[.int .i64 0, .int .i64 0, .int .i64 0, .int .i64 0]) (t := 54) ?hr ?_; (case hd => rfl); (case hg => rfl); (case hr => first | (go_simp; done) | (go_simp; rfl)); intro ga hg w5 hbox hb; have n0_ := am_ ((HG.out.elder ga (Nat.le_of_eq hg.symm)).below hb); have n1_ := am_ (below_step HB.out hb); have n2_ := am_ (blk_below BKn.out hb); have GEa := am_ (show w.heap.size ≤ ga by rw [hg]; exact below_size HB.out); have NGa := am_ (show gg ≠ ga by rw [hg]; exact Nat.ne_of_lt HG.out.lt); have NBa := am_ (show gb ≠ ga by rw [hg]; exact Nat.ne_of_lt (blk_lt BKn.out)); have BKa := am_ hbox; clear HG HB BKn; have HG := n0_; have HB := n1_; have BKn := n2_; clear n0_ n1_ n2_ hb hbox hg hx_0 hx_1 hx_2 hx_3; have hcz_0 : w5.cell? ⟨ga, 0, none⟩ = some (.int .i64 0) := (blk_cell BKa.out 0).trans rfl; have hcz_1 : w5.cell? ⟨ga, 1, none⟩ = some (.int .i64 0) := (blk_cell BKa.out 1).trans rfl; have hcz_2 : w5.cell? ⟨ga, 2, none⟩ = some (.int .i64 0) := (blk_cell BKa.out 2).trans rfl; have hcz_3 : w5.cell? ⟨ga, 3, none⟩ = some (.int .i64 0) := (blk_cell BKa.out 3).trans rfl; have hfz_0 := blk_frozen BKa.out 0; have hfz_1 := blk_frozen BKa.out 1; have hfz_2 := blk_frozen BKa.out 2; have hfz_3 := blk_frozen BKa.out 3)
        | ((with_reducible refine gate_store (t := 54) (p := 12) rfl ?_); refine store_event (t := 54) (p := 12) (v := ?vo12) (w1 := ?wo12) ?hg ?ho ?hn ?hr ?_; (case ho => rfl); (case hg => rfl); (case hn => rfl); (case hr => first | (go_simp; done) | (go_simp; rfl)); intro w6 hw; have hbx := HG.out.box4 BKa.out NGa.out (.int .i64 f0) (.int .i64 f1) (.int .i64 f2) (.int .i64 f3); rw [← hw] at hbx; have n2_ := am_ (show Below w.heap.size w w6 from q33_); have n3_ := am_ (show w6.heap[gb]? = some (.cells #[.int .i64 V, .bool hold, .slice (some ad1) l0.length c0] 24 (0, 0)) from q12_); clear BKa HG HB BKn hw hcz_0 hcz_1 hcz_2 hcz_3 hfz_0 hfz_1 hfz_2 hfz_3; have HG := am_ hbx.1; have BKa := am_ hbx.2; have HB := n2_; have BKn := n3_; clear n2_ n3_ hbx; have hcz_0 : w6.cell? ⟨ga, 0, none⟩ = some (.int .i64 f0) := (blk_cell BKa.out 0).trans rfl; have hcz_1 : w6.cell? ⟨ga, 1, none⟩ = some (.int .i64 f1) := (blk_cell BKa.out 1).trans rfl; have hcz_2 : w6.cell? ⟨ga, 2, none⟩ = some (.int .i64 f2) := (blk_cell BKa.out 2).trans rfl; have hcz_3 : w6.cell? ⟨ga, 3, none⟩ = some (.int .i64 f3) := (blk_cell BKa.out 3).trans rfl)
        | (go_at_call 60; (with_reducible refine (Of1.calls f0 f1 f2 f3 s t gs gt _ (blk_below HS.out HB.out) (blk_below HT.out HB.out)).mono ?_); rintro e w9 ⟨rfl, hb⟩; rw [hu]; have n0_ := am_ (HG.out.below hb); have n1_ := am_ (below_step HB.out hb); have n2_ := am_ (blk_below BKn.out hb); have n3_ := am_ (blk_below BKa.out hb); clear HG HB BKn BKa hb hcz_0 hcz_1 hcz_2 hcz_3; have HG := n0_; have HB := n1_; have BKn := n2_; have BKa := n3_; clear n0_ n1_ n2_ n3_; have hcz_0 : w9.cell? ⟨ga, 0, none⟩ = some (.int .i64 f0) := (blk_cell BKa.out 0).trans rfl; have hcz_1 : w9.cell? ⟨ga, 1, none⟩ = some (.int .i64 f1) := (blk_cell BKa.out 1).trans rfl; have hcz_2 : w9.cell? ⟨ga, 2, none⟩ = some (.int .i64 f2) := (blk_cell BKa.out 2).trans rfl; have hcz_3 : w9.cell? ⟨ga, 3, none⟩ = some (.int .i64 f3) := (blk_cell BKa.out 3).trans rfl))
       go_roundg gk1
       case measure => omega
       case rel =>
        refine ⟨i + 1, v, by first | exact congrArg (Value.int .i64) (by omega) | exact congrArg (Value.int .i64) HWI.out, ⟨by have := HI.out; omega⟩, HB, ⟨?_⟩, BKn⟩
        have h_ := HST.out
        rw [if_neg (fun hc => by first | exact absurd (decide_eq_true hc.1) (by rw [hd]; decide) | exact absurd hc.2 (by rw [hu]; decide))] at h_
        rw [h_]
        exact HG.out.mono (fun k hk => hk.1)
      ·skip
       go_wp2_with (first
        | ((with_reducible refine gate_dst (N := 12) rfl ?_); refine box_event ?hg (N := 12) ?hd (cs := #[.int .i64 0, .int .i64 0, .int .i64 0, .int .i64 0]) (t := 54) ?hr ?_; (case hd => rfl); (case hg => rfl); (case hr => first | (go_simp; done) | (go_simp; rfl)); intro ga hg w5 hbox hb; have n0_ := am_ ((HG.out.elder ga (Nat.le_of_eq hg.symm)).below hb); have n1_ := am_ (below_step HB.out hb); have n2_ := am_ (blk_below BKn.out hb); have GEa := am_ (show w.heap.size ≤ ga by rw [hg]; exact below_size HB.out); have NGa := am_ (show gg ≠ ga by rw [hg]; exact Nat.ne_of_lt HG.out.lt); have NBa := am_ (show gb ≠ ga by rw [hg]; exact Nat.ne_of_lt (blk_lt BKn.out)); have BKa := am_ hbox; clear HG HB BKn; have HG := n0_; have HB := n1_; have BKn := n2_; clear n0_ n1_ n2_ hb hbox hg hx_0 hx_1 hx_2 hx_3; have hcz_0 : w5.cell? ⟨ga, 0, none⟩ = some (.int .i64 0) := (blk_cell BKa.out 0).trans rfl; have hcz_1 : w5.cell? ⟨ga, 1, none⟩ = some (.int .i64 0) := (blk_cell BKa.out 1).trans rfl; have hcz_2 : w5.cell? ⟨ga, 2, none⟩ = some (.int .i64 0) := (blk_cell BKa.out 2).trans rfl; have hcz_3 : w5.cell? ⟨ga, 3, none⟩ = some (.int .i64 0) := (blk_cell BKa.out 3).trans rfl; have hfz_0 := blk_frozen BKa.out 0; have hfz_1 := blk_frozen BKa.out 1; have hfz_2 := blk_frozen BKa.out 2; have hfz_3 := blk_frozen BKa.out 3)
        | ((with_reducible refine gate_store (t := 54) (p := 12) rfl ?_); refine store_event (t := 54) (p := 12) (v := ?vo14) (w1 := ?wo14) ?hg ?ho ?hn ?hr ?_; (case ho => rfl); (case hg => rfl); (case hn => rfl); (case hr => first | (go_simp; done) | (go_simp; rfl)); intro w6 hw; have hbx := HG.out.box4 BKa.out NGa.out (.int .i64 f0) (.int .i64 f1) (.int .i64 f2) (.int .i64 f3); rw [← hw] at hbx; have n2_ := am_ (show Below w.heap.size w w6 from q33_); have n3_ := am_ (show w6.heap[gb]? = some (.cells #[.int .i64 V, .bool hold, .slice (some ad1) l0.length c0] 24 (0, 0)) from q12_); clear BKa HG HB BKn hw hcz_0 hcz_1 hcz_2 hcz_3 hfz_0 hfz_1 hfz_2 hfz_3; have HG := am_ hbx.1; have BKa := am_ hbx.2; have HB := n2_; have BKn := n3_; clear n2_ n3_ hbx; have hcz_0 : w6.cell? ⟨ga, 0, none⟩ = some (.int .i64 f0) := (blk_cell BKa.out 0).trans rfl; have hcz_1 : w6.cell? ⟨ga, 1, none⟩ = some (.int .i64 f1) := (blk_cell BKa.out 1).trans rfl; have hcz_2 : w6.cell? ⟨ga, 2, none⟩ = some (.int .i64 f2) := (blk_cell BKa.out 2).trans rfl; have hcz_3 : w6.cell? ⟨ga, 3, none⟩ = some (.int .i64 f3) := (blk_cell BKa.out 3).trans rfl)
        | (go_at_call 60; (with_reducible refine (Of1.calls f0 f1 f2 f3 s t gs gt _ (blk_below HS.out HB.out) (blk_below HT.out HB.out)).mono ?_); rintro e w9 ⟨rfl, hb⟩; rw [hu]; have n0_ := am_ (HG.out.below hb); have n1_ := am_ (below_step HB.out hb); have n2_ := am_ (blk_below BKn.out hb); have n3_ := am_ (blk_below BKa.out hb); clear HG HB BKn BKa hb hcz_0 hcz_1 hcz_2 hcz_3; have HG := n0_; have HB := n1_; have BKn := n2_; have BKa := n3_; clear n0_ n1_ n2_ n3_; have hcz_0 : w9.cell? ⟨ga, 0, none⟩ = some (.int .i64 f0) := (blk_cell BKa.out 0).trans rfl; have hcz_1 : w9.cell? ⟨ga, 1, none⟩ = some (.int .i64 f1) := (blk_cell BKa.out 1).trans rfl; have hcz_2 : w9.cell? ⟨ga, 2, none⟩ = some (.int .i64 f2) := (blk_cell BKa.out 2).trans rfl; have hcz_3 : w9.cell? ⟨ga, 3, none⟩ = some (.int .i64 f3) := (blk_cell BKa.out 3).trans rfl))
       have hz3 : w9.cell? ⟨gg, 3, none⟩ = some (.map (some m1)) := (blk_cell HG.out.blk 3).trans rfl
       have n0_ := am_ HG.out.drew
       have n1_ := am_ (below_drew1 HB.out)
       have n2_ := am_ (blk_drew BKn.out)
       have n3_ := am_ (blk_drew BKa.out)
       clear HG HB BKn BKa
       have HG := n0_
       have HB := n1_
       have BKn := n2_
       have BKa := n3_
       clear n0_ n1_ n2_ n3_
       refine start_ (n := 25) (S := fun w' => w'.cell? ⟨ga, 0, none⟩ = some (.int .i64 f0) ∧ w'.cell? ⟨ga, 1, none⟩ = some (.int .i64 f1) ∧ w'.cell? ⟨ga, 2, none⟩ = some (.int .i64 f2) ∧ w'.cell? ⟨ga, 3, none⟩ = some (.int .i64 f3) ∧ w'.cell? ⟨gg, 3, none⟩ = some (.map (some m1))) (ds := [24]) #[Ff,Ff,Ff,Ff,Ff,Ff,Ff,Ff,Ff,Ff,Ff,Ff,Ff,Ff,Ff,Ff,Ff,Ff,Ff,Ff,Ff,Ff,Ff,Ff,Ff] (by kernel_rfl) rfl rfl ⟨hcz_0, hcz_1, hcz_2, hcz_3, hz3⟩ (fun hHeld => ?_)
       clear hcz_0 hcz_1 hcz_2 hcz_3 hz3
       generalize w9.drew = w10 at HG HB BKn BKa hHeld ⊢
       refine with_tabW expand_Begin.tab10 expand_Begin.bits10 (fun HT_ HW_ => ?_)
       refine pw_ 0 56 ?_
       refine pw_ 1 57 ?_
       refine pw_ 2 58 ?_
       refine pw_ 4 60 ?_
       refine pw_ 5 61 ?_
       refine pw_ 6 62 ?_
       refine pw_ 7 63 ?_
       refine pw_ 8 64 ?_
       refine pw_ 9 65 ?_
       refine pw_ 11 67 ?_
       refine pw_ 13 69 ?_
       refine pw_ 14 70 ?_
       refine pw_ 16 72 ?_
       refine pw_ 17 73 ?_
       refine pw_ 21 77 ?_
       refine tk_ 3 59 ?_
       refine tk_ 10 66 ?_
       refine tk_ 15 71 ?_
       refine tk_ 18 74 ?_
       refine pw_ 19 75 ?_
       refine tk_ 22 78 ?_
       refine one_ (i := 12) (N := (some 68)) #[Tt,Tt,Tt,Tt,Tt,Tt,Tt,Tt,Tt,Tt,Tt,Tt,Tt,Tt,Tt,Tt,Tt,Tt,Tt,Tt,Ff,Tt,Tt,Ff,Ff] rfl rfl (one_of HT_.out (by kernel_rfl)) (by decide) (fun K hK => ?_)
       refine goes_ Try.func64 (by kernel_rfl) rfl #[.pointer (some ⟨gg, 0, none⟩), .int .i64 f0, .int .i64 (j : Int)] (by rfl) rfl rfl q7_ ?_
       refine (Grid_At.calls gg _ V f0 (j : Int) _ _ _ _ _ _ HG.out.blk).mono ?_
       rintro e w' ⟨rfl, hw'⟩
       subst hw'
       rw [HWA.out]
       refine ⟨_, rfl, ?_⟩
       refine hK.out _ _ hHeld (fun hHeld => ?_)
       clear hK K
       refine norm_ (a' := ?_) ?_ ?_
       rotate_left
       ·show Act.put _ (some 68) _ = _
        simp only [Act.put, List.setIfInBounds_toArray, List.set_cons_zero, List.set_cons_succ, i64_w, i32_w]
        rfl
       refine one_ (i := 20) (N := (some 76)) #[Tt,Tt,Tt,Tt,Tt,Tt,Tt,Tt,Tt,Tt,Tt,Tt,Tt,Tt,Tt,Tt,Tt,Tt,Tt,Tt,Tt,Tt,Tt,Ff,Ff] rfl rfl (one_of HT_.out (by kernel_rfl)) (by decide) (fun K hK => ?_)
       refine goes_ Try.func64 (by kernel_rfl) rfl #[.pointer (some ⟨gg, 0, none⟩), .int .i64 f1, .int .i64 (wrap64 ((j : Int) + f3))] (by rfl) rfl rfl q7_ ?_
       refine (Grid_At.calls gg _ V f1 (wrap64 ((j : Int) + f3)) _ _ _ _ _ _ HG.out.blk).mono ?_
       rintro e w' ⟨rfl, hw'⟩
       subst hw'
       rw [HWB.out]
       refine ⟨_, rfl, ?_⟩
       refine hK.out _ _ hHeld (fun hHeld => ?_)
       clear hK K
       refine norm_ (a' := ?_) ?_ ?_
       rotate_left
       ·show Act.put _ (some 76) _ = _
        simp only [Act.put, List.setIfInBounds_toArray, List.set_cons_zero, List.set_cons_succ, i64_w, i32_w]
        rfl
       refine one_ (i := 23) (N := (some 79)) #[Tt,Tt,Tt,Tt,Tt,Tt,Tt,Tt,Tt,Tt,Tt,Tt,Tt,Tt,Tt,Tt,Tt,Tt,Tt,Tt,Tt,Tt,Tt,Tt,Ff] rfl rfl (one_of HT_.out (by kernel_rfl)) (by decide) (fun K hK => ?_)
       refine goes_ Try.func63 (by kernel_rfl) rfl #[.pointer (some ⟨gg, 0, none⟩), .int .i64 ((j : Int) * V + f0), .int .i64 (((j : Int) + f3) * V + f1), .int .i64 f2] (by rfl) rfl rfl q7_ ?_
       refine (Grid_Add.calls (fun k => k ≠ gb ∧ k ≠ ga) gg _ V v gA m1 m2 m3 m4 g1 g2 [] [] ((j : Int) * V + f0) (((j : Int) + f3) * V + f1) f2 w _ HB.out HG.out (fun k hk => ⟨fun e_ => by have := blk_lt BKn.out; omega, fun e_ => by have := blk_lt BKa.out; omega⟩) (by have := HLA.out.1; omega)).mono ?_
       rintro e w11 ⟨rfl, v2, hG, hb, hk⟩
       refine ⟨_, rfl, ?_⟩
       have n0_ := am_ (Kept.blk (S := fun k => k = gg ∨ (k ≠ gb ∧ k ≠ ga)) hk BKn.out (fun hc => by rcases hc with hc | hc; (exact NBng.out hc); (exact hc.1 rfl)))
       have n1_ := am_ (Kept.blk (S := fun k => k = gg ∨ (k ≠ gb ∧ k ≠ ga)) hk BKa.out (fun hc => by rcases hc with hc | hc; (exact NGa.out hc.symm); (exact hc.2 rfl)))
       clear HG HB BKn BKa hk hHeld
       have HG := am_ hG
       have HB := am_ hb
       have BKn := n0_
       have BKa := n1_
       clear n0_ n1_ hG hb
       refine hK.out _ _ ⟨(blk_cell BKa.out 0).trans rfl, (blk_cell BKa.out 1).trans rfl, (blk_cell BKa.out 2).trans rfl, (blk_cell BKa.out 3).trans rfl, (blk_cell HG.out.blk 3).trans rfl⟩ (fun hHeld => ?_)
       clear hK K
       refine norm_ (a' := ?_) ?_ ?_
       rotate_left
       ·show Act.put _ (some 79) _ = _
        simp only [Act.put, List.setIfInBounds_toArray, List.set_cons_zero, List.set_cons_succ, i64_w, i32_w]
        rfl
       refine last_ (i := 24) (N := none) #[Tt,Tt,Tt,Tt,Tt,Tt,Tt,Tt,Tt,Tt,Tt,Tt,Tt,Tt,Tt,Tt,Tt,Tt,Tt,Tt,Tt,Tt,Tt,Tt,Tt] rfl rfl (one_of HT_.out (by kernel_rfl)) (by decide) (fun K hK => ?_)
       refine mput_step E26 (by rfl) rfl (.tmp 59) (.tmp 62) (.tmp 79) 73 rfl Try.underlying73 rfl HG.out.M1 ((i : Int), (j : Int)) (gA.length : Int) rfl rfl HKEY.out HKV.out (by have := HLA.out.2; unfold maxLen; omega) ?_
       intro w12 hM hg
       refine hK.out _ _ ?_
       clear hK K
       have n0_ := am_ (HG.out.put1 hg hM)
       have n1_ := am_ (Below.grown HB.out hg (below_size HB.out) (fun k_ e_ => by injection e_ with e_; subst e_; exact HG.out.o1))
       have n2_ := am_ (blk_grown BKn.out hg (fun e_ => HG.out.M1.ne BKn.out (Option.some.inj e_)))
       clear HG HB BKn BKa hM hg
       have HG := n0_
       have HB := n1_
       have BKn := n2_
       clear n0_ n1_ n2_
       refine done_ (done_of HT_.out (by kernel_rfl)) ?_
       try go_wp2
       go_roundg gk1
       case measure => omega
       case rel =>
        refine ⟨i + 1, v2, by first | exact congrArg (Value.int .i64) (by omega) | exact congrArg (Value.int .i64) HWI.out, ⟨by have := HI.out; omega⟩, HB, ⟨?_⟩, BKn⟩
        have h_ := HST.out
        rw [if_pos ⟨of_decide_eq_true hd, hu⟩] at h_
        rw [h_]
        exact HG.out.mono (fun k hk => hk.1)
end Go.Proofs.Ytfhkkbpkajfdlaa.Q
end
section
namespace Go.Proofs.Ytfhkkbpkajfdlaa.Q
open Go.RowKit Go.Proofs.YtfhkkbpkajfdlaaW.PrintWords Go.Proofs.YtfhkkbpkajfdlaaW.PrintLast Go.Proofs.YtfhkkbpkajfdlaaW.PrintMore
attribute [local go_sem] max2_int min2_int max_two min_two min_four
def netfmt_nodes.f (a0 : Int) : Option (Int) := if a0 < 1 then (some 51) else (if a0 > 50 then (some 2) else (some 0))
set_option maxHeartbeats 8000000 in
set_option maxRecDepth 100000 in
theorem netfmt_nodes.calls (a0 : Int) (r : Int) (w : World) (h : netfmt_nodes.f a0 = some r) :
  Calls Try.prog 54 #[.int .i64 a0] w fun e w' => e = .returned (.int .i64 r) ∧ Drawn0 w w' := by
 have H : (if a0 < 1 then (some 51) else (if a0 > 50 then (some 2) else (some 0))) = some r := h; clear h
 by_cases c2 : a0 < 1
 ·rw [if_pos c2] at H
  have c2b0 : decide (a0 < 1) = true := decide_eq_true c2; clear c2; obtain rfl := Option.some.inj H
  go_enter Try.func54, Try.ntmps54
  go_wp2
  go_ret
  exact ⟨by first | rfl | (simp; done) | (simp [*]; done), by repeat (first | exact Drawn0.refl _ | apply Drawn0.step)⟩
 ·rw [if_neg c2] at H
  have c2b0 : decide (a0 < 1) = false := decide_eq_false c2; clear c2
  by_cases c3 : a0 > 50
  ·rw [if_pos c3] at H
   have c3b0 : decide (50 < a0) = true := decide_eq_true c3; clear c3; obtain rfl := Option.some.inj H
   go_enter Try.func54, Try.ntmps54
   go_wp2
   go_ret
   exact ⟨by first | rfl | (simp; done) | (simp [*]; done), by repeat (first | exact Drawn0.refl _ | apply Drawn0.step)⟩
  ·rw [if_neg c3] at H
   have c3b0 : decide (50 < a0) = false := decide_eq_false c3; clear c3; obtain rfl := Option.some.inj H
   go_enter Try.func54, Try.ntmps54
   go_wp2
   go_ret
   exact ⟨by first | rfl | (simp; done) | (simp [*]; done), by repeat (first | exact Drawn0.refl _ | apply Drawn0.step)⟩
def netfmt_arc.j0 : Nat → Bool → Int → Int → Int → Int → Option (Int)
 | 0, _, _, _, _, _ => none
 | k + 1, x5, x114000, x114001, x114002, x114003 => if x5 = true then (some 51) else (if x114002 > 1048576 then (some 2) else (if x114003 > 1048576 then (some 2) else (some 0)))
def netfmt_arc.f (k : Nat) (a0 : Int) (a1_0 : Int) (a1_1 : Int) (a1_2 : Int) (a1_3 : Int) : Option (Int) := if (mn (mn (mn a1_0 a1_1) a1_2) a1_3) < 0 then (netfmt_arc.j0 k true a1_0 a1_1 a1_2 a1_3) else (netfmt_arc.j0 k (decide ((mx a1_0 a1_1) ≥ a0)) a1_0 a1_1 a1_2 a1_3)
theorem netfmt_arc.mono_l : ∀ k, (∀ y0 y1 y2 y3 y4, LeO (netfmt_arc.j0 k y0 y1 y2 y3 y4) (netfmt_arc.j0 (k + 1) y0 y1 y2 y3 y4))
 | 0 => fun _ _ _ _ _ r h => by simp [netfmt_arc.j0] at h
 | k + 1 => by
  have ih0 := netfmt_arc.mono_l k
  ·intro y0 y1 y2 y3 y4
   unfold netfmt_arc.j0
   repeat' first
   | (with_reducible exact ih0 _ _ _ _ _)
   | (with_reducible exact LeO.refl _)
   | (with_reducible exact LeO.none _)
   | (with_reducible refine LeO.ite ?_ ?_)
   | (with_reducible refine LeO.bind ?_ (fun _ => ?_))
   | exact ih0 _ _ _ _ _
   | exact LeO.none _
   | refine LeO.ite ?_ ?_
   | refine LeO.bind ?_ (fun _ => ?_)
theorem netfmt_arc.mono : ∀ a0 a1 a2 a3 a4 k, LeO (netfmt_arc.f k a0 a1 a2 a3 a4) (netfmt_arc.f (k + 1) a0 a1 a2 a3 a4) := by
 intro a0 a1 a2 a3 a4 k; have ih0 := netfmt_arc.mono_l k
 unfold netfmt_arc.f
 repeat' first
   | (with_reducible exact ih0 _ _ _ _ _)
   | (with_reducible exact LeO.refl _)
   | (with_reducible exact LeO.none _)
   | (with_reducible refine LeO.ite ?_ ?_)
   | (with_reducible refine LeO.bind ?_ (fun _ => ?_))
   | exact ih0 _ _ _ _ _
   | exact LeO.none _
   | refine LeO.ite ?_ ?_
   | refine LeO.bind ?_ (fun _ => ?_)
set_option maxHeartbeats 8000000 in
set_option maxRecDepth 100000 in
theorem netfmt_arc.calls (k : Nat) (a0 : Int) (a1_0 : Int) (a1_1 : Int) (a1_2 : Int) (a1_3 : Int) (r : Int) (w : World) (h : netfmt_arc.f k a0 a1_0 a1_1 a1_2 a1_3 = some r) :
  Calls Try.prog 55 #[.int .i64 a0, .agg #[.int .i64 a1_0, .int .i64 a1_1, .int .i64 a1_2, .int .i64 a1_3]] w fun e w' => e = .returned (.int .i64 r) ∧ Below w.heap.size w w' := by
 have hu54 := Try.underlying54; have HB := am_ (Below.refl w.heap.size w); have H : (if (mn (mn (mn a1_0 a1_1) a1_2) a1_3) < 0 then (netfmt_arc.j0 k true a1_0 a1_1 a1_2 a1_3) else (netfmt_arc.j0 k (decide ((mx a1_0 a1_1) ≥ a0)) a1_0 a1_1 a1_2 a1_3)) = some r := h; clear h; have HC3 := am_ H; clear H
 go_enter Try.func55, Try.ntmps55
 go_upto_region 1 with (first | ((with_reducible refine gate_dst (N := 3) rfl ?_); (try (refine gate_guard (by rfl) ?_; dsimp only)); refine bx_ 3 #[.int .i64 a1_0, .int .i64 a1_1, .int .i64 a1_2, .int .i64 a1_3] 54 ?_; intro gb113 hg w4 BK113 hb; have GE113 := ge_ (w := w) hg; replace HB := hst_ hb; clear hb hg))
 (try simp only [Act.put, List.setIfInBounds_toArray, List.set_cons_zero, List.set_cons_succ])
 go_cut [5] (fun v5 wc => ∃ (kq : Nat) (x5_2 : Bool), v5 = .bool x5_2 ∧ Aside0 (netfmt_arc.j0 kq x5_2 a1_0 a1_1 a1_2 a1_3 = some r) ∧ Aside0 (kq ≤ k) ∧ Aside0 (wc.heap[gb113]? = some (.cells #[.int .i64 a1_0, .int .i64 a1_1, .int .i64 a1_2, .int .i64 a1_3] 54 (0, 0))) ∧ Aside0 (Below w.heap.size w wc))
 case first =>
  have H := HC3.out; clear HC3; obtain ⟨ji5, hji5⟩ : ∃ j_ : Int, (mn a1_0 a1_1) = j_ := ⟨_, rfl⟩
  replace H : (if (mn (mn (ji5) a1_2) a1_3) < 0 then (netfmt_arc.j0 k true a1_0 a1_1 a1_2 a1_3) else (netfmt_arc.j0 k (decide ((mx a1_0 a1_1) ≥ a0)) a1_0 a1_1 a1_2 a1_3)) = some r := by first | (rw [hji5] at H; exact H) | (simp only [hji5] at H ⊢; exact H)
  have hji5_ : (if a1_1 < a1_0 then a1_1 else a1_0) = ji5 := hji5; obtain ⟨ji6, hji6⟩ : ∃ j_ : Int, (mn (ji5) a1_2) = j_ := ⟨_, rfl⟩
  replace H : (if (mn (ji6) a1_3) < 0 then (netfmt_arc.j0 k true a1_0 a1_1 a1_2 a1_3) else (netfmt_arc.j0 k (decide ((mx a1_0 a1_1) ≥ a0)) a1_0 a1_1 a1_2 a1_3)) = some r := by first | (rw [hji6] at H; exact H) | (simp only [hji6] at H ⊢; exact H)
  have hji6_ : (if a1_2 < (ji5) then a1_2 else (ji5)) = ji6 := hji6; obtain ⟨ji7, hji7⟩ : ∃ j_ : Int, (mn (ji6) a1_3) = j_ := ⟨_, rfl⟩
  replace H : (if (ji7) < 0 then (netfmt_arc.j0 k true a1_0 a1_1 a1_2 a1_3) else (netfmt_arc.j0 k (decide ((mx a1_0 a1_1) ≥ a0)) a1_0 a1_1 a1_2 a1_3)) = some r := by first | (rw [hji7] at H; exact H) | (simp only [hji7] at H ⊢; exact H)
  have hji7_ : (if a1_3 < (ji6) then a1_3 else (ji6)) = ji7 := hji7
  by_cases c8 : (ji7) < 0
  ·rw [if_pos c8] at H
   have c8b0 := decide_eq_true c8; clear c8
   (first | rw [c8b0] | (simp only [i64_w, i32_w]; rw [c8b0]) | skip)
   have H' := am_ H; clear H; obtain ⟨hcz9_0, hcz9_1, hcz9_2, hcz9_3, hfz9_0, hfz9_1, hfz9_2, hfz9_3⟩ := cf4_ BK113.out
   go_wp2
   go_meet
   case rel => exact ⟨_, (true), rs_, H', ⟨by first | omega | exact Nat.le_refl _⟩, ⟨bq_ BK113.out⟩, ⟨hb_⟩⟩
  ·rw [if_neg c8] at H
   have c8b0 := decide_eq_false c8; clear c8
   (first | rw [c8b0] | (simp only [i64_w, i32_w]; rw [c8b0]) | skip)
   obtain ⟨ji10, hji10⟩ : ∃ j_ : Int, (mx a1_0 a1_1) = j_ := ⟨_, rfl⟩
   replace H : (netfmt_arc.j0 k (decide ((ji10) ≥ a0)) a1_0 a1_1 a1_2 a1_3) = some r := by first | (rw [hji10] at H; exact H) | (simp only [hji10] at H ⊢; exact H)
   have hji10_ : (if a1_0 < a1_1 then a1_1 else a1_0) = ji10 := hji10; have H' := am_ H; clear H; obtain ⟨hcz11_0, hcz11_1, hcz11_2, hcz11_3, hfz11_0, hfz11_1, hfz11_2, hfz11_3⟩ := cf4_ BK113.out
   go_wp2
   go_meet
   case rel => exact ⟨_, (decide ((ji10) ≥ a0)), (by first | rfl | (simp; done) | (simp only [← hji10] <;> (first | rfl | simp)) | (simp [*]; done)), H', ⟨by first | omega | exact Nat.le_refl _⟩, ⟨bq_ BK113.out⟩, ⟨hb_⟩⟩
 case rest =>
  clear HC3
  try clear p2
  try clear c5
  try clear c8
  try clear c8b0
  try clear hcz11_0 hcz11_1 hcz11_2 hcz11_3
  try clear hcz9_0 hcz9_1 hcz9_2 hcz9_3
  try clear hfz11_0 hfz11_1 hfz11_2 hfz11_3
  try clear hfz9_0 hfz9_1 hfz9_2 hfz9_3
  obtain ⟨kq, x5_2, rfl, HA, HJ2, BK113, HB⟩ := hcut
  cases kq with
  | zero => exact absurd HA.out (by simp [netfmt_arc.j0])
  | succ kj2 =>
   have H := HA.out; clear HA; simp only [netfmt_arc.j0] at H
   by_cases c12 : x5_2 = true
   ·subst c12
    have H1 : (some 51) = some r := by rw [if_pos rfl] at H; exact H
    clear H; have H := H1; clear H1; obtain rfl := Option.some.inj H
    go_wp2
    go_ret
    exact ⟨er_, hb_⟩
   ·replace c12 := Bool.eq_false_iff.mpr c12
    subst c12
    have H1 : (if a1_2 > 1048576 then (some 2) else (if a1_3 > 1048576 then (some 2) else (some 0))) = some r := by rw [if_neg (show ¬ (false = true) by decide)] at H; exact H
    clear H; have H := H1; clear H1
    by_cases c13 : a1_2 > 1048576
    ·rw [if_pos c13] at H
     have c13b0 := decide_eq_true c13; clear c13; obtain rfl := Option.some.inj H; obtain ⟨hcz14_0, hcz14_1, hcz14_2, hcz14_3, hfz14_0, hfz14_1, hfz14_2, hfz14_3⟩ := cf4_ BK113.out
     go_wp2
     go_ret
     exact ⟨er_, hb_⟩
    ·rw [if_neg c13] at H
     have c13b0 := decide_eq_false c13; clear c13
     by_cases c15 : a1_3 > 1048576
     ·rw [if_pos c15] at H
      have c15b0 := decide_eq_true c15; clear c15; obtain rfl := Option.some.inj H; obtain ⟨hcz16_0, hcz16_1, hcz16_2, hcz16_3, hfz16_0, hfz16_1, hfz16_2, hfz16_3⟩ := cf4_ BK113.out
      go_wp2
      go_ret
      exact ⟨er_, hb_⟩
     ·rw [if_neg c15] at H
      have c15b0 := decide_eq_false c15; clear c15; obtain rfl := Option.some.inj H; obtain ⟨hcz17_0, hcz17_1, hcz17_2, hcz17_3, hfz17_0, hfz17_1, hfz17_2, hfz17_3⟩ := cf4_ BK113.out
      go_wp2
      go_ret
      exact ⟨er_, hb_⟩
end Go.Proofs.Ytfhkkbpkajfdlaa.Q
end
section
namespace Go.Proofs.Ytfhkkbpkajfdlaa.Q
open Go.RowKit Go.Proofs.YtfhkkbpkajfdlaaW.PrintWords Go.Proofs.YtfhkkbpkajfdlaaW.PrintLast Go.Proofs.YtfhkkbpkajfdlaaW.PrintMore
def netfmt_Check.l0 : Nat → List (S54) → Int → Int → Int → Bool → List (S54) → Option (Int)
 | 0, _, _, _, _, _, _ => none
 | k + 1, x18, x19, x20, x115000, x115001, x115002 => if x20 < x19 then (if 0 ≤ x20 then (if x20 < (x18.length : Int) then ((netfmt_arc.f k x115000 ((rd_T54 x18 x20).f0) ((rd_T54 x18 x20).f1) ((rd_T54 x18 x20).f2) ((rd_T54 x18 x20).f3)).bind fun t118 => (if t118 = 0 then (netfmt_Check.l0 k x18 x19 (wrap64 (x20 + 1)) x115000 x115001 x115002) else (some t118))) else (none)) else (none)) else (some 0)
def netfmt_Check.f (k : Nat) (a0_0 : Int) (a0_1 : Bool) (l0_2 : List (S54)) : Option (Int) := (netfmt_nodes.f a0_0).bind fun t115 => (if t115 = 0 then (if (l0_2.length : Int) > 200 then (some 2) else (netfmt_Check.l0 k l0_2 (l0_2.length : Int) 0 a0_0 a0_1 l0_2)) else (some t115))
theorem netfmt_Check.mono_l : ∀ k, (∀ y0 y1 y2 y3 y4 y5, LeO (netfmt_Check.l0 k y0 y1 y2 y3 y4 y5) (netfmt_Check.l0 (k + 1) y0 y1 y2 y3 y4 y5))
 | 0 => fun _ _ _ _ _ _ r h => by simp [netfmt_Check.l0] at h
 | k + 1 => by
  have ih0 := netfmt_Check.mono_l k
  ·intro y0 y1 y2 y3 y4 y5
   unfold netfmt_Check.l0
   repeat' first
   | (with_reducible exact ih0 _ _ _ _ _ _)
   | (with_reducible exact netfmt_arc.mono _ _ _ _ _ _)
   | (with_reducible exact LeO.refl _)
   | (with_reducible exact LeO.none _)
   | (with_reducible refine LeO.ite ?_ ?_)
   | (with_reducible refine LeO.bind ?_ (fun _ => ?_))
   | exact ih0 _ _ _ _ _ _
   | exact netfmt_arc.mono _ _ _ _ _ _
   | exact LeO.none _
   | refine LeO.ite ?_ ?_
   | refine LeO.bind ?_ (fun _ => ?_)
theorem netfmt_Check.mono : ∀ a0 a1 a2 k, LeO (netfmt_Check.f k a0 a1 a2) (netfmt_Check.f (k + 1) a0 a1 a2) := by
 intro a0 a1 a2 k; have ih0 := netfmt_Check.mono_l k
 unfold netfmt_Check.f
 repeat' first
   | (with_reducible exact ih0 _ _ _ _ _ _)
   | (with_reducible exact netfmt_arc.mono _ _ _ _ _ _)
   | (with_reducible exact LeO.refl _)
   | (with_reducible exact LeO.none _)
   | (with_reducible refine LeO.ite ?_ ?_)
   | (with_reducible refine LeO.bind ?_ (fun _ => ?_))
   | exact ih0 _ _ _ _ _ _
   | exact netfmt_arc.mono _ _ _ _ _ _
   | exact LeO.none _
   | refine LeO.ite ?_ ?_
   | refine LeO.bind ?_ (fun _ => ?_)
set_option maxHeartbeats 8000000 in
set_option maxRecDepth 100000 in
theorem netfmt_Check.calls (k : Nat) (a0_0 : Int) (a0_1 : Bool) (A0_2 : Option Addr) (c0_2 : Nat) (l0_2 : List (S54)) (r : Int) (w : World) (hr0_2 : Kd.C k54 w A0_2 l0_2.length l0_2) (hc0_2 : l0_2.length ≤ c0_2) (h : netfmt_Check.f k a0_0 a0_1 l0_2 = some r) :
  Calls Try.prog 34 #[.agg #[.int .i64 a0_0, .bool a0_1, .slice A0_2 l0_2.length c0_2]] w fun e w' => e = .returned (.int .i64 r) ∧ Below w.heap.size w w' := by
 have hu24 := Try.underlying24; have hu54 := Try.underlying54; have HR0_2 := am_ hr0_2; have HC0_2 := am_ hc0_2; clear hr0_2 hc0_2; have HB := am_ (Below.refl w.heap.size w); have H : ((netfmt_nodes.f a0_0).bind fun t115 => (if t115 = 0 then (if (l0_2.length : Int) > 200 then (some 2) else (netfmt_Check.l0 k l0_2 (l0_2.length : Int) 0 a0_0 a0_1 l0_2)) else (some t115))) = some r := h; clear h; replace H := Option.bind_eq_some_iff.mp H; obtain ⟨t115, A20, H⟩ := H; replace H : (if t115 = 0 then (if (l0_2.length : Int) > 200 then (some 2) else (netfmt_Check.l0 k l0_2 (l0_2.length : Int) 0 a0_0 a0_1 l0_2)) else (some t115)) = some r := H; have A2 := am_ A20; clear A20
 by_cases c3 : t115 = 0
 ·rw [if_pos c3] at H
  obtain ⟨c3b0, c3b1⟩ := eqb_ c3; clear c3
  by_cases c4 : (l0_2.length : Int) > 200
  ·rw [if_pos c4] at H
   have c4b0 := decide_eq_true c4; have c4b1 : decide (200 < l0_2.length) = true := decide_eq_true (by omega); clear c4; obtain rfl := Option.some.inj H
   go_enter Try.func34, Try.ntmps34
   go_wp2_with (first | ((with_reducible refine gate_dst (N := 1) rfl ?_); refine bx_ 1 #[.int .i64 a0_0, .bool a0_1, .slice A0_2 l0_2.length c0_2] 24 ?_; intro gb114 hg w5 BK114 hb; have GE114 := ge_ (w := w) hg; replace HB := hst_ hb; clear hb hg; obtain ⟨hcz6_0, hcz6_1, hcz6_2, hfz6_0, hfz6_1, hfz6_2⟩ := cf3_ BK114.out) | ((with_reducible refine gate_callee (f := 54) rfl ?_); refine cl_ 9 Try.func54 (netfmt_nodes.calls a0_0 t115 _ A2.out) ?_; rintro e w' ⟨rfl, ⟨nd, rfl⟩⟩; refine ⟨_, rfl, ?_⟩))
   go_ret
   exact ⟨er_, hb_⟩
  ·rw [if_neg c4] at H
   have c4b0 := decide_eq_false c4; have c4b1 : decide (200 < l0_2.length) = false := decide_eq_false (by omega); clear c4; have H' := am_ H; clear H
   go_enter Try.func34, Try.ntmps34
   go_wp2_with (first | ((with_reducible refine gate_dst (N := 1) rfl ?_); refine bx_ 1 #[.int .i64 a0_0, .bool a0_1, .slice A0_2 l0_2.length c0_2] 24 ?_; intro gb114 hg w7 BK114 hb; have GE114 := ge_ (w := w) hg; replace HB := hst_ hb; clear hb hg; obtain ⟨hcz8_0, hcz8_1, hcz8_2, hfz8_0, hfz8_1, hfz8_2⟩ := cf3_ BK114.out) | ((with_reducible refine gate_callee (f := 54) rfl ?_); refine cl_ 9 Try.func54 (netfmt_nodes.calls a0_0 t115 _ A2.out) ?_; rintro e w' ⟨rfl, ⟨nd, rfl⟩⟩; refine ⟨_, rfl, ?_⟩))
   go_loopg [20] k (fun kq v20 w' => ∃ (x20_1 : Int), v20 = .int .i64 x20_1 ∧ Aside0 (netfmt_Check.l0 kq l0_2 (l0_2.length : Int) x20_1 a0_0 a0_1 l0_2 = some r) ∧ Aside0 (kq ≤ k) ∧ Aside0 (w'.heap[gb114]? = some (.cells #[.int .i64 a0_0, .bool a0_1, (.slice A0_2 l0_2.length c0_2)] 24 (0, 0))) ∧ Aside0 (Below w.heap.size w w'))
   case atStart => exact ⟨(0), rs_, H', ⟨Nat.le_refl _⟩, ⟨bq_ BK114.out⟩, ⟨hb_⟩⟩
   case round =>
    clear H'
    try clear p2
    try clear c3
    try clear c3b0
    try clear c3b1
    try clear c4
    try clear c4b0
    try clear c4b1
    try clear c5
    try clear hcz6_0 hcz6_1 hcz6_2
    try clear hcz8_0 hcz8_1 hcz8_2
    try clear hfz6_0 hfz6_1 hfz6_2
    try clear hfz8_0 hfz8_1 hfz8_2
    obtain ⟨x20_1, rfl, HA, HK1, BK114, HB⟩ := hrel
    cases gk with
    | zero => exact absurd HA.out (by simp [netfmt_Check.l0])
    | succ k1 =>
     have H := HA.out; clear HA; simp only [netfmt_Check.l0] at H
     by_cases c9 : x20_1 < (l0_2.length : Int)
     ·rw [if_pos c9] at H
      have c9b0 := decide_eq_true c9; clear c9
      replace H := ifn_ H; obtain ⟨c10, H⟩ := H
      have c10b0 := decide_eq_true c10; clear c10
      replace H := ifn_ H; obtain ⟨c11, H⟩ := H
      have c11b0 := decide_eq_true c11; clear c11; replace H := Option.bind_eq_some_iff.mp H; obtain ⟨t118, A120, H⟩ := H; replace H : (if t118 = 0 then (netfmt_Check.l0 k1 l0_2 (l0_2.length : Int) (wrap64 (x20_1 + 1)) a0_0 a0_1 l0_2) else (some t118)) = some r := H; have A12 := am_ A120; clear A120
      by_cases c13 : t118 = 0
      ·rw [if_pos c13] at H
       obtain ⟨c13b0, c13b1⟩ := eqb_ c13; clear c13; have H' := am_ H; clear H; have p116 := od_ (p := 0 ≤ (x20_1 : Int)); have q116 := od_ (p := x20_1 < (l0_2.length : Int)); obtain ⟨ad116, e116, hx116_0, hx116_1, hx116_2, hx116_3⟩ := tr4_ HB.out (at_T54 HR0_2.out x20_1 p116 q116); cases e116; replace p116 := eq_true p116; replace q116 := eq_true q116
       go_wp2_with (first | ((with_reducible refine gate_dst (N := 5) rfl ?_); refine bx_ 5 #[.int .i64 0, .int .i64 0, .int .i64 0, .int .i64 0] 54 ?_; intro gb117 hg w14 BK117 hb; have GE117 := ge_ (w := w) hg; replace HB := hst_ hb; have NB114_117 := am_ (nl_ BK114.out hg); have NB117_114 := am_ (ng_ BK114.out hg); replace BK114 := am_ (bb_ BK114.out hb); clear hb hg; have hnb15 := NB117_114.out; have hnc15 := NB114_117.out; obtain ⟨hcz16_0, hcz16_1, hcz16_2, hcz16_3, hfz16_0, hfz16_1, hfz16_2, hfz16_3⟩ := cf4_ BK117.out; obtain ⟨hcz17_0, hcz17_1, hcz17_2, hfz17_0, hfz17_1, hfz17_2⟩ := cf3_ BK114.out) | ((with_reducible refine gate_callee (f := 55) rfl ?_); refine cl_ 27 Try.func55 (netfmt_arc.calls k1 a0_0 ((rd_T54 l0_2 x20_1).f0) ((rd_T54 l0_2 x20_1).f1) ((rd_T54 l0_2 x20_1).f2) ((rd_T54 l0_2 x20_1).f3) t118 _ A12.out) ?_; rintro e w18 ⟨rfl, hb⟩; refine ⟨_, rfl, ?_⟩; replace BK114 := am_ (blk_below (g := gb114) (o := .cells #[.int .i64 a0_0, .bool a0_1, .slice (some ad116) l0_2.length c0_2] 24 (0, 0)) (by refine bq_ ?_; refine blk_far ?_ NB114_117.out _; refine bq_ ?_; refine blk_far ?_ NB114_117.out _; refine bq_ ?_; refine blk_far ?_ NB114_117.out _; refine bq_ ?_; refine blk_far ?_ NB114_117.out _; refine bq_ ?_; exact BK114.out) hb); replace BK117 := am_ (blk_below (g := gb117) (o := .cells #[.int .i64 ((rd_T54 l0_2 x20_1).f0), .int .i64 ((rd_T54 l0_2 x20_1).f1), .int .i64 ((rd_T54 l0_2 x20_1).f2), .int .i64 ((rd_T54 l0_2 x20_1).f3)] 54 (0, 0)) q11_ hb); replace HB := hst_ hb; (try clear hb); (try clear hb2); (try clear hk); (try clear hi)))
       go_roundg k1
       case measure => have := HK1.out; omega
       case rel => exact ⟨(wrap64 (x20_1 + 1)), rs_, H', ⟨by have := HK1.out; omega⟩, ⟨bq_ BK114.out⟩, ⟨hb_⟩⟩
      ·rw [if_neg c13] at H
       obtain ⟨c13b0, c13b1⟩ := neb_ c13; obtain rfl := Option.some.inj H; have p116 := od_ (p := 0 ≤ (x20_1 : Int)); have q116 := od_ (p := x20_1 < (l0_2.length : Int)); obtain ⟨ad116, e116, hx116_0, hx116_1, hx116_2, hx116_3⟩ := tr4_ HB.out (at_T54 HR0_2.out x20_1 p116 q116); cases e116; replace p116 := eq_true p116; replace q116 := eq_true q116
       go_wp2_with (first | ((with_reducible refine gate_dst (N := 5) rfl ?_); refine bx_ 5 #[.int .i64 0, .int .i64 0, .int .i64 0, .int .i64 0] 54 ?_; intro gb117 hg w19 BK117 hb; have GE117 := ge_ (w := w) hg; replace HB := hst_ hb; have NB114_117 := am_ (nl_ BK114.out hg); have NB117_114 := am_ (ng_ BK114.out hg); replace BK114 := am_ (bb_ BK114.out hb); clear hb hg; have hnb20 := NB117_114.out; have hnc20 := NB114_117.out; obtain ⟨hcz21_0, hcz21_1, hcz21_2, hcz21_3, hfz21_0, hfz21_1, hfz21_2, hfz21_3⟩ := cf4_ BK117.out; obtain ⟨hcz22_0, hcz22_1, hcz22_2, hfz22_0, hfz22_1, hfz22_2⟩ := cf3_ BK114.out) | ((with_reducible refine gate_callee (f := 55) rfl ?_); refine cl_ 27 Try.func55 (netfmt_arc.calls k1 a0_0 ((rd_T54 l0_2 x20_1).f0) ((rd_T54 l0_2 x20_1).f1) ((rd_T54 l0_2 x20_1).f2) ((rd_T54 l0_2 x20_1).f3) t118 _ A12.out) ?_; rintro e w23 ⟨rfl, hb⟩; refine ⟨_, rfl, ?_⟩; replace BK114 := am_ (blk_below (g := gb114) (o := .cells #[.int .i64 a0_0, .bool a0_1, .slice (some ad116) l0_2.length c0_2] 24 (0, 0)) (by refine bq_ ?_; refine blk_far ?_ NB114_117.out _; refine bq_ ?_; refine blk_far ?_ NB114_117.out _; refine bq_ ?_; refine blk_far ?_ NB114_117.out _; refine bq_ ?_; refine blk_far ?_ NB114_117.out _; refine bq_ ?_; exact BK114.out) hb); replace BK117 := am_ (blk_below (g := gb117) (o := .cells #[.int .i64 ((rd_T54 l0_2 x20_1).f0), .int .i64 ((rd_T54 l0_2 x20_1).f1), .int .i64 ((rd_T54 l0_2 x20_1).f2), .int .i64 ((rd_T54 l0_2 x20_1).f3)] 54 (0, 0)) q11_ hb); replace HB := hst_ hb; (try clear hb); (try clear hb2); (try clear hk); (try clear hi)))
       go_ret
       exact ⟨er_, hb_⟩
     ·rw [if_neg c9] at H
      have c9b0 := decide_eq_false c9; clear c9; obtain rfl := Option.some.inj H
      go_wp2
      go_ret
      exact ⟨er_, hb_⟩
 ·rw [if_neg c3] at H
  obtain ⟨c3b0, c3b1⟩ := neb_ c3; obtain rfl := Option.some.inj H
  go_enter Try.func34, Try.ntmps34
  go_wp2_with (first | ((with_reducible refine gate_dst (N := 1) rfl ?_); refine bx_ 1 #[.int .i64 a0_0, .bool a0_1, .slice A0_2 l0_2.length c0_2] 24 ?_; intro gb114 hg w24 BK114 hb; have GE114 := ge_ (w := w) hg; replace HB := hst_ hb; clear hb hg; obtain ⟨hcz25_0, hcz25_1, hcz25_2, hfz25_0, hfz25_1, hfz25_2⟩ := cf3_ BK114.out) | ((with_reducible refine gate_callee (f := 54) rfl ?_); refine cl_ 9 Try.func54 (netfmt_nodes.calls a0_0 t115 _ A2.out) ?_; rintro e w' ⟨rfl, ⟨nd, rfl⟩⟩; refine ⟨_, rfl, ?_⟩))
  go_ret
  exact ⟨er_, hb_⟩
end Go.Proofs.Ytfhkkbpkajfdlaa.Q
end
section
namespace Go.Proofs.Ytfhkkbpkajfdlaa.Q
open Go.RowKit Go.Proofs.YtfhkkbpkajfdlaaW.PrintWords Go.Proofs.YtfhkkbpkajfdlaaW.PrintLast Go.Proofs.YtfhkkbpkajfdlaaW.PrintMore
attribute [local go_sem] max2_int min2_int max_two min_two min_four
def span_Horizon.f (a0 : Int) : Option (Int) := if a0 < 0 then (some 1) else (if a0 > 1024 then (some 2) else (some 0))
set_option maxHeartbeats 8000000 in
set_option maxRecDepth 100000 in
theorem span_Horizon.calls (a0 : Int) (r : Int) (w : World) (h : span_Horizon.f a0 = some r) :
  Calls Try.prog 35 #[.int .i64 a0] w fun e w' => e = .returned (.int .i64 r) ∧ Drawn0 w w' := by
 have H : (if a0 < 0 then (some 1) else (if a0 > 1024 then (some 2) else (some 0))) = some r := h; clear h
 by_cases c2 : a0 < 0
 ·rw [if_pos c2] at H
  have c2b0 : decide (a0 < 0) = true := decide_eq_true c2; clear c2; obtain rfl := Option.some.inj H
  go_enter Try.func35, Try.ntmps35
  go_wp2
  go_ret
  exact ⟨by first | rfl | (simp; done) | (simp [*]; done), by repeat (first | exact Drawn0.refl _ | apply Drawn0.step)⟩
 ·rw [if_neg c2] at H
  have c2b0 : decide (a0 < 0) = false := decide_eq_false c2; clear c2
  by_cases c3 : a0 > 1024
  ·rw [if_pos c3] at H
   have c3b0 : decide (1024 < a0) = true := decide_eq_true c3; clear c3; obtain rfl := Option.some.inj H
   go_enter Try.func35, Try.ntmps35
   go_wp2
   go_ret
   exact ⟨by first | rfl | (simp; done) | (simp [*]; done), by repeat (first | exact Drawn0.refl _ | apply Drawn0.step)⟩
  ·rw [if_neg c3] at H
   have c3b0 : decide (1024 < a0) = false := decide_eq_false c3; clear c3; obtain rfl := Option.some.inj H
   go_enter Try.func35, Try.ntmps35
   go_wp2
   go_ret
   exact ⟨by first | rfl | (simp; done) | (simp [*]; done), by repeat (first | exact Drawn0.refl _ | apply Drawn0.step)⟩
end Go.Proofs.Ytfhkkbpkajfdlaa.Q
end
section
namespace Go.Proofs.Ytfhkkbpkajfdlaa.Q
open Go.RowKit Go.Proofs.YtfhkkbpkajfdlaaW.PrintWords Go.Proofs.YtfhkkbpkajfdlaaW.PrintLast Go.Proofs.YtfhkkbpkajfdlaaW.PrintMore
def expand_Fits.f (k : Nat) (a0_0 : Int) (a0_1 : Bool) (l0_2 : List (S54)) (a1 : Int) : Option (Bool) := (netfmt_Check.f k a0_0 a0_1 l0_2).bind fun t120 => (if t120 = 0 then ((span_Horizon.f a1).bind fun t121 => (if t121 = 0 then (if (wrap64 ((wrap64 (a1 + 1)) * a0_0)) ≤ 4000 then (some (decide ((wrap64 ((wrap64 (a1 + 1)) * (l0_2.length : Int))) ≤ 10000))) else (some false)) else (some false))) else (some false))
theorem expand_Fits.mono : ∀ a0 a1 a2 a3 k, LeO (expand_Fits.f k a0 a1 a2 a3) (expand_Fits.f (k + 1) a0 a1 a2 a3) := by
 intro a0 a1 a2 a3 k
 unfold expand_Fits.f
 repeat' first
   | (with_reducible exact netfmt_Check.mono _ _ _ _)
   | (with_reducible exact LeO.refl _)
   | (with_reducible exact LeO.none _)
   | (with_reducible refine LeO.ite ?_ ?_)
   | (with_reducible refine LeO.bind ?_ (fun _ => ?_))
   | exact netfmt_Check.mono _ _ _ _
   | exact LeO.none _
   | refine LeO.ite ?_ ?_
   | refine LeO.bind ?_ (fun _ => ?_)
set_option maxHeartbeats 8000000 in
set_option maxRecDepth 100000 in
theorem expand_Fits.calls (k : Nat) (a0_0 : Int) (a0_1 : Bool) (A0_2 : Option Addr) (c0_2 : Nat) (l0_2 : List (S54)) (a1 : Int) (r : Bool) (w : World) (hr0_2 : Kd.C k54 w A0_2 l0_2.length l0_2) (hc0_2 : l0_2.length ≤ c0_2) (h : expand_Fits.f k a0_0 a0_1 l0_2 a1 = some r) :
  Calls Try.prog 15 #[.agg #[.int .i64 a0_0, .bool a0_1, .slice A0_2 l0_2.length c0_2], .int .i64 a1] w fun e w' => e = .returned (.bool r) ∧ Below w.heap.size w w' := by
 have hu24 := Try.underlying24; have HR0_2 := am_ hr0_2; have HC0_2 := am_ hc0_2; clear hr0_2 hc0_2; have HB := am_ (Below.refl w.heap.size w); have H : ((netfmt_Check.f k a0_0 a0_1 l0_2).bind fun t120 => (if t120 = 0 then ((span_Horizon.f a1).bind fun t121 => (if t121 = 0 then (if (wrap64 ((wrap64 (a1 + 1)) * a0_0)) ≤ 4000 then (some (decide ((wrap64 ((wrap64 (a1 + 1)) * (l0_2.length : Int))) ≤ 10000))) else (some false)) else (some false))) else (some false))) = some r := h; clear h; replace H := Option.bind_eq_some_iff.mp H; obtain ⟨t120, A30, H⟩ := H; replace H : (if t120 = 0 then ((span_Horizon.f a1).bind fun t121 => (if t121 = 0 then (if (wrap64 ((wrap64 (a1 + 1)) * a0_0)) ≤ 4000 then (some (decide ((wrap64 ((wrap64 (a1 + 1)) * (l0_2.length : Int))) ≤ 10000))) else (some false)) else (some false))) else (some false)) = some r := H; have A3 := am_ A30; clear A30
 by_cases c4 : t120 = 0
 ·rw [if_pos c4] at H
  obtain ⟨c4b0, c4b1⟩ := eqb_ c4; clear c4; replace H := Option.bind_eq_some_iff.mp H; obtain ⟨t121, A50, H⟩ := H; replace H : (if t121 = 0 then (if (wrap64 ((wrap64 (a1 + 1)) * a0_0)) ≤ 4000 then (some (decide ((wrap64 ((wrap64 (a1 + 1)) * (l0_2.length : Int))) ≤ 10000))) else (some false)) else (some false)) = some r := H; have A5 := am_ A50; clear A50
  by_cases c6 : t121 = 0
  ·rw [if_pos c6] at H
   obtain ⟨c6b0, c6b1⟩ := eqb_ c6; clear c6
   by_cases c7 : (wrap64 ((wrap64 (a1 + 1)) * a0_0)) ≤ 4000
   ·rw [if_pos c7] at H
    have c7b0 := decide_eq_true c7; clear c7; obtain rfl := Option.some.inj H
    go_enter Try.func15, Try.ntmps15
    go_wp2_with (first | ((with_reducible refine gate_dst (N := 2) rfl ?_); (try (refine gate_guard (by rfl) ?_; dsimp only)); refine bx_ 2 #[.int .i64 a0_0, .bool a0_1, .slice A0_2 l0_2.length c0_2] 24 ?_; intro gb119 hg w8 BK119 hb; have GE119 := ge_ (w := w) hg; replace HB := hst_ hb; clear hb hg; obtain ⟨hcz9_0, hcz9_1, hcz9_2, hfz9_0, hfz9_1, hfz9_2⟩ := cf3_ BK119.out) | ((with_reducible refine gate_callee (f := 34) rfl ?_); refine cl_ 6 Try.func34 (netfmt_Check.calls k a0_0 a0_1 _ _ l0_2 t120 _ (cb_ HR0_2.out) HC0_2.out A3.out) ?_; rintro e w10 ⟨rfl, hb⟩; refine ⟨_, rfl, ?_⟩; replace BK119 := am_ (bb_ BK119.out hb); replace HB := hst_ hb; (try clear hb); (try clear hb2); (try clear hk); (try clear hi)) | (go_at_call 35; (with_reducible refine (span_Horizon.calls a1 t121 _ A5.out).mono ?_); rintro e w' ⟨rfl, ⟨nd, rfl⟩⟩; obtain ⟨hcz11_0, hcz11_1, hcz11_2, hfz11_0, hfz11_1, hfz11_2⟩ := cf3_ BK119.out))
    go_ret
    exact ⟨er_, hb_⟩
   ·rw [if_neg c7] at H
    have c7b0 := decide_eq_false c7; clear c7; obtain rfl := Option.some.inj H
    go_enter Try.func15, Try.ntmps15
    go_wp2_with (first | ((with_reducible refine gate_dst (N := 2) rfl ?_); (try (refine gate_guard (by rfl) ?_; dsimp only)); refine bx_ 2 #[.int .i64 a0_0, .bool a0_1, .slice A0_2 l0_2.length c0_2] 24 ?_; intro gb119 hg w12 BK119 hb; have GE119 := ge_ (w := w) hg; replace HB := hst_ hb; clear hb hg; obtain ⟨hcz13_0, hcz13_1, hcz13_2, hfz13_0, hfz13_1, hfz13_2⟩ := cf3_ BK119.out) | ((with_reducible refine gate_callee (f := 34) rfl ?_); refine cl_ 6 Try.func34 (netfmt_Check.calls k a0_0 a0_1 _ _ l0_2 t120 _ (cb_ HR0_2.out) HC0_2.out A3.out) ?_; rintro e w14 ⟨rfl, hb⟩; refine ⟨_, rfl, ?_⟩; replace BK119 := am_ (bb_ BK119.out hb); replace HB := hst_ hb; (try clear hb); (try clear hb2); (try clear hk); (try clear hi)) | (go_at_call 35; (with_reducible refine (span_Horizon.calls a1 t121 _ A5.out).mono ?_); rintro e w' ⟨rfl, ⟨nd, rfl⟩⟩; obtain ⟨hcz15_0, hcz15_1, hcz15_2, hfz15_0, hfz15_1, hfz15_2⟩ := cf3_ BK119.out))
    go_ret
    exact ⟨er_, hb_⟩
  ·rw [if_neg c6] at H
   obtain ⟨c6b0, c6b1⟩ := neb_ c6; obtain rfl := Option.some.inj H
   go_enter Try.func15, Try.ntmps15
   go_wp2_with (first | ((with_reducible refine gate_dst (N := 2) rfl ?_); (try (refine gate_guard (by rfl) ?_; dsimp only)); refine bx_ 2 #[.int .i64 a0_0, .bool a0_1, .slice A0_2 l0_2.length c0_2] 24 ?_; intro gb119 hg w16 BK119 hb; have GE119 := ge_ (w := w) hg; replace HB := hst_ hb; clear hb hg; obtain ⟨hcz17_0, hcz17_1, hcz17_2, hfz17_0, hfz17_1, hfz17_2⟩ := cf3_ BK119.out) | ((with_reducible refine gate_callee (f := 34) rfl ?_); refine cl_ 6 Try.func34 (netfmt_Check.calls k a0_0 a0_1 _ _ l0_2 t120 _ (cb_ HR0_2.out) HC0_2.out A3.out) ?_; rintro e w18 ⟨rfl, hb⟩; refine ⟨_, rfl, ?_⟩; replace BK119 := am_ (bb_ BK119.out hb); replace HB := hst_ hb; (try clear hb); (try clear hb2); (try clear hk); (try clear hi)) | (go_at_call 35; (with_reducible refine (span_Horizon.calls a1 t121 _ A5.out).mono ?_); rintro e w' ⟨rfl, ⟨nd, rfl⟩⟩))
   go_ret
   exact ⟨er_, hb_⟩
 ·rw [if_neg c4] at H
  obtain ⟨c4b0, c4b1⟩ := neb_ c4; obtain rfl := Option.some.inj H
  go_enter Try.func15, Try.ntmps15
  go_wp2_with (first | ((with_reducible refine gate_dst (N := 2) rfl ?_); (try (refine gate_guard (by rfl) ?_; dsimp only)); refine bx_ 2 #[.int .i64 a0_0, .bool a0_1, .slice A0_2 l0_2.length c0_2] 24 ?_; intro gb119 hg w19 BK119 hb; have GE119 := ge_ (w := w) hg; replace HB := hst_ hb; clear hb hg; obtain ⟨hcz20_0, hcz20_1, hcz20_2, hfz20_0, hfz20_1, hfz20_2⟩ := cf3_ BK119.out) | ((with_reducible refine gate_callee (f := 34) rfl ?_); refine cl_ 6 Try.func34 (netfmt_Check.calls k a0_0 a0_1 _ _ l0_2 t120 _ (cb_ HR0_2.out) HC0_2.out A3.out) ?_; rintro e w21 ⟨rfl, hb⟩; refine ⟨_, rfl, ?_⟩; replace BK119 := am_ (bb_ BK119.out hb); replace HB := hst_ hb; (try clear hb); (try clear hb2); (try clear hk); (try clear hi)))
  go_ret
  exact ⟨er_, hb_⟩
end Go.Proofs.Ytfhkkbpkajfdlaa.Q
end
section
namespace Go.Proofs.Ytfhkkbpkajfdlaa.Q
open Go.RowKit Go.Proofs.YtfhkkbpkajfdlaaW.PrintWords Go.Proofs.YtfhkkbpkajfdlaaW.PrintLast Go.Proofs.YtfhkkbpkajfdlaaW.PrintMore
attribute [local go_sem] max2_int min2_int max_two min_two min_four
def static_Ends.f (k : Nat) (a0_0 : Int) (a0_1 : Bool) (l0_2 : List (S54)) (a1 : Int) (a2 : Int) : Option (Int) := (netfmt_Check.f k a0_0 a0_1 l0_2).bind fun t123 => (if t123 = 0 then (if (mn a1 a2) < 0 then (some 70) else (if (mx a1 a2) ≥ a0_0 then (some 70) else (if a1 = a2 then (some 70) else (some 0)))) else (some t123))
theorem static_Ends.mono : ∀ a0 a1 a2 a3 a4 k, LeO (static_Ends.f k a0 a1 a2 a3 a4) (static_Ends.f (k + 1) a0 a1 a2 a3 a4) := by
 intro a0 a1 a2 a3 a4 k
 unfold static_Ends.f
 repeat' first
   | (with_reducible exact netfmt_Check.mono _ _ _ _)
   | (with_reducible exact LeO.refl _)
   | (with_reducible exact LeO.none _)
   | (with_reducible refine LeO.ite ?_ ?_)
   | (with_reducible refine LeO.bind ?_ (fun _ => ?_))
   | exact netfmt_Check.mono _ _ _ _
   | exact LeO.none _
   | refine LeO.ite ?_ ?_
   | refine LeO.bind ?_ (fun _ => ?_)
set_option maxHeartbeats 8000000 in
set_option maxRecDepth 100000 in
theorem static_Ends.calls (k : Nat) (a0_0 : Int) (a0_1 : Bool) (A0_2 : Option Addr) (c0_2 : Nat) (l0_2 : List (S54)) (a1 : Int) (a2 : Int) (r : Int) (w : World) (hr0_2 : Kd.C k54 w A0_2 l0_2.length l0_2) (hc0_2 : l0_2.length ≤ c0_2) (h : static_Ends.f k a0_0 a0_1 l0_2 a1 a2 = some r) :
  Calls Try.prog 83 #[.agg #[.int .i64 a0_0, .bool a0_1, .slice A0_2 l0_2.length c0_2], .int .i64 a1, .int .i64 a2] w fun e w' => e = .returned (.int .i64 r) ∧ Below w.heap.size w w' := by
 have hu24 := Try.underlying24; have HR0_2 := am_ hr0_2; have HC0_2 := am_ hc0_2; clear hr0_2 hc0_2; have HB := am_ (Below.refl w.heap.size w); have H : ((netfmt_Check.f k a0_0 a0_1 l0_2).bind fun t123 => (if t123 = 0 then (if (mn a1 a2) < 0 then (some 70) else (if (mx a1 a2) ≥ a0_0 then (some 70) else (if a1 = a2 then (some 70) else (some 0)))) else (some t123))) = some r := h; clear h; replace H := Option.bind_eq_some_iff.mp H; obtain ⟨t123, A40, H⟩ := H; replace H : (if t123 = 0 then (if (mn a1 a2) < 0 then (some 70) else (if (mx a1 a2) ≥ a0_0 then (some 70) else (if a1 = a2 then (some 70) else (some 0)))) else (some t123)) = some r := H; have A4 := am_ A40; clear A40
 by_cases c5 : t123 = 0
 ·rw [if_pos c5] at H
  obtain ⟨c5b0, c5b1⟩ := eqb_ c5; clear c5; obtain ⟨ji6, hji6⟩ : ∃ j_ : Int, (mn a1 a2) = j_ := ⟨_, rfl⟩
  replace H : (if (ji6) < 0 then (some 70) else (if (mx a1 a2) ≥ a0_0 then (some 70) else (if a1 = a2 then (some 70) else (some 0)))) = some r := by first | (rw [hji6] at H; exact H) | (simp only [hji6] at H ⊢; exact H)
  (try rw [hji6] at A4)
  have hji6_ : (if a2 < a1 then a2 else a1) = ji6 := hji6
  by_cases c7 : (ji6) < 0
  ·rw [if_pos c7] at H
   have c7b0 := decide_eq_true c7; clear c7; obtain rfl := Option.some.inj H
   go_enter Try.func83, Try.ntmps83
   go_wp2_with (first | ((with_reducible refine gate_dst (N := 3) rfl ?_); (try (refine gate_guard (by rfl) ?_; dsimp only)); refine bx_ 3 #[.int .i64 a0_0, .bool a0_1, .slice A0_2 l0_2.length c0_2] 24 ?_; intro gb122 hg w8 BK122 hb; have GE122 := ge_ (w := w) hg; replace HB := hst_ hb; clear hb hg; obtain ⟨hcz9_0, hcz9_1, hcz9_2, hfz9_0, hfz9_1, hfz9_2⟩ := cf3_ BK122.out) | ((with_reducible refine gate_callee (f := 34) rfl ?_); refine cl_ 9 Try.func34 (netfmt_Check.calls k a0_0 a0_1 _ _ l0_2 t123 _ (cb_ HR0_2.out) HC0_2.out A4.out) ?_; rintro e w10 ⟨rfl, hb⟩; refine ⟨_, rfl, ?_⟩; replace BK122 := am_ (bb_ BK122.out hb); replace HB := hst_ hb; (try clear hb); (try clear hb2); (try clear hk); (try clear hi)))
   go_ret
   exact ⟨by first | rfl | (simp [errW_none, errW_some] <;> rfl) | (simp only [← hji6]; first | rfl | (simp [errW_none, errW_some] <;> rfl)) | (simp [*, errW_none, errW_some] <;> rfl), hb_⟩
  ·rw [if_neg c7] at H
   have c7b0 := decide_eq_false c7; clear c7; obtain ⟨ji11, hji11⟩ : ∃ j_ : Int, (mx a1 a2) = j_ := ⟨_, rfl⟩
   replace H : (if (ji11) ≥ a0_0 then (some 70) else (if a1 = a2 then (some 70) else (some 0))) = some r := by first | (rw [hji11] at H; exact H) | (simp only [hji11] at H ⊢; exact H)
   (try rw [hji11] at A4)
   have hji11_ : (if a1 < a2 then a2 else a1) = ji11 := hji11
   by_cases c12 : (ji11) ≥ a0_0
   ·rw [if_pos c12] at H
    have c12b0 := decide_eq_true c12; clear c12; obtain rfl := Option.some.inj H
    go_enter Try.func83, Try.ntmps83
    go_wp2_with (first | ((with_reducible refine gate_dst (N := 3) rfl ?_); (try (refine gate_guard (by rfl) ?_; dsimp only)); refine bx_ 3 #[.int .i64 a0_0, .bool a0_1, .slice A0_2 l0_2.length c0_2] 24 ?_; intro gb122 hg w13 BK122 hb; have GE122 := ge_ (w := w) hg; replace HB := hst_ hb; clear hb hg; obtain ⟨hcz14_0, hcz14_1, hcz14_2, hfz14_0, hfz14_1, hfz14_2⟩ := cf3_ BK122.out) | ((with_reducible refine gate_callee (f := 34) rfl ?_); refine cl_ 9 Try.func34 (netfmt_Check.calls k a0_0 a0_1 _ _ l0_2 t123 _ (cb_ HR0_2.out) HC0_2.out A4.out) ?_; rintro e w15 ⟨rfl, hb⟩; refine ⟨_, rfl, ?_⟩; replace BK122 := am_ (bb_ BK122.out hb); replace HB := hst_ hb; (try clear hb); (try clear hb2); (try clear hk); (try clear hi); obtain ⟨hcz16_0, hcz16_1, hcz16_2, hfz16_0, hfz16_1, hfz16_2⟩ := cf3_ BK122.out))
    go_ret
    exact ⟨by first | rfl | (simp [errW_none, errW_some] <;> rfl) | (simp only [← hji6, ← hji11]; first | rfl | (simp [errW_none, errW_some] <;> rfl)) | (simp [*, errW_none, errW_some] <;> rfl), hb_⟩
   ·rw [if_neg c12] at H
    have c12b0 := decide_eq_false c12; clear c12
    by_cases c17 : a1 = a2
    ·rw [if_pos c17] at H
     obtain ⟨c17b0, c17b1⟩ := eqb_ c17; clear c17; obtain rfl := Option.some.inj H
     go_enter Try.func83, Try.ntmps83
     go_wp2_with (first | ((with_reducible refine gate_dst (N := 3) rfl ?_); (try (refine gate_guard (by rfl) ?_; dsimp only)); refine bx_ 3 #[.int .i64 a0_0, .bool a0_1, .slice A0_2 l0_2.length c0_2] 24 ?_; intro gb122 hg w18 BK122 hb; have GE122 := ge_ (w := w) hg; replace HB := hst_ hb; clear hb hg; obtain ⟨hcz19_0, hcz19_1, hcz19_2, hfz19_0, hfz19_1, hfz19_2⟩ := cf3_ BK122.out) | ((with_reducible refine gate_callee (f := 34) rfl ?_); refine cl_ 9 Try.func34 (netfmt_Check.calls k a0_0 a0_1 _ _ l0_2 t123 _ (cb_ HR0_2.out) HC0_2.out A4.out) ?_; rintro e w20 ⟨rfl, hb⟩; refine ⟨_, rfl, ?_⟩; replace BK122 := am_ (bb_ BK122.out hb); replace HB := hst_ hb; (try clear hb); (try clear hb2); (try clear hk); (try clear hi); obtain ⟨hcz21_0, hcz21_1, hcz21_2, hfz21_0, hfz21_1, hfz21_2⟩ := cf3_ BK122.out))
     go_ret
     exact ⟨by first | rfl | (simp [errW_none, errW_some] <;> rfl) | (simp only [← hji6, ← hji11]; first | rfl | (simp [errW_none, errW_some] <;> rfl)) | (simp [*, errW_none, errW_some] <;> rfl), hb_⟩
    ·rw [if_neg c17] at H
     obtain ⟨c17b0, c17b1⟩ := neb_ c17; obtain rfl := Option.some.inj H
     go_enter Try.func83, Try.ntmps83
     go_wp2_with (first | ((with_reducible refine gate_dst (N := 3) rfl ?_); (try (refine gate_guard (by rfl) ?_; dsimp only)); refine bx_ 3 #[.int .i64 a0_0, .bool a0_1, .slice A0_2 l0_2.length c0_2] 24 ?_; intro gb122 hg w22 BK122 hb; have GE122 := ge_ (w := w) hg; replace HB := hst_ hb; clear hb hg; obtain ⟨hcz23_0, hcz23_1, hcz23_2, hfz23_0, hfz23_1, hfz23_2⟩ := cf3_ BK122.out) | ((with_reducible refine gate_callee (f := 34) rfl ?_); refine cl_ 9 Try.func34 (netfmt_Check.calls k a0_0 a0_1 _ _ l0_2 t123 _ (cb_ HR0_2.out) HC0_2.out A4.out) ?_; rintro e w24 ⟨rfl, hb⟩; refine ⟨_, rfl, ?_⟩; replace BK122 := am_ (bb_ BK122.out hb); replace HB := hst_ hb; (try clear hb); (try clear hb2); (try clear hk); (try clear hi); obtain ⟨hcz25_0, hcz25_1, hcz25_2, hfz25_0, hfz25_1, hfz25_2⟩ := cf3_ BK122.out))
     go_ret
     exact ⟨by first | rfl | (simp [errW_none, errW_some] <;> rfl) | (simp only [← hji6, ← hji11]; first | rfl | (simp [errW_none, errW_some] <;> rfl)) | (simp [*, errW_none, errW_some] <;> rfl), hb_⟩
 ·rw [if_neg c5] at H
  obtain ⟨c5b0, c5b1⟩ := neb_ c5; obtain rfl := Option.some.inj H
  go_enter Try.func83, Try.ntmps83
  go_wp2_with (first | ((with_reducible refine gate_dst (N := 3) rfl ?_); (try (refine gate_guard (by rfl) ?_; dsimp only)); refine bx_ 3 #[.int .i64 a0_0, .bool a0_1, .slice A0_2 l0_2.length c0_2] 24 ?_; intro gb122 hg w26 BK122 hb; have GE122 := ge_ (w := w) hg; replace HB := hst_ hb; clear hb hg; obtain ⟨hcz27_0, hcz27_1, hcz27_2, hfz27_0, hfz27_1, hfz27_2⟩ := cf3_ BK122.out) | ((with_reducible refine gate_callee (f := 34) rfl ?_); refine cl_ 9 Try.func34 (netfmt_Check.calls k a0_0 a0_1 _ _ l0_2 t123 _ (cb_ HR0_2.out) HC0_2.out A4.out) ?_; rintro e w28 ⟨rfl, hb⟩; refine ⟨_, rfl, ?_⟩; replace BK122 := am_ (bb_ BK122.out hb); replace HB := hst_ hb; (try clear hb); (try clear hb2); (try clear hk); (try clear hi)))
  go_ret
  exact ⟨er_, hb_⟩
end Go.Proofs.Ytfhkkbpkajfdlaa.Q
end
section
namespace Go.Proofs.Ytfhkkbpkajfdlaa.Q
open Go.RowKit Go.Proofs.YtfhkkbpkajfdlaaW.PrintWords Go.Proofs.YtfhkkbpkajfdlaaW.PrintLast Go.Proofs.YtfhkkbpkajfdlaaW.PrintMore
def span_Asked.f (k : Nat) (a0_0 : Int) (a0_1 : Bool) (l0_2 : List (S54)) (a1 : Int) (a2 : Int) (a3 : Int) : Option (Int) := (static_Ends.f k a0_0 a0_1 l0_2 a1 a2).bind fun t125 => (if t125 = 0 then ((span_Horizon.f a3).bind fun t126 => (some t126)) else (some t125))
theorem span_Asked.mono : ∀ a0 a1 a2 a3 a4 a5 k, LeO (span_Asked.f k a0 a1 a2 a3 a4 a5) (span_Asked.f (k + 1) a0 a1 a2 a3 a4 a5) := by
 intro a0 a1 a2 a3 a4 a5 k
 unfold span_Asked.f
 repeat' first
   | (with_reducible exact static_Ends.mono _ _ _ _ _ _)
   | (with_reducible exact LeO.refl _)
   | (with_reducible exact LeO.none _)
   | (with_reducible refine LeO.ite ?_ ?_)
   | (with_reducible refine LeO.bind ?_ (fun _ => ?_))
   | exact static_Ends.mono _ _ _ _ _ _
   | exact LeO.none _
   | refine LeO.ite ?_ ?_
   | refine LeO.bind ?_ (fun _ => ?_)
set_option maxHeartbeats 8000000 in
set_option maxRecDepth 100000 in
theorem span_Asked.calls (k : Nat) (a0_0 : Int) (a0_1 : Bool) (A0_2 : Option Addr) (c0_2 : Nat) (l0_2 : List (S54)) (a1 : Int) (a2 : Int) (a3 : Int) (r : Int) (w : World) (hr0_2 : Kd.C k54 w A0_2 l0_2.length l0_2) (hc0_2 : l0_2.length ≤ c0_2) (h : span_Asked.f k a0_0 a0_1 l0_2 a1 a2 a3 = some r) :
  Calls Try.prog 58 #[.agg #[.int .i64 a0_0, .bool a0_1, .slice A0_2 l0_2.length c0_2], .int .i64 a1, .int .i64 a2, .int .i64 a3] w fun e w' => e = .returned (.int .i64 r) ∧ Below w.heap.size w w' := by
 have hu24 := Try.underlying24; have HR0_2 := am_ hr0_2; have HC0_2 := am_ hc0_2; clear hr0_2 hc0_2; have HB := am_ (Below.refl w.heap.size w); have H : ((static_Ends.f k a0_0 a0_1 l0_2 a1 a2).bind fun t125 => (if t125 = 0 then ((span_Horizon.f a3).bind fun t126 => (some t126)) else (some t125))) = some r := h; clear h; replace H := Option.bind_eq_some_iff.mp H; obtain ⟨t125, A50, H⟩ := H; replace H : (if t125 = 0 then ((span_Horizon.f a3).bind fun t126 => (some t126)) else (some t125)) = some r := H; have A5 := am_ A50; clear A50
 by_cases c6 : t125 = 0
 ·rw [if_pos c6] at H
  obtain ⟨c6b0, c6b1⟩ := eqb_ c6; clear c6; replace H := Option.bind_eq_some_iff.mp H; obtain ⟨t126, A70, H⟩ := H; replace H : (some t126) = some r := H; have A7 := am_ A70; clear A70; obtain rfl := Option.some.inj H
  go_enter Try.func58, Try.ntmps58
  go_wp2_with (first | ((with_reducible refine gate_dst (N := 4) rfl ?_); refine bx_ 4 #[.int .i64 a0_0, .bool a0_1, .slice A0_2 l0_2.length c0_2] 24 ?_; intro gb124 hg w8 BK124 hb; have GE124 := ge_ (w := w) hg; replace HB := hst_ hb; clear hb hg; obtain ⟨hcz9_0, hcz9_1, hcz9_2, hfz9_0, hfz9_1, hfz9_2⟩ := cf3_ BK124.out) | ((with_reducible refine gate_callee (f := 83) rfl ?_); refine cl_ 13 Try.func83 (static_Ends.calls k a0_0 a0_1 _ _ l0_2 a1 a2 t125 _ (cb_ HR0_2.out) HC0_2.out A5.out) ?_; rintro e w10 ⟨rfl, hb⟩; refine ⟨_, rfl, ?_⟩; replace BK124 := am_ (bb_ BK124.out hb); replace HB := hst_ hb; (try clear hb); (try clear hb2); (try clear hk); (try clear hi)) | ((with_reducible refine gate_callee (f := 35) rfl ?_); refine cl_ 18 Try.func35 (span_Horizon.calls a3 t126 _ A7.out) ?_; rintro e w' ⟨rfl, ⟨nd, rfl⟩⟩; refine ⟨_, rfl, ?_⟩))
  go_ret
  exact ⟨er_, hb_⟩
 ·rw [if_neg c6] at H
  obtain ⟨c6b0, c6b1⟩ := neb_ c6; obtain rfl := Option.some.inj H
  go_enter Try.func58, Try.ntmps58
  go_wp2_with (first | ((with_reducible refine gate_dst (N := 4) rfl ?_); refine bx_ 4 #[.int .i64 a0_0, .bool a0_1, .slice A0_2 l0_2.length c0_2] 24 ?_; intro gb124 hg w11 BK124 hb; have GE124 := ge_ (w := w) hg; replace HB := hst_ hb; clear hb hg; obtain ⟨hcz12_0, hcz12_1, hcz12_2, hfz12_0, hfz12_1, hfz12_2⟩ := cf3_ BK124.out) | ((with_reducible refine gate_callee (f := 83) rfl ?_); refine cl_ 13 Try.func83 (static_Ends.calls k a0_0 a0_1 _ _ l0_2 a1 a2 t125 _ (cb_ HR0_2.out) HC0_2.out A5.out) ?_; rintro e w13 ⟨rfl, hb⟩; refine ⟨_, rfl, ?_⟩; replace BK124 := am_ (bb_ BK124.out hb); replace HB := hst_ hb; (try clear hb); (try clear hb2); (try clear hk); (try clear hi)))
  go_ret
  exact ⟨er_, hb_⟩
end Go.Proofs.Ytfhkkbpkajfdlaa.Q
end
