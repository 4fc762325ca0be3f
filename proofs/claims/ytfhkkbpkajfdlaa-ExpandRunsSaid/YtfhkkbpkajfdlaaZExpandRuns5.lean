/- A part of the proof: words, contracts, plain lemmas. Conditions: none. -/
import Derived.Test.YtfhkkbpkajfdlaaProg
import Derived.Maps.OwnSet
import Derived.Maps.OwnOps
import Derived.Maps.Views
import Derived.DeepKeys4
import Derived.WideKeyPair
import Derived.Test.YtfhkkbpkajfdlaaZExpandRuns4
set_option linter.unusedSimpArgs false
set_option linter.unusedVariables false
section
namespace Go.Proofs.Ytfhkkbpkajfdlaa.Q
open Go.RowKit Go.Proofs.YtfhkkbpkajfdlaaW.PrintWords Go.Proofs.YtfhkkbpkajfdlaaW.PrintLast Go.Proofs.YtfhkkbpkajfdlaaW.PrintMore
attribute [local go_sem] max2_int min2_int max_two min_two min_four
def errW : Option Int → Value
 | none => .nilIface
 | some c => .iface 0 (.int .i64 c)
theorem errW_none : errW none = .nilIface := rfl
theorem errW_some (c : Int) : errW (some c) = .iface 0 (.int .i64 c) := rfl
theorem info3 : (Try.prog.info? 3).map (fun i => (i.zero, i.size, i.bytes)) = some (some (.int .i64 0), 1, 8) := by kernel_rfl
theorem info42 : (Try.prog.info? 42).map (fun i => (i.zero, i.size, i.bytes)) = some (some (.slice none 0 0), 1, 24) := by kernel_rfl
theorem info54 : (Try.prog.info? 54).map (fun i => (i.zero, i.size, i.bytes)) = some (some (.agg #[(.int .i64 0), (.int .i64 0), (.int .i64 0), (.int .i64 0)]), 4, 32) := by kernel_rfl
theorem info85 : (Try.prog.info? 85).map (fun i => (i.zero, i.size, i.bytes)) = some (some (.agg #[(.int .i64 0), (.int .i64 0), (.int .i64 0)]), 3, 24) := by kernel_rfl
theorem info115 : (Try.prog.info? 115).map (fun i => (i.zero, i.size, i.bytes)) = some (some (.agg #[(.int .i64 0), (.bool false)]), 2, 16) := by kernel_rfl
structure S54 where
 f0 : Int
 f1 : Int
 f2 : Int
 f3 : Int
def z54 : S54 := ⟨(0 : Int), (0 : Int), (0 : Int), (0 : Int)⟩
def k54 : Kd S54 := Kd.iso (Kd.pair (Kd.int .i64) (Kd.pair (Kd.int .i64) (Kd.pair (Kd.int .i64) (Kd.int .i64)))) (fun x : S54 => (x.f0, x.f1, x.f2, x.f3))
theorem k54_open {w : World} {x : S54} {cs : List Value} (h : k54.K w x cs) : cs = [.int .i64 x.f0, .int .i64 x.f1, .int .i64 x.f2, .int .i64 x.f3] := by
 obtain ⟨_, _, rfl, rfl, ⟨_, _, rfl, rfl, ⟨_, _, rfl, rfl, rfl⟩⟩⟩ := h; exact rfl
theorem k54_mkM (w : World) (base : Nat) (ok : Nat → Prop) (x : S54)  : k54.M w base ok x [.int .i64 x.f0, .int .i64 x.f1, .int .i64 x.f2, .int .i64 x.f3] := ⟨[.int .i64 x.f0], [.int .i64 x.f1, .int .i64 x.f2, .int .i64 x.f3], rfl, rfl, ⟨[.int .i64 x.f1], [.int .i64 x.f2, .int .i64 x.f3], rfl, rfl, ⟨[.int .i64 x.f2], [.int .i64 x.f3], rfl, rfl, rfl⟩⟩⟩
def rd_T54 (xs : List S54) (i : Int) : S54 := xs.getD i.toNat z54
theorem at_T54 {w : World} {A : Option Addr} {n : Nat} {xs : List S54} (h : Kd.C k54 w A n xs) (i : Int) (h0 : 0 ≤ i) (h1 : i < n) : ∃ ad , A = some ad ∧ w.cell? (ad.add (i.toNat * 4)) = some (.int .i64 (rd_T54 xs i).f0) ∧ w.cell? ⟨(ad.add (i.toNat * 4)).block, (ad.add (i.toNat * 4)).off + 1, none⟩ = some (.int .i64 (rd_T54 xs i).f1) ∧ w.cell? ⟨(ad.add (i.toNat * 4)).block, (ad.add (i.toNat * 4)).off + 2, none⟩ = some (.int .i64 (rd_T54 xs i).f2) ∧ w.cell? ⟨(ad.add (i.toNat * 4)).block, (ad.add (i.toNat * 4)).off + 3, none⟩ = some (.int .i64 (rd_T54 xs i).f3) := by
 obtain ⟨ad, c, e, _, hK, hc0⟩ := Kd.C_get h z54 i h0 h1; have hc : ∀ j u, c[j]? = some u → w.cell? (ad.add (i.toNat * 4 + j)) = some u := hc0; obtain rfl := k54_open hK; exact ⟨ad, e, hc 0 _ rfl, by rw [← add_field _ _ 1 (by omega)]; exact hc 1 _ rfl, by rw [← add_field _ _ 2 (by omega)]; exact hc 2 _ rfl, by rw [← add_field _ _ 3 (by omega)]; exact hc 3 _ rfl⟩
structure S85 where
 f0 : Int
 f1 : Int
 f2 : Int
def z85 : S85 := ⟨(0 : Int), (0 : Int), (0 : Int)⟩
def k85 : Kd S85 := Kd.iso (Kd.pair (Kd.int .i64) (Kd.pair (Kd.int .i64) (Kd.int .i64))) (fun x : S85 => (x.f0, x.f1, x.f2))
theorem k85_open {w : World} {x : S85} {cs : List Value} (h : k85.K w x cs) : cs = [.int .i64 x.f0, .int .i64 x.f1, .int .i64 x.f2] := by
 obtain ⟨_, _, rfl, rfl, ⟨_, _, rfl, rfl, rfl⟩⟩ := h; exact rfl
theorem k85_openM {w : World} {base : Nat} {ok : Nat → Prop} {x : S85} {cs : List Value} (h : k85.M w base ok x cs) : cs = [.int .i64 x.f0, .int .i64 x.f1, .int .i64 x.f2] := by
 obtain ⟨_, _, rfl, rfl, ⟨_, _, rfl, rfl, rfl⟩⟩ := h; exact rfl
theorem k85_mkM (w : World) (base : Nat) (ok : Nat → Prop) (x : S85)  : k85.M w base ok x [.int .i64 x.f0, .int .i64 x.f1, .int .i64 x.f2] := ⟨[.int .i64 x.f0], [.int .i64 x.f1, .int .i64 x.f2], rfl, rfl, ⟨[.int .i64 x.f1], [.int .i64 x.f2], rfl, rfl, rfl⟩⟩
def rd_T85 (xs : List S85) (i : Int) : S85 := xs.getD i.toNat z85
theorem at_T85 {w : World} {A : Option Addr} {n : Nat} {xs : List S85} (h : Kd.C k85 w A n xs) (i : Int) (h0 : 0 ≤ i) (h1 : i < n) : ∃ ad , A = some ad ∧ w.cell? (ad.add (i.toNat * 3)) = some (.int .i64 (rd_T85 xs i).f0) ∧ w.cell? ⟨(ad.add (i.toNat * 3)).block, (ad.add (i.toNat * 3)).off + 1, none⟩ = some (.int .i64 (rd_T85 xs i).f1) ∧ w.cell? ⟨(ad.add (i.toNat * 3)).block, (ad.add (i.toNat * 3)).off + 2, none⟩ = some (.int .i64 (rd_T85 xs i).f2) := by
 obtain ⟨ad, c, e, _, hK, hc0⟩ := Kd.C_get h z85 i h0 h1; have hc : ∀ j u, c[j]? = some u → w.cell? (ad.add (i.toNat * 3 + j)) = some u := hc0; obtain rfl := k85_open hK; exact ⟨ad, e, hc 0 _ rfl, by rw [← add_field _ _ 1 (by omega)]; exact hc 1 _ rfl, by rw [← add_field _ _ 2 (by omega)]; exact hc 2 _ rfl⟩
def rd_L3 (xs : List (List Int)) (i : Int) : (List Int) := xs.getD i.toNat ([] : List Int)
theorem at_L3 {w : World} {A : Option Addr} {n : Nat} {xs : List (List Int)} (h : Kd.C (Kd.slice 3 (Kd.int .i64)) w A n xs) (i : Int) (h0 : 0 ≤ i) (h1 : i < n) : ∃ ad A0 c0, A = some ad ∧ w.cell? (ad.add i.toNat) = some (.slice A0 (rd_L3 xs i).length c0) ∧ (rd_L3 xs i).length ≤ c0 ∧ (Kd.int .i64).C w A0 (rd_L3 xs i).length (rd_L3 xs i) := by
 obtain ⟨ad, c, e, _, hK, hc0⟩ := Kd.C_get h ([] : List Int) i h0 h1; have hc : ∀ j u, c[j]? = some u → w.cell? (ad.add (i.toNat * 1 + j)) = some u := hc0; obtain ⟨A0, c0, rfl, l0, g0⟩ := hK; exact ⟨ad, A0, c0, e, by have hq := hc 0 _ rfl; rwa [Nat.mul_one, Nat.add_zero] at hq, l0, g0⟩
structure S83 where
 f0 : Bool
 f1 : Bool
 f2 : Int
 f3 : Int
 f4 : Int
structure S80 where
 f0 : Int
 f1 : Int
 f2 : Int
 f3 : Int
def z80 : S80 := ⟨(0 : Int), (0 : Int), (0 : Int), (0 : Int)⟩
def k80 : Kd S80 := Kd.iso (Kd.pair (Kd.int .u8) (Kd.pair (Kd.int .u8) (Kd.pair (Kd.int .u8) (Kd.int .u8)))) (fun x : S80 => (x.f0, x.f1, x.f2, x.f3))
theorem k80_open {w : World} {x : S80} {cs : List Value} (h : k80.K w x cs) : cs = [.int .u8 x.f0, .int .u8 x.f1, .int .u8 x.f2, .int .u8 x.f3] := by
 obtain ⟨_, _, rfl, rfl, ⟨_, _, rfl, rfl, ⟨_, _, rfl, rfl, rfl⟩⟩⟩ := h; exact rfl
def rd_T80 (xs : List S80) (i : Int) : S80 := xs.getD i.toNat z80
theorem at_T80 {w : World} {A : Option Addr} {n : Nat} {xs : List S80} (h : Kd.C k80 w A n xs) (i : Int) (h0 : 0 ≤ i) (h1 : i < n) : ∃ ad , A = some ad ∧ w.cell? (ad.add (i.toNat * 4)) = some (.int .u8 (rd_T80 xs i).f0) ∧ w.cell? ⟨(ad.add (i.toNat * 4)).block, (ad.add (i.toNat * 4)).off + 1, none⟩ = some (.int .u8 (rd_T80 xs i).f1) ∧ w.cell? ⟨(ad.add (i.toNat * 4)).block, (ad.add (i.toNat * 4)).off + 2, none⟩ = some (.int .u8 (rd_T80 xs i).f2) ∧ w.cell? ⟨(ad.add (i.toNat * 4)).block, (ad.add (i.toNat * 4)).off + 3, none⟩ = some (.int .u8 (rd_T80 xs i).f3) := by
 obtain ⟨ad, c, e, _, hK, hc0⟩ := Kd.C_get h z80 i h0 h1; have hc : ∀ j u, c[j]? = some u → w.cell? (ad.add (i.toNat * 4 + j)) = some u := hc0; obtain rfl := k80_open hK; exact ⟨ad, e, hc 0 _ rfl, by rw [← add_field _ _ 1 (by omega)]; exact hc 1 _ rfl, by rw [← add_field _ _ 2 (by omega)]; exact hc 2 _ rfl, by rw [← add_field _ _ 3 (by omega)]; exact hc 3 _ rfl⟩
structure S115 where
 f0 : Int
 f1 : Bool
def z115 : S115 := ⟨(0 : Int), false⟩
def k115 : Kd S115 := Kd.iso (Kd.pair (Kd.int .i64) Kd.bool) (fun x : S115 => (x.f0, x.f1))
theorem k115_open {w : World} {x : S115} {cs : List Value} (h : k115.K w x cs) : cs = [.int .i64 x.f0, .bool x.f1] := by
 obtain ⟨_, _, rfl, rfl, rfl⟩ := h; exact rfl
theorem k115_mkM (w : World) (base : Nat) (ok : Nat → Prop) (x : S115)  : k115.M w base ok x [.int .i64 x.f0, .bool x.f1] := ⟨[.int .i64 x.f0], [.bool x.f1], rfl, rfl, rfl⟩
def rd_T115 (xs : List S115) (i : Int) : S115 := xs.getD i.toNat z115
theorem at_T115 {w : World} {A : Option Addr} {n : Nat} {xs : List S115} (h : Kd.C k115 w A n xs) (i : Int) (h0 : 0 ≤ i) (h1 : i < n) : ∃ ad , A = some ad ∧ w.cell? (ad.add (i.toNat * 2)) = some (.int .i64 (rd_T115 xs i).f0) ∧ w.cell? ⟨(ad.add (i.toNat * 2)).block, (ad.add (i.toNat * 2)).off + 1, none⟩ = some (.bool (rd_T115 xs i).f1) := by
 obtain ⟨ad, c, e, _, hK, hc0⟩ := Kd.C_get h z115 i h0 h1; have hc : ∀ j u, c[j]? = some u → w.cell? (ad.add (i.toNat * 2 + j)) = some u := hc0; obtain rfl := k115_open hK; exact ⟨ad, e, hc 0 _ rfl, by rw [← add_field _ _ 1 (by omega)]; exact hc 1 _ rfl⟩
structure S96 where
 f0 : Int
 f1 : Int
 f2 : Int
def z96 : S96 := ⟨(0 : Int), (0 : Int), (0 : Int)⟩
end Go.Proofs.Ytfhkkbpkajfdlaa.Q
end
section
namespace Go.Proofs.Ytfhkkbpkajfdlaa.Q
open Go.RowKit Go.Maps Go.Proofs.YtfhkkbpkajfdlaaW.PrintWords Go.Proofs.YtfhkkbpkajfdlaaW.PrintLast Go.Proofs.YtfhkkbpkajfdlaaW.PrintMore
def lookM {α : Type} [DecidableEq α] (es : List (α × Int)) (x : α) : Option Int := es.foldl (fun r p => if p.1 = x then some p.2 else r) none
theorem lookM_snoc {α : Type} [DecidableEq α] (es : List (α × Int)) (k : α) (v : Int) (x : α) : lookM (es ++ [(k, v)]) x = if k = x then some v else lookM es x := by
 unfold lookM; rw [List.foldl_append]; rfl
structure KeyEnc (K : TypeId) (α : Type) where
 enc : α → Value
 good : α → Prop
 kl : α → Lit
 law : Keyed Try.prog K
 key : ∀ x, good x → keyOf Try.prog K (enc x) = some (kl x)
 inj : ∀ x y, enc x = enc y → x = y
theorem KeyEnc.kl_inj {K : TypeId} {α : Type} (E : KeyEnc K α) {x y : α} (hx : E.good x) (hy : E.good y) (h : E.kl x = E.kl y) : x = y :=
 E.inj _ _ (E.law.inj (E.key x hx) (by rw [E.key y hy, h]))
theorem KeyEnc.isKey {K : TypeId} {α : Type} (E : KeyEnc K α) {x : α} (hx : E.good x) : WideAt.IsKeyLit (E.kl x) := E.law.key (E.key x hx)
def datM {α : Type} (kl : α → Lit) (es : List (α × Int)) : DataW Unit := es.foldl (fun m p => m.put (kl p.1) (.lit (.int .i64 p.2))) (.map [])
theorem datM_snoc {α : Type} (kl : α → Lit) (es : List (α × Int)) (k : α) (v : Int) : datM kl (es ++ [(k, v)]) = (datM kl es).put (kl k) (.lit (.int .i64 v)) := by
 unfold datM; rw [List.foldl_append]; rfl
section
variable {K : TypeId} {α : Type} [DecidableEq α] (E : KeyEnc K α)
theorem datM_fold (es : List (α × Int)) : ∀ (m : DataW Unit) (r : Option Int) (x : α), E.good x → (∀ p ∈ es, E.good p.1) → IsMap m → Maps.has m (E.kl x) = r.isSome → m.atKey (E.kl x) (.lit (.int .i64 0)) = .lit (.int .i64 (r.getD 0)) →
 Maps.has (es.foldl (fun m p => m.put (E.kl p.1) (.lit (.int .i64 p.2))) m) (E.kl x) = (es.foldl (fun r p => if p.1 = x then some p.2 else r) r).isSome ∧
 (es.foldl (fun m p => m.put (E.kl p.1) (.lit (.int .i64 p.2))) m).atKey (E.kl x) (.lit (.int .i64 0)) = .lit (.int .i64 ((es.foldl (fun r p => if p.1 = x then some p.2 else r) r).getD 0)) := by
 induction es with
 | nil => intro m r x _ _ _ h1 h2; exact ⟨h1, h2⟩
 | cons p es ih =>
  intro m r x hx hg hm h1 h2
  simp only [List.foldl_cons]
  have hp := hg p List.mem_cons_self
  refine ih _ _ x hx (fun q hq => hg q (List.mem_cons_of_mem _ hq)) (hm.put _ _) ?_ ?_
  ·by_cases e : p.1 = x
   ·rw [if_pos e, e, has_put_same hm (E.isKey hx)]; rfl
   ·rw [if_neg e, has_put_other (fun h => e (E.kl_inj hp hx h.symm))]; exact h1
  ·by_cases e : p.1 = x
   ·rw [if_pos e, e, atKey_put_same hm (E.isKey hx)]; rfl
   ·rw [if_neg e, atKey_put_other (fun h => e (E.kl_inj hp hx h.symm))]; exact h2
theorem has_datM {es : List (α × Int)} (hes : ∀ p ∈ es, E.good p.1) {x : α} (hx : E.good x) : Maps.has (datM E.kl es) (E.kl x) = (lookM es x).isSome :=
 (datM_fold E es (.map []) none x hx hes isMap_empty rfl rfl).1
theorem at_datM {es : List (α × Int)} (hes : ∀ p ∈ es, E.good p.1) {x : α} (hx : E.good x) : (datM E.kl es).atKey (E.kl x) (.lit (.int .i64 0)) = .lit (.int .i64 ((lookM es x).getD 0)) :=
 (datM_fold E es (.map []) none x hx hes isMap_empty rfl rfl).2
end
def MapI {K : TypeId} {α : Type} (E : KeyEnc K α) (w : World) (b n : Nat) (es : List (α × Int)) : Prop := (w.ownsMap Try.prog K (plainElem Try.prog 3) b n (datM E.kl es)) ∧ ∀ p ∈ es, E.good p.1
section
variable {K : TypeId} {α : Type} {E : KeyEnc K α} {w w1 : World} {b n : Nat} {es : List (α × Int)}
theorem MapI.made (E : KeyEnc K α) (w : World) : MapI E (w.alloc (.map #[] 0)) w.heap.size 0 ([] : List (α × Int)) := ⟨World.ownsMap_made _ _ _ _, fun p hp => by cases hp⟩
theorem MapI.block (h : MapI E w b n es) : ∃ es clock, w.heap[b]? = some (.map es clock) := by obtain ⟨⟨x, c, hb, _⟩, _⟩ := h; exact ⟨x, c, hb⟩
theorem MapI.lt (h : MapI E w b n es) : b < w.heap.size := by
 obtain ⟨x, c, hb⟩ := h.block
 exact (Array.getElem?_eq_some_iff.1 hb).1
theorem MapI.move (h : MapI E w b n es) (hb : w1.heap[b]? = w.heap[b]?) : MapI E w1 b n es := by
 obtain ⟨⟨x, c, hx, r⟩, g⟩ := h
 exact ⟨⟨x, c, hb.trans hx, r⟩, g⟩
theorem MapI.below (h : MapI E w b n es) (hb : Below w.heap.size w w1) : MapI E w1 b n es := h.move (hb.block b h.lt)
theorem MapI.alloc (h : MapI E w b n es) (o : Obj) : MapI E (w.alloc o) b n es := h.below (below_alloc (Below.refl _ _) o)
theorem MapI.drew (h : MapI E w b n es) : MapI E w.drew b n es := h.below (below_drew (Below.refl _ _))
theorem MapI.drewN (h : MapI E w b n es) (m : Nat) : MapI E (w.drewN m) b n es := h.below (pw_below_drewN (Below.refl _ _) m)
theorem MapI.grown (h : MapI E w b n es) {row : Option Nat} (hg : w.grownBy w1 row) (ht : ∀ k, row = some k → ∃ cells q fr, w.heap[k]? = some (.cells cells q fr)) : MapI E w1 b n es :=
 h.move (hg.block b h.lt (fun e => by
  obtain ⟨x, c, hb⟩ := h.block
  obtain ⟨cells, q, fr, hk⟩ := ht b e.symm
  rw [hk] at hb; injection hb with hb; cases hb))
theorem MapI.put [DecidableEq α] (h : MapI E w b n es) {n' : Nat} {x : α} {v : Int} (hx : E.good x) (hw : w1.ownsMap Try.prog K (plainElem Try.prog 3) b n' ((datM E.kl es).put (E.kl x) (.lit (.int .i64 v)))) : MapI E w1 b n' (es ++ [(x, v)]) := by
 refine ⟨by rw [datM_snoc]; exact hw, fun p hp => ?_⟩
 rcases List.mem_append.1 hp with hp | hp
 ·exact h.2 p hp
 ·rw [List.mem_singleton.1 hp]; exact hx
end
theorem S_nomap {α : Type} {d : Kd α} {e : Nat} {w : World} {base : Nat} {ok : Nat → Prop} {v : Value} {xs : List α} (h : Kd.S d e w base ok v xs) {b : Nat} (hb : ∃ es clock, w.heap[b]? = some (.map es clock)) : Kd.S d e w base (fun k => ok k ∧ k ≠ b) v xs :=
 Kd.S_mono (Kd.S_bound h) (fun k hk => ⟨hk.1, by
  obtain ⟨_, _, _, q, _, cells, hc⟩ := hk
  obtain ⟨es, clock, hm⟩ := hb
  rintro rfl
  rw [hc] at hm; injection hm with hm; cases hm⟩)
theorem R_nomap {α : Type} {d : Kd α} {e : Nat} {w : World} {base : Nat} {ok : Nat → Prop} {v : Value} {xs : List α} (h : Kd.R d e w base ok v xs) {b : Nat} (hb : ∃ es clock, w.heap[b]? = some (.map es clock)) : Kd.R d e w base (fun k => ok k ∧ k ≠ b) v xs :=
 Kd.R_mono (Kd.R_bound h) (fun k hk => ⟨hk.1, by
  obtain ⟨_, _, _, q, _, cells, hc⟩ := hk
  obtain ⟨es, clock, hm⟩ := hb
  rintro rfl
  rw [hc] at hm; injection hm with hm; cases hm⟩)
theorem laidOutT : laidOutB Try.prog = true := by kernel_rfl
theorem zeroInt (w : World) : (zeroValue 3).run Try.prog w = .ok (.int .i64 0) w := by kernel_rfl
def w64 (n : Int) : Prop := (Lit.int .i64 n).wf = true
def kl2 (p : Int × Int) : Lit := .string (keyBytes [.int .i64 p.1, .int .i64 p.2])
theorem sizeT : ∃ m, Try.prog.types.size = m + 1 := ⟨170, by kernel_rfl⟩
theorem arr120 : WideMaps.ArrKey Try.prog 120 3 2 := ⟨Try.underlying120, by kernel_rfl, by kernel_rfl, by kernel_rfl⟩
theorem keyT26 : Try.prog.keyType 26 = true := by kernel_rfl
theorem cells26 : Try.prog.cellsOf 26 = 2 := by kernel_rfl
theorem cells3 : Try.prog.cellsOf 3 = 1 := by kernel_rfl
theorem key_120 (a b : Int) (ha : w64 a) (hb : w64 b) : keyOf Try.prog 120 (.agg #[.int .i64 a, .int .i64 b]) = some (kl2 (a, b)) :=
 WideMaps.keyOf_pair arr120 Try.underlying3 sizeT ha hb
theorem key_26 (a b : Int) (ha : w64 a) (hb : w64 b) : keyOf Try.prog 26 (.agg #[.int .i64 a, .int .i64 b]) = some (kl2 (a, b)) := by
 have ha' : (Lit.int .i64 a).wf = true := ha
 have hb' : (Lit.int .i64 b).wf = true := hb
 obtain ⟨m, hm⟩ := sizeT
 unfold keyOf
 simp only [Try.underlying26]
 rw [if_pos (by simp [keyT26, Value.formed, Try.underlying26, cells26]), hm]
 unfold Program.keyLits
 simp only [Try.underlying26, Value.cells]
 rw [if_pos ⟨by rw [cells26]; rfl, by decide +kernel⟩]
 simp [cells3, Program.keyLits, Try.underlying3, ha', hb', kl2]
theorem law120 : Keyed Try.prog 120 := Keyed.of_law (deep_law_laid laidOutT (m := 2) (by decide) (by decide +kernel) (by kernel_rfl) (by rw [Try.underlying120]))
theorem law26 : Keyed Try.prog 26 := Keyed.of_law (deep_law_laid laidOutT (m := 2) (by decide) (by decide +kernel) (by kernel_rfl) (by rw [Try.underlying26]))
theorem law3 : Keyed Try.prog 3 := int_keyed Try.underlying3
def enc2 (p : Int × Int) : Value := .agg #[.int .i64 p.1, .int .i64 p.2]
theorem enc2_inj (x y : Int × Int) (h : enc2 x = enc2 y) : x = y := by
 unfold enc2 at h
 injection h with h
 simp only [Array.mk.injEq, List.cons.injEq, Value.int.injEq, true_and, and_true] at h
 exact Prod.ext h.1 h.2
def E120 : KeyEnc 120 (Int × Int) := ⟨enc2, fun p => w64 p.1 ∧ w64 p.2, kl2, law120, fun x h => key_120 x.1 x.2 h.1 h.2, enc2_inj⟩
def E26 : KeyEnc 26 (Int × Int) := ⟨enc2, fun p => w64 p.1 ∧ w64 p.2, kl2, law26, fun x h => key_26 x.1 x.2 h.1 h.2, enc2_inj⟩
def E3 : KeyEnc 3 Int := ⟨Value.int .i64, w64, Lit.int .i64, law3, fun x h => keyOf_int_mk Try.underlying3 h, fun x y h => by injection h⟩
section
variable {K : TypeId} {α : Type} {E : KeyEnc K α} {w w1 : World} {b n : Nat} {es : List (α × Int)}
theorem MapI.ne (h : MapI E w b n es) {g : Nat} {cells : Array Value} {q : TypeId} {fr : Nat × Nat} (hg : w.heap[g]? = some (.cells cells q fr)) : g ≠ b := by
 obtain ⟨x, c, hb⟩ := h.block
 rintro rfl
 rw [hg] at hb; injection hb with hb; cases hb
theorem MapI.far (h : MapI E w b n es) {p : Addr} (hne : p.block ≠ b) (u : Value) : MapI E (w.setCell p u) b n es := h.move (Below.heap_setCell w p u b (fun e => hne e.symm))
theorem MapI.farg (h : MapI E w b n es) {g j : Nat} (hne : g ≠ b) (u : Value) : MapI E (w.setCell ⟨g, j, none⟩ u) b n es := h.far (p := ⟨g, j, none⟩) hne u
theorem MapI.grownT (h : MapI E w b n es) {row : Option Nat} (hg : w.grownBy w1 row) {q : TypeId} (ht : ∀ k, row = some k → ∃ cells, w.heap[k]? = some (.cells cells q (0, 0))) : MapI E w1 b n es :=
 h.grown hg (fun k hk => by obtain ⟨c, hc⟩ := ht k hk; exact ⟨c, q, (0, 0), hc⟩)
end
section
variable {ops : Array Oper} {rest : List Oper} {o : Oper} {a : Act} {Q : Exit → Act → World → Prop} {K : TypeId} {α : Type}
theorem mmake (E : KeyEnc K α) (W : World) (hg : o.guard = none) (t : TypeId) (hop : o.op = Op.makeMap t none)
 (hK : ∀ w' mb, MapI E w' mb 0 ([] : List (α × Int)) → Below W.heap.size W w' → W.heap.size ≤ mb → wpList Try.prog ops Q rest (a.put o.dst (.map (some mb))) w') : wpList Try.prog ops Q (o :: rest) a W := by
 refine wpList_plain hg fun K' hK' => ?_
 unfold Oper.wp
 have hmm := @run_makeMap Try.prog t W
 simp [execOp, hop, hmm, Result.andThen]
 exact hK' _ _ (hK _ _ (MapI.made E W) (below_alloc (Below.refl _ _) _) (Nat.le_refl _))
theorem mlook [DecidableEq α] (E : KeyEnc K α) (W : World) (hg : o.guard = none) (m x : Operand) (t : TypeId) (hop : o.op = Op.lookup t m x true) (ht : Try.prog.underlying t = some (.map K 3)) {b n : Nat} {es : List (α × Int)}
 (hm : a.eval m = .map (some b)) (hM : MapI E W b n es) (key : α) (hx : a.eval x = E.enc key) (hk : E.good key)
 (hK : ∀ w', Below W.heap.size W w' → wpList Try.prog ops Q rest (a.put o.dst (.tuple #[.int .i64 ((lookM es key).getD 0), .bool (lookM es key).isSome])) w') : wpList Try.prog ops Q (o :: rest) a W := by
 refine wpList_lookup_own_ok_int W hg m x t hop K 3 .i64 E.law ht Try.underlying3 (zeroInt W) b n _ hm hM.1 _ (E.kl key) hx (E.key key hk) ?_
 intro c hat hwc
 rw [has_datM E hM.2 hk]
 have h2 := at_datM E hM.2 hk
 rw [hat] at h2
 injection h2 with h2
 injection h2 with _ h2
 subst h2
 exact hK W (Below.refl _ _)
theorem mput [DecidableEq α] (E : KeyEnc K α) (W : World) (hg : o.guard = none) (m x v : Operand) (t : TypeId) (hop : o.op = Op.mapUpdate t m x v) (ht : Try.prog.underlying t = some (.map K 3)) {b n : Nat} {es : List (α × Int)}
 (hm : a.eval m = .map (some b)) (hM : MapI E W b n es) (key : α) (val : Int) (hx : a.eval x = E.enc key) (hv : a.eval v = .int .i64 val) (hk : E.good key) (hw : w64 val) (hn : n < maxLen)
 (hK : ∀ w', MapI E w' b (n + 1) (es ++ [(key, val)]) → W.grownBy w' (some b) → wpList Try.prog ops Q rest (a.put o.dst undef) w') : wpList Try.prog ops Q (o :: rest) a W := by
 refine wpList_mapUpdate_own W hg m x v t hop K 3 E.law ht (plainElem Try.prog 3) b n _ hm hM.1 hn _ _ (E.kl key) hx hv (E.key key hk) (.lit (.int .i64 val)) [] (plainElem_int Try.underlying3 hw) ?_
 intro w' h1 h2
 exact hK w' (MapI.put hM hk h1) h2
end
def lookF {α : Type} [DecidableEq α] (good : α → Bool) (es : List (α × Int)) (x : α) : Option (Int × Bool) := if good x = true then some ((lookM es x).getD 0, (lookM es x).isSome) else none
def putF {α : Type} (good : α → Bool) (es : List (α × Int)) (x : α) (v : Int) : Option (List (α × Int)) := if good x = true ∧ (Lit.int .i64 v).wf = true ∧ es.length < 100000000 then some (es ++ [(x, v)]) else none
def good2 (p : Int × Int) : Bool := (Lit.int .i64 p.1).wf && (Lit.int .i64 p.2).wf
theorem good2_ok {p : Int × Int} (h : good2 p = true) : w64 p.1 ∧ w64 p.2 := by simpa [good2, w64] using h
theorem lookF_some {α : Type} [DecidableEq α] {good : α → Bool} {es : List (α × Int)} {x : α} {v : Int} {b : Bool} (h : lookF good es x = some (v, b)) : good x = true ∧ (lookM es x).getD 0 = v ∧ (lookM es x).isSome = b := by
 unfold lookF at h
 split at h
 ·rename_i hg
  injection h with h
  injection h with h1 h2
  exact ⟨hg, h1, h2⟩
 ·cases h
theorem putF_some {α : Type} {good : α → Bool} {es es' : List (α × Int)} {x : α} {v : Int} (h : putF good es x v = some es') : good x = true ∧ w64 v ∧ es.length < 100000000 ∧ es' = es ++ [(x, v)] := by
 unfold putF at h
 split at h
 ·rename_i hg
  injection h with h
  exact ⟨hg.1, hg.2.1, hg.2.2, h.symm⟩
 ·cases h
theorem mput_step {ops : Array Oper} {oi : Oper} {a : Act} {w : World} {Q : Exit → Act → World → Prop} {Kc : Act → World → Prop} {K : TypeId} {α : Type} [DecidableEq α] (E : KeyEnc K α) (hw : Region.wanted oi (yielded ops a.tmps) = true) (hN : oi.dst = none) (m x v : Operand) (t : TypeId) (hop : oi.op = Op.mapUpdate t m x v) (ht : Try.prog.underlying t = some (.map K 3)) {b n : Nat} {es : List (α × Int)}
 (hm : a.eval m = .map (some b)) (hM : MapI E w b n es) (key : α) (val : Int) (hx : a.eval x = E.enc key) (hv : a.eval v = .int .i64 val) (hk : E.good key) (hwv : w64 val) (hn : n < maxLen)
 (h : ∀ w', MapI E w' b (n + 1) (es ++ [(key, val)]) → w.grownBy w' (some b) → Kc a w') : if Region.wanted oi (yielded ops a.tmps) = true then Oper.wp Try.prog oi a w Kc Q else Kc (a.put none undef) w := by
 rw [if_pos hw]
 obtain ⟨w', hrun, r1, r2⟩ := hM.1.update E.law ht hn (E.key key hk) (plainElem_int Try.underlying3 hwv)
 unfold Oper.wp
 simp [execOp, hop, hm, hx, hv, hrun, Result.andThen]
 show Kc (a.put oi.dst undef) w'
 rw [hN]
 exact h w' (MapI.put hM hk r1) r2
theorem MapI.grownO {K : TypeId} {α : Type} {E : KeyEnc K α} {w w1 : World} {b n : Nat} {es : List (α × Int)} (h : MapI E w b n es) {m : Nat} (hg : w.grownBy w1 (some m)) (hne : b ≠ m) : MapI E w1 b n es :=
 h.move (hg.block b h.lt (fun e => hne (Option.some.inj e)))
structure GridW (w : World) (base : Nat) (ok : Nat → Prop) (gg : Nat) (N V : Int) (v : Value) (arcs : List S54) (m1 m2 m3 m4 : Nat) (l1 l2 : List ((Int × Int) × Int)) (l3 l4 : List (Int × Int)) : Prop where
 blk : w.heap[gg]? = some (.cells #[.int .i64 N, .bool false, v, .map (some m1), .map (some m2), .map (some m3), .map (some m4), .int .i64 V] 76 (0, 0))
 row : Kd.R k54 54 w base (fun k => ok k ∧ k ≠ gg) v arcs
 ge : base ≤ gg
 M1 : MapI E26 w m1 l1.length l1
 M2 : MapI E26 w m2 l2.length l2
 M3 : MapI E3 w m3 l3.length l3
 M4 : MapI E3 w m4 l4.length l4
 o1 : base ≤ m1
 o2 : m1 < m2
 o3 : m2 < m3
 o4 : m3 < m4
section
variable {w w1 : World} {base : Nat} {ok ok' : Nat → Prop} {gg : Nat} {N V : Int} {v : Value} {arcs : List S54} {m1 m2 m3 m4 : Nat} {l1 l2 : List ((Int × Int) × Int)} {l3 l4 : List (Int × Int)}
theorem GridW.below (h : GridW w base ok gg N V v arcs m1 m2 m3 m4 l1 l2 l3 l4) (hb : Below w.heap.size w w1) : GridW w1 base ok gg N V v arcs m1 m2 m3 m4 l1 l2 l3 l4 :=
 ⟨blk_below h.blk hb, Kd.R_below h.row hb, h.ge, h.M1.below hb, h.M2.below hb, h.M3.below hb, h.M4.below hb, h.o1, h.o2, h.o3, h.o4⟩
theorem GridW.drew (h : GridW w base ok gg N V v arcs m1 m2 m3 m4 l1 l2 l3 l4) : GridW w.drew base ok gg N V v arcs m1 m2 m3 m4 l1 l2 l3 l4 := h.below (below_drew (Below.refl _ _))
theorem GridW.mono (h : GridW w base ok gg N V v arcs m1 m2 m3 m4 l1 l2 l3 l4) (hk : ∀ k, ok k → ok' k) : GridW w base ok' gg N V v arcs m1 m2 m3 m4 l1 l2 l3 l4 :=
 ⟨h.blk, Kd.R_mono h.row (fun k hh => ⟨hk k hh.1, hh.2⟩), h.ge, h.M1, h.M2, h.M3, h.M4, h.o1, h.o2, h.o3, h.o4⟩
theorem GridW.elder (h : GridW w base ok gg N V v arcs m1 m2 m3 m4 l1 l2 l3 l4) (a : Nat) (ha : w.heap.size ≤ a) : GridW w base (fun k => ok k ∧ k ≠ a) gg N V v arcs m1 m2 m3 m4 l1 l2 l3 l4 :=
 ⟨h.blk, Kd.R_mono (Kd.R_elderB h.row a ha) (fun k hh => ⟨⟨hh.1.1, hh.2⟩, hh.1.2⟩), h.ge, h.M1, h.M2, h.M3, h.M4, h.o1, h.o2, h.o3, h.o4⟩
theorem GridW.lower {base' : Nat} (h : GridW w base ok gg N V v arcs m1 m2 m3 m4 l1 l2 l3 l4) (hb : base' ≤ base) : GridW w base' ok gg N V v arcs m1 m2 m3 m4 l1 l2 l3 l4 :=
 ⟨h.blk, Kd.R_lower h.row hb, Nat.le_trans hb h.ge, h.M1, h.M2, h.M3, h.M4, Nat.le_trans hb h.o1, h.o2, h.o3, h.o4⟩
theorem GridW.far (h : GridW w base ok gg N V v arcs m1 m2 m3 m4 l1 l2 l3 l4) {g : Nat} {cs : Array Value} {t : TypeId} (hg : w.heap[g]? = some (.cells cs t (0, 0))) (hne : gg ≠ g) (hok : ¬ ok g) (j : Nat) (u : Value) : GridW (w.setCell ⟨g, j, none⟩ u) base ok gg N V v arcs m1 m2 m3 m4 l1 l2 l3 l4 :=
 ⟨blk_far h.blk hne u, Kd.R_far (p := ⟨g, j, none⟩) h.row (fun k hk e => hok (by subst e; exact hk.1)) u, h.ge, h.M1.farg (h.M1.ne hg) u, h.M2.farg (h.M2.ne hg) u, h.M3.farg (h.M3.ne hg) u, h.M4.farg (h.M4.ne hg) u, h.o1, h.o2, h.o3, h.o4⟩
theorem GridW.lt (h : GridW w base ok gg N V v arcs m1 m2 m3 m4 l1 l2 l3 l4) : gg < w.heap.size := blk_lt h.blk
theorem GridW.put1 (h : GridW w base ok gg N V v arcs m1 m2 m3 m4 l1 l2 l3 l4) {x : (Int × Int) × Int} (hg : w.grownBy w1 (some m1)) (hM : MapI E26 w1 m1 (l1.length + 1) (l1 ++ [x])) : GridW w1 base ok gg N V v arcs m1 m2 m3 m4 (l1 ++ [x]) l2 l3 l4 :=
 ⟨blk_grown h.blk hg (fun e => h.M1.ne h.blk (Option.some.inj e)), Kd.R_mono (Kd.R_grown (R_nomap h.row h.M1.block) hg (fun k hk e => hk.2 (Option.some.inj e))) (fun k hk => hk.1), h.ge, by rw [List.length_append]; exact hM, h.M2.grownO hg (by have := h.o2; omega), h.M3.grownO hg (by have := h.o2; have := h.o3; omega), h.M4.grownO hg (by have := h.o2; have := h.o3; have := h.o4; omega), h.o1, h.o2, h.o3, h.o4⟩
theorem GridW.put2 (h : GridW w base ok gg N V v arcs m1 m2 m3 m4 l1 l2 l3 l4) {x : (Int × Int) × Int} (hg : w.grownBy w1 (some m2)) (hM : MapI E26 w1 m2 (l2.length + 1) (l2 ++ [x])) : GridW w1 base ok gg N V v arcs m1 m2 m3 m4 l1 (l2 ++ [x]) l3 l4 :=
 ⟨blk_grown h.blk hg (fun e => h.M2.ne h.blk (Option.some.inj e)), Kd.R_mono (Kd.R_grown (R_nomap h.row h.M2.block) hg (fun k hk e => hk.2 (Option.some.inj e))) (fun k hk => hk.1), h.ge, h.M1.grownO hg (by have := h.o2; omega), by rw [List.length_append]; exact hM, h.M3.grownO hg (by have := h.o3; omega), h.M4.grownO hg (by have := h.o3; have := h.o4; omega), h.o1, h.o2, h.o3, h.o4⟩
theorem GridW.put3 (h : GridW w base ok gg N V v arcs m1 m2 m3 m4 l1 l2 l3 l4) {x : Int × Int} (hg : w.grownBy w1 (some m3)) (hM : MapI E3 w1 m3 (l3.length + 1) (l3 ++ [x])) : GridW w1 base ok gg N V v arcs m1 m2 m3 m4 l1 l2 (l3 ++ [x]) l4 :=
 ⟨blk_grown h.blk hg (fun e => h.M3.ne h.blk (Option.some.inj e)), Kd.R_mono (Kd.R_grown (R_nomap h.row h.M3.block) hg (fun k hk e => hk.2 (Option.some.inj e))) (fun k hk => hk.1), h.ge, h.M1.grownO hg (by have := h.o2; have := h.o3; omega), h.M2.grownO hg (by have := h.o3; omega), by rw [List.length_append]; exact hM, h.M4.grownO hg (by have := h.o4; omega), h.o1, h.o2, h.o3, h.o4⟩
theorem GridW.put4 (h : GridW w base ok gg N V v arcs m1 m2 m3 m4 l1 l2 l3 l4) {x : Int × Int} (hg : w.grownBy w1 (some m4)) (hM : MapI E3 w1 m4 (l4.length + 1) (l4 ++ [x])) : GridW w1 base ok gg N V v arcs m1 m2 m3 m4 l1 l2 l3 (l4 ++ [x]) :=
 ⟨blk_grown h.blk hg (fun e => h.M4.ne h.blk (Option.some.inj e)), Kd.R_mono (Kd.R_grown (R_nomap h.row h.M4.block) hg (fun k hk e => hk.2 (Option.some.inj e))) (fun k hk => hk.1), h.ge, h.M1.grownO hg (by have := h.o2; have := h.o3; have := h.o4; omega), h.M2.grownO hg (by have := h.o3; have := h.o4; omega), h.M3.grownO hg (by have := h.o4; omega), by rw [List.length_append]; exact hM, h.o1, h.o2, h.o3, h.o4⟩
theorem GridW.added {u : Value} {xs : List S54} (h : GridW w base ok gg N V u arcs m1 m2 m3 m4 l1 l2 l3 l4) (ho : Kd.R k54 54 w1 base (fun k => ok k ∧ k ≠ gg) v xs) (hg : w.grownBy w1 u.ownBlock) :
 GridW (w1.setCell ⟨gg, 2, none⟩ v) base ok gg N V v xs m1 m2 m3 m4 l1 l2 l3 l4 ∧ w1.heap[gg]? = some (.cells #[.int .i64 N, .bool false, u, .map (some m1), .map (some m2), .map (some m3), .map (some m4), .int .i64 V] 76 (0, 0)) ∧ Kept w (w1.setCell ⟨gg, 2, none⟩ v) (fun k => k = gg ∨ ok k) := by
 have hne : some gg ≠ u.ownBlock := fun e => (h.row.1 gg e.symm).2 rfl
 have hb := blk_grown h.blk hg hne
 refine ⟨⟨blk_put (cs' := #[.int .i64 N, .bool false, v, .map (some m1), .map (some m2), .map (some m3), .map (some m4), .int .i64 V]) hb 2 v rfl, Kd.R_far (p := ⟨gg, 2, none⟩) ho (fun k hk => hk.2) _, h.ge, ?_, ?_, ?_, ?_, h.o1, h.o2, h.o3, h.o4⟩, hb, ?_⟩
 ·exact MapI.farg (MapI.grownT h.M1 (q := 54) hg (Kd.R_typed h.row)) (h.M1.ne h.blk) _
 ·exact MapI.farg (MapI.grownT h.M2 (q := 54) hg (Kd.R_typed h.row)) (h.M2.ne h.blk) _
 ·exact MapI.farg (MapI.grownT h.M3 (q := 54) hg (Kd.R_typed h.row)) (h.M3.ne h.blk) _
 ·exact MapI.farg (MapI.grownT h.M4 (q := 54) hg (Kd.R_typed h.row)) (h.M4.ne h.blk) _
 ·exact Kept.setCell (p := ⟨gg, 2, none⟩) (Kept.of_grown hg (Kept.refl w (fun k => k = gg ∨ ok k)) (fun k hk => Or.inl (Or.inr (h.row.1 k hk).1))) (Or.inl (Or.inl rfl)) v
theorem GridW.fresh (h : GridW w base ok gg N V v arcs m1 m2 m3 m4 l1 l2 l3 l4) (hf : ∀ k, w.heap.size ≤ k → ok k) : ∀ k, w.heap.size ≤ k → ok k ∧ k ≠ gg := fun k hk => ⟨hf k hk, fun e => by have := h.lt; omega⟩
end
set_option maxHeartbeats 8000000 in
set_option maxRecDepth 100000 in
theorem Grid_At.calls (gg : Nat) (N V x1 x2 : Int) (u p1 p2 p3 p4 : Value) (w : World) (hb : w.heap[gg]? = some (.cells #[.int .i64 N, .bool false, u, p1, p2, p3, p4, .int .i64 V] 76 (0, 0))) :
 Calls Try.prog 64 #[.pointer (some ⟨gg, 0, none⟩), .int .i64 x1, .int .i64 x2] w fun e w' => e = .returned (.int .i64 (wrap64 (wrap64 (x2 * V) + x1))) ∧ w' = w := by
 have z : w.cell? ⟨gg, 7, none⟩ = some (.int .i64 V) := (blk_cell hb 7).trans rfl
 clear hb
 go_enter Try.func64, Try.ntmps64
 go_wp2
 go_ret
 exact ⟨rfl, rfl⟩
def Grid_Ends.T1 : Bool × List (List Nat × List Nat) := (true, [([], []), ([0], [0]), ([1], [1]), ([2], [2]), ([3], [3]), ([4], [4]), ([], []), ([6], [6]), ([7], [7]), ([8], [8]), ([9], [9]), ([10], [10]), ([5, 0, 1, 2, 3, 4, 5], [5]), ([11, 12, 0, 1, 2, 3, 4, 5, 6, 7, 8, 9, 10, 11, 12], [11])])
def Grid_Ends.B1 : List Nat := [0, 1, 3, 7, 15, 31, 0, 64, 192, 448, 960, 1984, 63, 8191]
theorem Grid_Ends.tab1 : rtab .any (opsOf Try.f62 1) = Grid_Ends.T1 := by kernel_rfl
theorem Grid_Ends.bits1 : waitsOk Grid_Ends.T1.2 Grid_Ends.B1 = true := by kernel_rfl
set_option maxHeartbeats 8000000 in
set_option maxRecDepth 100000 in
theorem Grid_Ends.calls (gg : Nat) (N V : Int) (u p1 p2 p3 p4 : Value) (w : World) (hb : w.heap[gg]? = some (.cells #[.int .i64 N, .bool false, u, p1, p2, p3, p4, .int .i64 V] 76 (0, 0))) :
 Calls Try.prog 62 #[.pointer (some ⟨gg, 0, none⟩)] w fun e w' => e = .returned (.tuple #[.int .i64 (wrap64 (N - 2)), .int .i64 (wrap64 (N - 1))]) ∧ Below w.heap.size w w' := by
 have z : w.cell? ⟨gg, 0, none⟩ = some (.int .i64 N) := (blk_cell hb 0).trans rfl
 have HB := am_ (below_drew1 (Below.refl w.heap.size w))
 clear hb
 go_enter Try.func62, Try.ntmps62
 go_wp2
 refine start_ (n := 14) (S := fun w' => w'.cell? ⟨gg, 0, none⟩ = some (.int .i64 N)) (ds := []) #[Ff,Ff,Ff,Ff,Ff,Ff,Ff,Ff,Ff,Ff,Ff,Ff,Ff,Ff] (by kernel_rfl) rfl rfl z (fun hHeld => ?_)
 clear z
 generalize w.drew = w1 at HB hHeld ⊢
 refine with_tabW Grid_Ends.tab1 Grid_Ends.bits1 (fun HT_ HW_ => ?_)
 refine pw_ 0 4 ?_
 refine pw_ 1 5 ?_
 refine pw_ 2 6 ?_
 refine pw_ 3 7 ?_
 refine pw_ 6 10 ?_
 refine pw_ 7 11 ?_
 refine pw_ 8 12 ?_
 refine pw_ 9 13 ?_
 refine tk_ 4 8 ?_
 refine pw_ 5 9 ?_
 refine pw_ 12 2 ?_
 refine tk_ 10 14 ?_
 refine pw_ 11 15 ?_
 refine pw_ 13 3 ?_
 refine done_ (done_of HT_.out (by kernel_rfl)) ?_
 go_wp2
 go_ret2
 exact ⟨rfl, HB.out⟩
set_option maxHeartbeats 8000000 in
set_option maxRecDepth 100000 in
theorem Grid_Add.calls (ok : Nat → Prop) (gg : Nat) (N V : Int) (v : Value) (arcs : List S54) (m1 m2 m3 m4 : Nat) (l1 l2 : List ((Int × Int) × Int)) (l3 l4 : List (Int × Int)) (x1 x2 x3 : Int) (w0 w : World) (hB : Below w0.heap.size w0 w)
 (hG : GridW w w0.heap.size ok gg N V v arcs m1 m2 m3 m4 l1 l2 l3 l4) (hfresh : ∀ k, w.heap.size ≤ k → ok k) (hl : arcs.length ≤ 1048576) :
 Calls Try.prog 63 #[.pointer (some ⟨gg, 0, none⟩), .int .i64 x1, .int .i64 x2, .int .i64 x3] w fun e w' => e = .returned (.int .i64 (arcs.length : Int)) ∧ ∃ v', GridW w' w0.heap.size ok gg N V v' (arcs ++ [⟨x1, x2, x3, 0⟩]) m1 m2 m3 m4 l1 l2 l3 l4 ∧ Below w0.heap.size w0 w' ∧ Kept w w' (fun k => k = gg ∨ ok k) := by
 have HB := am_ hB
 have HG := am_ hG
 have HF := am_ hfresh
 have HL := am_ hl
 obtain ⟨A, c, ev⟩ := Kd.R_slice hG.row
 subst ev
 have z : w.cell? ⟨gg, 2, none⟩ = some (.slice A arcs.length c) := (blk_cell hG.blk 2).trans rfl
 clear hB hG hfresh hl
 go_enter Try.func63, Try.ntmps63
 go_wp2_with ((with_reducible refine gate_builtin (b := .append) (xs := #[.tmp 14, .tmp 19]) rfl ?_); at_builtin; refine Kd.R_append k54 (w0 := w0) w0.heap.size rfl (.tmp 14) (.tmp 19) 22 54 (.agg #[(.int .i64 0), (.int .i64 0), (.int .i64 0), (.int .i64 0)]) 32 rfl Try.underlying22 info54 rfl (by decide) (by omega) (.slice A arcs.length c) arcs (⟨x1, x2, x3, 0⟩ : S54) [(.int .i64 x1), (.int .i64 x2), (.int .i64 x3), (.int .i64 0)] (fun k_ => ok k_ ∧ k_ ≠ gg) (fun _ => False) rfl (by first | (go_simp; done) | (go_simp; rfl)) ?aP (fun _ hk => hk.elim) ?aF ?aO ?aB ?aS ?aL ?_; (case aP => exact k54_mkM _ _ _ (⟨x1, x2, x3, 0⟩ : S54)); (case aB => exact HB.out); (case aF => exact HG.out.fresh HF.out); (case aO => exact HG.out.row); (case aS => exact below_size HB.out); (case aL => have := HL.out; omega); intro v1 w1 ho hb hg hat; have hadd := HG.out.added ho hg; clear z; have z : w1.cell? ⟨gg, 2, none⟩ = some (.slice A arcs.length c) := (blk_cell hadd.2.1 2).trans rfl; have y := blk_frozen hadd.2.1 2; have n1_ := am_ (below_set hb HG.out.ge (j := 2) (v := v1)); obtain ⟨A1, c1, e1⟩ := Kd.R_slice ho; rw [show (arcs ++ [(⟨x1, x2, x3, 0⟩ : S54)]).length = arcs.length + 1 from by simp] at e1; subst e1; have n0_ := am_ hadd.1; have n2_ := am_ hadd.2.2; clear hadd; clear hb hg hat ho HB HG HF; have HB := n1_; have HG := n0_; have HK := n2_; clear n0_ n1_ n2_)
 go_ret
 exact ⟨by first | rfl | exact congrArg (fun i => Ending.returned (.int .i64 i)) (by have := HL.out; unfold wrap64; omega), _, HG.out, HB.out, HK.out⟩
theorem Of1.calls (f0 f1 f2 f3 s t : Int) (gs gt : Nat) (w : World) (hs : w.heap[gs]? = some (.cells #[.int .i64 s] 3 (0, 0))) (ht : w.heap[gt]? = some (.cells #[.int .i64 t] 3 (0, 0))) :
 Calls Try.prog 60 #[.agg #[.int .i64 f0, .int .i64 f1, .int .i64 f2, .int .i64 f3], .pointer (some ⟨gs, 0, none⟩), .pointer (some ⟨gt, 0, none⟩)] w fun e w' => e = .returned (.bool (f1 != s && f0 != t)) ∧ Below w.heap.size w w' := by
 have HB := am_ (Below.refl w.heap.size w)
 have HS := am_ hs
 have HT := am_ ht
 clear hs ht
 obtain ⟨b1, d1⟩ : ∃ b, (f1 != s) = b := ⟨_, rfl⟩
 cases b1
 all_goals
  rw [d1]
  go_enter Try.func60, Try.ntmps60
  go_wp2_with ((with_reducible refine gate_dst (N := 3) rfl ?_); refine box_event ?hg (N := 3) ?hd (cs := #[.int .i64 f0, .int .i64 f1, .int .i64 f2, .int .i64 f3]) (t := 54) ?hr ?_; (case hd => rfl); (case hg => rfl); (case hr => first | (go_simp; done) | (go_simp; rfl)); intro gb hg w5 hbox hb; have n0_ := am_ (below_step HB.out hb); have n1_ := am_ (blk_below HS.out hb); have n2_ := am_ (blk_below HT.out hb); clear HB HS HT; have HB := n0_; have HS := n1_; have HT := n2_; clear n0_ n1_ n2_; have z0 : w5.cell? ⟨gb, 0, none⟩ = some (.int .i64 f0) := (blk_cell hbox 0).trans rfl; have z1 : w5.cell? ⟨gb, 1, none⟩ = some (.int .i64 f1) := (blk_cell hbox 1).trans rfl; have z2 : w5.cell? ⟨gs, 0, none⟩ = some (.int .i64 s) := (blk_cell HS.out 0).trans rfl; have z3 : w5.cell? ⟨gt, 0, none⟩ = some (.int .i64 t) := (blk_cell HT.out 0).trans rfl; clear hb hbox hg)
  go_ret
  exact ⟨rfl, HB.out⟩
theorem Of2.calls (x V s t : Int) (hold : Bool) (sl : Value) (gn gs gt : Nat) (w : World) (hn : w.heap[gn]? = some (.cells #[.int .i64 V, .bool hold, sl] 24 (0, 0))) (hs : w.heap[gs]? = some (.cells #[.int .i64 s] 3 (0, 0))) (ht : w.heap[gt]? = some (.cells #[.int .i64 t] 3 (0, 0))) :
 Calls Try.prog 61 #[.int .i64 x, .pointer (some ⟨gn, 0, none⟩), .pointer (some ⟨gs, 0, none⟩), .pointer (some ⟨gt, 0, none⟩)] w fun e w' => e = .returned (.bool ((hold && x != s) && x != t)) ∧ w' = w := by
 have z1 : w.cell? ⟨gn, 1, none⟩ = some (.bool hold) := (blk_cell hn 1).trans rfl
 have z2 : w.cell? ⟨gs, 0, none⟩ = some (.int .i64 s) := (blk_cell hs 0).trans rfl
 have z3 : w.cell? ⟨gt, 0, none⟩ = some (.int .i64 t) := (blk_cell ht 0).trans rfl
 have hu24 := Try.underlying24
 clear hn hs ht
 obtain ⟨b1, d1⟩ : ∃ b, (x != s) = b := ⟨_, rfl⟩
 cases hold
 ·go_enter Try.func61, Try.ntmps61
  go_wp2
  go_ret
  exact ⟨rfl, rfl⟩
 ·cases b1
  ·rw [d1]
   go_enter Try.func61, Try.ntmps61
   go_wp2
   go_ret
   exact ⟨rfl, rfl⟩
  ·rw [d1]
   go_enter Try.func61, Try.ntmps61
   go_wp2
   go_ret
   exact ⟨rfl, rfl⟩
end Go.Proofs.Ytfhkkbpkajfdlaa.Q
end
