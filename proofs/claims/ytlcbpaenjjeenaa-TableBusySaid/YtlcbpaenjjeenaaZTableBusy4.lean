/- A part of the proof: words, contracts, plain lemmas. Conditions: none. -/
import Derived.Test.YtlcbpaenjjeenaaZTableBusy3
import Derived.Maps.OwnSet
import Derived.Maps.OwnOps
import Derived.Maps.Views
import Derived.DeepKeys4
import Derived.WideKeyPair
section
namespace Go.Proofs.Ytlcbpaenjjeenaa.Q
open Go.RowKit Go.Maps Go.Proofs.YtlcbpaenjjeenaaW.PrintWords Go.Proofs.YtlcbpaenjjeenaaW.PrintLast Go.Proofs.YtlcbpaenjjeenaaW.PrintMore
def lookM {α : Type} [DecidableEq α] (es : List (α × Int)) (x : α) : Option Int := es.foldl (fun r p => if p.1 = x then some p.2 else r) none
theorem lookM_snoc {α : Type} [DecidableEq α] (es : List (α × Int)) (k : α) (v : Int) (x : α) : lookM (es ++ [(k, v)]) x = if k = x then some v else lookM es x := by
  unfold lookM; rw [List.foldl_append]; rfl
structure KeyEnc (K : TypeId) (α : Type) where
  enc : α → Value
  good : α → Prop
  kl : α → Lit
  law : Keyed Try.prog K
  key : ∀ x, good x → keyOf Try.prog K (enc x) = some (kl x)
  inj : ∀ x y, enc x = enc y → x = y
theorem KeyEnc.kl_inj {K : TypeId} {α : Type} (E : KeyEnc K α) {x y : α} (hx : E.good x) (hy : E.good y) (h : E.kl x = E.kl y) : x = y :=
  E.inj _ _ (E.law.inj (E.key x hx) (by rw [E.key y hy, h]))
theorem KeyEnc.isKey {K : TypeId} {α : Type} (E : KeyEnc K α) {x : α} (hx : E.good x) : WideAt.IsKeyLit (E.kl x) := E.law.key (E.key x hx)
def datM {α : Type} (kl : α → Lit) (es : List (α × Int)) : DataW Unit := es.foldl (fun m p => m.put (kl p.1) (.lit (.int .i64 p.2))) (.map [])
theorem datM_snoc {α : Type} (kl : α → Lit) (es : List (α × Int)) (k : α) (v : Int) : datM kl (es ++ [(k, v)]) = (datM kl es).put (kl k) (.lit (.int .i64 v)) := by
  unfold datM; rw [List.foldl_append]; rfl
section
variable {K : TypeId} {α : Type} [DecidableEq α] (E : KeyEnc K α)
theorem datM_fold (es : List (α × Int)) : ∀ (m : DataW Unit) (r : Option Int) (x : α), E.good x → (∀ p ∈ es, E.good p.1) → IsMap m → Maps.has m (E.kl x) = r.isSome → m.atKey (E.kl x) (.lit (.int .i64 0)) = .lit (.int .i64 (r.getD 0)) →
    Maps.has (es.foldl (fun m p => m.put (E.kl p.1) (.lit (.int .i64 p.2))) m) (E.kl x) = (es.foldl (fun r p => if p.1 = x then some p.2 else r) r).isSome ∧
    (es.foldl (fun m p => m.put (E.kl p.1) (.lit (.int .i64 p.2))) m).atKey (E.kl x) (.lit (.int .i64 0)) = .lit (.int .i64 ((es.foldl (fun r p => if p.1 = x then some p.2 else r) r).getD 0)) := by
  induction es with
  | nil => intro m r x _ _ _ h1 h2; exact ⟨h1, h2⟩
  | cons p es ih =>
    intro m r x hx hg hm h1 h2
    simp only [List.foldl_cons]
    have hp := hg p List.mem_cons_self
    refine ih _ _ x hx (fun q hq => hg q (List.mem_cons_of_mem _ hq)) (hm.put _ _) ?_ ?_
    · by_cases e : p.1 = x
      · rw [if_pos e, e, has_put_same hm (E.isKey hx)]; rfl
      · rw [if_neg e, has_put_other (fun h => e (E.kl_inj hp hx h.symm))]; exact h1
    · by_cases e : p.1 = x
      · rw [if_pos e, e, atKey_put_same hm (E.isKey hx)]; rfl
      · rw [if_neg e, atKey_put_other (fun h => e (E.kl_inj hp hx h.symm))]; exact h2
theorem has_datM {es : List (α × Int)} (hes : ∀ p ∈ es, E.good p.1) {x : α} (hx : E.good x) : Maps.has (datM E.kl es) (E.kl x) = (lookM es x).isSome :=
  (datM_fold E es (.map []) none x hx hes isMap_empty rfl rfl).1
theorem at_datM {es : List (α × Int)} (hes : ∀ p ∈ es, E.good p.1) {x : α} (hx : E.good x) : (datM E.kl es).atKey (E.kl x) (.lit (.int .i64 0)) = .lit (.int .i64 ((lookM es x).getD 0)) :=
  (datM_fold E es (.map []) none x hx hes isMap_empty rfl rfl).2
end
def MapI {K : TypeId} {α : Type} (E : KeyEnc K α) (w : World) (b n : Nat) (es : List (α × Int)) : Prop := (w.ownsMap Try.prog K (plainElem Try.prog 3) b n (datM E.kl es)) ∧ ∀ p ∈ es, E.good p.1
section
variable {K : TypeId} {α : Type} {E : KeyEnc K α} {w w1 : World} {b n : Nat} {es : List (α × Int)}
theorem MapI.made (E : KeyEnc K α) (w : World) : MapI E (w.alloc (.map #[] 0)) w.heap.size 0 ([] : List (α × Int)) := ⟨World.ownsMap_made _ _ _ _, fun p hp => by cases hp⟩
theorem MapI.block (h : MapI E w b n es) : ∃ es clock, w.heap[b]? = some (.map es clock) := by obtain ⟨⟨x, c, hb, _⟩, _⟩ := h; exact ⟨x, c, hb⟩
theorem MapI.lt (h : MapI E w b n es) : b < w.heap.size := by
  obtain ⟨x, c, hb⟩ := h.block
  exact (Array.getElem?_eq_some_iff.1 hb).1
theorem MapI.move (h : MapI E w b n es) (hb : w1.heap[b]? = w.heap[b]?) : MapI E w1 b n es := by
  obtain ⟨⟨x, c, hx, r⟩, g⟩ := h
  exact ⟨⟨x, c, hb.trans hx, r⟩, g⟩
theorem MapI.below (h : MapI E w b n es) (hb : Below w.heap.size w w1) : MapI E w1 b n es := h.move (hb.block b h.lt)
theorem MapI.alloc (h : MapI E w b n es) (o : Obj) : MapI E (w.alloc o) b n es := h.below (below_alloc (Below.refl _ _) o)
theorem MapI.drew (h : MapI E w b n es) : MapI E w.drew b n es := h.below (below_drew (Below.refl _ _))
theorem MapI.drewN (h : MapI E w b n es) (m : Nat) : MapI E (w.drewN m) b n es := h.below (pw_below_drewN (Below.refl _ _) m)
theorem MapI.grown (h : MapI E w b n es) {row : Option Nat} (hg : w.grownBy w1 row) (ht : ∀ k, row = some k → ∃ cells q fr, w.heap[k]? = some (.cells cells q fr)) : MapI E w1 b n es :=
  h.move (hg.block b h.lt (fun e => by
    obtain ⟨x, c, hb⟩ := h.block
    obtain ⟨cells, q, fr, hk⟩ := ht b e.symm
    rw [hk] at hb; injection hb with hb; cases hb))
theorem MapI.mono (h : MapI E w b n es) {n' : Nat} (hn : n ≤ n') : MapI E w b n' es := ⟨h.1.mono hn, h.2⟩
theorem MapI.put [DecidableEq α] (h : MapI E w b n es) {n' : Nat} {x : α} {v : Int} (hx : E.good x) (hw : w1.ownsMap Try.prog K (plainElem Try.prog 3) b n' ((datM E.kl es).put (E.kl x) (.lit (.int .i64 v)))) : MapI E w1 b n' (es ++ [(x, v)]) := by
  refine ⟨by rw [datM_snoc]; exact hw, fun p hp => ?_⟩
  rcases List.mem_append.1 hp with hp | hp
  · exact h.2 p hp
  · rw [List.mem_singleton.1 hp]; exact hx
end
theorem S_nomap {α : Type} {d : Kd α} {e : Nat} {w : World} {base : Nat} {ok : Nat → Prop} {v : Value} {xs : List α} (h : Kd.S d e w base ok v xs) {b : Nat} (hb : ∃ es clock, w.heap[b]? = some (.map es clock)) : Kd.S d e w base (fun k => ok k ∧ k ≠ b) v xs :=
  Kd.S_mono (Kd.S_bound h) (fun k hk => ⟨hk.1, by
    obtain ⟨_, _, _, q, _, cells, hc⟩ := hk
    obtain ⟨es, clock, hm⟩ := hb
    rintro rfl
    rw [hc] at hm; injection hm with hm; cases hm⟩)
theorem laidOutT : laidOutB Try.prog = true := by kernel_rfl
theorem zeroInt (w : World) : (zeroValue 3).run Try.prog w = .ok (.int .i64 0) w := by kernel_rfl
def w64 (n : Int) : Prop := (Lit.int .i64 n).wf = true
def kl2 (p : Int × Int) : Lit := .string (keyBytes [.int .i64 p.1, .int .i64 p.2])
def kl3 (p : Int × Int × Int) : Lit := .string (keyBytes [.int .i64 p.1, .int .i64 p.2.1, .int .i64 p.2.2])
theorem sizeT : ∃ m, Try.prog.types.size = m + 1 := ⟨141, by kernel_rfl⟩
theorem arr37 : WideMaps.ArrKey Try.prog 37 3 2 := ⟨Try.underlying37, by kernel_rfl, by kernel_rfl, by kernel_rfl⟩
theorem keyT24 : Try.prog.keyType 24 = true := by kernel_rfl
theorem cells24 : Try.prog.cellsOf 24 = 3 := by kernel_rfl
theorem cells3 : Try.prog.cellsOf 3 = 1 := by kernel_rfl
theorem key_37 (a b : Int) (ha : w64 a) (hb : w64 b) : keyOf Try.prog 37 (.agg #[.int .i64 a, .int .i64 b]) = some (kl2 (a, b)) :=
  WideMaps.keyOf_pair arr37 Try.underlying3 sizeT ha hb
theorem key_24 (a b c : Int) (ha : w64 a) (hb : w64 b) (hc : w64 c) : keyOf Try.prog 24 (.agg #[.int .i64 a, .int .i64 b, .int .i64 c]) = some (kl3 (a, b, c)) := by
  have ha' : (Lit.int .i64 a).wf = true := ha
  have hb' : (Lit.int .i64 b).wf = true := hb
  have hc' : (Lit.int .i64 c).wf = true := hc
  obtain ⟨m, hm⟩ := sizeT
  unfold keyOf
  simp only [Try.underlying24]
  rw [if_pos (by simp [keyT24, Value.formed, Try.underlying24, cells24]), hm]
  unfold Program.keyLits
  simp only [Try.underlying24, Value.cells]
  rw [if_pos ⟨by rw [cells24]; rfl, by decide +kernel⟩]
  simp [cells3, Program.keyLits, Try.underlying3, ha', hb', hc', kl3]
theorem law37 : Keyed Try.prog 37 := Keyed.of_law (deep_law_laid laidOutT (m := 2) (by decide) (by decide +kernel) (by kernel_rfl) (by rw [Try.underlying37]))
theorem law24 : Keyed Try.prog 24 := Keyed.of_law (deep_law_laid laidOutT (m := 2) (by decide) (by decide +kernel) (by kernel_rfl) (by rw [Try.underlying24]))
def enc2 (p : Int × Int) : Value := .agg #[.int .i64 p.1, .int .i64 p.2]
def enc3 (p : Int × Int × Int) : Value := .agg #[.int .i64 p.1, .int .i64 p.2.1, .int .i64 p.2.2]
theorem enc2_inj (x y : Int × Int) (h : enc2 x = enc2 y) : x = y := by
  unfold enc2 at h
  injection h with h
  simp only [Array.mk.injEq, List.cons.injEq, Value.int.injEq, true_and, and_true] at h
  exact Prod.ext h.1 h.2
theorem enc3_inj (x y : Int × Int × Int) (h : enc3 x = enc3 y) : x = y := by
  unfold enc3 at h
  injection h with h
  simp only [Array.mk.injEq, List.cons.injEq, Value.int.injEq, true_and, and_true] at h
  exact Prod.ext h.1 (Prod.ext h.2.1 h.2.2)
def E37 : KeyEnc 37 (Int × Int) := ⟨enc2, fun p => w64 p.1 ∧ w64 p.2, kl2, law37, fun x h => key_37 x.1 x.2 h.1 h.2, enc2_inj⟩
def E24 : KeyEnc 24 (Int × Int × Int) := ⟨enc3, fun p => w64 p.1 ∧ w64 p.2.1 ∧ w64 p.2.2, kl3, law24, fun x h => key_24 x.1 x.2.1 x.2.2 h.1 h.2.1 h.2.2, enc3_inj⟩
section
variable {K : TypeId} {α : Type} {E : KeyEnc K α} {w w1 : World} {b n : Nat} {es : List (α × Int)}
theorem MapI.ne (h : MapI E w b n es) {g : Nat} {cells : Array Value} {q : TypeId} {fr : Nat × Nat} (hg : w.heap[g]? = some (.cells cells q fr)) : g ≠ b := by
  obtain ⟨x, c, hb⟩ := h.block
  rintro rfl
  rw [hg] at hb; injection hb with hb; cases hb
theorem MapI.far (h : MapI E w b n es) {p : Addr} (hne : p.block ≠ b) (u : Value) : MapI E (w.setCell p u) b n es := h.move (Below.heap_setCell w p u b (fun e => hne e.symm))
theorem MapI.farg (h : MapI E w b n es) {g j : Nat} (hne : g ≠ b) (u : Value) : MapI E (w.setCell ⟨g, j, none⟩ u) b n es := h.far (p := ⟨g, j, none⟩) hne u
theorem MapI.grownT (h : MapI E w b n es) {row : Option Nat} (hg : w.grownBy w1 row) {q : TypeId} (ht : ∀ k, row = some k → ∃ cells, w.heap[k]? = some (.cells cells q (0, 0))) : MapI E w1 b n es :=
  h.grown hg (fun k hk => by obtain ⟨c, hc⟩ := ht k hk; exact ⟨c, q, (0, 0), hc⟩)
end
section
variable {ops : Array Oper} {rest : List Oper} {o : Oper} {a : Act} {Q : Exit → Act → World → Prop} {K : TypeId} {α : Type}
theorem mmake (E : KeyEnc K α) (W : World) (hg : o.guard = none) (t : TypeId) (hop : o.op = Op.makeMap t none)
    (hK : ∀ w' mb, MapI E w' mb 0 ([] : List (α × Int)) → Below W.heap.size W w' → W.heap.size ≤ mb → wpList Try.prog ops Q rest (a.put o.dst (.map (some mb))) w') : wpList Try.prog ops Q (o :: rest) a W := by
  refine wpList_plain hg fun K' hK' => ?_
  unfold Oper.wp
  have hmm := @run_makeMap Try.prog t W
  simp [execOp, hop, hmm, Result.andThen]
  exact hK' _ _ (hK _ _ (MapI.made E W) (below_alloc (Below.refl _ _) _) (Nat.le_refl _))
theorem mlook [DecidableEq α] (E : KeyEnc K α) (W : World) (hg : o.guard = none) (m x : Operand) (t : TypeId) (hop : o.op = Op.lookup t m x true) (ht : Try.prog.underlying t = some (.map K 3)) {b n : Nat} {es : List (α × Int)}
    (hm : a.eval m = .map (some b)) (hM : MapI E W b n es) (key : α) (hx : a.eval x = E.enc key) (hk : E.good key)
    (hK : ∀ w', Below W.heap.size W w' → wpList Try.prog ops Q rest (a.put o.dst (.tuple #[.int .i64 ((lookM es key).getD 0), .bool (lookM es key).isSome])) w') : wpList Try.prog ops Q (o :: rest) a W := by
  refine wpList_lookup_own_ok_int W hg m x t hop K 3 .i64 E.law ht Try.underlying3 (zeroInt W) b n _ hm hM.1 _ (E.kl key) hx (E.key key hk) ?_
  intro c hat hwc
  rw [has_datM E hM.2 hk]
  have h2 := at_datM E hM.2 hk
  rw [hat] at h2
  injection h2 with h2
  injection h2 with _ h2
  subst h2
  exact hK W (Below.refl _ _)
theorem mlook1 [DecidableEq α] (E : KeyEnc K α) (W : World) (hg : o.guard = none) (m x : Operand) (t : TypeId) (hop : o.op = Op.lookup t m x false) (ht : Try.prog.underlying t = some (.map K 3)) {b n : Nat} {es : List (α × Int)}
    (hm : a.eval m = .map (some b)) (hM : MapI E W b n es) (key : α) (hx : a.eval x = E.enc key) (hk : E.good key)
    (hK : ∀ w', Below W.heap.size W w' → wpList Try.prog ops Q rest (a.put o.dst (.int .i64 ((lookM es key).getD 0))) w') : wpList Try.prog ops Q (o :: rest) a W := by
  refine wpList_lookup_own_int W hg m x t hop K 3 .i64 E.law ht Try.underlying3 (zeroInt W) b n _ hm hM.1 _ (E.kl key) hx (E.key key hk) ?_
  intro c hat hwc
  have h2 := at_datM E hM.2 hk
  rw [hat] at h2
  injection h2 with h2
  injection h2 with _ h2
  subst h2
  exact hK W (Below.refl _ _)
theorem mput [DecidableEq α] (E : KeyEnc K α) (W : World) (hg : o.guard = none) (m x v : Operand) (t : TypeId) (hop : o.op = Op.mapUpdate t m x v) (ht : Try.prog.underlying t = some (.map K 3)) {b n : Nat} {es : List (α × Int)}
    (hm : a.eval m = .map (some b)) (hM : MapI E W b n es) (key : α) (val : Int) (hx : a.eval x = E.enc key) (hv : a.eval v = .int .i64 val) (hk : E.good key) (hw : w64 val) (hn : n < maxLen)
    (hK : ∀ w', MapI E w' b (n + 1) (es ++ [(key, val)]) → W.grownBy w' (some b) → wpList Try.prog ops Q rest (a.put o.dst undef) w') : wpList Try.prog ops Q (o :: rest) a W := by
  refine wpList_mapUpdate_own W hg m x v t hop K 3 E.law ht (plainElem Try.prog 3) b n _ hm hM.1 hn _ _ (E.kl key) hx hv (E.key key hk) (.lit (.int .i64 val)) [] (plainElem_int Try.underlying3 hw) ?_
  intro w' h1 h2
  exact hK w' (MapI.put hM hk h1) h2
end
def lookF {α : Type} [DecidableEq α] (good : α → Bool) (es : List (α × Int)) (x : α) : Option (Int × Bool) := if good x = true then some ((lookM es x).getD 0, (lookM es x).isSome) else none
def putF {α : Type} (good : α → Bool) (es : List (α × Int)) (x : α) (v : Int) : Option (List (α × Int)) := if good x = true ∧ (Lit.int .i64 v).wf = true ∧ es.length < 100000000 then some (es ++ [(x, v)]) else none
def good2 (p : Int × Int) : Bool := (Lit.int .i64 p.1).wf && (Lit.int .i64 p.2).wf
def good3 (p : Int × Int × Int) : Bool := (Lit.int .i64 p.1).wf && (Lit.int .i64 p.2.1).wf && (Lit.int .i64 p.2.2).wf
theorem good2_ok {p : Int × Int} (h : good2 p = true) : w64 p.1 ∧ w64 p.2 := by simpa [good2, w64] using h
theorem good3_ok {p : Int × Int × Int} (h : good3 p = true) : w64 p.1 ∧ w64 p.2.1 ∧ w64 p.2.2 := by simpa [good3, w64, and_assoc] using h
theorem lookF_some {α : Type} [DecidableEq α] {good : α → Bool} {es : List (α × Int)} {x : α} {v : Int} {b : Bool} (h : lookF good es x = some (v, b)) : good x = true ∧ (lookM es x).getD 0 = v ∧ (lookM es x).isSome = b := by
  unfold lookF at h
  split at h
  · rename_i hg
    injection h with h
    injection h with h1 h2
    exact ⟨hg, h1, h2⟩
  · cases h
theorem putF_some {α : Type} {good : α → Bool} {es es' : List (α × Int)} {x : α} {v : Int} (h : putF good es x v = some es') : good x = true ∧ w64 v ∧ es.length < 100000000 ∧ es' = es ++ [(x, v)] := by
  unfold putF at h
  split at h
  · rename_i hg
    injection h with h
    exact ⟨hg.1, hg.2.1, hg.2.2, h.symm⟩
  · cases h
end Go.Proofs.Ytlcbpaenjjeenaa.Q
end
