/- A part of the proof: words, contracts, plain lemmas. Conditions: none. -/
import Derived.Test.YtfhkkbpkajfdlaaZExpandFlows4
import Derived.Maps.RangeWalk
import Derived.Test.YtfhkkbpkajfdlaaZExpandFlows5
import Derived.Test.YtfhkkbpkajfdlaaZExpandFlows16
import Derived.Test.YtfhkkbpkajfdlaaZExpandFlows14
import Derived.Test.YtfhkkbpkajfdlaaZExpandFlows17
import Derived.Test.YtfhkkbpkajfdlaaZExpandFlows8
section
namespace Go.Proofs.Ytfhkkbpkajfdlaa.Q
open Go.RowKit Go.Maps Go.Proofs.YtfhkkbpkajfdlaaW.PrintWords Go.Proofs.YtfhkkbpkajfdlaaW.PrintLast Go.Proofs.YtfhkkbpkajfdlaaW.PrintMore
set_option linter.unusedVariables false
set_option linter.unusedSimpArgs false
section
variable {K : TypeId} {α : Type} [DecidableEq α] {E : KeyEnc K α} {w w1 : World} {b r n : Nat} {es vis : List (α × Int)}
omit [DecidableEq α] in
theorem has_only (E : KeyEnc K α) (kl : Lit) : ∀ (es : List (α × Int)) (m : DataW Unit), IsMap m → (∀ p ∈ es, kl ≠ E.kl p.1) → Maps.has (es.foldl (fun m p => m.put (E.kl p.1) (.lit (.int .i64 p.2))) m) kl = Maps.has m kl
 | [], m, _, _ => rfl
 | p :: es, m, hm, h => by
  rw [List.foldl_cons, has_only E kl es _ (hm.put _ _) (fun q hq => h q (List.mem_cons_of_mem _ hq)), has_put_other (h p List.mem_cons_self)]
theorem lookM_fold (x : α) : ∀ (es : List (α × Int)) (r : Option Int), (∀ p ∈ es, p.1 ≠ x) → es.foldl (fun r p => if p.1 = x then some p.2 else r) r = r
 | [], r, _ => rfl
 | p :: es, r, h => by
  rw [List.foldl_cons, if_neg (h p List.mem_cons_self)]
  exact lookM_fold x es r (fun q hq => h q (List.mem_cons_of_mem _ hq))
theorem lookM_mem : ∀ (es : List (α × Int)) (r : Option Int) (p : α × Int), (es.map (·.1)).Nodup → p ∈ es → es.foldl (fun r q => if q.1 = p.1 then some q.2 else r) r = some p.2
 | q :: es, r, p, hd, hp => by
  rw [List.map_cons, List.nodup_cons] at hd
  rw [List.foldl_cons]
  rcases List.mem_cons.1 hp with rfl | hp
  ·rw [if_pos rfl]
   exact lookM_fold _ es _ (fun z hz e => hd.1 (by rw [← e]; exact List.mem_map_of_mem hz))
  ·exact lookM_mem es _ p hd.2 hp
def MapR (E : KeyEnc K α) (w : World) (b r n : Nat) (es vis : List (α × Int)) : Prop :=
 ∃ left cnt, w.ranges Try.prog K (plainElem Try.prog 3) b r n (datM E.kl es) left cnt ∧ (∀ p ∈ es, E.good p.1) ∧ (es.map (·.1)).Nodup ∧ (vis.map (·.1)).Nodup ∧ (∀ p ∈ vis, p ∈ es) ∧
  (∀ p ∈ es, left (E.kl p.1) = true ↔ p.1 ∉ vis.map (·.1)) ∧ (∀ kl, left kl = true → ∃ p ∈ es, kl = E.kl p.1)
omit [DecidableEq α] in
theorem MapR.owns (h : MapR E w b r n es vis) : MapI E w b n es := by
 obtain ⟨left, cnt, h, hg, _⟩ := h
 exact ⟨h.owns, hg⟩
omit [DecidableEq α] in
theorem MapR.lt (h : MapR E w b r n es vis) : r < w.heap.size := by
 obtain ⟨left, cnt, h, k⟩ := h
 exact h.lt
omit [DecidableEq α] in
theorem MapR.ltb (h : MapR E w b r n es vis) : b < w.heap.size := h.owns.lt
omit [DecidableEq α] in
theorem MapR.move (h : MapR E w b r n es vis) (hb : w1.heap[b]? = w.heap[b]?) (hr : w1.heap[r]? = w.heap[r]?) : MapR E w1 b r n es vis := by
 obtain ⟨left, cnt, ⟨es', clock, since, seen, c0, x1, x2, x3, x4, x5, x6⟩, k⟩ := h
 exact ⟨left, cnt, ⟨es', clock, since, seen, c0, hb.trans x1, x2, x3, x4, hr.trans x5, x6⟩, k⟩
omit [DecidableEq α] in
theorem MapR.iter (h : MapR E w b r n es vis) : ∃ b' s0 sn c0, w.heap[r]? = some (.mapIter b' s0 sn c0) := by
 obtain ⟨left, cnt, ⟨es', clock, since, seen, c0, x1, x2, x3, x4, x5, x6⟩, k⟩ := h
 exact ⟨_, _, _, _, x5⟩
omit [DecidableEq α] in
theorem MapR.below (h : MapR E w b r n es vis) (hb : Below w.heap.size w w1) : MapR E w1 b r n es vis := h.move (hb.block b h.ltb) (hb.block r h.lt)
omit [DecidableEq α] in
theorem MapR.alloc (h : MapR E w b r n es vis) (o : Obj) : MapR E (w.alloc o) b r n es vis := h.below (below_alloc (Below.refl _ _) o)
omit [DecidableEq α] in
theorem MapR.drew (h : MapR E w b r n es vis) : MapR E w.drew b r n es vis := h.below (below_drew (Below.refl _ _))
omit [DecidableEq α] in
theorem MapR.ne (h : MapR E w b r n es vis) {g : Nat} {cells : Array Value} {q : TypeId} {fr : Nat × Nat} (hg : w.heap[g]? = some (.cells cells q fr)) : g ≠ b ∧ g ≠ r := by
 refine ⟨h.owns.ne hg, ?_⟩
 obtain ⟨b', s0, sn, c0, hr⟩ := h.iter
 rintro rfl
 rw [hg] at hr; injection hr with hr; cases hr
omit [DecidableEq α] in
theorem MapR.farg (h : MapR E w b r n es vis) {g j : Nat} {cells : Array Value} {q : TypeId} {fr : Nat × Nat} (hg : w.heap[g]? = some (.cells cells q fr)) (u : Value) : MapR E (w.setCell ⟨g, j, none⟩ u) b r n es vis :=
 h.move (Below.heap_setCell w ⟨g, j, none⟩ u b (fun e => (h.ne hg).1 e.symm)) (Below.heap_setCell w ⟨g, j, none⟩ u r (fun e => (h.ne hg).2 e.symm))
theorem nodup_len {β : Type} [DecidableEq β] : ∀ {l m : List β}, l.Nodup → (∀ x ∈ l, x ∈ m) → l.length ≤ m.length
 | [], _, _, _ => Nat.zero_le _
 | x :: l, m, hd, hs => by
  rw [List.nodup_cons] at hd
  have hx := hs x List.mem_cons_self
  have := nodup_len (l := l) (m := m.erase x) hd.2 (fun y hy => (List.mem_erase_of_ne (fun e => hd.1 (by rw [← e]; exact hy))).2 (hs y (List.mem_cons_of_mem _ hy)))
  rw [List.length_erase_of_mem hx] at this
  have hp := List.length_pos_of_mem hx
  rw [List.length_cons]; omega
theorem MapR.le (h : MapR E w b r n es vis) : vis.length ≤ es.length := by
 obtain ⟨left, cnt, _, _, hd, hv, hs, _⟩ := h
 have : (vis.map (·.1)).length ≤ (es.map (·.1)).length := nodup_len hv (fun x hx => by
  obtain ⟨p, hp, rfl⟩ := List.mem_map.1 hx
  exact List.mem_map_of_mem (hs p hp))
 simpa using this
omit [DecidableEq α] in
theorem nodup_of_map : ∀ {l : List (α × Int)}, (l.map (·.1)).Nodup → l.Nodup
 | [], _ => List.nodup_nil
 | p :: l, h => by
  rw [List.map_cons, List.nodup_cons] at h
  exact List.nodup_cons.2 ⟨fun hp => h.1 (List.mem_map_of_mem hp), nodup_of_map h.2⟩
section
variable {ops : Array Oper} {rest : List Oper} {o : Oper} {a : Act} {Q : Exit → Act → World → Prop}
theorem mrange (E : KeyEnc K α) (hg : o.guard = none) (m : Operand) (t : TypeId) (hop : o.op = Op.range t m) (ht : Try.prog.underlying t = some (.map K 3)) (hm : a.eval m = .map (some b)) (h : MapI E w b n es) (hd : (es.map (·.1)).Nodup)
 (hK : ∀ r w', r = w.heap.size → MapR E w' b r n es [] → w.grownBy w' none → w'.heap.size = w.heap.size + 1 → wpList Try.prog ops Q rest (a.put o.dst (.pointer (some ⟨r, 0, none⟩))) w') :
 wpList Try.prog ops Q (o :: rest) a w := by
 refine wpList_range_own w hg m t hop K 3 E.law ht (plainElem Try.prog 3) b n (datM E.kl es) hm h.1 ?_
 intro w' hr hgr hs
 refine hK _ w' rfl ⟨_, _, hr, h.2, hd, List.nodup_nil, (fun p hp => by cases hp), fun p hp => ?_, fun kl hkl => ?_⟩ hgr hs
 ·rw [has_datM E h.2 (h.2 p hp)]
  unfold lookM
  rw [lookM_mem es none p hd hp]
  simp
 ·refine Classical.byContradiction fun hno => ?_
  have := has_only E kl es (.map []) isMap_empty (fun p hp e => hno ⟨p, hp, e⟩)
  rw [show Maps.has (datM E.kl es) kl = _ from this] at hkl
  cases hkl
theorem mnext (E : KeyEnc K α) (hg : o.guard = none) (it : Operand) (hop : o.op = Op.next it false) (hit : a.eval it = .pointer (some ⟨r, 0, none⟩)) (h : MapR E w b r n es vis)
 (hDone : vis.Perm es → wpList Try.prog ops Q rest (a.put o.dst (.tuple #[.bool false])) w)
 (hMore : ∀ (p : α × Int) (w' : World), p ∈ es → p ∉ vis → MapR E w' b r n es (vis ++ [p]) → w.grownBy w' (some r) → w'.heap.size = w.heap.size → (Instr.entry (.pointer (some ⟨r, 0, none⟩))).run Try.prog w' = .ok (.tuple #[E.enc p.1, .int .i64 p.2]) w' → wpList Try.prog ops Q rest (a.put o.dst (.tuple #[.bool true, E.enc p.1, .int .i64 p.2])) w') :
 wpList Try.prog ops Q (o :: rest) a w := by
 obtain ⟨left, cnt, hR, hgo, hd, hv, hs, hl, ho⟩ := h
 refine wpList_next_ranges w hg it hop K E.law (plainElem Try.prog 3) (fun v : Value => v) (Value.int .i64) (fun key kl _ => ⟨key, rfl⟩) (fun v y hv => by obtain ⟨c, rfl, _⟩ := plainElem_int_inv Try.underlying3 hv; exact ⟨c, rfl⟩) b r n _ left cnt hit hR ?_ ?_
 ·intro _ hno
  refine hDone ((List.perm_ext_iff_of_nodup (nodup_of_map hv) (nodup_of_map hd)).2 fun p => ⟨hs p, fun hp => ?_⟩)
  have hin : p.1 ∈ vis.map (·.1) := by
   refine Classical.byContradiction fun hn => ?_
   have := (hl p hp).2 hn
   rw [hno] at this
   cases this
  obtain ⟨q, hq, e⟩ := List.mem_map.1 hin
  have h1 := lookM_mem es none p hd hp
  have h2 := lookM_mem es none q hd (hs q hq)
  rw [e] at h2
  have := h1.symm.trans h2
  have e2 : p = q := Prod.ext e.symm (Option.some.inj this)
  rw [e2]; exact hq
 ·intro x c kl y w' cnt' hkey hlk hv0 hat hr2 hlt hgr hsz hen
  obtain ⟨p, hp, rfl⟩ := ho kl hlk
  obtain rfl : x = E.enc p.1 := E.law.inj hkey (E.key p.1 (hgo p hp))
  obtain ⟨c', ec, hy, _⟩ := plainElem_int_inv Try.underlying3 hv0
  cases ec
  have h1 := hat (.lit (.int .i64 0))
  rw [at_datM E hgo (hgo p hp), hy] at h1
  unfold lookM at h1
  rw [lookM_mem es none p hd hp] at h1
  have h3 : (DataW.lit (.int .i64 p.2) : DataW Unit) = .lit (.int .i64 c) := h1
  obtain rfl : p.2 = c := by cases h3; rfl
  have hnv : p.1 ∉ vis.map (·.1) := (hl p hp).1 hlk
  refine hMore p w' hp (fun h => hnv (List.mem_map_of_mem h)) ⟨_, cnt', hr2, hgo, hd, ?_, ?_, ?_, ?_⟩ hgr hsz hen
  ·rw [List.map_append, List.map_singleton, List.nodup_append]
   refine ⟨hv, by simp, fun a ha b hb e => ?_⟩
   rw [List.mem_singleton] at hb
   rw [e, hb] at ha
   exact hnv ha
  ·intro q hq
   rcases List.mem_append.1 hq with hq | hq
   ·exact hs q hq
   ·rw [List.mem_singleton.1 hq]; exact hp
  ·intro q hq
   rw [List.map_append, List.map_singleton, List.mem_append, List.mem_singleton, not_or, ← hl q hq, Bool.and_eq_true, Bool.not_eq_true']
   refine and_congr_right fun _ => ?_
   rw [← Bool.not_eq_true, WideAt.sameKey_iff (E.isKey (hgo p hp))]
   refine not_congr ⟨fun e => E.kl_inj (hgo q hq) (hgo p hp) e, fun e => by rw [e]⟩
  ·intro kl hkl
   exact ho kl (by simp only [Bool.and_eq_true] at hkl; exact hkl.1)
end
end
end Go.Proofs.Ytfhkkbpkajfdlaa.Q
end
section
namespace Go.Proofs.Ytfhkkbpkajfdlaa.P
open Go.RowKit Go.Proofs.Ytfhkkbpkajfdlaa.Q Go.Proofs.YtfhkkbpkajfdlaaW.PrintWords Go.Proofs.YtfhkkbpkajfdlaaW.PrintLast Go.Proofs.YtfhkkbpkajfdlaaW.PrintMore
def kord (p q : (Int × Int) × Int) : Prop := p.1.2 < q.1.2 ∨ p.1.2 = q.1.2 ∧ p.1.1 < q.1.1
theorem zip_sorted {K : List S83} (h : K.Pairwise klt) : K.zipIdx.Pairwise (fun p q => klt p.1 q.1) := by
 rw [← List.pairwise_map (f := Prod.fst) (R := klt), List.zipIdx_map_fst]
 exact h
theorem movesK_sorted {K : List S83} (h : K.Pairwise klt) : (movesK K).Pairwise kord := by
 unfold movesK
 rw [List.pairwise_filterMap]
 refine (zip_sorted h).imp ?_
 rintro ⟨x, i⟩ ⟨y, j⟩ hk p hp q hq
 unfold mvK at hp hq
 simp only at hp hq hk
 split at hp
 ·split at hq
  ·rename_i hx hy
   simp only [Option.some.injEq] at hp hq
   subst hp; subst hq
   unfold klt at hk
   unfold kord
   simp only [hx, hy, forall_const, and_self] at hk ⊢
   omega
  ·cases hq
 ·cases hp
theorem waitsK_sorted {K : List S83} (h : K.Pairwise klt) : (waitsK K).Pairwise kord := by
 unfold waitsK
 rw [List.pairwise_filterMap]
 refine (zip_sorted h).imp ?_
 rintro ⟨x, i⟩ ⟨y, j⟩ hk p hp q hq
 unfold wtK at hp hq
 simp only at hp hq hk
 split at hp
 ·split at hq
  ·rename_i hx hy
   simp only [Option.some.injEq] at hp hq
   subst hp; subst hq
   unfold klt at hk
   unfold kord
   simp only [hx, hy, forall_const, and_self] at hk ⊢
   omega
  ·cases hq
 ·cases hp
theorem kord_nodup {l : List ((Int × Int) × Int)} (h : l.Pairwise kord) : (l.map (·.1)).Nodup := by
 rw [List.Nodup, List.pairwise_map]
 refine h.imp ?_
 rintro ⟨⟨a, b⟩, i⟩ ⟨⟨c, d⟩, j⟩ hk e
 unfold kord at hk
 simp only [Prod.mk.injEq] at hk e
 omega
theorem movesK_mem {K : List S83} {p : (Int × Int) × Int} : p ∈ movesK K ↔ ∃ (i : Nat) (k : S83), K[i]? = some k ∧ k.f0 = true ∧ p = ((k.f2, k.f4), (i : Int)) := by
 unfold movesK
 rw [List.mem_filterMap]
 constructor
 ·rintro ⟨⟨k, i⟩, hm, hp⟩
  rw [List.mem_zipIdx_iff_getElem?] at hm
  unfold mvK at hp
  split at hp
  ·rename_i h
   simp only [Option.some.injEq] at hp
   exact ⟨i, k, hm, h, hp.symm⟩
  ·cases hp
 ·rintro ⟨i, k, hm, h, rfl⟩
  exact ⟨(k, i), List.mem_zipIdx_iff_getElem?.2 hm, by unfold mvK; rw [if_pos h]⟩
theorem waitsK_mem {K : List S83} {p : (Int × Int) × Int} : p ∈ waitsK K ↔ ∃ (i : Nat) (k : S83), K[i]? = some k ∧ k.f1 = true ∧ p = ((k.f3, k.f4), (i : Int)) := by
 unfold waitsK
 rw [List.mem_filterMap]
 constructor
 ·rintro ⟨⟨k, i⟩, hm, hp⟩
  rw [List.mem_zipIdx_iff_getElem?] at hm
  unfold wtK at hp
  split at hp
  ·rename_i h
   simp only [Option.some.injEq] at hp
   exact ⟨i, k, hm, h, hp.symm⟩
  ·cases hp
 ·rintro ⟨i, k, hm, h, rfl⟩
  exact ⟨(k, i), List.mem_zipIdx_iff_getElem?.2 hm, by unfold wtK; rw [if_pos h]⟩
section
variable {V H s t : Int} {hold : Bool} {l0 : List S54}
theorem log1 (n : Nat) : (atLoop V H hold s t l0 n).2.1 = movesK (kindsB V H hold s t l0 n) := by rw [(rel_ats n).mv, rAts_kinds]
theorem log2 (n : Nat) : (atLoop V H hold s t l0 n).2.2 = waitsK (kindsB V H hold s t l0 n) := by rw [(rel_ats n).wt, rAts_kinds]
theorem arcs1 (n : Nat) : (atLoop V H hold s t l0 n).1 = (kindsB V H hold s t l0 n).map (arcK V l0) := by rw [(rel_ats n).same, (rel_ats (hold := hold) n).arcs, rAts_kinds]
theorem kind_move {n : Nat} {k : S83} (hk : k ∈ kindsB V H hold s t l0 n) (h : k.f0 = true) : ∃ a i : Nat, a < n ∧ i < l0.length ∧ k = ⟨true, false, (i : Int), 0, (a : Int)⟩ ∧ (a : Int) + (l0.getD i z54).f3 ≤ H ∧ (l0.getD i z54).f1 ≠ s ∧ (l0.getD i z54).f0 ≠ t := by
 obtain ⟨a, ha, ⟨i, hi, hm⟩ | ⟨v, hv, hm⟩⟩ := mem_kindsB.1 hk
 ·rw [mvAt_some] at hm
  exact ⟨a, i, ha, hi, hm.2, hm.1⟩
 ·rw [wtAt_some] at hm
  rw [hm.2] at h; cases h
theorem kind_wait {n : Nat} {k : S83} (hk : k ∈ kindsB V H hold s t l0 n) (h : k.f1 = true) : ∃ a v : Nat, a < n ∧ v < V.toNat ∧ k = ⟨false, true, 0, (v : Int), (a : Int)⟩ ∧ (a : Int) < H ∧ hold = true ∧ (v : Int) ≠ s ∧ (v : Int) ≠ t := by
 obtain ⟨a, ha, ⟨i, hi, hm⟩ | ⟨v, hv, hm⟩⟩ := mem_kindsB.1 hk
 ·rw [mvAt_some] at hm
  rw [hm.2] at h; cases h
 ·rw [wtAt_some] at hm
  exact ⟨a, v, ha, hv, hm.2, hm.1⟩
theorem grid_len (hok : okNet V H l0 = true) : (gridArcs V H hold s t l0).length ≤ 300000 := by
 unfold okNet at hok
 simp only [Bool.and_eq_true, decide_eq_true_eq] at hok
 obtain ⟨⟨hV0, hV1, hH0, hH1, hl⟩, hall⟩ := hok
 have h1 := (atLoop_bal (H := H) (s := s) (t := t) (hold := hold) hV1 hl (H.toNat + 1)).2
 unfold gridArcs
 rw [List.length_append, List.length_append, firstsA_length, lastsA_length]
 omega
end
theorem zip_lt (K : List S83) : K.zipIdx.Pairwise (fun p q => p.2 < q.2) := by
 rw [← List.pairwise_map (f := Prod.snd) (R := (· < ·)), List.zipIdx_map_snd]
 exact List.pairwise_lt_range'
theorem waitsK_idx (K : List S83) : (waitsK K).Pairwise (fun p q => p.2 < q.2) := by
 unfold waitsK
 rw [List.pairwise_filterMap]
 refine (zip_lt K).imp ?_
 rintro ⟨x, i⟩ ⟨y, j⟩ hk p hp q hq
 unfold wtK at hp hq
 simp only at hp hq hk
 split at hp
 ·split at hq
  ·simp only [Option.some.injEq] at hp hq
   subst hp; subst hq
   show (i : Int) < (j : Int)
   omega
  ·cases hq
 ·cases hp
def setAll {α : Type} (l : List α) (at_ : α → Nat) (val : α → Int) (o : List Int) : List Int := l.foldl (fun o p => o.set (at_ p) (val p)) o
theorem setAll_length {α : Type} (l : List α) (at_ : α → Nat) (val : α → Int) (o : List Int) : (setAll l at_ val o).length = o.length := by
 unfold setAll
 induction l generalizing o with
 | nil => rfl
 | cons x l ih => rw [List.foldl_cons, ih, List.length_set]
theorem setAll_snoc {α : Type} (l : List α) (x : α) (at_ : α → Nat) (val : α → Int) (o : List Int) : setAll (l ++ [x]) at_ val o = (setAll l at_ val o).set (at_ x) (val x) := by
 unfold setAll; rw [List.foldl_append]; rfl
theorem setAll_other {α : Type} (l : List α) (at_ : α → Nat) (val : α → Int) (o : List Int) {j : Nat} (h : ∀ x ∈ l, at_ x ≠ j) : (setAll l at_ val o)[j]? = o[j]? := by
 unfold setAll
 induction l generalizing o with
 | nil => rfl
 | cons x l ih =>
  rw [List.foldl_cons, ih _ (fun y hy => h y (List.mem_cons_of_mem _ hy)), List.getElem?_set_ne (h x List.mem_cons_self)]
theorem setAll_at {α : Type} (l : List α) (at_ : α → Nat) (val : α → Int) (o : List Int) (hp : l.Pairwise (fun x y => at_ x ≠ at_ y)) {x : α} (hx : x ∈ l) (hl : at_ x < o.length) : (setAll l at_ val o)[at_ x]? = some (val x) := by
 induction l generalizing o with
 | nil => cases hx
 | cons y l ih =>
  rw [List.pairwise_cons] at hp
  show (setAll l at_ val (o.set (at_ y) (val y)))[at_ x]? = some (val x)
  rcases List.mem_cons.1 hx with rfl | hx
  ·rw [setAll_other l at_ val _ (fun z hz e => hp.1 z hz e.symm), List.getElem?_set_self (by exact hl)]
  ·exact ih _ hp.2 hx (by rw [List.length_set]; exact hl)
theorem setAll_perm {α : Type} {l l' : List α} (hp : l.Perm l') (at_ : α → Nat) (val : α → Int) (o : List Int) (hd : l'.Pairwise (fun x y => at_ x ≠ at_ y)) (hl : ∀ x ∈ l', at_ x < o.length) : setAll l at_ val o = setAll l' at_ val o := by
 have hd2 : l.Pairwise (fun x y => at_ x ≠ at_ y) := (hp.pairwise_iff (fun h => h.symm)).2 hd
 refine List.ext_getElem? fun j => ?_
 by_cases c : ∃ x ∈ l', at_ x = j
 ·obtain ⟨x, hx, rfl⟩ := c
  rw [setAll_at l' at_ val o hd hx (hl x hx), setAll_at l at_ val o hd2 (hp.mem_iff.2 hx) (hl x hx)]
 ·rw [setAll_other l' at_ val o (fun x hx e => c ⟨x, hx, e⟩), setAll_other l at_ val o (fun x hx e => c ⟨x, hp.mem_iff.1 hx, e⟩)]
section
variable {V H s t : Int} {hold : Bool} {l0 : List S54}
structure Log2 (H V : Int) (n : Nat) (l2 : List ((Int × Int) × Int)) : Prop where
 keys : (l2.map (·.1)).Nodup
 idx : l2.Pairwise (fun p q => p.2.toNat ≠ q.2.toNat)
 bd : ∀ p ∈ l2, (0 ≤ p.2 ∧ p.2 < (n : Int)) ∧ (0 ≤ p.1.2 ∧ p.1.2 ≤ H) ∧ (0 ≤ p.1.1 ∧ p.1.1 < V)
 len : l2.length ≤ 300000
theorem log2_ok (hok : okNet V H l0 = true) : Log2 H V (gridArcs V H hold s t l0).length (atLoop V H hold s t l0 (H.toNat + 1)).2.2 := by
 have hgl := grid_len (hold := hold) (s := s) (t := t) hok
 have hKg : (kindsB V H hold s t l0 (H.toNat + 1)).length ≤ (gridArcs V H hold s t l0).length := by
  unfold gridArcs
  rw [arcs1, List.length_append, List.length_append, List.length_map]; omega
 rw [log2]
 refine ⟨kord_nodup (waitsK_sorted (kindsB_sorted _)), ?_, ?_, ?_⟩
 ·have hmem : ∀ p ∈ waitsK (kindsB V H hold s t l0 (H.toNat + 1)), 0 ≤ p.2 := fun p hp => by
   obtain ⟨i, k, _, _, rfl⟩ := waitsK_mem.1 hp
   exact Int.natCast_nonneg i
  refine List.Pairwise.imp_of_mem ?_ (waitsK_idx _)
  intro p q hp hq hpq
  have := hmem p hp
  have := hmem q hq
  omega
 ·intro p hp
  obtain ⟨i, k, hi, hk, rfl⟩ := waitsK_mem.1 hp
  have hlt := (List.getElem?_eq_some_iff.1 hi).1
  obtain ⟨a, v, ha, hv, rfl, h1, _⟩ := kind_wait (List.mem_of_getElem? hi) hk
  refine ⟨⟨by show (0 : Int) ≤ (i : Int); omega, by show (i : Int) < _; omega⟩, ⟨by show (0 : Int) ≤ (a : Int); omega, by show (a : Int) ≤ _; omega⟩, ⟨by show (0 : Int) ≤ (v : Int); omega, by show (v : Int) < _; omega⟩⟩
 ·unfold waitsK
  refine Nat.le_trans (List.length_filterMap_le _ _) ?_
  rw [List.length_zipIdx]; omega
end
end Go.Proofs.Ytfhkkbpkajfdlaa.P
end
section
namespace Go.Proofs.Ytfhkkbpkajfdlaa.Q
open Go.RowKit Go.Maps Go.Proofs.YtfhkkbpkajfdlaaW.PrintWords Go.Proofs.YtfhkkbpkajfdlaaW.PrintLast Go.Proofs.YtfhkkbpkajfdlaaW.PrintMore
set_option linter.unusedVariables false
set_option linter.unusedSimpArgs false
def gridMoves (V H : Int) (hold : Bool) (s t : Int) (l0 : List S54) : List ((Int × Int) × Int) := (atLoop V H hold s t l0 (H.toNat + 1)).2.1
end Go.Proofs.Ytfhkkbpkajfdlaa.Q
end
section
namespace Go.Proofs.Ytfhkkbpkajfdlaa.Q
open Go.RowKit Go.Proofs.YtfhkkbpkajfdlaaW.PrintWords Go.Proofs.YtfhkkbpkajfdlaaW.PrintLast Go.Proofs.YtfhkkbpkajfdlaaW.PrintMore
set_option linter.unusedVariables false
set_option linter.unusedSimpArgs false
def plan_may.f (a0_0 : Int) (a0_1 : Bool) (l0_2 : List (S54)) (a1 : Int) (a2 : Int) (a3 : Int) (a4_0 : Int) (a4_1 : Int) (a4_2 : Int) : Option (Bool) := if a4_0 < 0 then (some false) else (if a4_0 ≥ (l0_2.length : Int) then (some false) else (if a4_1 < 0 then (some false) else (if a4_1 > a3 then (some false) else (if a4_2 < 0 then (some false) else (if 0 ≤ a4_0 then (if a4_0 < (l0_2.length : Int) then (if (wrap64 (a4_1 + ((rd_T54 l0_2 a4_0).f3))) ≤ a3 then (if a4_2 ≤ ((rd_T54 l0_2 a4_0).f2) then (if ((rd_T54 l0_2 a4_0).f1) = a1 then (some false) else (some (((rd_T54 l0_2 a4_0).f0) != a2))) else (some false)) else (some false)) else (none)) else (none))))))
set_option maxHeartbeats 8000000 in
set_option maxRecDepth 100000 in
theorem plan_may.calls (a0_0 : Int) (a0_1 : Bool) (A0_2 : Option Addr) (c0_2 : Nat) (l0_2 : List (S54)) (a1 : Int) (a2 : Int) (a3 : Int) (a4_0 : Int) (a4_1 : Int) (a4_2 : Int) (r : Bool) (w : World) (hr0_2 : Kd.C k54 w A0_2 l0_2.length l0_2) (hc0_2 : l0_2.length ≤ c0_2) (h : plan_may.f a0_0 a0_1 l0_2 a1 a2 a3 a4_0 a4_1 a4_2 = some r) :
  Calls Try.prog 87 #[.agg #[.int .i64 a0_0, .bool a0_1, .slice A0_2 l0_2.length c0_2], .int .i64 a1, .int .i64 a2, .int .i64 a3, .agg #[.int .i64 a4_0, .int .i64 a4_1, .int .i64 a4_2]] w fun e w' => e = .returned (.bool r) ∧ Below w.heap.size w w' := by
 have hu24 := Try.underlying24; have hu85 := Try.underlying85; have hu54 := Try.underlying54; have HR0_2 := am_ hr0_2; have HC0_2 := am_ hc0_2; clear hr0_2 hc0_2; have HB := am_ (Below.refl w.heap.size w); have H : (if a4_0 < 0 then (some false) else (if a4_0 ≥ (l0_2.length : Int) then (some false) else (if a4_1 < 0 then (some false) else (if a4_1 > a3 then (some false) else (if a4_2 < 0 then (some false) else (if 0 ≤ a4_0 then (if a4_0 < (l0_2.length : Int) then (if (wrap64 (a4_1 + ((rd_T54 l0_2 a4_0).f3))) ≤ a3 then (if a4_2 ≤ ((rd_T54 l0_2 a4_0).f2) then (if ((rd_T54 l0_2 a4_0).f1) = a1 then (some false) else (some (((rd_T54 l0_2 a4_0).f0) != a2))) else (some false)) else (some false)) else (none)) else (none))))))) = some r := h; clear h
 by_cases c6 : a4_0 < 0
 ·rw [if_pos c6] at H
  have c6b0 := decide_eq_true c6; clear c6; obtain rfl := Option.some.inj H
  go_enter Try.func87, Try.ntmps87
  go_wp2_with (first | ((with_reducible refine gate_dst (N := 5) rfl ?_); (try (refine gate_guard (by rfl) ?_; dsimp only)); refine bx_ 5 #[.int .i64 a0_0, .bool a0_1, .slice A0_2 l0_2.length c0_2] 24 ?_; intro gb155 hg w7 BK155 hb; have GE155 := ge_ (w := w) hg; replace HB := hst_ hb; clear hb hg) | ((with_reducible refine gate_dst (N := 9) rfl ?_); (try (refine gate_guard (by rfl) ?_; dsimp only)); refine bx_ 9 #[.int .i64 a4_0, .int .i64 a4_1, .int .i64 a4_2] 85 ?_; intro gb156 hg w8 BK156 hb; have GE156 := ge_ (w := w) hg; replace HB := hst_ hb; have NB155_156 := am_ (nl_ BK155.out hg); have NB156_155 := am_ (ng_ BK155.out hg); replace BK155 := am_ (bb_ BK155.out hb); clear hb hg; have hnb9 := NB156_155.out; have hnc9 := NB155_156.out; obtain ⟨hcz10_0, hcz10_1, hcz10_2, hfz10_0, hfz10_1, hfz10_2⟩ := cf3_ BK156.out))
  go_ret
  exact ⟨er_, hb_⟩
 ·rw [if_neg c6] at H
  have c6b0 := decide_eq_false c6; clear c6
  by_cases c11 : a4_0 ≥ (l0_2.length : Int)
  ·rw [if_pos c11] at H
   have c11b0 := decide_eq_true c11; clear c11; obtain rfl := Option.some.inj H
   go_enter Try.func87, Try.ntmps87
   go_wp2_with (first | ((with_reducible refine gate_dst (N := 5) rfl ?_); (try (refine gate_guard (by rfl) ?_; dsimp only)); refine bx_ 5 #[.int .i64 a0_0, .bool a0_1, .slice A0_2 l0_2.length c0_2] 24 ?_; intro gb155 hg w12 BK155 hb; have GE155 := ge_ (w := w) hg; replace HB := hst_ hb; clear hb hg) | ((with_reducible refine gate_dst (N := 9) rfl ?_); (try (refine gate_guard (by rfl) ?_; dsimp only)); refine bx_ 9 #[.int .i64 a4_0, .int .i64 a4_1, .int .i64 a4_2] 85 ?_; intro gb156 hg w13 BK156 hb; have GE156 := ge_ (w := w) hg; replace HB := hst_ hb; have NB155_156 := am_ (nl_ BK155.out hg); have NB156_155 := am_ (ng_ BK155.out hg); replace BK155 := am_ (bb_ BK155.out hb); clear hb hg; have hnb14 := NB156_155.out; have hnc14 := NB155_156.out; obtain ⟨hcz15_0, hcz15_1, hcz15_2, hfz15_0, hfz15_1, hfz15_2⟩ := cf3_ BK156.out; obtain ⟨hcz16_0, hcz16_1, hcz16_2, hfz16_0, hfz16_1, hfz16_2⟩ := cf3_ BK155.out))
   go_ret
   exact ⟨er_, hb_⟩
  ·rw [if_neg c11] at H
   have c11b0 := decide_eq_false c11; clear c11
   by_cases c17 : a4_1 < 0
   ·rw [if_pos c17] at H
    have c17b0 := decide_eq_true c17; clear c17; obtain rfl := Option.some.inj H
    go_enter Try.func87, Try.ntmps87
    go_wp2_with (first | ((with_reducible refine gate_dst (N := 5) rfl ?_); (try (refine gate_guard (by rfl) ?_; dsimp only)); refine bx_ 5 #[.int .i64 a0_0, .bool a0_1, .slice A0_2 l0_2.length c0_2] 24 ?_; intro gb155 hg w18 BK155 hb; have GE155 := ge_ (w := w) hg; replace HB := hst_ hb; clear hb hg) | ((with_reducible refine gate_dst (N := 9) rfl ?_); (try (refine gate_guard (by rfl) ?_; dsimp only)); refine bx_ 9 #[.int .i64 a4_0, .int .i64 a4_1, .int .i64 a4_2] 85 ?_; intro gb156 hg w19 BK156 hb; have GE156 := ge_ (w := w) hg; replace HB := hst_ hb; have NB155_156 := am_ (nl_ BK155.out hg); have NB156_155 := am_ (ng_ BK155.out hg); replace BK155 := am_ (bb_ BK155.out hb); clear hb hg; have hnb20 := NB156_155.out; have hnc20 := NB155_156.out; obtain ⟨hcz21_0, hcz21_1, hcz21_2, hfz21_0, hfz21_1, hfz21_2⟩ := cf3_ BK156.out; obtain ⟨hcz22_0, hcz22_1, hcz22_2, hfz22_0, hfz22_1, hfz22_2⟩ := cf3_ BK155.out))
    go_ret
    exact ⟨er_, hb_⟩
   ·rw [if_neg c17] at H
    have c17b0 := decide_eq_false c17; clear c17
    by_cases c23 : a4_1 > a3
    ·rw [if_pos c23] at H
     have c23b0 := decide_eq_true c23; clear c23; obtain rfl := Option.some.inj H
     go_enter Try.func87, Try.ntmps87
     go_wp2_with (first | ((with_reducible refine gate_dst (N := 5) rfl ?_); (try (refine gate_guard (by rfl) ?_; dsimp only)); refine bx_ 5 #[.int .i64 a0_0, .bool a0_1, .slice A0_2 l0_2.length c0_2] 24 ?_; intro gb155 hg w24 BK155 hb; have GE155 := ge_ (w := w) hg; replace HB := hst_ hb; clear hb hg) | ((with_reducible refine gate_dst (N := 9) rfl ?_); (try (refine gate_guard (by rfl) ?_; dsimp only)); refine bx_ 9 #[.int .i64 a4_0, .int .i64 a4_1, .int .i64 a4_2] 85 ?_; intro gb156 hg w25 BK156 hb; have GE156 := ge_ (w := w) hg; replace HB := hst_ hb; have NB155_156 := am_ (nl_ BK155.out hg); have NB156_155 := am_ (ng_ BK155.out hg); replace BK155 := am_ (bb_ BK155.out hb); clear hb hg; have hnb26 := NB156_155.out; have hnc26 := NB155_156.out; obtain ⟨hcz27_0, hcz27_1, hcz27_2, hfz27_0, hfz27_1, hfz27_2⟩ := cf3_ BK156.out; obtain ⟨hcz28_0, hcz28_1, hcz28_2, hfz28_0, hfz28_1, hfz28_2⟩ := cf3_ BK155.out))
     go_ret
     exact ⟨er_, hb_⟩
    ·rw [if_neg c23] at H
     have c23b0 := decide_eq_false c23; clear c23
     by_cases c29 : a4_2 < 0
     ·rw [if_pos c29] at H
      have c29b0 := decide_eq_true c29; clear c29; obtain rfl := Option.some.inj H
      go_enter Try.func87, Try.ntmps87
      go_wp2_with (first | ((with_reducible refine gate_dst (N := 5) rfl ?_); (try (refine gate_guard (by rfl) ?_; dsimp only)); refine bx_ 5 #[.int .i64 a0_0, .bool a0_1, .slice A0_2 l0_2.length c0_2] 24 ?_; intro gb155 hg w30 BK155 hb; have GE155 := ge_ (w := w) hg; replace HB := hst_ hb; clear hb hg) | ((with_reducible refine gate_dst (N := 9) rfl ?_); (try (refine gate_guard (by rfl) ?_; dsimp only)); refine bx_ 9 #[.int .i64 a4_0, .int .i64 a4_1, .int .i64 a4_2] 85 ?_; intro gb156 hg w31 BK156 hb; have GE156 := ge_ (w := w) hg; replace HB := hst_ hb; have NB155_156 := am_ (nl_ BK155.out hg); have NB156_155 := am_ (ng_ BK155.out hg); replace BK155 := am_ (bb_ BK155.out hb); clear hb hg; have hnb32 := NB156_155.out; have hnc32 := NB155_156.out; obtain ⟨hcz33_0, hcz33_1, hcz33_2, hfz33_0, hfz33_1, hfz33_2⟩ := cf3_ BK156.out; obtain ⟨hcz34_0, hcz34_1, hcz34_2, hfz34_0, hfz34_1, hfz34_2⟩ := cf3_ BK155.out))
      go_ret
      exact ⟨er_, hb_⟩
     ·rw [if_neg c29] at H
      have c29b0 := decide_eq_false c29; clear c29
      replace H := ifn_ H; obtain ⟨c35, H⟩ := H
      have c35b0 := decide_eq_true c35; clear c35
      replace H := ifn_ H; obtain ⟨c36, H⟩ := H
      have c36b0 := decide_eq_true c36; clear c36
      by_cases c37 : (wrap64 (a4_1 + ((rd_T54 l0_2 a4_0).f3))) ≤ a3
      ·rw [if_pos c37] at H
       have c37b0 := decide_eq_true c37; clear c37
       by_cases c38 : a4_2 ≤ ((rd_T54 l0_2 a4_0).f2)
       ·rw [if_pos c38] at H
        have c38b0 := decide_eq_true c38; clear c38
        by_cases c39 : ((rd_T54 l0_2 a4_0).f1) = a1
        ·rw [if_pos c39] at H
         obtain ⟨c39b0, c39b1⟩ := eqb_ c39; clear c39; obtain rfl := Option.some.inj H
         go_enter Try.func87, Try.ntmps87
         go_wp2_with (first | ((with_reducible refine gate_dst (N := 5) rfl ?_); (try (refine gate_guard (by rfl) ?_; dsimp only)); refine bx_ 5 #[.int .i64 a0_0, .bool a0_1, .slice A0_2 l0_2.length c0_2] 24 ?_; intro gb155 hg w40 BK155 hb; have GE155 := ge_ (w := w) hg; replace HB := hst_ hb; clear hb hg) | ((with_reducible refine gate_dst (N := 9) rfl ?_); (try (refine gate_guard (by rfl) ?_; dsimp only)); refine bx_ 9 #[.int .i64 a4_0, .int .i64 a4_1, .int .i64 a4_2] 85 ?_; intro gb156 hg w41 BK156 hb; have GE156 := ge_ (w := w) hg; replace HB := hst_ hb; have NB155_156 := am_ (nl_ BK155.out hg); have NB156_155 := am_ (ng_ BK155.out hg); replace BK155 := am_ (bb_ BK155.out hb); clear hb hg; have hnb42 := NB156_155.out; have hnc42 := NB155_156.out; obtain ⟨hcz43_0, hcz43_1, hcz43_2, hfz43_0, hfz43_1, hfz43_2⟩ := cf3_ BK156.out; obtain ⟨hcz44_0, hcz44_1, hcz44_2, hfz44_0, hfz44_1, hfz44_2⟩ := cf3_ BK155.out; have p157 : 0 ≤ (a4_0 : Int) := of_decide_eq_true sm_; have q157 : a4_0 < (l0_2.length : Int) := of_decide_eq_true sm_; obtain ⟨ad157, e157, hx157_0, hx157_1, hx157_2, hx157_3⟩ := at_T54 HR0_2.out a4_0 p157 q157; cases e157; replace hx157_0 := (HB.out.cell (World.block_lt_of_cell? w _ hx157_0)).trans hx157_0; replace hx157_1 := (HB.out.cell (World.block_lt_of_cell? w _ hx157_1)).trans hx157_1; replace hx157_2 := (HB.out.cell (World.block_lt_of_cell? w _ hx157_2)).trans hx157_2; replace hx157_3 := (HB.out.cell (World.block_lt_of_cell? w _ hx157_3)).trans hx157_3; replace p157 := eq_true p157; replace q157 := eq_true q157) | ((with_reducible refine gate_dst (N := 11) rfl ?_); (try (refine gate_guard (by rfl) ?_; dsimp only)); refine bx_ 11 #[.int .i64 0, .int .i64 0, .int .i64 0, .int .i64 0] 54 ?_; intro gb158 hg w45 BK158 hb; have GE158 := ge_ (w := w) hg; replace HB := hst_ hb; have NB155_158 := am_ (nl_ BK155.out hg); have NB158_155 := am_ (ng_ BK155.out hg); replace BK155 := am_ (bb_ BK155.out hb); have NB156_158 := am_ (nl_ BK156.out hg); have NB158_156 := am_ (ng_ BK156.out hg); replace BK156 := am_ (bb_ BK156.out hb); clear hb hg; have hnb46 := NB158_155.out; have hnc46 := NB155_158.out; have hnb47 := NB158_156.out; have hnc47 := NB156_158.out; obtain ⟨hcz48_0, hcz48_1, hcz48_2, hcz48_3, hfz48_0, hfz48_1, hfz48_2, hfz48_3⟩ := cf4_ BK158.out; obtain ⟨hcz49_0, hcz49_1, hcz49_2, hfz49_0, hfz49_1, hfz49_2⟩ := cf3_ BK156.out))
         go_ret
         exact ⟨er_, hb_⟩
        ·rw [if_neg c39] at H
         obtain ⟨c39b0, c39b1⟩ := neb_ c39; obtain rfl := Option.some.inj H
         go_enter Try.func87, Try.ntmps87
         go_wp2_with (first | ((with_reducible refine gate_dst (N := 5) rfl ?_); (try (refine gate_guard (by rfl) ?_; dsimp only)); refine bx_ 5 #[.int .i64 a0_0, .bool a0_1, .slice A0_2 l0_2.length c0_2] 24 ?_; intro gb155 hg w50 BK155 hb; have GE155 := ge_ (w := w) hg; replace HB := hst_ hb; clear hb hg) | ((with_reducible refine gate_dst (N := 9) rfl ?_); (try (refine gate_guard (by rfl) ?_; dsimp only)); refine bx_ 9 #[.int .i64 a4_0, .int .i64 a4_1, .int .i64 a4_2] 85 ?_; intro gb156 hg w51 BK156 hb; have GE156 := ge_ (w := w) hg; replace HB := hst_ hb; have NB155_156 := am_ (nl_ BK155.out hg); have NB156_155 := am_ (ng_ BK155.out hg); replace BK155 := am_ (bb_ BK155.out hb); clear hb hg; have hnb52 := NB156_155.out; have hnc52 := NB155_156.out; obtain ⟨hcz53_0, hcz53_1, hcz53_2, hfz53_0, hfz53_1, hfz53_2⟩ := cf3_ BK156.out; obtain ⟨hcz54_0, hcz54_1, hcz54_2, hfz54_0, hfz54_1, hfz54_2⟩ := cf3_ BK155.out; have p157 : 0 ≤ (a4_0 : Int) := of_decide_eq_true sm_; have q157 : a4_0 < (l0_2.length : Int) := of_decide_eq_true sm_; obtain ⟨ad157, e157, hx157_0, hx157_1, hx157_2, hx157_3⟩ := at_T54 HR0_2.out a4_0 p157 q157; cases e157; replace hx157_0 := (HB.out.cell (World.block_lt_of_cell? w _ hx157_0)).trans hx157_0; replace hx157_1 := (HB.out.cell (World.block_lt_of_cell? w _ hx157_1)).trans hx157_1; replace hx157_2 := (HB.out.cell (World.block_lt_of_cell? w _ hx157_2)).trans hx157_2; replace hx157_3 := (HB.out.cell (World.block_lt_of_cell? w _ hx157_3)).trans hx157_3; replace p157 := eq_true p157; replace q157 := eq_true q157) | ((with_reducible refine gate_dst (N := 11) rfl ?_); (try (refine gate_guard (by rfl) ?_; dsimp only)); refine bx_ 11 #[.int .i64 0, .int .i64 0, .int .i64 0, .int .i64 0] 54 ?_; intro gb158 hg w55 BK158 hb; have GE158 := ge_ (w := w) hg; replace HB := hst_ hb; have NB155_158 := am_ (nl_ BK155.out hg); have NB158_155 := am_ (ng_ BK155.out hg); replace BK155 := am_ (bb_ BK155.out hb); have NB156_158 := am_ (nl_ BK156.out hg); have NB158_156 := am_ (ng_ BK156.out hg); replace BK156 := am_ (bb_ BK156.out hb); clear hb hg; have hnb56 := NB158_155.out; have hnc56 := NB155_158.out; have hnb57 := NB158_156.out; have hnc57 := NB156_158.out; obtain ⟨hcz58_0, hcz58_1, hcz58_2, hcz58_3, hfz58_0, hfz58_1, hfz58_2, hfz58_3⟩ := cf4_ BK158.out; obtain ⟨hcz59_0, hcz59_1, hcz59_2, hfz59_0, hfz59_1, hfz59_2⟩ := cf3_ BK156.out))
         go_ret
         exact ⟨er_, hb_⟩
       ·rw [if_neg c38] at H
        have c38b0 := decide_eq_false c38; clear c38; obtain rfl := Option.some.inj H
        go_enter Try.func87, Try.ntmps87
        go_wp2_with (first | ((with_reducible refine gate_dst (N := 5) rfl ?_); (try (refine gate_guard (by rfl) ?_; dsimp only)); refine bx_ 5 #[.int .i64 a0_0, .bool a0_1, .slice A0_2 l0_2.length c0_2] 24 ?_; intro gb155 hg w60 BK155 hb; have GE155 := ge_ (w := w) hg; replace HB := hst_ hb; clear hb hg) | ((with_reducible refine gate_dst (N := 9) rfl ?_); (try (refine gate_guard (by rfl) ?_; dsimp only)); refine bx_ 9 #[.int .i64 a4_0, .int .i64 a4_1, .int .i64 a4_2] 85 ?_; intro gb156 hg w61 BK156 hb; have GE156 := ge_ (w := w) hg; replace HB := hst_ hb; have NB155_156 := am_ (nl_ BK155.out hg); have NB156_155 := am_ (ng_ BK155.out hg); replace BK155 := am_ (bb_ BK155.out hb); clear hb hg; have hnb62 := NB156_155.out; have hnc62 := NB155_156.out; obtain ⟨hcz63_0, hcz63_1, hcz63_2, hfz63_0, hfz63_1, hfz63_2⟩ := cf3_ BK156.out; obtain ⟨hcz64_0, hcz64_1, hcz64_2, hfz64_0, hfz64_1, hfz64_2⟩ := cf3_ BK155.out; have p157 : 0 ≤ (a4_0 : Int) := of_decide_eq_true sm_; have q157 : a4_0 < (l0_2.length : Int) := of_decide_eq_true sm_; obtain ⟨ad157, e157, hx157_0, hx157_1, hx157_2, hx157_3⟩ := at_T54 HR0_2.out a4_0 p157 q157; cases e157; replace hx157_0 := (HB.out.cell (World.block_lt_of_cell? w _ hx157_0)).trans hx157_0; replace hx157_1 := (HB.out.cell (World.block_lt_of_cell? w _ hx157_1)).trans hx157_1; replace hx157_2 := (HB.out.cell (World.block_lt_of_cell? w _ hx157_2)).trans hx157_2; replace hx157_3 := (HB.out.cell (World.block_lt_of_cell? w _ hx157_3)).trans hx157_3; replace p157 := eq_true p157; replace q157 := eq_true q157) | ((with_reducible refine gate_dst (N := 11) rfl ?_); (try (refine gate_guard (by rfl) ?_; dsimp only)); refine bx_ 11 #[.int .i64 0, .int .i64 0, .int .i64 0, .int .i64 0] 54 ?_; intro gb158 hg w65 BK158 hb; have GE158 := ge_ (w := w) hg; replace HB := hst_ hb; have NB155_158 := am_ (nl_ BK155.out hg); have NB158_155 := am_ (ng_ BK155.out hg); replace BK155 := am_ (bb_ BK155.out hb); have NB156_158 := am_ (nl_ BK156.out hg); have NB158_156 := am_ (ng_ BK156.out hg); replace BK156 := am_ (bb_ BK156.out hb); clear hb hg; have hnb66 := NB158_155.out; have hnc66 := NB155_158.out; have hnb67 := NB158_156.out; have hnc67 := NB156_158.out; obtain ⟨hcz68_0, hcz68_1, hcz68_2, hcz68_3, hfz68_0, hfz68_1, hfz68_2, hfz68_3⟩ := cf4_ BK158.out; obtain ⟨hcz69_0, hcz69_1, hcz69_2, hfz69_0, hfz69_1, hfz69_2⟩ := cf3_ BK156.out))
        go_ret
        exact ⟨er_, hb_⟩
      ·rw [if_neg c37] at H
       have c37b0 := decide_eq_false c37; clear c37; obtain rfl := Option.some.inj H
       go_enter Try.func87, Try.ntmps87
       go_wp2_with (first | ((with_reducible refine gate_dst (N := 5) rfl ?_); (try (refine gate_guard (by rfl) ?_; dsimp only)); refine bx_ 5 #[.int .i64 a0_0, .bool a0_1, .slice A0_2 l0_2.length c0_2] 24 ?_; intro gb155 hg w70 BK155 hb; have GE155 := ge_ (w := w) hg; replace HB := hst_ hb; clear hb hg) | ((with_reducible refine gate_dst (N := 9) rfl ?_); (try (refine gate_guard (by rfl) ?_; dsimp only)); refine bx_ 9 #[.int .i64 a4_0, .int .i64 a4_1, .int .i64 a4_2] 85 ?_; intro gb156 hg w71 BK156 hb; have GE156 := ge_ (w := w) hg; replace HB := hst_ hb; have NB155_156 := am_ (nl_ BK155.out hg); have NB156_155 := am_ (ng_ BK155.out hg); replace BK155 := am_ (bb_ BK155.out hb); clear hb hg; have hnb72 := NB156_155.out; have hnc72 := NB155_156.out; obtain ⟨hcz73_0, hcz73_1, hcz73_2, hfz73_0, hfz73_1, hfz73_2⟩ := cf3_ BK156.out; obtain ⟨hcz74_0, hcz74_1, hcz74_2, hfz74_0, hfz74_1, hfz74_2⟩ := cf3_ BK155.out; have p157 : 0 ≤ (a4_0 : Int) := of_decide_eq_true sm_; have q157 : a4_0 < (l0_2.length : Int) := of_decide_eq_true sm_; obtain ⟨ad157, e157, hx157_0, hx157_1, hx157_2, hx157_3⟩ := at_T54 HR0_2.out a4_0 p157 q157; cases e157; replace hx157_0 := (HB.out.cell (World.block_lt_of_cell? w _ hx157_0)).trans hx157_0; replace hx157_1 := (HB.out.cell (World.block_lt_of_cell? w _ hx157_1)).trans hx157_1; replace hx157_2 := (HB.out.cell (World.block_lt_of_cell? w _ hx157_2)).trans hx157_2; replace hx157_3 := (HB.out.cell (World.block_lt_of_cell? w _ hx157_3)).trans hx157_3; replace p157 := eq_true p157; replace q157 := eq_true q157) | ((with_reducible refine gate_dst (N := 11) rfl ?_); (try (refine gate_guard (by rfl) ?_; dsimp only)); refine bx_ 11 #[.int .i64 0, .int .i64 0, .int .i64 0, .int .i64 0] 54 ?_; intro gb158 hg w75 BK158 hb; have GE158 := ge_ (w := w) hg; replace HB := hst_ hb; have NB155_158 := am_ (nl_ BK155.out hg); have NB158_155 := am_ (ng_ BK155.out hg); replace BK155 := am_ (bb_ BK155.out hb); have NB156_158 := am_ (nl_ BK156.out hg); have NB158_156 := am_ (ng_ BK156.out hg); replace BK156 := am_ (bb_ BK156.out hb); clear hb hg; have hnb76 := NB158_155.out; have hnc76 := NB155_158.out; have hnb77 := NB158_156.out; have hnc77 := NB156_158.out; obtain ⟨hcz78_0, hcz78_1, hcz78_2, hcz78_3, hfz78_0, hfz78_1, hfz78_2, hfz78_3⟩ := cf4_ BK158.out; obtain ⟨hcz79_0, hcz79_1, hcz79_2, hfz79_0, hfz79_1, hfz79_2⟩ := cf3_ BK156.out))
       go_ret
       exact ⟨er_, hb_⟩
end Go.Proofs.Ytfhkkbpkajfdlaa.Q
end
