/- A part of the proof: words, contracts, plain lemmas. Conditions: none. -/
import Derived.Maps.RangeWalk
import Derived.Test.YtfhkkbpkajfdlaaZExpandRuns16
set_option linter.unusedSimpArgs false
set_option linter.unusedVariables false
section
namespace Go.Proofs.Ytfhkkbpkajfdlaa.Q
open Go.RowKit Go.Maps Go.Proofs.YtfhkkbpkajfdlaaW.PrintWords Go.Proofs.YtfhkkbpkajfdlaaW.PrintLast Go.Proofs.YtfhkkbpkajfdlaaW.PrintMore
section
variable {K : TypeId} {α : Type} [DecidableEq α] {E : KeyEnc K α} {w w1 : World} {b r n : Nat} {es vis : List (α × Int)}
omit [DecidableEq α] in
theorem has_only (E : KeyEnc K α) (kl : Lit) : ∀ (es : List (α × Int)) (m : DataW Unit), IsMap m → (∀ p ∈ es, kl ≠ E.kl p.1) → Maps.has (es.foldl (fun m p => m.put (E.kl p.1) (.lit (.int .i64 p.2))) m) kl = Maps.has m kl
 | [], m, _, _ => rfl
 | p :: es, m, hm, h => by
  rw [List.foldl_cons, has_only E kl es _ (hm.put _ _) (fun q hq => h q (List.mem_cons_of_mem _ hq)), has_put_other (h p List.mem_cons_self)]
theorem lookM_fold (x : α) : ∀ (es : List (α × Int)) (r : Option Int), (∀ p ∈ es, p.1 ≠ x) → es.foldl (fun r p => if p.1 = x then some p.2 else r) r = r
 | [], r, _ => rfl
 | p :: es, r, h => by
  rw [List.foldl_cons, if_neg (h p List.mem_cons_self)]
  exact lookM_fold x es r (fun q hq => h q (List.mem_cons_of_mem _ hq))
theorem lookM_mem : ∀ (es : List (α × Int)) (r : Option Int) (p : α × Int), (es.map (·.1)).Nodup → p ∈ es → es.foldl (fun r q => if q.1 = p.1 then some q.2 else r) r = some p.2
 | q :: es, r, p, hd, hp => by
  rw [List.map_cons, List.nodup_cons] at hd
  rw [List.foldl_cons]
  rcases List.mem_cons.1 hp with rfl | hp
  ·rw [if_pos rfl]
   exact lookM_fold _ es _ (fun z hz e => hd.1 (by rw [← e]; exact List.mem_map_of_mem hz))
  ·exact lookM_mem es _ p hd.2 hp
def MapR (E : KeyEnc K α) (w : World) (b r n : Nat) (es vis : List (α × Int)) : Prop :=
 ∃ left cnt, w.ranges Try.prog K (plainElem Try.prog 3) b r n (datM E.kl es) left cnt ∧ (∀ p ∈ es, E.good p.1) ∧ (es.map (·.1)).Nodup ∧ (vis.map (·.1)).Nodup ∧ (∀ p ∈ vis, p ∈ es) ∧
  (∀ p ∈ es, left (E.kl p.1) = true ↔ p.1 ∉ vis.map (·.1)) ∧ (∀ kl, left kl = true → ∃ p ∈ es, kl = E.kl p.1)
omit [DecidableEq α] in
theorem MapR.owns (h : MapR E w b r n es vis) : MapI E w b n es := by
 obtain ⟨left, cnt, h, hg, _⟩ := h
 exact ⟨h.owns, hg⟩
omit [DecidableEq α] in
theorem MapR.lt (h : MapR E w b r n es vis) : r < w.heap.size := by
 obtain ⟨left, cnt, h, k⟩ := h
 exact h.lt
omit [DecidableEq α] in
theorem MapR.ltb (h : MapR E w b r n es vis) : b < w.heap.size := h.owns.lt
omit [DecidableEq α] in
theorem MapR.move (h : MapR E w b r n es vis) (hb : w1.heap[b]? = w.heap[b]?) (hr : w1.heap[r]? = w.heap[r]?) : MapR E w1 b r n es vis := by
 obtain ⟨left, cnt, ⟨es', clock, since, seen, c0, x1, x2, x3, x4, x5, x6⟩, k⟩ := h
 exact ⟨left, cnt, ⟨es', clock, since, seen, c0, hb.trans x1, x2, x3, x4, hr.trans x5, x6⟩, k⟩
omit [DecidableEq α] in
theorem MapR.iter (h : MapR E w b r n es vis) : ∃ b' s0 sn c0, w.heap[r]? = some (.mapIter b' s0 sn c0) := by
 obtain ⟨left, cnt, ⟨es', clock, since, seen, c0, x1, x2, x3, x4, x5, x6⟩, k⟩ := h
 exact ⟨_, _, _, _, x5⟩
omit [DecidableEq α] in
theorem MapR.below (h : MapR E w b r n es vis) (hb : Below w.heap.size w w1) : MapR E w1 b r n es vis := h.move (hb.block b h.ltb) (hb.block r h.lt)
omit [DecidableEq α] in
theorem MapR.alloc (h : MapR E w b r n es vis) (o : Obj) : MapR E (w.alloc o) b r n es vis := h.below (below_alloc (Below.refl _ _) o)
omit [DecidableEq α] in
theorem MapR.drew (h : MapR E w b r n es vis) : MapR E w.drew b r n es vis := h.below (below_drew (Below.refl _ _))
omit [DecidableEq α] in
theorem MapR.ne (h : MapR E w b r n es vis) {g : Nat} {cells : Array Value} {q : TypeId} {fr : Nat × Nat} (hg : w.heap[g]? = some (.cells cells q fr)) : g ≠ b ∧ g ≠ r := by
 refine ⟨h.owns.ne hg, ?_⟩
 obtain ⟨b', s0, sn, c0, hr⟩ := h.iter
 rintro rfl
 rw [hg] at hr; injection hr with hr; cases hr
omit [DecidableEq α] in
theorem MapR.grown (h : MapR E w b r n es vis) {row : Option Nat} (hg : w.grownBy w1 row) (ht : ∀ k, row = some k → ∃ cells q fr, w.heap[k]? = some (.cells cells q fr)) : MapR E w1 b r n es vis :=
 h.move (hg.block b h.ltb (fun e => by obtain ⟨cells, q, fr, hk⟩ := ht b e.symm; exact (h.ne hk).1 rfl)) (hg.block r h.lt (fun e => by obtain ⟨cells, q, fr, hk⟩ := ht r e.symm; exact (h.ne hk).2 rfl))
omit [DecidableEq α] in
theorem MapR.grownT (h : MapR E w b r n es vis) {row : Option Nat} (hg : w.grownBy w1 row) {q : TypeId} (ht : ∀ k, row = some k → ∃ cells, w.heap[k]? = some (.cells cells q (0, 0))) : MapR E w1 b r n es vis :=
 h.grown hg (fun k hk => by obtain ⟨c, hc⟩ := ht k hk; exact ⟨c, q, (0, 0), hc⟩)
theorem nodup_len {β : Type} [DecidableEq β] : ∀ {l m : List β}, l.Nodup → (∀ x ∈ l, x ∈ m) → l.length ≤ m.length
 | [], _, _, _ => Nat.zero_le _
 | x :: l, m, hd, hs => by
  rw [List.nodup_cons] at hd
  have hx := hs x List.mem_cons_self
  have := nodup_len (l := l) (m := m.erase x) hd.2 (fun y hy => (List.mem_erase_of_ne (fun e => hd.1 (by rw [← e]; exact hy))).2 (hs y (List.mem_cons_of_mem _ hy)))
  rw [List.length_erase_of_mem hx] at this
  have hp := List.length_pos_of_mem hx
  rw [List.length_cons]; omega
theorem MapR.le (h : MapR E w b r n es vis) : vis.length ≤ es.length := by
 obtain ⟨left, cnt, _, _, hd, hv, hs, _⟩ := h
 have : (vis.map (·.1)).length ≤ (es.map (·.1)).length := nodup_len hv (fun x hx => by
  obtain ⟨p, hp, rfl⟩ := List.mem_map.1 hx
  exact List.mem_map_of_mem (hs p hp))
 simpa using this
omit [DecidableEq α] in
theorem nodup_of_map : ∀ {l : List (α × Int)}, (l.map (·.1)).Nodup → l.Nodup
 | [], _ => List.nodup_nil
 | p :: l, h => by
  rw [List.map_cons, List.nodup_cons] at h
  exact List.nodup_cons.2 ⟨fun hp => h.1 (List.mem_map_of_mem hp), nodup_of_map h.2⟩
omit [DecidableEq α] in
theorem R_noiter {β : Type} {d : Kd β} {e : Nat} {w : World} {base : Nat} {ok : Nat → Prop} {v : Value} {xs : List β} (h : Kd.R d e w base ok v xs) {r : Nat} (hr : ∃ b' s0 sn c0, w.heap[r]? = some (.mapIter b' s0 sn c0)) : Kd.R d e w base (fun k => ok k ∧ k ≠ r) v xs :=
 Kd.R_mono (Kd.R_bound h) (fun k hk => ⟨hk.1, by
  obtain ⟨_, _, _, q, _, cells, hc⟩ := hk
  obtain ⟨b', s0, sn, c0, hm⟩ := hr
  rintro rfl
  rw [hc] at hm; injection hm with hm; cases hm⟩)
section
variable {ops : Array Oper} {rest : List Oper} {o : Oper} {a : Act} {Q : Exit → Act → World → Prop}
theorem mrange (E : KeyEnc K α) (hg : o.guard = none) (m : Operand) (t : TypeId) (hop : o.op = Op.range t m) (ht : Try.prog.underlying t = some (.map K 3)) (hm : a.eval m = .map (some b)) (h : MapI E w b n es) (hd : (es.map (·.1)).Nodup)
 (hK : ∀ r w', r = w.heap.size → MapR E w' b r n es [] → w.grownBy w' none → w'.heap.size = w.heap.size + 1 → wpList Try.prog ops Q rest (a.put o.dst (.pointer (some ⟨r, 0, none⟩))) w') :
 wpList Try.prog ops Q (o :: rest) a w := by
 refine wpList_range_own w hg m t hop K 3 E.law ht (plainElem Try.prog 3) b n (datM E.kl es) hm h.1 ?_
 intro w' hr hgr hs
 refine hK _ w' rfl ⟨_, _, hr, h.2, hd, List.nodup_nil, (fun p hp => by cases hp), fun p hp => ?_, fun kl hkl => ?_⟩ hgr hs
 ·rw [has_datM E h.2 (h.2 p hp)]
  unfold lookM
  rw [lookM_mem es none p hd hp]
  simp
 ·refine Classical.byContradiction fun hno => ?_
  have := has_only E kl es (.map []) isMap_empty (fun p hp e => hno ⟨p, hp, e⟩)
  rw [show Maps.has (datM E.kl es) kl = _ from this] at hkl
  cases hkl
theorem mnext (E : KeyEnc K α) (hg : o.guard = none) (it : Operand) (hop : o.op = Op.next it false) (hit : a.eval it = .pointer (some ⟨r, 0, none⟩)) (h : MapR E w b r n es vis)
 (hDone : vis.Perm es → wpList Try.prog ops Q rest (a.put o.dst (.tuple #[.bool false])) w)
 (hMore : ∀ (p : α × Int) (w' : World), p ∈ es → p ∉ vis → MapR E w' b r n es (vis ++ [p]) → w.grownBy w' (some r) → w'.heap.size = w.heap.size → (Instr.entry (.pointer (some ⟨r, 0, none⟩))).run Try.prog w' = .ok (.tuple #[E.enc p.1, .int .i64 p.2]) w' → wpList Try.prog ops Q rest (a.put o.dst (.tuple #[.bool true, E.enc p.1, .int .i64 p.2])) w') :
 wpList Try.prog ops Q (o :: rest) a w := by
 obtain ⟨left, cnt, hR, hgo, hd, hv, hs, hl, ho⟩ := h
 refine wpList_next_ranges w hg it hop K E.law (plainElem Try.prog 3) (fun v : Value => v) (Value.int .i64) (fun key kl _ => ⟨key, rfl⟩) (fun v y hv => by obtain ⟨c, rfl, _⟩ := plainElem_int_inv Try.underlying3 hv; exact ⟨c, rfl⟩) b r n _ left cnt hit hR ?_ ?_
 ·intro _ hno
  refine hDone ((List.perm_ext_iff_of_nodup (nodup_of_map hv) (nodup_of_map hd)).2 fun p => ⟨hs p, fun hp => ?_⟩)
  have hin : p.1 ∈ vis.map (·.1) := by
   refine Classical.byContradiction fun hn => ?_
   have := (hl p hp).2 hn
   rw [hno] at this
   cases this
  obtain ⟨q, hq, e⟩ := List.mem_map.1 hin
  have h1 := lookM_mem es none p hd hp
  have h2 := lookM_mem es none q hd (hs q hq)
  rw [e] at h2
  have := h1.symm.trans h2
  have e2 : p = q := Prod.ext e.symm (Option.some.inj this)
  rw [e2]; exact hq
 ·intro x c kl y w' cnt' hkey hlk hv0 hat hr2 hlt hgr hsz hen
  obtain ⟨p, hp, rfl⟩ := ho kl hlk
  obtain rfl : x = E.enc p.1 := E.law.inj hkey (E.key p.1 (hgo p hp))
  obtain ⟨c', ec, hy, _⟩ := plainElem_int_inv Try.underlying3 hv0
  cases ec
  have h1 := hat (.lit (.int .i64 0))
  rw [at_datM E hgo (hgo p hp), hy] at h1
  unfold lookM at h1
  rw [lookM_mem es none p hd hp] at h1
  have h3 : (DataW.lit (.int .i64 p.2) : DataW Unit) = .lit (.int .i64 c) := h1
  obtain rfl : p.2 = c := by cases h3; rfl
  have hnv : p.1 ∉ vis.map (·.1) := (hl p hp).1 hlk
  refine hMore p w' hp (fun h => hnv (List.mem_map_of_mem h)) ⟨_, cnt', hr2, hgo, hd, ?_, ?_, ?_, ?_⟩ hgr hsz hen
  ·rw [List.map_append, List.map_singleton, List.nodup_append]
   refine ⟨hv, by simp, fun a ha b hb e => ?_⟩
   rw [List.mem_singleton] at hb
   rw [e, hb] at ha
   exact hnv ha
  ·intro q hq
   rcases List.mem_append.1 hq with hq | hq
   ·exact hs q hq
   ·rw [List.mem_singleton.1 hq]; exact hp
  ·intro q hq
   rw [List.map_append, List.map_singleton, List.mem_append, List.mem_singleton, not_or, ← hl q hq, Bool.and_eq_true, Bool.not_eq_true']
   refine and_congr_right fun _ => ?_
   rw [← Bool.not_eq_true, WideAt.sameKey_iff (E.isKey (hgo p hp))]
   refine not_congr ⟨fun e => E.kl_inj (hgo q hq) (hgo p hp) e, fun e => by rw [e]⟩
  ·intro kl hkl
   exact ho kl (by simp only [Bool.and_eq_true] at hkl; exact hkl.1)
end
end
def withinB (lf : List Int) (arcs : List S54) : Bool := (List.range arcs.length).all fun i => decide (0 ≤ rd lf (i : Int) ∧ rd lf (i : Int) ≤ (rd_T54 arcs (i : Int)).f2)
def toldL (lf : List Int) (vis : List ((Int × Int) × Int)) : List S85 := vis.filterMap fun p => if 0 < rd lf p.2 then some ⟨p.1.1, p.1.2, rd lf p.2⟩ else none
theorem toldL_snoc (lf : List Int) (vis : List ((Int × Int) × Int)) (a b i : Int) : toldL lf (vis ++ [((a, b), i)]) = if 0 < rd lf i then toldL lf vis ++ [⟨a, b, rd lf i⟩] else toldL lf vis := by
 unfold toldL
 rw [List.filterMap_append]
 by_cases c : 0 < rd lf i
 ·simp [c]
 ·simp [c]
theorem toldL_length (lf : List Int) (vis : List ((Int × Int) × Int)) : (toldL lf vis).length ≤ vis.length := List.length_filterMap_le _ _
def Grid_Told.T6 : Bool × List (List Nat × List Nat) := (true, [([], []), ([], []), ([1], [1]), ([], []), ([3], [3]), ([], []), ([], []), ([5, 6], [5, 6]), ([7], [7]), ([2, 4, 8], [2, 4, 8]), ([9], [9]), ([0, 10], [0, 10]), ([11, 11, 0, 1, 2, 3, 4, 5, 6, 7, 8, 9, 10, 11], [0, 11])])
def Grid_Told.B6 : List Nat := [0, 0, 2, 0, 8, 0, 0, 96, 224, 510, 1022, 2047, 4095]
theorem Grid_Told.tab6 : rtab .any (opsOf Try.f42 6) = Grid_Told.T6 := by kernel_rfl
theorem Grid_Told.bits6 : waitsOk Grid_Told.T6.2 Grid_Told.B6 = true := by kernel_rfl
set_option maxHeartbeats 8000000 in
set_option maxRecDepth 100000 in
theorem Grid_Told.calls (gg : Nat) (N V : Int) (v p2 p3 p4 : Value) (m1 : Nat) (l1 : List ((Int × Int) × Int)) (A : Option Addr) (c : Nat) (lf : List Int) (w : World)
 (hb : w.heap[gg]? = some (.cells #[.int .i64 N, .bool false, v, .map (some m1), p2, p3, p4, .int .i64 V] 76 (0, 0))) (hM : MapI E26 w m1 l1.length l1) (hd : (l1.map (·.1)).Nodup)
 (hf : Kd.C (Kd.int .i64) w A lf.length lf) (hc : lf.length ≤ c) (hp : ∀ p ∈ l1, 0 ≤ p.2 ∧ p.2 < (lf.length : Int)) (hl : l1.length ≤ 1048576)
 (hT : ∀ vis, vis.Perm l1 → ∃ k, table_Moves.f k (toldL lf vis) = some (toldL lf l1, 0)) :
 Calls Try.prog 42 #[.pointer (some ⟨gg, 0, none⟩), .slice A lf.length c] w fun e w' => ∃ v0, e = .returned v0 ∧ Kd.R k85 85 w' w.heap.size (fun _ => True) v0 (toldL lf l1) ∧ Below w.heap.size w w' := by
 have hu26 := Try.underlying26
 have hu85 := Try.underlying85
 have HM := am_ hM
 have HD := am_ hd
 have HRf := am_ hf
 have HCf := am_ hc
 have HP := am_ hp
 have HLn := am_ hl
 have HT := am_ hT
 have HB := am_ (Below.refl w.heap.size w)
 have HG := am_ hb
 clear hb hM hd hf hc hp hl hT
 go_enter Try.func42, Try.ntmps42
 go_wp2_with (first
  | ((with_reducible refine gate_dst (N := 10) rfl ?_); refine Kd.R_lit k85 _ 85 ?hg (N := 10) ?hd (xs := ([] : List (S85))) (inner := []) (ok := fun _ => True) (okp := fun _ => True) ?hr ?hp (fun _ hk => hk) trivial (Below.refl _ _) (Nat.le_refl _) (by simp) ?_; (case hd => rfl); (case hg => rfl); (case hr => first | (go_simp; done) | (go_simp; rfl)); (case hp => exact (Reps.none _ _)); intro v0 w3 ho4 hb hg_ hnew_; clear hg_ hnew_; have n0_ := am_ (Kd.R_lower ho4 (below_size HB.out)); have n1_ := am_ (below_step HB.out hb); have n2_ := am_ (HM.out.below hb); have n3_ := am_ (blk_below HG.out hb); clear HB HM HG ho4 hb; have HO := n0_; have HB := n1_; have HM := n2_; have HG := n3_; clear n0_ n1_ n2_ n3_; have z3 : w3.cell? ⟨gg, 3, none⟩ = some (.map (some m1)) := (blk_cell HG.out 3).trans rfl)
  | (at_range; refine mrange E26 rfl _ 73 rfl Try.underlying73 rfl HM.out HD.out ?_; intro r wr hr hR hg hs; clear z3; have GEr := am_ (by rw [hr]; exact below_size HB.out : w.heap.size ≤ r); have n0_ := am_ (Kd.R_grown HO.out hg (fun k_ hk e_ => by cases e_)); have n1_ := am_ (Below.grown HB.out hg (below_size HB.out) (fun k_ e_ => by cases e_)); clear HB HO HM HG hg hs hr; have HO := n0_; have HB := n1_; have HR := am_ hR; clear n0_ n1_ hR))
 go_frame
 go_loopg [5] (l1.length) (fun kq v5 w' => ∃ (vis : List ((Int × Int) × Int)), Aside0 (vis.length + kq = l1.length) ∧ Aside0 (MapR E26 w' m1 r l1.length l1 vis) ∧ Aside0 (Kd.R k85 85 w' w.heap.size (fun _ => True) v5 (toldL lf vis)) ∧ Aside0 (Below w.heap.size w w'))
 case atStart => exact ⟨[], ⟨Nat.zero_add _⟩, HR, HO, HB⟩
 case round =>
  clear HO HB HR
  obtain ⟨vis, HV, HR, HO, HB⟩ := hrel
  go_wp2_with (first | (at_next; refine mnext E26 rfl _ rfl rfl HR.out ?_ ?_))
  ·intro hperm
   obtain ⟨k, hk⟩ := HT.out vis hperm
   have HKm := am_ hk
   obtain ⟨Ao, co, eo⟩ := Kd.R_slice HO.out
   subst eo
   clear hperm hk
   go_wp2_with (first
    | (go_at_call 50; (with_reducible refine (table_Moves.calls k Ao co (toldL lf vis) (toldL lf l1) 0 _ ?s1 ?s2 HKm.out).mono ?_); (case s1 => exact (Kd.R_reads' HO.out).2.2); (case s2 => exact (Kd.R_reads' HO.out).2.1); rintro e w9 ⟨v9, rfl, ho, hb⟩; have n0_ := am_ (Kd.R_lower ho (below_size HB.out)); have n1_ := am_ (below_step HB.out hb); clear HO HB ho hb; have HO := n0_; have HB := n1_; clear n0_ n1_))
   go_ret
   exact ⟨_, rfl, HO.out, HB.out⟩
  ·intro pn pa pi w' hp hnv hR2 hg hs hen
   have n0_ := am_ (Kd.R_mono (Kd.R_grown (R_noiter HO.out HR.out.iter) hg (fun k_ hk e_ => hk.2 (Option.some.inj e_))) (fun _ hk => hk.1))
   have n1_ := am_ (Below.grown HB.out hg (below_size HB.out) (fun k_ e_ => by injection e_ with e_; subst e_; exact GEr.out))
   have hpi := HP.out _ hp
   have hV2 : vis.length + 1 ≤ l1.length := by have := hR2.le; rw [List.length_append] at this; exact this
   clear HO HB HR hg hs hnv hp
   have HO := n0_
   have HB := n1_
   have HR := am_ hR2
   have HV2 := am_ hV2
   clear n0_ n1_ hR2 hV2
   obtain ⟨pi0, pi1⟩ := hpi
   obtain ⟨ad, e, hx⟩ := Kd.at_int HRf.out pi pi0 pi1
   cases e
   replace hx := (HB.out.cell (World.block_lt_of_cell? w _ hx)).trans hx
   have hx2 := ((below_alloc (Below.refl w'.heap.size w') (.cells #[.int .i64 pn, .int .i64 pa] 26 (0, 0))).cell (World.block_lt_of_cell? w' _ hx)).trans hx
   replace pi0 := eq_true pi0
   replace pi1 := eq_true pi1
   rw [show E26.enc (pn, pa) = .agg #[.int .i64 pn, .int .i64 pa] from rfl] at hen ⊢
   by_cases c0 : 0 < rd lf pi
   ·have c1 : decide (rd lf pi > 0) = true := decide_eq_true c0
    go_wp2
    have n0_ := am_ (Kd.R_alloc HO.out (.cells #[.int .i64 pn, .int .i64 pa] 26 (0, 0)))
    have n1_ := am_ (below_alloc HB.out (.cells #[.int .i64 pn, .int .i64 pa] 26 (0, 0)))
    have n2_ := am_ (HR.out.alloc (.cells #[.int .i64 pn, .int .i64 pa] 26 (0, 0)))
    have BKx := am_ (blk_new w' (.cells #[.int .i64 pn, .int .i64 pa] 26 (0, 0)))
    clear HO HB HR hx hen
    have HO := n0_
    have HB := n1_
    have HR := n2_
    clear n0_ n1_ n2_
    generalize hw2 : w'.alloc (.cells #[.int .i64 pn, .int .i64 pa] 26 (0, 0)) = w2 at HO HB HR BKx hx2 ⊢
    generalize hgx : w'.heap.size = gx at BKx ⊢
    clear hw2 hgx w'
    have zx0 : w2.cell? ⟨gx, 0, none⟩ = some (.int .i64 pn) := (blk_cell BKx.out 0).trans rfl
    have zx1 : w2.cell? ⟨gx, 1, none⟩ = some (.int .i64 pa) := (blk_cell BKx.out 1).trans rfl
    have n0_ := am_ (Kd.R_drew HO.out)
    have n1_ := am_ (below_drew1 HB.out)
    have n2_ := am_ HR.out.drew
    clear HO HB HR
    have HO := n0_
    have HB := n1_
    have HR := n2_
    clear n0_ n1_ n2_
    refine start_ (n := 13) (S := fun w' => w'.cell? ⟨gx, 0, none⟩ = some (.int .i64 pn) ∧ w'.cell? ⟨gx, 1, none⟩ = some (.int .i64 pa) ∧ w'.cell? (ad.add pi.toNat) = some (.int .i64 (rd lf pi))) (ds := [10, 11]) #[Ff,Ff,Ff,Ff,Ff,Ff,Ff,Ff,Ff,Ff,Ff,Ff,Ff] (by kernel_rfl) rfl rfl ⟨zx0, zx1, hx2⟩ (fun hHeld => ?_)
    clear zx0 zx1 hx2 BKx
    generalize w2.drew = w10 at HB HO HR hHeld ⊢
    refine with_tabW Grid_Told.tab6 Grid_Told.bits6 (fun HT_ HW_ => ?_)
    refine pw_ 0 26 ?_
    refine pw_ 1 27 ?_
    refine pw_ 3 29 ?_
    refine pw_ 5 31 ?_
    refine pw_ 6 32 ?_
    refine pw_ 7 33 ?_
    refine tk_ 2 28 ?_
    refine tk_ 4 30 ?_
    refine tk_ 8 34 ?_
    refine pw_ 9 35 ?_
    refine last_ (i := 10) (N := (some 36)) #[Tt,Tt,Tt,Tt,Tt,Tt,Tt,Tt,Tt,Tt,Tt,Ff,Ff] rfl rfl (one_of HT_.out (by kernel_rfl)) (by decide) (fun K hK => ?_)
    refine value_ (w1 := ?_) (v := ?_) (by rfl) rfl ?_ ?_
    rotate_left 2
    ·go_simp
     constructor
     ·rfl
     ·rfl
    refine hK.out _ _ ?_
    clear hK K hHeld
    refine norm_ (a' := ?_) ?_ ?_
    rotate_left
    ·show Act.put _ (some 36) _ = _
     simp only [Act.put, List.setIfInBounds_toArray, List.set_cons_zero, List.set_cons_succ, i64_w, i32_w]
     rfl
    refine last_ (i := 11) (N := (some 37)) #[Tt,Tt,Tt,Tt,Tt,Tt,Tt,Tt,Tt,Tt,Tt,Tt,Ff] rfl rfl (one_of HT_.out (by kernel_rfl)) (by decide) (fun K hK => ?_)
    refine Kd.R_append_step k85 (w0 := w) w.heap.size (by rfl) (.tmp 26) (.tmp 36) 45 85 (.agg #[(.int .i64 0), (.int .i64 0), (.int .i64 0)]) 24 rfl Try.underlying45 info85 rfl (by decide) (by omega) u5 (toldL lf vis) (⟨pn, pa, rd lf pi⟩ : S85) [.int .i64 pn, .int .i64 pa, .int .i64 (rd lf pi)] (fun _ => True) (fun _ => False) rfl rfl ?aP (fun _ hk => hk.elim) ?aF ?aO ?aB ?aS ?aL ?_
    case aP => exact k85_mkM _ _ _ (⟨pn, pa, rd lf pi⟩ : S85)
    case aB => exact HB.out
    case aF => exact (fun _ _ => trivial)
    case aO => exact HO.out
    case aS => exact below_size HB.out
    case aL => have := toldL_length lf vis; have := HLn.out; have := HV2.out; omega
    intro v5 w33 ho hb hg hat
    have n0_ := am_ (MapR.grownT HR.out hg (Kd.R_typed HO.out))
    clear HO HB HR hg hat
    have HO := am_ ho
    have HB := am_ hb
    have HR := n0_
    clear ho hb n0_
    refine hK.out _ _ ?_
    clear hK K
    refine norm_ (a' := ?_) ?_ ?_
    rotate_left
    ·show Act.put _ (some 37) _ = _
     simp only [Act.put, List.setIfInBounds_toArray, List.set_cons_zero, List.set_cons_succ, i64_w, i32_w]
     rfl
    refine pw_ 12 5 ?_
    refine done_ (done_of HT_.out (by kernel_rfl)) ?_
    try go_wp2
    go_roundg (gk - 1)
    case measure => have := HV.out; have := HV2.out; omega
    case rel => exact ⟨vis ++ [((pn, pa), pi)], ⟨by rw [List.length_append]; have := HV.out; have := HV2.out; simp only [List.length_singleton]; omega⟩, HR, ⟨by rw [toldL_snoc, if_pos c0]; exact HO.out⟩, HB⟩
   ·have c1 : decide (rd lf pi > 0) = false := decide_eq_false c0
    go_wp2
    go_roundg (gk - 1)
    case measure => have := HV.out; have := HV2.out; omega
    case rel => exact ⟨vis ++ [((pn, pa), pi)], ⟨by rw [List.length_append]; have := HV.out; have := HV2.out; simp only [List.length_singleton]; omega⟩, ⟨HR.out.alloc _⟩, ⟨by rw [toldL_snoc, if_neg (by omega)]; exact Kd.R_alloc HO.out _⟩, ⟨below_alloc HB.out _⟩⟩
end Go.Proofs.Ytfhkkbpkajfdlaa.Q
end
section
namespace Go.Proofs.Ytfhkkbpkajfdlaa.P
open Go.RowKit Go.Proofs.Ytfhkkbpkajfdlaa.Q Go.Proofs.YtfhkkbpkajfdlaaW.PrintWords Go.Proofs.YtfhkkbpkajfdlaaW.PrintLast Go.Proofs.YtfhkkbpkajfdlaaW.PrintMore
def kord (p q : (Int × Int) × Int) : Prop := p.1.2 < q.1.2 ∨ p.1.2 = q.1.2 ∧ p.1.1 < q.1.1
theorem zip_sorted {K : List S83} (h : K.Pairwise klt) : K.zipIdx.Pairwise (fun p q => klt p.1 q.1) := by
 rw [← List.pairwise_map (f := Prod.fst) (R := klt), List.zipIdx_map_fst]
 exact h
theorem movesK_sorted {K : List S83} (h : K.Pairwise klt) : (movesK K).Pairwise kord := by
 unfold movesK
 rw [List.pairwise_filterMap]
 refine (zip_sorted h).imp ?_
 rintro ⟨x, i⟩ ⟨y, j⟩ hk p hp q hq
 unfold mvK at hp hq
 simp only at hp hq hk
 split at hp
 ·split at hq
  ·rename_i hx hy
   simp only [Option.some.injEq] at hp hq
   subst hp; subst hq
   unfold klt at hk
   unfold kord
   simp only [hx, hy, forall_const, and_self] at hk ⊢
   omega
  ·cases hq
 ·cases hp
theorem kord_nodup {l : List ((Int × Int) × Int)} (h : l.Pairwise kord) : (l.map (·.1)).Nodup := by
 rw [List.Nodup, List.pairwise_map]
 refine h.imp ?_
 rintro ⟨⟨a, b⟩, i⟩ ⟨⟨c, d⟩, j⟩ hk e
 unfold kord at hk
 simp only [Prod.mk.injEq] at hk e
 omega
theorem movesK_mem {K : List S83} {p : (Int × Int) × Int} : p ∈ movesK K ↔ ∃ (i : Nat) (k : S83), K[i]? = some k ∧ k.f0 = true ∧ p = ((k.f2, k.f4), (i : Int)) := by
 unfold movesK
 rw [List.mem_filterMap]
 constructor
 ·rintro ⟨⟨k, i⟩, hm, hp⟩
  rw [List.mem_zipIdx_iff_getElem?] at hm
  unfold mvK at hp
  split at hp
  ·rename_i h
   simp only [Option.some.injEq] at hp
   exact ⟨i, k, hm, h, hp.symm⟩
  ·cases hp
 ·rintro ⟨i, k, hm, h, rfl⟩
  exact ⟨(k, i), List.mem_zipIdx_iff_getElem?.2 hm, by unfold mvK; rw [if_pos h]⟩
theorem movesK_len (K : List S83) : (movesK K).length ≤ K.length := by
 unfold movesK
 refine Nat.le_trans (List.length_filterMap_le _ _) ?_
 rw [List.length_zipIdx]; exact Nat.le_refl _
theorem msum_perm {l l' : List S85} (h : l.Perm l') (k : Int × Int) : msum l k = msum l' k := by
 unfold msum
 induction h with
 | nil => rfl
 | cons x _ ih => rw [sumK_cons, sumK_cons, ih]
 | swap x y l => rw [sumK_cons, sumK_cons, sumK_cons, sumK_cons]; omega
 | trans _ _ h1 h2 => rw [h1, h2]
theorem told_sorted {lf : List Int} {l1 : List ((Int × Int) × Int)} (h : l1.Pairwise kord) : (toldL lf l1).Pairwise mlt := by
 unfold toldL
 rw [List.pairwise_filterMap]
 refine h.imp ?_
 rintro ⟨⟨a, b⟩, i⟩ ⟨⟨c, d⟩, j⟩ hk x hx y hy
 simp only at hx hy
 split at hx
 ·split at hy
  ·simp only [Option.some.injEq] at hx hy
   subst hx; subst hy
   exact hk
  ·cases hy
 ·cases hx
theorem told_mem {lf : List Int} {l1 : List ((Int × Int) × Int)} {m : S85} : m ∈ toldL lf l1 ↔ ∃ i, ((m.f0, m.f1), i) ∈ l1 ∧ 0 < rd lf i ∧ m.f2 = rd lf i := by
 unfold toldL
 rw [List.mem_filterMap]
 constructor
 ·rintro ⟨⟨⟨a, b⟩, i⟩, hm, hp⟩
  simp only at hp
  split at hp
  ·rename_i h
   simp only [Option.some.injEq] at hp
   subst hp
   exact ⟨i, hm, h, rfl⟩
  ·cases hp
 ·rintro ⟨i, hm, h, e⟩
  refine ⟨_, hm, ?_⟩
  simp only [if_pos h]
  rw [← e]
theorem merge_self {r : List S85} (h : r.Pairwise mlt) (hz : ∀ m ∈ r, m.f2 ≠ 0) : IsMerge r r := by
 refine ⟨h, fun m => ⟨fun hm => ⟨(mem_keysOf _ _ _).2 ⟨m, hm, rfl⟩, (msum_nodup (sorted_keys h) hm).symm, hz m hm⟩, ?_⟩⟩
 rintro ⟨h1, h2, h3⟩
 obtain ⟨x, hx, hk⟩ := (mem_keysOf _ _ _).1 h1
 have e : m = x := by
  have := msum_nodup (sorted_keys h) hx
  rw [hk, ← h2] at this
  unfold keyM at hk
  exact s85_ext (congrArg Prod.fst hk).symm (congrArg Prod.snd hk).symm this
 rw [e]; exact hx
theorem merge_perm {l r : List S85} (hp : l.Perm r) (h : r.Pairwise mlt) (hz : ∀ m ∈ r, m.f2 ≠ 0) : IsMerge l r :=
 isMerge_congr (l := r) (fun k => by
  rw [mem_keysOf, mem_keysOf]
  constructor
  ·rintro ⟨x, hx, e⟩; exact ⟨x, hp.mem_iff.2 hx, e⟩
  ·rintro ⟨x, hx, e⟩; exact ⟨x, hp.mem_iff.1 hx, e⟩) (fun k _ => (msum_perm hp k).symm) (merge_self h hz)
theorem moves_perm {l r : List S85} (hp : l.Perm r) (h : r.Pairwise mlt) (hz : ∀ m ∈ r, m.f2 ≠ 0) (hok : ∀ m ∈ r, OkM m) (hl : r.length ≤ 1048576) : Ev (fun k => table_Moves.f k l) (r, 0) := by
 have hE := moves_ev l (by rw [hp.length_eq]; exact hl) (fun m hm => hok m (hp.mem_iff.1 hm))
 have hm : mergeL l = r := isMerge_unique (mergeL_is l) (merge_perm hp h hz)
 have hf : AllFit l := by
  intro k hk
  obtain ⟨x, hx, e⟩ := (mem_keysOf _ _ _).1 hk
  rw [msum_perm hp, ← e, msum_nodup (sorted_keys h) (hp.mem_iff.1 hx)]
  exact (hok x (hp.mem_iff.1 hx)).2.2
 have e : mergeR l = (r, 0) := by unfold mergeR; rw [if_pos hf, hm]
 rw [e] at hE
 exact hE
section
variable {V H s t : Int} {hold : Bool} {l0 : List S54}
theorem log1 (n : Nat) : (atLoop V H hold s t l0 n).2.1 = movesK (kindsB V H hold s t l0 n) := by rw [(rel_ats n).mv, rAts_kinds]
theorem arcs1 (n : Nat) : (atLoop V H hold s t l0 n).1 = (kindsB V H hold s t l0 n).map (arcK V l0) := by rw [(rel_ats n).same, (rel_ats (hold := hold) n).arcs, rAts_kinds]
theorem kind_move {n : Nat} {k : S83} (hk : k ∈ kindsB V H hold s t l0 n) (h : k.f0 = true) : ∃ a i : Nat, a < n ∧ i < l0.length ∧ k = ⟨true, false, (i : Int), 0, (a : Int)⟩ ∧ (a : Int) + (l0.getD i z54).f3 ≤ H ∧ (l0.getD i z54).f1 ≠ s ∧ (l0.getD i z54).f0 ≠ t := by
 obtain ⟨a, ha, ⟨i, hi, hm⟩ | ⟨v, hv, hm⟩⟩ := mem_kindsB.1 hk
 ·rw [mvAt_some] at hm
  exact ⟨a, i, ha, hi, hm.2, hm.1⟩
 ·rw [wtAt_some] at hm
  rw [hm.2] at h; cases h
theorem gridArcs_get {i : Nat} {k : S83} (h : (kindsB V H hold s t l0 (H.toNat + 1))[i]? = some k) : (gridArcs V H hold s t l0)[i]? = some (arcK V l0 k) := by
 have hi := (List.getElem?_eq_some_iff.1 h).1
 unfold gridArcs
 rw [arcs1, List.append_assoc, List.getElem?_append_left (by rw [List.length_map]; exact hi), List.getElem?_map, h]
 rfl
theorem withinB_at {lf : List Int} {arcs : List S54} (h : withinB lf arcs = true) {i : Nat} {a : S54} (hi : arcs[i]? = some a) : 0 ≤ rd lf (i : Int) ∧ rd lf (i : Int) ≤ a.f2 := by
 unfold withinB at h
 obtain ⟨hl, e⟩ := List.getElem?_eq_some_iff.1 hi
 have := List.all_eq_true.1 h i (List.mem_range.2 hl)
 rw [rdA_of hl, e] at this
 exact of_decide_eq_true this
theorem grid_len (hok : okNet V H l0 = true) : (gridArcs V H hold s t l0).length ≤ 300000 := by
 unfold okNet at hok
 simp only [Bool.and_eq_true, decide_eq_true_eq] at hok
 obtain ⟨⟨hV0, hV1, hH0, hH1, hl⟩, hall⟩ := hok
 have h1 := (atLoop_bal (H := H) (s := s) (t := t) (hold := hold) hV1 hl (H.toNat + 1)).2
 unfold gridArcs
 rw [List.length_append, List.length_append, firstsA_length, lastsA_length]
 omega
theorem grid_told (hok : okNet V H l0 = true) (lf : List Int) (hlen : lf.length = (gridArcs V H hold s t l0).length) (hw : withinB lf (gridArcs V H hold s t l0) = true) :
 (((atLoop V H hold s t l0 (H.toNat + 1)).2.1).map (·.1)).Nodup ∧ (∀ p ∈ (atLoop V H hold s t l0 (H.toNat + 1)).2.1, 0 ≤ p.2 ∧ p.2 < (lf.length : Int)) ∧ (atLoop V H hold s t l0 (H.toNat + 1)).2.1.length ≤ 1048576 ∧
 ∀ vis, vis.Perm (atLoop V H hold s t l0 (H.toNat + 1)).2.1 → ∃ k, table_Moves.f k (toldL lf vis) = some (toldL lf (atLoop V H hold s t l0 (H.toNat + 1)).2.1, 0) := by
 unfold okNet at hok
 simp only [Bool.and_eq_true, decide_eq_true_eq] at hok
 obtain ⟨⟨hV0, hV1, hH0, hH1, hl⟩, hall⟩ := hok
 rw [log1]
 have hs := movesK_sorted (kindsB_sorted (V := V) (H := H) (s := s) (t := t) (hold := hold) (l0 := l0) (H.toNat + 1))
 have hKl : (kindsB V H hold s t l0 (H.toNat + 1)).length ≤ 256250 := by
  have h1 := (atLoop_bal (H := H) (s := s) (t := t) (hold := hold) hV1 hl (H.toNat + 1)).2
  rw [arcs1, List.length_map] at h1
  omega
 have hKg : (kindsB V H hold s t l0 (H.toNat + 1)).length ≤ (gridArcs V H hold s t l0).length := by
  unfold gridArcs
  rw [arcs1, List.length_append, List.length_append, List.length_map]; omega
 have hml := movesK_len (kindsB V H hold s t l0 (H.toNat + 1))
 refine ⟨kord_nodup hs, ?_, by omega, ?_⟩
 ·intro p hp
  obtain ⟨i, k, hi, _, rfl⟩ := movesK_mem.1 hp
  have := (List.getElem?_eq_some_iff.1 hi).1
  simp only
  omega
 ·intro vis hvis
  have hE := moves_perm (l := toldL lf vis) (r := toldL lf (movesK (kindsB V H hold s t l0 (H.toNat + 1)))) (by unfold toldL; exact hvis.filterMap _) (told_sorted hs) ?_ ?_ (by have := toldL_length lf (movesK (kindsB V H hold s t l0 (H.toNat + 1))); omega)
  ·obtain ⟨k, hk⟩ := hE
   exact ⟨k, hk k (Nat.le_refl _)⟩
  ·intro m hm
   obtain ⟨i, _, h1, h2⟩ := told_mem.1 hm
   omega
  ·intro m hm
   obtain ⟨i, h0, h1, h2⟩ := told_mem.1 hm
   obtain ⟨j, k, hj, hk, e⟩ := movesK_mem.1 h0
   obtain ⟨a, q, ha, hq, rfl, _⟩ := kind_move (List.mem_of_getElem? hj) hk
   simp only [Prod.mk.injEq] at e
   obtain ⟨⟨e1, e2⟩, rfl⟩ := e
   have hb := withinB_at hw (gridArcs_get hj)
   have hc : (arcK V l0 ⟨true, false, (q : Int), 0, (a : Int)⟩).f2 = (l0.getD q z54).f2 := rfl
   rw [hc] at hb
   have ho := List.all_eq_true.1 hall (l0.getD q z54) (by rw [List.getD_eq_getElem?_getD, List.getElem?_eq_getElem hq]; exact List.getElem_mem _)
   unfold okA at ho
   simp only [decide_eq_true_eq] at ho
   unfold OkM fits
   rw [e1, e2, h2]
   omega
end
end Go.Proofs.Ytfhkkbpkajfdlaa.P
end
section
namespace Go.Proofs.Ytfhkkbpkajfdlaa.Q
open Go.RowKit Go.Maps Go.Proofs.YtfhkkbpkajfdlaaW.PrintWords Go.Proofs.YtfhkkbpkajfdlaaW.PrintLast Go.Proofs.YtfhkkbpkajfdlaaW.PrintMore
def gridMoves (V H : Int) (hold : Bool) (s t : Int) (l0 : List S54) : List ((Int × Int) × Int) := (atLoop V H hold s t l0 (H.toNat + 1)).2.1
def expand_Moves.f (k : Nat) (a0_0 : Int) (a0_1 : Bool) (l0_2 : List S54) (a1 a2 a3 : Int) (l4 : List Int) : Option (List S85 × Int) := (expand_Asked.f k a0_0 a0_1 l0_2 a1 a2 a3).bind fun e => if e = 0 then (if okNet a0_0 a3 l0_2 = true ∧ (0 ≤ a1 ∧ a1 < a0_0 ∧ 0 ≤ a2 ∧ a2 < a0_0) then (if l4.length = (gridArcs a0_0 a3 a0_1 a1 a2 l0_2).length then (if withinB l4 (gridArcs a0_0 a3 a0_1 a1 a2 l0_2) = true then some (toldL l4 (gridMoves a0_0 a3 a0_1 a1 a2 l0_2), 0) else some ([], 71)) else some ([], 71)) else none) else some ([], e)
theorem within_bad {lf : List Int} {arcs : List S54} {i : Nat} (hi : i < arcs.length) (h : ¬ (0 ≤ rd lf (i : Int) ∧ rd lf (i : Int) ≤ (rd_T54 arcs (i : Int)).f2)) : withinB lf arcs = false := by
 cases e : withinB lf arcs
 ·rfl
 ·exact absurd (of_decide_eq_true (List.all_eq_true.1 e i (List.mem_range.2 hi))) h
theorem within_all {lf : List Int} {arcs : List S54} (h : ∀ i, i < arcs.length → 0 ≤ rd lf (i : Int) ∧ rd lf (i : Int) ≤ (rd_T54 arcs (i : Int)).f2) : withinB lf arcs = true :=
 List.all_eq_true.2 (fun i hi => decide_eq_true (h i (List.mem_range.1 hi)))
set_option maxHeartbeats 8000000 in
set_option maxRecDepth 100000 in
theorem expand_Moves.calls (k : Nat) (a0_0 : Int) (a0_1 : Bool) (A0_2 : Option Addr) (c0_2 : Nat) (l0_2 : List S54) (a1 a2 a3 : Int) (A4 : Option Addr) (c4 : Nat) (l4 : List Int) (r1 : List S85) (r2 : Int) (w : World) (hr0_2 : Kd.C k54 w A0_2 l0_2.length l0_2) (hc0_2 : l0_2.length ≤ c0_2) (hr4 : Kd.C (Kd.int .i64) w A4 l4.length l4) (hc4 : l4.length ≤ c4) (h : expand_Moves.f k a0_0 a0_1 l0_2 a1 a2 a3 l4 = some (r1, r2)) :
 Calls Try.prog 21 #[.agg #[.int .i64 a0_0, .bool a0_1, .slice A0_2 l0_2.length c0_2], .int .i64 a1, .int .i64 a2, .int .i64 a3, .slice A4 l4.length c4] w fun e w' => ∃ v0_ : Value, e = .returned (.tuple #[v0_, .int .i64 r2]) ∧ Kd.R k85 85 w' w.heap.size (fun _ => True) v0_ r1 ∧ Below w.heap.size w w' := by
 have hu24 := Try.underlying24
 have hu54 := Try.underlying54
 have hu76 := Try.underlying76
 have HR0 := am_ hr0_2
 have HC0 := am_ hc0_2
 have HR4 := am_ hr4
 have HC4 := am_ hc4
 have HB := am_ (Below.refl w.heap.size w)
 clear hr0_2 hc0_2 hr4 hc4
 unfold expand_Moves.f at h
 replace h := Option.bind_eq_some_iff.1 h
 obtain ⟨e, he, h⟩ := h
 have HE := am_ he
 clear he
 by_cases c : e = 0
 ·rw [if_pos c] at h
  split at h
  case isFalse => cases h
  rename_i hh
  have HOK := am_ hh.1
  have HEN := am_ hh.2
  have c1 : (e == 0) = true := beq_iff_eq.2 c
  have c2 : (e != 0) = false := by rw [c]; rfl
  have HGL := am_ (P.grid_len (hold := a0_1) (s := a1) (t := a2) hh.1)
  have HGT := am_ (P.grid_told (hold := a0_1) (s := a1) (t := a2) hh.1 l4)
  clear hh c
  unfold gridMoves at h
  have HLE := am_ h
  clear h
  by_cases cq : l4.length = (gridArcs a0_0 a3 a0_1 a1 a2 l0_2).length
  ·have cl : ((l4.length : Int) != ((gridArcs a0_0 a3 a0_1 a1 a2 l0_2).length : Int)) = false := by rw [cq]; exact bne_self_eq_false _
   have HCQ := am_ cq
   clear cq
   go_enter Try.func21, Try.ntmps21
   go_wp2_with (first
    | ((with_reducible refine gate_dst (N := 5) rfl ?_); refine box_event ?hg (N := 5) ?hd (cs := #[.int .i64 a0_0, .bool a0_1, .slice A0_2 l0_2.length c0_2]) (t := 24) ?hr ?_; (case hd => rfl); (case hg => rfl); (case hr => first | (go_simp; done) | (go_simp; rfl)); intro gn hg w2 hbox hb; replace HB := am_ (below_step HB.out hb); have BKn := am_ hbox; clear hb hbox hg; have zn0 : w2.cell? ⟨gn, 0, none⟩ = some (.int .i64 a0_0) := (blk_cell BKn.out 0).trans rfl; have zn1 : w2.cell? ⟨gn, 1, none⟩ = some (.bool a0_1) := (blk_cell BKn.out 1).trans rfl; have zn2 : w2.cell? ⟨gn, 2, none⟩ = some (.slice A0_2 l0_2.length c0_2) := (blk_cell BKn.out 2).trans rfl)
    | (go_at_call 38; (with_reducible refine (expand_Asked.calls k a0_0 a0_1 A0_2 c0_2 l0_2 a1 a2 a3 e _ ?side11 HC0.out HE.out).mono ?_); (case side11 => exact (Kd.C_below HR0.out HB.out)); rintro e4 w4 ⟨rfl, hb⟩; have n0_ := am_ (below_step HB.out hb); have n1_ := am_ (blk_below BKn.out hb); clear HB BKn zn0 zn1 zn2 hb; have HB := n0_; have BKn := n1_; clear n0_ n1_; have zn0 : w4.cell? ⟨gn, 0, none⟩ = some (.int .i64 a0_0) := (blk_cell BKn.out 0).trans rfl; have zn1 : w4.cell? ⟨gn, 1, none⟩ = some (.bool a0_1) := (blk_cell BKn.out 1).trans rfl; have zn2 : w4.cell? ⟨gn, 2, none⟩ = some (.slice A0_2 l0_2.length c0_2) := (blk_cell BKn.out 2).trans rfl)
    | (go_at_call 39; refine (expand_Of.calls a0_0 a3 a1 a2 a0_1 A0_2 c0_2 l0_2 _ (Kd.C_below HR0.out HB.out) HC0.out HOK.out HEN.out.1 HEN.out.2.1 HEN.out.2.2.1 HEN.out.2.2.2).mono ?_; rintro e5 w5 ⟨gg, v, m1, m2, m3, m4, rfl, hG, hb⟩; obtain ⟨Av, cv, ev⟩ := Kd.R_slice hG.row; generalize gridArcs a0_0 a3 a0_1 a1 a2 l0_2 = arcs at hG ev HLE HGT HGL HCQ cl; generalize (atLoop a0_0 a3 a0_1 a1 a2 l0_2 (a3.toNat + 1)).2.1 = l1 at hG HLE HGT; subst ev; have n0_ := am_ (hG.lower (below_size HB.out)); have n1_ := am_ (below_step HB.out hb); clear HB BKn zn0 zn1 zn2 hb hG; have HG := n0_; have HB := n1_; clear n0_ n1_; have zg2 : w5.cell? ⟨gg, 2, none⟩ = some (.slice Av arcs.length cv) := (blk_cell HG.out.blk 2).trans rfl))
   clear zg2
   go_loopg [44] arcs.length (fun kq vi w' => ∃ (j : Nat), vi = .int .i64 (j : Int) ∧ Aside0 (j + kq = arcs.length) ∧ Aside0 (∀ i : Nat, i < j → 0 ≤ rd l4 (i : Int) ∧ rd l4 (i : Int) ≤ (rd_T54 arcs (i : Int)).f2) ∧ Aside0 (GridW w' w.heap.size (fun _ => True) gg ((a3 + 1) * a0_0 + 2) a0_0 (.slice Av arcs.length cv) arcs m1 m2 m3 m4 l1 (atLoop a0_0 a3 a0_1 a1 a2 l0_2 (a3.toNat + 1)).2.2 (placesL (atLoop a0_0 a3 a0_1 a1 a2 l0_2 (a3.toNat + 1)).1.length (a3.toNat + 1)) (placesL ((atLoop a0_0 a3 a0_1 a1 a2 l0_2 (a3.toNat + 1)).1.length + (a3.toNat + 1)) (a3.toNat + 1))) ∧ Aside0 (Below w.heap.size w w'))
   case atStart => exact ⟨0, rfl, ⟨Nat.zero_add _⟩, ⟨fun i hi => absurd hi (Nat.not_lt_zero _)⟩, HG, HB⟩
   case round =>
    clear HG HB
    obtain ⟨j, rfl, HJ, HW, HG, HB⟩ := hrel
    have hJ := HJ.out
    cases gk with
    | zero =>
     have hj : j = arcs.length := by omega
     have d1 : decide ((j : Int) < (arcs.length : Int)) = false := decide_eq_false (by omega)
     subst hj
     have hwi := within_all HW.out
     have h := HLE.out
     rw [if_pos HCQ.out, if_pos hwi] at h
     simp only [Option.some.injEq, Prod.mk.injEq] at h
     obtain ⟨rfl, rfl⟩ := h
     have HQ := am_ (HGT.out HCQ.out hwi)
     clear hwi hJ HJ HLE HGT
     go_wp2_with (first
      | (go_at_call 42; (with_reducible refine (Grid_Told.calls gg _ _ _ _ _ _ m1 l1 A4 c4 l4 _ HG.out.blk HG.out.M1 HQ.out.1 (Kd.C_below HR4.out HB.out) HC4.out HQ.out.2.1 HQ.out.2.2.1 HQ.out.2.2.2).mono ?_); rintro e w9 ⟨v9, rfl, ho, hb⟩; have n0_ := am_ (Kd.R_lower ho (below_size HB.out)); have n1_ := am_ (below_step HB.out hb); clear HB HG ho hb; have HO := n0_; have HB := n1_; clear n0_ n1_))
     go_ret2
     exact ⟨_, rfl, HO.out, HB.out⟩
    | succ gk0 =>
     have hjl : j < arcs.length := by omega
     have d1 : decide ((j : Int) < (arcs.length : Int)) = true := decide_eq_true (by omega)
     have hwj : wrap64 ((j : Int) + 1) = ((j + 1 : Nat) : Int) := P.wrap1 (by have := HGL.out; omega)
     obtain ⟨ad, ea, hx0, hx1, hx2, hx3⟩ := at_T54 (Kd.R_reads' HG.out.row).2.2 (j : Int) (by omega) (by omega)
     cases ea
     obtain ⟨af, eb, hf⟩ := Kd.at_int HR4.out (j : Int) (by omega) (by have := HCQ.out; omega)
     cases eb
     replace hf := (HB.out.cell (World.block_lt_of_cell? w _ hf)).trans hf
     rw [Int.toNat_natCast] at hx0 hx1 hx2 hx3 hf
     have p0 := eq_true (show (0 : Int) ≤ (j : Int) by omega)
     have p1 := eq_true (show (j : Int) < (arcs.length : Int) by omega)
     have p2 := eq_true (show (j : Int) < (l4.length : Int) by have := HCQ.out; omega)
     have HJL := am_ hjl
     have HWJ := am_ hwj
     clear hjl hwj hJ
     generalize hA : rd_T54 arcs (j : Int) = X at hx0 hx1 hx2 hx3
     generalize hF : rd l4 (j : Int) = F at hf
     obtain ⟨X0, X1, X2, X3⟩ := X
     have HA := am_ hA
     have HF := am_ hF
     have hfa := ((below_alloc (Below.refl wr.heap.size wr) (.cells #[.int .i64 X0, .int .i64 X1, .int .i64 X2, .int .i64 X3] 54 (0, 0))).cell (World.block_lt_of_cell? wr _ hf)).trans hf
     clear hA hF
     by_cases b1 : F < 0
     ·have b2 : decide (F < 0) = true := decide_eq_true b1
      have HBAD : Aside0 (¬ (0 ≤ F ∧ F ≤ X2)) := ⟨by omega⟩
      clear b1
      as_aux_lemma =>
       go_wp2
       go_quiet (fail)
       go_wp2
       have hwi : withinB l4 arcs = false := within_bad HJL.out (by rw [HA.out, HF.out]; exact HBAD.out)
       have h := HLE.out
       rw [if_pos HCQ.out, if_neg (by rw [hwi]; exact Bool.false_ne_true)] at h
       simp only [Option.some.injEq, Prod.mk.injEq] at h
       obtain ⟨rfl, rfl⟩ := h
       go_ret2
       exact ⟨_, rfl, Kd.R_nil _ _ _ _ _, by first | exact pw_below_drewN (below_alloc HB.out _) _ | exact below_drew1 (below_alloc HB.out _)⟩
     ·have b2 : decide (F < 0) = false := decide_eq_false b1
      by_cases b3 : F > X2
      ·have b4 : decide (F > X2) = true := decide_eq_true b3
       have HBAD : Aside0 (¬ (0 ≤ F ∧ F ≤ X2)) := ⟨by omega⟩
       clear b1 b3
       as_aux_lemma =>
        go_wp2
        go_quiet (fail)
        go_wp2
        have hwi : withinB l4 arcs = false := within_bad HJL.out (by rw [HA.out, HF.out]; exact HBAD.out)
        have h := HLE.out
        rw [if_pos HCQ.out, if_neg (by rw [hwi]; exact Bool.false_ne_true)] at h
        simp only [Option.some.injEq, Prod.mk.injEq] at h
        obtain ⟨rfl, rfl⟩ := h
        go_ret2
        exact ⟨_, rfl, Kd.R_nil _ _ _ _ _, by first | exact pw_below_drewN (below_alloc HB.out _) _ | exact below_drew1 (below_alloc HB.out _)⟩
      ·have b4 : decide (F > X2) = false := decide_eq_false b3
       have HOKB : Aside0 (0 ≤ F ∧ F ≤ X2) := ⟨by omega⟩
       clear b1 b3
       as_aux_lemma =>
        go_wp2
        go_quiet (fail)
        go_wp2
        go_roundg gk0
        case measure => omega
        case rel =>
         refine ⟨j + 1, congrArg (Value.int .i64) HWJ.out, ⟨by have := HJ.out; omega⟩, ⟨fun i hi => ?_⟩, ⟨?_⟩, ⟨?_⟩⟩
         ·by_cases hij : i = j
          ·subst hij; rw [HA.out, HF.out]; exact HOKB.out
          ·exact HW.out i (by omega)
         ·exact HG.out.below (by first | exact pw_below_drewN (below_alloc (Below.refl _ _) _) _ | exact below_drew1 (below_alloc (Below.refl _ _) _))
         ·first | exact pw_below_drewN (below_alloc HB.out _) _ | exact below_drew1 (below_alloc HB.out _)
  ·have cl : ((l4.length : Int) != ((gridArcs a0_0 a3 a0_1 a1 a2 l0_2).length : Int)) = true := bne_iff_ne.2 (fun e_ => cq (by omega))
   have HCQ := am_ cq
   clear cq
   go_enter Try.func21, Try.ntmps21
   go_wp2_with (first
    | ((with_reducible refine gate_dst (N := 5) rfl ?_); refine box_event ?hg (N := 5) ?hd (cs := #[.int .i64 a0_0, .bool a0_1, .slice A0_2 l0_2.length c0_2]) (t := 24) ?hr ?_; (case hd => rfl); (case hg => rfl); (case hr => first | (go_simp; done) | (go_simp; rfl)); intro gn hg w2 hbox hb; replace HB := am_ (below_step HB.out hb); have BKn := am_ hbox; clear hb hbox hg; have zn0 : w2.cell? ⟨gn, 0, none⟩ = some (.int .i64 a0_0) := (blk_cell BKn.out 0).trans rfl; have zn1 : w2.cell? ⟨gn, 1, none⟩ = some (.bool a0_1) := (blk_cell BKn.out 1).trans rfl; have zn2 : w2.cell? ⟨gn, 2, none⟩ = some (.slice A0_2 l0_2.length c0_2) := (blk_cell BKn.out 2).trans rfl)
    | (go_at_call 38; (with_reducible refine (expand_Asked.calls k a0_0 a0_1 A0_2 c0_2 l0_2 a1 a2 a3 e _ ?side14 HC0.out HE.out).mono ?_); (case side14 => exact (Kd.C_below HR0.out HB.out)); rintro e4 w4 ⟨rfl, hb⟩; have n0_ := am_ (below_step HB.out hb); have n1_ := am_ (blk_below BKn.out hb); clear HB BKn zn0 zn1 zn2 hb; have HB := n0_; have BKn := n1_; clear n0_ n1_; have zn0 : w4.cell? ⟨gn, 0, none⟩ = some (.int .i64 a0_0) := (blk_cell BKn.out 0).trans rfl; have zn1 : w4.cell? ⟨gn, 1, none⟩ = some (.bool a0_1) := (blk_cell BKn.out 1).trans rfl; have zn2 : w4.cell? ⟨gn, 2, none⟩ = some (.slice A0_2 l0_2.length c0_2) := (blk_cell BKn.out 2).trans rfl)
    | (go_at_call 39; refine (expand_Of.calls a0_0 a3 a1 a2 a0_1 A0_2 c0_2 l0_2 _ (Kd.C_below HR0.out HB.out) HC0.out HOK.out HEN.out.1 HEN.out.2.1 HEN.out.2.2.1 HEN.out.2.2.2).mono ?_; rintro e5 w5 ⟨gg, v, m1, m2, m3, m4, rfl, hG, hb⟩; obtain ⟨Av, cv, ev⟩ := Kd.R_slice hG.row; generalize gridArcs a0_0 a3 a0_1 a1 a2 l0_2 = arcs at hG ev HLE HGT HGL HCQ cl; generalize (atLoop a0_0 a3 a0_1 a1 a2 l0_2 (a3.toNat + 1)).2.1 = l1 at hG HLE HGT; subst ev; have n0_ := am_ (hG.lower (below_size HB.out)); have n1_ := am_ (below_step HB.out hb); clear HB BKn zn0 zn1 zn2 hb hG; have HG := n0_; have HB := n1_; clear n0_ n1_; have zg2 : w5.cell? ⟨gg, 2, none⟩ = some (.slice Av arcs.length cv) := (blk_cell HG.out.blk 2).trans rfl))
   have h := HLE.out
   rw [if_neg HCQ.out] at h
   simp only [Option.some.injEq, Prod.mk.injEq] at h
   obtain ⟨rfl, rfl⟩ := h
   go_ret2
   exact ⟨_, rfl, Kd.R_nil _ _ _ _ _, HB.out⟩
 ·rw [if_neg c] at h
  simp only [Option.some.injEq, Prod.mk.injEq] at h
  obtain ⟨rfl, rfl⟩ := h
  have c1 : (e == 0) = false := beq_eq_false_iff_ne.2 c
  have c2 : (e != 0) = true := bne_iff_ne.2 c
  clear c
  have HOK := am_ (trivial : True)
  have HEN := HOK
  have HLE := HOK
  have HGT := HOK
  have HGL := HOK
  have cl := HOK
  have HCQ := HOK
  go_enter Try.func21, Try.ntmps21
  go_wp2_with (first
   | ((with_reducible refine gate_dst (N := 5) rfl ?_); refine box_event ?hg (N := 5) ?hd (cs := #[.int .i64 a0_0, .bool a0_1, .slice A0_2 l0_2.length c0_2]) (t := 24) ?hr ?_; (case hd => rfl); (case hg => rfl); (case hr => first | (go_simp; done) | (go_simp; rfl)); intro gn hg w2 hbox hb; replace HB := am_ (below_step HB.out hb); have BKn := am_ hbox; clear hb hbox hg; have zn0 : w2.cell? ⟨gn, 0, none⟩ = some (.int .i64 a0_0) := (blk_cell BKn.out 0).trans rfl; have zn1 : w2.cell? ⟨gn, 1, none⟩ = some (.bool a0_1) := (blk_cell BKn.out 1).trans rfl; have zn2 : w2.cell? ⟨gn, 2, none⟩ = some (.slice A0_2 l0_2.length c0_2) := (blk_cell BKn.out 2).trans rfl)
   | (go_at_call 38; (with_reducible refine (expand_Asked.calls k a0_0 a0_1 A0_2 c0_2 l0_2 a1 a2 a3 e _ ?side15 HC0.out HE.out).mono ?_); (case side15 => exact (Kd.C_below HR0.out HB.out)); rintro e4 w4 ⟨rfl, hb⟩; have n0_ := am_ (below_step HB.out hb); have n1_ := am_ (blk_below BKn.out hb); clear HB BKn zn0 zn1 zn2 hb; have HB := n0_; have BKn := n1_; clear n0_ n1_; have zn0 : w4.cell? ⟨gn, 0, none⟩ = some (.int .i64 a0_0) := (blk_cell BKn.out 0).trans rfl; have zn1 : w4.cell? ⟨gn, 1, none⟩ = some (.bool a0_1) := (blk_cell BKn.out 1).trans rfl; have zn2 : w4.cell? ⟨gn, 2, none⟩ = some (.slice A0_2 l0_2.length c0_2) := (blk_cell BKn.out 2).trans rfl)
   | (go_at_call 39; refine (expand_Of.calls a0_0 a3 a1 a2 a0_1 A0_2 c0_2 l0_2 _ (Kd.C_below HR0.out HB.out) HC0.out HOK.out HEN.out.1 HEN.out.2.1 HEN.out.2.2.1 HEN.out.2.2.2).mono ?_; rintro e5 w5 ⟨gg, v, m1, m2, m3, m4, rfl, hG, hb⟩; obtain ⟨Av, cv, ev⟩ := Kd.R_slice hG.row; generalize gridArcs a0_0 a3 a0_1 a1 a2 l0_2 = arcs at hG ev HLE HGT HGL HCQ cl; generalize (atLoop a0_0 a3 a0_1 a1 a2 l0_2 (a3.toNat + 1)).2.1 = l1 at hG HLE HGT; subst ev; have n0_ := am_ (hG.lower (below_size HB.out)); have n1_ := am_ (below_step HB.out hb); clear HB BKn zn0 zn1 zn2 hb hG; have HG := n0_; have HB := n1_; clear n0_ n1_; have zg2 : w5.cell? ⟨gg, 2, none⟩ = some (.slice Av arcs.length cv) := (blk_cell HG.out.blk 2).trans rfl))
  go_ret2
  exact ⟨_, rfl, Kd.R_nil _ _ _ _ _, HB.out⟩
end Go.Proofs.Ytfhkkbpkajfdlaa.Q
end
section
namespace Go.Proofs.Ytfhkkbpkajfdlaa.Q
open Go.RowKit Go.Proofs.YtfhkkbpkajfdlaaW.PrintWords Go.Proofs.YtfhkkbpkajfdlaaW.PrintLast Go.Proofs.YtfhkkbpkajfdlaaW.PrintMore
attribute [local go_sem] max2_int min2_int max_two min_two min_four
def plan_may.f (a0_0 : Int) (a0_1 : Bool) (l0_2 : List (S54)) (a1 : Int) (a2 : Int) (a3 : Int) (a4_0 : Int) (a4_1 : Int) (a4_2 : Int) : Option (Bool) := if a4_0 < 0 then (some false) else (if a4_0 ≥ (l0_2.length : Int) then (some false) else (if a4_1 < 0 then (some false) else (if a4_1 > a3 then (some false) else (if a4_2 < 0 then (some false) else (if 0 ≤ a4_0 then (if a4_0 < (l0_2.length : Int) then (if (wrap64 (a4_1 + ((rd_T54 l0_2 a4_0).f3))) ≤ a3 then (if a4_2 ≤ ((rd_T54 l0_2 a4_0).f2) then (if ((rd_T54 l0_2 a4_0).f1) = a1 then (some false) else (some (((rd_T54 l0_2 a4_0).f0) != a2))) else (some false)) else (some false)) else (none)) else (none))))))
end Go.Proofs.Ytfhkkbpkajfdlaa.Q
end
