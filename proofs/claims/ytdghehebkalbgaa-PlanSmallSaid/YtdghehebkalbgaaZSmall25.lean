/- A part of the proof: words, contracts, plain lemmas. Conditions: none. -/
import Derived.Test.YtdghehebkalbgaaZSmall4
import Derived.Test.YtdghehebkalbgaaZSmall9
import Derived.Test.YtdghehebkalbgaaZSmall10
import Derived.Test.YtdghehebkalbgaaZSmall24
import Derived.Test.YtdghehebkalbgaaZSmall7
import Derived.Test.YtdghehebkalbgaaZSmall8
import Derived.Test.YtdghehebkalbgaaZSmall16
import Derived.Test.YtdghehebkalbgaaZSmall17
import Derived.Test.YtdghehebkalbgaaZSmall18
import Derived.Test.YtdghehebkalbgaaZSmall19
section
namespace Go.Proofs.Ytdghehebkalbgaa.P
open Go.Sort hiding rd
open Go.RowKit Go.Proofs.Ytdghehebkalbgaa.Q Go.Proofs.YtdghehebkalbgaaW.PrintWords Go.Proofs.YtdghehebkalbgaaW.PrintLast Go.Proofs.YtdghehebkalbgaaW.PrintMore
theorem ev_const {α : Type} {g : Nat → Option α} {r : α} (h : ∀ k, g (k + 1) = some r) : Ev g r := Ev.step h (Ev.now r)
def OkM (x : S45) : Prop := fits x.f0 ∧ fits x.f1 ∧ fits x.f2
theorem w1 {i : Nat} (h : i ≤ 4611686018427387904) : wrap64 ((i : Int) + 1) = ((i + 1 : Nat) : Int) := by unfold wrap64; omega
theorem rd_row {V : Nat} {g : Nat → Int} {i : Nat} (h : i < V) : rd (row V g) (i : Int) = g i := by unfold rd; rw [Int.toNat_natCast, row_getD _ _ _ h]
theorem rd_of {l : List Int} {i : Nat} (h : i < l.length) : rd l (i : Int) = l[i] := by unfold rd; simp [List.getD_eq_getElem?_getD, List.getElem?_eq_getElem h]
theorem rdM_of {l : List S45} {i : Nat} (h : i < l.length) : rd_T45 l (i : Int) = l[i] := by unfold rd_T45; simp [List.getD_eq_getElem?_getD, List.getElem?_eq_getElem h]
theorem rdL_of {l : List (List Int)} {i : Nat} (h : i < l.length) : rd_L3 l (i : Int) = l[i] := by unfold rd_L3; simp [List.getD_eq_getElem?_getD, List.getElem?_eq_getElem h]
theorem total_ev (l : List S45) (g : List Int) (hg : ∀ j ∈ g, 0 ≤ j ∧ j < (l.length : Int)) (hlen : g.length ≤ 1048576) (hl : ∀ x ∈ l, fits x.f2) :
    Ev (fun k => api_Move_41.f k l g) (sumFit ((g.map fun j => (l.getD j.toNat z45).f2).sum)) := by
  have hloop : ∀ (d i : Nat), i + d = g.length → Ev (fun k => api_Move_41.l0 k l (row g.length (fun j => if j < i then (rd_T45 l (g.getD j 0)).f2 else 0)) g (g.length : Int) (i : Int)) (sumFit ((g.map fun j => (l.getD j.toNat z45).f2).sum)) := by
    intro d
    induction d with
    | zero =>
      intro i hi
      have e : row g.length (fun j => if j < i then (rd_T45 l (g.getD j 0)).f2 else 0) = g.map fun j => (l.getD j.toNat z45).f2 := by
        apply List.ext_getElem?
        intro j
        rcases Nat.lt_or_ge j g.length with hj | hj
        · rw [row_get? _ _ _ hj, if_pos (by omega), List.getElem?_map, List.getElem?_eq_getElem hj, List.getD_eq_getElem?_getD, List.getElem?_eq_getElem hj]; rfl
        · rw [row_none _ _ _ hj, List.getElem?_eq_none (by rw [List.length_map]; exact hj)]
      have hs : checked_Sum.f (g.map fun j => (l.getD j.toNat z45).f2) = some (sumFit ((g.map fun j => (l.getD j.toNat z45).f2).sum)) := by
        refine csum_eq (by rw [List.length_map]; omega) (fun x hx => ?_)
        obtain ⟨j, hj, rfl⟩ := List.mem_map.1 hx
        have h1 := hg j hj
        have h2 : j.toNat < l.length := by omega
        rw [List.getD_eq_getElem?_getD, List.getElem?_eq_getElem h2]
        exact hl _ (List.getElem_mem h2)
      exact ev_const fun k => by rw [api_Move_41.l0, if_neg (by omega), e, hs]; rfl
    | succ d ih =>
      intro i hi
      have hlt : i < g.length := by omega
      have h1 := hg g[i] (List.getElem_mem hlt)
      have hlen2 := row_length g.length (fun j => if j < i then (rd_T45 l (g.getD j 0)).f2 else 0)
      refine Ev.step (fun k => ?_) (ih (i + 1) (by omega))
      rw [api_Move_41.l0, if_pos (by omega), if_pos (by omega), if_pos (by omega), rd_of hlt, if_pos h1.1, if_pos h1.2]
      simp only [table_Moves_2.f, Option.bind_some]
      rw [if_pos (by rw [hlen2]; omega), Int.toNat_natCast, row_set, w1 (by omega)]
      congr 1
      refine row_ext fun j hj => ?_
      by_cases c : j = i
      · subst c
        rw [if_pos rfl, if_pos (by omega), List.getD_eq_getElem?_getD, List.getElem?_eq_getElem hlt]; rfl
      · rw [if_neg c]
        by_cases c2 : j < i
        · rw [if_pos c2, if_pos (by omega)]
        · rw [if_neg c2, if_neg (by omega)]
  have h0 := hloop g.length 0 (by omega)
  refine Ev.congr (fun k => ?_) h0
  have e : row g.length (fun j => if j < 0 then (rd_T45 l (g.getD j 0)).f2 else 0) = row g.length (fun _ => (0 : Int)) := row_ext fun j _ => by rw [if_neg (by omega)]
  rw [e]
  unfold api_Move_41.f
  rw [if_pos (by omega), if_pos (by omega), Int.toNat_natCast, row_replicate]
  rfl
def rawOf (l : List S45) (K : List (Int × Int)) : List S45 := K.filterMap fun k => if msum l k = 0 then none else some ⟨k.1, k.2, msum l k⟩
noncomputable def mergeL (l : List S45) : List S45 := srtL cfMove (rawOf l (keysOf keyM l))
noncomputable def mergeR (l : List S45) : List S45 × Int := if AllFit l then (mergeL l, 0) else ([], 10)
theorem sumFit_pos {n : Int} (h : fits n) : sumFit n = (n, true) := by unfold sumFit; exact if_pos h
theorem sumFit_neg {n : Int} (h : ¬ fits n) : sumFit n = (0, false) := by unfold sumFit; exact if_neg h
theorem total_group (l : List S45) (hlen : l.length ≤ 1048576) (hl : ∀ x ∈ l, OkM x) (k : Int × Int) : Ev (fun n => api_Move_41.f n l (idxs keyM l k)) (sumFit (msum l k)) := by
  have h := total_ev l (idxs keyM l k) (idxs_bd keyM l k) (Nat.le_trans (idxs_length_le keyM l k) hlen) (fun x hx => (hl x hx).2.2)
  rw [idxs_vals keyM S45.f2 l k z45] at h
  exact h
theorem rawOf_length (l : List S45) (K : List (Int × Int)) : (rawOf l K).length ≤ K.length := List.length_filterMap_le _ _
def FitAll (l : List S45) (K : List (Int × Int)) : Prop := ∀ k ∈ K, fits (msum l k)
noncomputable instance (l : List S45) (K : List (Int × Int)) : Decidable (FitAll l K) := Classical.propDecidable _
theorem moves_loop (l : List S45) (hlen : l.length ≤ 1048576) (hl : ∀ x ∈ l, OkM x) (d : Nat) : ∀ (i : Nat), i + d = (keysOf keyM l).length →
    Ev (fun k => table_Moves.l0 k l (rawOf l ((keysOf keyM l).take i)) (groups keyM l) ((groups keyM l).length : Int) (i : Int))
      (if FitAll l ((keysOf keyM l).drop i) then (mergeL l, 0) else ([], 10)) := by
  have hkl := keysOf_length_le keyM l
  induction d with
  | zero =>
    intro i hi
    rw [List.drop_eq_nil_of_le (by omega), if_pos (by intro k hk; cases hk), List.take_of_length_le (by omega)]
    refine ev_const fun k => ?_
    rw [table_Moves.l0, if_neg (by rw [groups_length]; omega)]
    unfold api_Move_43.f
    have := rawOf_length l (keysOf keyM l)
    rw [if_pos (by omega)]
    rfl
  | succ d ih =>
    intro i hi
    have hlt : i < (keysOf keyM l).length := by omega
    have hlg : i < (groups keyM l).length := by rw [groups_length]; exact hlt
    obtain ⟨key, hkey⟩ : ∃ key, (keysOf keyM l)[i]? = some key := ⟨_, List.getElem?_eq_getElem hlt⟩
    have hmem := List.mem_of_getElem? hkey
    have hgi : rd_L3 (groups keyM l) (i : Int) = idxs keyM l key := by
      have h2 := groups_get keyM l i key hkey
      rw [rdL_of hlg]
      rw [List.getElem?_eq_getElem hlg] at h2
      exact Option.some.inj h2
    have hne := idxs_ne keyM l key ((mem_keysOf _ _ _).1 hmem)
    have hpos : 0 < (idxs keyM l key).length := List.length_pos_iff.2 hne
    have hmem0 : rd (idxs keyM l key) 0 ∈ idxs keyM l key := by
      have := rd_of hpos
      rw [show ((0 : Nat) : Int) = 0 from rfl] at this
      rw [this]
      exact List.getElem_mem hpos
    have hb := idxs_bd keyM l key _ hmem0
    have hk0 := idxs_key keyM l key z45 _ hmem0
    have ht := total_group l hlen hl key
    have hdrop : (keysOf keyM l).drop i = key :: (keysOf keyM l).drop (i + 1) := by
      rw [List.drop_eq_getElem_cons hlt]
      rw [List.getElem?_eq_getElem hlt] at hkey
      rw [Option.some.inj hkey]
    have htake : (keysOf keyM l).take (i + 1) = (keysOf keyM l).take i ++ [key] := by
      rw [List.take_succ_eq_append_getElem hlt]
      rw [List.getElem?_eq_getElem hlt] at hkey
      rw [Option.some.inj hkey]
    have hraw : (rawOf l ((keysOf keyM l).take i)).length ≤ l.length := by
      have h1 := rawOf_length l ((keysOf keyM l).take i)
      rw [List.length_take] at h1
      omega
    have hstep : ∀ k, table_Moves.l0 (k + 1) l (rawOf l ((keysOf keyM l).take i)) (groups keyM l) ((groups keyM l).length : Int) (i : Int) =
        (api_Move_41.f k l (idxs keyM l key)).bind fun bt => if bt.2 = true then (if bt.1 = 0 then table_Moves.l0 k l (rawOf l ((keysOf keyM l).take i)) (groups keyM l) ((groups keyM l).length : Int) ((i + 1 : Nat) : Int) else table_Moves.l0 k l (rawOf l ((keysOf keyM l).take i) ++ [⟨key.1, key.2, bt.1⟩]) (groups keyM l) ((groups keyM l).length : Int) ((i + 1 : Nat) : Int)) else some ([], 10) := by
      intro k
      rw [table_Moves.l0, if_pos (by omega), if_pos (by omega), if_pos (by omega), hgi, if_pos (by omega), if_pos hb.1, if_pos hb.2]
      have hl9 : (rawOf l ((keysOf keyM l).take i)).length < 5864062014805 := by omega
      have hw9 : wrap64 ((i : Int) + 1) = ((i + 1 : Nat) : Int) := w1 (by omega)
      have e0 : (rd_T45 l (rd (idxs keyM l key) 0)).f0 = key.1 := congrArg Prod.fst hk0
      have e1 : (rd_T45 l (rd (idxs keyM l key) 0)).f1 = key.2 := congrArg Prod.snd hk0
      simp only [e0, e1, hl9, hw9, if_true]
    refine Ev.step hstep ?_
    refine Ev.bind ht ?_
    rw [hdrop]
    by_cases hf : fits (msum l key)
    · rw [sumFit_pos hf]
      have hif : (if FitAll l (key :: (keysOf keyM l).drop (i + 1)) then (mergeL l, (0 : Int)) else ([], 10)) = (if FitAll l ((keysOf keyM l).drop (i + 1)) then (mergeL l, 0) else ([], 10)) := by
        by_cases c : FitAll l ((keysOf keyM l).drop (i + 1))
        · rw [if_pos c, if_pos (by intro k hk; rcases List.mem_cons.1 hk with rfl | hk; exact hf; exact c k hk)]
        · rw [if_neg c, if_neg (fun h => c (fun k hk => h k (List.mem_cons_of_mem _ hk)))]
      rw [hif]
      have hi2 := ih (i + 1) (by omega)
      rw [htake] at hi2
      unfold rawOf at hi2
      rw [List.filterMap_append] at hi2
      simp only [if_true]
      by_cases hz : msum l key = 0
      · simp only [hz, if_true]
        simp only [List.filterMap_cons, hz, if_true, List.filterMap_nil, List.append_nil] at hi2
        exact hi2
      · simp only [hz, if_false]
        simp only [List.filterMap_cons, hz, if_false, List.filterMap_nil] at hi2
        exact hi2
    · rw [sumFit_neg hf, if_neg (fun h => hf (h key List.mem_cons_self))]
      exact Ev.now _
theorem okM_good {x : S45} (h : OkM x) : good2 (keyM x) = true := by
  obtain ⟨h0, h1, _⟩ := h
  unfold fits at h0 h1
  unfold good2 keyM
  rw [wf_i64 h0.1 h0.2, wf_i64 h1.1 h1.2]
  rfl
theorem moves_ev (l : List S45) (hlen : l.length ≤ 1048576) (hl : ∀ x ∈ l, OkM x) : Ev (fun k => table_Moves.f k l) (mergeR l) := by
  unfold table_Moves.f
  refine Ev.bind (a := groups keyM l) ⟨l.length + 1, fun k hk => gatherM_eq l hlen (fun x hx => okM_good (hl x hx)) (by omega)⟩ ?_
  have h := moves_loop l hlen hl (keysOf keyM l).length 0 (by omega)
  have e : (if FitAll l ((keysOf keyM l).drop 0) then (mergeL l, (0 : Int)) else ([], 10)) = mergeR l := by
    unfold mergeR
    by_cases c : AllFit l
    · rw [if_pos c, if_pos (show FitAll l ((keysOf keyM l).drop 0) from c)]
    · rw [if_neg c, if_neg (show ¬ FitAll l ((keysOf keyM l).drop 0) from c)]
  rw [e] at h
  exact h
theorem lt_move (x y : S45) : (ltOf cfMove x y = true) ↔ mlt x y := ltMove_eq x y
theorem mergeL_is (l : List S45) : IsMerge l (mergeL l) := by
  obtain ⟨hp, hs⟩ := srtL_spec swoMove (rawOf l (keysOf keyM l))
  have hmem : ∀ m, m ∈ mergeL l ↔ keyM m ∈ keysOf keyM l ∧ m.f2 = msum l (keyM m) ∧ m.f2 ≠ 0 := by
    intro m
    unfold mergeL
    rw [hp.mem_iff]
    unfold rawOf
    rw [List.mem_filterMap]
    constructor
    · rintro ⟨k, hk, he⟩
      split at he
      · cases he
      · rename_i hz
        injection he with he
        subst he
        exact ⟨hk, rfl, hz⟩
    · rintro ⟨h1, h2, h3⟩
      refine ⟨keyM m, h1, ?_⟩
      rw [if_neg (by rw [← h2]; exact h3), ← h2]
      rfl
  refine ⟨?_, hmem⟩
  have hnd : ((mergeL l).map keyM).Nodup := by
    have h1 : ((rawOf l (keysOf keyM l)).map keyM).Nodup := by
      have h2 : (rawOf l (keysOf keyM l)).map keyM = (keysOf keyM l).filter (fun k => decide (msum l k ≠ 0)) := by
        unfold rawOf
        generalize keysOf keyM l = K
        induction K with
        | nil => rfl
        | cons k K ih =>
          rw [List.filterMap_cons, List.filter_cons]
          by_cases hz : msum l k = 0
          · simp [hz, ih]
          · simp [hz, ih]; rfl
      rw [h2]
      exact (nodup_keysOf keyM l).sublist List.filter_sublist
    exact ((hp.map keyM).nodup_iff).2 h1
  have hpair : (mergeL l).Pairwise (fun x y => ltOf cfMove y x = false ∧ keyM x ≠ keyM y) := by
    rw [List.pairwise_and_iff]
    exact ⟨hs, by rw [List.Nodup, List.pairwise_map] at hnd; exact hnd⟩
  refine hpair.imp ?_
  rintro x y ⟨h1, h2⟩
  rw [← Bool.not_eq_true, lt_move] at h1
  have h3 : ¬ (x.f0 = y.f0 ∧ x.f1 = y.f1) := fun h => h2 (by unfold keyM; rw [h.1, h.2])
  unfold mlt at *
  omega
theorem mergeL_length (l : List S45) : (mergeL l).length ≤ l.length := by
  unfold mergeL
  rw [srtL_length swoMove]
  exact Nat.le_trans (rawOf_length _ _) (keysOf_length_le _ _)
theorem mlt_trans {a b c : S45} (h : mlt a b) (k : mlt b c) : mlt a c := by unfold mlt at *; omega
theorem mlt_of_not {a b : S45} (h : ¬ mlt a b) (k : keyM b ≠ keyM a) : mlt b a := by
  have : ¬ (b.f0 = a.f0 ∧ b.f1 = a.f1) := fun h => k (by unfold keyM; rw [h.1, h.2])
  unfold mlt at *
  omega
theorem ins_ev (l : List S45) (x5 : Int) (R : List S45 × Int) : ∀ (n : Nat) (A B : List S45) (e : S45), A.length = n → n + B.length ≤ 4611686018427387904 → (A ++ B).Pairwise mlt → (∀ b ∈ B, mlt e b) → (∀ a ∈ A, keyM a ≠ keyM e) →
    (∀ L : List S45, L.Pairwise mlt → (∀ m, m ∈ L ↔ m = e ∨ m ∈ A ++ B) → L.length = A.length + B.length + 1 → Ev (fun k => ebbtideref03_Moves.l0 k l L (wrap64 (x5 + 1))) R) → Ev (fun k => ebbtideref03_Moves.l3 k l (A ++ e :: B) x5 (n : Int)) R := by
  intro n
  induction n with
  | zero =>
    intro A B e hA hn hs hB hne hc
    obtain rfl : A = [] := List.eq_nil_of_length_eq_zero hA
    refine Ev.step (fun k => by rw [ebbtideref03_Moves.l3, if_neg (by omega)]; rfl) (hc (e :: B) ?_ ?_ ?_)
    · rw [List.pairwise_cons]; exact ⟨hB, hs⟩
    · intro m; simp
    · simp
  | succ n ih =>
    intro A B e hA hn hs hB hne hc
    obtain ⟨A', a, rfl⟩ : ∃ A' a, A = A' ++ [a] := ⟨A.dropLast, A.getLast (fun h => by rw [h] at hA; cases hA), (List.dropLast_concat_getLast _).symm⟩
    have hA' : A'.length = n := by simpa using hA
    subst hA'
    have g1 : rd_T45 (A' ++ [a] ++ e :: B) ((A'.length + 1 : Nat) : Int) = e := by
      unfold rd_T45
      rw [Int.toNat_natCast, List.getD_eq_getElem?_getD, List.getElem?_append_right (by simp)]
      simp
    have g0 : rd_T45 (A' ++ [a] ++ e :: B) (A'.length : Int) = a := by
      unfold rd_T45
      rw [Int.toNat_natCast, List.getD_eq_getElem?_getD, List.append_assoc, List.getElem?_append_right (Nat.le_refl _)]
      simp
    have hw : wrap64 (((A'.length + 1 : Nat) : Int) - 1) = (A'.length : Int) := by unfold wrap64; omega
    have hlen : (A' ++ [a] ++ e :: B).length = A'.length + 1 + (B.length + 1) := by simp; omega
    have hsw : ((A' ++ [a] ++ e :: B).set (A'.length + 1) a).set A'.length e = A' ++ e :: a :: B := by
      rw [List.set_append_right _ _ (by simp)]
      simp only [List.length_append, List.length_singleton, Nat.sub_self, List.set_cons_zero]
      rw [List.append_assoc, List.set_append_right _ _ (Nat.le_refl _)]
      simp
    have hstep : ∀ k, ebbtideref03_Moves.l3 (k + 1) l (A' ++ [a] ++ e :: B) x5 ((A'.length + 1 : Nat) : Int) = if mlt e a then ebbtideref03_Moves.l3 k l (A' ++ e :: a :: B) x5 (A'.length : Int) else ebbtideref03_Moves.l0 k l (A' ++ [a] ++ e :: B) (wrap64 (x5 + 1)) := by
      intro k
      rw [ebbtideref03_Moves.l3, if_pos (by omega), if_pos (by omega), if_pos (by omega), hw, if_pos (by omega), if_pos (by omega), g1, g0]
      simp only [Int.toNat_natCast]
      rw [show ((⟨a.f0, a.f1, a.f2⟩ : S45)) = a from rfl, show ((⟨e.f0, e.f1, e.f2⟩ : S45)) = e from rfl, hsw]
      by_cases c1 : e.f1 < a.f1
      · rw [if_pos c1, if_pos (show mlt e a from .inl c1)]
      · rw [if_neg c1]
        by_cases c2 : e.f1 = a.f1
        · rw [if_pos c2]
          by_cases c3 : e.f0 < a.f0
          · rw [if_pos c3, if_pos (show mlt e a from .inr ⟨c2, c3⟩)]
          · rw [if_neg c3, if_neg (show ¬ mlt e a from fun h => by unfold mlt at h; omega)]
        · rw [if_neg c2, if_neg (show ¬ mlt e a from fun h => by unfold mlt at h; omega)]
    rw [List.append_assoc, List.singleton_append] at hs
    refine Ev.step hstep ?_
    by_cases c : mlt e a
    · simp only [c, if_true]
      refine ih A' (a :: B) e rfl (by simp at hn ⊢; omega) hs (fun b hb => ?_) (fun x hx => hne x (List.mem_append_left _ hx)) (fun L h1 h2 h3 => hc L h1 (fun m => ?_) (by simp at h3 ⊢; omega))
      · rcases List.mem_cons.1 hb with rfl | hb
        · exact c
        · exact hB b hb
      · rw [h2]; simp
    · simp only [c, if_false]
      have hae : mlt a e := mlt_of_not c (hne a (by simp))
      rw [List.pairwise_append] at hs
      obtain ⟨hs1, hs2, hs3⟩ := hs
      rw [List.pairwise_cons] at hs2
      refine hc _ ?_ (fun m => ?_) (by simp; omega)
      · rw [List.append_assoc, List.singleton_append, List.pairwise_append]
        refine ⟨hs1, ?_, ?_⟩
        · rw [List.pairwise_cons, List.pairwise_cons]
          refine ⟨fun b hb => ?_, hB, hs2.2⟩
          rcases List.mem_cons.1 hb with rfl | hb
          · exact hae
          · exact hs2.1 b hb
        · intro x hx b hb
          rcases List.mem_cons.1 hb with rfl | hb
          · exact hs3 x hx _ List.mem_cons_self
          · rcases List.mem_cons.1 hb with rfl | hb
            · exact mlt_trans (hs3 x hx a List.mem_cons_self) hae
            · exact hs3 x hx b (List.mem_cons_of_mem _ hb)
      · simp only [List.mem_append, List.mem_cons, List.not_mem_nil, or_false]
        constructor
        · rintro ((h | h) | h | h)
          · exact .inr (.inl (.inl h))
          · exact .inr (.inl (.inr h))
          · exact .inl h
          · exact .inr (.inr h)
        · rintro (h | (h | h) | h)
          · exact .inr (.inl h)
          · exact .inl (.inl h)
          · exact .inl (.inr h)
          · exact .inr (.inr h)
section
variable (l : List S45) (hlen : l.length ≤ 1048576)
include hlen
def newAt (l : List S45) (i : Nat) (j : Nat) : Bool := decide ((keyM (l.getD i z45)) ∉ (l.take j).map keyM)
omit hlen in
theorem newAt_succ (i j : Nat) (hj : j < l.length) : newAt l i (j + 1) = (newAt l i j && decide (keyM l[j] ≠ keyM (l.getD i z45))) := by
  unfold newAt
  rw [List.take_succ_eq_append_getElem hj, List.map_append, ← Bool.decide_and, decide_eq_decide]
  simp only [List.mem_append, List.map_cons, List.map_nil, List.mem_singleton, not_or]
  constructor
  · rintro ⟨h1, h2⟩; exact ⟨h1, fun h => h2 h.symm⟩
  · rintro ⟨h1, h2⟩; exact ⟨h1, fun h => h2 h.symm⟩
theorem rl1_ev (x4 : List S45) (R : List S45 × Int) (i : Nat) (hi : i < l.length) (h1 : newAt l i i = true → Ev (fun k => ebbtideref03_Moves.l2 k l x4 (i : Int) [] (i : Int)) R)
    (h2 : newAt l i i = false → Ev (fun k => ebbtideref03_Moves.l0 k l x4 ((i + 1 : Nat) : Int)) R) (d : Nat) : ∀ j, j + d = i → Ev (fun k => ebbtideref03_Moves.l1 k l x4 (i : Int) (newAt l i j) (j : Int)) R := by
  induction d with
  | zero =>
    intro j hj
    obtain rfl : j = i := by omega
    by_cases c : newAt l j j = true
    · refine Ev.step (fun k => ?_) (h1 c)
      rw [ebbtideref03_Moves.l1, if_neg (by omega), if_pos c]
    · refine Ev.step (fun k => ?_) (h2 (by simpa using c))
      rw [ebbtideref03_Moves.l1, if_neg (by omega), if_neg c, w1 (by omega)]
  | succ d ih =>
    intro j hj
    have hjl : j < l.length := by omega
    have hn := newAt_succ l i j hjl
    refine Ev.step (fun k => ?_) (ih (j + 1) (by omega))
    rw [ebbtideref03_Moves.l1, if_pos (by omega), w1 (by omega)]
    by_cases c : newAt l i j = true
    · rw [if_pos c, if_pos (by omega), if_pos (by omega), if_pos (by omega), if_pos (by omega), rdM_of hjl, rdM_of hi]
      rw [c, Bool.true_and] at hn
      rw [hn, List.getD_eq_getElem?_getD, List.getElem?_eq_getElem hi, Option.getD_some]
      by_cases e0 : l[j].f0 = l[i].f0
      · rw [if_pos e0]
        congr 1
        by_cases e1 : l[j].f1 = l[i].f1
        · have : keyM l[j] = keyM l[i] := by unfold keyM; rw [e0, e1]
          simp [e1, this]
        · have : keyM l[j] ≠ keyM l[i] := fun h => e1 (congrArg Prod.snd h)
          simp [e1, this]
      · rw [if_neg e0]
        have : keyM l[j] ≠ keyM l[i] := fun h => e0 (congrArg Prod.fst h)
        simp [this]
    · rw [if_neg c]
      have c' : newAt l i j = false := by simpa using c
      rw [c', Bool.false_and] at hn
      rw [hn]
def valsAt (l : List S45) (i j : Nat) : List Int := (((l.take j).drop i).filter (fun x => decide (keyM x = keyM (l.getD i z45)))).map S45.f2
theorem valsAt_length (i j : Nat) : (valsAt l i j).length ≤ l.length := by
  unfold valsAt
  rw [List.length_map]
  refine Nat.le_trans (List.length_filter_le _ _) ?_
  rw [List.length_drop, List.length_take]
  omega
theorem rl2_ev (x4 : List S45) (R : List S45 × Int) (i : Nat) (hi : i < l.length)
    (hend : Ev (fun k => (ebbtideref01_Sum.f k (valsAt l i l.length)).bind fun bt874 => (if bt874.2 = true then (if bt874.1 = 0 then (ebbtideref03_Moves.l0 k l x4 ((i + 1 : Nat) : Int)) else (if x4.length < 5864062014805 then ((some (x4 ++ [(⟨l[i].f0, l[i].f1, bt874.1⟩ : S45)] : List (S45))).bind fun y878 => (ebbtideref03_Moves.l3 k l y878 (i : Int) (wrap64 ((y878.length : Int) - 1)))) else (none))) else (some (([] : List (S45)), 10)))) R) (d : Nat) :
    ∀ j, i ≤ j → j + d = l.length → Ev (fun k => ebbtideref03_Moves.l2 k l x4 (i : Int) (valsAt l i j) (j : Int)) R := by
  induction d with
  | zero =>
    intro j hij hj
    obtain rfl : j = l.length := by omega
    refine Ev.step (fun k => ?_) hend
    rw [ebbtideref03_Moves.l2, if_neg (by omega), w1 (by omega), rdM_of hi]
    simp only [show (0 : Int) ≤ (i : Int) from by omega, show (i : Int) < (l.length : Int) from by omega, if_true]
  | succ d ih =>
    intro j hij hj
    have hjl : j < l.length := by omega
    have hv := valsAt_length l hlen i j
    refine Ev.step (fun k => ?_) (ih (j + 1) (by omega) (by omega))
    rw [ebbtideref03_Moves.l2, if_pos (by omega), if_pos (by omega), if_pos (by omega), if_pos (by omega), rdM_of hjl, rdM_of hi, w1 (by omega)]
    have hs : valsAt l i (j + 1) = if keyM l[j] = keyM l[i] then valsAt l i j ++ [l[j].f2] else valsAt l i j := by
      unfold valsAt
      rw [List.take_succ_eq_append_getElem hjl, List.drop_append_of_le_length (by rw [List.length_take]; omega), List.filter_append, List.map_append, List.getD_eq_getElem?_getD, List.getElem?_eq_getElem hi, Option.getD_some, List.filter_cons]
      by_cases c : keyM l[j] = keyM l[i]
      · simp [c]
      · simp [c]
    rw [hs]
    by_cases e0 : l[j].f0 = l[i].f0
    · rw [if_pos e0]
      by_cases e1 : l[j].f1 = l[i].f1
      · rw [if_pos e1, if_pos (by omega), if_pos (show keyM l[j] = keyM l[i] by unfold keyM; rw [e0, e1])]
      · rw [if_neg e1, if_neg (fun h => e1 (congrArg Prod.snd h))]
    · rw [if_neg e0, if_neg (fun h => e0 (congrArg Prod.fst h))]
omit hlen in
theorem vals_sum (i : Nat) (hi : i < l.length) (hnew : newAt l i i = true) : (valsAt l i l.length).sum = msum l (keyM l[i]) := by
  unfold valsAt msum sumK
  rw [List.take_length, List.getD_eq_getElem?_getD, List.getElem?_eq_getElem hi, Option.getD_some]
  unfold newAt at hnew
  rw [decide_eq_true_iff, List.getD_eq_getElem?_getD, List.getElem?_eq_getElem hi, Option.getD_some] at hnew
  generalize keyM l[i] = key at *
  conv => rhs; rw [← List.take_append_drop i l]
  have e : (l.take i).filter (fun x => decide (keyM x = key)) = [] := List.filter_eq_nil_iff.2 (fun x hx => by
    simp only [decide_eq_true_eq]
    intro h
    exact hnew (List.mem_map.2 ⟨x, hx, h⟩))
  rw [List.filter_append, List.map_append, List.sum_append, e]
  simp
structure Pre (l : List S45) (i : Nat) (L : List S45) : Prop where
  sorted : L.Pairwise mlt
  mem : ∀ m, m ∈ L ↔ keyM m ∈ keysOf keyM (l.take i) ∧ m.f2 = msum l (keyM m) ∧ m.f2 ≠ 0
  len : L.length ≤ i
theorem rmoves_loop (hl : ∀ x ∈ l, OkM x) (d : Nat) : ∀ (i : Nat) (L : List S45), i + d = l.length → Pre l i L → (∀ k ∈ keysOf keyM (l.take i), fits (msum l k)) →
    Ev (fun k => ebbtideref03_Moves.l0 k l L (i : Int)) (mergeR l) := by
  induction d with
  | zero =>
    intro i L hi hp hf
    obtain rfl : i = l.length := by omega
    refine ev_const fun k => ?_
    rw [ebbtideref03_Moves.l0, if_neg (by omega)]
    rw [List.take_length] at hf
    have hpm := hp.mem
    rw [List.take_length] at hpm
    unfold mergeR
    rw [if_pos (show AllFit l from hf), isMerge_unique (⟨hp.sorted, hpm⟩ : IsMerge l L) (mergeL_is l)]
  | succ d ih =>
    intro i L hi hp hf
    have hil : i < l.length := by omega
    have hkeys1 : keyM l[i] ∈ keysOf keyM (l.take i) → keysOf keyM (l.take (i + 1)) = keysOf keyM (l.take i) := fun h => by rw [List.take_succ_eq_append_getElem hil, keysOf_snoc, if_pos h]
    have hkeys2 : keyM l[i] ∉ keysOf keyM (l.take i) → keysOf keyM (l.take (i + 1)) = keysOf keyM (l.take i) ++ [keyM l[i]] := fun h => by rw [List.take_succ_eq_append_getElem hil, keysOf_snoc, if_neg h]
    have hnew : newAt l i i = decide (keyM l[i] ∉ keysOf keyM (l.take i)) := by
      unfold newAt
      rw [List.getD_eq_getElem?_getD, List.getElem?_eq_getElem hil, Option.getD_some, decide_eq_decide, mem_keysOf, List.mem_map]
    have hn0 : newAt l i 0 = true := by unfold newAt; simp
    refine Ev.step (fun k => ?_) (rl1_ev l hlen L (mergeR l) i hil ?_ ?_ i 0 (by omega))
    · rw [ebbtideref03_Moves.l0, if_pos (by omega), hn0]; rfl
    · intro hnw
      have hkn : keyM l[i] ∉ keysOf keyM (l.take i) := by rw [hnew, decide_eq_true_iff] at hnw; exact hnw
      have hkeys := hkeys2 hkn
      have hv0 : valsAt l i i = [] := by unfold valsAt; rw [List.drop_eq_nil_of_le (by rw [List.length_take]; omega)]; rfl
      have hmain := rl2_ev l hlen L (mergeR l) i hil ?_ (l.length - i) i (Nat.le_refl _) (by omega)
      · rw [hv0] at hmain
        exact hmain
      · have hvl := valsAt_length l hlen i l.length
        have hsum := vals_sum l i hil hnw
        have hsev : Ev (fun k => ebbtideref01_Sum.f k (valsAt l i l.length)) (sumFit (msum l (keyM l[i]))) := by
          rw [← hsum]
          refine ⟨l.length + 1, fun k hk => rsum_eq (by omega) (fun x hx => ?_) (by omega)⟩
          unfold valsAt at hx
          obtain ⟨y, hy, rfl⟩ := List.mem_map.1 hx
          rw [List.take_length] at hy
          exact (hl y (List.mem_of_mem_drop (List.mem_filter.1 hy).1)).2.2
        have hkl : keyM l[i] ∈ keysOf keyM l := (mem_keysOf _ _ _).2 ⟨l[i], List.getElem_mem hil, rfl⟩
        refine Ev.bind hsev ?_
        by_cases hfit : fits (msum l (keyM l[i]))
        · rw [sumFit_pos hfit]
          simp only [if_true]
          have hf' : ∀ k ∈ keysOf keyM (l.take (i + 1)), fits (msum l k) := by
            rw [hkeys]
            intro k hk
            rcases List.mem_append.1 hk with hk | hk
            · exact hf k hk
            · rw [List.mem_singleton.1 hk]; exact hfit
          by_cases hz : msum l (keyM l[i]) = 0
          · simp only [hz, if_true]
            refine ih (i + 1) L (by omega) ⟨hp.sorted, fun m => ?_, by have := hp.len; omega⟩ hf'
            rw [hp.mem, hkeys, List.mem_append, List.mem_singleton]
            constructor
            · rintro ⟨h1, h2, h3⟩; exact ⟨.inl h1, h2, h3⟩
            · rintro ⟨h1 | h1, h2, h3⟩
              · exact ⟨h1, h2, h3⟩
              · rw [h1, hz] at h2; exact absurd h2 h3
          · simp only [hz, if_false]
            have hLl := hp.len
            have hLl2 : L.length < 5864062014805 := by omega
            simp only [hLl2, if_true, Option.bind_some]
            have hw : wrap64 (((L ++ [(⟨l[i].f0, l[i].f1, msum l (keyM l[i])⟩ : S45)]).length : Int) - 1) = (L.length : Int) := by
              rw [List.length_append, List.length_singleton]; unfold wrap64; omega
            rw [hw]
            refine ins_ev l (i : Int) (mergeR l) L.length L [] ⟨l[i].f0, l[i].f1, msum l (keyM l[i])⟩ rfl (by simp; omega) (by simpa using hp.sorted) (fun b hb => by cases hb) (fun a ha he => ?_) (fun L' h1 h2 h3 => ?_)
            · have := ((hp.mem a).1 ha).1
              rw [he] at this
              exact hkn this
            · rw [w1 (by omega)]
              refine ih (i + 1) L' (by omega) ⟨h1, fun m => ?_, by simp at h3; omega⟩ hf'
              rw [h2, List.append_nil, hp.mem, hkeys, List.mem_append, List.mem_singleton]
              constructor
              · rintro (rfl | ⟨h4, h5, h6⟩)
                · exact ⟨.inr rfl, rfl, hz⟩
                · exact ⟨.inl h4, h5, h6⟩
              · rintro ⟨h4 | h4, h5, h6⟩
                · exact .inr ⟨h4, h5, h6⟩
                · refine .inl (s45_ext (congrArg Prod.fst h4) (congrArg Prod.snd h4) ?_)
                  rw [h5, h4]
        · rw [sumFit_neg hfit]
          have hna : ¬ AllFit l := fun h => hfit (h _ hkl)
          unfold mergeR
          rw [if_neg hna]
          exact Ev.now _
    · intro hnw
      have hkn : keyM l[i] ∈ keysOf keyM (l.take i) := by rw [hnew, decide_eq_false_iff_not, Classical.not_not] at hnw; exact hnw
      have hkeys := hkeys1 hkn
      refine ih (i + 1) L (by omega) ⟨hp.sorted, fun m => ?_, by have := hp.len; omega⟩ (by rw [hkeys]; exact hf)
      rw [hkeys]; exact hp.mem m
theorem rmoves_ev (hl : ∀ x ∈ l, OkM x) : Ev (fun k => ebbtideref03_Moves.f k l) (mergeR l) := by
  have h := rmoves_loop l hlen hl l.length 0 [] (by omega) ⟨List.Pairwise.nil, fun m => by simp [keysOf, once], Nat.le_refl _⟩ (by simp [keysOf, once])
  exact h
end
end Go.Proofs.Ytdghehebkalbgaa.P
end
section
namespace Go.Proofs.Ytdghehebkalbgaa.P
open Go.RowKit Go.Proofs.Ytdghehebkalbgaa.Q Go.Proofs.YtdghehebkalbgaaW.PrintWords Go.Proofs.YtdghehebkalbgaaW.PrintLast Go.Proofs.YtdghehebkalbgaaW.PrintMore
theorem ev_cst {α : Type} {g : Nat → Option α} {r : α} (h : ∀ k, g (k + 1) = some r) : Ev g r := Ev.step h (Ev.now r)
theorem wrap1 {i : Nat} (h : i ≤ 4611686018427387904) : wrap64 ((i : Int) + 1) = ((i + 1 : Nat) : Int) := by unfold wrap64; omega
theorem rdA_of {l : List S47} {i : Nat} (h : i < l.length) : rd_T47 l (i : Int) = l[i] := by unfold rd_T47; simp [List.getD_eq_getElem?_getD, List.getElem?_eq_getElem h]
def arcErr (n : Int) (a : S47) : Int := if a.f0 < 0 ∨ a.f1 < 0 ∨ a.f2 < 0 ∨ a.f3 < 0 ∨ n ≤ a.f0 ∨ n ≤ a.f1 then 51 else if 1048576 < a.f2 ∨ 1048576 < a.f3 then 2 else 0
def firstErr (n : Int) : List S47 → Int
  | [] => 0
  | a :: r => if arcErr n a = 0 then firstErr n r else arcErr n a
def checkErr (n : Int) (l : List S47) : Int := if n < 1 then 51 else if 50 < n then 2 else if 200 < l.length then 2 else firstErr n l
def endsErr (n : Int) (l : List S47) (s t : Int) : Int := if checkErr n l = 0 then (if s < 0 ∨ t < 0 ∨ n ≤ s ∨ n ≤ t ∨ s = t then 70 else 0) else checkErr n l
def spanErr (h : Int) : Int := if h < 0 then 1 else if 1024 < h then 2 else 0
def askErr (n : Int) (l : List S47) (s t h : Int) : Int := if endsErr n l s t = 0 then spanErr h else endsErr n l s t
structure ArcOk (n : Int) (a : S47) : Prop where
  f0 : 0 ≤ a.f0 ∧ a.f0 < n
  f1 : 0 ≤ a.f1 ∧ a.f1 < n
  f2 : 0 ≤ a.f2 ∧ a.f2 ≤ 1048576
  f3 : 0 ≤ a.f3 ∧ a.f3 ≤ 1048576
theorem arcErr_ok {n : Int} {a : S47} : arcErr n a = 0 ↔ ArcOk n a := by
  unfold arcErr
  constructor
  · intro h
    split at h
    · cases h
    · split at h
      · cases h
      · exact ⟨by omega, by omega, by omega, by omega⟩
  · rintro ⟨h0, h1, h2, h3⟩
    rw [if_neg (by omega), if_neg (by omega)]
theorem firstErr_ok {n : Int} {l : List S47} : firstErr n l = 0 ↔ ∀ a ∈ l, ArcOk n a := by
  induction l with
  | nil => simp [firstErr]
  | cons a l ih =>
    rw [firstErr]
    by_cases h : arcErr n a = 0
    · rw [if_pos h, ih]
      constructor
      · intro h2 x hx
        rcases List.mem_cons.1 hx with rfl | hx
        · exact arcErr_ok.1 h
        · exact h2 x hx
      · intro h2 x hx; exact h2 x (List.mem_cons_of_mem _ hx)
    · rw [if_neg h]
      constructor
      · intro h2; exact absurd h2 h
      · intro h2; exact absurd (arcErr_ok.2 (h2 a List.mem_cons_self)) h
structure NetOk (n : Int) (l : List S47) : Prop where
  lo : 1 ≤ n
  hi : n ≤ 50
  len : l.length ≤ 200
  arcs : ∀ a ∈ l, ArcOk n a
theorem checkErr_ok {n : Int} {l : List S47} : checkErr n l = 0 ↔ NetOk n l := by
  unfold checkErr
  constructor
  · intro h
    split at h
    · cases h
    · split at h
      · cases h
      · split at h
        · cases h
        · exact ⟨by omega, by omega, by omega, firstErr_ok.1 h⟩
  · rintro ⟨h0, h1, h2, h3⟩
    rw [if_neg (by omega), if_neg (by omega), if_neg (by omega)]
    exact firstErr_ok.2 h3
theorem askErr_ok {n : Int} {l : List S47} {s t h : Int} : askErr n l s t h = 0 ↔ NetOk n l ∧ 0 ≤ s ∧ s < n ∧ 0 ≤ t ∧ t < n ∧ s ≠ t ∧ 0 ≤ h ∧ h ≤ 1024 := by
  unfold askErr endsErr spanErr
  by_cases hc : checkErr n l = 0
  · rw [if_pos hc]
    have hn := checkErr_ok.1 hc
    by_cases hs : s < 0 ∨ t < 0 ∨ n ≤ s ∨ n ≤ t ∨ s = t
    · rw [if_pos hs, if_neg (by decide)]
      constructor
      · intro h; cases h
      · rintro ⟨_, h⟩; omega
    · rw [if_neg hs, if_pos rfl]
      constructor
      · intro h2
        refine ⟨hn, by omega, by omega, by omega, by omega, by omega, ?_, ?_⟩
        · by_cases c : h < 0
          · rw [if_pos c] at h2; cases h2
          · omega
        · by_cases c : h < 0
          · rw [if_pos c] at h2; cases h2
          · rw [if_neg c] at h2
            by_cases c2 : 1024 < h
            · rw [if_pos c2] at h2; cases h2
            · omega
      · rintro ⟨_, _, _, _, _, _, h5, h6⟩
        rw [if_neg (by omega), if_neg (by omega)]
  · rw [if_neg hc, if_neg hc]
    constructor
    · intro h; exact absurd h hc
    · rintro ⟨h, _⟩; exact absurd (checkErr_ok.2 h) hc
theorem arc_ev (n : Int) (a : S47) : Ev (fun k => netfmt_arc.f k n a.f0 a.f1 a.f2 a.f3) (arcErr n a) := by
  refine ev_cst fun k => ?_
  unfold netfmt_arc.f arcErr
  by_cases c : mn (mn (mn a.f0 a.f1) a.f2) a.f3 < 0
  · rw [if_pos c, netfmt_arc.j0, if_pos rfl, if_pos (by unfold mn at c; (repeat' split at c) <;> omega)]
  · rw [if_neg c, netfmt_arc.j0]
    have hc : 0 ≤ a.f0 ∧ 0 ≤ a.f1 ∧ 0 ≤ a.f2 ∧ 0 ≤ a.f3 := by unfold mn at c; (repeat' split at c) <;> omega
    by_cases c2 : mx a.f0 a.f1 ≥ n
    · rw [decide_eq_true c2, if_pos rfl, if_pos (by unfold mx at c2; split at c2 <;> omega)]
    · rw [decide_eq_false c2, if_neg (by decide)]
      have hc2 : a.f0 < n ∧ a.f1 < n := by unfold mx at c2; split at c2 <;> omega
      rw [if_neg (show ¬ (a.f0 < 0 ∨ a.f1 < 0 ∨ a.f2 < 0 ∨ a.f3 < 0 ∨ n ≤ a.f0 ∨ n ≤ a.f1) by omega)]
      by_cases c3 : a.f2 > 1048576
      · rw [if_pos c3, if_pos (by omega)]
      · rw [if_neg c3]
        by_cases c4 : a.f3 > 1048576
        · rw [if_pos c4, if_pos (by omega)]
        · rw [if_neg c4, if_neg (by omega)]
theorem rarc_ev (n : Int) (a : S47) : Ev (fun k => ebbtideref05_Arc.f k n a.f0 a.f1 a.f2 a.f3) (arcErr n a) := by
  refine ev_cst fun k => ?_
  unfold ebbtideref05_Arc.f arcErr
  simp only [ebbtideref05_Arc.j0]
  by_cases c0 : a.f0 < 0
  · rw [if_pos c0, if_pos trivial, if_pos (by omega)]
  · rw [if_neg c0]
    by_cases c1 : a.f0 ≥ n
    · rw [if_pos c1, if_pos trivial, if_pos (by omega)]
    · rw [if_neg c1]
      by_cases c2 : a.f1 < 0
      · rw [if_pos c2, if_pos trivial, if_pos (by omega)]
      · rw [if_neg c2]
        by_cases c3 : a.f1 ≥ n
        · rw [if_pos c3, if_pos trivial, if_pos (by omega)]
        · rw [if_neg c3]
          by_cases c4 : a.f2 < 0
          · rw [if_pos c4, if_pos trivial, if_pos (by omega)]
          · rw [if_neg c4]
            by_cases c5 : a.f3 < 0
            · rw [if_pos (decide_eq_true c5), if_pos (by omega)]
            · rw [if_neg (by simpa using c5), if_neg (show ¬ (a.f0 < 0 ∨ a.f1 < 0 ∨ a.f2 < 0 ∨ a.f3 < 0 ∨ n ≤ a.f0 ∨ n ≤ a.f1) by omega)]
              by_cases c6 : a.f2 > 1048576
              · rw [if_pos c6, if_pos (by omega)]
              · rw [if_neg c6]
                by_cases c7 : a.f3 > 1048576
                · rw [if_pos c7, if_pos (by omega)]
                · rw [if_neg c7, if_neg (by omega)]
theorem check_loop (n : Int) (b : Bool) (l : List S47) (hl : l.length ≤ 200) (d : Nat) : ∀ i, i + d = l.length → Ev (fun k => netfmt_Check.l0 k l (l.length : Int) (i : Int) n b l) (firstErr n (l.drop i)) := by
  induction d with
  | zero =>
    intro i hi
    rw [List.drop_eq_nil_of_le (by omega)]
    exact ev_cst fun k => by rw [netfmt_Check.l0, if_neg (by omega)]; rfl
  | succ d ih =>
    intro i hi
    have hlt : i < l.length := by omega
    refine Ev.step (f := fun k => (netfmt_arc.f k n l[i].f0 l[i].f1 l[i].f2 l[i].f3).bind fun t173 => if t173 = 0 then netfmt_Check.l0 k l (l.length : Int) ((i + 1 : Nat) : Int) n b l else some t173) (fun k => ?_) ?_
    · rw [netfmt_Check.l0, if_pos (by omega), if_pos (by omega), if_pos (by omega), rdA_of hlt, wrap1 (by omega)]
    · refine Ev.bind (arc_ev n l[i]) ?_
      rw [List.drop_eq_getElem_cons hlt, firstErr]
      by_cases c : arcErr n l[i] = 0
      · simp only [c, if_true]
        exact ih (i + 1) (by omega)
      · simp only [c, if_false]
        exact Ev.now _
theorem rcheck_loop (n : Int) (b : Bool) (l : List S47) (hl : l.length ≤ 200) (d : Nat) : ∀ i, i + d = l.length → Ev (fun k => ebbtideref05_Check.l0 k (i : Int) n b l) (firstErr n (l.drop i)) := by
  induction d with
  | zero =>
    intro i hi
    rw [List.drop_eq_nil_of_le (by omega)]
    exact ev_cst fun k => by rw [ebbtideref05_Check.l0, if_neg (by omega)]; rfl
  | succ d ih =>
    intro i hi
    have hlt : i < l.length := by omega
    refine Ev.step (f := fun k => (ebbtideref05_Arc.f k n l[i].f0 l[i].f1 l[i].f2 l[i].f3).bind fun t184 => if t184 = 0 then ebbtideref05_Check.l0 k ((i + 1 : Nat) : Int) n b l else some t184) (fun k => ?_) ?_
    · rw [ebbtideref05_Check.l0, if_pos (by omega), if_pos (by omega), rdA_of hlt, wrap1 (by omega)]
    · refine Ev.bind (rarc_ev n l[i]) ?_
      rw [List.drop_eq_getElem_cons hlt, firstErr]
      by_cases c : arcErr n l[i] = 0
      · simp only [c, if_true]
        exact ih (i + 1) (by omega)
      · simp only [c, if_false]
        exact Ev.now _
theorem nodes_eq (n : Int) : netfmt_nodes.f n = some (if n < 1 then 51 else if 50 < n then 2 else 0) := by
  unfold netfmt_nodes.f
  by_cases c : n < 1
  · rw [if_pos c, if_pos c]
  · rw [if_neg c, if_neg c]
    by_cases c2 : n > 50
    · rw [if_pos c2, if_pos c2]
    · rw [if_neg c2, if_neg c2]
theorem rnodes_eq (n : Int) : ebbtideref05_nodes.f n = some (if n < 1 then 51 else if 50 < n then 2 else 0) := nodes_eq n
theorem check_ev (n : Int) (b : Bool) (l : List S47) : Ev (fun k => netfmt_Check.f k n b l) (checkErr n l) := by
  unfold netfmt_Check.f checkErr
  rw [nodes_eq]
  simp only [Option.bind_some]
  by_cases c : n < 1
  · simp only [c, if_true, show ¬ (51 : Int) = 0 by decide, if_false]; exact Ev.now _
  · by_cases c2 : 50 < n
    · simp only [c, c2, if_true, if_false, show ¬ (2 : Int) = 0 by decide]; exact Ev.now _
    · simp only [c, c2, if_true, if_false]
      by_cases c3 : 200 < l.length
      · simp only [c3, if_true, show (l.length : Int) > 200 by omega]; exact Ev.now _
      · simp only [c3, if_false, show ¬ (l.length : Int) > 200 by omega]
        exact check_loop n b l (by omega) l.length 0 (by omega)
theorem rcheck_ev (n : Int) (b : Bool) (l : List S47) : Ev (fun k => ebbtideref05_Check.f k n b l) (checkErr n l) := by
  unfold ebbtideref05_Check.f checkErr
  rw [rnodes_eq]
  simp only [Option.bind_some]
  by_cases c : n < 1
  · simp only [c, if_true, show ¬ (51 : Int) = 0 by decide, if_false]; exact Ev.now _
  · by_cases c2 : 50 < n
    · simp only [c, c2, if_true, if_false, show ¬ (2 : Int) = 0 by decide]; exact Ev.now _
    · simp only [c, c2, if_true, if_false]
      by_cases c3 : 200 < l.length
      · simp only [c3, if_true, show (l.length : Int) > 200 by omega]; exact Ev.now _
      · simp only [c3, if_false, show ¬ (l.length : Int) > 200 by omega]
        exact rcheck_loop n b l (by omega) l.length 0 (by omega)
theorem mn_neg {s t : Int} : mn s t < 0 ↔ s < 0 ∨ t < 0 := by unfold mn; split <;> omega
theorem mx_ge {s t n : Int} : mx s t ≥ n ↔ n ≤ s ∨ n ≤ t := by unfold mx; split <;> omega
theorem ends_ev (n : Int) (b : Bool) (l : List S47) (s t : Int) : Ev (fun k => static_Ends.f k n b l s t) (endsErr n l s t) := by
  unfold static_Ends.f endsErr
  refine Ev.bind (check_ev n b l) ?_
  by_cases c : checkErr n l = 0
  · simp only [c, if_true]
    refine ev_cst fun _ => ?_
    by_cases c1 : mn s t < 0
    · rw [if_pos c1, if_pos (by have := mn_neg.1 c1; omega)]
    · rw [if_neg c1]
      have h1 : ¬ (s < 0 ∨ t < 0) := fun h => c1 (mn_neg.2 h)
      by_cases c2 : mx s t ≥ n
      · rw [if_pos c2, if_pos (by have := mx_ge.1 c2; omega)]
      · rw [if_neg c2]
        have h2 : ¬ (n ≤ s ∨ n ≤ t) := fun h => c2 (mx_ge.2 h)
        by_cases c3 : s = t
        · rw [if_pos c3, if_pos (by omega)]
        · rw [if_neg c3, if_neg (by omega)]
  · simp only [c, if_false]
    exact Ev.now _
theorem rends_ev (n : Int) (b : Bool) (l : List S47) (s t : Int) : Ev (fun k => ebbtideref07_Ends.f k n b l s t) (endsErr n l s t) := by
  unfold ebbtideref07_Ends.f endsErr
  refine Ev.bind (rcheck_ev n b l) ?_
  by_cases c : checkErr n l = 0
  · simp only [c, if_true]
    have hnode : ∀ v, ebbtideref06_Node.f n b l v = some (decide (0 ≤ v ∧ v < n)) := by
      intro v
      unfold ebbtideref06_Node.f
      by_cases c1 : v ≥ 0
      · rw [if_pos c1]; congr 1; rw [decide_eq_decide]; omega
      · rw [if_neg c1]; congr 1; symm; rw [decide_eq_false_iff_not]; omega
    refine ev_cst fun _ => ?_
    rw [hnode, hnode]
    simp only [Option.bind_some, decide_eq_true_eq]
    by_cases c1 : 0 ≤ s ∧ s < n
    · rw [if_pos c1]
      by_cases c2 : 0 ≤ t ∧ t < n
      · rw [if_pos c2]
        by_cases c3 : s = t
        · rw [if_pos c3, if_pos (by omega)]
        · rw [if_neg c3, if_neg (by omega)]
      · rw [if_neg c2, if_pos (by omega)]
    · rw [if_neg c1, if_pos (by omega)]
  · simp only [c, if_false]
    exact Ev.now _
theorem horizon_eq (h : Int) : span_Horizon.f h = some (spanErr h) := by
  unfold span_Horizon.f spanErr
  by_cases c : h < 0
  · rw [if_pos c, if_pos c]
  · rw [if_neg c, if_neg c]
    by_cases c2 : h > 1024
    · rw [if_pos c2, if_pos c2]
    · rw [if_neg c2, if_neg c2]
theorem rspan_eq (h : Int) : ebbtideref12_Span.f h = some (spanErr h) := horizon_eq h
theorem asked_ev (n : Int) (b : Bool) (l : List S47) (s t h : Int) : Ev (fun k => span_Asked.f k n b l s t h) (askErr n l s t h) := by
  unfold span_Asked.f askErr
  refine Ev.bind (ends_ev n b l s t) ?_
  by_cases c : endsErr n l s t = 0
  · simp only [c, if_true, horizon_eq, Option.bind_some]; exact Ev.now _
  · simp only [c, if_false]; exact Ev.now _
theorem rasked_ev (n : Int) (b : Bool) (l : List S47) (s t h : Int) : Ev (fun k => ebbtideref12_Asked.f k n b l s t h) (askErr n l s t h) := by
  unfold ebbtideref12_Asked.f askErr
  refine Ev.bind (rends_ev n b l s t) ?_
  by_cases c : endsErr n l s t = 0
  · simp only [c, if_true, rspan_eq, Option.bind_some]; exact Ev.now _
  · simp only [c, if_false]; exact Ev.now _
end Go.Proofs.Ytdghehebkalbgaa.P
end
