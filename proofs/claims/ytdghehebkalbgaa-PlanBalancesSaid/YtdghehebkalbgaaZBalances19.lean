/- Parts of the proof: words, plain functions and contracts of the law's functions. Conditions: none. -/
import Derived.Test.YtdghehebkalbgaaZBalances4
import Derived.Test.YtdghehebkalbgaaZBalances18
import Derived.Test.YtdghehebkalbgaaZBalances16
import Derived.Test.YtdghehebkalbgaaZBalances7
import Derived.Test.YtdghehebkalbgaaZBalances10
import Derived.Test.YtdghehebkalbgaaZBalances11
import Derived.Test.YtdghehebkalbgaaZBalances12
import Derived.Test.YtdghehebkalbgaaZBalances8
import Derived.Test.YtdghehebkalbgaaZBalances9
import Derived.Test.YtdghehebkalbgaaZBalances13
import Derived.Test.YtdghehebkalbgaaZBalances14
section
namespace Go.Proofs.Ytdghehebkalbgaa.P
open Go.RowKit Go.Proofs.Ytdghehebkalbgaa.Q Go.Proofs.YtdghehebkalbgaaW.PrintWords Go.Proofs.YtdghehebkalbgaaW.PrintLast Go.Proofs.YtdghehebkalbgaaW.PrintMore
theorem w64_id {n : Int} (h0 : -9223372036854775808 ≤ n) (h1 : n ≤ 9223372036854775807) : wrap64 n = n := by unfold wrap64; omega
theorem csum_eq {l : List Int} (hl : l.length ≤ 1152921504606846976) (hw : ∀ x ∈ l, -9223372036854775808 ≤ x ∧ x ≤ 9223372036854775807) : checked_Sum.f l = some (sumFit l.sum) := by
  unfold checked_Sum.f
  rw [if_pos]
  simp only [sumOk, Bool.and_eq_true, List.all_eq_true, decide_eq_true_eq]
  exact ⟨hw, hl⟩
end Go.Proofs.Ytdghehebkalbgaa.P
end
section
namespace Go.Proofs.Ytdghehebkalbgaa.P
open Go.Sort hiding rd
open Go.RowKit Go.Proofs.Ytdghehebkalbgaa.Q Go.Proofs.YtdghehebkalbgaaW.PrintWords Go.Proofs.YtdghehebkalbgaaW.PrintLast Go.Proofs.YtdghehebkalbgaaW.PrintMore
theorem ev_const {α : Type} {g : Nat → Option α} {r : α} (h : ∀ k, g (k + 1) = some r) : Ev g r := Ev.step h (Ev.now r)
def OkM (x : S45) : Prop := fits x.f0 ∧ fits x.f1 ∧ fits x.f2
theorem w1 {i : Nat} (h : i ≤ 4611686018427387904) : wrap64 ((i : Int) + 1) = ((i + 1 : Nat) : Int) := by unfold wrap64; omega
theorem rd_row {V : Nat} {g : Nat → Int} {i : Nat} (h : i < V) : rd (row V g) (i : Int) = g i := by unfold rd; rw [Int.toNat_natCast, row_getD _ _ _ h]
theorem rd_of {l : List Int} {i : Nat} (h : i < l.length) : rd l (i : Int) = l[i] := by unfold rd; simp [List.getD_eq_getElem?_getD, List.getElem?_eq_getElem h]
theorem rdM_of {l : List S45} {i : Nat} (h : i < l.length) : rd_T45 l (i : Int) = l[i] := by unfold rd_T45; simp [List.getD_eq_getElem?_getD, List.getElem?_eq_getElem h]
theorem rdL_of {l : List (List Int)} {i : Nat} (h : i < l.length) : rd_L3 l (i : Int) = l[i] := by unfold rd_L3; simp [List.getD_eq_getElem?_getD, List.getElem?_eq_getElem h]
theorem total_ev (l : List S45) (g : List Int) (hg : ∀ j ∈ g, 0 ≤ j ∧ j < (l.length : Int)) (hlen : g.length ≤ 1048576) (hl : ∀ x ∈ l, fits x.f2) :
    Ev (fun k => api_Move_41.f k l g) (sumFit ((g.map fun j => (l.getD j.toNat z45).f2).sum)) := by
  have hloop : ∀ (d i : Nat), i + d = g.length → Ev (fun k => api_Move_41.l0 k l (row g.length (fun j => if j < i then (rd_T45 l (g.getD j 0)).f2 else 0)) g (g.length : Int) (i : Int)) (sumFit ((g.map fun j => (l.getD j.toNat z45).f2).sum)) := by
    intro d
    induction d with
    | zero =>
      intro i hi
      have e : row g.length (fun j => if j < i then (rd_T45 l (g.getD j 0)).f2 else 0) = g.map fun j => (l.getD j.toNat z45).f2 := by
        apply List.ext_getElem?
        intro j
        rcases Nat.lt_or_ge j g.length with hj | hj
        · rw [row_get? _ _ _ hj, if_pos (by omega), List.getElem?_map, List.getElem?_eq_getElem hj, List.getD_eq_getElem?_getD, List.getElem?_eq_getElem hj]; rfl
        · rw [row_none _ _ _ hj, List.getElem?_eq_none (by rw [List.length_map]; exact hj)]
      have hs : checked_Sum.f (g.map fun j => (l.getD j.toNat z45).f2) = some (sumFit ((g.map fun j => (l.getD j.toNat z45).f2).sum)) := by
        refine csum_eq (by rw [List.length_map]; omega) (fun x hx => ?_)
        obtain ⟨j, hj, rfl⟩ := List.mem_map.1 hx
        have h1 := hg j hj
        have h2 : j.toNat < l.length := by omega
        rw [List.getD_eq_getElem?_getD, List.getElem?_eq_getElem h2]
        exact hl _ (List.getElem_mem h2)
      exact ev_const fun k => by rw [api_Move_41.l0, if_neg (by omega), e, hs]; rfl
    | succ d ih =>
      intro i hi
      have hlt : i < g.length := by omega
      have h1 := hg g[i] (List.getElem_mem hlt)
      have hlen2 := row_length g.length (fun j => if j < i then (rd_T45 l (g.getD j 0)).f2 else 0)
      refine Ev.step (fun k => ?_) (ih (i + 1) (by omega))
      rw [api_Move_41.l0, if_pos (by omega), if_pos (by omega), if_pos (by omega), rd_of hlt, if_pos h1.1, if_pos h1.2]
      simp only [table_Moves_2.f, Option.bind_some]
      rw [if_pos (by rw [hlen2]; omega), Int.toNat_natCast, row_set, w1 (by omega)]
      congr 1
      refine row_ext fun j hj => ?_
      by_cases c : j = i
      · subst c
        rw [if_pos rfl, if_pos (by omega), List.getD_eq_getElem?_getD, List.getElem?_eq_getElem hlt]; rfl
      · rw [if_neg c]
        by_cases c2 : j < i
        · rw [if_pos c2, if_pos (by omega)]
        · rw [if_neg c2, if_neg (by omega)]
  have h0 := hloop g.length 0 (by omega)
  refine Ev.congr (fun k => ?_) h0
  have e : row g.length (fun j => if j < 0 then (rd_T45 l (g.getD j 0)).f2 else 0) = row g.length (fun _ => (0 : Int)) := row_ext fun j _ => by rw [if_neg (by omega)]
  rw [e]
  unfold api_Move_41.f
  rw [if_pos (by omega), if_pos (by omega), Int.toNat_natCast, row_replicate]
  rfl
def rawOf (l : List S45) (K : List (Int × Int)) : List S45 := K.filterMap fun k => if msum l k = 0 then none else some ⟨k.1, k.2, msum l k⟩
noncomputable def mergeL (l : List S45) : List S45 := srtL cfMove (rawOf l (keysOf keyM l))
noncomputable def mergeR (l : List S45) : List S45 × Int := if AllFit l then (mergeL l, 0) else ([], 10)
theorem sumFit_pos {n : Int} (h : fits n) : sumFit n = (n, true) := by unfold sumFit; exact if_pos h
theorem sumFit_neg {n : Int} (h : ¬ fits n) : sumFit n = (0, false) := by unfold sumFit; exact if_neg h
theorem total_group (l : List S45) (hlen : l.length ≤ 1048576) (hl : ∀ x ∈ l, OkM x) (k : Int × Int) : Ev (fun n => api_Move_41.f n l (idxs keyM l k)) (sumFit (msum l k)) := by
  have h := total_ev l (idxs keyM l k) (idxs_bd keyM l k) (Nat.le_trans (idxs_length_le keyM l k) hlen) (fun x hx => (hl x hx).2.2)
  rw [idxs_vals keyM S45.f2 l k z45] at h
  exact h
theorem rawOf_length (l : List S45) (K : List (Int × Int)) : (rawOf l K).length ≤ K.length := List.length_filterMap_le _ _
def FitAll (l : List S45) (K : List (Int × Int)) : Prop := ∀ k ∈ K, fits (msum l k)
noncomputable instance (l : List S45) (K : List (Int × Int)) : Decidable (FitAll l K) := Classical.propDecidable _
theorem moves_loop (l : List S45) (hlen : l.length ≤ 1048576) (hl : ∀ x ∈ l, OkM x) (d : Nat) : ∀ (i : Nat), i + d = (keysOf keyM l).length →
    Ev (fun k => table_Moves.l0 k l (rawOf l ((keysOf keyM l).take i)) (groups keyM l) ((groups keyM l).length : Int) (i : Int))
      (if FitAll l ((keysOf keyM l).drop i) then (mergeL l, 0) else ([], 10)) := by
  have hkl := keysOf_length_le keyM l
  induction d with
  | zero =>
    intro i hi
    rw [List.drop_eq_nil_of_le (by omega), if_pos (by intro k hk; cases hk), List.take_of_length_le (by omega)]
    refine ev_const fun k => ?_
    rw [table_Moves.l0, if_neg (by rw [groups_length]; omega)]
    unfold api_Move_43.f
    have := rawOf_length l (keysOf keyM l)
    rw [if_pos (by omega)]
    rfl
  | succ d ih =>
    intro i hi
    have hlt : i < (keysOf keyM l).length := by omega
    have hlg : i < (groups keyM l).length := by rw [groups_length]; exact hlt
    obtain ⟨key, hkey⟩ : ∃ key, (keysOf keyM l)[i]? = some key := ⟨_, List.getElem?_eq_getElem hlt⟩
    have hmem := List.mem_of_getElem? hkey
    have hgi : rd_L3 (groups keyM l) (i : Int) = idxs keyM l key := by
      have h2 := groups_get keyM l i key hkey
      rw [rdL_of hlg]
      rw [List.getElem?_eq_getElem hlg] at h2
      exact Option.some.inj h2
    have hne := idxs_ne keyM l key ((mem_keysOf _ _ _).1 hmem)
    have hpos : 0 < (idxs keyM l key).length := List.length_pos_iff.2 hne
    have hmem0 : rd (idxs keyM l key) 0 ∈ idxs keyM l key := by
      have := rd_of hpos
      rw [show ((0 : Nat) : Int) = 0 from rfl] at this
      rw [this]
      exact List.getElem_mem hpos
    have hb := idxs_bd keyM l key _ hmem0
    have hk0 := idxs_key keyM l key z45 _ hmem0
    have ht := total_group l hlen hl key
    have hdrop : (keysOf keyM l).drop i = key :: (keysOf keyM l).drop (i + 1) := by
      rw [List.drop_eq_getElem_cons hlt]
      rw [List.getElem?_eq_getElem hlt] at hkey
      rw [Option.some.inj hkey]
    have htake : (keysOf keyM l).take (i + 1) = (keysOf keyM l).take i ++ [key] := by
      rw [List.take_succ_eq_append_getElem hlt]
      rw [List.getElem?_eq_getElem hlt] at hkey
      rw [Option.some.inj hkey]
    have hraw : (rawOf l ((keysOf keyM l).take i)).length ≤ l.length := by
      have h1 := rawOf_length l ((keysOf keyM l).take i)
      rw [List.length_take] at h1
      omega
    have hstep : ∀ k, table_Moves.l0 (k + 1) l (rawOf l ((keysOf keyM l).take i)) (groups keyM l) ((groups keyM l).length : Int) (i : Int) =
        (api_Move_41.f k l (idxs keyM l key)).bind fun bt => if bt.2 = true then (if bt.1 = 0 then table_Moves.l0 k l (rawOf l ((keysOf keyM l).take i)) (groups keyM l) ((groups keyM l).length : Int) ((i + 1 : Nat) : Int) else table_Moves.l0 k l (rawOf l ((keysOf keyM l).take i) ++ [⟨key.1, key.2, bt.1⟩]) (groups keyM l) ((groups keyM l).length : Int) ((i + 1 : Nat) : Int)) else some ([], 10) := by
      intro k
      rw [table_Moves.l0, if_pos (by omega), if_pos (by omega), if_pos (by omega), hgi, if_pos (by omega), if_pos hb.1, if_pos hb.2]
      have hl9 : (rawOf l ((keysOf keyM l).take i)).length < 5864062014805 := by omega
      have hw9 : wrap64 ((i : Int) + 1) = ((i + 1 : Nat) : Int) := w1 (by omega)
      have e0 : (rd_T45 l (rd (idxs keyM l key) 0)).f0 = key.1 := congrArg Prod.fst hk0
      have e1 : (rd_T45 l (rd (idxs keyM l key) 0)).f1 = key.2 := congrArg Prod.snd hk0
      simp only [e0, e1, hl9, hw9, if_true]
    refine Ev.step hstep ?_
    refine Ev.bind ht ?_
    rw [hdrop]
    by_cases hf : fits (msum l key)
    · rw [sumFit_pos hf]
      have hif : (if FitAll l (key :: (keysOf keyM l).drop (i + 1)) then (mergeL l, (0 : Int)) else ([], 10)) = (if FitAll l ((keysOf keyM l).drop (i + 1)) then (mergeL l, 0) else ([], 10)) := by
        by_cases c : FitAll l ((keysOf keyM l).drop (i + 1))
        · rw [if_pos c, if_pos (by intro k hk; rcases List.mem_cons.1 hk with rfl | hk; exact hf; exact c k hk)]
        · rw [if_neg c, if_neg (fun h => c (fun k hk => h k (List.mem_cons_of_mem _ hk)))]
      rw [hif]
      have hi2 := ih (i + 1) (by omega)
      rw [htake] at hi2
      unfold rawOf at hi2
      rw [List.filterMap_append] at hi2
      simp only [if_true]
      by_cases hz : msum l key = 0
      · simp only [hz, if_true]
        simp only [List.filterMap_cons, hz, if_true, List.filterMap_nil, List.append_nil] at hi2
        exact hi2
      · simp only [hz, if_false]
        simp only [List.filterMap_cons, hz, if_false, List.filterMap_nil] at hi2
        exact hi2
    · rw [sumFit_neg hf, if_neg (fun h => hf (h key List.mem_cons_self))]
      exact Ev.now _
theorem okM_good {x : S45} (h : OkM x) : good2 (keyM x) = true := by
  obtain ⟨h0, h1, _⟩ := h
  unfold fits at h0 h1
  unfold good2 keyM
  rw [wf_i64 h0.1 h0.2, wf_i64 h1.1 h1.2]
  rfl
theorem moves_ev (l : List S45) (hlen : l.length ≤ 1048576) (hl : ∀ x ∈ l, OkM x) : Ev (fun k => table_Moves.f k l) (mergeR l) := by
  unfold table_Moves.f
  refine Ev.bind (a := groups keyM l) ⟨l.length + 1, fun k hk => gatherM_eq l hlen (fun x hx => okM_good (hl x hx)) (by omega)⟩ ?_
  have h := moves_loop l hlen hl (keysOf keyM l).length 0 (by omega)
  have e : (if FitAll l ((keysOf keyM l).drop 0) then (mergeL l, (0 : Int)) else ([], 10)) = mergeR l := by
    unfold mergeR
    by_cases c : AllFit l
    · rw [if_pos c, if_pos (show FitAll l ((keysOf keyM l).drop 0) from c)]
    · rw [if_neg c, if_neg (show ¬ FitAll l ((keysOf keyM l).drop 0) from c)]
  rw [e] at h
  exact h
theorem lt_move (x y : S45) : (ltOf cfMove x y = true) ↔ mlt x y := ltMove_eq x y
theorem mergeL_is (l : List S45) : IsMerge l (mergeL l) := by
  obtain ⟨hp, hs⟩ := srtL_spec swoMove (rawOf l (keysOf keyM l))
  have hmem : ∀ m, m ∈ mergeL l ↔ keyM m ∈ keysOf keyM l ∧ m.f2 = msum l (keyM m) ∧ m.f2 ≠ 0 := by
    intro m
    unfold mergeL
    rw [hp.mem_iff]
    unfold rawOf
    rw [List.mem_filterMap]
    constructor
    · rintro ⟨k, hk, he⟩
      split at he
      · cases he
      · rename_i hz
        injection he with he
        subst he
        exact ⟨hk, rfl, hz⟩
    · rintro ⟨h1, h2, h3⟩
      refine ⟨keyM m, h1, ?_⟩
      rw [if_neg (by rw [← h2]; exact h3), ← h2]
      rfl
  refine ⟨?_, hmem⟩
  have hnd : ((mergeL l).map keyM).Nodup := by
    have h1 : ((rawOf l (keysOf keyM l)).map keyM).Nodup := by
      have h2 : (rawOf l (keysOf keyM l)).map keyM = (keysOf keyM l).filter (fun k => decide (msum l k ≠ 0)) := by
        unfold rawOf
        generalize keysOf keyM l = K
        induction K with
        | nil => rfl
        | cons k K ih =>
          rw [List.filterMap_cons, List.filter_cons]
          by_cases hz : msum l k = 0
          · simp [hz, ih]
          · simp [hz, ih]; rfl
      rw [h2]
      exact (nodup_keysOf keyM l).sublist List.filter_sublist
    exact ((hp.map keyM).nodup_iff).2 h1
  have hpair : (mergeL l).Pairwise (fun x y => ltOf cfMove y x = false ∧ keyM x ≠ keyM y) := by
    rw [List.pairwise_and_iff]
    exact ⟨hs, by rw [List.Nodup, List.pairwise_map] at hnd; exact hnd⟩
  refine hpair.imp ?_
  rintro x y ⟨h1, h2⟩
  rw [← Bool.not_eq_true, lt_move] at h1
  have h3 : ¬ (x.f0 = y.f0 ∧ x.f1 = y.f1) := fun h => h2 (by unfold keyM; rw [h.1, h.2])
  unfold mlt at *
  omega
theorem mergeL_length (l : List S45) : (mergeL l).length ≤ l.length := by
  unfold mergeL
  rw [srtL_length swoMove]
  exact Nat.le_trans (rawOf_length _ _) (keysOf_length_le _ _)
end Go.Proofs.Ytdghehebkalbgaa.P
end
section
namespace Go.Proofs.Ytdghehebkalbgaa.P
open Go.RowKit Go.Proofs.Ytdghehebkalbgaa.Q Go.Proofs.YtdghehebkalbgaaW.PrintWords Go.Proofs.YtdghehebkalbgaaW.PrintLast Go.Proofs.YtdghehebkalbgaaW.PrintMore
theorem ev_cst {α : Type} {g : Nat → Option α} {r : α} (h : ∀ k, g (k + 1) = some r) : Ev g r := Ev.step h (Ev.now r)
theorem wrap1 {i : Nat} (h : i ≤ 4611686018427387904) : wrap64 ((i : Int) + 1) = ((i + 1 : Nat) : Int) := by unfold wrap64; omega
theorem rdA_of {l : List S47} {i : Nat} (h : i < l.length) : rd_T47 l (i : Int) = l[i] := by unfold rd_T47; simp [List.getD_eq_getElem?_getD, List.getElem?_eq_getElem h]
def arcErr (n : Int) (a : S47) : Int := if a.f0 < 0 ∨ a.f1 < 0 ∨ a.f2 < 0 ∨ a.f3 < 0 ∨ n ≤ a.f0 ∨ n ≤ a.f1 then 51 else if 1048576 < a.f2 ∨ 1048576 < a.f3 then 2 else 0
def firstErr (n : Int) : List S47 → Int
  | [] => 0
  | a :: r => if arcErr n a = 0 then firstErr n r else arcErr n a
def checkErr (n : Int) (l : List S47) : Int := if n < 1 then 51 else if 50 < n then 2 else if 200 < l.length then 2 else firstErr n l
def endsErr (n : Int) (l : List S47) (s t : Int) : Int := if checkErr n l = 0 then (if s < 0 ∨ t < 0 ∨ n ≤ s ∨ n ≤ t ∨ s = t then 70 else 0) else checkErr n l
def spanErr (h : Int) : Int := if h < 0 then 1 else if 1024 < h then 2 else 0
def askErr (n : Int) (l : List S47) (s t h : Int) : Int := if endsErr n l s t = 0 then spanErr h else endsErr n l s t
structure ArcOk (n : Int) (a : S47) : Prop where
  f0 : 0 ≤ a.f0 ∧ a.f0 < n
  f1 : 0 ≤ a.f1 ∧ a.f1 < n
  f2 : 0 ≤ a.f2 ∧ a.f2 ≤ 1048576
  f3 : 0 ≤ a.f3 ∧ a.f3 ≤ 1048576
theorem arcErr_ok {n : Int} {a : S47} : arcErr n a = 0 ↔ ArcOk n a := by
  unfold arcErr
  constructor
  · intro h
    split at h
    · cases h
    · split at h
      · cases h
      · exact ⟨by omega, by omega, by omega, by omega⟩
  · rintro ⟨h0, h1, h2, h3⟩
    rw [if_neg (by omega), if_neg (by omega)]
theorem firstErr_ok {n : Int} {l : List S47} : firstErr n l = 0 ↔ ∀ a ∈ l, ArcOk n a := by
  induction l with
  | nil => simp [firstErr]
  | cons a l ih =>
    rw [firstErr]
    by_cases h : arcErr n a = 0
    · rw [if_pos h, ih]
      constructor
      · intro h2 x hx
        rcases List.mem_cons.1 hx with rfl | hx
        · exact arcErr_ok.1 h
        · exact h2 x hx
      · intro h2 x hx; exact h2 x (List.mem_cons_of_mem _ hx)
    · rw [if_neg h]
      constructor
      · intro h2; exact absurd h2 h
      · intro h2; exact absurd (arcErr_ok.2 (h2 a List.mem_cons_self)) h
structure NetOk (n : Int) (l : List S47) : Prop where
  lo : 1 ≤ n
  hi : n ≤ 50
  len : l.length ≤ 200
  arcs : ∀ a ∈ l, ArcOk n a
theorem checkErr_ok {n : Int} {l : List S47} : checkErr n l = 0 ↔ NetOk n l := by
  unfold checkErr
  constructor
  · intro h
    split at h
    · cases h
    · split at h
      · cases h
      · split at h
        · cases h
        · exact ⟨by omega, by omega, by omega, firstErr_ok.1 h⟩
  · rintro ⟨h0, h1, h2, h3⟩
    rw [if_neg (by omega), if_neg (by omega), if_neg (by omega)]
    exact firstErr_ok.2 h3
theorem askErr_ok {n : Int} {l : List S47} {s t h : Int} : askErr n l s t h = 0 ↔ NetOk n l ∧ 0 ≤ s ∧ s < n ∧ 0 ≤ t ∧ t < n ∧ s ≠ t ∧ 0 ≤ h ∧ h ≤ 1024 := by
  unfold askErr endsErr spanErr
  by_cases hc : checkErr n l = 0
  · rw [if_pos hc]
    have hn := checkErr_ok.1 hc
    by_cases hs : s < 0 ∨ t < 0 ∨ n ≤ s ∨ n ≤ t ∨ s = t
    · rw [if_pos hs, if_neg (by decide)]
      constructor
      · intro h; cases h
      · rintro ⟨_, h⟩; omega
    · rw [if_neg hs, if_pos rfl]
      constructor
      · intro h2
        refine ⟨hn, by omega, by omega, by omega, by omega, by omega, ?_, ?_⟩
        · by_cases c : h < 0
          · rw [if_pos c] at h2; cases h2
          · omega
        · by_cases c : h < 0
          · rw [if_pos c] at h2; cases h2
          · rw [if_neg c] at h2
            by_cases c2 : 1024 < h
            · rw [if_pos c2] at h2; cases h2
            · omega
      · rintro ⟨_, _, _, _, _, _, h5, h6⟩
        rw [if_neg (by omega), if_neg (by omega)]
  · rw [if_neg hc, if_neg hc]
    constructor
    · intro h; exact absurd h hc
    · rintro ⟨h, _⟩; exact absurd (checkErr_ok.2 h) hc
theorem arc_ev (n : Int) (a : S47) : Ev (fun k => netfmt_arc.f k n a.f0 a.f1 a.f2 a.f3) (arcErr n a) := by
  refine ev_cst fun k => ?_
  unfold netfmt_arc.f arcErr
  by_cases c : mn (mn (mn a.f0 a.f1) a.f2) a.f3 < 0
  · rw [if_pos c, netfmt_arc.j0, if_pos rfl, if_pos (by unfold mn at c; (repeat' split at c) <;> omega)]
  · rw [if_neg c, netfmt_arc.j0]
    have hc : 0 ≤ a.f0 ∧ 0 ≤ a.f1 ∧ 0 ≤ a.f2 ∧ 0 ≤ a.f3 := by unfold mn at c; (repeat' split at c) <;> omega
    by_cases c2 : mx a.f0 a.f1 ≥ n
    · rw [decide_eq_true c2, if_pos rfl, if_pos (by unfold mx at c2; split at c2 <;> omega)]
    · rw [decide_eq_false c2, if_neg (by decide)]
      have hc2 : a.f0 < n ∧ a.f1 < n := by unfold mx at c2; split at c2 <;> omega
      rw [if_neg (show ¬ (a.f0 < 0 ∨ a.f1 < 0 ∨ a.f2 < 0 ∨ a.f3 < 0 ∨ n ≤ a.f0 ∨ n ≤ a.f1) by omega)]
      by_cases c3 : a.f2 > 1048576
      · rw [if_pos c3, if_pos (by omega)]
      · rw [if_neg c3]
        by_cases c4 : a.f3 > 1048576
        · rw [if_pos c4, if_pos (by omega)]
        · rw [if_neg c4, if_neg (by omega)]
theorem check_loop (n : Int) (b : Bool) (l : List S47) (hl : l.length ≤ 200) (d : Nat) : ∀ i, i + d = l.length → Ev (fun k => netfmt_Check.l0 k l (l.length : Int) (i : Int) n b l) (firstErr n (l.drop i)) := by
  induction d with
  | zero =>
    intro i hi
    rw [List.drop_eq_nil_of_le (by omega)]
    exact ev_cst fun k => by rw [netfmt_Check.l0, if_neg (by omega)]; rfl
  | succ d ih =>
    intro i hi
    have hlt : i < l.length := by omega
    refine Ev.step (f := fun k => (netfmt_arc.f k n l[i].f0 l[i].f1 l[i].f2 l[i].f3).bind fun t173 => if t173 = 0 then netfmt_Check.l0 k l (l.length : Int) ((i + 1 : Nat) : Int) n b l else some t173) (fun k => ?_) ?_
    · rw [netfmt_Check.l0, if_pos (by omega), if_pos (by omega), if_pos (by omega), rdA_of hlt, wrap1 (by omega)]
    · refine Ev.bind (arc_ev n l[i]) ?_
      rw [List.drop_eq_getElem_cons hlt, firstErr]
      by_cases c : arcErr n l[i] = 0
      · simp only [c, if_true]
        exact ih (i + 1) (by omega)
      · simp only [c, if_false]
        exact Ev.now _
theorem nodes_eq (n : Int) : netfmt_nodes.f n = some (if n < 1 then 51 else if 50 < n then 2 else 0) := by
  unfold netfmt_nodes.f
  by_cases c : n < 1
  · rw [if_pos c, if_pos c]
  · rw [if_neg c, if_neg c]
    by_cases c2 : n > 50
    · rw [if_pos c2, if_pos c2]
    · rw [if_neg c2, if_neg c2]
theorem check_ev (n : Int) (b : Bool) (l : List S47) : Ev (fun k => netfmt_Check.f k n b l) (checkErr n l) := by
  unfold netfmt_Check.f checkErr
  rw [nodes_eq]
  simp only [Option.bind_some]
  by_cases c : n < 1
  · simp only [c, if_true, show ¬ (51 : Int) = 0 by decide, if_false]; exact Ev.now _
  · by_cases c2 : 50 < n
    · simp only [c, c2, if_true, if_false, show ¬ (2 : Int) = 0 by decide]; exact Ev.now _
    · simp only [c, c2, if_true, if_false]
      by_cases c3 : 200 < l.length
      · simp only [c3, if_true, show (l.length : Int) > 200 by omega]; exact Ev.now _
      · simp only [c3, if_false, show ¬ (l.length : Int) > 200 by omega]
        exact check_loop n b l (by omega) l.length 0 (by omega)
theorem mn_neg {s t : Int} : mn s t < 0 ↔ s < 0 ∨ t < 0 := by unfold mn; split <;> omega
theorem mx_ge {s t n : Int} : mx s t ≥ n ↔ n ≤ s ∨ n ≤ t := by unfold mx; split <;> omega
theorem ends_ev (n : Int) (b : Bool) (l : List S47) (s t : Int) : Ev (fun k => static_Ends.f k n b l s t) (endsErr n l s t) := by
  unfold static_Ends.f endsErr
  refine Ev.bind (check_ev n b l) ?_
  by_cases c : checkErr n l = 0
  · simp only [c, if_true]
    refine ev_cst fun _ => ?_
    by_cases c1 : mn s t < 0
    · rw [if_pos c1, if_pos (by have := mn_neg.1 c1; omega)]
    · rw [if_neg c1]
      have h1 : ¬ (s < 0 ∨ t < 0) := fun h => c1 (mn_neg.2 h)
      by_cases c2 : mx s t ≥ n
      · rw [if_pos c2, if_pos (by have := mx_ge.1 c2; omega)]
      · rw [if_neg c2]
        have h2 : ¬ (n ≤ s ∨ n ≤ t) := fun h => c2 (mx_ge.2 h)
        by_cases c3 : s = t
        · rw [if_pos c3, if_pos (by omega)]
        · rw [if_neg c3, if_neg (by omega)]
  · simp only [c, if_false]
    exact Ev.now _
theorem horizon_eq (h : Int) : span_Horizon.f h = some (spanErr h) := by
  unfold span_Horizon.f spanErr
  by_cases c : h < 0
  · rw [if_pos c, if_pos c]
  · rw [if_neg c, if_neg c]
    by_cases c2 : h > 1024
    · rw [if_pos c2, if_pos c2]
    · rw [if_neg c2, if_neg c2]
theorem asked_ev (n : Int) (b : Bool) (l : List S47) (s t h : Int) : Ev (fun k => span_Asked.f k n b l s t h) (askErr n l s t h) := by
  unfold span_Asked.f askErr
  refine Ev.bind (ends_ev n b l s t) ?_
  by_cases c : endsErr n l s t = 0
  · simp only [c, if_true, horizon_eq, Option.bind_some]; exact Ev.now _
  · simp only [c, if_false]; exact Ev.now _
end Go.Proofs.Ytdghehebkalbgaa.P
end
section
namespace Go.Proofs.Ytdghehebkalbgaa.P
open Go.RowKit Go.Proofs.Ytdghehebkalbgaa.Q Go.Proofs.YtdghehebkalbgaaW.PrintWords Go.Proofs.YtdghehebkalbgaaW.PrintLast Go.Proofs.YtdghehebkalbgaaW.PrintMore
theorem w64 {n : Int} (h0 : -4611686018427387904 ≤ n) (h1 : n ≤ 4611686018427387904) : wrap64 n = n := by unfold wrap64; omega
def arcAt (arcs : List S47) (j : Int) : S47 := rd_T47 arcs j
theorem arcAt_ok {n : Int} {arcs : List S47} (hn : NetOk n arcs) {j : Int} (h0 : 0 ≤ j) (h1 : j < arcs.length) : ArcOk n (arcAt arcs j) := by
  have hlt : j.toNat < arcs.length := by omega
  have e : arcAt arcs j = arcs[j.toNat] := by unfold arcAt rd_T47; simp [List.getD_eq_getElem?_getD, List.getElem?_eq_getElem hlt]
  rw [e]
  exact hn.arcs _ (List.getElem_mem hlt)
structure May (arcs : List S47) (s t h : Int) (m : S45) : Prop where
  a0 : 0 ≤ m.f0
  a1 : m.f0 < arcs.length
  b0 : 0 ≤ m.f1
  c0 : 0 ≤ m.f2
  b1 : m.f1 + (arcAt arcs m.f0).f3 ≤ h
  c1 : m.f2 ≤ (arcAt arcs m.f0).f2
  e1 : (arcAt arcs m.f0).f1 ≠ s
  e0 : (arcAt arcs m.f0).f0 ≠ t
noncomputable instance (arcs : List S47) (s t h : Int) (m : S45) : Decidable (May arcs s t h m) := Classical.propDecidable _
theorem may_eq {n : Int} {b : Bool} {arcs : List S47} {s t h : Int} (hn : NetOk n arcs) (hh : 0 ≤ h ∧ h ≤ 1024) (m : S45) : plan_may.f n b arcs s t h m.f0 m.f1 m.f2 = some (decide (May arcs s t h m)) := by
  unfold plan_may.f
  by_cases c1 : m.f0 < 0
  · rw [if_pos c1, decide_eq_false (fun hm => by have := hm.a0; omega)]
  rw [if_neg c1]
  by_cases c2 : m.f0 ≥ (arcs.length : Int)
  · rw [if_pos c2, decide_eq_false (fun hm => by have := hm.a1; omega)]
  rw [if_neg c2]
  have ha := arcAt_ok hn (show 0 ≤ m.f0 by omega) (show m.f0 < arcs.length by omega)
  have h3 := ha.f3
  by_cases c3 : m.f1 < 0
  · rw [if_pos c3, decide_eq_false (fun hm => by have := hm.b0; omega)]
  rw [if_neg c3]
  by_cases c4 : m.f1 > h
  · rw [if_pos c4, decide_eq_false (fun hm => by have := hm.b1; omega)]
  rw [if_neg c4]
  by_cases c5 : m.f2 < 0
  · rw [if_pos c5, decide_eq_false (fun hm => by have := hm.c0; omega)]
  rw [if_neg c5, if_pos (by omega), if_pos (by omega)]
  have ew : wrap64 (m.f1 + (rd_T47 arcs m.f0).f3) = m.f1 + (arcAt arcs m.f0).f3 := w64 (show _ ≤ m.f1 + (arcAt arcs m.f0).f3 by omega) (show m.f1 + (arcAt arcs m.f0).f3 ≤ _ by omega)
  rw [ew]
  by_cases c6 : m.f1 + (arcAt arcs m.f0).f3 ≤ h
  · rw [if_pos c6]
    by_cases c7 : m.f2 ≤ (arcAt arcs m.f0).f2
    · rw [if_pos (show m.f2 ≤ (rd_T47 arcs m.f0).f2 from c7)]
      by_cases c8 : (arcAt arcs m.f0).f1 = s
      · rw [if_pos (show (rd_T47 arcs m.f0).f1 = s from c8), decide_eq_false (fun hm => hm.e1 c8)]
      · rw [if_neg (show ¬ (rd_T47 arcs m.f0).f1 = s from c8)]
        by_cases c9 : (arcAt arcs m.f0).f0 = t
        · rw [decide_eq_false (fun hm => hm.e0 c9)]
          have : (rd_T47 arcs m.f0).f0 = t := c9
          simp [this]
        · rw [decide_eq_true (⟨by omega, by omega, by omega, by omega, c6, c7, c8, c9⟩ : May arcs s t h m)]
          have : ¬ (rd_T47 arcs m.f0).f0 = t := c9
          simp [this]
    · rw [if_neg (show ¬ m.f2 ≤ (rd_T47 arcs m.f0).f2 from c7), decide_eq_false (fun hm => c7 hm.c1)]
  · rw [if_neg c6, decide_eq_false (fun hm => c6 hm.b1)]
def AllMay (arcs : List S47) (s t h : Int) (L : List S45) : Prop := ∀ m ∈ L, May arcs s t h m
noncomputable instance (arcs : List S47) (s t h : Int) (L : List S45) : Decidable (AllMay arcs s t h L) := Classical.propDecidable _
noncomputable def mergedR (n : Int) (arcs : List S47) (s t h : Int) (l : List S45) : List S45 × Int :=
  if askErr n arcs s t h = 0 then (if AllFit l then (if AllMay arcs s t h (mergeL l) then (mergeL l, 0) else ([], 140)) else ([], 10)) else ([], askErr n arcs s t h)
section
variable {n : Int} {b : Bool} {arcs : List S47} {s t h : Int} {l : List S45} (hlen : l.length ≤ 1048576) (hl : ∀ x ∈ l, OkM x)
theorem merged_loop (hn : NetOk n arcs) (hh : 0 ≤ h ∧ h ≤ 1024) (M : List S45) (hM : M.length ≤ 1048576) (d : Nat) : ∀ i, i + d = M.length → Ev (fun k => plan_merged.l0 k s t h M M (M.length : Int) (i : Int) n b arcs) (if AllMay arcs s t h (M.drop i) then (M, (0 : Int)) else ([], 140)) := by
  induction d with
  | zero =>
    intro i hi
    rw [List.drop_eq_nil_of_le (by omega), if_pos (by intro m hm; cases hm)]
    exact ev_cst fun k => by rw [plan_merged.l0, if_neg (by omega)]
  | succ d ih =>
    intro i hi
    have hlt : i < M.length := by omega
    refine Ev.step (f := fun k => if May arcs s t h M[i] then plan_merged.l0 k s t h M M (M.length : Int) ((i + 1 : Nat) : Int) n b arcs else some ([], 140)) (fun k => ?_) ?_
    · rw [plan_merged.l0, if_pos (by omega), if_pos (by omega), if_pos (by omega), rdM_of hlt, may_eq hn hh, wrap1 (by omega)]
      simp only [Option.bind_some, decide_eq_true_eq]
    · rw [List.drop_eq_getElem_cons hlt]
      by_cases c : May arcs s t h M[i]
      · simp only [c, if_true]
        have e : (if AllMay arcs s t h (M[i] :: M.drop (i + 1)) then (M, (0 : Int)) else ([], 140)) = (if AllMay arcs s t h (M.drop (i + 1)) then (M, (0 : Int)) else ([], 140)) := by
          by_cases c2 : AllMay arcs s t h (M.drop (i + 1))
          · rw [if_pos c2, if_pos (by intro m hm; rcases List.mem_cons.1 hm with rfl | hm; exact c; exact c2 m hm)]
          · rw [if_neg c2, if_neg (fun h => c2 (fun m hm => h m (List.mem_cons_of_mem _ hm)))]
        rw [e]
        exact ih (i + 1) (by omega)
      · simp only [c, if_false]
        rw [if_neg (fun h => c (h _ List.mem_cons_self))]
        exact Ev.now _
include hlen hl
theorem merged_ev : Ev (fun k => plan_merged.f k n b arcs s t h l) (mergedR n arcs s t h l) := by
  unfold plan_merged.f mergedR
  refine Ev.bind (asked_ev n b arcs s t h) ?_
  by_cases c : askErr n arcs s t h = 0
  · obtain ⟨hn, _, _, _, _, _, hh⟩ := askErr_ok.1 c
    simp only [c, if_true]
    refine Ev.bind (moves_ev l hlen hl) ?_
    unfold mergeR
    by_cases c2 : AllFit l
    · simp only [c2, if_true]
      exact merged_loop hn hh (mergeL l) (Nat.le_trans (mergeL_length l) hlen) (mergeL l).length 0 (by omega)
    · simp only [c2, if_false]
      exact Ev.now _
  · simp only [c, if_false]
    exact Ev.now _
end
def cIn (arcs : List S47) (v a : Int) (k : Int × Int) : Int := if (arcAt arcs k.1).f1 = v ∧ k.2 + (arcAt arcs k.1).f3 ≤ a then 1 else 0
def cOut (arcs : List S47) (v a : Int) (k : Int × Int) : Int := if (arcAt arcs k.1).f0 = v ∧ k.2 ≤ a then 1 else 0
def cStk (arcs : List S47) (v a : Int) (k : Int × Int) : Int := cIn arcs v a k - cOut arcs v a k
def cNow (arcs : List S47) (v a : Int) (k : Int × Int) : Int := (if (arcAt arcs k.1).f1 = v ∧ k.2 + (arcAt arcs k.1).f3 = a then 1 else 0) - (if (arcAt arcs k.1).f0 = v ∧ k.2 = a then 1 else 0)
def stk (arcs : List S47) (M : List S45) (a v : Nat) : Int := wsum (cStk arcs (v : Int) (a : Int)) M
def now (arcs : List S47) (M : List S45) (a v : Nat) : Int := wsum (cNow arcs (v : Int) (a : Int)) M
theorem cStk_bd (arcs : List S47) (v a : Int) (k : Int × Int) : -1 ≤ cStk arcs v a k ∧ cStk arcs v a k ≤ 1 := by
  unfold cStk cIn cOut; split <;> split <;> omega
theorem cNow_bd (arcs : List S47) (v a : Int) (k : Int × Int) : -1 ≤ cNow arcs v a k ∧ cNow arcs v a k ≤ 1 := by
  unfold cNow; split <;> split <;> omega
section
variable {n : Int} {b : Bool} {arcs : List S47} {s t h : Int} {M : List S45} (hn : NetOk n arcs) (hh : 0 ≤ h ∧ h ≤ 1024) (hM : M.length ≤ 1048576) (hmay : ∀ m ∈ M, May arcs s t h m)
include hn hmay
theorem may_n {m : S45} (hm : m ∈ M) : 0 ≤ m.f2 ∧ m.f2 ≤ 1048576 := by
  have h1 := hmay m hm
  have h2 := (arcAt_ok hn h1.a0 h1.a1).f2
  exact ⟨h1.c0, Int.le_trans h1.c1 h2.2⟩
include hM
theorem stk_bd {P : List S45} (hP : ∀ m ∈ P, m ∈ M) (hl : P.length ≤ M.length) (c : Int × Int → Int) (hc : ∀ k, -1 ≤ c k ∧ c k ≤ 1) : -1099511627776 ≤ wsum c P ∧ wsum c P ≤ 1099511627776 := by
  have h1 := wsum_bd (c := c) (l := P) (B := 1048576) (by decide) (fun x _ => hc _) (fun x hx => may_n hn hmay (hP x hx))
  have h2 : (1048576 : Int) * (P.length : Int) ≤ 1048576 * 1048576 := by omega
  omega
include hh
end
end Go.Proofs.Ytdghehebkalbgaa.P
end
