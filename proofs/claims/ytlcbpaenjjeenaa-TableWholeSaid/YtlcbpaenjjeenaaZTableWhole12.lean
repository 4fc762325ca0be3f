/- A part of the proof: words, contracts, plain lemmas. Conditions: none. -/
import Derived.Test.YtlcbpaenjjeenaaZTableWhole3
import Derived.Test.YtlcbpaenjjeenaaZTableWhole6
import Derived.Test.YtlcbpaenjjeenaaZTableWhole11
import Derived.Test.YtlcbpaenjjeenaaZTableWhole10
import Derived.Test.YtlcbpaenjjeenaaZTableWhole8
import Derived.Test.YtlcbpaenjjeenaaZTableWhole9
import Derived.Test.YtlcbpaenjjeenaaRows
import Derived.Deep.Slices
import Derived.ProofKit
section
namespace Go.Proofs.Ytlcbpaenjjeenaa.P
open Go.RowKit Go.Proofs.Ytlcbpaenjjeenaa.Q Go.Proofs.YtlcbpaenjjeenaaW.PrintWords Go.Proofs.YtlcbpaenjjeenaaW.PrintLast Go.Proofs.YtlcbpaenjjeenaaW.PrintMore
theorem w64_id {n : Int} (h0 : -9223372036854775808 ≤ n) (h1 : n ≤ 9223372036854775807) : wrap64 n = n := by unfold wrap64; omega
theorem csum_eq {l : List Int} (hl : l.length ≤ 1152921504606846976) (hw : ∀ x ∈ l, -9223372036854775808 ≤ x ∧ x ≤ 9223372036854775807) : checked_Sum.f l = some (sumFit l.sum) := by
  unfold checked_Sum.f
  rw [if_pos]
  simp only [sumOk, Bool.and_eq_true, List.all_eq_true, decide_eq_true_eq]
  exact ⟨hw, hl⟩
end Go.Proofs.Ytlcbpaenjjeenaa.P
end
section
namespace Go.Proofs.Ytlcbpaenjjeenaa.P
open Go.Sort hiding rd
open Go.RowKit Go.Proofs.Ytlcbpaenjjeenaa.Q Go.Proofs.YtlcbpaenjjeenaaW.PrintWords Go.Proofs.YtlcbpaenjjeenaaW.PrintLast Go.Proofs.YtlcbpaenjjeenaaW.PrintMore
theorem ev_const {α : Type} {g : Nat → Option α} {r : α} (h : ∀ k, g (k + 1) = some r) : Ev g r := Ev.step h (Ev.now r)
theorem w1 {i : Nat} (h : i ≤ 4611686018427387904) : wrap64 ((i : Int) + 1) = ((i + 1 : Nat) : Int) := by unfold wrap64; omega
theorem rd_of {l : List Int} {i : Nat} (h : i < l.length) : rd l (i : Int) = l[i] := by unfold rd; simp [List.getD_eq_getElem?_getD, List.getElem?_eq_getElem h]
theorem rdL_of {l : List (List Int)} {i : Nat} (h : i < l.length) : rd_L2 l (i : Int) = l[i] := by unfold rd_L2; simp [List.getD_eq_getElem?_getD, List.getElem?_eq_getElem h]
theorem sumFit_pos {n : Int} (h : fits n) : sumFit n = (n, true) := by unfold sumFit; exact if_pos h
theorem sumFit_neg {n : Int} (h : ¬ fits n) : sumFit n = (0, false) := by unfold sumFit; exact if_neg h
def FitAll (l : List S56) (K : List (Int × Int)) : Prop := ∀ k ∈ K, fits (msum l k)
noncomputable instance (l : List S56) (K : List (Int × Int)) : Decidable (FitAll l K) := Classical.propDecidable _
theorem isKey_iff (x : S42) (k : Int × Int × Int) : isKey x k.1 k.2.1 k.2.2 = true ↔ keyA x = k := by
  unfold isKey keyA
  simp only [Bool.and_eq_true, beq_iff_eq]
  constructor
  · rintro ⟨h0, h1, h2⟩; exact Prod.ext h0 (Prod.ext h1 h2)
  · intro h; rw [← h]; exact ⟨rfl, rfl, rfl⟩
def OkA (x : S42) : Prop := fits x.f0 ∧ fits x.f1 ∧ fits x.f2 ∧ fits x.f3
theorem okA_good {x : S42} (h : OkA x) : good3 (keyA x) = true := by
  obtain ⟨h0, h1, _, h3⟩ := h
  unfold fits at h0 h1 h3
  unfold good3 keyA
  rw [wf_i64 h0.1 h0.2, wf_i64 h1.1 h1.2, wf_i64 h3.1 h3.2]
  rfl
theorem groups_ev (l : List S42) (hl : l.length ≤ 1048576) (hw : ∀ x ∈ l, OkA x) : Ev (fun k => table_Groups.f k l) (groups keyA l) := by
  unfold table_Groups.f
  exact Ev.bind (a := groups keyA l) ⟨l.length + 1, fun k hk => gatherA_eq l hl (fun x hx => okA_good (hw x hx)) (by omega)⟩ (Ev.now _)
def alt (a b : S42) : Prop := a.f0 < b.f0 ∨ a.f0 = b.f0 ∧ (a.f1 < b.f1 ∨ a.f1 = b.f1 ∧ a.f3 < b.f3)
instance (a b : S42) : Decidable (alt a b) := by unfold alt; exact inferInstance
def asum (l : List S42) (k : Int × Int × Int) : Int := sumK keyA S42.f2 l k
def AllFitA (l : List S42) : Prop := ∀ k ∈ keysOf keyA l, fits (asum l k)
noncomputable instance (l : List S42) : Decidable (AllFitA l) := Classical.propDecidable _
structure IsMergeA (l r : List S42) : Prop where
  sorted : r.Pairwise alt
  mem : ∀ m, m ∈ r ↔ keyA m ∈ keysOf keyA l ∧ m.f2 = asum l (keyA m)
theorem alt_irrefl (x : S42) : ¬ alt x x := by unfold alt; omega
theorem alt_asym (x y : S42) (h : alt x y) : ¬ alt y x := by unfold alt at *; omega
theorem isMergeA_unique {l r r' : List S42} (h : IsMergeA l r) (h' : IsMergeA l r') : r = r' :=
  sorted_ext alt_irrefl alt_asym h.sorted h'.sorted (fun x => by rw [h.mem, h'.mem])
theorem totalA_ev (l : List S42) (g : List Int) (hg : ∀ j ∈ g, 0 ≤ j ∧ j < (l.length : Int)) (hlen : g.length ≤ 1048576) (hl : ∀ x ∈ l, fits x.f2) :
    Ev (fun k => api_Arc_38.f k l g) (sumFit ((g.map fun j => (l.getD j.toNat z42).f2).sum)) := by
  have hloop : ∀ (d i : Nat), i + d = g.length → Ev (fun k => api_Arc_38.l0 k l (row g.length (fun j => if j < i then (rd_T42 l (g.getD j 0)).f2 else 0)) g (g.length : Int) (i : Int)) (sumFit ((g.map fun j => (l.getD j.toNat z42).f2).sum)) := by
    intro d
    induction d with
    | zero =>
      intro i hi
      have e : row g.length (fun j => if j < i then (rd_T42 l (g.getD j 0)).f2 else 0) = g.map fun j => (l.getD j.toNat z42).f2 := by
        apply List.ext_getElem?
        intro j
        rcases Nat.lt_or_ge j g.length with hj | hj
        · rw [row_get? _ _ _ hj, if_pos (by omega), List.getElem?_map, List.getElem?_eq_getElem hj, List.getD_eq_getElem?_getD, List.getElem?_eq_getElem hj]; rfl
        · rw [row_none _ _ _ hj, List.getElem?_eq_none (by rw [List.length_map]; exact hj)]
      have hs : checked_Sum.f (g.map fun j => (l.getD j.toNat z42).f2) = some (sumFit ((g.map fun j => (l.getD j.toNat z42).f2).sum)) := by
        refine csum_eq (by rw [List.length_map]; omega) (fun x hx => ?_)
        obtain ⟨j, hj, rfl⟩ := List.mem_map.1 hx
        have h1 := hg j hj
        have h2 : j.toNat < l.length := by omega
        rw [List.getD_eq_getElem?_getD, List.getElem?_eq_getElem h2]
        exact hl _ (List.getElem_mem h2)
      exact ev_const fun k => by rw [api_Arc_38.l0, if_neg (by omega), e, hs]; rfl
    | succ d ih =>
      intro i hi
      have hlt : i < g.length := by omega
      have h1 := hg g[i] (List.getElem_mem hlt)
      have hlen2 := row_length g.length (fun j => if j < i then (rd_T42 l (g.getD j 0)).f2 else 0)
      refine Ev.step (fun k => ?_) (ih (i + 1) (by omega))
      rw [api_Arc_38.l0, if_pos (by omega), if_pos (by omega), if_pos (by omega), rd_of hlt, if_pos h1.1, if_pos h1.2]
      simp only [table_Merge_1.f, Option.bind_some]
      rw [if_pos (by rw [hlen2]; omega), Int.toNat_natCast, row_set, w1 (by omega)]
      congr 1
      refine row_ext fun j hj => ?_
      by_cases c : j = i
      · subst c
        rw [if_pos rfl, if_pos (by omega), List.getD_eq_getElem?_getD, List.getElem?_eq_getElem hlt]; rfl
      · rw [if_neg c]
        by_cases c2 : j < i
        · rw [if_pos c2, if_pos (by omega)]
        · rw [if_neg c2, if_neg (by omega)]
  have h0 := hloop g.length 0 (by omega)
  refine Ev.congr (fun k => ?_) h0
  have e : row g.length (fun j => if j < 0 then (rd_T42 l (g.getD j 0)).f2 else 0) = row g.length (fun _ => (0 : Int)) := row_ext fun j _ => by rw [if_neg (by omega)]
  rw [e]
  unfold api_Arc_38.f
  rw [if_pos (by omega), if_pos (by omega), Int.toNat_natCast, row_replicate]
  rfl
def rawA (l : List S42) (K : List (Int × Int × Int)) : List S42 := K.map fun k => ⟨k.1, k.2.1, asum l k, k.2.2⟩
noncomputable def mergeA (l : List S42) : List S42 := srtL cfArc (rawA l (keysOf keyA l))
noncomputable def mergeAR (l : List S42) : List S42 × Int := if AllFitA l then (mergeA l, 0) else ([], 10)
theorem totalA_group (l : List S42) (hlen : l.length ≤ 1048576) (hl : ∀ x ∈ l, OkA x) (k : Int × Int × Int) : Ev (fun n => api_Arc_38.f n l (idxs keyA l k)) (sumFit (asum l k)) := by
  have h := totalA_ev l (idxs keyA l k) (idxs_bd keyA l k) (Nat.le_trans (idxs_length_le keyA l k) hlen) (fun x hx => (hl x hx).2.2.1)
  rw [idxs_vals keyA S42.f2 l k z42] at h
  exact h
def FitAllA (l : List S42) (K : List (Int × Int × Int)) : Prop := ∀ k ∈ K, fits (asum l k)
noncomputable instance (l : List S42) (K : List (Int × Int × Int)) : Decidable (FitAllA l K) := Classical.propDecidable _
theorem merge_loop (l : List S42) (hlen : l.length ≤ 1048576) (hl : ∀ x ∈ l, OkA x) (d : Nat) : ∀ (i : Nat), i + d = (keysOf keyA l).length →
    Ev (fun k => table_Merge.l0 k l (rawA l ((keysOf keyA l).take i)) (groups keyA l) ((groups keyA l).length : Int) (i : Int))
      (if FitAllA l ((keysOf keyA l).drop i) then (mergeA l, 0) else ([], 10)) := by
  have hkl := keysOf_length_le keyA l
  induction d with
  | zero =>
    intro i hi
    rw [List.drop_eq_nil_of_le (by omega), if_pos (by intro k hk; cases hk), List.take_of_length_le (by omega)]
    refine ev_const fun k => ?_
    rw [table_Merge.l0, if_neg (by rw [groups_length]; omega)]
    unfold api_Arc_40.f
    have : (rawA l (keysOf keyA l)).length = (keysOf keyA l).length := List.length_map _
    rw [if_pos (by omega)]
    rfl
  | succ d ih =>
    intro i hi
    have hlt : i < (keysOf keyA l).length := by omega
    have hlg : i < (groups keyA l).length := by rw [groups_length]; exact hlt
    obtain ⟨key, hkey⟩ : ∃ key, (keysOf keyA l)[i]? = some key := ⟨_, List.getElem?_eq_getElem hlt⟩
    have hmem := List.mem_of_getElem? hkey
    have hgi : rd_L2 (groups keyA l) (i : Int) = idxs keyA l key := by
      have h2 := groups_get keyA l i key hkey
      rw [rdL_of hlg]
      rw [List.getElem?_eq_getElem hlg] at h2
      exact Option.some.inj h2
    have hne := idxs_ne keyA l key ((mem_keysOf _ _ _).1 hmem)
    have hpos : 0 < (idxs keyA l key).length := List.length_pos_iff.2 hne
    have hmem0 : rd (idxs keyA l key) 0 ∈ idxs keyA l key := by
      have := rd_of hpos
      rw [show ((0 : Nat) : Int) = 0 from rfl] at this
      rw [this]
      exact List.getElem_mem hpos
    have hb := idxs_bd keyA l key _ hmem0
    have hk0 := idxs_key keyA l key z42 _ hmem0
    have ht := totalA_group l hlen hl key
    have hdrop : (keysOf keyA l).drop i = key :: (keysOf keyA l).drop (i + 1) := by
      rw [List.drop_eq_getElem_cons hlt]
      rw [List.getElem?_eq_getElem hlt] at hkey
      rw [Option.some.inj hkey]
    have htake : (keysOf keyA l).take (i + 1) = (keysOf keyA l).take i ++ [key] := by
      rw [List.take_succ_eq_append_getElem hlt]
      rw [List.getElem?_eq_getElem hlt] at hkey
      rw [Option.some.inj hkey]
    have hraw : (rawA l ((keysOf keyA l).take i)).length ≤ l.length := by
      unfold rawA
      rw [List.length_map, List.length_take]
      omega
    have hstep : ∀ k, table_Merge.l0 (k + 1) l (rawA l ((keysOf keyA l).take i)) (groups keyA l) ((groups keyA l).length : Int) (i : Int) =
        (api_Arc_38.f k l (idxs keyA l key)).bind fun bt => if bt.2 = true then table_Merge.l0 k l (rawA l ((keysOf keyA l).take i) ++ [⟨key.1, key.2.1, bt.1, key.2.2⟩]) (groups keyA l) ((groups keyA l).length : Int) ((i + 1 : Nat) : Int) else some ([], 10) := by
      intro k
      rw [table_Merge.l0, if_pos (by omega), if_pos (by omega), if_pos (by omega), hgi, if_pos (by omega), if_pos hb.1, if_pos hb.2]
      have hl9 : (rawA l ((keysOf keyA l).take i)).length < 4398046511104 := by omega
      have hw9 : wrap64 ((i : Int) + 1) = ((i + 1 : Nat) : Int) := w1 (by omega)
      have e0 : (rd_T42 l (rd (idxs keyA l key) 0)).f0 = key.1 := congrArg Prod.fst hk0
      have e1 : (rd_T42 l (rd (idxs keyA l key) 0)).f1 = key.2.1 := congrArg (fun z => z.2.1) hk0
      have e3 : (rd_T42 l (rd (idxs keyA l key) 0)).f3 = key.2.2 := congrArg (fun z => z.2.2) hk0
      simp only [e0, e1, e3, hl9, hw9, if_true]
    refine Ev.step hstep ?_
    refine Ev.bind ht ?_
    rw [hdrop]
    by_cases hf : fits (asum l key)
    · rw [sumFit_pos hf]
      have hif : (if FitAllA l (key :: (keysOf keyA l).drop (i + 1)) then (mergeA l, (0 : Int)) else ([], 10)) = (if FitAllA l ((keysOf keyA l).drop (i + 1)) then (mergeA l, 0) else ([], 10)) := by
        by_cases c : FitAllA l ((keysOf keyA l).drop (i + 1))
        · rw [if_pos c, if_pos (by intro k hk; rcases List.mem_cons.1 hk with rfl | hk; exact hf; exact c k hk)]
        · rw [if_neg c, if_neg (fun h => c (fun k hk => h k (List.mem_cons_of_mem _ hk)))]
      rw [hif]
      have hi2 := ih (i + 1) (by omega)
      rw [htake] at hi2
      unfold rawA at hi2
      rw [List.map_append] at hi2
      simp only [if_true]
      exact hi2
    · rw [sumFit_neg hf, if_neg (fun h => hf (h key List.mem_cons_self))]
      exact Ev.now _
theorem merge_ev (l : List S42) (hlen : l.length ≤ 1048576) (hl : ∀ x ∈ l, OkA x) : Ev (fun k => table_Merge.f k l) (mergeAR l) := by
  unfold table_Merge.f
  refine Ev.bind (groups_ev l hlen hl) ?_
  have h := merge_loop l hlen hl (keysOf keyA l).length 0 (by omega)
  have e : (if FitAllA l ((keysOf keyA l).drop 0) then (mergeA l, (0 : Int)) else ([], 10)) = mergeAR l := by
    unfold mergeAR
    by_cases c : AllFitA l
    · rw [if_pos c, if_pos (show FitAllA l ((keysOf keyA l).drop 0) from c)]
    · rw [if_neg c, if_neg (show ¬ FitAllA l ((keysOf keyA l).drop 0) from c)]
  rw [e] at h
  exact h
theorem lt_arc (x y : S42) : (ltOf cfArc x y = true) ↔ alt x y := ltArc_eq x y
theorem mergeA_is (l : List S42) : IsMergeA l (mergeA l) := by
  obtain ⟨hp, hs⟩ := srtL_spec swoArc (rawA l (keysOf keyA l))
  have hmem : ∀ m, m ∈ mergeA l ↔ keyA m ∈ keysOf keyA l ∧ m.f2 = asum l (keyA m) := by
    intro m
    unfold mergeA
    rw [hp.mem_iff]
    unfold rawA
    rw [List.mem_map]
    constructor
    · rintro ⟨k, hk, rfl⟩
      exact ⟨hk, rfl⟩
    · rintro ⟨h1, h2⟩
      refine ⟨keyA m, h1, ?_⟩
      rw [← h2]
      rfl
  refine ⟨?_, hmem⟩
  have hnd : ((mergeA l).map keyA).Nodup := by
    have h1 : ((rawA l (keysOf keyA l)).map keyA).Nodup := by
      have h2 : (rawA l (keysOf keyA l)).map keyA = keysOf keyA l := by
        unfold rawA
        rw [List.map_map]
        exact (List.map_congr_left fun k _ => rfl).trans (List.map_id _)
      rw [h2]
      exact nodup_keysOf keyA l
    exact ((hp.map keyA).nodup_iff).2 h1
  have hpair : (mergeA l).Pairwise (fun x y => ltOf cfArc y x = false ∧ keyA x ≠ keyA y) := by
    rw [List.pairwise_and_iff]
    exact ⟨hs, by rw [List.Nodup, List.pairwise_map] at hnd; exact hnd⟩
  refine hpair.imp ?_
  rintro x y ⟨h1, h2⟩
  rw [← Bool.not_eq_true, lt_arc] at h1
  have h3 : ¬ (x.f0 = y.f0 ∧ x.f1 = y.f1 ∧ x.f3 = y.f3) := fun h => h2 (by unfold keyA; rw [h.1, h.2.1, h.2.2])
  unfold alt at *
  omega
theorem mergeA_length (l : List S42) : (mergeA l).length = (keysOf keyA l).length := by
  unfold mergeA
  rw [srtL_length swoArc]
  exact List.length_map _
theorem s42_ext {x y : S42} (hk : keyA x = keyA y) (h : x.f2 = y.f2) : x = y := by
  unfold keyA at hk
  simp only [Prod.mk.injEq] at hk
  cases x; cases y; simp_all
theorem sameArcs_ev (l : List S42) (hl : l.length ≤ 4611686018427387904) : Ev (fun k => ebbtideref03_SameArcs.f k l l) true := by
  have hloop : ∀ d i, i + d = l.length → Ev (fun k => ebbtideref03_SameArcs.l0 k l l (i : Int)) true := by
    intro d
    induction d with
    | zero => intro i hi; exact ev_cst fun k => by rw [ebbtideref03_SameArcs.l0, if_neg (by omega)]
    | succ d ih =>
      intro i hi
      refine Ev.step (fun k => ?_) (ih (i + 1) (by omega))
      rw [ebbtideref03_SameArcs.l0, if_pos (by omega), if_pos (by omega), if_pos (by omega), if_neg (by simp), wrap1 (by omega)]
  refine Ev.congr (fun k => ?_) (hloop l.length 0 (by omega))
  unfold ebbtideref03_SameArcs.f
  rw [if_pos rfl]
  rfl
theorem findL_head (k : Int × Int × Int) : ∀ (l : List S42) (i : Nat), findL k.1 k.2.1 k.2.2 l (i : Int) = (idxFrom keyA k i l).headD (-1) := by
  intro l
  induction l with
  | nil => intro i; rfl
  | cons x r ih =>
    intro i
    rw [findL, idxFrom]
    by_cases c : keyA x = k
    · rw [if_pos ((isKey_iff _ _).2 c), if_pos c]
      rfl
    · rw [if_neg (fun h => c ((isKey_iff _ _).1 h)), if_neg c]
      exact ih (i + 1)
theorem idxFrom_count (k : Int × Int × Int) : ∀ (l : List S42) (i q : Nat) (hq : q < l.length), (idxFrom keyA k i l).count ((i + q : Nat) : Int) = if keyA l[q] = k then 1 else 0 := by
  intro l
  induction l with
  | nil => intro i q hq; cases hq
  | cons x r ih =>
    intro i q hq
    cases q with
    | zero =>
      have hz : (idxFrom keyA k (i + 1) r).count (i : Int) = 0 := by
        refine List.count_eq_zero.2 fun hm => ?_
        have := idxFrom_bd keyA k r (i + 1) _ hm
        omega
      rw [idxFrom]
      by_cases c : keyA x = k
      · rw [if_pos c, Nat.add_zero, List.count_cons, hz]
        simp [c]
      · rw [if_neg c, Nat.add_zero, hz]
        simp [c]
    | succ q =>
      have hq2 : q < r.length := Nat.lt_of_succ_lt_succ hq
      have h := ih (i + 1) q hq2
      have e : ((i + (q + 1) : Nat) : Int) = ((i + 1 + q : Nat) : Int) := by omega
      rw [idxFrom, e]
      have hne : ¬ ((i : Int) = ((i + 1 + q : Nat) : Int)) := by omega
      by_cases c : keyA x = k
      · rw [if_pos c, List.count_cons, h]
        have hb : ((i : Int) == ((i + 1 + q : Nat) : Int)) = false := beq_eq_false_iff_ne.2 hne
        rw [hb]
        rfl
      · rw [if_neg c, h]
        simp
theorem sum_ones {κ : Type} [DecidableEq κ] (x : κ) : ∀ K : List κ, K.Nodup → x ∈ K → (K.map (fun k => if x = k then 1 else 0)).sum = 1 := by
  intro K
  have hz : ∀ K : List κ, x ∉ K → (K.map (fun k => if x = k then 1 else 0)).sum = 0 := by
    intro K
    induction K with
    | nil => intro _; rfl
    | cons y K ih =>
      intro h
      rw [List.mem_cons, not_or] at h
      rw [List.map_cons, List.sum_cons, ih h.2, if_neg h.1]
  induction K with
  | nil => intro _ h; cases h
  | cons y K ih =>
    intro hn h
    rw [List.nodup_cons] at hn
    rw [List.map_cons, List.sum_cons]
    by_cases c : x = y
    · subst c
      rw [hz K hn.1, if_pos rfl]
    · rw [if_neg c, ih hn.2 ((List.mem_cons.1 h).resolve_left c)]
theorem groups_once (l : List S42) (q : Nat) (hq : q < l.length) : (groups keyA l).flatten.count (q : Int) = 1 := by
  rw [List.count_flatten]
  unfold groups
  rw [List.map_map]
  rw [show (keysOf keyA l).map (List.count (q : Int) ∘ idxs keyA l) = (keysOf keyA l).map (fun k => if keyA l[q] = k then 1 else 0) from
    List.map_congr_left fun k _ => by
      have h := idxFrom_count k l 0 q hq
      rw [Nat.zero_add] at h
      exact h]
  exact sum_ones _ _ (nodup_keysOf keyA l) ((mem_keysOf _ _ _).2 ⟨l[q], List.getElem_mem hq, rfl⟩)
def hadOf (n : Nat) (P : List Int) : List Int := (List.range n).map fun (p : Nat) => ((P.count (p : Int) : Nat) : Int)
theorem hadOf_length (n : Nat) (P : List Int) : (hadOf n P).length = n := by unfold hadOf; simp
theorem hadOf_get {n : Nat} {P : List Int} {p : Nat} (h : p < (hadOf n P).length) : (hadOf n P)[p] = ((P.count (p : Int) : Nat) : Int) := by
  have hn : p < n := by rw [hadOf_length] at h; exact h
  have h2 : (hadOf n P)[p]? = some ((P.count (p : Int) : Nat) : Int) := by
    unfold hadOf
    rw [List.getElem?_map, List.getElem?_range hn]
    rfl
  rw [List.getElem?_eq_getElem h] at h2
  exact Option.some.inj h2
theorem hadOf_nil (n : Nat) : hadOf n [] = List.replicate n 0 := by
  unfold hadOf
  refine List.ext_getElem (by simp) fun p h1 h2 => ?_
  simp
theorem hadOf_snoc (n p : Nat) (P : List Int) : (hadOf n P).set p (((P.count (p : Int) : Nat) : Int) + 1) = hadOf n (P ++ [(p : Int)]) := by
  refine List.ext_getElem (by simp [hadOf]) fun q h1 h2 => ?_
  rw [List.getElem_set, hadOf_get h2, List.count_append, List.count_singleton]
  by_cases c : p = q
  · subst c
    simp
  · have c2 : ¬ ((p : Int) = (q : Int)) := by omega
    rw [if_neg c, hadOf_get]
    simp [c2]
theorem asum_alt : ∀ (m : List S42), m.Pairwise alt → ∀ x ∈ m, asum m (keyA x) = x.f2 := by
  have hne : ∀ y z, alt y z → keyA y ≠ keyA z := by
    intro y z h e
    unfold keyA at e
    simp only [Prod.mk.injEq] at e
    unfold alt at h
    omega
  intro m
  induction m with
  | nil => intro _ x hx; cases hx
  | cons y r ih =>
    intro hp x hx
    rw [List.pairwise_cons] at hp
    unfold asum
    rw [sumK_cons]
    rcases List.mem_cons.1 hx with rfl | hx
    · rw [if_pos rfl]
      have hz : sumK keyA S42.f2 r (keyA x) = 0 := by
        unfold sumK
        rw [List.filter_eq_nil_iff.2 (fun z hz => by simpa using fun e => hne _ _ (hp.1 z hz) e.symm)]
        rfl
      rw [hz]
      omega
    · rw [if_neg (hne _ _ (hp.1 x hx))]
      have := ih hp.2 x hx
      unfold asum at this
      omega
theorem merged_fit (l : List S42) (cf : AllFitA l) : ∀ k ∈ keysOf keyA (mergeA l), fits (asum (mergeA l) k) := by
  intro k hk
  obtain ⟨x, hx, rfl⟩ := (mem_keysOf _ _ _).1 hk
  have hm := mergeA_is l
  rw [asum_alt _ hm.sorted x hx]
  have := (hm.mem x).1 hx
  rw [this.2]
  exact cf _ this.1
theorem merged_again (l : List S42) : mergeA (mergeA l) = mergeA l := by
  have hm := mergeA_is l
  refine isMergeA_unique (mergeA_is (mergeA l)) ⟨hm.sorted, fun x => ⟨fun hx => ⟨(mem_keysOf _ _ _).2 ⟨x, hx, rfl⟩, (asum_alt _ hm.sorted x hx).symm⟩, fun ⟨h1, h2⟩ => ?_⟩⟩
  obtain ⟨y, hy, hk⟩ := (mem_keysOf _ _ _).1 h1
  have e : x = y := s42_ext hk.symm (by rw [h2, ← hk]; exact asum_alt _ hm.sorted y hy)
  rw [e]
  exact hy
theorem merged_ok (l : List S42) (cf : AllFitA l) (hl : ∀ x ∈ l, OkA x) : ∀ x ∈ mergeA l, OkA x := by
  intro x hx
  have hm := ((mergeA_is l).mem x).1 hx
  obtain ⟨y, hy, hk⟩ := (mem_keysOf _ _ _).1 hm.1
  obtain ⟨a0, a1, _, a3⟩ := hl y hy
  unfold keyA at hk
  simp only [Prod.mk.injEq] at hk
  refine ⟨hk.1 ▸ a0, hk.2.1 ▸ a1, ?_, hk.2.2 ▸ a3⟩
  rw [hm.2]
  exact cf _ hm.1
end Go.Proofs.Ytlcbpaenjjeenaa.P
end
section
namespace Go.Proofs.Ytlcbpaenjjeenaa.R
open Go.RowKit Go.Proofs.Ytlcbpaenjjeenaa.Q Go.Proofs.YtlcbpaenjjeenaaW.PrintWords Go.Proofs.YtlcbpaenjjeenaaW.PrintLast Go.Proofs.YtlcbpaenjjeenaaW.PrintMore
open Go.ChangeShapes Go.WideShapes Go.Deep
def Reads (t : TypeId) {α : Type} (d : Kd α) (G : Nat → α → Prop) : Prop :=
  ∀ {H : Type} (enc : TypeId × Value → H) (w : World) (base : Nat) (spare : Nat → Bool) (held : Bool) (fuel : Nat) (cs : List Value) (x : DataW H × List MemPlace),
    DataW.trod enc Try.prog w base spare held fuel t cs = some x → ∃ a, d.K w a cs ∧ ∀ N, Rows.uptoBulk x.1 ≤ N → G N a
def gInt (k : IntKind) (_ : Nat) (n : Int) : Prop := (Lit.int k n).wf = true
def gList {α : Type} (G : Nat → α → Prop) (N : Nat) (l : List α) : Prop := l.length ≤ maxLen ∧ l.length ≤ N ∧ ∀ x ∈ l, G N x
theorem readsInt {t : TypeId} {k : IntKind} (ht : Try.prog.underlying t = some (.int k)) : Reads t (Kd.int k) (gInt k) := by
  intro H enc w base spare held fuel cs x h
  obtain ⟨n, rfl, rfl, hw⟩ := DataW.trod_int ht h
  exact ⟨n, rfl, fun _ _ => hw⟩
theorem one_le {H : Type} (d : DataW H) : 1 ≤ Rows.uptoBulk d := by
  cases d with
  | lit l => cases l <;> simp [Rows.uptoBulk]
  | nil => simp [Rows.uptoBulk]
  | ptr d => simp [Rows.uptoBulk]
  | slice elems spare => simp [Rows.uptoBulk]
  | agg parts => simp [Rows.uptoBulk]
  | iface t d => simp [Rows.uptoBulk]
  | map entries => simp [Rows.uptoBulk]
  | held h => simp [Rows.uptoBulk]
theorem part_le {H : Type} {d : DataW H} {l : List (DataW H)} (h : d ∈ l) : Rows.uptoBulk d ≤ Rows.uptoBulkAll l := by
  induction l with
  | nil => cases h
  | cons x r ih =>
    simp only [Rows.uptoBulkAll]
    cases List.mem_cons.1 h with
    | inl e => subst e; omega
    | inr e => have := ih e; omega
theorem length_le {H : Type} (l : List (DataW H)) : l.length ≤ Rows.uptoBulkAll l := by
  induction l with
  | nil => simp [Rows.uptoBulkAll]
  | cons x r ih => have := one_le x; simp only [Rows.uptoBulkAll, List.length_cons]; omega
theorem readsSlice {t e : TypeId} {α : Type} [Inhabited α] {d : Kd α} {G : Nat → α → Prop} (ht : Try.prog.underlying t = some (.slice e)) (hc : Try.prog.cellsOf e = d.sz) (R : Reads e d G) : Reads t (Kd.slice e d) (gList G) := by
  intro H enc w base spare held fuel cs x h
  rcases open_slice ht h with ⟨rfl, rfl⟩ | ⟨a, len, cap, m, n, D, Pl, rfl, hb, hl, hm, hmm, rfl, hx⟩
  · exact ⟨[], ⟨none, 0, rfl, Nat.le_refl _, Kd.C_nil d w⟩, fun N _ => ⟨Nat.zero_le _, Nat.zero_le _, fun x hx => by cases hx⟩⟩
  · have hlm : len ≤ m := by rw [hmm]; split <;> omega
    obtain ⟨f, hf⟩ := choose_lt (α := α) (n := m) (p := fun i y => ∃ c, c.length = d.sz ∧ d.K w y c ∧ (∀ j u, c[j]? = some u → w.cell? (a.add (i * d.sz + j)) = some u) ∧ ∀ N, Rows.uptoBulk (D i) ≤ N → G N y) (fun i hi => by
      obtain ⟨c, h1, h2⟩ := hx i hi
      obtain ⟨y, hK, hG⟩ := R enc w base spare held n c _ h2
      obtain ⟨_, hlen, hcell⟩ := World.cells?_some h1
      rw [hc] at hlen hcell
      refine ⟨y, c, hlen, hK, fun j u hu => ?_, hG⟩
      have hj : j < d.sz := by rw [← hlen]; exact (List.getElem?_eq_some_iff.1 hu).1
      have := hcell j hj
      rw [Deep.add_add] at this
      rw [this, hu])
    have hL : ((List.range len).map f).length = len := by simp
    refine ⟨(List.range len).map f, ⟨some a, cap, by rw [hL], by rw [hL]; exact hl, ?_⟩, fun N hN => ?_⟩
    · refine ⟨rfl, by rw [hL]; exact Nat.le_trans hl (Nat.le_trans hm (by decide)), fun _ => ⟨a, rfl, fun j p hj => ?_⟩⟩
      have hjl : j < len := by
        have := (List.getElem?_eq_some_iff.1 hj).1
        rwa [hL] at this
      have hp : f j = p := by
        rw [List.getElem?_map, List.getElem?_range hjl] at hj
        exact Option.some.inj hj
      obtain ⟨c, h1, h2, h3, _⟩ := hf j (by omega)
      rw [hp] at h2
      exact ⟨c, h1, h2, h3⟩
    · have hbulk : Rows.uptoBulkAll ((List.range len).map D) ≤ N := by
        simp only [Rows.uptoBulk] at hN
        omega
      refine ⟨by rw [hL]; omega, by rw [hL]; have := length_le ((List.range len).map D); simp at this; omega, fun y hy => ?_⟩
      obtain ⟨i, hi, rfl⟩ := List.mem_map.1 hy
      have hi' := List.mem_range.1 hi
      obtain ⟨c, _, _, _, hG⟩ := hf i (by omega)
      exact hG N (Nat.le_trans (part_le (List.mem_map.2 ⟨i, hi, rfl⟩)) hbulk)
instance : Inhabited S42 := ⟨z42⟩
def g42 (N : Nat) (x : S42) : Prop := gInt .i64 N x.f0 ∧ gInt .i64 N x.f1 ∧ gInt .i64 N x.f2 ∧ gInt .i64 N x.f3
set_option maxRecDepth 100000 in
theorem reads42 : Reads 42 k42 g42 := by
  intro H enc w base spare held fuel cs x h
  obtain ⟨xs, n, _, hx, hl, hlen, hf⟩ := DataW.trod_struct Try.underlying42 h
  have hl2 : cs.length = 4 := hl.trans (by kernel_rfl)
  have hlen2 : xs.length = 4 := hlen
  match xs, hlen2, cs, hl2 with
  | [y0, y1, y2, y3], _, [v0, v1, v2, v3], _ =>
    have c0 : Try.prog.cellsOf 3 = 1 := by kernel_rfl
    have e0 : DataW.trod enc Try.prog w base spare held n 3 (List.take (Try.prog.cellsOf 3) (List.drop 0 [v0, v1, v2, v3])) = some y0 := hf 0 _ rfl
    rw [c0] at e0
    obtain ⟨a0, K0, G0⟩ := (readsInt Try.underlying3) enc w base spare held n [v0] y0 e0
    have c1 : Try.prog.cellsOf 3 = 1 := by kernel_rfl
    have e1 : DataW.trod enc Try.prog w base spare held n 3 (List.take (Try.prog.cellsOf 3) (List.drop 1 [v0, v1, v2, v3])) = some y1 := hf 1 _ rfl
    rw [c1] at e1
    obtain ⟨a1, K1, G1⟩ := (readsInt Try.underlying3) enc w base spare held n [v1] y1 e1
    have c2 : Try.prog.cellsOf 3 = 1 := by kernel_rfl
    have e2 : DataW.trod enc Try.prog w base spare held n 3 (List.take (Try.prog.cellsOf 3) (List.drop 2 [v0, v1, v2, v3])) = some y2 := hf 2 _ rfl
    rw [c2] at e2
    obtain ⟨a2, K2, G2⟩ := (readsInt Try.underlying3) enc w base spare held n [v2] y2 e2
    have c3 : Try.prog.cellsOf 3 = 1 := by kernel_rfl
    have e3 : DataW.trod enc Try.prog w base spare held n 3 (List.take (Try.prog.cellsOf 3) (List.drop 3 [v0, v1, v2, v3])) = some y3 := hf 3 _ rfl
    rw [c3] at e3
    obtain ⟨a3, K3, G3⟩ := (readsInt Try.underlying3) enc w base spare held n [v3] y3 e3
    refine ⟨⟨a0, a1, a2, a3⟩, ⟨_, _, rfl, K0, ⟨_, _, rfl, K1, ⟨_, _, rfl, K2, K3⟩⟩⟩, fun N hN => ?_⟩
    rw [hx] at hN
    simp only [List.map_cons, List.map_nil, Rows.uptoBulk, Rows.uptoBulkAll] at hN
    exact ⟨G0 N (by omega), G1 N (by omega), G2 N (by omega), G3 N (by omega)⟩
structure S24 where
  f0 : Int
  f1 : Int
  f2 : Int
def z24 : S24 := ⟨(0 : Int), (0 : Int), (0 : Int)⟩
instance : Inhabited S24 := ⟨z24⟩
instance : Inhabited S70 := ⟨z70⟩
instance : Inhabited S56 := ⟨z56⟩
end Go.Proofs.Ytlcbpaenjjeenaa.R
end
