/- A part of the proof: words, contracts, plain lemmas. Conditions: none. -/
import Derived.Test.YtlcbpaenjjeenaaZTableOrder3
import Derived.Test.YtlcbpaenjjeenaaZTableOrder6
import Derived.Test.YtlcbpaenjjeenaaZTableOrder13
import Derived.Test.YtlcbpaenjjeenaaZTableOrder14
import Derived.Test.YtlcbpaenjjeenaaZTableOrder15
import Derived.Test.YtlcbpaenjjeenaaZTableOrder11
import Derived.Test.YtlcbpaenjjeenaaZTableOrder9
import Derived.Test.YtlcbpaenjjeenaaZTableOrder10
import Derived.Test.YtlcbpaenjjeenaaRows
import Derived.Deep.Slices
import Derived.ProofKit
import Derived.Test.YtlcbpaenjjeenaaZTableOrder12
import Derived.OpenShut
section
namespace Go.Proofs.Ytlcbpaenjjeenaa.P
open Go.RowKit Go.Proofs.Ytlcbpaenjjeenaa.Q Go.Proofs.YtlcbpaenjjeenaaW.PrintWords Go.Proofs.YtlcbpaenjjeenaaW.PrintLast Go.Proofs.YtlcbpaenjjeenaaW.PrintMore
theorem w64_id {n : Int} (h0 : -9223372036854775808 ≤ n) (h1 : n ≤ 9223372036854775807) : wrap64 n = n := by unfold wrap64; omega
theorem csum_eq {l : List Int} (hl : l.length ≤ 1152921504606846976) (hw : ∀ x ∈ l, -9223372036854775808 ≤ x ∧ x ≤ 9223372036854775807) : checked_Sum.f l = some (sumFit l.sum) := by
  unfold checked_Sum.f
  rw [if_pos]
  simp only [sumOk, Bool.and_eq_true, List.all_eq_true, decide_eq_true_eq]
  exact ⟨hw, hl⟩
end Go.Proofs.Ytlcbpaenjjeenaa.P
end
section
namespace Go.Proofs.Ytlcbpaenjjeenaa.P
open Go.Sort hiding rd
open Go.RowKit Go.Proofs.Ytlcbpaenjjeenaa.Q Go.Proofs.YtlcbpaenjjeenaaW.PrintWords Go.Proofs.YtlcbpaenjjeenaaW.PrintLast Go.Proofs.YtlcbpaenjjeenaaW.PrintMore
theorem ev_const {α : Type} {g : Nat → Option α} {r : α} (h : ∀ k, g (k + 1) = some r) : Ev g r := Ev.step h (Ev.now r)
def OkM (x : S56) : Prop := fits x.f0 ∧ fits x.f1 ∧ fits x.f2
theorem w1 {i : Nat} (h : i ≤ 4611686018427387904) : wrap64 ((i : Int) + 1) = ((i + 1 : Nat) : Int) := by unfold wrap64; omega
theorem rd_of {l : List Int} {i : Nat} (h : i < l.length) : rd l (i : Int) = l[i] := by unfold rd; simp [List.getD_eq_getElem?_getD, List.getElem?_eq_getElem h]
theorem rdL_of {l : List (List Int)} {i : Nat} (h : i < l.length) : rd_L2 l (i : Int) = l[i] := by unfold rd_L2; simp [List.getD_eq_getElem?_getD, List.getElem?_eq_getElem h]
theorem total_ev (l : List S56) (g : List Int) (hg : ∀ j ∈ g, 0 ≤ j ∧ j < (l.length : Int)) (hlen : g.length ≤ 1048576) (hl : ∀ x ∈ l, fits x.f2) :
    Ev (fun k => api_Move_51.f k l g) (sumFit ((g.map fun j => (l.getD j.toNat z56).f2).sum)) := by
  have hloop : ∀ (d i : Nat), i + d = g.length → Ev (fun k => api_Move_51.l0 k l (row g.length (fun j => if j < i then (rd_T56 l (g.getD j 0)).f2 else 0)) g (g.length : Int) (i : Int)) (sumFit ((g.map fun j => (l.getD j.toNat z56).f2).sum)) := by
    intro d
    induction d with
    | zero =>
      intro i hi
      have e : row g.length (fun j => if j < i then (rd_T56 l (g.getD j 0)).f2 else 0) = g.map fun j => (l.getD j.toNat z56).f2 := by
        apply List.ext_getElem?
        intro j
        rcases Nat.lt_or_ge j g.length with hj | hj
        · rw [row_get? _ _ _ hj, if_pos (by omega), List.getElem?_map, List.getElem?_eq_getElem hj, List.getD_eq_getElem?_getD, List.getElem?_eq_getElem hj]; rfl
        · rw [row_none _ _ _ hj, List.getElem?_eq_none (by rw [List.length_map]; exact hj)]
      have hs : checked_Sum.f (g.map fun j => (l.getD j.toNat z56).f2) = some (sumFit ((g.map fun j => (l.getD j.toNat z56).f2).sum)) := by
        refine csum_eq (by rw [List.length_map]; omega) (fun x hx => ?_)
        obtain ⟨j, hj, rfl⟩ := List.mem_map.1 hx
        have h1 := hg j hj
        have h2 : j.toNat < l.length := by omega
        rw [List.getD_eq_getElem?_getD, List.getElem?_eq_getElem h2]
        exact hl _ (List.getElem_mem h2)
      exact ev_const fun k => by rw [api_Move_51.l0, if_neg (by omega), e, hs]; rfl
    | succ d ih =>
      intro i hi
      have hlt : i < g.length := by omega
      have h1 := hg g[i] (List.getElem_mem hlt)
      have hlen2 := row_length g.length (fun j => if j < i then (rd_T56 l (g.getD j 0)).f2 else 0)
      refine Ev.step (fun k => ?_) (ih (i + 1) (by omega))
      rw [api_Move_51.l0, if_pos (by omega), if_pos (by omega), if_pos (by omega), rd_of hlt, if_pos h1.1, if_pos h1.2]
      simp only [table_Moves_2.f, Option.bind_some]
      rw [if_pos (by rw [hlen2]; omega), Int.toNat_natCast, row_set, w1 (by omega)]
      congr 1
      refine row_ext fun j hj => ?_
      by_cases c : j = i
      · subst c
        rw [if_pos rfl, if_pos (by omega), List.getD_eq_getElem?_getD, List.getElem?_eq_getElem hlt]; rfl
      · rw [if_neg c]
        by_cases c2 : j < i
        · rw [if_pos c2, if_pos (by omega)]
        · rw [if_neg c2, if_neg (by omega)]
  have h0 := hloop g.length 0 (by omega)
  refine Ev.congr (fun k => ?_) h0
  have e : row g.length (fun j => if j < 0 then (rd_T56 l (g.getD j 0)).f2 else 0) = row g.length (fun _ => (0 : Int)) := row_ext fun j _ => by rw [if_neg (by omega)]
  rw [e]
  unfold api_Move_51.f
  rw [if_pos (by omega), if_pos (by omega), Int.toNat_natCast, row_replicate]
  rfl
def rawOf (l : List S56) (K : List (Int × Int)) : List S56 := K.filterMap fun k => if msum l k = 0 then none else some ⟨k.1, k.2, msum l k⟩
noncomputable def mergeL (l : List S56) : List S56 := srtL cfMove (rawOf l (keysOf keyM l))
noncomputable def mergeR (l : List S56) : List S56 × Int := if AllFit l then (mergeL l, 0) else ([], 10)
theorem sumFit_pos {n : Int} (h : fits n) : sumFit n = (n, true) := by unfold sumFit; exact if_pos h
theorem sumFit_neg {n : Int} (h : ¬ fits n) : sumFit n = (0, false) := by unfold sumFit; exact if_neg h
theorem total_group (l : List S56) (hlen : l.length ≤ 1048576) (hl : ∀ x ∈ l, OkM x) (k : Int × Int) : Ev (fun n => api_Move_51.f n l (idxs keyM l k)) (sumFit (msum l k)) := by
  have h := total_ev l (idxs keyM l k) (idxs_bd keyM l k) (Nat.le_trans (idxs_length_le keyM l k) hlen) (fun x hx => (hl x hx).2.2)
  rw [idxs_vals keyM S56.f2 l k z56] at h
  exact h
theorem rawOf_length (l : List S56) (K : List (Int × Int)) : (rawOf l K).length ≤ K.length := List.length_filterMap_le _ _
def FitAll (l : List S56) (K : List (Int × Int)) : Prop := ∀ k ∈ K, fits (msum l k)
noncomputable instance (l : List S56) (K : List (Int × Int)) : Decidable (FitAll l K) := Classical.propDecidable _
theorem moves_loop (l : List S56) (hlen : l.length ≤ 1048576) (hl : ∀ x ∈ l, OkM x) (d : Nat) : ∀ (i : Nat), i + d = (keysOf keyM l).length →
    Ev (fun k => table_Moves.l0 k l (rawOf l ((keysOf keyM l).take i)) (groups keyM l) ((groups keyM l).length : Int) (i : Int))
      (if FitAll l ((keysOf keyM l).drop i) then (mergeL l, 0) else ([], 10)) := by
  have hkl := keysOf_length_le keyM l
  induction d with
  | zero =>
    intro i hi
    rw [List.drop_eq_nil_of_le (by omega), if_pos (by intro k hk; cases hk), List.take_of_length_le (by omega)]
    refine ev_const fun k => ?_
    rw [table_Moves.l0, if_neg (by rw [groups_length]; omega)]
    unfold api_Move_53.f
    have := rawOf_length l (keysOf keyM l)
    rw [if_pos (by omega)]
    rfl
  | succ d ih =>
    intro i hi
    have hlt : i < (keysOf keyM l).length := by omega
    have hlg : i < (groups keyM l).length := by rw [groups_length]; exact hlt
    obtain ⟨key, hkey⟩ : ∃ key, (keysOf keyM l)[i]? = some key := ⟨_, List.getElem?_eq_getElem hlt⟩
    have hmem := List.mem_of_getElem? hkey
    have hgi : rd_L2 (groups keyM l) (i : Int) = idxs keyM l key := by
      have h2 := groups_get keyM l i key hkey
      rw [rdL_of hlg]
      rw [List.getElem?_eq_getElem hlg] at h2
      exact Option.some.inj h2
    have hne := idxs_ne keyM l key ((mem_keysOf _ _ _).1 hmem)
    have hpos : 0 < (idxs keyM l key).length := List.length_pos_iff.2 hne
    have hmem0 : rd (idxs keyM l key) 0 ∈ idxs keyM l key := by
      have := rd_of hpos
      rw [show ((0 : Nat) : Int) = 0 from rfl] at this
      rw [this]
      exact List.getElem_mem hpos
    have hb := idxs_bd keyM l key _ hmem0
    have hk0 := idxs_key keyM l key z56 _ hmem0
    have ht := total_group l hlen hl key
    have hdrop : (keysOf keyM l).drop i = key :: (keysOf keyM l).drop (i + 1) := by
      rw [List.drop_eq_getElem_cons hlt]
      rw [List.getElem?_eq_getElem hlt] at hkey
      rw [Option.some.inj hkey]
    have htake : (keysOf keyM l).take (i + 1) = (keysOf keyM l).take i ++ [key] := by
      rw [List.take_succ_eq_append_getElem hlt]
      rw [List.getElem?_eq_getElem hlt] at hkey
      rw [Option.some.inj hkey]
    have hraw : (rawOf l ((keysOf keyM l).take i)).length ≤ l.length := by
      have h1 := rawOf_length l ((keysOf keyM l).take i)
      rw [List.length_take] at h1
      omega
    have hstep : ∀ k, table_Moves.l0 (k + 1) l (rawOf l ((keysOf keyM l).take i)) (groups keyM l) ((groups keyM l).length : Int) (i : Int) =
        (api_Move_51.f k l (idxs keyM l key)).bind fun bt => if bt.2 = true then (if bt.1 = 0 then table_Moves.l0 k l (rawOf l ((keysOf keyM l).take i)) (groups keyM l) ((groups keyM l).length : Int) ((i + 1 : Nat) : Int) else table_Moves.l0 k l (rawOf l ((keysOf keyM l).take i) ++ [⟨key.1, key.2, bt.1⟩]) (groups keyM l) ((groups keyM l).length : Int) ((i + 1 : Nat) : Int)) else some ([], 10) := by
      intro k
      rw [table_Moves.l0, if_pos (by omega), if_pos (by omega), if_pos (by omega), hgi, if_pos (by omega), if_pos hb.1, if_pos hb.2]
      have hl9 : (rawOf l ((keysOf keyM l).take i)).length < 5864062014805 := by omega
      have hw9 : wrap64 ((i : Int) + 1) = ((i + 1 : Nat) : Int) := w1 (by omega)
      have e0 : (rd_T56 l (rd (idxs keyM l key) 0)).f0 = key.1 := congrArg Prod.fst hk0
      have e1 : (rd_T56 l (rd (idxs keyM l key) 0)).f1 = key.2 := congrArg Prod.snd hk0
      simp only [e0, e1, hl9, hw9, if_true]
    refine Ev.step hstep ?_
    refine Ev.bind ht ?_
    rw [hdrop]
    by_cases hf : fits (msum l key)
    · rw [sumFit_pos hf]
      have hif : (if FitAll l (key :: (keysOf keyM l).drop (i + 1)) then (mergeL l, (0 : Int)) else ([], 10)) = (if FitAll l ((keysOf keyM l).drop (i + 1)) then (mergeL l, 0) else ([], 10)) := by
        by_cases c : FitAll l ((keysOf keyM l).drop (i + 1))
        · rw [if_pos c, if_pos (by intro k hk; rcases List.mem_cons.1 hk with rfl | hk; exact hf; exact c k hk)]
        · rw [if_neg c, if_neg (fun h => c (fun k hk => h k (List.mem_cons_of_mem _ hk)))]
      rw [hif]
      have hi2 := ih (i + 1) (by omega)
      rw [htake] at hi2
      unfold rawOf at hi2
      rw [List.filterMap_append] at hi2
      simp only [if_true]
      by_cases hz : msum l key = 0
      · simp only [hz, if_true]
        simp only [List.filterMap_cons, hz, if_true, List.filterMap_nil, List.append_nil] at hi2
        exact hi2
      · simp only [hz, if_false]
        simp only [List.filterMap_cons, hz, if_false, List.filterMap_nil] at hi2
        exact hi2
    · rw [sumFit_neg hf, if_neg (fun h => hf (h key List.mem_cons_self))]
      exact Ev.now _
theorem okM_good {x : S56} (h : OkM x) : good2 (keyM x) = true := by
  obtain ⟨h0, h1, _⟩ := h
  unfold fits at h0 h1
  unfold good2 keyM
  rw [wf_i64 h0.1 h0.2, wf_i64 h1.1 h1.2]
  rfl
theorem moves_ev (l : List S56) (hlen : l.length ≤ 1048576) (hl : ∀ x ∈ l, OkM x) : Ev (fun k => table_Moves.f k l) (mergeR l) := by
  unfold table_Moves.f
  refine Ev.bind (a := groups keyM l) ⟨l.length + 1, fun k hk => gatherM_eq l hlen (fun x hx => okM_good (hl x hx)) (by omega)⟩ ?_
  have h := moves_loop l hlen hl (keysOf keyM l).length 0 (by omega)
  have e : (if FitAll l ((keysOf keyM l).drop 0) then (mergeL l, (0 : Int)) else ([], 10)) = mergeR l := by
    unfold mergeR
    by_cases c : AllFit l
    · rw [if_pos c, if_pos (show FitAll l ((keysOf keyM l).drop 0) from c)]
    · rw [if_neg c, if_neg (show ¬ FitAll l ((keysOf keyM l).drop 0) from c)]
  rw [e] at h
  exact h
theorem lt_move (x y : S56) : (ltOf cfMove x y = true) ↔ mlt x y := ltMove_eq x y
theorem mergeL_is (l : List S56) : IsMerge l (mergeL l) := by
  obtain ⟨hp, hs⟩ := srtL_spec swoMove (rawOf l (keysOf keyM l))
  have hmem : ∀ m, m ∈ mergeL l ↔ keyM m ∈ keysOf keyM l ∧ m.f2 = msum l (keyM m) ∧ m.f2 ≠ 0 := by
    intro m
    unfold mergeL
    rw [hp.mem_iff]
    unfold rawOf
    rw [List.mem_filterMap]
    constructor
    · rintro ⟨k, hk, he⟩
      split at he
      · cases he
      · rename_i hz
        injection he with he
        subst he
        exact ⟨hk, rfl, hz⟩
    · rintro ⟨h1, h2, h3⟩
      refine ⟨keyM m, h1, ?_⟩
      rw [if_neg (by rw [← h2]; exact h3), ← h2]
      rfl
  refine ⟨?_, hmem⟩
  have hnd : ((mergeL l).map keyM).Nodup := by
    have h1 : ((rawOf l (keysOf keyM l)).map keyM).Nodup := by
      have h2 : (rawOf l (keysOf keyM l)).map keyM = (keysOf keyM l).filter (fun k => decide (msum l k ≠ 0)) := by
        unfold rawOf
        generalize keysOf keyM l = K
        induction K with
        | nil => rfl
        | cons k K ih =>
          rw [List.filterMap_cons, List.filter_cons]
          by_cases hz : msum l k = 0
          · simp [hz, ih]
          · simp [hz, ih]; rfl
      rw [h2]
      exact (nodup_keysOf keyM l).sublist List.filter_sublist
    exact ((hp.map keyM).nodup_iff).2 h1
  have hpair : (mergeL l).Pairwise (fun x y => ltOf cfMove y x = false ∧ keyM x ≠ keyM y) := by
    rw [List.pairwise_and_iff]
    exact ⟨hs, by rw [List.Nodup, List.pairwise_map] at hnd; exact hnd⟩
  refine hpair.imp ?_
  rintro x y ⟨h1, h2⟩
  rw [← Bool.not_eq_true, lt_move] at h1
  have h3 : ¬ (x.f0 = y.f0 ∧ x.f1 = y.f1) := fun h => h2 (by unfold keyM; rw [h.1, h.2])
  unfold mlt at *
  omega
theorem mergeL_length (l : List S56) : (mergeL l).length ≤ l.length := by
  unfold mergeL
  rw [srtL_length swoMove]
  exact Nat.le_trans (rawOf_length _ _) (keysOf_length_le _ _)
def alt (a b : S42) : Prop := a.f0 < b.f0 ∨ a.f0 = b.f0 ∧ (a.f1 < b.f1 ∨ a.f1 = b.f1 ∧ a.f3 < b.f3)
instance (a b : S42) : Decidable (alt a b) := by unfold alt; exact inferInstance
def asum (l : List S42) (k : Int × Int × Int) : Int := sumK keyA S42.f2 l k
def AllFitA (l : List S42) : Prop := ∀ k ∈ keysOf keyA l, fits (asum l k)
noncomputable instance (l : List S42) : Decidable (AllFitA l) := Classical.propDecidable _
def FitAllA (l : List S42) (K : List (Int × Int × Int)) : Prop := ∀ k ∈ K, fits (asum l k)
noncomputable instance (l : List S42) (K : List (Int × Int × Int)) : Decidable (FitAllA l K) := Classical.propDecidable _
end Go.Proofs.Ytlcbpaenjjeenaa.P
end
section
namespace Go.Proofs.Ytlcbpaenjjeenaa.R
open Go.RowKit Go.Proofs.Ytlcbpaenjjeenaa.Q Go.Proofs.YtlcbpaenjjeenaaW.PrintWords Go.Proofs.YtlcbpaenjjeenaaW.PrintLast Go.Proofs.YtlcbpaenjjeenaaW.PrintMore
open Go.ChangeShapes Go.WideShapes Go.Deep
def Reads (t : TypeId) {α : Type} (d : Kd α) (G : Nat → α → Prop) : Prop :=
  ∀ {H : Type} (enc : TypeId × Value → H) (w : World) (base : Nat) (spare : Nat → Bool) (held : Bool) (fuel : Nat) (cs : List Value) (x : DataW H × List MemPlace),
    DataW.trod enc Try.prog w base spare held fuel t cs = some x → ∃ a, d.K w a cs ∧ ∀ N, Rows.uptoBulk x.1 ≤ N → G N a
def gInt (k : IntKind) (_ : Nat) (n : Int) : Prop := (Lit.int k n).wf = true
def gList {α : Type} (G : Nat → α → Prop) (N : Nat) (l : List α) : Prop := l.length ≤ maxLen ∧ l.length ≤ N ∧ ∀ x ∈ l, G N x
theorem readsInt {t : TypeId} {k : IntKind} (ht : Try.prog.underlying t = some (.int k)) : Reads t (Kd.int k) (gInt k) := by
  intro H enc w base spare held fuel cs x h
  obtain ⟨n, rfl, rfl, hw⟩ := DataW.trod_int ht h
  exact ⟨n, rfl, fun _ _ => hw⟩
theorem one_le {H : Type} (d : DataW H) : 1 ≤ Rows.uptoBulk d := by
  cases d with
  | lit l => cases l <;> simp [Rows.uptoBulk]
  | nil => simp [Rows.uptoBulk]
  | ptr d => simp [Rows.uptoBulk]
  | slice elems spare => simp [Rows.uptoBulk]
  | agg parts => simp [Rows.uptoBulk]
  | iface t d => simp [Rows.uptoBulk]
  | map entries => simp [Rows.uptoBulk]
  | held h => simp [Rows.uptoBulk]
theorem part_le {H : Type} {d : DataW H} {l : List (DataW H)} (h : d ∈ l) : Rows.uptoBulk d ≤ Rows.uptoBulkAll l := by
  induction l with
  | nil => cases h
  | cons x r ih =>
    simp only [Rows.uptoBulkAll]
    cases List.mem_cons.1 h with
    | inl e => subst e; omega
    | inr e => have := ih e; omega
theorem length_le {H : Type} (l : List (DataW H)) : l.length ≤ Rows.uptoBulkAll l := by
  induction l with
  | nil => simp [Rows.uptoBulkAll]
  | cons x r ih => have := one_le x; simp only [Rows.uptoBulkAll, List.length_cons]; omega
theorem readsSlice {t e : TypeId} {α : Type} [Inhabited α] {d : Kd α} {G : Nat → α → Prop} (ht : Try.prog.underlying t = some (.slice e)) (hc : Try.prog.cellsOf e = d.sz) (R : Reads e d G) : Reads t (Kd.slice e d) (gList G) := by
  intro H enc w base spare held fuel cs x h
  rcases open_slice ht h with ⟨rfl, rfl⟩ | ⟨a, len, cap, m, n, D, Pl, rfl, hb, hl, hm, hmm, rfl, hx⟩
  · exact ⟨[], ⟨none, 0, rfl, Nat.le_refl _, Kd.C_nil d w⟩, fun N _ => ⟨Nat.zero_le _, Nat.zero_le _, fun x hx => by cases hx⟩⟩
  · have hlm : len ≤ m := by rw [hmm]; split <;> omega
    obtain ⟨f, hf⟩ := choose_lt (α := α) (n := m) (p := fun i y => ∃ c, c.length = d.sz ∧ d.K w y c ∧ (∀ j u, c[j]? = some u → w.cell? (a.add (i * d.sz + j)) = some u) ∧ ∀ N, Rows.uptoBulk (D i) ≤ N → G N y) (fun i hi => by
      obtain ⟨c, h1, h2⟩ := hx i hi
      obtain ⟨y, hK, hG⟩ := R enc w base spare held n c _ h2
      obtain ⟨_, hlen, hcell⟩ := World.cells?_some h1
      rw [hc] at hlen hcell
      refine ⟨y, c, hlen, hK, fun j u hu => ?_, hG⟩
      have hj : j < d.sz := by rw [← hlen]; exact (List.getElem?_eq_some_iff.1 hu).1
      have := hcell j hj
      rw [Deep.add_add] at this
      rw [this, hu])
    have hL : ((List.range len).map f).length = len := by simp
    refine ⟨(List.range len).map f, ⟨some a, cap, by rw [hL], by rw [hL]; exact hl, ?_⟩, fun N hN => ?_⟩
    · refine ⟨rfl, by rw [hL]; exact Nat.le_trans hl (Nat.le_trans hm (by decide)), fun _ => ⟨a, rfl, fun j p hj => ?_⟩⟩
      have hjl : j < len := by
        have := (List.getElem?_eq_some_iff.1 hj).1
        rwa [hL] at this
      have hp : f j = p := by
        rw [List.getElem?_map, List.getElem?_range hjl] at hj
        exact Option.some.inj hj
      obtain ⟨c, h1, h2, h3, _⟩ := hf j (by omega)
      rw [hp] at h2
      exact ⟨c, h1, h2, h3⟩
    · have hbulk : Rows.uptoBulkAll ((List.range len).map D) ≤ N := by
        simp only [Rows.uptoBulk] at hN
        omega
      refine ⟨by rw [hL]; omega, by rw [hL]; have := length_le ((List.range len).map D); simp at this; omega, fun y hy => ?_⟩
      obtain ⟨i, hi, rfl⟩ := List.mem_map.1 hy
      have hi' := List.mem_range.1 hi
      obtain ⟨c, _, _, _, hG⟩ := hf i (by omega)
      exact hG N (Nat.le_trans (part_le (List.mem_map.2 ⟨i, hi, rfl⟩)) hbulk)
instance : Inhabited S42 := ⟨z42⟩
structure S24 where
  f0 : Int
  f1 : Int
  f2 : Int
def z24 : S24 := ⟨(0 : Int), (0 : Int), (0 : Int)⟩
def k24 : Kd S24 := Kd.iso (Kd.pair (Kd.int .i64) (Kd.pair (Kd.int .i64) (Kd.int .i64))) (fun x : S24 => (x.f0, x.f1, x.f2))
instance : Inhabited S24 := ⟨z24⟩
def g24 (N : Nat) (x : S24) : Prop := gInt .i64 N x.f0 ∧ gInt .i64 N x.f1 ∧ gInt .i64 N x.f2
set_option maxRecDepth 100000 in
theorem reads24 : Reads 24 k24 g24 := by
  intro H enc w base spare held fuel cs x h
  obtain ⟨xs, n, _, hx, hl, hlen, hf⟩ := DataW.trod_struct Try.underlying24 h
  have hl2 : cs.length = 3 := hl.trans (by kernel_rfl)
  have hlen2 : xs.length = 3 := hlen
  match xs, hlen2, cs, hl2 with
  | [y0, y1, y2], _, [v0, v1, v2], _ =>
    have c0 : Try.prog.cellsOf 3 = 1 := by kernel_rfl
    have e0 : DataW.trod enc Try.prog w base spare held n 3 (List.take (Try.prog.cellsOf 3) (List.drop 0 [v0, v1, v2])) = some y0 := hf 0 _ rfl
    rw [c0] at e0
    obtain ⟨a0, K0, G0⟩ := (readsInt Try.underlying3) enc w base spare held n [v0] y0 e0
    have c1 : Try.prog.cellsOf 3 = 1 := by kernel_rfl
    have e1 : DataW.trod enc Try.prog w base spare held n 3 (List.take (Try.prog.cellsOf 3) (List.drop 1 [v0, v1, v2])) = some y1 := hf 1 _ rfl
    rw [c1] at e1
    obtain ⟨a1, K1, G1⟩ := (readsInt Try.underlying3) enc w base spare held n [v1] y1 e1
    have c2 : Try.prog.cellsOf 3 = 1 := by kernel_rfl
    have e2 : DataW.trod enc Try.prog w base spare held n 3 (List.take (Try.prog.cellsOf 3) (List.drop 2 [v0, v1, v2])) = some y2 := hf 2 _ rfl
    rw [c2] at e2
    obtain ⟨a2, K2, G2⟩ := (readsInt Try.underlying3) enc w base spare held n [v2] y2 e2
    refine ⟨⟨a0, a1, a2⟩, ⟨_, _, rfl, K0, ⟨_, _, rfl, K1, K2⟩⟩, fun N hN => ?_⟩
    rw [hx] at hN
    simp only [List.map_cons, List.map_nil, Rows.uptoBulk, Rows.uptoBulkAll] at hN
    exact ⟨G0 N (by omega), G1 N (by omega), G2 N (by omega)⟩
instance : Inhabited S70 := ⟨z70⟩
def g70 (N : Nat) (x : S70) : Prop := gInt .i64 N x.f0 ∧ gInt .i64 N x.f1
set_option maxRecDepth 100000 in
theorem reads70 : Reads 70 k70 g70 := by
  intro H enc w base spare held fuel cs x h
  obtain ⟨xs, n, _, hx, hl, hlen, hf⟩ := DataW.trod_struct Try.underlying70 h
  have hl2 : cs.length = 2 := hl.trans (by kernel_rfl)
  have hlen2 : xs.length = 2 := hlen
  match xs, hlen2, cs, hl2 with
  | [y0, y1], _, [v0, v1], _ =>
    have c0 : Try.prog.cellsOf 3 = 1 := by kernel_rfl
    have e0 : DataW.trod enc Try.prog w base spare held n 3 (List.take (Try.prog.cellsOf 3) (List.drop 0 [v0, v1])) = some y0 := hf 0 _ rfl
    rw [c0] at e0
    obtain ⟨a0, K0, G0⟩ := (readsInt Try.underlying3) enc w base spare held n [v0] y0 e0
    have c1 : Try.prog.cellsOf 3 = 1 := by kernel_rfl
    have e1 : DataW.trod enc Try.prog w base spare held n 3 (List.take (Try.prog.cellsOf 3) (List.drop 1 [v0, v1])) = some y1 := hf 1 _ rfl
    rw [c1] at e1
    obtain ⟨a1, K1, G1⟩ := (readsInt Try.underlying3) enc w base spare held n [v1] y1 e1
    refine ⟨⟨a0, a1⟩, ⟨_, _, rfl, K0, K1⟩, fun N hN => ?_⟩
    rw [hx] at hN
    simp only [List.map_cons, List.map_nil, Rows.uptoBulk, Rows.uptoBulkAll] at hN
    exact ⟨G0 N (by omega), G1 N (by omega)⟩
instance : Inhabited S56 := ⟨z56⟩
def g56 (N : Nat) (x : S56) : Prop := gInt .i64 N x.f0 ∧ gInt .i64 N x.f1 ∧ gInt .i64 N x.f2
set_option maxRecDepth 100000 in
theorem reads56 : Reads 56 k56 g56 := by
  intro H enc w base spare held fuel cs x h
  obtain ⟨xs, n, _, hx, hl, hlen, hf⟩ := DataW.trod_struct Try.underlying56 h
  have hl2 : cs.length = 3 := hl.trans (by kernel_rfl)
  have hlen2 : xs.length = 3 := hlen
  match xs, hlen2, cs, hl2 with
  | [y0, y1, y2], _, [v0, v1, v2], _ =>
    have c0 : Try.prog.cellsOf 3 = 1 := by kernel_rfl
    have e0 : DataW.trod enc Try.prog w base spare held n 3 (List.take (Try.prog.cellsOf 3) (List.drop 0 [v0, v1, v2])) = some y0 := hf 0 _ rfl
    rw [c0] at e0
    obtain ⟨a0, K0, G0⟩ := (readsInt Try.underlying3) enc w base spare held n [v0] y0 e0
    have c1 : Try.prog.cellsOf 3 = 1 := by kernel_rfl
    have e1 : DataW.trod enc Try.prog w base spare held n 3 (List.take (Try.prog.cellsOf 3) (List.drop 1 [v0, v1, v2])) = some y1 := hf 1 _ rfl
    rw [c1] at e1
    obtain ⟨a1, K1, G1⟩ := (readsInt Try.underlying3) enc w base spare held n [v1] y1 e1
    have c2 : Try.prog.cellsOf 3 = 1 := by kernel_rfl
    have e2 : DataW.trod enc Try.prog w base spare held n 3 (List.take (Try.prog.cellsOf 3) (List.drop 2 [v0, v1, v2])) = some y2 := hf 2 _ rfl
    rw [c2] at e2
    obtain ⟨a2, K2, G2⟩ := (readsInt Try.underlying3) enc w base spare held n [v2] y2 e2
    refine ⟨⟨a0, a1, a2⟩, ⟨_, _, rfl, K0, ⟨_, _, rfl, K1, K2⟩⟩, fun N hN => ?_⟩
    rw [hx] at hN
    simp only [List.map_cons, List.map_nil, Rows.uptoBulk, Rows.uptoBulkAll] at hN
    exact ⟨G0 N (by omega), G1 N (by omega), G2 N (by omega)⟩
end Go.Proofs.Ytlcbpaenjjeenaa.R
end
section
namespace Go.Proofs.Ytlcbpaenjjeenaa.Q
open Go.RowKit Go.Proofs.YtlcbpaenjjeenaaW.PrintWords Go.Proofs.YtlcbpaenjjeenaaW.PrintLast Go.Proofs.YtlcbpaenjjeenaaW.PrintMore
set_option linter.unusedVariables false
set_option linter.unusedSimpArgs false
theorem eqA56 (d : Nat) (w : World) (x0 y0 : Int) (x1 y1 : Int) (x2 y2 : Int) :
  (Op.equalIn (d + 2) 56 (.agg #[.int .i64 x0, .int .i64 x1, .int .i64 x2]) (.agg #[.int .i64 y0, .int .i64 y1, .int .i64 y2])).run Try.prog w = .ok (x0 == y0 && (x1 == y1 && (x2 == y2))) w := by
 refine eqA_of Try.underlying56 (by kernel_rfl) ?_; refine eqf_cons (by rfl) (by go_simp; rfl) (by go_simp; rfl) (by go_simp) ?_; refine eqf_cons (by rfl) (by go_simp; rfl) (by go_simp; rfl) (by go_simp) ?_; exact eqf_last (by rfl) (by go_simp; rfl) (by go_simp; rfl) (by go_simp)
attribute [local go_sem high] eqA56
def ebbtideref03_SameMoves.l0 : Nat → List (S56) → List (S56) → Int → Option (Bool)
 | 0, _, _, _ => none
 | k + 1, x0, x1, x5 => if x5 < (x0.length : Int) then (if 0 ≤ x5 then (if x5 < (x1.length : Int) then (if (!(((rd_T56 x0 x5).f0) == ((rd_T56 x1 x5).f0)) || (!(((rd_T56 x0 x5).f1) == ((rd_T56 x1 x5).f1)) || (!(((rd_T56 x0 x5).f2) == ((rd_T56 x1 x5).f2))))) = true then (some false) else (ebbtideref03_SameMoves.l0 k x0 x1 (wrap64 (x5 + 1)))) else (none)) else (none)) else (some true)
def ebbtideref03_SameMoves.f (k : Nat) (l0 : List (S56)) (l1 : List (S56)) : Option (Bool) := if (l0.length : Int) = (l1.length : Int) then (ebbtideref03_SameMoves.l0 k l0 l1 0) else (some false)
set_option maxHeartbeats 8000000 in
set_option maxRecDepth 100000 in
theorem ebbtideref03_SameMoves.calls (k : Nat) (A0 : Option Addr) (c0 : Nat) (l0 : List (S56)) (A1 : Option Addr) (c1 : Nat) (l1 : List (S56)) (r : Bool) (w : World) (hr0 : Kd.C k56 w A0 l0.length l0) (hc0 : l0.length ≤ c0) (hr1 : Kd.C k56 w A1 l1.length l1) (hc1 : l1.length ≤ c1) (h : ebbtideref03_SameMoves.f k l0 l1 = some r) :
  Calls Try.prog 33 #[.slice A0 l0.length c0, .slice A1 l1.length c1] w fun e w' => e = .returned (.bool r) ∧ Drawn0 w w' := by
 have hu56 := Try.underlying56; have HR0 := Aside0.mk hr0; have HC0 := Aside0.mk hc0; clear hr0 hc0; have HR1 := Aside0.mk hr1; have HC1 := Aside0.mk hc1; clear hr1 hc1; have H : (if (l0.length : Int) = (l1.length : Int) then (ebbtideref03_SameMoves.l0 k l0 l1 0) else (some false)) = some r := h; clear h
 by_cases c3 : (l0.length : Int) = (l1.length : Int)
 ·rw [if_pos c3] at H
  have c3b0 : ((l0.length : Int) == (l1.length : Int)) = true := beq_iff_eq.mpr c3; have c3b1 : ((l0.length : Int) != (l1.length : Int)) = false := bne_eq_false_iff_eq.mpr c3
  have c3b2 : (l0.length == l1.length) = true := by first | simpa using c3 | (simp at c3 ⊢; omega)
  clear c3; have H' := Aside0.mk H; clear H
  go_enter Try.func33, Try.ntmps33
  go_wp2
  repeat (go_quiet (fail); try go_wp2)
  go_loopg [5] k (fun kq v5 w' => ∃ (x5_1 : Int), v5 = .int .i64 x5_1 ∧ Aside0 (ebbtideref03_SameMoves.l0 kq l0 l1 x5_1 = some r) ∧ Aside0 (kq ≤ k) ∧ Drawn0 w w')
  case atStart => exact ⟨(0), (by first | rfl | (simp; done) | (simp [*]; done)), H', ⟨Nat.le_refl _⟩, by repeat (first | exact Drawn0.refl _ | apply Drawn0.step)⟩
  case round =>
   clear H'
   try clear c1
   try clear p2
   try clear c3
   try clear c3b0
   try clear c3b1
   try clear c3b2
   obtain ⟨x5_1, rfl, HA, HK1, ⟨m1, rfl⟩⟩ := hrel
   cases gk with
   | zero => exact absurd HA.out (by simp [ebbtideref03_SameMoves.l0])
   | succ k1 =>
    have H := HA.out; clear HA; simp only [ebbtideref03_SameMoves.l0] at H
    by_cases c4 : x5_1 < (l0.length : Int)
    ·rw [if_pos c4] at H
     have c4b0 : decide (x5_1 < (l0.length : Int)) = true := decide_eq_true c4; clear c4
     by_cases c5 : 0 ≤ x5_1
     ·rw [if_pos c5] at H
      have c5b0 : decide (0 ≤ x5_1) = true := decide_eq_true c5; clear c5
      by_cases c6 : x5_1 < (l1.length : Int)
      ·rw [if_pos c6] at H
       have c6b0 : decide (x5_1 < (l1.length : Int)) = true := decide_eq_true c6; clear c6
       by_cases c7 : (!(((rd_T56 l0 x5_1).f0) == ((rd_T56 l1 x5_1).f0)) || (!(((rd_T56 l0 x5_1).f1) == ((rd_T56 l1 x5_1).f1)) || (!(((rd_T56 l0 x5_1).f2) == ((rd_T56 l1 x5_1).f2))))) = true
       ·rw [if_pos c7] at H
        have c7b0 : (!(((rd_T56 l0 x5_1).f0) == ((rd_T56 l1 x5_1).f0)) || (!(((rd_T56 l0 x5_1).f1) == ((rd_T56 l1 x5_1).f1)) || (!(((rd_T56 l0 x5_1).f2) == ((rd_T56 l1 x5_1).f2))))) = true := c7; clear c7; obtain rfl := Option.some.inj H; have p422 : 0 ≤ (x5_1 : Int) := of_decide_eq_true (by first | (with_reducible assumption) | assumption); have q422 : x5_1 < (l0.length : Int) := of_decide_eq_true (by first | (with_reducible assumption) | assumption); obtain ⟨ad422, e422, hx422_0, hx422_1, hx422_2⟩ := at_T56 HR0.out x5_1 p422 q422; cases e422; replace p422 := eq_true p422; replace q422 := eq_true q422; have p423 : 0 ≤ (x5_1 : Int) := of_decide_eq_true (by first | (with_reducible assumption) | assumption); have q423 : x5_1 < (l1.length : Int) := of_decide_eq_true (by first | (with_reducible assumption) | assumption); obtain ⟨ad423, e423, hx423_0, hx423_1, hx423_2⟩ := at_T56 HR1.out x5_1 p423 q423; cases e423; replace p423 := eq_true p423; replace q423 := eq_true q423
        go_wp2
        repeat (go_quiet (fail); try go_wp2)
        go_ret
        exact ⟨by first | rfl | (simp; done) | (simp [*]; done), by repeat (first | exact Drawn0.refl _ | apply Drawn0.step)⟩
       ·rw [if_neg c7] at H
        have c7b0 : (!(((rd_T56 l0 x5_1).f0) == ((rd_T56 l1 x5_1).f0)) || (!(((rd_T56 l0 x5_1).f1) == ((rd_T56 l1 x5_1).f1)) || (!(((rd_T56 l0 x5_1).f2) == ((rd_T56 l1 x5_1).f2))))) = false := by simpa using c7
        clear c7; have H' := Aside0.mk H; clear H; have p422 : 0 ≤ (x5_1 : Int) := of_decide_eq_true (by first | (with_reducible assumption) | assumption); have q422 : x5_1 < (l0.length : Int) := of_decide_eq_true (by first | (with_reducible assumption) | assumption); obtain ⟨ad422, e422, hx422_0, hx422_1, hx422_2⟩ := at_T56 HR0.out x5_1 p422 q422; cases e422; replace p422 := eq_true p422; replace q422 := eq_true q422; have p423 : 0 ≤ (x5_1 : Int) := of_decide_eq_true (by first | (with_reducible assumption) | assumption); have q423 : x5_1 < (l1.length : Int) := of_decide_eq_true (by first | (with_reducible assumption) | assumption); obtain ⟨ad423, e423, hx423_0, hx423_1, hx423_2⟩ := at_T56 HR1.out x5_1 p423 q423; cases e423; replace p423 := eq_true p423; replace q423 := eq_true q423
        go_wp2
        repeat (go_quiet (fail); try go_wp2)
        go_roundg k1
        case measure => have := HK1.out; omega
        case rel => exact ⟨(wrap64 (x5_1 + 1)), (by first | rfl | (simp; done) | (simp [*]; done)), H', ⟨by have := HK1.out; omega⟩, by repeat (first | exact Drawn0.refl _ | apply Drawn0.step)⟩
      ·rw [if_neg c6] at H
       exact absurd H (by simp)
     ·rw [if_neg c5] at H
      exact absurd H (by simp)
    ·rw [if_neg c4] at H
     have c4b0 : decide (x5_1 < (l0.length : Int)) = false := decide_eq_false c4; clear c4; obtain rfl := Option.some.inj H
     go_wp2
     repeat (go_quiet (fail); try go_wp2)
     go_ret
     exact ⟨by first | rfl | (simp; done) | (simp [*]; done), by repeat (first | exact Drawn0.refl _ | apply Drawn0.step)⟩
 ·rw [if_neg c3] at H
  have c3b0 : ((l0.length : Int) == (l1.length : Int)) = false := beq_eq_false_iff_ne.mpr c3; have c3b1 : ((l0.length : Int) != (l1.length : Int)) = true := bne_iff_ne.mpr c3
  have c3b2 : (l0.length == l1.length) = false := by first | simpa using c3 | (simp at c3 ⊢; omega)
  obtain rfl := Option.some.inj H
  go_enter Try.func33, Try.ntmps33
  go_wp2
  repeat (go_quiet (fail); try go_wp2)
  go_ret
  exact ⟨by first | rfl | (simp; done) | (simp [*]; done), by repeat (first | exact Drawn0.refl _ | apply Drawn0.step)⟩
end Go.Proofs.Ytlcbpaenjjeenaa.Q
end
section
namespace Go.Proofs.Ytlcbpaenjjeenaa.Pure
open Go.RowKit Go.Proofs.Ytlcbpaenjjeenaa.Q Go.Proofs.Ytlcbpaenjjeenaa.P Go.Proofs.YtlcbpaenjjeenaaW.PrintWords Go.Proofs.YtlcbpaenjjeenaaW.PrintLast Go.Proofs.YtlcbpaenjjeenaaW.PrintMore
open Go.Proofs.Ytlcbpaenjjeenaa.R
theorem sameMoves_ev (l : List S56) (hl : l.length ≤ 4611686018427387904) : Ev (fun k => ebbtideref03_SameMoves.f k l l) true := by
  have hloop : ∀ d i, i + d = l.length → Ev (fun k => ebbtideref03_SameMoves.l0 k l l (i : Int)) true := by
    intro d
    induction d with
    | zero => intro i hi; exact ev_cst fun k => by rw [ebbtideref03_SameMoves.l0, if_neg (by omega)]
    | succ d ih =>
      intro i hi
      refine Ev.step (fun k => ?_) (ih (i + 1) (by omega))
      rw [ebbtideref03_SameMoves.l0, if_pos (by omega), if_pos (by omega), if_pos (by omega), if_neg (by simp), wrap1 (by omega)]
  refine Ev.congr (fun k => ?_) (hloop l.length 0 (by omega))
  unfold ebbtideref03_SameMoves.f
  rw [if_pos rfl]
  rfl
end Go.Proofs.Ytlcbpaenjjeenaa.Pure
end
section
namespace Go.Proofs.Ytlcbpaenjjeenaa.Q
open Go.RowKit Go.Proofs.YtlcbpaenjjeenaaW.PrintWords Go.Proofs.YtlcbpaenjjeenaaW.PrintLast Go.Proofs.YtlcbpaenjjeenaaW.PrintMore
set_option linter.unusedVariables false
set_option linter.unusedSimpArgs false
theorem eqA70 (d : Nat) (w : World) (x0 y0 : Int) (x1 y1 : Int) :
  (Op.equalIn (d + 2) 70 (.agg #[.int .i64 x0, .int .i64 x1]) (.agg #[.int .i64 y0, .int .i64 y1])).run Try.prog w = .ok (x0 == y0 && (x1 == y1)) w := by
 refine eqA_of Try.underlying70 (by kernel_rfl) ?_; refine eqf_cons (by rfl) (by go_simp; rfl) (by go_simp; rfl) (by go_simp) ?_; exact eqf_last (by rfl) (by go_simp; rfl) (by go_simp; rfl) (by go_simp)
attribute [local go_sem high] eqA70
def ebbtideref03_SameSlots.l0 : Nat → List (S70) → List (S70) → Int → Option (Bool)
 | 0, _, _, _ => none
 | k + 1, x0, x1, x5 => if x5 < (x0.length : Int) then (if 0 ≤ x5 then (if x5 < (x1.length : Int) then (if (!(((rd_T70 x0 x5).f0) == ((rd_T70 x1 x5).f0)) || (!(((rd_T70 x0 x5).f1) == ((rd_T70 x1 x5).f1)))) = true then (some false) else (ebbtideref03_SameSlots.l0 k x0 x1 (wrap64 (x5 + 1)))) else (none)) else (none)) else (some true)
def ebbtideref03_SameSlots.f (k : Nat) (l0 : List (S70)) (l1 : List (S70)) : Option (Bool) := if (l0.length : Int) = (l1.length : Int) then (ebbtideref03_SameSlots.l0 k l0 l1 0) else (some false)
set_option maxHeartbeats 8000000 in
set_option maxRecDepth 100000 in
theorem ebbtideref03_SameSlots.calls (k : Nat) (A0 : Option Addr) (c0 : Nat) (l0 : List (S70)) (A1 : Option Addr) (c1 : Nat) (l1 : List (S70)) (r : Bool) (w : World) (hr0 : Kd.C k70 w A0 l0.length l0) (hc0 : l0.length ≤ c0) (hr1 : Kd.C k70 w A1 l1.length l1) (hc1 : l1.length ≤ c1) (h : ebbtideref03_SameSlots.f k l0 l1 = some r) :
  Calls Try.prog 26 #[.slice A0 l0.length c0, .slice A1 l1.length c1] w fun e w' => e = .returned (.bool r) ∧ Drawn0 w w' := by
 have hu70 := Try.underlying70; have HR0 := Aside0.mk hr0; have HC0 := Aside0.mk hc0; clear hr0 hc0; have HR1 := Aside0.mk hr1; have HC1 := Aside0.mk hc1; clear hr1 hc1; have H : (if (l0.length : Int) = (l1.length : Int) then (ebbtideref03_SameSlots.l0 k l0 l1 0) else (some false)) = some r := h; clear h
 by_cases c3 : (l0.length : Int) = (l1.length : Int)
 ·rw [if_pos c3] at H
  have c3b0 : ((l0.length : Int) == (l1.length : Int)) = true := beq_iff_eq.mpr c3; have c3b1 : ((l0.length : Int) != (l1.length : Int)) = false := bne_eq_false_iff_eq.mpr c3
  have c3b2 : (l0.length == l1.length) = true := by first | simpa using c3 | (simp at c3 ⊢; omega)
  clear c3; have H' := Aside0.mk H; clear H
  go_enter Try.func26, Try.ntmps26
  go_wp2
  repeat (go_quiet (fail); try go_wp2)
  go_loopg [5] k (fun kq v5 w' => ∃ (x5_1 : Int), v5 = .int .i64 x5_1 ∧ Aside0 (ebbtideref03_SameSlots.l0 kq l0 l1 x5_1 = some r) ∧ Aside0 (kq ≤ k) ∧ Drawn0 w w')
  case atStart => exact ⟨(0), (by first | rfl | (simp; done) | (simp [*]; done)), H', ⟨Nat.le_refl _⟩, by repeat (first | exact Drawn0.refl _ | apply Drawn0.step)⟩
  case round =>
   clear H'
   try clear c1
   try clear c2
   try clear p2
   try clear c3
   try clear c3b0
   try clear c3b1
   try clear c3b2
   obtain ⟨x5_1, rfl, HA, HK1, ⟨m1, rfl⟩⟩ := hrel
   cases gk with
   | zero => exact absurd HA.out (by simp [ebbtideref03_SameSlots.l0])
   | succ k1 =>
    have H := HA.out; clear HA; simp only [ebbtideref03_SameSlots.l0] at H
    by_cases c4 : x5_1 < (l0.length : Int)
    ·rw [if_pos c4] at H
     have c4b0 : decide (x5_1 < (l0.length : Int)) = true := decide_eq_true c4; clear c4
     by_cases c5 : 0 ≤ x5_1
     ·rw [if_pos c5] at H
      have c5b0 : decide (0 ≤ x5_1) = true := decide_eq_true c5; clear c5
      by_cases c6 : x5_1 < (l1.length : Int)
      ·rw [if_pos c6] at H
       have c6b0 : decide (x5_1 < (l1.length : Int)) = true := decide_eq_true c6; clear c6
       by_cases c7 : (!(((rd_T70 l0 x5_1).f0) == ((rd_T70 l1 x5_1).f0)) || (!(((rd_T70 l0 x5_1).f1) == ((rd_T70 l1 x5_1).f1)))) = true
       ·rw [if_pos c7] at H
        have c7b0 : (!(((rd_T70 l0 x5_1).f0) == ((rd_T70 l1 x5_1).f0)) || (!(((rd_T70 l0 x5_1).f1) == ((rd_T70 l1 x5_1).f1)))) = true := c7; clear c7; obtain rfl := Option.some.inj H; have p315 : 0 ≤ (x5_1 : Int) := of_decide_eq_true (by first | (with_reducible assumption) | assumption); have q315 : x5_1 < (l0.length : Int) := of_decide_eq_true (by first | (with_reducible assumption) | assumption); obtain ⟨ad315, e315, hx315_0, hx315_1⟩ := at_T70 HR0.out x5_1 p315 q315; cases e315; replace p315 := eq_true p315; replace q315 := eq_true q315; have p316 : 0 ≤ (x5_1 : Int) := of_decide_eq_true (by first | (with_reducible assumption) | assumption); have q316 : x5_1 < (l1.length : Int) := of_decide_eq_true (by first | (with_reducible assumption) | assumption); obtain ⟨ad316, e316, hx316_0, hx316_1⟩ := at_T70 HR1.out x5_1 p316 q316; cases e316; replace p316 := eq_true p316; replace q316 := eq_true q316
        go_wp2
        repeat (go_quiet (fail); try go_wp2)
        go_ret
        exact ⟨by first | rfl | (simp; done) | (simp [*]; done), by repeat (first | exact Drawn0.refl _ | apply Drawn0.step)⟩
       ·rw [if_neg c7] at H
        have c7b0 : (!(((rd_T70 l0 x5_1).f0) == ((rd_T70 l1 x5_1).f0)) || (!(((rd_T70 l0 x5_1).f1) == ((rd_T70 l1 x5_1).f1)))) = false := by simpa using c7
        clear c7; have H' := Aside0.mk H; clear H; have p315 : 0 ≤ (x5_1 : Int) := of_decide_eq_true (by first | (with_reducible assumption) | assumption); have q315 : x5_1 < (l0.length : Int) := of_decide_eq_true (by first | (with_reducible assumption) | assumption); obtain ⟨ad315, e315, hx315_0, hx315_1⟩ := at_T70 HR0.out x5_1 p315 q315; cases e315; replace p315 := eq_true p315; replace q315 := eq_true q315; have p316 : 0 ≤ (x5_1 : Int) := of_decide_eq_true (by first | (with_reducible assumption) | assumption); have q316 : x5_1 < (l1.length : Int) := of_decide_eq_true (by first | (with_reducible assumption) | assumption); obtain ⟨ad316, e316, hx316_0, hx316_1⟩ := at_T70 HR1.out x5_1 p316 q316; cases e316; replace p316 := eq_true p316; replace q316 := eq_true q316
        go_wp2
        repeat (go_quiet (fail); try go_wp2)
        go_roundg k1
        case measure => have := HK1.out; omega
        case rel => exact ⟨(wrap64 (x5_1 + 1)), (by first | rfl | (simp; done) | (simp [*]; done)), H', ⟨by have := HK1.out; omega⟩, by repeat (first | exact Drawn0.refl _ | apply Drawn0.step)⟩
      ·rw [if_neg c6] at H
       exact absurd H (by simp)
     ·rw [if_neg c5] at H
      exact absurd H (by simp)
    ·rw [if_neg c4] at H
     have c4b0 : decide (x5_1 < (l0.length : Int)) = false := decide_eq_false c4; clear c4; obtain rfl := Option.some.inj H
     go_wp2
     repeat (go_quiet (fail); try go_wp2)
     go_ret
     exact ⟨by first | rfl | (simp; done) | (simp [*]; done), by repeat (first | exact Drawn0.refl _ | apply Drawn0.step)⟩
 ·rw [if_neg c3] at H
  have c3b0 : ((l0.length : Int) == (l1.length : Int)) = false := beq_eq_false_iff_ne.mpr c3; have c3b1 : ((l0.length : Int) != (l1.length : Int)) = true := bne_iff_ne.mpr c3
  have c3b2 : (l0.length == l1.length) = false := by first | simpa using c3 | (simp at c3 ⊢; omega)
  obtain rfl := Option.some.inj H
  go_enter Try.func26, Try.ntmps26
  go_wp2
  repeat (go_quiet (fail); try go_wp2)
  go_ret
  exact ⟨by first | rfl | (simp; done) | (simp [*]; done), by repeat (first | exact Drawn0.refl _ | apply Drawn0.step)⟩
end Go.Proofs.Ytlcbpaenjjeenaa.Q
end
