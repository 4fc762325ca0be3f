/- A part of the proof: words, contracts, plain lemmas. Conditions: none. -/
import Derived.Test.YtlcbpaenjjeenaaZTableMerges14
import Derived.Test.YtlcbpaenjjeenaaZTableMerges6
import Derived.Test.YtlcbpaenjjeenaaZTableMerges8
import Derived.Test.YtlcbpaenjjeenaaZTableMerges15
import Derived.Test.YtlcbpaenjjeenaaZTableMerges9
import Derived.Test.YtlcbpaenjjeenaaRows
import Derived.Test.YtlcbpaenjjeenaaZTableMerges3
import Derived.Deep.Slices
import Derived.ProofKit
import Derived.Test.YtlcbpaenjjeenaaZTableMerges11
import Derived.OpenShut
import Derived.WalkKit
import Derived.ShutString
section
namespace Go.Proofs.Ytlcbpaenjjeenaa.P
open Go.Sort hiding rd
open Go.RowKit Go.Proofs.Ytlcbpaenjjeenaa.Q Go.Proofs.YtlcbpaenjjeenaaW.PrintWords Go.Proofs.YtlcbpaenjjeenaaW.PrintLast Go.Proofs.YtlcbpaenjjeenaaW.PrintMore
def alt (a b : S42) : Prop := a.f0 < b.f0 ∨ a.f0 = b.f0 ∧ (a.f1 < b.f1 ∨ a.f1 = b.f1 ∧ a.f3 < b.f3)
instance (a b : S42) : Decidable (alt a b) := by unfold alt; exact inferInstance
def asum (l : List S42) (k : Int × Int × Int) : Int := sumK keyA S42.f2 l k
def AllFitA (l : List S42) : Prop := ∀ k ∈ keysOf keyA l, fits (asum l k)
noncomputable instance (l : List S42) : Decidable (AllFitA l) := Classical.propDecidable _
structure IsMergeA (l r : List S42) : Prop where
  sorted : r.Pairwise alt
  mem : ∀ m, m ∈ r ↔ keyA m ∈ keysOf keyA l ∧ m.f2 = asum l (keyA m)
theorem alt_irrefl (x : S42) : ¬ alt x x := by unfold alt; omega
theorem alt_asym (x y : S42) (h : alt x y) : ¬ alt y x := by unfold alt at *; omega
theorem isMergeA_unique {l r r' : List S42} (h : IsMergeA l r) (h' : IsMergeA l r') : r = r' :=
  sorted_ext alt_irrefl alt_asym h.sorted h'.sorted (fun x => by rw [h.mem, h'.mem])
theorem before_eq (e a : S42) : ebbtideref03_Before.f e.f0 e.f1 e.f3 a.f0 a.f1 a.f3 = some (decide (alt e a)) := by
  unfold ebbtideref03_Before.f
  by_cases c0 : e.f0 = a.f0
  · rw [if_pos c0]
    by_cases c1 : e.f1 = a.f1
    · rw [if_pos c1]; congr 1; rw [decide_eq_decide]; unfold alt; omega
    · rw [if_neg c1]; congr 1; rw [decide_eq_decide]; unfold alt; omega
  · rw [if_neg c0]; congr 1; rw [decide_eq_decide]; unfold alt; omega
theorem totalA_ev (l : List S42) (g : List Int) (hg : ∀ j ∈ g, 0 ≤ j ∧ j < (l.length : Int)) (hlen : g.length ≤ 1048576) (hl : ∀ x ∈ l, fits x.f2) :
    Ev (fun k => api_Arc_38.f k l g) (sumFit ((g.map fun j => (l.getD j.toNat z42).f2).sum)) := by
  have hloop : ∀ (d i : Nat), i + d = g.length → Ev (fun k => api_Arc_38.l0 k l (row g.length (fun j => if j < i then (rd_T42 l (g.getD j 0)).f2 else 0)) g (g.length : Int) (i : Int)) (sumFit ((g.map fun j => (l.getD j.toNat z42).f2).sum)) := by
    intro d
    induction d with
    | zero =>
      intro i hi
      have e : row g.length (fun j => if j < i then (rd_T42 l (g.getD j 0)).f2 else 0) = g.map fun j => (l.getD j.toNat z42).f2 := by
        apply List.ext_getElem?
        intro j
        rcases Nat.lt_or_ge j g.length with hj | hj
        · rw [row_get? _ _ _ hj, if_pos (by omega), List.getElem?_map, List.getElem?_eq_getElem hj, List.getD_eq_getElem?_getD, List.getElem?_eq_getElem hj]; rfl
        · rw [row_none _ _ _ hj, List.getElem?_eq_none (by rw [List.length_map]; exact hj)]
      have hs : checked_Sum.f (g.map fun j => (l.getD j.toNat z42).f2) = some (sumFit ((g.map fun j => (l.getD j.toNat z42).f2).sum)) := by
        refine csum_eq (by rw [List.length_map]; omega) (fun x hx => ?_)
        obtain ⟨j, hj, rfl⟩ := List.mem_map.1 hx
        have h1 := hg j hj
        have h2 : j.toNat < l.length := by omega
        rw [List.getD_eq_getElem?_getD, List.getElem?_eq_getElem h2]
        exact hl _ (List.getElem_mem h2)
      exact ev_const fun k => by rw [api_Arc_38.l0, if_neg (by omega), e, hs]; rfl
    | succ d ih =>
      intro i hi
      have hlt : i < g.length := by omega
      have h1 := hg g[i] (List.getElem_mem hlt)
      have hlen2 := row_length g.length (fun j => if j < i then (rd_T42 l (g.getD j 0)).f2 else 0)
      refine Ev.step (fun k => ?_) (ih (i + 1) (by omega))
      rw [api_Arc_38.l0, if_pos (by omega), if_pos (by omega), if_pos (by omega), rd_of hlt, if_pos h1.1, if_pos h1.2]
      simp only [table_Merge_1.f, Option.bind_some]
      rw [if_pos (by rw [hlen2]; omega), Int.toNat_natCast, row_set, w1 (by omega)]
      congr 1
      refine row_ext fun j hj => ?_
      by_cases c : j = i
      · subst c
        rw [if_pos rfl, if_pos (by omega), List.getD_eq_getElem?_getD, List.getElem?_eq_getElem hlt]; rfl
      · rw [if_neg c]
        by_cases c2 : j < i
        · rw [if_pos c2, if_pos (by omega)]
        · rw [if_neg c2, if_neg (by omega)]
  have h0 := hloop g.length 0 (by omega)
  refine Ev.congr (fun k => ?_) h0
  have e : row g.length (fun j => if j < 0 then (rd_T42 l (g.getD j 0)).f2 else 0) = row g.length (fun _ => (0 : Int)) := row_ext fun j _ => by rw [if_neg (by omega)]
  rw [e]
  unfold api_Arc_38.f
  rw [if_pos (by omega), if_pos (by omega), Int.toNat_natCast, row_replicate]
  rfl
def rawA (l : List S42) (K : List (Int × Int × Int)) : List S42 := K.map fun k => ⟨k.1, k.2.1, asum l k, k.2.2⟩
noncomputable def mergeA (l : List S42) : List S42 := srtL cfArc (rawA l (keysOf keyA l))
noncomputable def mergeAR (l : List S42) : List S42 × Int := if AllFitA l then (mergeA l, 0) else ([], 10)
theorem totalA_group (l : List S42) (hlen : l.length ≤ 1048576) (hl : ∀ x ∈ l, OkA x) (k : Int × Int × Int) : Ev (fun n => api_Arc_38.f n l (idxs keyA l k)) (sumFit (asum l k)) := by
  have h := totalA_ev l (idxs keyA l k) (idxs_bd keyA l k) (Nat.le_trans (idxs_length_le keyA l k) hlen) (fun x hx => (hl x hx).2.2.1)
  rw [idxs_vals keyA S42.f2 l k z42] at h
  exact h
def FitAllA (l : List S42) (K : List (Int × Int × Int)) : Prop := ∀ k ∈ K, fits (asum l k)
noncomputable instance (l : List S42) (K : List (Int × Int × Int)) : Decidable (FitAllA l K) := Classical.propDecidable _
theorem merge_loop (l : List S42) (hlen : l.length ≤ 1048576) (hl : ∀ x ∈ l, OkA x) (d : Nat) : ∀ (i : Nat), i + d = (keysOf keyA l).length →
    Ev (fun k => table_Merge.l0 k l (rawA l ((keysOf keyA l).take i)) (groups keyA l) ((groups keyA l).length : Int) (i : Int))
      (if FitAllA l ((keysOf keyA l).drop i) then (mergeA l, 0) else ([], 10)) := by
  have hkl := keysOf_length_le keyA l
  induction d with
  | zero =>
    intro i hi
    rw [List.drop_eq_nil_of_le (by omega), if_pos (by intro k hk; cases hk), List.take_of_length_le (by omega)]
    refine ev_const fun k => ?_
    rw [table_Merge.l0, if_neg (by rw [groups_length]; omega)]
    unfold api_Arc_40.f
    have : (rawA l (keysOf keyA l)).length = (keysOf keyA l).length := List.length_map _
    rw [if_pos (by omega)]
    rfl
  | succ d ih =>
    intro i hi
    have hlt : i < (keysOf keyA l).length := by omega
    have hlg : i < (groups keyA l).length := by rw [groups_length]; exact hlt
    obtain ⟨key, hkey⟩ : ∃ key, (keysOf keyA l)[i]? = some key := ⟨_, List.getElem?_eq_getElem hlt⟩
    have hmem := List.mem_of_getElem? hkey
    have hgi : rd_L2 (groups keyA l) (i : Int) = idxs keyA l key := by
      have h2 := groups_get keyA l i key hkey
      rw [rdL_of hlg]
      rw [List.getElem?_eq_getElem hlg] at h2
      exact Option.some.inj h2
    have hne := idxs_ne keyA l key ((mem_keysOf _ _ _).1 hmem)
    have hpos : 0 < (idxs keyA l key).length := List.length_pos_iff.2 hne
    have hmem0 : rd (idxs keyA l key) 0 ∈ idxs keyA l key := by
      have := rd_of hpos
      rw [show ((0 : Nat) : Int) = 0 from rfl] at this
      rw [this]
      exact List.getElem_mem hpos
    have hb := idxs_bd keyA l key _ hmem0
    have hk0 := idxs_key keyA l key z42 _ hmem0
    have ht := totalA_group l hlen hl key
    have hdrop : (keysOf keyA l).drop i = key :: (keysOf keyA l).drop (i + 1) := by
      rw [List.drop_eq_getElem_cons hlt]
      rw [List.getElem?_eq_getElem hlt] at hkey
      rw [Option.some.inj hkey]
    have htake : (keysOf keyA l).take (i + 1) = (keysOf keyA l).take i ++ [key] := by
      rw [List.take_succ_eq_append_getElem hlt]
      rw [List.getElem?_eq_getElem hlt] at hkey
      rw [Option.some.inj hkey]
    have hraw : (rawA l ((keysOf keyA l).take i)).length ≤ l.length := by
      unfold rawA
      rw [List.length_map, List.length_take]
      omega
    have hstep : ∀ k, table_Merge.l0 (k + 1) l (rawA l ((keysOf keyA l).take i)) (groups keyA l) ((groups keyA l).length : Int) (i : Int) =
        (api_Arc_38.f k l (idxs keyA l key)).bind fun bt => if bt.2 = true then table_Merge.l0 k l (rawA l ((keysOf keyA l).take i) ++ [⟨key.1, key.2.1, bt.1, key.2.2⟩]) (groups keyA l) ((groups keyA l).length : Int) ((i + 1 : Nat) : Int) else some ([], 10) := by
      intro k
      rw [table_Merge.l0, if_pos (by omega), if_pos (by omega), if_pos (by omega), hgi, if_pos (by omega), if_pos hb.1, if_pos hb.2]
      have hl9 : (rawA l ((keysOf keyA l).take i)).length < 4398046511104 := by omega
      have hw9 : wrap64 ((i : Int) + 1) = ((i + 1 : Nat) : Int) := w1 (by omega)
      have e0 : (rd_T42 l (rd (idxs keyA l key) 0)).f0 = key.1 := congrArg Prod.fst hk0
      have e1 : (rd_T42 l (rd (idxs keyA l key) 0)).f1 = key.2.1 := congrArg (fun z => z.2.1) hk0
      have e3 : (rd_T42 l (rd (idxs keyA l key) 0)).f3 = key.2.2 := congrArg (fun z => z.2.2) hk0
      simp only [e0, e1, e3, hl9, hw9, if_true]
    refine Ev.step hstep ?_
    refine Ev.bind ht ?_
    rw [hdrop]
    by_cases hf : fits (asum l key)
    · rw [sumFit_pos hf]
      have hif : (if FitAllA l (key :: (keysOf keyA l).drop (i + 1)) then (mergeA l, (0 : Int)) else ([], 10)) = (if FitAllA l ((keysOf keyA l).drop (i + 1)) then (mergeA l, 0) else ([], 10)) := by
        by_cases c : FitAllA l ((keysOf keyA l).drop (i + 1))
        · rw [if_pos c, if_pos (by intro k hk; rcases List.mem_cons.1 hk with rfl | hk; exact hf; exact c k hk)]
        · rw [if_neg c, if_neg (fun h => c (fun k hk => h k (List.mem_cons_of_mem _ hk)))]
      rw [hif]
      have hi2 := ih (i + 1) (by omega)
      rw [htake] at hi2
      unfold rawA at hi2
      rw [List.map_append] at hi2
      simp only [if_true]
      exact hi2
    · rw [sumFit_neg hf, if_neg (fun h => hf (h key List.mem_cons_self))]
      exact Ev.now _
theorem merge_ev (l : List S42) (hlen : l.length ≤ 1048576) (hl : ∀ x ∈ l, OkA x) : Ev (fun k => table_Merge.f k l) (mergeAR l) := by
  unfold table_Merge.f
  refine Ev.bind (groups_ev l hlen hl) ?_
  have h := merge_loop l hlen hl (keysOf keyA l).length 0 (by omega)
  have e : (if FitAllA l ((keysOf keyA l).drop 0) then (mergeA l, (0 : Int)) else ([], 10)) = mergeAR l := by
    unfold mergeAR
    by_cases c : AllFitA l
    · rw [if_pos c, if_pos (show FitAllA l ((keysOf keyA l).drop 0) from c)]
    · rw [if_neg c, if_neg (show ¬ FitAllA l ((keysOf keyA l).drop 0) from c)]
  rw [e] at h
  exact h
theorem lt_arc (x y : S42) : (ltOf cfArc x y = true) ↔ alt x y := ltArc_eq x y
theorem mergeA_is (l : List S42) : IsMergeA l (mergeA l) := by
  obtain ⟨hp, hs⟩ := srtL_spec swoArc (rawA l (keysOf keyA l))
  have hmem : ∀ m, m ∈ mergeA l ↔ keyA m ∈ keysOf keyA l ∧ m.f2 = asum l (keyA m) := by
    intro m
    unfold mergeA
    rw [hp.mem_iff]
    unfold rawA
    rw [List.mem_map]
    constructor
    · rintro ⟨k, hk, rfl⟩
      exact ⟨hk, rfl⟩
    · rintro ⟨h1, h2⟩
      refine ⟨keyA m, h1, ?_⟩
      rw [← h2]
      rfl
  refine ⟨?_, hmem⟩
  have hnd : ((mergeA l).map keyA).Nodup := by
    have h1 : ((rawA l (keysOf keyA l)).map keyA).Nodup := by
      have h2 : (rawA l (keysOf keyA l)).map keyA = keysOf keyA l := by
        unfold rawA
        rw [List.map_map]
        exact (List.map_congr_left fun k _ => rfl).trans (List.map_id _)
      rw [h2]
      exact nodup_keysOf keyA l
    exact ((hp.map keyA).nodup_iff).2 h1
  have hpair : (mergeA l).Pairwise (fun x y => ltOf cfArc y x = false ∧ keyA x ≠ keyA y) := by
    rw [List.pairwise_and_iff]
    exact ⟨hs, by rw [List.Nodup, List.pairwise_map] at hnd; exact hnd⟩
  refine hpair.imp ?_
  rintro x y ⟨h1, h2⟩
  rw [← Bool.not_eq_true, lt_arc] at h1
  have h3 : ¬ (x.f0 = y.f0 ∧ x.f1 = y.f1 ∧ x.f3 = y.f3) := fun h => h2 (by unfold keyA; rw [h.1, h.2.1, h.2.2])
  unfold alt at *
  omega
theorem mergeA_length (l : List S42) : (mergeA l).length = (keysOf keyA l).length := by
  unfold mergeA
  rw [srtL_length swoArc]
  exact List.length_map _
theorem alt_trans {a b c : S42} (h : alt a b) (k : alt b c) : alt a c := by unfold alt at *; omega
theorem alt_of_not {a b : S42} (h : ¬ alt a b) (k : keyA b ≠ keyA a) : alt b a := by
  have : ¬ (b.f0 = a.f0 ∧ b.f1 = a.f1 ∧ b.f3 = a.f3) := fun h => k (by unfold keyA; rw [h.1, h.2.1, h.2.2])
  unfold alt at *
  omega
theorem insA_ev (l : List S42) (x5 : List (List Int)) (x6 : Int) (R : List S42 × Int) : ∀ (n : Nat) (A B : List S42) (e : S42), A.length = n → n + B.length ≤ 4611686018427387904 → (A ++ B).Pairwise alt → (∀ b ∈ B, alt e b) → (∀ a ∈ A, keyA a ≠ keyA e) →
    (∀ L : List S42, L.Pairwise alt → (∀ m, m ∈ L ↔ m = e ∨ m ∈ A ++ B) → L.length = A.length + B.length + 1 → Ev (fun k => ebbtideref03_Merge.l0 k l L x5 (wrap64 (x6 + 1))) R) → Ev (fun k => ebbtideref03_Merge.l2 k l (A ++ e :: B) x5 x6 (n : Int)) R := by
  intro n
  induction n with
  | zero =>
    intro A B e hA hn hs hB hne hc
    obtain rfl : A = [] := List.eq_nil_of_length_eq_zero hA
    refine Ev.step (fun k => by rw [ebbtideref03_Merge.l2, if_neg (by omega)]; rfl) (hc (e :: B) ?_ ?_ ?_)
    · rw [List.pairwise_cons]; exact ⟨hB, hs⟩
    · intro m; simp
    · simp
  | succ n ih =>
    intro A B e hA hn hs hB hne hc
    obtain ⟨A', a, rfl⟩ : ∃ A' a, A = A' ++ [a] := ⟨A.dropLast, A.getLast (fun h => by rw [h] at hA; cases hA), (List.dropLast_concat_getLast _).symm⟩
    have hA' : A'.length = n := by simpa using hA
    subst hA'
    have g1 : rd_T42 (A' ++ [a] ++ e :: B) ((A'.length + 1 : Nat) : Int) = e := by
      unfold rd_T42
      rw [Int.toNat_natCast, List.getD_eq_getElem?_getD, List.getElem?_append_right (by simp)]
      simp
    have g0 : rd_T42 (A' ++ [a] ++ e :: B) (A'.length : Int) = a := by
      unfold rd_T42
      rw [Int.toNat_natCast, List.getD_eq_getElem?_getD, List.append_assoc, List.getElem?_append_right (Nat.le_refl _)]
      simp
    have hw : wrap64 (((A'.length + 1 : Nat) : Int) - 1) = (A'.length : Int) := by unfold wrap64; omega
    have hlen : (A' ++ [a] ++ e :: B).length = A'.length + 1 + (B.length + 1) := by simp; omega
    have hsw : ((A' ++ [a] ++ e :: B).set (A'.length + 1) a).set A'.length e = A' ++ e :: a :: B := by
      rw [List.set_append_right _ _ (by simp)]
      simp only [List.length_append, List.length_singleton, Nat.sub_self, List.set_cons_zero]
      rw [List.append_assoc, List.set_append_right _ _ (Nat.le_refl _)]
      simp
    have hstep : ∀ k, ebbtideref03_Merge.l2 (k + 1) l (A' ++ [a] ++ e :: B) x5 x6 ((A'.length + 1 : Nat) : Int) = if alt e a then ebbtideref03_Merge.l2 k l (A' ++ e :: a :: B) x5 x6 (A'.length : Int) else ebbtideref03_Merge.l0 k l (A' ++ [a] ++ e :: B) x5 (wrap64 (x6 + 1)) := by
      intro k
      rw [ebbtideref03_Merge.l2, if_pos (by omega), if_pos (by omega), if_pos (by omega), hw, g1, g0]
      simp only [ebbtideref03_Of.f, Option.bind_some]
      rw [if_pos (by omega), if_pos (by omega), before_eq]
      simp only [Option.bind_some, Int.toNat_natCast, decide_eq_true_eq]
      rw [show ((⟨a.f0, a.f1, a.f2, a.f3⟩ : S42)) = a from rfl, show ((⟨e.f0, e.f1, e.f2, e.f3⟩ : S42)) = e from rfl, hsw]
    rw [List.append_assoc, List.singleton_append] at hs
    refine Ev.step hstep ?_
    by_cases c : alt e a
    · simp only [c, if_true]
      refine ih A' (a :: B) e rfl (by simp at hn ⊢; omega) hs (fun b hb => ?_) (fun x hx => hne x (List.mem_append_left _ hx)) (fun L h1 h2 h3 => hc L h1 (fun m => ?_) (by simp at h3 ⊢; omega))
      · rcases List.mem_cons.1 hb with rfl | hb
        · exact c
        · exact hB b hb
      · rw [h2]; simp
    · simp only [c, if_false]
      have hae : alt a e := alt_of_not c (hne a (by simp))
      rw [List.pairwise_append] at hs
      obtain ⟨hs1, hs2, hs3⟩ := hs
      rw [List.pairwise_cons] at hs2
      refine hc _ ?_ (fun m => ?_) (by simp; omega)
      · rw [List.append_assoc, List.singleton_append, List.pairwise_append]
        refine ⟨hs1, ?_, ?_⟩
        · rw [List.pairwise_cons, List.pairwise_cons]
          refine ⟨fun b hb => ?_, hB, hs2.2⟩
          rcases List.mem_cons.1 hb with rfl | hb
          · exact hae
          · exact hs2.1 b hb
        · intro x hx b hb
          rcases List.mem_cons.1 hb with rfl | hb
          · exact hs3 x hx _ List.mem_cons_self
          · rcases List.mem_cons.1 hb with rfl | hb
            · exact alt_trans (hs3 x hx a List.mem_cons_self) hae
            · exact hs3 x hx b (List.mem_cons_of_mem _ hb)
      · simp only [List.mem_append, List.mem_cons, List.not_mem_nil, or_false]
        constructor
        · rintro ((h | h) | h | h)
          · exact .inr (.inl (.inl h))
          · exact .inr (.inl (.inr h))
          · exact .inl h
          · exact .inr (.inr h)
        · rintro (h | (h | h) | h)
          · exact .inr (.inl h)
          · exact .inl (.inl h)
          · exact .inl (.inr h)
          · exact .inr (.inr h)
theorem rcaps_ev (l : List S42) (hlen : l.length ≤ 1048576) (L : List S42) (i : Nat) (hi : i < (groups keyA l).length) (key : Int × Int × Int) (hgi : rd_L2 (groups keyA l) (i : Int) = idxs keyA l key) (y0 y1 y2 y3 : Int) (R : List S42 × Int)
    (hend : Ev (fun k => (ebbtideref01_Sum.f k ((idxs keyA l key).map fun p => (l.getD p.toNat z42).f2)).bind fun bt226 => (if bt226.2 = true then (if L.length < 4398046511104 then ((some (L ++ [(⟨y0, y1, bt226.1, y3⟩ : S42)] : List (S42))).bind fun y228 => (ebbtideref03_Merge.l2 k l y228 (groups keyA l) (i : Int) (wrap64 ((y228.length : Int) - 1)))) else (none)) else (some (([] : List (S42)), 10)))) R) (d : Nat) :
    ∀ j, j + d = (idxs keyA l key).length → Ev (fun k => ebbtideref03_Merge.l1 k l L (groups keyA l) (i : Int) (((idxs keyA l key).take j).map fun p => (l.getD p.toNat z42).f2) (j : Int) y0 y1 y2 y3) R := by
  have hkl := idxs_length_le keyA l key
  induction d with
  | zero =>
    intro j hj
    refine Ev.step (fun k => ?_) hend
    rw [ebbtideref03_Merge.l1, if_pos (by omega), if_pos (by omega), hgi, if_neg (by omega), List.take_of_length_le (by omega)]
  | succ d ih =>
    intro j hj
    have hlt : j < (idxs keyA l key).length := by omega
    have hb := idxs_bd keyA l key _ (List.getElem_mem hlt)
    have hi2 := ih (j + 1) (by omega)
    rw [List.take_succ_eq_append_getElem hlt, List.map_append, List.map_cons, List.map_nil] at hi2
    refine Ev.step (fun k => ?_) hi2
    rw [ebbtideref03_Merge.l1, if_pos (by omega), if_pos (by omega), hgi, if_pos (by omega), if_pos (by omega), rd_of hlt, if_pos hb.1, if_pos hb.2, if_pos (by rw [List.length_map, List.length_take]; omega), wrap1 (by omega)]
    rfl
structure PreA (l : List S42) (i : Nat) (L : List S42) : Prop where
  sorted : L.Pairwise alt
  mem : ∀ m, m ∈ L ↔ keyA m ∈ (keysOf keyA l).take i ∧ m.f2 = asum l (keyA m)
  len : L.length ≤ i
theorem s42_ext {x y : S42} (hk : keyA x = keyA y) (h : x.f2 = y.f2) : x = y := by
  unfold keyA at hk
  simp only [Prod.mk.injEq] at hk
  cases x; cases y; simp_all
theorem rmerge_loop (l : List S42) (hlen : l.length ≤ 1048576) (hl : ∀ x ∈ l, OkA x) (d : Nat) : ∀ (i : Nat) (L : List S42), i + d = (keysOf keyA l).length → PreA l i L → (∀ k ∈ (keysOf keyA l).take i, fits (asum l k)) →
    Ev (fun k => ebbtideref03_Merge.l0 k l L (groups keyA l) (i : Int)) (mergeAR l) := by
  have hkl := keysOf_length_le keyA l
  induction d with
  | zero =>
    intro i L hi hp hf
    refine ev_const fun k => ?_
    rw [ebbtideref03_Merge.l0, if_neg (by rw [groups_length]; omega)]
    rw [List.take_of_length_le (by omega)] at hf
    have hpm := hp.mem
    rw [List.take_of_length_le (by omega)] at hpm
    unfold mergeAR
    rw [if_pos (show AllFitA l from hf), isMergeA_unique (⟨hp.sorted, hpm⟩ : IsMergeA l L) (mergeA_is l)]
  | succ d ih =>
    intro i L hi hp hf
    have hlt : i < (keysOf keyA l).length := by omega
    have hlg : i < (groups keyA l).length := by rw [groups_length]; exact hlt
    obtain ⟨key, hkey⟩ : ∃ key, (keysOf keyA l)[i]? = some key := ⟨_, List.getElem?_eq_getElem hlt⟩
    have hmem := List.mem_of_getElem? hkey
    have hgi : rd_L2 (groups keyA l) (i : Int) = idxs keyA l key := by
      have h2 := groups_get keyA l i key hkey
      rw [rdL_of hlg]
      rw [List.getElem?_eq_getElem hlg] at h2
      exact Option.some.inj h2
    have hne := idxs_ne keyA l key ((mem_keysOf _ _ _).1 hmem)
    have hpos : 0 < (idxs keyA l key).length := List.length_pos_iff.2 hne
    have hmem0 : rd (idxs keyA l key) 0 ∈ idxs keyA l key := by
      have := rd_of hpos
      rw [show ((0 : Nat) : Int) = 0 from rfl] at this
      rw [this]
      exact List.getElem_mem hpos
    have hb := idxs_bd keyA l key _ hmem0
    have hk0 := idxs_key keyA l key z42 _ hmem0
    have hil := idxs_length_le keyA l key
    have e0 : (rd_T42 l (rd (idxs keyA l key) 0)).f0 = key.1 := congrArg Prod.fst hk0
    have e1 : (rd_T42 l (rd (idxs keyA l key) 0)).f1 = key.2.1 := congrArg (fun z => z.2.1) hk0
    have e3 : (rd_T42 l (rd (idxs keyA l key) 0)).f3 = key.2.2 := congrArg (fun z => z.2.2) hk0
    have htake : (keysOf keyA l).take (i + 1) = (keysOf keyA l).take i ++ [key] := by
      rw [List.take_succ_eq_append_getElem hlt]
      rw [List.getElem?_eq_getElem hlt] at hkey
      rw [Option.some.inj hkey]
    have hfresh : key ∉ (keysOf keyA l).take i := by
      intro h
      obtain ⟨j, hj, he⟩ := List.mem_iff_getElem.1 h
      rw [List.length_take] at hj
      rw [List.getElem_take] at he
      have h2 := nodup_at (nodup_keysOf keyA l) (i := j) (j := i) (k := key) (by rw [List.getElem?_eq_getElem (by omega), he]) hkey
      omega
    have hsev : Ev (fun k => ebbtideref01_Sum.f k ((idxs keyA l key).map fun p => (l.getD p.toNat z42).f2)) (sumFit (asum l key)) := by
      have hv : ((idxs keyA l key).map fun p => (l.getD p.toNat z42).f2).sum = asum l key := by
        rw [idxs_vals keyA S42.f2 l key z42]
        rfl
      rw [← hv]
      refine ⟨l.length + 1, fun k hk => rsum_eq (by rw [List.length_map]; omega) (fun x hx => ?_) (by rw [List.length_map]; omega)⟩
      obtain ⟨p, hpm, rfl⟩ := List.mem_map.1 hx
      have h1 := idxs_bd keyA l key p hpm
      have h2 : p.toNat < l.length := by omega
      rw [List.getD_eq_getElem?_getD, List.getElem?_eq_getElem h2]
      exact (hl _ (List.getElem_mem h2)).2.2.1
    have hLl := hp.len
    refine Ev.step (fun k => ?_) (rcaps_ev l hlen L i hlg key hgi key.1 key.2.1 (rd_T42 l (rd (idxs keyA l key) 0)).f2 key.2.2 (mergeAR l) ?_ (idxs keyA l key).length 0 (by omega))
    · rw [ebbtideref03_Merge.l0, if_pos (by omega), if_pos (by omega), hgi, if_pos (by omega), if_pos hb.1, if_pos hb.2, e0, e1, e3]
      rfl
    · refine Ev.bind hsev ?_
      by_cases hfit : fits (asum l key)
      · rw [sumFit_pos hfit]
        have hLl2 : L.length < 4398046511104 := by omega
        simp only [if_true, hLl2, Option.bind_some]
        have hw : wrap64 (((L ++ [(⟨key.1, key.2.1, asum l key, key.2.2⟩ : S42)]).length : Int) - 1) = (L.length : Int) := by
          rw [List.length_append, List.length_singleton]; unfold wrap64; omega
        rw [hw]
        refine insA_ev l (groups keyA l) (i : Int) (mergeAR l) L.length L [] ⟨key.1, key.2.1, asum l key, key.2.2⟩ rfl (by simp; omega) (by simpa using hp.sorted) (fun b hb => by cases hb) (fun a ha he => ?_) (fun L' h1 h2 h3 => ?_)
        · have := ((hp.mem a).1 ha).1
          rw [he] at this
          exact hfresh this
        · rw [w1 (by omega)]
          refine ih (i + 1) L' (by omega) ⟨h1, fun m => ?_, by simp at h3; omega⟩ (by
            rw [htake]
            intro k hk
            rcases List.mem_append.1 hk with hk | hk
            · exact hf k hk
            · rw [List.mem_singleton.1 hk]; exact hfit)
          rw [h2, List.append_nil, hp.mem, htake, List.mem_append, List.mem_singleton]
          constructor
          · rintro (rfl | ⟨h4, h5⟩)
            · exact ⟨.inr rfl, rfl⟩
            · exact ⟨.inl h4, h5⟩
          · rintro ⟨h4 | h4, h5⟩
            · exact .inr ⟨h4, h5⟩
            · refine .inl (s42_ext h4 ?_)
              rw [h5, h4]
      · rw [sumFit_neg hfit]
        have hna : ¬ AllFitA l := fun h => hfit (h _ hmem)
        unfold mergeAR
        rw [if_neg hna]
        exact Ev.now _
theorem rmerge_ev (l : List S42) (hlen : l.length ≤ 1048576) (hl : ∀ x ∈ l, OkA x) : Ev (fun k => ebbtideref03_Merge.f k l) (mergeAR l) := by
  unfold ebbtideref03_Merge.f
  refine Ev.bind (rgroups_ev l hlen) ?_
  have h := rmerge_loop l hlen hl (keysOf keyA l).length 0 [] (by omega) ⟨List.Pairwise.nil, fun m => by simp, Nat.le_refl _⟩ (by simp)
  exact h
theorem sameArcs_ev (l : List S42) (hl : l.length ≤ 4611686018427387904) : Ev (fun k => ebbtideref03_SameArcs.f k l l) true := by
  have hloop : ∀ d i, i + d = l.length → Ev (fun k => ebbtideref03_SameArcs.l0 k l l (i : Int)) true := by
    intro d
    induction d with
    | zero => intro i hi; exact ev_cst fun k => by rw [ebbtideref03_SameArcs.l0, if_neg (by omega)]
    | succ d ih =>
      intro i hi
      refine Ev.step (fun k => ?_) (ih (i + 1) (by omega))
      rw [ebbtideref03_SameArcs.l0, if_pos (by omega), if_pos (by omega), if_pos (by omega), if_neg (by simp), wrap1 (by omega)]
  refine Ev.congr (fun k => ?_) (hloop l.length 0 (by omega))
  unfold ebbtideref03_SameArcs.f
  rw [if_pos rfl]
  rfl
end Go.Proofs.Ytlcbpaenjjeenaa.P
end
section
namespace Go.Proofs.Ytlcbpaenjjeenaa.R
open Go.RowKit Go.Proofs.Ytlcbpaenjjeenaa.Q Go.Proofs.YtlcbpaenjjeenaaW.PrintWords Go.Proofs.YtlcbpaenjjeenaaW.PrintLast Go.Proofs.YtlcbpaenjjeenaaW.PrintMore
open Go.ChangeShapes Go.WideShapes Go.Deep
def Reads (t : TypeId) {α : Type} (d : Kd α) (G : Nat → α → Prop) : Prop :=
  ∀ {H : Type} (enc : TypeId × Value → H) (w : World) (base : Nat) (spare : Nat → Bool) (held : Bool) (fuel : Nat) (cs : List Value) (x : DataW H × List MemPlace),
    DataW.trod enc Try.prog w base spare held fuel t cs = some x → ∃ a, d.K w a cs ∧ ∀ N, Rows.uptoBulk x.1 ≤ N → G N a
def gInt (k : IntKind) (_ : Nat) (n : Int) : Prop := (Lit.int k n).wf = true
def gList {α : Type} (G : Nat → α → Prop) (N : Nat) (l : List α) : Prop := l.length ≤ maxLen ∧ l.length ≤ N ∧ ∀ x ∈ l, G N x
theorem readsInt {t : TypeId} {k : IntKind} (ht : Try.prog.underlying t = some (.int k)) : Reads t (Kd.int k) (gInt k) := by
  intro H enc w base spare held fuel cs x h
  obtain ⟨n, rfl, rfl, hw⟩ := DataW.trod_int ht h
  exact ⟨n, rfl, fun _ _ => hw⟩
theorem one_le {H : Type} (d : DataW H) : 1 ≤ Rows.uptoBulk d := by
  cases d with
  | lit l => cases l <;> simp [Rows.uptoBulk]
  | nil => simp [Rows.uptoBulk]
  | ptr d => simp [Rows.uptoBulk]
  | slice elems spare => simp [Rows.uptoBulk]
  | agg parts => simp [Rows.uptoBulk]
  | iface t d => simp [Rows.uptoBulk]
  | map entries => simp [Rows.uptoBulk]
  | held h => simp [Rows.uptoBulk]
theorem part_le {H : Type} {d : DataW H} {l : List (DataW H)} (h : d ∈ l) : Rows.uptoBulk d ≤ Rows.uptoBulkAll l := by
  induction l with
  | nil => cases h
  | cons x r ih =>
    simp only [Rows.uptoBulkAll]
    cases List.mem_cons.1 h with
    | inl e => subst e; omega
    | inr e => have := ih e; omega
theorem length_le {H : Type} (l : List (DataW H)) : l.length ≤ Rows.uptoBulkAll l := by
  induction l with
  | nil => simp [Rows.uptoBulkAll]
  | cons x r ih => have := one_le x; simp only [Rows.uptoBulkAll, List.length_cons]; omega
theorem readsSlice {t e : TypeId} {α : Type} [Inhabited α] {d : Kd α} {G : Nat → α → Prop} (ht : Try.prog.underlying t = some (.slice e)) (hc : Try.prog.cellsOf e = d.sz) (R : Reads e d G) : Reads t (Kd.slice e d) (gList G) := by
  intro H enc w base spare held fuel cs x h
  rcases open_slice ht h with ⟨rfl, rfl⟩ | ⟨a, len, cap, m, n, D, Pl, rfl, hb, hl, hm, hmm, rfl, hx⟩
  · exact ⟨[], ⟨none, 0, rfl, Nat.le_refl _, Kd.C_nil d w⟩, fun N _ => ⟨Nat.zero_le _, Nat.zero_le _, fun x hx => by cases hx⟩⟩
  · have hlm : len ≤ m := by rw [hmm]; split <;> omega
    obtain ⟨f, hf⟩ := choose_lt (α := α) (n := m) (p := fun i y => ∃ c, c.length = d.sz ∧ d.K w y c ∧ (∀ j u, c[j]? = some u → w.cell? (a.add (i * d.sz + j)) = some u) ∧ ∀ N, Rows.uptoBulk (D i) ≤ N → G N y) (fun i hi => by
      obtain ⟨c, h1, h2⟩ := hx i hi
      obtain ⟨y, hK, hG⟩ := R enc w base spare held n c _ h2
      obtain ⟨_, hlen, hcell⟩ := World.cells?_some h1
      rw [hc] at hlen hcell
      refine ⟨y, c, hlen, hK, fun j u hu => ?_, hG⟩
      have hj : j < d.sz := by rw [← hlen]; exact (List.getElem?_eq_some_iff.1 hu).1
      have := hcell j hj
      rw [Deep.add_add] at this
      rw [this, hu])
    have hL : ((List.range len).map f).length = len := by simp
    refine ⟨(List.range len).map f, ⟨some a, cap, by rw [hL], by rw [hL]; exact hl, ?_⟩, fun N hN => ?_⟩
    · refine ⟨rfl, by rw [hL]; exact Nat.le_trans hl (Nat.le_trans hm (by decide)), fun _ => ⟨a, rfl, fun j p hj => ?_⟩⟩
      have hjl : j < len := by
        have := (List.getElem?_eq_some_iff.1 hj).1
        rwa [hL] at this
      have hp : f j = p := by
        rw [List.getElem?_map, List.getElem?_range hjl] at hj
        exact Option.some.inj hj
      obtain ⟨c, h1, h2, h3, _⟩ := hf j (by omega)
      rw [hp] at h2
      exact ⟨c, h1, h2, h3⟩
    · have hbulk : Rows.uptoBulkAll ((List.range len).map D) ≤ N := by
        simp only [Rows.uptoBulk] at hN
        omega
      refine ⟨by rw [hL]; omega, by rw [hL]; have := length_le ((List.range len).map D); simp at this; omega, fun y hy => ?_⟩
      obtain ⟨i, hi, rfl⟩ := List.mem_map.1 hy
      have hi' := List.mem_range.1 hi
      obtain ⟨c, _, _, _, hG⟩ := hf i (by omega)
      exact hG N (Nat.le_trans (part_le (List.mem_map.2 ⟨i, hi, rfl⟩)) hbulk)
instance : Inhabited S42 := ⟨z42⟩
def g42 (N : Nat) (x : S42) : Prop := gInt .i64 N x.f0 ∧ gInt .i64 N x.f1 ∧ gInt .i64 N x.f2 ∧ gInt .i64 N x.f3
set_option maxRecDepth 100000 in
theorem reads42 : Reads 42 k42 g42 := by
  intro H enc w base spare held fuel cs x h
  obtain ⟨xs, n, _, hx, hl, hlen, hf⟩ := DataW.trod_struct Try.underlying42 h
  have hl2 : cs.length = 4 := hl.trans (by kernel_rfl)
  have hlen2 : xs.length = 4 := hlen
  match xs, hlen2, cs, hl2 with
  | [y0, y1, y2, y3], _, [v0, v1, v2, v3], _ =>
    have c0 : Try.prog.cellsOf 3 = 1 := by kernel_rfl
    have e0 : DataW.trod enc Try.prog w base spare held n 3 (List.take (Try.prog.cellsOf 3) (List.drop 0 [v0, v1, v2, v3])) = some y0 := hf 0 _ rfl
    rw [c0] at e0
    obtain ⟨a0, K0, G0⟩ := (readsInt Try.underlying3) enc w base spare held n [v0] y0 e0
    have c1 : Try.prog.cellsOf 3 = 1 := by kernel_rfl
    have e1 : DataW.trod enc Try.prog w base spare held n 3 (List.take (Try.prog.cellsOf 3) (List.drop 1 [v0, v1, v2, v3])) = some y1 := hf 1 _ rfl
    rw [c1] at e1
    obtain ⟨a1, K1, G1⟩ := (readsInt Try.underlying3) enc w base spare held n [v1] y1 e1
    have c2 : Try.prog.cellsOf 3 = 1 := by kernel_rfl
    have e2 : DataW.trod enc Try.prog w base spare held n 3 (List.take (Try.prog.cellsOf 3) (List.drop 2 [v0, v1, v2, v3])) = some y2 := hf 2 _ rfl
    rw [c2] at e2
    obtain ⟨a2, K2, G2⟩ := (readsInt Try.underlying3) enc w base spare held n [v2] y2 e2
    have c3 : Try.prog.cellsOf 3 = 1 := by kernel_rfl
    have e3 : DataW.trod enc Try.prog w base spare held n 3 (List.take (Try.prog.cellsOf 3) (List.drop 3 [v0, v1, v2, v3])) = some y3 := hf 3 _ rfl
    rw [c3] at e3
    obtain ⟨a3, K3, G3⟩ := (readsInt Try.underlying3) enc w base spare held n [v3] y3 e3
    refine ⟨⟨a0, a1, a2, a3⟩, ⟨_, _, rfl, K0, ⟨_, _, rfl, K1, ⟨_, _, rfl, K2, K3⟩⟩⟩, fun N hN => ?_⟩
    rw [hx] at hN
    simp only [List.map_cons, List.map_nil, Rows.uptoBulk, Rows.uptoBulkAll] at hN
    exact ⟨G0 N (by omega), G1 N (by omega), G2 N (by omega), G3 N (by omega)⟩
structure S24 where
  f0 : Int
  f1 : Int
  f2 : Int
def z24 : S24 := ⟨(0 : Int), (0 : Int), (0 : Int)⟩
instance : Inhabited S24 := ⟨z24⟩
instance : Inhabited S70 := ⟨z70⟩
instance : Inhabited S56 := ⟨z56⟩
end Go.Proofs.Ytlcbpaenjjeenaa.R
end
section
namespace Go.Proofs.Ytlcbpaenjjeenaa.Q
open Go.RowKit Go.Proofs.YtlcbpaenjjeenaaW.PrintWords Go.Proofs.YtlcbpaenjjeenaaW.PrintLast Go.Proofs.YtlcbpaenjjeenaaW.PrintMore
set_option linter.unusedVariables false
set_option linter.unusedSimpArgs false
def ebbtidelaw03_TableMerges.f (k : Nat) (l0 : List (S42)) : Option (Bool) := if (l0.length : Int) > 200 then ((ebbtidelaw03_awake.f k).bind fun t246 => (some t246)) else ((table_Merge.f k l0).bind fun bt247 => ((ebbtideref03_Merge.f k l0).bind fun bt251 => ((ebbtidelaw03_awake.f k).bind fun t255 => (if t255 = true then ((ebbtideref03_SameArcs.f k bt247.1 bt251.1).bind fun t256 => (if t256 = true then (some (bt247.2 == bt251.2)) else (some false))) else (some false)))))
set_option maxHeartbeats 8000000 in
set_option maxRecDepth 100000 in
theorem ebbtidelaw03_TableMerges.calls (k : Nat) (A0 : Option Addr) (c0 : Nat) (l0 : List (S42)) (r : Bool) (w : World) (hr0 : Kd.C k42 w A0 l0.length l0) (hc0 : l0.length ≤ c0) (h : ebbtidelaw03_TableMerges.f k l0 = some r) (hrt : r = true := by first | rfl | exact HRT.out | assumption) :
  Calls Try.prog 5 #[.slice A0 l0.length c0] w fun e w' => e = .returned (.bool r) ∧ Below w.heap.size w w' := by
 have HRT := Aside0.mk hrt; clear hrt; have HR0 := Aside0.mk hr0; have HC0 := Aside0.mk hc0; clear hr0 hc0; have HB := Aside0.mk (Below.refl w.heap.size w); have H : (if (l0.length : Int) > 200 then ((ebbtidelaw03_awake.f k).bind fun t246 => (some t246)) else ((table_Merge.f k l0).bind fun bt247 => ((ebbtideref03_Merge.f k l0).bind fun bt251 => ((ebbtidelaw03_awake.f k).bind fun t255 => (if t255 = true then ((ebbtideref03_SameArcs.f k bt247.1 bt251.1).bind fun t256 => (if t256 = true then (some (bt247.2 == bt251.2)) else (some false))) else (some false)))))) = some r := h; clear h
 by_cases c2 : (l0.length : Int) > 200
 ·rw [if_pos c2] at H
  have c2b0 : decide (200 < (l0.length : Int)) = true := decide_eq_true c2; have c2b1 : decide (200 < l0.length) = true := decide_eq_true (by omega); clear c2; replace H := Option.bind_eq_some_iff.mp H; obtain ⟨t246, A30, H⟩ := H; replace H : (some t246) = some r := H; have A3 := Aside0.mk A30; clear A30; obtain rfl := Option.some.inj H
  go_enter Try.func5, Try.ntmps5
  go_wp2_with (first | ((with_reducible refine gate_callee (f := 13) rfl ?_); refine goesL_ (some 10) rfl rfl Try.func13 (by kernel_rfl) rfl #[] rfl (by (try simp only [List.map_toArray, List.map_cons, List.map_nil]); first | done | rfl | (simp only [List.length_drop, List.length_take]; rfl)) ?_; (with_reducible refine (ebbtidelaw03_awake.calls k  t246 _ A3.out).mono ?_); rintro e w4 ⟨rfl, hb⟩; refine ⟨_, rfl, ?_⟩; have n0_ := Aside0.mk (below_step (by repeat (first | (with_reducible first | exact HB.out | apply below_alloc | apply pw_below_drewN | apply below_drew1) | exact HB.out)) hb); clear HB; have HB := n0_; clear n0_; (try clear hb); (try clear hb2); (try clear hk); (try clear hi)))
  go_ret
  exact ⟨by first | rfl | (simp [errW_none, errW_some] <;> rfl) | (simp [*, errW_none, errW_some] <;> rfl), by repeat (first | (with_reducible first | exact HB.out | apply below_alloc | apply pw_below_drewN | apply below_drew1) | exact HB.out)⟩
 ·rw [if_neg c2] at H
  have c2b0 : decide (200 < (l0.length : Int)) = false := decide_eq_false c2; have c2b1 : decide (200 < l0.length) = false := decide_eq_false (by omega); clear c2; replace H := Option.bind_eq_some_iff.mp H; obtain ⟨⟨t247, t248⟩, A50, H⟩ := H; replace H : ((ebbtideref03_Merge.f k l0).bind fun bt251 => ((ebbtidelaw03_awake.f k).bind fun t255 => (if t255 = true then ((ebbtideref03_SameArcs.f k t247 bt251.1).bind fun t256 => (if t256 = true then (some (t248 == bt251.2)) else (some false))) else (some false)))) = some r := H; have A5 := Aside0.mk A50; clear A50; replace H := Option.bind_eq_some_iff.mp H; obtain ⟨⟨t251, t252⟩, A60, H⟩ := H; replace H : ((ebbtidelaw03_awake.f k).bind fun t255 => (if t255 = true then ((ebbtideref03_SameArcs.f k t247 t251).bind fun t256 => (if t256 = true then (some (t248 == t252)) else (some false))) else (some false))) = some r := H; have A6 := Aside0.mk A60; clear A60; replace H := Option.bind_eq_some_iff.mp H; obtain ⟨t255, A70, H⟩ := H; replace H : (if t255 = true then ((ebbtideref03_SameArcs.f k t247 t251).bind fun t256 => (if t256 = true then (some (t248 == t252)) else (some false))) else (some false)) = some r := H; have A7 := Aside0.mk A70; clear A70
  by_cases c8 : t255 = true
  ·subst c8
   have H1 : ((ebbtideref03_SameArcs.f k t247 t251).bind fun t256 => (if t256 = true then (some (t248 == t252)) else (some false))) = some r := by rw [if_pos rfl] at H; exact H
   clear H; have H := H1; clear H1; replace H := Option.bind_eq_some_iff.mp H; obtain ⟨t256, A90, H⟩ := H; replace H : (if t256 = true then (some (t248 == t252)) else (some false)) = some r := H; have A9 := Aside0.mk A90; clear A90
   by_cases c10 : t256 = true
   ·subst c10
    have H1 : (some (t248 == t252)) = some r := by rw [if_pos rfl] at H; exact H
    clear H; have H := H1; clear H1; obtain rfl := Option.some.inj H
    go_enter Try.func5, Try.ntmps5
    go_wp2_with (first | ((with_reducible refine gate_callee (f := 19) rfl ?_); refine goesL_ (some 13) rfl rfl Try.func19 (by kernel_rfl) rfl #[.slice A0 l0.length c0] rfl (by (try simp only [List.map_toArray, List.map_cons, List.map_nil]); first | done | rfl | (simp only [List.length_drop, List.length_take]; rfl)) ?_; (with_reducible refine (table_Merge.calls k _ _ l0 t247 t248 _ ?side1 ?side2 A5.out).mono ?_); (case side1 => repeat (first | exact HR0.out | (with_reducible refine Kd.C_alloc ?_ _) | (with_reducible refine Kd.C_drewN ?_ _) | (with_reducible refine Kd.C_drew ?_))); (case side2 => exact HC0.out); rintro e w11 ⟨v249, rfl, ho0, hb⟩; refine ⟨_, rfl, ?_⟩; have n0_ := Aside0.mk (Kd.R_lower ho0 (below_size (by repeat (first | (with_reducible first | exact HB.out | apply below_alloc | apply pw_below_drewN | apply below_drew1) | exact HB.out)))); have n1_ := Aside0.mk (below_step (by repeat (first | (with_reducible first | exact HB.out | apply below_alloc | apply pw_below_drewN | apply below_drew1) | exact HB.out)) hb); clear HB; have HO250 := n0_; have HB := n1_; clear n0_ n1_; (try clear hb); (try clear hb2); (try clear hk); (try clear hi); (try clear ho0)) | ((with_reducible refine gate_callee (f := 20) rfl ?_); refine goesL_ (some 18) rfl rfl Try.func20 (by kernel_rfl) rfl #[.slice A0 l0.length c0] rfl (by (try simp only [List.map_toArray, List.map_cons, List.map_nil]); first | done | rfl | (simp only [List.length_drop, List.length_take]; rfl)) ?_; (with_reducible refine (ebbtideref03_Merge.calls k _ _ l0 t251 t252 _ ?side1 ?side2 A6.out).mono ?_); (case side1 => repeat (first | exact (Kd.C_below HR0.out HB.out) | (with_reducible refine Kd.C_alloc ?_ _) | (with_reducible refine Kd.C_drewN ?_ _) | (with_reducible refine Kd.C_drew ?_))); (case side2 => exact HC0.out); rintro e w12 ⟨v253, rfl, ho0, hb⟩; refine ⟨_, rfl, ?_⟩; have n0_ := Aside0.mk (Kd.R_elder' (by (with_reducible repeat (first | apply Kd.R_alloc | apply Kd.R_drewN | apply Kd.R_drew)); exact HO250.out) (Kd.R_base ho0) hb); have n1_ := Aside0.mk (Kd.R_lower (Kd.R_new' ho0 (Kd.R_lt (by (with_reducible repeat (first | apply Kd.R_alloc | apply Kd.R_drewN | apply Kd.R_drew)); exact HO250.out))) (below_size (by repeat (first | (with_reducible first | exact HB.out | apply below_alloc | apply pw_below_drewN | apply below_drew1) | exact HB.out)))); have n2_ := Aside0.mk (below_step (by repeat (first | (with_reducible first | exact HB.out | apply below_alloc | apply pw_below_drewN | apply below_drew1) | exact HB.out)) hb); clear HO250; clear HB; have HO250 := n0_; have HO254 := n1_; have HB := n2_; clear n0_ n1_ n2_; (try clear hb); (try clear hb2); (try clear hk); (try clear hi); (try clear ho0)) | ((with_reducible refine gate_callee (f := 13) rfl ?_); refine goesL_ (some 21) rfl rfl Try.func13 (by kernel_rfl) rfl #[] rfl (by (try simp only [List.map_toArray, List.map_cons, List.map_nil]); first | done | rfl | (simp only [List.length_drop, List.length_take]; rfl)) ?_; (with_reducible refine (ebbtidelaw03_awake.calls k  true _ A7.out).mono ?_); rintro e w13 ⟨rfl, hb⟩; refine ⟨_, rfl, ?_⟩; have n0_ := Aside0.mk (Kd.R_below (by (with_reducible repeat (first | apply Kd.R_alloc | apply Kd.R_drewN | apply Kd.R_drew)); exact HO250.out) hb); have n1_ := Aside0.mk (Kd.R_below (by (with_reducible repeat (first | apply Kd.R_alloc | apply Kd.R_drewN | apply Kd.R_drew)); exact HO254.out) hb); have n2_ := Aside0.mk (below_step (by repeat (first | (with_reducible first | exact HB.out | apply below_alloc | apply pw_below_drewN | apply below_drew1) | exact HB.out)) hb); clear HO250; clear HO254; clear HB; have HO250 := n0_; have HO254 := n1_; have HB := n2_; clear n0_ n1_ n2_; (try clear hb); (try clear hb2); (try clear hk); (try clear hi); obtain ⟨Ao14, co14, eo14⟩ := Kd.R_slice HO250.out; subst eo14; obtain ⟨Ao15, co15, eo15⟩ := Kd.R_slice HO254.out; subst eo15) | (go_at_call 21; (with_reducible refine (ebbtideref03_SameArcs.calls k _ _ t247 _ _ t251 true _ ?side1 ?side2 ?side3 ?side4 A9.out).mono ?_); (case side1 => repeat (first | exact (Kd.R_reads' HO250.out).2.2 | (with_reducible refine Kd.C_alloc ?_ _) | (with_reducible refine Kd.C_drewN ?_ _) | (with_reducible refine Kd.C_drew ?_))); (case side2 => exact (Kd.R_reads' HO250.out).2.1); (case side3 => repeat (first | exact (Kd.R_reads' HO254.out).2.2 | (with_reducible refine Kd.C_alloc ?_ _) | (with_reducible refine Kd.C_drewN ?_ _) | (with_reducible refine Kd.C_drew ?_))); (case side4 => exact (Kd.R_reads' HO254.out).2.1); rintro e w' ⟨rfl, ⟨nd, rfl⟩⟩))
    go_ret
    exact ⟨by first | rfl | (simp [errW_none, errW_some] <;> rfl) | (simp [*, errW_none, errW_some] <;> rfl), by repeat (first | (with_reducible first | exact HB.out | apply below_alloc | apply pw_below_drewN | apply below_drew1) | exact HB.out)⟩
   ·replace c10 := Bool.eq_false_iff.mpr c10
    subst c10
    have H1 : (some false) = some r := by rw [if_neg (show ¬ (false = true) by decide)] at H; exact H
    clear H; have H := H1; clear H1; exact absurd ((Option.some.inj H).trans HRT.out) (by decide)
  ·replace c8 := Bool.eq_false_iff.mpr c8
   subst c8
   have H1 : (some false) = some r := by rw [if_neg (show ¬ (false = true) by decide)] at H; exact H
   clear H; have H := H1; clear H1; exact absurd ((Option.some.inj H).trans HRT.out) (by decide)
end Go.Proofs.Ytlcbpaenjjeenaa.Q
end
section
namespace Go.Proofs.Ytlcbpaenjjeenaa.R
open Go.RowKit Go.Proofs.Ytlcbpaenjjeenaa.Q Go.Proofs.YtlcbpaenjjeenaaW.PrintWords Go.Proofs.YtlcbpaenjjeenaaW.PrintLast Go.Proofs.YtlcbpaenjjeenaaW.PrintMore
def TableMerges.Pure : Prop := ∀ N0 : Nat, ∀ (x0 : List S42), gList (g42) N0 x0 → ∃ k, ebbtidelaw03_TableMerges.f k x0 = some true
end Go.Proofs.Ytlcbpaenjjeenaa.R
end
section
namespace Go.Proofs.Ytlcbpaenjjeenaa.Pure
open Go.RowKit Go.Proofs.Ytlcbpaenjjeenaa.Q Go.Proofs.Ytlcbpaenjjeenaa.P Go.Proofs.YtlcbpaenjjeenaaW.PrintWords Go.Proofs.YtlcbpaenjjeenaaW.PrintLast Go.Proofs.YtlcbpaenjjeenaaW.PrintMore
open Go.Proofs.Ytlcbpaenjjeenaa.R
theorem TableMerges : TableMerges.Pure := by
  intro N0 l g
  apply Ev.rounds
  unfold ebbtidelaw03_TableMerges.f ebbtidelaw03_awake.f
  by_cases c : (l.length : Int) > 200
  · simp only [c, if_true, Option.bind_some]; exact Ev.now _
  · have hl : l.length ≤ 1048576 := by omega
    have hw : ∀ x ∈ l, OkA x := fun x hx => ⟨Go.bounds_i64 (g.2.2 x hx).1, Go.bounds_i64 (g.2.2 x hx).2.1, Go.bounds_i64 (g.2.2 x hx).2.2.1, Go.bounds_i64 (g.2.2 x hx).2.2.2⟩
    simp only [c, if_false, if_true, Option.bind_some]
    refine Ev.bind (merge_ev l hl hw) (Ev.bind (rmerge_ev l hl hw) ?_)
    refine Ev.bind (sameArcs_ev _ ?_) ?_
    · unfold mergeAR
      split
      · show (mergeA l).length ≤ _
        rw [mergeA_length]
        exact Nat.le_trans (keysOf_length_le _ _) (by omega)
      · exact Nat.zero_le _
    · simp only [if_true, beq_self_eq_true]
      exact Ev.now _
end Go.Proofs.Ytlcbpaenjjeenaa.Pure
end
section
namespace Go.Proofs.Ytlcbpaenjjeenaa
open Go Go.RowKit
def ioHead : List Char := List.map Char.ofNat [104, 97, 114, 110, 101, 115, 115, 32, 53, 52, 50, 101, 57, 98, 48, 48, 99, 102, 51, 53, 100, 102, 100, 102, 55, 101, 50, 51, 97, 101, 52, 102, 97, 49, 54, 100, 102, 57, 52, 52, 53, 56, 57, 56, 97, 101, 52, 55, 97, 102, 51, 52, 102, 99, 52, 48, 55, 56, 53, 49, 101, 52, 49, 50, 102, 57, 51, 55, 102, 98, 53, 102, 32, 99, 117, 116, 32]
def ioRest : List Char := List.map Char.ofNat [97, 116, 32, 101, 98, 98, 116, 105, 100, 101, 47, 101, 98, 98, 116, 105, 100, 101, 108, 97, 119, 48, 51, 46, 84, 97, 98, 108, 101, 70, 105, 110, 100, 115, 32, 101, 98, 98, 116, 105, 100, 101, 47, 101, 98, 98, 116, 105, 100, 101, 108, 97, 119, 48, 51, 46, 84, 97, 98, 108, 101, 71, 114, 111, 117, 112, 115, 32, 101, 98, 98, 116, 105, 100, 101, 47, 101, 98, 98, 116, 105, 100, 101, 108, 97, 119, 48, 51, 46, 84, 97, 98, 108, 101, 77, 101, 114, 103, 101, 115, 32, 101, 98, 98, 116, 105, 100, 101, 47, 101, 98, 98, 116, 105, 100, 101, 108, 97, 119, 48, 51, 46, 84, 97, 98, 108, 101, 66, 117, 115, 121, 32, 101, 98, 98, 116, 105, 100, 101, 47, 101, 98, 98, 116, 105, 100, 101, 108, 97, 119, 48, 51, 46, 84, 97, 98, 108, 101, 87, 104, 111, 108, 101, 32, 101, 98, 98, 116, 105, 100, 101, 47, 101, 98, 98, 116, 105, 100, 101, 108, 97, 119, 48, 51, 46, 84, 97, 98, 108, 101, 83, 117, 109, 115, 32, 101, 98, 98, 116, 105, 100, 101, 47, 101, 98, 98, 116, 105, 100, 101, 108, 97, 119, 48, 51, 46, 84, 97, 98, 108, 101, 83, 108, 111, 116, 115, 32, 101, 98, 98, 116, 105, 100, 101, 47, 101, 98, 98, 116, 105, 100, 101, 108, 97, 119, 48, 51, 46, 84, 97, 98, 108, 101, 84, 117, 114, 110, 115, 32, 101, 98, 98, 116, 105, 100, 101, 47, 101, 98, 98, 116, 105, 100, 101, 108, 97, 119, 48, 51, 46, 84, 97, 98, 108, 101, 77, 111, 118, 101, 115, 32, 101, 98, 98, 116, 105, 100, 101, 47, 101, 98, 98, 116, 105, 100, 101, 108, 97, 119, 48, 51, 46, 84, 97, 98, 108, 101, 79, 114, 100, 101, 114]
set_option maxRecDepth 100000 in
theorem io_eq : Try.pinned.checked.prog.initOrder = String.ofList (ioHead ++ ioRest) := by kernel_rfl
theorem io_toList : Try.pinned.checked.prog.initOrder.toList = ioHead ++ ioRest := by rw [io_eq]; exact String.toList_ofList
def ioCut : List Char := List.map Char.ofNat [99, 117, 116]
set_option maxRecDepth 100000 in
theorem io_words (r : List Char) : behindMainWord (wordsSigns (ioHead ++ r)) = ioCut :: wordsSigns r := by kernel_rfl
theorem io_behind : ∃ X, behindMainWord (wordsSigns Try.pinned.checked.prog.initOrder.toList) = ioCut :: X := ⟨_, by rw [io_toList]; exact io_words _⟩
theorem io_cut : ioCut = "cut".toList := by decide +kernel
theorem io_strip (X : List (List Char)) : stripLifts liftWords (ioCut :: X) = ([], ioCut :: X) := by kernel_rfl
theorem headLifts_cut (P : Program) (h : ∃ X, behindMainWord (wordsSigns P.initOrder.toList) = ioCut :: X) : P.headLifts = [] := by
  obtain ⟨X, e⟩ := h
  unfold Program.headLifts
  rw [e, io_strip]
  rfl
theorem mayEnter_cut (P : Program) (h : ∃ X, behindMainWord (wordsSigns P.initOrder.toList) = ioCut :: X) (h1 : P.laysLater = false) (h2 : P.bearsReflect = false) (h3 : P.doorFits [] = true) : P.mayEnter = true := by
  obtain ⟨X, e⟩ := h
  unfold Program.mayEnter
  rw [e]
  simp only [io_strip, h1, h2, h3]
  rw [io_cut]
  simp
theorem liftsFinal_cut (P : Program) (h : ∃ X, behindMainWord (wordsSigns P.initOrder.toList) = ioCut :: X) : P.liftsFinal = false := by
  have h0 := headLifts_cut P h
  obtain ⟨X, e⟩ := h
  unfold Program.liftsFinal
  rw [e, h0]
  rw [io_cut]
  simp
theorem make_cut (P : Program) (h : ∃ X, behindMainWord (wordsSigns P.initOrder.toList) = ioCut :: X) : P.make = some .cut := by
  obtain ⟨X, e⟩ := h
  unfold Program.make
  rw [e]
  simp only [io_cut]
  rw [if_neg (by decide +kernel), if_pos (by simp)]
theorem p_mayEnter : Try.pinned.checked.prog.mayEnter = true := mayEnter_cut _ io_behind (by kernel_rfl) (by kernel_rfl) (by kernel_rfl)
theorem p_liftsFinal : Try.pinned.checked.prog.liftsFinal = false := liftsFinal_cut _ io_behind
theorem p_make : Try.pinned.checked.prog.make = some .cut := make_cut _ io_behind
theorem p_laidOut : laidOutB Try.pinned.checked.prog = true := by kernel_rfl
theorem p_mapsRowed : mapsRowed Try.pinned.checked.prog = true := by kernel_rfl
theorem p_stopsHeard : Try.pinned.checked.prog.stopsHeard = true := by kernel_rfl
theorem p_stops : Try.pinned.checked.prog.stops = [] := by kernel_rfl
theorem p_stopKnobs : Try.pinned.checked.prog.stopKnobs = [] := by kernel_rfl
end Go.Proofs.Ytlcbpaenjjeenaa
end
