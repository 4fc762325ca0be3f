/- A part of the proof: words, contracts, plain lemmas. Conditions: none. -/
import Derived.Test.YtlcbpaenjjeenaaZTableOrder8
import Derived.Test.YtlcbpaenjjeenaaZTableOrder11
import Derived.Test.YtlcbpaenjjeenaaZTableOrder12
import Derived.Test.YtlcbpaenjjeenaaZTableOrder3
import Derived.Test.YtlcbpaenjjeenaaZTableOrder5
section
namespace Go.Proofs.Ytlcbpaenjjeenaa.Q
open Go.RowKit Go.Maps Go.Proofs.YtlcbpaenjjeenaaW.PrintWords Go.Proofs.YtlcbpaenjjeenaaW.PrintLast Go.Proofs.YtlcbpaenjjeenaaW.PrintMore
set_option linter.unusedVariables false
set_option linter.unusedSimpArgs false
def keyS (x : S70) : Int × Int := (x.f0, x.f1)
def mkS (p : Int × Int) : S70 := ⟨p.1, p.2⟩
def cntS (l : List S70) (p : Int × Int) : Int := ((l.filter (fun x => decide (keyS x = p))).length : Int)
theorem cntS_snoc (l : List S70) (x : S70) (p : Int × Int) : cntS (l ++ [x]) p = cntS l p + (if keyS x = p then 1 else 0) := by
  unfold cntS
  rw [List.filter_append, List.filter_cons]
  by_cases c : keyS x = p
  · simp [c]
  · simp [c]
def logS (l : List S70) : List ((Int × Int) × Int) := l.foldl (fun es x => es ++ [(keyS x, (lookM es (keyS x)).getD 0 + 1)]) []
theorem logS_snoc (l : List S70) (x : S70) : logS (l ++ [x]) = logS l ++ [(keyS x, (lookM (logS l) (keyS x)).getD 0 + 1)] := by
  unfold logS; rw [List.foldl_append]; rfl
theorem logS_eq (p : Int × Int) : ∀ (n : Nat) (l : List S70), l.length = n → (lookM (logS l) p).getD 0 = cntS l p := by
  intro n
  induction n with
  | zero => intro l hl; rw [List.length_eq_zero_iff.1 hl]; rfl
  | succ n ih =>
    intro l hl
    obtain ⟨r, x, rfl⟩ : ∃ r x, l = r ++ [x] := by
      rcases List.eq_nil_or_concat l with rfl | ⟨r, x, rfl⟩
      · cases hl
      · exact ⟨r, x, by rw [List.concat_eq_append]⟩
    have hr := ih r (by simpa using hl)
    rw [logS_snoc, lookM_snoc, cntS_snoc]
    by_cases c : keyS x = p
    · rw [if_pos c, if_pos c, c, hr]; rfl
    · rw [if_neg c, if_neg c, hr]; omega
theorem cntS_bd (l : List S70) (p : Int × Int) : 0 ≤ cntS l p ∧ cntS l p ≤ (l.length : Int) := by
  unfold cntS
  have := List.length_filter_le (fun x => decide (keyS x = p)) l
  omega
theorem cntS_zero (l : List S70) (p : Int × Int) : cntS l p = 0 ↔ p ∉ P.keysOf keyS l := by
  unfold cntS
  rw [P.mem_keysOf]
  constructor
  · rintro h ⟨x, hx, hk⟩
    have h2 : (l.filter (fun x => decide (keyS x = p))) = [] := List.eq_nil_of_length_eq_zero (by omega)
    rw [List.filter_eq_nil_iff] at h2
    exact h2 x hx (by simpa using hk)
  · intro h
    rw [List.filter_eq_nil_iff.2 (fun x hx => by simpa using fun e => h ⟨x, hx, e⟩)]
    rfl
def keptS (l : List S70) : List S70 := (P.keysOf keyS l).map mkS
theorem keptS_snoc (l : List S70) (x : S70) : keptS (l ++ [x]) = if cntS l (keyS x) + 1 = 1 then keptS l ++ [x] else keptS l := by
  unfold keptS
  rw [P.keysOf_snoc]
  by_cases c : keyS x ∈ P.keysOf keyS l
  · have h : ¬ cntS l (keyS x) = 0 := fun h => (cntS_zero _ _).1 h c
    rw [if_pos c, if_neg (by omega)]
  · have h : cntS l (keyS x) = 0 := (cntS_zero _ _).2 c
    rw [if_neg c, if_pos (by omega), List.map_append]
    rfl
def table_Slots.f (k : Nat) (l0 : List S70) : Option (List S70) := if l0.length ≤ 1048576 ∧ l0.all (fun x => good2 (keyS x)) = true then api_Slot_44.f (keptS l0) else none
def table_Slots.T6 : Bool × List (List Nat × List Nat) := (true, [([], []), ([], []), ([0, 1], [0, 1]), ([2], [2]), ([0, 1, 0, 1], [0, 1]), ([4], [4]), ([0, 5, 3, 4, 0, 1, 2, 3, 4, 5], [0, 3, 5])])
def table_Slots.B6 : List Nat := [0, 0, 3, 7, 3, 19, 63]
theorem table_Slots.tab6 : rtab .any (opsOf Try.f27 6) = table_Slots.T6 := by kernel_rfl
theorem table_Slots.bits6 : waitsOk table_Slots.T6.2 table_Slots.B6 = true := by kernel_rfl
theorem klaw70 : WideMaps.KeyLaw Try.prog 70 := deep_law_laid laidOutT (m := 2) (by decide) (by decide +kernel) (by kernel_rfl) (by rw [Try.underlying70])
set_option maxHeartbeats 8000000 in
set_option maxRecDepth 100000 in
theorem table_Slots.calls (k : Nat) (A0 : Option Addr) (c0 : Nat) (l0 : List S70) (r : List S70) (w : World) (hr0 : Kd.C k70 w A0 l0.length l0) (hc0 : l0.length ≤ c0) (h : table_Slots.f k l0 = some r) :
    Calls Try.prog 27 #[.slice A0 l0.length c0] w fun e w' => ∃ v0_ : Value, e = .returned (v0_) ∧ Kd.R k70 70 w' w.heap.size (fun _ => True) v0_ r ∧ Below w.heap.size w w' := by
  have hu70 := Try.underlying70
  unfold table_Slots.f at h
  split at h
  case isFalse => cases h
  rename_i hh
  have HR0 := Aside0.mk hr0
  have HC0 := Aside0.mk hc0
  have HL0 := Aside0.mk hh.1
  have HG0 := Aside0.mk hh.2
  have HF := Aside0.mk h
  have HB := Aside0.mk (Below.refl w.heap.size w)
  clear hr0 hc0 hh h
  go_enter Try.func27, Try.ntmps27
  go_wp2_with (first
    | ((with_reducible refine gate_dst (N := 7) rfl ?_); refine mmake E70 _ rfl 71 rfl ?_; intro w9m mb hM_ hb hge; have n0_ := Aside0.mk (below_step HB.out hb); have n2_ := Aside0.mk (Nat.le_trans (below_size HB.out) hge); clear HB; have HB := n0_; have GEm := n2_; have HM := Aside0.mk hM_; clear n0_ n2_ hM_ hb hge)
    | ((with_reducible refine gate_dst (N := 8) rfl ?_); refine Kd.R_lit k70 _ 70 ?hg (N := 8) ?hd (xs := ([] : List S70)) (inner := []) (ok := fun _ => True) (okp := fun _ => True) ?hr ?hp (fun _ hk => hk) trivial (Below.refl _ _) (Nat.le_refl _) (by simp) ?_; (case hd => rfl); (case hg => rfl); (case hr => first | (go_simp; done) | (go_simp; rfl)); (case hp => exact (Reps.none _ _)); intro v4 w3 ho4 hb hg_ hnew_; have n0_ := Aside0.mk (Kd.R_lower ho4 (below_size HB.out)); have n1_ := Aside0.mk (below_step HB.out hb); have n2_ := Aside0.mk (MapI.below HM.out hb); clear HB HM; have HO := n0_; have HB := n1_; have HM := n2_; clear n0_ n1_ n2_ hb ho4 hg_ hnew_))
  have n0_ := Aside0.mk (R_nomap HO.out HM.out.block)
  clear HO
  have HO := n0_
  clear n0_
  go_loopg [4, 11] l0.length (fun kq v4 v11 w' => ∃ j : Nat, v11 = .int .i64 (j : Int) ∧ Aside0 (j + kq = l0.length) ∧ Aside0 (Kd.R k70 70 w' w.heap.size (fun k => True ∧ k ≠ mb) v4 (keptS (l0.take j))) ∧ Aside0 (Below w.heap.size w w') ∧ Aside0 (MapI E70 w' mb j (logS (l0.take j))))
  case atStart => exact ⟨0, rfl, ⟨by omega⟩, HO, HB, HM⟩
  case round =>
    clear HO HB HM
    obtain ⟨j, rfl, HJ, HO, HB, HM⟩ := hrel
    cases gk with
    | zero =>
      have c1 : decide ((j : Int) < (l0.length : Int)) = false := decide_eq_false (by have := HJ.out; omega)
      have c2 : decide (j < l0.length) = false := decide_eq_false (by have := HJ.out; omega)
      have n0_ := HO.out
      rw [List.take_of_length_le (by have := HJ.out; omega)] at n0_
      clear HO
      have HO := Aside0.mk (Kd.R_mono n0_ (fun _ _ => trivial : ∀ k, _ → True))
      clear n0_
      obtain ⟨Ao, co, eo⟩ := Kd.R_slice HO.out
      subst eo
      go_wp2_with ((with_reducible refine gate_callee (f := 44) rfl ?_); refine goesL_ (some 31) rfl rfl Try.func44 (by kernel_rfl) rfl #[.slice Ao (keptS l0).length co, .func (.func 45) #[] #[]] rfl (by (try simp only [List.map_toArray, List.map_cons, List.map_nil]); first | done | rfl | (simp only [List.length_drop, List.length_take]; rfl)) ?_; (with_reducible refine (api_Slot_44.calls (fun _ => True) (.slice Ao (keptS l0).length co) (keptS l0) r w _ ?side1 ?side2 HF.out).mono ?_); (case side1 => exact HB.out); (case side2 => exact HO.out); rintro e w27 ⟨rfl, hy0, hb, hkp⟩; refine ⟨_, rfl, ?_⟩; have n0_ := Aside0.mk (Kd.R_mono hy0 (fun _ _ => trivial : ∀ k, _ → True)); have n2_ := Aside0.mk hb; clear HO HB; have HO := n0_; have HB := n2_; clear n0_ n2_ hb hkp hy0)
      go_ret
      exact ⟨_, rfl, HO.out, HB.out⟩
    | succ gk =>
      have hlt : j < l0.length := by have := HJ.out; omega
      have c1 : decide ((j : Int) < (l0.length : Int)) = true := decide_eq_true (by omega)
      have c2 : decide (j < l0.length) = true := decide_eq_true hlt
      obtain ⟨ad1, e1, hx_0, hx_1⟩ := at_T70 HR0.out (j : Int) (by omega) (by omega)
      cases e1
      simp only [Int.toNat_natCast] at hx_0 hx_1
      replace hx_0 := (HB.out.cell (World.block_lt_of_cell? w _ hx_0)).trans hx_0
      replace hx_1 := (HB.out.cell (World.block_lt_of_cell? w _ hx_1)).trans hx_1
      have hr : rd_T70 l0 (j : Int) = l0[j] := by unfold rd_T70; simp [List.getD_eq_getElem?_getD, List.getElem?_eq_getElem hlt]
      have hgood : E70.good (keyS l0[j]) := good2_ok (by have := List.all_eq_true.1 HG0.out _ (List.getElem_mem hlt); exact this)
      have hsn : logS (l0.take (j + 1)) = logS (l0.take j) ++ [(keyS l0[j], (lookM (logS (l0.take j)) (keyS l0[j])).getD 0 + 1)] := by
        rw [List.take_succ_eq_append_getElem hlt, logS_snoc]
      have hkp : keptS (l0.take (j + 1)) = if cntS (l0.take j) (keyS l0[j]) + 1 = 1 then keptS (l0.take j) ++ [l0[j]] else keptS (l0.take j) := by
        rw [List.take_succ_eq_append_getElem hlt, keptS_snoc]
      have hcnt : 0 ≤ (lookM (logS (l0.take j)) (keyS l0[j])).getD 0 ∧ (lookM (logS (l0.take j)) (keyS l0[j])).getD 0 ≤ 1048576 := by
        rw [logS_eq _ _ _ rfl]
        have h1 := cntS_bd (l0.take j) (keyS l0[j])
        have h2 := HL0.out
        rw [List.length_take] at h1
        omega
      rw [← logS_eq _ _ _ rfl] at hkp
      obtain ⟨f0, f1, hl0⟩ : ∃ a b, l0[j] = (⟨a, b⟩ : S70) := ⟨_, _, rfl⟩
      rw [hr] at hx_0 hx_1
      rw [hl0] at hx_0 hx_1 hgood hsn hkp hcnt
      simp only [show keyS (⟨f0, f1⟩ : S70) = (f0, f1) from rfl] at hgood hsn hkp hcnt
      obtain ⟨cn, hcn⟩ : ∃ cn, cn = (lookM (logS (l0.take j)) (f0, f1)).getD 0 := ⟨_, rfl⟩
      rw [← hcn] at hsn hkp hcnt
      have hlk2 : (lookM (logS (l0.take (j + 1))) (f0, f1)).getD 0 = cn + 1 := by rw [hsn, lookM_snoc, if_pos rfl]; rfl
      have HGD := Aside0.mk hgood
      have HSN := Aside0.mk hsn
      have HKP := Aside0.mk hkp
      have HCN := Aside0.mk hcnt
      have HLN := Aside0.mk hcn
      have HLK2 := Aside0.mk hlk2
      clear hr hgood hsn hkp hcnt hl0 hcn hlk2
      have p1 := eq_true (show (0 : Int) ≤ (j : Int) by omega)
      have p2 := eq_true (show (j : Int) < (l0.length : Int) by omega)
      go_wp2_with (first
        | ((with_reducible refine gate_dst (N := 6) rfl ?_); refine box_event ?hg (N := 6) ?hd (cs := #[.int .i64 0, .int .i64 0]) (t := 70) ?hr ?_; (case hd => rfl); (case hg => rfl); (case hr => first | (go_simp; done) | (go_simp; rfl)); intro gb hg w5 hbox hb; have n0_ := Aside0.mk (Kd.R_below (Kd.R_elderB HO.out gb (Nat.le_of_eq hg.symm)) hb); have n1_ := Aside0.mk (below_step HB.out hb); have n2_ := Aside0.mk (MapI.below HM.out hb); have GEb := Aside0.mk (show w.heap.size ≤ gb by rw [hg]; exact below_size HB.out); have NBbm := Aside0.mk (by rw [hg]; exact (Nat.ne_of_lt (MapI.lt HM.out)).symm : gb ≠ mb); have BK := Aside0.mk hbox; clear HO HB HM; have HO := n0_; have HB := n1_; have HM := n2_; clear n0_ n1_ n2_ hb hbox hg; have hcz_0 : w5.cell? ⟨gb, 0, none⟩ = some (.int .i64 0) := (blk_cell BK.out 0).trans rfl; have hcz_1 : w5.cell? ⟨gb, 1, none⟩ = some (.int .i64 0) := (blk_cell BK.out 1).trans rfl; have hfz_0 := blk_frozen BK.out 0; have hfz_1 := blk_frozen BK.out 1)
        | ((with_reducible refine gate_store (t := 70) (p := 6) rfl ?_); refine store_event (t := 70) (p := 6) (v := ?vo) (w1 := ?wo) ?hg ?ho ?hn ?hr ?_; (case ho => rfl); (case hg => rfl); (case hn => rfl); (case hr => first | (go_simp; done) | (go_simp; rfl)); intro w6 hw; have n0_ := Aside0.mk (show w6.heap[gb]? = some (.cells #[.int .i64 f0, .int .i64 f1] 70 (0, 0)) from (by rw [hw]; refine blk_put (cs := #[.int .i64 f0, .int .i64 0]) ?_ 1 _ rfl; refine blk_put (cs := #[.int .i64 0, .int .i64 0]) ?_ 0 _ rfl; exact BK.out)); have n1_ := Aside0.mk (show Kd.R k70 70 w6 w.heap.size (fun k_ => (True ∧ k_ ≠ mb) ∧ k_ ≠ gb) u4 (keptS (l0.take j)) from (by rw [hw]; exact Kd.R_far (p := ⟨gb, 1, none⟩) (Kd.R_far (p := ⟨gb, 0, none⟩) HO.out (fun _ hk => hk.2) _) (fun _ hk => hk.2) _)); have n2_ := Aside0.mk (show Below w.heap.size w w6 from (by rw [hw]; exact below_set (below_set HB.out GEb.out) GEb.out)); have n3_ := Aside0.mk (show MapI E70 w6 mb j (logS (l0.take j)) from (by rw [hw]; exact MapI.farg (MapI.farg HM.out NBbm.out _) NBbm.out _)); clear BK HO HB HM hw hcz_0 hcz_1 hfz_0 hfz_1; have BK := n0_; have HO := n1_; have HB := n2_; have HM := n3_; clear n0_ n1_ n2_ n3_))
      have n0_ := Aside0.mk (Kd.R_drew HO.out)
      have n1_ := Aside0.mk (below_drew1 HB.out)
      have n2_ := Aside0.mk (blk_drew BK.out)
      have n3_ := Aside0.mk (MapI.drew HM.out)
      clear HO HB BK HM hx_0 hx_1
      have HO := n0_
      have HB := n1_
      have BK := n2_
      have HM := n3_
      clear n0_ n1_ n2_ n3_
      have hlk := mlook_run E70 Try.underlying71 HM.out HGD.out
      rw [← HLN.out] at hlk
      have HLK := Aside0.mk hlk
      clear hlk
      refine start_ (n := 7) (S := fun w' => w'.heap[gb]? = some (.cells #[.int .i64 f0, .int .i64 f1] 70 (0, 0)) ∧ (Instr.lookup 71 (.map (some mb)) (.agg #[.int .i64 f0, .int .i64 f1]) false).run Try.prog w' = .ok (.int .i64 cn) w') (ds := [6]) #[Ff,Ff,Ff,Ff,Ff,Ff,Ff] (by kernel_rfl) rfl rfl ⟨BK.out, HLK.out⟩ (fun hHeld => ?_)
      refine with_tabW table_Slots.tab6 table_Slots.bits6 (fun HT_ HW_ => ?_)
      generalize w6.drew = w7 at HO HB BK HM HLK hHeld ⊢
      refine pv_ 0 15 #[Tt,Ff,Ff,Ff,Ff,Ff,Ff] ?_
      refine take_ (i := 1) (N := some 16) (v := ?_) (a' := ?_) #[Tt,Tt,Ff,Ff,Ff,Ff,Ff] rfl rfl (take_ofW HT_.out HW_.out (by kernel_rfl)) (fun _ _ _ h => h) (Or.inl ⟨by rfl, ?_⟩) hHeld ?_ ?_
      rotate_left
      · rintro w' ⟨s0, s1⟩
        have z0 : w'.cell? ⟨gb, 0, none⟩ = some (.int .i64 f0) := (blk_cell s0 0).trans rfl
        have z1 : w'.cell? ⟨gb, 1, none⟩ = some (.int .i64 f1) := (blk_cell s0 1).trans rfl
        have y0 := blk_frozen s0 0
        have y1 := blk_frozen s0 1
        go_simp
        with_reducible rfl
      rotate_left
      exact ap_
      refine take_ (i := 2) (N := some 17) (v := ?_) (a' := ?_) #[Tt,Tt,Tt,Ff,Ff,Ff,Ff] rfl rfl (take_ofW HT_.out HW_.out (by kernel_rfl)) (fun _ _ _ h => h) (Or.inl ⟨by rfl, ?_⟩) hHeld ?_ ?_
      rotate_left
      · rintro w' ⟨s0, s1⟩
        go_simp
        with_reducible rfl
      rotate_left
      exact ap_
      refine pv_ 3 18 #[Tt,Tt,Tt,Tt,Ff,Ff,Ff] ?_
      have hn : j < maxLen := by have := HL0.out; unfold maxLen; omega
      obtain ⟨v0, st, w8, es1, hrun1, hM1, hsame, hg1, hst⟩ := mentry E70 klaw70 Try.underlying71 HM.out HGD.out hn
      have hrun1' : (Instr.mapEntry 71 (.map (some mb)) (.agg #[.int .i64 f0, .int .i64 f1])).run Try.prog w7 = .ok (.tuple #[v0, goInt st]) w8 := hrun1
      clear hrun1
      refine one_ (i := 4) (N := some 19) #[Tt,Tt,Tt,Tt,Tt,Ff,Ff] rfl rfl (one_of HT_.out (by kernel_rfl)) (by decide) (fun K hK => ?_)
      refine value_ (v := .tuple #[v0, goInt st]) (w1 := w8) (by rfl) rfl (by go_simp; done) ?_
      have n0_ := Aside0.mk (blk_grown BK.out hg1 (fun e_ => NBbm.out (Option.some.inj e_)))
      have n1_ := Aside0.mk (Kd.R_grown HO.out hg1 (fun k_ hk e_ => hk.1.2 (Option.some.inj e_)))
      have n2_ := Aside0.mk (Below.grown HB.out hg1 (below_size HB.out) (fun k_ e_ => by injection e_ with e_; subst e_; exact GEm.out))
      have n3_ := Aside0.mk hM1
      clear BK HO HB HM
      have BK := n0_
      have HO := n1_
      have HB := n2_
      have HM := n3_
      clear n0_ n1_ n2_ n3_
      have hlk1 := mlook_run E70 Try.underlying71 hM1 HGD.out
      rw [hsame, ← HLN.out] at hlk1
      refine hK.out _ _ ⟨BK.out, hlk1⟩ (fun hHeld => ?_)
      clear hK K hM1 hsame hg1 hrun1' hlk1
      refine norm_ (a' := ?_) ?_ ?_
      rotate_left
      · show Act.put _ (some 19) _ = _
        simp only [Act.put, List.setIfInBounds_toArray, List.set_cons_zero, List.set_cons_succ, i64_w, i32_w]
        rfl
      refine pv_ 5 20 #[Tt,Tt,Tt,Tt,Tt,Tt,Ff] ?_
      refine last_ (i := 6) (N := none) #[Tt,Tt,Tt,Tt,Tt,Tt,Tt] rfl rfl (one_of HT_.out (by kernel_rfl)) (by decide) (fun K hK => ?_)
      have hwv : wrap64 (cn + 1) = cn + 1 := by
        have h_ := HCN.out
        unfold wrap64
        omega
      have HWV := Aside0.mk hwv
      clear hwv
      obtain ⟨w9, hrun2, hM2, hg2⟩ := hst (wrap64 (cn + 1)) (by rw [HWV.out]; have h_ := HCN.out; exact wf_i64' (by omega) (by omega))
      have hrun2' : (Instr.entryStore 71 (.map (some mb)) (.int .i64 (st : Int)) (.int .i64 (wrap64 (cn + 1)))).run Try.prog w8 = .ok () w9 := hrun2
      refine skip_ (w1 := w9) (by rfl) rfl (by go_simp; done) ?_
      rw [HWV.out, ← HSN.out] at hM2
      have n0_ := Aside0.mk (blk_grown BK.out hg2 (fun e_ => NBbm.out (Option.some.inj e_)))
      have n1_ := Aside0.mk (Kd.R_grown HO.out hg2 (fun k_ hk e_ => hk.1.2 (Option.some.inj e_)))
      have n2_ := Aside0.mk (Below.grown HB.out hg2 (below_size HB.out) (fun k_ e_ => by injection e_ with e_; subst e_; exact GEm.out))
      have n3_ := Aside0.mk hM2
      clear BK HO HB HM
      have BK := n0_
      have HO := n1_
      have HB := n2_
      have HM := n3_
      clear n0_ n1_ n2_ n3_ hM2 hg2 hrun2 hrun2' hst HLK
      refine hK.out _ _ ?_
      clear hK K
      refine done_ (done_of HT_.out (by kernel_rfl)) ?_
      have z0 : w9.cell? ⟨gb, 0, none⟩ = some (.int .i64 f0) := (blk_cell BK.out 0).trans rfl
      have z1 : w9.cell? ⟨gb, 1, none⟩ = some (.int .i64 f1) := (blk_cell BK.out 1).trans rfl
      have y0 := blk_frozen BK.out 0
      have y1 := blk_frozen BK.out 1
      have HKL : Aside0 ((keptS (l0.take j)).length ≤ 1048576) := ⟨by
        unfold keptS
        rw [List.length_map]
        have h1 := P.keysOf_length_le keyS (l0.take j)
        rw [List.length_take] at h1
        have := HL0.out
        omega⟩
      have hwr : wrap64 ((j : Int) + 1) = ((j + 1 : Nat) : Int) := by have := HL0.out; unfold wrap64; omega
      by_cases ck : cn + 1 = 1
      · have ck1 : decide (cn + 1 = 1) = true := decide_eq_true ck
        have ck2 : (cn + 1 == 1) = true := beq_iff_eq.2 ck
        have hk2 := HKP.out
        rw [if_pos ck] at hk2
        have HK2 := Aside0.mk hk2
        clear hk2 ck
        go_wp2_with (first
          | ((with_reducible refine gate_dst (N := 23) rfl ?_); refine mlook1 E70 _ rfl _ _ 71 rfl Try.underlying71 rfl HM.out (f0, f1) rfl HGD.out ?_; intro w10 hb; rw [HLK2.out]; have n0_ := Aside0.mk (below_step HB.out hb); have n1_ := Aside0.mk (Kd.R_below HO.out hb); have n2_ := Aside0.mk (MapI.below HM.out hb); have n3_ := Aside0.mk (blk_below BK.out hb); clear HB HO HM BK z0 z1 y0 y1 hb; have HB := n0_; have HO := n1_; have HM := n2_; have BK := n3_; clear n0_ n1_ n2_ n3_; have z0 : w10.cell? ⟨gb, 0, none⟩ = some (.int .i64 f0) := (blk_cell BK.out 0).trans rfl; have z1 : w10.cell? ⟨gb, 1, none⟩ = some (.int .i64 f1) := (blk_cell BK.out 1).trans rfl; have y0 := blk_frozen BK.out 0; have y1 := blk_frozen BK.out 1)
          | ((with_reducible refine gate_builtin (b := .append) (xs := #[.tmp 25, .tmp 27]) rfl ?_); at_builtin; refine Kd.R_append k70 (w0 := w) w.heap.size rfl (.tmp 25) (.tmp 27) 45 70 (.agg #[(.int .i64 0), (.int .i64 0)]) 16 rfl Try.underlying45 info70 rfl (by decide) (by omega) u4 (keptS (l0.take j)) (⟨f0, f1⟩ : S70) [(.int .i64 f0), (.int .i64 f1)] (fun k_ => (True ∧ k_ ≠ mb) ∧ k_ ≠ gb) (fun _ => False) rfl (by first | (go_simp; done) | (go_simp; rfl)) ?aP (fun _ hk => hk.elim) ?aF ?aO ?aB ?aS ?aL ?_; (case aP => exact k70_mkM _ _ _ (⟨f0, f1⟩ : S70)); (case aB => exact (by repeat (first | (with_reducible first | exact HB.out | apply below_alloc | apply pw_below_drewN | apply below_drew1) | exact HB.out))); (case aF => exact (fun k_ hk => ⟨⟨trivial, fun e_ => absurd (Nat.lt_of_lt_of_le (MapI.lt HM.out) hk) (by rw [e_]; exact Nat.lt_irrefl _)⟩, Kd.freshB (g := gb) (o := .cells #[.int .i64 f0, .int .i64 f1] 70 (0, 0)) (by (with_reducible repeat (first | refine blk_drewN ?_ _ | refine blk_drew ?_ | refine blk_alloc ?_ _)); exact BK.out) k_ hk⟩)); (case aO => (with_reducible repeat (first | apply Kd.R_alloc | apply Kd.R_drewN | apply Kd.R_drew)); exact HO.out); (case aS => exact (below_size (by repeat (first | (with_reducible first | exact HB.out | apply below_alloc | apply pw_below_drewN | apply below_drew1) | exact HB.out)))); (case aL => have := HKL.out; omega); intro v12 w11 ho hb hg hat; have n2_ := Aside0.mk (MapI.grownT HM.out hg (Kd.R_typed HO.out)); have n0_ := Aside0.mk ho; have n1_ := Aside0.mk hb; clear HO HB HM BK; have HO := n0_; have HB := n1_; have HM := n2_; clear n0_ n1_ n2_ ho hb hg hat))
        go_roundg gk
        case measure => omega
        case rel => exact ⟨j + 1, by rw [← hwr], ⟨by have := HJ.out; omega⟩, ⟨by rw [HK2.out]; exact Kd.R_mono HO.out (fun _ hk => hk.1)⟩, HB, HM⟩
      · have ck1 : decide (cn + 1 = 1) = false := decide_eq_false ck
        have ck2 : (cn + 1 == 1) = false := beq_eq_false_iff_ne.2 ck
        have hk2 := HKP.out
        rw [if_neg ck] at hk2
        have HK2 := Aside0.mk hk2
        clear hk2 ck
        go_wp2_with (first
          | ((with_reducible refine gate_dst (N := 23) rfl ?_); refine mlook1 E70 _ rfl _ _ 71 rfl Try.underlying71 rfl HM.out (f0, f1) rfl HGD.out ?_; intro w10 hb; rw [HLK2.out]; have n0_ := Aside0.mk (below_step HB.out hb); have n1_ := Aside0.mk (Kd.R_below HO.out hb); have n2_ := Aside0.mk (MapI.below HM.out hb); have n3_ := Aside0.mk (blk_below BK.out hb); clear HB HO HM BK z0 z1 y0 y1 hb; have HB := n0_; have HO := n1_; have HM := n2_; have BK := n3_; clear n0_ n1_ n2_ n3_; have z0 : w10.cell? ⟨gb, 0, none⟩ = some (.int .i64 f0) := (blk_cell BK.out 0).trans rfl; have z1 : w10.cell? ⟨gb, 1, none⟩ = some (.int .i64 f1) := (blk_cell BK.out 1).trans rfl; have y0 := blk_frozen BK.out 0; have y1 := blk_frozen BK.out 1))
        go_roundg gk
        case measure => omega
        case rel => exact ⟨j + 1, by rw [← hwr], ⟨by have := HJ.out; omega⟩, ⟨by rw [HK2.out]; exact Kd.R_mono HO.out (fun _ hk => hk.1)⟩, HB, HM⟩
end Go.Proofs.Ytlcbpaenjjeenaa.Q
end
section
namespace Go.Proofs.Ytlcbpaenjjeenaa.P
def row {β : Type} (V : Nat) (g : Nat → β) : List β := (List.range V).map g
section
variable {β : Type}
theorem row_length (V : Nat) (g : Nat → β) : (row V g).length = V := by simp [row]
theorem row_get? (V : Nat) (g : Nat → β) (v : Nat) (h : v < V) : (row V g)[v]? = some (g v) := by
  unfold row
  rw [List.getElem?_map, List.getElem?_range h]; rfl
theorem row_none (V : Nat) (g : Nat → β) (v : Nat) (h : V ≤ v) : (row V g)[v]? = none := List.getElem?_eq_none (by rw [row_length]; exact h)
theorem row_get (V : Nat) (g : Nat → β) (v : Nat) (h : v < (row V g).length) : (row V g)[v] = g v := by simp [row]
theorem row_ext {V : Nat} {g g' : Nat → β} (h : ∀ v, v < V → g v = g' v) : row V g = row V g' := by
  unfold row
  exact List.map_congr_left (fun v hv => h v (List.mem_range.1 hv))
theorem row_set (V : Nat) (g : Nat → β) (v : Nat) (x : β) : (row V g).set v x = row V (fun u => if u = v then x else g u) := by
  apply List.ext_getElem?
  intro i
  rcases Nat.lt_or_ge i V with hi | hi
  · rw [List.getElem?_set, row_get? _ _ _ hi, row_length]
    by_cases e : v = i
    · subst e; simp [hi, row_get? _ _ _ hi]
    · rw [if_neg e, row_get? _ _ _ hi, if_neg (Ne.symm e)]
  · rw [row_none _ _ _ hi, List.getElem?_eq_none (by rw [List.length_set, row_length]; exact hi)]
end
theorem row_replicate {β : Type} (V : Nat) (x : β) : List.replicate V x = row V (fun _ => x) := by
  unfold row
  apply List.ext_getElem?
  intro i
  rcases Nat.lt_or_ge i V with hi | hi
  · rw [List.getElem?_replicate, if_pos hi, List.getElem?_map, List.getElem?_range hi]; rfl
  · rw [List.getElem?_replicate, if_neg (by omega), List.getElem?_eq_none (by simpa using hi)]
end Go.Proofs.Ytlcbpaenjjeenaa.P
end
section
namespace Go.Proofs.Ytlcbpaenjjeenaa.P
open Go.RowKit Go.Proofs.Ytlcbpaenjjeenaa.Q Go.Proofs.YtlcbpaenjjeenaaW.PrintWords
theorem wf_i64 {n : Int} (h0 : -9223372036854775808 ≤ n) (h1 : n ≤ 9223372036854775807) : (Lit.int .i64 n).wf = true := by
  simp [Lit.wf, IntKind.min, IntKind.max, IntKind.bits, IntKind.signed]
  omega
def keyM (x : S56) : (Int × Int) := (x.f0, x.f1)
def LogOkM (es : List ((Int × Int) × Int)) (p : List S56) : Prop := (∀ k n, lookM es k = some n ↔ ∃ j : Nat, (keysOf keyM p)[j]? = some k ∧ n = (j : Int)) ∧ es.length ≤ p.length
theorem logOkM_nil : LogOkM [] [] := ⟨fun k n => by simp [lookM, keysOf, once], Nat.le_refl _⟩
theorem gatherM_loop (l : List S56) (hlen : l.length ≤ 1048576) (hw : ∀ x ∈ l, good2 (keyM x) = true) (d : Nat) : ∀ (i k : Nat) (es : List ((Int × Int) × Int)), i + d = l.length → d < k → LogOkM es (l.take i) →
    api_Move_2_int.l0 k (groups keyM (l.take i)) es l (l.length : Int) (i : Int) = some (groups keyM l) := by
  induction d with
  | zero =>
    intro i k es hi hk hes
    obtain ⟨k, rfl⟩ : ∃ m, k = m + 1 := ⟨k - 1, by omega⟩
    rw [api_Move_2_int.l0, if_neg (by omega), List.take_of_length_le (by omega)]
  | succ d ih =>
    intro i k es hi hk hes
    obtain ⟨k, rfl⟩ : ∃ m, k = m + 1 := ⟨k - 1, by omega⟩
    have hlt : i < l.length := by omega
    have hr : rd_T56 l (i : Int) = l[i] := by unfold rd_T56; simp [List.getD_eq_getElem?_getD, List.getElem?_eq_getElem hlt]
    have hgood := hw l[i] (List.getElem_mem hlt)
    have htl : (l.take i).length = i := by rw [List.length_take]; omega
    have hkl : (keysOf keyM (l.take i)).length ≤ i := by
      have h1 := keysOf_length_le keyM (l.take i)
      omega
    have hstep : l.take (i + 1) = l.take i ++ [l[i]] := List.take_succ_eq_append_getElem hlt
    have hwrap : wrap64 ((i : Int) + 1) = ((i + 1 : Nat) : Int) := by unfold wrap64; omega
    have hlook : lookF good2 es (keyM l[i]) = some ((lookM es (keyM l[i])).getD 0, (lookM es (keyM l[i])).isSome) := by unfold lookF; rw [if_pos hgood]
    rw [api_Move_2_int.l0, if_pos (by omega), if_pos (by omega), if_pos (by omega), hr]
    simp only [table_Moves_1.f, Option.bind_some]
    rw [show ((l[i].f0, l[i].f1) : (Int × Int)) = keyM l[i] from rfl, hlook]
    simp only [Option.bind_some]
    cases hL : lookM es (keyM l[i]) with
    | some n =>
      obtain ⟨j, hj, rfl⟩ := (hes.1 _ _).1 hL
      have hjl := (List.getElem?_eq_some_iff.1 hj).1
      have hrd : rd_L2 (groups keyM (l.take i)) (j : Int) = idxs keyM (l.take i) (keyM l[i]) := by
        unfold rd_L2
        rw [Int.toNat_natCast, List.getD_eq_getElem?_getD, groups_get _ _ _ _ hj]; rfl
      have hle := idxs_length_le keyM (l.take i) (keyM l[i])
      simp only [Option.getD_some, Option.isSome_some, if_true]
      rw [if_pos (by omega), if_pos (by rw [groups_length]; omega), hrd, if_pos (by omega), Int.toNat_natCast, hwrap]
      have e := groups_old keyM (l.take i) l[i] j hj
      rw [htl] at e
      rw [e, ← hstep]
      refine ih (i + 1) k es (by omega) (by omega) ⟨fun k' n' => ?_, by rw [hstep, List.length_append]; have := hes.2; omega⟩
      rw [hstep, keysOf_snoc, if_pos (List.mem_of_getElem? hj)]
      exact hes.1 k' n'
    | none =>
      have hno : keyM l[i] ∉ keysOf keyM (l.take i) := by
        intro hm
        obtain ⟨j, hj⟩ := List.getElem?_of_mem hm
        have := (hes.1 (keyM l[i]) (j : Int)).2 ⟨j, hj, rfl⟩
        rw [hL] at this
        cases this
      have hput : putF good2 es (keyM l[i]) ((groups keyM (l.take i)).length : Int) = some (es ++ [(keyM l[i], ((groups keyM (l.take i)).length : Int))]) := by
        have hwf : (Lit.int .i64 ((groups keyM (l.take i)).length : Int)).wf = true := wf_i64 (by omega) (by rw [groups_length]; omega)
        unfold putF
        rw [if_pos ⟨hgood, hwf, by have := hes.2; omega⟩]
      have hgl : ((groups keyM (l.take i)).length : Int) = ((keysOf keyM (l.take i)).length : Int) := by rw [groups_length]
      have hrd : rd_L2 (groups keyM (l.take i) ++ [[]]) ((groups keyM (l.take i)).length : Int) = [] := by
        unfold rd_L2
        rw [Int.toNat_natCast, List.getD_eq_getElem?_getD, List.getElem?_append_right (Nat.le_refl _)]; simp
      simp only [Option.getD_none, Option.isSome_none, Bool.false_eq_true, if_false]
      rw [hput]
      simp only [Option.bind_some]
      rw [if_pos (by rw [groups_length]; omega), if_pos (by omega), if_pos (by rw [List.length_append, List.length_singleton]; omega), hrd, if_pos (by decide), Int.toNat_natCast, hwrap]
      have e : (groups keyM (l.take i) ++ [[]]).set (groups keyM (l.take i)).length ([] ++ [(i : Int)]) = groups keyM (l.take (i + 1)) := by
        rw [hstep, ← groups_new _ _ _ hno, htl, List.set_append_right _ _ (Nat.le_refl _)]
        simp
      rw [e]
      refine ih (i + 1) k _ (by omega) (by omega) ⟨fun k' n' => ?_, by rw [hstep, List.length_append, List.length_append]; have := hes.2; simp; omega⟩
      rw [hstep, keysOf_snoc, if_neg hno, lookM_snoc, groups_length]
      by_cases ek : keyM l[i] = k'
      · rw [if_pos ek]
        subst ek
        constructor
        · intro h
          injection h with h
          exact ⟨(keysOf keyM (l.take i)).length, by simp, h.symm⟩
        · rintro ⟨j, hj, rfl⟩
          rcases Nat.lt_trichotomy j (keysOf keyM (l.take i)).length with h1 | h1 | h1
          · rw [List.getElem?_append_left h1] at hj
            exact absurd (List.mem_of_getElem? hj) hno
          · rw [h1]
          · rw [List.getElem?_eq_none (by rw [List.length_append, List.length_singleton]; omega)] at hj
            cases hj
      · rw [if_neg ek, hes.1]
        constructor
        · rintro ⟨j, hj, rfl⟩
          exact ⟨j, by rw [List.getElem?_append_left (List.getElem?_eq_some_iff.1 hj).1]; exact hj, rfl⟩
        · rintro ⟨j, hj, rfl⟩
          rcases Nat.lt_trichotomy j (keysOf keyM (l.take i)).length with h1 | h1 | h1
          · rw [List.getElem?_append_left h1] at hj
            exact ⟨j, hj, rfl⟩
          · rw [h1] at hj
            simp at hj
            exact absurd hj ek
          · rw [List.getElem?_eq_none (by rw [List.length_append, List.length_singleton]; omega)] at hj
            cases hj
theorem gatherM_eq (l : List S56) (hlen : l.length ≤ 1048576) (hw : ∀ x ∈ l, good2 (keyM x) = true) {k : Nat} (hk : l.length < k) : api_Move_2_int.f k l = some (groups keyM l) := by
  have h := gatherM_loop l hlen hw l.length 0 k [] (by omega) hk logOkM_nil
  exact h
def keyA (x : S42) : (Int × Int × Int) := (x.f0, x.f1, x.f3)
def mlt (a b : S56) : Prop := a.f1 < b.f1 ∨ a.f1 = b.f1 ∧ a.f0 < b.f0
instance (a b : S56) : Decidable (mlt a b) := by unfold mlt; exact inferInstance
def msum (l : List S56) (k : Int × Int) : Int := sumK keyM S56.f2 l k
def fits (n : Int) : Prop := -9223372036854775808 ≤ n ∧ n ≤ 9223372036854775807
instance (n : Int) : Decidable (fits n) := by unfold fits; exact inferInstance
def AllFit (l : List S56) : Prop := ∀ k ∈ keysOf keyM l, fits (msum l k)
instance (l : List S56) : Decidable (AllFit l) := by unfold AllFit; exact inferInstance
structure IsMerge (l r : List S56) : Prop where
  sorted : r.Pairwise mlt
  mem : ∀ m, m ∈ r ↔ keyM m ∈ keysOf keyM l ∧ m.f2 = msum l (keyM m) ∧ m.f2 ≠ 0
theorem mlt_irrefl (x : S56) : ¬ mlt x x := by unfold mlt; omega
theorem mlt_asym (x y : S56) (h : mlt x y) : ¬ mlt y x := by unfold mlt at *; omega
theorem isMerge_unique {l r r' : List S56} (h : IsMerge l r) (h' : IsMerge l r') : r = r' :=
  sorted_ext mlt_irrefl mlt_asym h.sorted h'.sorted (fun x => by rw [h.mem, h'.mem])
theorem s56_ext {x y : S56} (h0 : x.f0 = y.f0) (h1 : x.f1 = y.f1) (h2 : x.f2 = y.f2) : x = y := by
  cases x; cases y; simp_all
theorem isMerge_congr {l l' r : List S56} (hk : ∀ k, k ∈ keysOf keyM l ↔ k ∈ keysOf keyM l') (hs : ∀ k, k ∈ keysOf keyM l → msum l k = msum l' k) (h : IsMerge l r) : IsMerge l' r :=
  ⟨h.sorted, fun m => by
    rw [h.mem, hk]
    constructor
    · rintro ⟨h1, h2, h3⟩; exact ⟨h1, by rw [h2, hs _ ((hk _).2 h1)], h3⟩
    · rintro ⟨h1, h2, h3⟩; exact ⟨h1, by rw [h2, hs _ ((hk _).2 h1)], h3⟩⟩
theorem sorted_keys {r : List S56} (h : r.Pairwise mlt) : (r.map keyM).Nodup := by
  rw [List.Nodup, List.pairwise_map]
  refine h.imp ?_
  intro a b hab e
  unfold keyM at e
  have e0 := congrArg Prod.fst e
  have e1 := congrArg Prod.snd e
  simp only at e0 e1
  unfold mlt at hab
  omega
theorem msum_nodup {r : List S56} (h : (r.map keyM).Nodup) {m : S56} (hm : m ∈ r) : msum r (keyM m) = m.f2 := by
  induction r with
  | nil => cases hm
  | cons x r ih =>
    rw [List.map_cons, List.nodup_cons] at h
    unfold msum
    rw [sumK_cons]
    rcases List.mem_cons.1 hm with rfl | hm'
    · have hz : ∀ (r : List S56) (k : Int × Int), k ∉ r.map keyM → sumK keyM S56.f2 r k = 0 := by
        intro r k hk
        unfold sumK
        rw [List.filter_eq_nil_iff.2 (fun y hy => by
          simp only [decide_eq_true_eq]
          intro e
          exact hk (List.mem_map.2 ⟨y, hy, e⟩))]
        rfl
      rw [hz r _ h.1]
      simp
    · have hne : keyM x ≠ keyM m := fun e => h.1 (e ▸ List.mem_map_of_mem hm')
      rw [if_neg hne, Int.zero_add]
      exact ih h.2 hm'
theorem isMerge_idem {l r : List S56} (h : IsMerge l r) : IsMerge r r :=
  ⟨h.sorted, fun m => by
    constructor
    · intro hm
      exact ⟨(mem_keysOf _ _ _).2 ⟨m, hm, rfl⟩, (msum_nodup (sorted_keys h.sorted) hm).symm, ((h.mem m).1 hm).2.2⟩
    · rintro ⟨h1, h2, h3⟩
      obtain ⟨x, hx, hk⟩ := (mem_keysOf _ _ _).1 h1
      have e : m = x := by
        have := msum_nodup (sorted_keys h.sorted) hx
        rw [hk, ← h2] at this
        unfold keyM at hk
        exact s56_ext (congrArg Prod.fst hk).symm (congrArg Prod.snd hk).symm this
      rw [e]; exact hx⟩
theorem isMerge_fit {l r : List S56} (hf : AllFit l) (h : IsMerge l r) : AllFit r := by
  intro k hk
  obtain ⟨x, hx, rfl⟩ := (mem_keysOf _ _ _).1 hk
  rw [msum_nodup (sorted_keys h.sorted) hx, ((h.mem x).1 hx).2.1]
  exact hf _ ((h.mem x).1 hx).1
end Go.Proofs.Ytlcbpaenjjeenaa.P
end
section
namespace Go.Proofs.Ytlcbpaenjjeenaa.P
open Go.RowKit Go.Proofs.Ytlcbpaenjjeenaa.Q Go.Proofs.YtlcbpaenjjeenaaW.PrintWords Go.Proofs.YtlcbpaenjjeenaaW.PrintLast Go.Proofs.YtlcbpaenjjeenaaW.PrintMore
theorem ev_cst {α : Type} {g : Nat → Option α} {r : α} (h : ∀ k, g (k + 1) = some r) : Ev g r := Ev.step h (Ev.now r)
theorem wrap1 {i : Nat} (h : i ≤ 4611686018427387904) : wrap64 ((i : Int) + 1) = ((i + 1 : Nat) : Int) := by unfold wrap64; omega
end Go.Proofs.Ytlcbpaenjjeenaa.P
end
section
namespace Go.Proofs.Ytlcbpaenjjeenaa.Q
open Go.RowKit Go.Proofs.YtlcbpaenjjeenaaW.PrintWords Go.Proofs.YtlcbpaenjjeenaaW.PrintLast Go.Proofs.YtlcbpaenjjeenaaW.PrintMore
set_option linter.unusedVariables false
set_option linter.unusedSimpArgs false
def table_Moves_2.f (a0_0 : Int) (a0_1 : Int) (a0_2 : Int) : Option (Int) := some a0_2
set_option maxHeartbeats 8000000 in
set_option maxRecDepth 100000 in
theorem table_Moves_2.calls (a0_0 : Int) (a0_1 : Int) (a0_2 : Int) (r : Int) (w : World) (h : table_Moves_2.f a0_0 a0_1 a0_2 = some r) :
  Calls Try.prog 52 #[.agg #[.int .i64 a0_0, .int .i64 a0_1, .int .i64 a0_2]] w fun e w' => e = .returned (.int .i64 r) ∧ Below w.heap.size w w' := by
 have hu56 := Try.underlying56; have HB := Aside0.mk (Below.refl w.heap.size w); have H : (some a0_2) = some r := h; clear h; obtain rfl := Option.some.inj H
 go_enter Try.func52, Try.ntmps52
 go_wp2_with (first | ((with_reducible refine gate_dst (N := 1) rfl ?_); refine box_event ?hg (N := 1) ?hd (cs := #[.int .i64 a0_0, .int .i64 a0_1, .int .i64 a0_2]) (t := 56) ?hr ?_; (case hd => rfl); (case hg => rfl); (case hr => first | (go_simp; done) | (go_simp; rfl)); intro gb101 hg w2 hbox hb; have n0_ := Aside0.mk (below_step (by repeat (first | (with_reducible first | exact HB.out | apply below_alloc | apply pw_below_drewN | apply below_drew1) | exact HB.out)) hb); have n1_ := Aside0.mk (hbox); have n2_ := Aside0.mk ((by rw [hg]; exact (below_size (by repeat (first | (with_reducible first | exact HB.out | apply below_alloc | apply pw_below_drewN | apply below_drew1) | exact HB.out))) : w.heap.size ≤ gb101)); have n3_ := Aside0.mk ((by rw [hg]; exact (below_size (by repeat (first | (with_reducible first | exact HB.out | apply below_alloc | apply pw_below_drewN | apply below_drew1) | exact HB.out))) : w.heap.size ≤ gb101)); clear HB; have HB := n0_; have BK101 := n1_; have GW101 := n2_; have GE101 := n3_; clear n0_ n1_ n2_ n3_; clear hb hbox hg; have hcz3_0 : w2.cell? ⟨gb101, 0, none⟩ = some (.int .i64 a0_0) := (blk_cell BK101.out 0).trans rfl; have hcz3_1 : w2.cell? ⟨gb101, 1, none⟩ = some (.int .i64 a0_1) := (blk_cell BK101.out 1).trans rfl; have hcz3_2 : w2.cell? ⟨gb101, 2, none⟩ = some (.int .i64 a0_2) := (blk_cell BK101.out 2).trans rfl; have hfz3_0 := blk_frozen BK101.out 0; have hfz3_1 := blk_frozen BK101.out 1; have hfz3_2 := blk_frozen BK101.out 2))
 go_ret
 exact ⟨by first | rfl | (simp [errW_none, errW_some] <;> rfl) | (simp [*, errW_none, errW_some] <;> rfl), by repeat (first | (with_reducible first | exact HB.out | apply below_alloc | apply pw_below_drewN | apply below_drew1 | refine below_set ?_ GE101.out) | exact HB.out)⟩
end Go.Proofs.Ytlcbpaenjjeenaa.Q
end
