/- The walks of the register of rights, the laws, third part: each function comes to its Lean function. -/
import Derived.Test.YtmflfccincbnaaaLawB
import Derived.Test.YtmflfccincbnaaaPlainN
import Derived.Test.YtmflfccincbnaaaEngM
namespace Go.Proofs.Ytmflfccincbnaaa
open Go Go.Kn Go.Proofs
theorem consent_law {xs : List Rt} {ss hs : List Int} {ms : List (Int × Int)} {ys : List Rt} {chk ed s day time : Int} {x : Rt} (hc : chk = 0) (hys : ys = resF chk (standF xs day time))
    (hms : ms = missA (fun s => holdF s (partsM 2 ed (standF xs day time))) (missP (partsM 3 ed (standF xs day time))) ss) (hhs : hs = holdF s (partsM 2 ed (standF xs day time)))
    (hx : x ∈ ys) (hcov : coversF x 2 ed s = true) (hs' : s ∈ ss) :
    (!hs.any (fun y => y == x.holder) || (ms.any (fun p => p.1 == s && p.2 == x.holder) == ys.any (consP ed s x.holder))) = false := by
  rw [resF_ok hc] at hys
  subst hys
  have hmem : x.holder ∈ hs := by rw [hhs]; exact hold_mem.2 ⟨x, hx, hcov, rfl⟩
  have h1 : hs.any (fun y => y == x.holder) = true := List.any_eq_true.2 ⟨_, hmem, by simp⟩
  have h2 : ms.any (fun p => p.1 == s && p.2 == x.holder) = missP (partsM 3 ed (standF xs day time)) s x.holder := by
    rw [Bool.eq_iff_iff, List.any_eq_true]
    constructor
    · rintro ⟨⟨a, b⟩, hm, he⟩
      simp only [Bool.and_eq_true, beq_iff_eq] at he
      obtain ⟨rfl, rfl⟩ := he
      rw [hms] at hm
      exact (mem_missA.1 hm).2.2
    · intro h
      refine ⟨(s, x.holder), ?_, by simp⟩
      rw [hms]
      exact mem_missA.2 ⟨hs', by rw [← hhs]; exact hmem, h⟩
  rw [h1, h2, miss_eq]
  cases (standF xs day time).any (consP ed s x.holder) <;> rfl
theorem prev_m {ms : List (Int × Int)} {n i : Nat} (hn : ms.length = n) (hi : i < n) (h0 : 0 < i) : ms[((i : Int) - 1).toNat]? = some (ms.getD ((i : Int) - 1).toNat (0, 0)) := by
  have : ((i : Int) - 1).toNat < ms.length := by omega
  unfold List.getD
  rw [List.getElem?_eq_getElem this]; rfl
theorem empty_len {α : Type} (ms : List α) : ms.isEmpty = ((ms.length : Int) == 0) := by
  cases ms with
  | nil => rfl
  | cons x l =>
    have : ((x :: l).length : Int) ≠ 0 := by simp only [List.length_cons]; omega
    rw [beq_false_of_ne this]; rfl
theorem lex_next {ms : List (Int × Int)} (h : ms.Pairwise lexP) {k : Nat} {m q : Int × Int} (hm : ms[k + 1]? = some m) (hq : ms[k]? = some q) : lexP q m := by
  obtain ⟨h1, h2⟩ := List.getElem?_eq_some_iff.1 hm
  obtain ⟨h3, h4⟩ := List.getElem?_eq_some_iff.1 hq
  have := List.pairwise_iff_getElem.1 h k (k + 1) h3 h1 (by omega)
  rw [h2, h4] at this; exact this
theorem lex_prev {ms : List (Int × Int)} (h : ms.Pairwise lexP) {i : Nat} {m : Int × Int} (hm : ms[i]? = some m) (h0 : 0 < i) : lexP (ms.getD ((i : Int) - 1).toNat (0, 0)) m := by
  have hi := (List.getElem?_eq_some_iff.1 hm).1
  have hq := prev_m rfl hi h0
  have e : ((i : Int) - 1).toNat = i - 1 := by omega
  rw [e] at hq ⊢
  exact lex_next (k := i - 1) h (by rw [show i - 1 + 1 = i by omega]; exact hm) hq

theorem w_consentLaw {I : HMap} {av : Option Addr} {n c : Nat} {xs : List Rt} (hS : Sl I 11 encR av n c xs) (hx : ∀ x ∈ xs, okR x) {bv : Option Addr} {n2 c2 : Nat} {ss : List Int} (hT : Sl I 1 encI bv n2 c2 ss) (ed sg day time : Int) (name town : ByteArray) : RetV Try.prog 5 [.slice av n c, .agg #[.int .i64 ed, .int .i64 sg, .int .i64 day, .int .i64 time, .string name, .string town, .slice bv n2 c2]] I (.bool true) := by
  intro g H w hw
  refine enter Try.func5 rfl Try.ntmps5 rfl hw ?_
  have hIc := HLe.refl I
  refine X_seq ?_
  refine X_region ?_
  refine XO_box rfl rfl rfl (fun b_3 => ?_)
  refine XO_v0 (ev_assign rfl) rfl rfl rfl ?_
  refine XO_nil ?_
  refine at_then ?_
  refine X_seq ?_
  refine X_seq ?_
  refine X_region ?_
  refine XO_callV0 (cap := []) (vs := []) rfl rfl fun_10 (w_sane _) rfl rfl ?_
  refine XO_v0 (ev_not rfl) rfl rfl rfl ?_
  refine XO_nil ?_
  refine at_then ?_
  refine X_cond rfl (fun hc36 => ?_) (fun hc36 => ?_)
  · skip
    exact absurd hc36 (by decide)
  · skip
    refine X_skip ?_
    refine at_then ?_
    refine X_seq ?_
    refine X_seq ?_
    refine X_region ?_
    refine XO_v0 (ev_move rfl) rfl rfl rfl ?_
    refine XO_v0 (ev_lenS rfl slt_22) rfl rfl rfl ?_
    refine XO_v0 (ev_cmp rfl rfl rfl) rfl rfl rfl ?_
    refine XO_v0 (ev_move rfl) rfl rfl rfl ?_
    refine XO_pushF 3 rfl rfl rfl ?_
    refine XO_v1 (ev_fieldAddr rfl fld_33_6) (.some rfl rfl rfl rfl gbf) rfl rfl rfl ?_
    refine XO_v1 (ev_load rfl sct_31 (fun hg => by first | exact Sl.get0 hT hs1 rfl | exact Sl.get0 hH hz rfl | exact Sl.get (k := ((i : Int) - 1).toNat) hM (prev_m hM.len hli (by simp [conj] at hg; omega)) rfl | exact Cell.h0 rfl | exact Cell.h1 rfl | exact Cell.h2 rfl | exact Cell.h3 rfl | exact Cell.h4 rfl | exact Cell.h5 rfl | (repeat (first | exact Cell.here rfl | apply Cell.there | apply Cell.app)))) (.some rfl rfl rfl rfl gbf) rfl rfl rfl ?_
    refine XO_v1 (ev_lenS rfl slt_31) (.some rfl rfl rfl rfl gbf) rfl rfl rfl ?_
    refine XO_v1 (ev_cmp rfl rfl rfl) (.some rfl rfl rfl rfl gbf) rfl rfl rfl ?_
    refine XO_or0 rfl rfl rfl rfl rfl ?_
    refine XO_nil ?_
    refine at_then ?_
    refine X_cond rfl (fun hc45 => ?_) (fun hc45 => ?_)
    · skip
      refine X_seq ?_
      refine X_region ?_
      refine XO_v0 (ev_assign rfl) rfl rfl rfl ?_
      refine XO_nil ?_
      refine at_then ?_
      refine X_ret ?_
      refine at_then_r ?_
      first
      | exact at_ret1 rfl rfl (fun w hw => ⟨rfl, (hw.mono hIc).drop⟩)
      | exact at_ret1 rfl rfl (fun w hw => ⟨by rw [hms, ← he5]; unfold resF; rw [if_pos (by simpa using hc61)]; simp; simpa using hc61, (hw.mono hIc).drop⟩)
    · skip
      simp only [Bool.or_eq_false_iff] at hc45
      have hn1 : n ≤ 120 := by have := of_decide_eq_false hc45.1; omega
      have hn : n ≤ 100000 := by omega
      have hn7 : n2 ≤ 64 := by have := of_decide_eq_false hc45.2; omega
      have hn2 : n2 ≤ 100000 := by omega
      refine X_skip ?_
      refine at_then ?_
      refine X_seq ?_
      refine X_region ?_
      refine XO_v0 (ev_move rfl) rfl rfl rfl ?_
      refine XO_v0 (ev_fieldAddr rfl fld_33_0) rfl rfl rfl ?_
      refine XO_v0 (ev_load rfl sct_3 (fun hg => by first | exact Sl.get0 hT hs1 rfl | exact Sl.get0 hH hz rfl | exact Sl.get (k := ((i : Int) - 1).toNat) hM (prev_m hM.len hli (by simp [conj] at hg; omega)) rfl | exact Cell.h0 rfl | exact Cell.h1 rfl | exact Cell.h2 rfl | exact Cell.h3 rfl | exact Cell.h4 rfl | exact Cell.h5 rfl | (repeat (first | exact Cell.here rfl | apply Cell.there | apply Cell.app)))) rfl rfl rfl ?_
      refine XO_v0 (ev_fieldAddr rfl fld_33_6) rfl rfl rfl ?_
      refine XO_v0 (ev_load rfl sct_31 (fun hg => by first | exact Sl.get0 hT hs1 rfl | exact Sl.get0 hH hz rfl | exact Sl.get (k := ((i : Int) - 1).toNat) hM (prev_m hM.len hli (by simp [conj] at hg; omega)) rfl | exact Cell.h0 rfl | exact Cell.h1 rfl | exact Cell.h2 rfl | exact Cell.h3 rfl | exact Cell.h4 rfl | exact Cell.h5 rfl | (repeat (first | exact Cell.here rfl | apply Cell.there | apply Cell.app)))) rfl rfl rfl ?_
      refine XO_v0 (ev_fieldAddr rfl fld_33_2) rfl rfl rfl ?_
      refine XO_v0 (ev_load rfl sct_3 (fun hg => by first | exact Sl.get0 hT hs1 rfl | exact Sl.get0 hH hz rfl | exact Sl.get (k := ((i : Int) - 1).toNat) hM (prev_m hM.len hli (by simp [conj] at hg; omega)) rfl | exact Cell.h0 rfl | exact Cell.h1 rfl | exact Cell.h2 rfl | exact Cell.h3 rfl | exact Cell.h4 rfl | exact Cell.h5 rfl | (repeat (first | exact Cell.here rfl | apply Cell.there | apply Cell.app)))) rfl rfl rfl ?_
      refine XO_v0 (ev_fieldAddr rfl fld_33_3) rfl rfl rfl ?_
      refine XO_v0 (ev_load rfl sct_3 (fun hg => by first | exact Sl.get0 hT hs1 rfl | exact Sl.get0 hH hz rfl | exact Sl.get (k := ((i : Int) - 1).toNat) hM (prev_m hM.len hli (by simp [conj] at hg; omega)) rfl | exact Cell.h0 rfl | exact Cell.h1 rfl | exact Cell.h2 rfl | exact Cell.h3 rfl | exact Cell.h4 rfl | exact Cell.h5 rfl | (repeat (first | exact Cell.here rfl | apply Cell.there | apply Cell.app)))) rfl rfl rfl ?_
      refine XO_callM (cap := []) (vs := [_, _, _, _, _]) rfl rfl fun_21 .nil ((w_Allowed hS hn hT hn2 _ _ _).absA) rfl rfl ?_
      rintro vv1 I1 L1 hI1 ⟨ms, e5, hms, he5, rfl, a1, c1, rfl, hM⟩
      have hS := hS.mono hI1
      have hT := hT.mono hI1
      have hIc := hIc.trans hI1
      refine XO_v0 (ev_move rfl) rfl rfl rfl ?_
      refine XO_v0 (ev_extract rfl rfl) rfl rfl rfl ?_
      refine XO_v0 (ev_extract rfl rfl) rfl rfl rfl ?_
      refine XO_v0 (ev_extract rfl rfl) rfl rfl rfl ?_
      refine XO_v0 (ev_assign rfl) rfl rfl rfl ?_
      refine XO_v0 (ev_assign rfl) rfl rfl rfl ?_
      refine XO_v0 (ev_assign rfl) rfl rfl rfl ?_
      refine XO_nil ?_
      refine at_then ?_
      refine X_seq ?_
      refine X_seq ?_
      refine X_region ?_
      refine XO_v0 (ev_move rfl) rfl rfl rfl ?_
      refine XO_v0 (ev_cmp rfl rfl rfl) rfl rfl rfl ?_
      refine XO_nil ?_
      refine at_then ?_
      refine X_cond rfl (fun hc61 => ?_) (fun hc61 => ?_)
      · skip
        refine X_seq ?_
        refine X_region ?_
        refine XO_v0 (ev_move rfl) rfl rfl rfl ?_
        refine XO_v0 (ev_not rfl) rfl rfl rfl ?_
        refine XO_v0 (ev_move rfl) rfl rfl rfl ?_
        refine XO_pushT 2 rfl rfl rfl ?_
        refine XO_v1 (ev_move rfl) (.some rfl rfl rfl rfl gbt) rfl rfl rfl ?_
        refine XO_v1 (ev_lenS rfl slt_38) (.some rfl rfl rfl rfl gbt) rfl rfl rfl ?_
        refine XO_v1 (ev_cmp rfl rfl rfl) (.some rfl rfl rfl rfl gbt) rfl rfl rfl ?_
        refine XO_and0 rfl rfl rfl rfl rfl ?_
        refine XO_v0 (ev_assign rfl) rfl rfl rfl ?_
        refine XO_nil ?_
        refine at_then ?_
        refine X_ret ?_
        refine at_then_r ?_
        first
        | exact at_ret1 rfl rfl (fun w hw => ⟨rfl, (hw.mono hIc).drop⟩)
        | exact at_ret1 rfl rfl (fun w hw => ⟨by rw [hms, ← he5]; unfold resF; rw [if_pos (by simpa using hc61)]; simp; simpa using hc61, (hw.mono hIc).drop⟩)
      · skip
        have e0 : e5 = 0 := by simpa using hc61
        obtain ⟨hc0, _, hok⟩ := aErr_zero (he5.symm.trans e0)
        have hms2 : ms = missA (fun s => holdF s (partsM 2 ed (standF xs day time))) (missP (partsM 3 ed (standF xs day time))) ss := by rw [hms]; exact resF_ok (he5.symm.trans e0)
        have hml : ms.length ≤ 100000 := by rw [hms]; exact ss_len9 (xs := xs) hS.len (by omega) hT.len (by omega) ed day time
        refine X_skip ?_
        refine at_then ?_
        refine X_seq ?_
        refine X_region ?_
        refine XO_v0 (ev_move rfl) rfl rfl rfl ?_
        refine XO_v0 (ev_fieldAddr rfl fld_33_2) rfl rfl rfl ?_
        refine XO_v0 (ev_load rfl sct_3 (fun hg => by first | exact Sl.get0 hT hs1 rfl | exact Sl.get0 hH hz rfl | exact Sl.get (k := ((i : Int) - 1).toNat) hM (prev_m hM.len hli (by simp [conj] at hg; omega)) rfl | exact Cell.h0 rfl | exact Cell.h1 rfl | exact Cell.h2 rfl | exact Cell.h3 rfl | exact Cell.h4 rfl | exact Cell.h5 rfl | (repeat (first | exact Cell.here rfl | apply Cell.there | apply Cell.app)))) rfl rfl rfl ?_
        refine XO_v0 (ev_fieldAddr rfl fld_33_3) rfl rfl rfl ?_
        refine XO_v0 (ev_load rfl sct_3 (fun hg => by first | exact Sl.get0 hT hs1 rfl | exact Sl.get0 hH hz rfl | exact Sl.get (k := ((i : Int) - 1).toNat) hM (prev_m hM.len hli (by simp [conj] at hg; omega)) rfl | exact Cell.h0 rfl | exact Cell.h1 rfl | exact Cell.h2 rfl | exact Cell.h3 rfl | exact Cell.h4 rfl | exact Cell.h5 rfl | (repeat (first | exact Cell.here rfl | apply Cell.there | apply Cell.app)))) rfl rfl rfl ?_
        refine XO_callM (cap := []) (vs := [_, _, _]) rfl rfl fun_12 .nil ((w_standing_all hS hn _ _).absS) rfl rfl ?_
        rintro vv2 I2 L2 hI2 ⟨ys, e8, hys, he8, rfl, a2, c2, rfl, hY⟩
        have hS := hS.mono hI2
        have hT := hT.mono hI2
        have hM := hM.mono hI2
        have hIc := hIc.trans hI2
        refine XO_v0 (ev_move rfl) rfl rfl rfl ?_
        refine XO_v0 (ev_extract rfl rfl) rfl rfl rfl ?_
        refine XO_v0 (ev_extract rfl rfl) rfl rfl rfl ?_
        refine XO_v0 (ev_assign rfl) rfl rfl rfl ?_
        refine XO_v0 (ev_assign rfl) rfl rfl rfl ?_
        refine XO_nil ?_
        refine at_then ?_
        refine X_seq ?_
        refine X_seq ?_
        refine X_region ?_
        refine XO_v0 (ev_move rfl) rfl rfl rfl ?_
        refine XO_v0 (ev_cmp rfl rfl rfl) rfl rfl rfl ?_
        refine XO_v0 (ev_move rfl) rfl rfl rfl ?_
        refine XO_pushF 2 rfl rfl rfl ?_
        refine XO_v1 (ev_move rfl) (.some rfl rfl rfl rfl gbf) rfl rfl rfl ?_
        refine XO_v1 (ev_move rfl) (.some rfl rfl rfl rfl gbf) rfl rfl rfl ?_
        refine XO_v1 (ev_lenS rfl slt_38) (.some rfl rfl rfl rfl gbf) rfl rfl rfl ?_
        refine XO_v1 (ev_cmp rfl rfl rfl) (.some rfl rfl rfl rfl gbf) rfl rfl rfl ?_
        refine XO_v1 (ev_boolN rfl rfl und_4) (.some rfl rfl rfl rfl gbf) rfl rfl rfl ?_
        refine XO_or0 rfl rfl rfl rfl rfl ?_
        refine XO_nil ?_
        refine at_then ?_
        refine X_cond rfl (fun hc86 => ?_) (fun hc86 => ?_)
        · skip
          exact absurd hc86 (by rw [he8, hc0, e0, empty_len]; simp)
        · skip
          have hyl : ys.length ≤ 100000 := by rw [hys]; exact Nat.le_trans resF_len (Nat.le_trans standF_len (by rw [hS.len]; exact hn))
          have hsort : ms.Pairwise lexP := by rw [hms2]; exact missA_sorted (fun s => hold_sorted) (signOK_sorted hok)
          refine X_skip ?_
          refine at_then ?_
          refine X_seq ?_
          refine X_seq ?_
          refine X_region ?_
          refine XO_v0 (ev_fieldAddr rfl fld_33_6) rfl rfl rfl ?_
          refine XO_v0 (ev_load rfl sct_31 (fun hg => by first | exact Sl.get0 hT hs1 rfl | exact Sl.get0 hH hz rfl | exact Sl.get (k := ((i : Int) - 1).toNat) hM (prev_m hM.len hli (by simp [conj] at hg; omega)) rfl | exact Cell.h0 rfl | exact Cell.h1 rfl | exact Cell.h2 rfl | exact Cell.h3 rfl | exact Cell.h4 rfl | exact Cell.h5 rfl | (repeat (first | exact Cell.here rfl | apply Cell.there | apply Cell.app)))) rfl rfl rfl ?_
          refine XO_v0 (ev_lenS rfl slt_31) rfl rfl rfl ?_
          refine XO_v0 (ev_move rfl) rfl rfl rfl ?_
          refine XO_nil ?_
          refine at_then ?_
          refine X_block ?_
          refine X_loopT [(0, _), (3, _), (6, _), (8, _), (88, _), (89, _)] (.cons rfl (.cons rfl (.cons rfl (.cons rfl (.cons rfl (.cons rfl .nil)))))) (fun T L0 mz E I' loc' => ∃ k : Nat, mz = n2 - k ∧ E = (90, .int .i64 k) :: T ∧ HLe I2 I' ∧ loc' = L0 ∧ k ≤ n2) _ _ _ _ ⟨0, rfl, rfl, HLe.refl _, rfl, Nat.zero_le _⟩ (.cons rfl (.cons rfl (.cons rfl (.cons rfl (.cons rfl (.cons rfl (.cons rfl .nil))))))) (HLe.refl _) rfl ?_
          rintro mz E J3 loc' ⟨k, rfl, rfl, hJ, rfl, hk⟩
          have hS := hS.mono hJ
          have hT := hT.mono hJ
          have hM := hM.mono hJ
          have hY := hY.mono hJ
          have hIc := hIc.trans hJ
          have hB0 := hJ
          refine X_seq ?_
          refine X_region ?_
          refine XO_v0 (ev_cmp rfl rfl rfl) rfl rfl rfl ?_
          refine XO_nil ?_
          refine at_then ?_
          refine X_seq ?_
          refine X_cond rfl (fun hc91 => ?_) (fun hc91 => ?_)
          · skip
            have hlt : k < n2 := by simpa using hc91
            obtain ⟨s1, hs1⟩ := hT.at hlt
            have hms1 : s1 ∈ ss := List.mem_of_getElem? hs1
            refine X_skip ?_
            refine at_then ?_
            refine X_seq ?_
            refine X_block ?_
            refine X_seq ?_
            refine X_region ?_
            refine XO_v0 (ev_indexSl rfl rfl slt_31 (by assumption) (fun hg => by first | omega | (simp [conj] at hg; omega))) rfl rfl rfl ?_
            refine XO_v0 (ev_load rfl sct_3 (fun hg => by first | exact Sl.get0 hT hs1 rfl | exact Sl.get0 hH hz rfl | exact Sl.get (k := ((i : Int) - 1).toNat) hM (prev_m hM.len hli (by simp [conj] at hg; omega)) rfl | exact Cell.h0 rfl | exact Cell.h1 rfl | exact Cell.h2 rfl | exact Cell.h3 rfl | exact Cell.h4 rfl | exact Cell.h5 rfl | (repeat (first | exact Cell.here rfl | apply Cell.there | apply Cell.app)))) rfl rfl rfl ?_
            refine XO_v0 (ev_assign rfl) rfl rfl rfl ?_
            refine XO_nil ?_
            refine at_then ?_
            refine X_seq ?_
            refine X_region ?_
            refine XO_v0 (ev_move rfl) rfl rfl rfl ?_
            refine XO_v0 (ev_fieldAddr rfl fld_33_0) rfl rfl rfl ?_
            refine XO_v0 (ev_load rfl sct_3 (fun hg => by first | exact Sl.get0 hT hs1 rfl | exact Sl.get0 hH hz rfl | exact Sl.get (k := ((i : Int) - 1).toNat) hM (prev_m hM.len hli (by simp [conj] at hg; omega)) rfl | exact Cell.h0 rfl | exact Cell.h1 rfl | exact Cell.h2 rfl | exact Cell.h3 rfl | exact Cell.h4 rfl | exact Cell.h5 rfl | (repeat (first | exact Cell.here rfl | apply Cell.there | apply Cell.app)))) rfl rfl rfl ?_
            refine XO_v0 (ev_move rfl) rfl rfl rfl ?_
            refine XO_v0 (ev_fieldAddr rfl fld_33_2) rfl rfl rfl ?_
            refine XO_v0 (ev_load rfl sct_3 (fun hg => by first | exact Sl.get0 hT hs1 rfl | exact Sl.get0 hH hz rfl | exact Sl.get (k := ((i : Int) - 1).toNat) hM (prev_m hM.len hli (by simp [conj] at hg; omega)) rfl | exact Cell.h0 rfl | exact Cell.h1 rfl | exact Cell.h2 rfl | exact Cell.h3 rfl | exact Cell.h4 rfl | exact Cell.h5 rfl | (repeat (first | exact Cell.here rfl | apply Cell.there | apply Cell.app)))) rfl rfl rfl ?_
            refine XO_v0 (ev_fieldAddr rfl fld_33_3) rfl rfl rfl ?_
            refine XO_v0 (ev_load rfl sct_3 (fun hg => by first | exact Sl.get0 hT hs1 rfl | exact Sl.get0 hH hz rfl | exact Sl.get (k := ((i : Int) - 1).toNat) hM (prev_m hM.len hli (by simp [conj] at hg; omega)) rfl | exact Cell.h0 rfl | exact Cell.h1 rfl | exact Cell.h2 rfl | exact Cell.h3 rfl | exact Cell.h4 rfl | exact Cell.h5 rfl | (repeat (first | exact Cell.here rfl | apply Cell.there | apply Cell.app)))) rfl rfl rfl ?_
            refine XO_callM (cap := []) (vs := [_, _, _, _, _]) rfl rfl fun_19 .nil ((w_Holders hS hn _ _ _ _).absS) rfl rfl ?_
            rintro vv4 I4 L4 hI4 ⟨hs, e14, hhs, he14, rfl, a4, c4, rfl, hH⟩
            have hS := hS.mono hI4
            have hT := hT.mono hI4
            have hM := hM.mono hI4
            have hY := hY.mono hI4
            have hIc := hIc.trans hI4
            have hB0 := hB0.trans hI4
            refine XO_v0 (ev_move rfl) rfl rfl rfl ?_
            refine XO_v0 (ev_extract rfl rfl) rfl rfl rfl ?_
            refine XO_v0 (ev_extract rfl rfl) rfl rfl rfl ?_
            refine XO_v0 (ev_assign rfl) rfl rfl rfl ?_
            refine XO_v0 (ev_assign rfl) rfl rfl rfl ?_
            refine XO_nil ?_
            refine at_then ?_
            refine X_seq ?_
            refine X_seq ?_
            refine X_region ?_
            refine XO_v0 (ev_move rfl) rfl rfl rfl ?_
            refine XO_v0 (ev_cmp rfl rfl rfl) rfl rfl rfl ?_
            refine XO_nil ?_
            refine at_then ?_
            refine X_cond rfl (fun hc107 => ?_) (fun hc107 => ?_)
            · skip
              exact absurd hc107 (by rw [he14, hErr_ok hc0 (signOK_within hok hms1)]; decide)
            · skip
              have hhs2 : hs = holdF s1 (partsM 2 ed (standF xs day time)) := by rw [hhs]; exact resF_ok (hErr_ok hc0 (signOK_within hok hms1))
              have hhl : hs.length ≤ 100000 := by rw [hhs]; exact ss_len7 (xs := xs) hS.len (by omega) ed s1 day time
              refine X_skip ?_
              refine at_then ?_
              refine X_seq ?_
              refine X_region ?_
              refine XO_v0 (ev_move rfl) rfl rfl rfl ?_
              refine XO_v0 (ev_lenS rfl slt_22) rfl rfl rfl ?_
              refine XO_v0 (ev_move rfl) rfl rfl rfl ?_
              refine XO_nil ?_
              refine at_then ?_
              refine X_block ?_
              refine X_loopT [(0, _), (3, _), (6, _), (8, _), (11, _), (12, _), (88, _), (89, _), (90, _), (108, _), (109, _)] (.cons rfl (.cons rfl (.cons rfl (.cons rfl (.cons rfl (.cons rfl (.cons rfl (.cons rfl (.cons rfl (.cons rfl (.cons rfl .nil))))))))))) (fun T L0 mz E I' loc' => ∃ j : Nat, mz = ys.length - j ∧ E = (110, .int .i64 j) :: T ∧ I4 = I' ∧ loc' = L0 ∧ j ≤ ys.length) _ _ _ _ ⟨0, rfl, rfl, rfl, rfl, Nat.zero_le _⟩ (.cons rfl (.cons rfl (.cons rfl (.cons rfl (.cons rfl (.cons rfl (.cons rfl (.cons rfl (.cons rfl (.cons rfl (.cons rfl (.cons rfl .nil)))))))))))) (HLe.refl _) rfl ?_
              rintro mz E I' loc' ⟨j, rfl, rfl, rfl, rfl, hj⟩
              refine X_seq ?_
              refine X_region ?_
              refine XO_v0 (ev_cmp rfl rfl rfl) rfl rfl rfl ?_
              refine XO_nil ?_
              refine at_then ?_
              refine X_seq ?_
              refine X_cond rfl (fun hc111 => ?_) (fun hc111 => ?_)
              · skip
                have hlj : j < ys.length := by simpa using hc111
                obtain ⟨x, hx⟩ := hY.at hlj
                refine X_skip ?_
                refine at_then ?_
                refine X_seq ?_
                refine X_block ?_
                refine X_seq ?_
                refine X_region ?_
                refine XO_v0 (ev_indexSl rfl rfl slt_22 (by assumption) (fun hg => by first | omega | (simp [conj] at hg; omega))) rfl rfl rfl ?_
                refine XO_v0 (ev_loadA rfl agt_45 (fun _ => by first | exact Sl.getA hY hx | exact Sl.getA hY hy | exact Sl.getA hM hp | exact Sl.getA hM hm | exact Cells.g0 | exact Cells.g1 | exact Cells.g2 | exact Cells.g3 | exact Cells.g4 | exact Cells.g5 | (repeat (first | exact Cells.here | apply Cells.there | apply Cells.app))) rfl) rfl rfl rfl ?_
                refine XO_alloc zt_45 rfl rfl (fun b_15 => ?_)
                refine XO_storeA rfl rfl szt_45 rfl rfl rfl rfl (by first | exact Upd.u0 | exact Upd.u1 | exact Upd.u2 | exact Upd.u3 | exact Upd.u4 | exact Upd.u5 | (repeat (first | exact Upd.here | apply Upd.there | apply upd_app))) ?_
                refine XO_nil ?_
                refine at_then ?_
                refine X_seq ?_
                refine X_seq ?_
                refine X_region ?_
                refine XO_v0 (ev_fieldAddr rfl fld_45_1) rfl rfl rfl ?_
                refine XO_v0 (ev_load rfl sct_3 (fun hg => by first | exact Sl.get0 hT hs1 rfl | exact Sl.get0 hH hz rfl | exact Sl.get (k := ((i : Int) - 1).toNat) hM (prev_m hM.len hli (by simp [conj] at hg; omega)) rfl | exact Cell.h0 rfl | exact Cell.h1 rfl | exact Cell.h2 rfl | exact Cell.h3 rfl | exact Cell.h4 rfl | exact Cell.h5 rfl | (repeat (first | exact Cell.here rfl | apply Cell.there | apply Cell.app)))) rfl rfl rfl ?_
                refine XO_v0 (ev_cmp rfl rfl rfl) rfl rfl rfl ?_
                refine XO_v0 (ev_move rfl) rfl rfl rfl ?_
                refine XO_pushF 3 rfl rfl rfl ?_
                refine XO_v1 (ev_fieldAddr rfl fld_45_2) (.some rfl rfl rfl rfl gbf) rfl rfl rfl ?_
                refine XO_v1 (ev_load rfl sct_3 (fun hg => by first | exact Sl.get0 hT hs1 rfl | exact Sl.get0 hH hz rfl | exact Sl.get (k := ((i : Int) - 1).toNat) hM (prev_m hM.len hli (by simp [conj] at hg; omega)) rfl | exact Cell.h0 rfl | exact Cell.h1 rfl | exact Cell.h2 rfl | exact Cell.h3 rfl | exact Cell.h4 rfl | exact Cell.h5 rfl | (repeat (first | exact Cell.here rfl | apply Cell.there | apply Cell.app)))) (.some rfl rfl rfl rfl gbf) rfl rfl rfl ?_
                refine XO_v1 (ev_fieldAddr rfl fld_33_0) (.some rfl rfl rfl rfl gbf) rfl rfl rfl ?_
                refine XO_v1 (ev_load rfl sct_3 (fun hg => by first | exact Sl.get0 hT hs1 rfl | exact Sl.get0 hH hz rfl | exact Sl.get (k := ((i : Int) - 1).toNat) hM (prev_m hM.len hli (by simp [conj] at hg; omega)) rfl | exact Cell.h0 rfl | exact Cell.h1 rfl | exact Cell.h2 rfl | exact Cell.h3 rfl | exact Cell.h4 rfl | exact Cell.h5 rfl | (repeat (first | exact Cell.here rfl | apply Cell.there | apply Cell.app)))) (.some rfl rfl rfl rfl gbf) rfl rfl rfl ?_
                refine XO_v1 (ev_cmp rfl rfl rfl) (.some rfl rfl rfl rfl gbf) rfl rfl rfl ?_
                refine XO_or0 rfl rfl rfl rfl rfl ?_
                refine XO_v0 (ev_move rfl) rfl rfl rfl ?_
                refine XO_pushF 10 rfl rfl rfl ?_
                refine XO_v1 (ev_fieldAddr rfl fld_45_4) (.some rfl rfl rfl rfl gbf) rfl rfl rfl ?_
                refine XO_v1 (ev_load rfl sct_3 (fun hg => by first | exact Sl.get0 hT hs1 rfl | exact Sl.get0 hH hz rfl | exact Sl.get (k := ((i : Int) - 1).toNat) hM (prev_m hM.len hli (by simp [conj] at hg; omega)) rfl | exact Cell.h0 rfl | exact Cell.h1 rfl | exact Cell.h2 rfl | exact Cell.h3 rfl | exact Cell.h4 rfl | exact Cell.h5 rfl | (repeat (first | exact Cell.here rfl | apply Cell.there | apply Cell.app)))) (.some rfl rfl rfl rfl gbf) rfl rfl rfl ?_
                refine XO_v1 (ev_cmp rfl rfl rfl) (.some rfl rfl rfl rfl gbf) rfl rfl rfl ?_
                refine XO_v1 (ev_move rfl) (.some rfl rfl rfl rfl gbf) rfl rfl rfl ?_
                refine XO_pushT 14 rfl rfl rfl ?_
                refine XO_v1 (ev_fieldAddr rfl fld_45_4) (.some rfl rfl rfl rfl gbt) rfl rfl rfl ?_
                refine XO_v1 (ev_load rfl sct_3 (fun hg => by first | exact Sl.get0 hT hs1 rfl | exact Sl.get0 hH hz rfl | exact Sl.get (k := ((i : Int) - 1).toNat) hM (prev_m hM.len hli (by simp [conj] at hg; omega)) rfl | exact Cell.h0 rfl | exact Cell.h1 rfl | exact Cell.h2 rfl | exact Cell.h3 rfl | exact Cell.h4 rfl | exact Cell.h5 rfl | (repeat (first | exact Cell.here rfl | apply Cell.there | apply Cell.app)))) (.some rfl rfl rfl rfl gbt) rfl rfl rfl ?_
                refine XO_v1 (ev_move rfl) (.some rfl rfl rfl rfl gbt) rfl rfl rfl ?_
                refine XO_v1 (ev_ar rfl rfl rfl) (.some rfl rfl rfl rfl gbt) rfl rfl rfl ?_
                refine XO_v1 (ev_cmp rfl rfl rfl) (.some rfl rfl rfl rfl gbt) rfl rfl rfl ?_
                refine XO_and1 rfl rfl rfl (.some rfl rfl rfl rfl gbf) rfl rfl ?_
                refine XO_or0 rfl rfl rfl rfl rfl ?_
                refine XO_nil ?_
                refine at_then ?_
                refine X_cond rfl (fun hc135 => ?_) (fun hc135 => ?_)
                · skip
                  refine X_exit ?_
                  refine at_then_e ?_
                  refine at_block_hit ?_
                  refine at_then ?_
                  refine X_region ?_
                  refine XO_v0 (ev_arB rfl rfl rfl (fun _ => by omega)) rfl rfl rfl ?_
                  refine XO_v0 (ev_move rfl) rfl rfl rfl ?_
                  refine XO_nil ?_
                  exact at_met2 _ _ ⟨ys.length - (j + 1), by omega, j + 1, rfl, rfl, rfl, rfl, by omega⟩ (.cons rfl (.cons rfl (.cons rfl (.cons rfl (.cons rfl (.cons rfl (.cons rfl (.cons rfl (.cons rfl (.cons rfl (.cons rfl (.cons rfl .nil)))))))))))) (by repeat (first | exact .refl | refine subL_app ?_ | refine .drop ?_ | refine subL_add ?_))
                · skip
                  have hcov : coversF x 2 ed s1 = true := by simp [coversF, w64, and_assoc] at hc135 ⊢; exact ⟨hc135.1, hc135.2.1, Decidable.or_iff_not_imp_left.2 hc135.2.2⟩
                  refine X_skip ?_
                  refine at_then ?_
                  refine X_seq ?_
                  refine X_region ?_
                  refine XO_v0 (ev_assign rfl) rfl rfl rfl ?_
                  refine XO_v0 (ev_assign rfl) rfl rfl rfl ?_
                  refine XO_v0 (ev_assign rfl) rfl rfl rfl ?_
                  refine XO_nil ?_
                  refine at_then ?_
                  refine X_seq ?_
                  refine X_seq ?_
                  refine X_region ?_
                  refine XO_v0 (ev_move rfl) rfl rfl rfl ?_
                  refine XO_v0 (ev_lenS rfl slt_22) rfl rfl rfl ?_
                  refine XO_v0 (ev_move rfl) rfl rfl rfl ?_
                  refine XO_nil ?_
                  refine at_then ?_
                  refine X_block ?_
                  refine X_loopT [(0, _), (3, _), (6, _), (8, _), (11, _), (12, _), (15, _), (17, _), (18, _), (88, _), (89, _), (90, _), (108, _), (109, _), (110, _), (136, _), (137, _)] (.cons rfl (.cons rfl (.cons rfl (.cons rfl (.cons rfl (.cons rfl (.cons rfl (.cons rfl (.cons rfl (.cons rfl (.cons rfl (.cons rfl (.cons rfl (.cons rfl (.cons rfl (.cons rfl (.cons rfl .nil))))))))))))))))) (fun T L0 mz E I' loc' => ∃ (i : Nat) (b : Bool), mz = ys.length - i ∧ E = (16, .bool b) :: (138, .int .i64 i) :: T ∧ I4 = I' ∧ loc' = L0 ∧ i ≤ ys.length ∧ b = (ys.take i).any (consP ed s1 x.holder)) _ _ _ _ ⟨0, false, rfl, rfl, rfl, rfl, Nat.zero_le _, rfl⟩ (.cons rfl (.cons rfl (.cons rfl (.cons rfl (.cons rfl (.cons rfl (.cons rfl (.cons rfl (.cons rfl (.cons rfl (.cons rfl (.cons rfl (.cons rfl (.cons rfl (.cons rfl (.cons rfl (.cons rfl (.cons rfl (.cons rfl .nil))))))))))))))))))) (HLe.refl _) rfl ?_
                  rintro mz E I' loc' ⟨i, b4, rfl, rfl, rfl, rfl, hi, hb4⟩
                  refine X_seq ?_
                  refine X_region ?_
                  refine XO_v0 (ev_cmp rfl rfl rfl) rfl rfl rfl ?_
                  refine XO_nil ?_
                  refine at_then ?_
                  refine X_seq ?_
                  refine X_cond rfl (fun hc139 => ?_) (fun hc139 => ?_)
                  · skip
                    have hli : i < ys.length := by simpa using hc139
                    obtain ⟨y, hy⟩ := hY.at hli
                    refine X_skip ?_
                    refine at_then ?_
                    refine X_seq ?_
                    refine X_block ?_
                    refine X_seq ?_
                    refine X_region ?_
                    refine XO_v0 (ev_indexSl rfl rfl slt_22 (by assumption) (fun hg => by first | omega | (simp [conj] at hg; omega))) rfl rfl rfl ?_
                    refine XO_v0 (ev_loadA rfl agt_45 (fun _ => by first | exact Sl.getA hY hx | exact Sl.getA hY hy | exact Sl.getA hM hp | exact Sl.getA hM hm | exact Cells.g0 | exact Cells.g1 | exact Cells.g2 | exact Cells.g3 | exact Cells.g4 | exact Cells.g5 | (repeat (first | exact Cells.here | apply Cells.there | apply Cells.app))) rfl) rfl rfl rfl ?_
                    refine XO_alloc zt_45 rfl rfl (fun b_20 => ?_)
                    refine XO_storeA rfl rfl szt_45 rfl rfl rfl rfl (by first | exact Upd.u0 | exact Upd.u1 | exact Upd.u2 | exact Upd.u3 | exact Upd.u4 | exact Upd.u5 | (repeat (first | exact Upd.here | apply Upd.there | apply upd_app))) ?_
                    refine XO_nil ?_
                    refine at_then ?_
                    refine X_region ?_
                    refine XO_v0 (ev_move rfl) rfl rfl rfl ?_
                    refine XO_v0 (ev_move rfl) rfl rfl rfl ?_
                    refine XO_pushF 1 rfl rfl rfl ?_
                    refine XO_v1 (ev_fieldAddr rfl fld_45_1) (.some rfl rfl rfl rfl gbf) rfl rfl rfl ?_
                    refine XO_v1 (ev_load rfl sct_3 (fun hg => by first | exact Sl.get0 hT hs1 rfl | exact Sl.get0 hH hz rfl | exact Sl.get (k := ((i : Int) - 1).toNat) hM (prev_m hM.len hli (by simp [conj] at hg; omega)) rfl | exact Cell.h0 rfl | exact Cell.h1 rfl | exact Cell.h2 rfl | exact Cell.h3 rfl | exact Cell.h4 rfl | exact Cell.h5 rfl | (repeat (first | exact Cell.here rfl | apply Cell.there | apply Cell.app)))) (.some rfl rfl rfl rfl gbf) rfl rfl rfl ?_
                    refine XO_v1 (ev_cmp rfl rfl rfl) (.some rfl rfl rfl rfl gbf) rfl rfl rfl ?_
                    refine XO_v1 (ev_move rfl) (.some rfl rfl rfl rfl gbf) rfl rfl rfl ?_
                    refine XO_pushT 5 rfl rfl rfl ?_
                    refine XO_v1 (ev_fieldAddr rfl fld_45_2) (.some rfl rfl rfl rfl gbt) rfl rfl rfl ?_
                    refine XO_v1 (ev_load rfl sct_3 (fun hg => by first | exact Sl.get0 hT hs1 rfl | exact Sl.get0 hH hz rfl | exact Sl.get (k := ((i : Int) - 1).toNat) hM (prev_m hM.len hli (by simp [conj] at hg; omega)) rfl | exact Cell.h0 rfl | exact Cell.h1 rfl | exact Cell.h2 rfl | exact Cell.h3 rfl | exact Cell.h4 rfl | exact Cell.h5 rfl | (repeat (first | exact Cell.here rfl | apply Cell.there | apply Cell.app)))) (.some rfl rfl rfl rfl gbt) rfl rfl rfl ?_
                    refine XO_v1 (ev_fieldAddr rfl fld_33_0) (.some rfl rfl rfl rfl gbt) rfl rfl rfl ?_
                    refine XO_v1 (ev_load rfl sct_3 (fun hg => by first | exact Sl.get0 hT hs1 rfl | exact Sl.get0 hH hz rfl | exact Sl.get (k := ((i : Int) - 1).toNat) hM (prev_m hM.len hli (by simp [conj] at hg; omega)) rfl | exact Cell.h0 rfl | exact Cell.h1 rfl | exact Cell.h2 rfl | exact Cell.h3 rfl | exact Cell.h4 rfl | exact Cell.h5 rfl | (repeat (first | exact Cell.here rfl | apply Cell.there | apply Cell.app)))) (.some rfl rfl rfl rfl gbt) rfl rfl rfl ?_
                    refine XO_v1 (ev_cmp rfl rfl rfl) (.some rfl rfl rfl rfl gbt) rfl rfl rfl ?_
                    refine XO_and1 rfl rfl rfl (.some rfl rfl rfl rfl gbf) rfl rfl ?_
                    refine XO_v1 (ev_move rfl) (.some rfl rfl rfl rfl gbf) rfl rfl rfl ?_
                    refine XO_pushT 12 rfl rfl rfl ?_
                    refine XO_v1 (ev_fieldAddr rfl fld_45_3) (.some rfl rfl rfl rfl gbt) rfl rfl rfl ?_
                    refine XO_v1 (ev_load rfl sct_3 (fun hg => by first | exact Sl.get0 hT hs1 rfl | exact Sl.get0 hH hz rfl | exact Sl.get (k := ((i : Int) - 1).toNat) hM (prev_m hM.len hli (by simp [conj] at hg; omega)) rfl | exact Cell.h0 rfl | exact Cell.h1 rfl | exact Cell.h2 rfl | exact Cell.h3 rfl | exact Cell.h4 rfl | exact Cell.h5 rfl | (repeat (first | exact Cell.here rfl | apply Cell.there | apply Cell.app)))) (.some rfl rfl rfl rfl gbt) rfl rfl rfl ?_
                    refine XO_v1 (ev_fieldAddr rfl fld_45_3) (.some rfl rfl rfl rfl gbt) rfl rfl rfl ?_
                    refine XO_v1 (ev_load rfl sct_3 (fun hg => by first | exact Sl.get0 hT hs1 rfl | exact Sl.get0 hH hz rfl | exact Sl.get (k := ((i : Int) - 1).toNat) hM (prev_m hM.len hli (by simp [conj] at hg; omega)) rfl | exact Cell.h0 rfl | exact Cell.h1 rfl | exact Cell.h2 rfl | exact Cell.h3 rfl | exact Cell.h4 rfl | exact Cell.h5 rfl | (repeat (first | exact Cell.here rfl | apply Cell.there | apply Cell.app)))) (.some rfl rfl rfl rfl gbt) rfl rfl rfl ?_
                    refine XO_v1 (ev_cmp rfl rfl rfl) (.some rfl rfl rfl rfl gbt) rfl rfl rfl ?_
                    refine XO_and1 rfl rfl rfl (.some rfl rfl rfl rfl gbf) rfl rfl ?_
                    refine XO_v1 (ev_move rfl) (.some rfl rfl rfl rfl gbf) rfl rfl rfl ?_
                    refine XO_pushT 19 rfl rfl rfl ?_
                    refine XO_v1 (ev_fieldAddr rfl fld_45_4) (.some rfl rfl rfl rfl gbt) rfl rfl rfl ?_
                    refine XO_v1 (ev_load rfl sct_3 (fun hg => by first | exact Sl.get0 hT hs1 rfl | exact Sl.get0 hH hz rfl | exact Sl.get (k := ((i : Int) - 1).toNat) hM (prev_m hM.len hli (by simp [conj] at hg; omega)) rfl | exact Cell.h0 rfl | exact Cell.h1 rfl | exact Cell.h2 rfl | exact Cell.h3 rfl | exact Cell.h4 rfl | exact Cell.h5 rfl | (repeat (first | exact Cell.here rfl | apply Cell.there | apply Cell.app)))) (.some rfl rfl rfl rfl gbt) rfl rfl rfl ?_
                    refine XO_v1 (ev_cmp rfl rfl rfl) (.some rfl rfl rfl rfl gbt) rfl rfl rfl ?_
                    refine XO_v1 (ev_move rfl) (.some rfl rfl rfl rfl gbt) rfl rfl rfl ?_
                    refine XO_pushF 23 rfl rfl rfl ?_
                    refine XO_v1 (ev_fieldAddr rfl fld_45_4) (.some rfl rfl rfl rfl gbf) rfl rfl rfl ?_
                    refine XO_v1 (ev_load rfl sct_3 (fun hg => by first | exact Sl.get0 hT hs1 rfl | exact Sl.get0 hH hz rfl | exact Sl.get (k := ((i : Int) - 1).toNat) hM (prev_m hM.len hli (by simp [conj] at hg; omega)) rfl | exact Cell.h0 rfl | exact Cell.h1 rfl | exact Cell.h2 rfl | exact Cell.h3 rfl | exact Cell.h4 rfl | exact Cell.h5 rfl | (repeat (first | exact Cell.here rfl | apply Cell.there | apply Cell.app)))) (.some rfl rfl rfl rfl gbf) rfl rfl rfl ?_
                    refine XO_v1 (ev_move rfl) (.some rfl rfl rfl rfl gbf) rfl rfl rfl ?_
                    refine XO_v1 (ev_ar rfl rfl rfl) (.some rfl rfl rfl rfl gbf) rfl rfl rfl ?_
                    refine XO_v1 (ev_cmp rfl rfl rfl) (.some rfl rfl rfl rfl gbf) rfl rfl rfl ?_
                    refine XO_or1 rfl rfl rfl (.some rfl rfl rfl rfl gbt) rfl rfl ?_
                    refine XO_and1 rfl rfl rfl (.some rfl rfl rfl rfl gbf) rfl rfl ?_
                    refine XO_or0 rfl rfl rfl rfl rfl ?_
                    refine XO_v0 (ev_assign rfl) rfl rfl rfl ?_
                    refine XO_nil ?_
                    refine at_block_n ?_
                    refine at_then ?_
                    refine X_region ?_
                    refine XO_v0 (ev_arB rfl rfl rfl (fun _ => by omega)) rfl rfl rfl ?_
                    refine XO_v0 (ev_move rfl) rfl rfl rfl ?_
                    refine XO_nil ?_
                    exact at_met2 _ _ ⟨ys.length - (i + 1), by omega, i + 1, _, rfl, rfl, rfl, rfl, by omega, by rw [any_take hy, ← hb4]; simp [consP, coversF, w64, Bool.and_assoc, Bool.and_comm, Bool.and_left_comm]⟩ (.cons rfl (.cons rfl (.cons rfl (.cons rfl (.cons rfl (.cons rfl (.cons rfl (.cons rfl (.cons rfl (.cons rfl (.cons rfl (.cons rfl (.cons rfl (.cons rfl (.cons rfl (.cons rfl (.cons rfl (.cons rfl (.cons rfl .nil))))))))))))))))))) (by repeat (first | exact .refl | refine subL_app ?_ | refine .drop ?_ | refine subL_add ?_))
                  · skip
                    have hge4 : ys.length ≤ i := by simpa using hc139
                    refine X_exit ?_
                    refine at_then_e ?_
                    refine at_then_e ?_
                    refine at_block_hit ?_
                    refine at_then ?_
                    refine X_seq ?_
                    refine X_seq ?_
                    refine X_region ?_
                    refine XO_v0 (ev_move rfl) rfl rfl rfl ?_
                    refine XO_v0 (ev_lenS rfl slt_31) rfl rfl rfl ?_
                    refine XO_v0 (ev_move rfl) rfl rfl rfl ?_
                    refine XO_nil ?_
                    refine at_then ?_
                    refine X_block ?_
                    refine X_loopT [(0, _), (3, _), (6, _), (8, _), (11, _), (12, _), (15, _), (16, _), (18, _), (88, _), (89, _), (90, _), (108, _), (109, _), (110, _), (175, _), (176, _)] (.cons rfl (.cons rfl (.cons rfl (.cons rfl (.cons rfl (.cons rfl (.cons rfl (.cons rfl (.cons rfl (.cons rfl (.cons rfl (.cons rfl (.cons rfl (.cons rfl (.cons rfl (.cons rfl (.cons rfl .nil))))))))))))))))) (fun T L0 mz E I' loc' => ∃ (i : Nat) (b : Bool), mz = hs.length - i ∧ E = (17, .bool b) :: (177, .int .i64 i) :: T ∧ I4 = I' ∧ loc' = L0 ∧ i ≤ hs.length ∧ b = (hs.take i).any (fun y => y == x.holder)) _ _ _ _ ⟨0, false, rfl, rfl, rfl, rfl, Nat.zero_le _, rfl⟩ (.cons rfl (.cons rfl (.cons rfl (.cons rfl (.cons rfl (.cons rfl (.cons rfl (.cons rfl (.cons rfl (.cons rfl (.cons rfl (.cons rfl (.cons rfl (.cons rfl (.cons rfl (.cons rfl (.cons rfl (.cons rfl (.cons rfl .nil))))))))))))))))))) (HLe.refl _) rfl ?_
                    rintro mz E I' loc' ⟨i6, b6, rfl, rfl, rfl, rfl, hi6, hb6⟩
                    refine X_seq ?_
                    refine X_region ?_
                    refine XO_v0 (ev_cmp rfl rfl rfl) rfl rfl rfl ?_
                    refine XO_nil ?_
                    refine at_then ?_
                    refine X_seq ?_
                    refine X_cond rfl (fun hc178 => ?_) (fun hc178 => ?_)
                    · skip
                      have hli : i6 < hs.length := by simpa using hc178
                      obtain ⟨z, hz⟩ := hH.at hli
                      refine X_skip ?_
                      refine at_then ?_
                      refine X_seq ?_
                      refine X_block ?_
                      refine X_seq ?_
                      refine X_region ?_
                      refine XO_v0 (ev_indexSl rfl rfl slt_31 (by assumption) (fun hg => by first | omega | (simp [conj] at hg; omega))) rfl rfl rfl ?_
                      refine XO_v0 (ev_load rfl sct_3 (fun hg => by first | exact Sl.get0 hT hs1 rfl | exact Sl.get0 hH hz rfl | exact Sl.get (k := ((i : Int) - 1).toNat) hM (prev_m hM.len hli (by simp [conj] at hg; omega)) rfl | exact Cell.h0 rfl | exact Cell.h1 rfl | exact Cell.h2 rfl | exact Cell.h3 rfl | exact Cell.h4 rfl | exact Cell.h5 rfl | (repeat (first | exact Cell.here rfl | apply Cell.there | apply Cell.app)))) rfl rfl rfl ?_
                      refine XO_v0 (ev_assign rfl) rfl rfl rfl ?_
                      refine XO_nil ?_
                      refine at_then ?_
                      refine X_region ?_
                      refine XO_v0 (ev_move rfl) rfl rfl rfl ?_
                      refine XO_v0 (ev_move rfl) rfl rfl rfl ?_
                      refine XO_pushF 1 rfl rfl rfl ?_
                      refine XO_v1 (ev_move rfl) (.some rfl rfl rfl rfl gbf) rfl rfl rfl ?_
                      refine XO_v1 (ev_fieldAddr rfl fld_45_3) (.some rfl rfl rfl rfl gbf) rfl rfl rfl ?_
                      refine XO_v1 (ev_load rfl sct_3 (fun hg => by first | exact Sl.get0 hT hs1 rfl | exact Sl.get0 hH hz rfl | exact Sl.get (k := ((i : Int) - 1).toNat) hM (prev_m hM.len hli (by simp [conj] at hg; omega)) rfl | exact Cell.h0 rfl | exact Cell.h1 rfl | exact Cell.h2 rfl | exact Cell.h3 rfl | exact Cell.h4 rfl | exact Cell.h5 rfl | (repeat (first | exact Cell.here rfl | apply Cell.there | apply Cell.app)))) (.some rfl rfl rfl rfl gbf) rfl rfl rfl ?_
                      refine XO_v1 (ev_cmp rfl rfl rfl) (.some rfl rfl rfl rfl gbf) rfl rfl rfl ?_
                      refine XO_or0 rfl rfl rfl rfl rfl ?_
                      refine XO_v0 (ev_assign rfl) rfl rfl rfl ?_
                      refine XO_nil ?_
                      refine at_block_n ?_
                      refine at_then ?_
                      refine X_region ?_
                      refine XO_v0 (ev_arB rfl rfl rfl (fun _ => by omega)) rfl rfl rfl ?_
                      refine XO_v0 (ev_move rfl) rfl rfl rfl ?_
                      refine XO_nil ?_
                      exact at_met2 _ _ ⟨hs.length - (i6 + 1), by omega, i6 + 1, _, rfl, rfl, rfl, rfl, by omega, by rw [any_take hz, ← hb6]⟩ (.cons rfl (.cons rfl (.cons rfl (.cons rfl (.cons rfl (.cons rfl (.cons rfl (.cons rfl (.cons rfl (.cons rfl (.cons rfl (.cons rfl (.cons rfl (.cons rfl (.cons rfl (.cons rfl (.cons rfl (.cons rfl (.cons rfl .nil))))))))))))))))))) (by repeat (first | exact .refl | refine subL_app ?_ | refine .drop ?_ | refine subL_add ?_))
                    · skip
                      have hge6 : hs.length ≤ i6 := by simpa using hc178
                      refine X_exit ?_
                      refine at_then_e ?_
                      refine at_then_e ?_
                      refine at_block_hit ?_
                      refine at_then ?_
                      refine X_seq ?_
                      refine X_seq ?_
                      refine X_region ?_
                      refine XO_v0 (ev_move rfl) rfl rfl rfl ?_
                      refine XO_v0 (ev_lenS rfl slt_38) rfl rfl rfl ?_
                      refine XO_v0 (ev_move rfl) rfl rfl rfl ?_
                      refine XO_nil ?_
                      refine at_then ?_
                      refine X_block ?_
                      refine X_loopT [(0, _), (3, _), (6, _), (8, _), (11, _), (12, _), (15, _), (16, _), (17, _), (88, _), (89, _), (90, _), (108, _), (109, _), (110, _), (189, _), (190, _)] (.cons rfl (.cons rfl (.cons rfl (.cons rfl (.cons rfl (.cons rfl (.cons rfl (.cons rfl (.cons rfl (.cons rfl (.cons rfl (.cons rfl (.cons rfl (.cons rfl (.cons rfl (.cons rfl (.cons rfl .nil))))))))))))))))) (fun T L0 mz E I' loc' => ∃ (i : Nat) (b : Bool), mz = ms.length - i ∧ E = (18, .bool b) :: (191, .int .i64 i) :: T ∧ I4 = I' ∧ loc' = L0 ∧ i ≤ ms.length ∧ b = (ms.take i).any (fun p => p.1 == s1 && p.2 == x.holder)) _ _ _ _ ⟨0, false, rfl, rfl, rfl, rfl, Nat.zero_le _, rfl⟩ (.cons rfl (.cons rfl (.cons rfl (.cons rfl (.cons rfl (.cons rfl (.cons rfl (.cons rfl (.cons rfl (.cons rfl (.cons rfl (.cons rfl (.cons rfl (.cons rfl (.cons rfl (.cons rfl (.cons rfl (.cons rfl (.cons rfl .nil))))))))))))))))))) (HLe.refl _) rfl ?_
                      rintro mz E I' loc' ⟨i8, b8, rfl, rfl, rfl, rfl, hi8, hb8⟩
                      refine X_seq ?_
                      refine X_region ?_
                      refine XO_v0 (ev_cmp rfl rfl rfl) rfl rfl rfl ?_
                      refine XO_nil ?_
                      refine at_then ?_
                      refine X_seq ?_
                      refine X_cond rfl (fun hc192 => ?_) (fun hc192 => ?_)
                      · skip
                        have hli : i8 < ms.length := by simpa using hc192
                        obtain ⟨q, hp⟩ := hM.at hli
                        refine X_skip ?_
                        refine at_then ?_
                        refine X_seq ?_
                        refine X_block ?_
                        refine X_seq ?_
                        refine X_region ?_
                        refine XO_v0 (ev_indexSl rfl rfl slt_38 (by assumption) (fun hg => by first | omega | (simp [conj] at hg; omega))) rfl rfl rfl ?_
                        refine XO_v0 (ev_loadA rfl agt_46 (fun _ => by first | exact Sl.getA hY hx | exact Sl.getA hY hy | exact Sl.getA hM hp | exact Sl.getA hM hm | exact Cells.g0 | exact Cells.g1 | exact Cells.g2 | exact Cells.g3 | exact Cells.g4 | exact Cells.g5 | (repeat (first | exact Cells.here | apply Cells.there | apply Cells.app))) rfl) rfl rfl rfl ?_
                        refine XO_alloc zt_46 rfl rfl (fun b_24 => ?_)
                        refine XO_storeA rfl rfl szt_46 rfl rfl rfl rfl (by first | exact Upd.u0 | exact Upd.u1 | exact Upd.u2 | exact Upd.u3 | exact Upd.u4 | exact Upd.u5 | (repeat (first | exact Upd.here | apply Upd.there | apply upd_app))) ?_
                        refine XO_nil ?_
                        refine at_then ?_
                        refine X_region ?_
                        refine XO_v0 (ev_move rfl) rfl rfl rfl ?_
                        refine XO_v0 (ev_move rfl) rfl rfl rfl ?_
                        refine XO_pushF 1 rfl rfl rfl ?_
                        refine XO_v1 (ev_loadA rfl agt_46 (fun _ => by first | exact Sl.getA hY hx | exact Sl.getA hY hy | exact Sl.getA hM hp | exact Sl.getA hM hm | exact Cells.g0 | exact Cells.g1 | exact Cells.g2 | exact Cells.g3 | exact Cells.g4 | exact Cells.g5 | (repeat (first | exact Cells.here | apply Cells.there | apply Cells.app))) rfl) (.some rfl rfl rfl rfl gbf) rfl rfl rfl ?_
                        refine XO_v1 (ev_move rfl) (.some rfl rfl rfl rfl gbf) rfl rfl rfl ?_
                        refine XO_v1 (ev_fieldAddr rfl fld_45_3) (.some rfl rfl rfl rfl gbf) rfl rfl rfl ?_
                        refine XO_v1 (ev_load rfl sct_3 (fun hg => by first | exact Sl.get0 hT hs1 rfl | exact Sl.get0 hH hz rfl | exact Sl.get (k := ((i : Int) - 1).toNat) hM (prev_m hM.len hli (by simp [conj] at hg; omega)) rfl | exact Cell.h0 rfl | exact Cell.h1 rfl | exact Cell.h2 rfl | exact Cell.h3 rfl | exact Cell.h4 rfl | exact Cell.h5 rfl | (repeat (first | exact Cell.here rfl | apply Cell.there | apply Cell.app)))) (.some rfl rfl rfl rfl gbf) rfl rfl rfl ?_
                        refine XO_v1 (ev_build2 ar2_46 zt_46 rfl rfl) (.some rfl rfl rfl rfl gbf) rfl rfl rfl ?_
                        refine XO_v1 (ev_eqA2 rfl rfl ar2_46) (.some rfl rfl rfl rfl gbf) rfl rfl rfl ?_
                        refine XO_or0 rfl rfl rfl rfl rfl ?_
                        refine XO_v0 (ev_assign rfl) rfl rfl rfl ?_
                        refine XO_nil ?_
                        refine at_block_n ?_
                        refine at_then ?_
                        refine X_region ?_
                        refine XO_v0 (ev_arB rfl rfl rfl (fun _ => by omega)) rfl rfl rfl ?_
                        refine XO_v0 (ev_move rfl) rfl rfl rfl ?_
                        refine XO_nil ?_
                        exact at_met2 _ _ ⟨ms.length - (i8 + 1), by omega, i8 + 1, _, rfl, rfl, rfl, rfl, by omega, by rw [any_take hp, ← hb8]⟩ (.cons rfl (.cons rfl (.cons rfl (.cons rfl (.cons rfl (.cons rfl (.cons rfl (.cons rfl (.cons rfl (.cons rfl (.cons rfl (.cons rfl (.cons rfl (.cons rfl (.cons rfl (.cons rfl (.cons rfl (.cons rfl (.cons rfl .nil))))))))))))))))))) (by repeat (first | exact .refl | refine subL_app ?_ | refine .drop ?_ | refine subL_add ?_))
                      · skip
                        have hge8 : ms.length ≤ i8 := by simpa using hc192
                        refine X_exit ?_
                        refine at_then_e ?_
                        refine at_then_e ?_
                        refine at_block_hit ?_
                        refine at_then ?_
                        refine X_seq ?_
                        refine X_region ?_
                        refine XO_v0 (ev_move rfl) rfl rfl rfl ?_
                        refine XO_v0 (ev_not rfl) rfl rfl rfl ?_
                        refine XO_v0 (ev_move rfl) rfl rfl rfl ?_
                        refine XO_pushF 2 rfl rfl rfl ?_
                        refine XO_v1 (ev_move rfl) (.some rfl rfl rfl rfl gbf) rfl rfl rfl ?_
                        refine XO_v1 (ev_move rfl) (.some rfl rfl rfl rfl gbf) rfl rfl rfl ?_
                        refine XO_v1 (ev_boolR rfl rfl und_4) (.some rfl rfl rfl rfl gbf) rfl rfl rfl ?_
                        refine XO_or0 rfl rfl rfl rfl rfl ?_
                        refine XO_nil ?_
                        refine at_then ?_
                        refine X_cond rfl (fun hc211 => ?_) (fun hc211 => ?_)
                        · skip
                          rw [take_all rfl hge4] at hb4
                          rw [take_all rfl hge6] at hb6
                          rw [take_all rfl hge8] at hb8
                          exact absurd hc211 (by rw [hb4, hb6, hb8, consent_law hc0 hys hms2 hhs2 (List.mem_of_getElem? hx) hcov hms1]; decide)
                        · skip
                          refine X_skip ?_
                          refine at_block_n ?_
                          refine at_then ?_
                          refine X_region ?_
                          refine XO_v0 (ev_arB rfl rfl rfl (fun _ => by omega)) rfl rfl rfl ?_
                          refine XO_v0 (ev_move rfl) rfl rfl rfl ?_
                          refine XO_nil ?_
                          exact at_met2 _ _ ⟨ys.length - (j + 1), by omega, j + 1, rfl, rfl, rfl, rfl, by omega⟩ (.cons rfl (.cons rfl (.cons rfl (.cons rfl (.cons rfl (.cons rfl (.cons rfl (.cons rfl (.cons rfl (.cons rfl (.cons rfl (.cons rfl .nil)))))))))))) (by repeat (first | exact .refl | refine subL_app ?_ | refine .drop ?_ | refine subL_add ?_))
              · skip
                refine X_exit ?_
                refine at_then_e ?_
                refine at_then_e ?_
                refine at_block_hit ?_
                refine at_block_n ?_
                refine at_then ?_
                refine X_region ?_
                refine XO_v0 (ev_arB rfl rfl rfl (fun _ => by omega)) rfl rfl rfl ?_
                refine XO_v0 (ev_move rfl) rfl rfl rfl ?_
                refine XO_nil ?_
                exact at_met2 _ _ ⟨n2 - (k + 1), by omega, k + 1, rfl, rfl, hB0, rfl, by omega⟩ (.cons rfl (.cons rfl (.cons rfl (.cons rfl (.cons rfl (.cons rfl (.cons rfl .nil))))))) (by repeat (first | exact .refl | refine subL_app ?_ | refine .drop ?_ | refine subL_add ?_))
          · skip
            refine X_exit ?_
            refine at_then_e ?_
            refine at_then_e ?_
            refine at_block_hit ?_
            refine at_then ?_
            refine X_seq ?_
            refine X_seq ?_
            refine X_region ?_
            refine XO_v0 (ev_move rfl) rfl rfl rfl ?_
            refine XO_v0 (ev_lenS rfl slt_38) rfl rfl rfl ?_
            refine XO_v0 (ev_move rfl) rfl rfl rfl ?_
            refine XO_nil ?_
            refine at_then ?_
            refine X_block ?_
            refine X_loopT [(0, _), (3, _), (6, _), (214, _), (215, _)] (.cons rfl (.cons rfl (.cons rfl (.cons rfl (.cons rfl .nil))))) (fun T L0 mz E I' loc' => ∃ i : Nat, mz = ms.length - i ∧ E = (216, .int .i64 i) :: T ∧ HLe J3 I' ∧ loc' = L0 ∧ i ≤ ms.length) _ _ _ _ ⟨0, rfl, rfl, HLe.refl _, rfl, Nat.zero_le _⟩ (.cons rfl (.cons rfl (.cons rfl (.cons rfl (.cons rfl (.cons rfl .nil)))))) (HLe.refl _) rfl ?_
            rintro mz E J9 loc' ⟨i, rfl, rfl, hJ, rfl, hi⟩
            have hS := hS.mono hJ
            have hT := hT.mono hJ
            have hM := hM.mono hJ
            have hY := hY.mono hJ
            have hIc := hIc.trans hJ
            have hB0 := hB0.trans hJ
            have hB10 := hJ
            refine X_seq ?_
            refine X_region ?_
            refine XO_v0 (ev_cmp rfl rfl rfl) rfl rfl rfl ?_
            refine XO_nil ?_
            refine at_then ?_
            refine X_seq ?_
            refine X_cond rfl (fun hc217 => ?_) (fun hc217 => ?_)
            · skip
              have hli : i < ms.length := by simpa using hc217
              obtain ⟨m, hm⟩ := hM.at hli
              have hmem : m.1 ∈ ss ∧ m.2 ∈ holdF m.1 (partsM 2 ed (standF xs day time)) ∧ _ := mem_missA.1 (hms2 ▸ List.mem_of_getElem? hm)
              refine X_skip ?_
              refine at_then ?_
              refine X_seq ?_
              refine X_block ?_
              refine X_seq ?_
              refine X_region ?_
              refine XO_v0 (ev_move rfl) rfl rfl rfl ?_
              refine XO_v0 (ev_indexSl rfl rfl slt_38 (by assumption) (fun hg => by first | omega | (simp [conj] at hg; omega))) rfl rfl rfl ?_
              refine XO_v0 (ev_loadA rfl agt_46 (fun _ => by first | exact Sl.getA hY hx | exact Sl.getA hY hy | exact Sl.getA hM hp | exact Sl.getA hM hm | exact Cells.g0 | exact Cells.g1 | exact Cells.g2 | exact Cells.g3 | exact Cells.g4 | exact Cells.g5 | (repeat (first | exact Cells.here | apply Cells.there | apply Cells.app))) rfl) rfl rfl rfl ?_
              refine XO_alloc zt_46 rfl rfl (fun b_26 => ?_)
              refine XO_v0 (ev_assign rfl) rfl rfl rfl ?_
              refine XO_storeA rfl rfl szt_46 rfl rfl rfl rfl (by first | exact Upd.u0 | exact Upd.u1 | exact Upd.u2 | exact Upd.u3 | exact Upd.u4 | exact Upd.u5 | (repeat (first | exact Upd.here | apply Upd.there | apply upd_app))) ?_
              refine XO_nil ?_
              refine at_then ?_
              refine X_seq ?_
              refine X_seq ?_
              refine X_draw mixed (by kernel_rfl) ?_
              refine XQ_v0 (ev_move rfl) rfl rfl rfl ?_
              refine XQ_v0 (ev_cmp rfl rfl rfl) rfl rfl rfl ?_
              refine XQ_v0 (ev_move rfl) rfl rfl rfl ?_
              refine XQ_pushT 2 rfl rfl rfl ?_
              refine XQ_v1 (ev_indexArr rfl rfl art_46 (fun hg => by first | decide | omega)) (.some rfl rfl rfl rfl gbt) rfl rfl rfl ?_
              refine XQ_v1 (ev_load rfl sct_3 (fun hg => by first | exact Sl.get0 hT hs1 rfl | exact Sl.get0 hH hz rfl | exact Sl.get (k := ((i : Int) - 1).toNat) hM (prev_m hM.len hli (by simp [conj] at hg; omega)) rfl | exact Cell.h0 rfl | exact Cell.h1 rfl | exact Cell.h2 rfl | exact Cell.h3 rfl | exact Cell.h4 rfl | exact Cell.h5 rfl | (repeat (first | exact Cell.here rfl | apply Cell.there | apply Cell.app)))) (.some rfl rfl rfl rfl gbt) rfl rfl rfl ?_
              refine XQ_v1 (ev_move rfl) (.some rfl rfl rfl rfl gbt) rfl rfl rfl ?_
              refine XQ_v1 (ev_move rfl) (.some rfl rfl rfl rfl gbt) rfl rfl rfl ?_
              refine XQ_v1 (ev_arB rfl rfl rfl (fun _ => by omega)) (.some rfl rfl rfl rfl gbt) rfl rfl rfl ?_
              refine XQ_v1 (ev_indexSl rfl rfl slt_38 (by assumption) (fun hg => by first | omega | (simp [conj] at hg; omega))) (.some rfl rfl rfl rfl gbt) rfl rfl rfl ?_
              refine XQ_v1 (ev_indexArr rfl rfl art_46 (fun hg => by first | decide | omega)) (.some rfl rfl rfl rfl gbt) rfl rfl rfl ?_
              refine XQ_v1 (ev_load rfl sct_3 (fun hg => by first | exact Sl.get0 hT hs1 rfl | exact Sl.get0 hH hz rfl | exact Sl.get (k := ((i : Int) - 1).toNat) hM (prev_m hM.len hli (by simp [conj] at hg; omega)) rfl | exact Cell.h0 rfl | exact Cell.h1 rfl | exact Cell.h2 rfl | exact Cell.h3 rfl | exact Cell.h4 rfl | exact Cell.h5 rfl | (repeat (first | exact Cell.here rfl | apply Cell.there | apply Cell.app)))) (.some rfl rfl rfl rfl gbt) rfl rfl rfl ?_
              refine XQ_v1 (ev_cmp rfl rfl rfl) (.some rfl rfl rfl rfl gbt) rfl rfl rfl ?_
              refine XQ_v1 (ev_move rfl) (.some rfl rfl rfl rfl gbt) rfl rfl rfl ?_
              refine XQ_pushF 12 rfl rfl rfl ?_
              refine XQ_v1 (ev_indexArr rfl rfl art_46 (fun hg => by first | decide | omega)) (.some rfl rfl rfl rfl gbf) rfl rfl rfl ?_
              refine XQ_v1 (ev_load rfl sct_3 (fun hg => by first | exact Sl.get0 hT hs1 rfl | exact Sl.get0 hH hz rfl | exact Sl.get (k := ((i : Int) - 1).toNat) hM (prev_m hM.len hli (by simp [conj] at hg; omega)) rfl | exact Cell.h0 rfl | exact Cell.h1 rfl | exact Cell.h2 rfl | exact Cell.h3 rfl | exact Cell.h4 rfl | exact Cell.h5 rfl | (repeat (first | exact Cell.here rfl | apply Cell.there | apply Cell.app)))) (.some rfl rfl rfl rfl gbf) rfl rfl rfl ?_
              refine XQ_v1 (ev_move rfl) (.some rfl rfl rfl rfl gbf) rfl rfl rfl ?_
              refine XQ_v1 (ev_move rfl) (.some rfl rfl rfl rfl gbf) rfl rfl rfl ?_
              refine XQ_v1 (ev_arB rfl rfl rfl (fun _ => by omega)) (.some rfl rfl rfl rfl gbf) rfl rfl rfl ?_
              refine XQ_v1 (ev_indexSl rfl rfl slt_38 (by assumption) (fun hg => by first | omega | (simp [conj] at hg; omega))) (.some rfl rfl rfl rfl gbf) rfl rfl rfl ?_
              refine XQ_v1 (ev_indexArr rfl rfl art_46 (fun hg => by first | decide | omega)) (.some rfl rfl rfl rfl gbf) rfl rfl rfl ?_
              refine XQ_v1 (ev_load rfl sct_3 (fun hg => by first | exact Sl.get0 hT hs1 rfl | exact Sl.get0 hH hz rfl | exact Sl.get (k := ((i : Int) - 1).toNat) hM (prev_m hM.len hli (by simp [conj] at hg; omega)) rfl | exact Cell.h0 rfl | exact Cell.h1 rfl | exact Cell.h2 rfl | exact Cell.h3 rfl | exact Cell.h4 rfl | exact Cell.h5 rfl | (repeat (first | exact Cell.here rfl | apply Cell.there | apply Cell.app)))) (.some rfl rfl rfl rfl gbf) rfl rfl rfl ?_
              refine XQ_v1 (ev_cmp rfl rfl rfl) (.some rfl rfl rfl rfl gbf) rfl rfl rfl ?_
              refine XQ_v1 (ev_move rfl) (.some rfl rfl rfl rfl gbf) rfl rfl rfl ?_
              refine XQ_pushT 22 rfl rfl rfl ?_
              refine XQ_v1 (ev_indexArr rfl rfl art_46 (fun hg => by first | decide | omega)) (.some rfl rfl rfl rfl gbt) rfl rfl rfl ?_
              refine XQ_v1 (ev_load rfl sct_3 (fun hg => by first | exact Sl.get0 hT hs1 rfl | exact Sl.get0 hH hz rfl | exact Sl.get (k := ((i : Int) - 1).toNat) hM (prev_m hM.len hli (by simp [conj] at hg; omega)) rfl | exact Cell.h0 rfl | exact Cell.h1 rfl | exact Cell.h2 rfl | exact Cell.h3 rfl | exact Cell.h4 rfl | exact Cell.h5 rfl | (repeat (first | exact Cell.here rfl | apply Cell.there | apply Cell.app)))) (.some rfl rfl rfl rfl gbt) rfl rfl rfl ?_
              refine XQ_v1 (ev_move rfl) (.some rfl rfl rfl rfl gbt) rfl rfl rfl ?_
              refine XQ_v1 (ev_move rfl) (.some rfl rfl rfl rfl gbt) rfl rfl rfl ?_
              refine XQ_v1 (ev_arB rfl rfl rfl (fun _ => by omega)) (.some rfl rfl rfl rfl gbt) rfl rfl rfl ?_
              refine XQ_v1 (ev_indexSl rfl rfl slt_38 (by assumption) (fun hg => by first | omega | (simp [conj] at hg; omega))) (.some rfl rfl rfl rfl gbt) rfl rfl rfl ?_
              refine XQ_v1 (ev_indexArr rfl rfl art_46 (fun hg => by first | decide | omega)) (.some rfl rfl rfl rfl gbt) rfl rfl rfl ?_
              refine XQ_v1 (ev_load rfl sct_3 (fun hg => by first | exact Sl.get0 hT hs1 rfl | exact Sl.get0 hH hz rfl | exact Sl.get (k := ((i : Int) - 1).toNat) hM (prev_m hM.len hli (by simp [conj] at hg; omega)) rfl | exact Cell.h0 rfl | exact Cell.h1 rfl | exact Cell.h2 rfl | exact Cell.h3 rfl | exact Cell.h4 rfl | exact Cell.h5 rfl | (repeat (first | exact Cell.here rfl | apply Cell.there | apply Cell.app)))) (.some rfl rfl rfl rfl gbt) rfl rfl rfl ?_
              refine XQ_v1 (ev_cmp rfl rfl rfl) (.some rfl rfl rfl rfl gbt) rfl rfl rfl ?_
              refine XQ_and1 rfl rfl rfl (.some rfl rfl rfl rfl gbf) rfl rfl ?_
              refine XQ_or1 rfl rfl rfl (.some rfl rfl rfl rfl gbt) rfl rfl ?_
              refine XQ_and0 rfl rfl rfl rfl rfl ?_
              refine XQ_nil ?_
              refine at_then ?_
              refine X_cond rfl (fun hc255 => ?_) (fun hc255 => ?_)
              · skip
                simp only [Bool.and_eq_true, Bool.or_eq_true, decide_eq_true_eq, beq_iff_eq] at hc255
                have hl := lex_prev hsort hm (by omega)
                unfold lexP at hl
                omega
              · skip
                refine X_skip ?_
                refine at_then ?_
                refine X_seq ?_
                refine X_region ?_
                refine XO_v0 (ev_move rfl) rfl rfl rfl ?_
                refine XO_v0 (ev_fieldAddr rfl fld_33_0) rfl rfl rfl ?_
                refine XO_v0 (ev_load rfl sct_3 (fun hg => by first | exact Sl.get0 hT hs1 rfl | exact Sl.get0 hH hz rfl | exact Sl.get (k := ((i : Int) - 1).toNat) hM (prev_m hM.len hli (by simp [conj] at hg; omega)) rfl | exact Cell.h0 rfl | exact Cell.h1 rfl | exact Cell.h2 rfl | exact Cell.h3 rfl | exact Cell.h4 rfl | exact Cell.h5 rfl | (repeat (first | exact Cell.here rfl | apply Cell.there | apply Cell.app)))) rfl rfl rfl ?_
                refine XO_v0 (ev_indexArr rfl rfl art_46 (fun hg => by first | decide | omega)) rfl rfl rfl ?_
                refine XO_v0 (ev_load rfl sct_3 (fun hg => by first | exact Sl.get0 hT hs1 rfl | exact Sl.get0 hH hz rfl | exact Sl.get (k := ((i : Int) - 1).toNat) hM (prev_m hM.len hli (by simp [conj] at hg; omega)) rfl | exact Cell.h0 rfl | exact Cell.h1 rfl | exact Cell.h2 rfl | exact Cell.h3 rfl | exact Cell.h4 rfl | exact Cell.h5 rfl | (repeat (first | exact Cell.here rfl | apply Cell.there | apply Cell.app)))) rfl rfl rfl ?_
                refine XO_v0 (ev_fieldAddr rfl fld_33_2) rfl rfl rfl ?_
                refine XO_v0 (ev_load rfl sct_3 (fun hg => by first | exact Sl.get0 hT hs1 rfl | exact Sl.get0 hH hz rfl | exact Sl.get (k := ((i : Int) - 1).toNat) hM (prev_m hM.len hli (by simp [conj] at hg; omega)) rfl | exact Cell.h0 rfl | exact Cell.h1 rfl | exact Cell.h2 rfl | exact Cell.h3 rfl | exact Cell.h4 rfl | exact Cell.h5 rfl | (repeat (first | exact Cell.here rfl | apply Cell.there | apply Cell.app)))) rfl rfl rfl ?_
                refine XO_v0 (ev_fieldAddr rfl fld_33_3) rfl rfl rfl ?_
                refine XO_v0 (ev_load rfl sct_3 (fun hg => by first | exact Sl.get0 hT hs1 rfl | exact Sl.get0 hH hz rfl | exact Sl.get (k := ((i : Int) - 1).toNat) hM (prev_m hM.len hli (by simp [conj] at hg; omega)) rfl | exact Cell.h0 rfl | exact Cell.h1 rfl | exact Cell.h2 rfl | exact Cell.h3 rfl | exact Cell.h4 rfl | exact Cell.h5 rfl | (repeat (first | exact Cell.here rfl | apply Cell.there | apply Cell.app)))) rfl rfl rfl ?_
                refine XO_callM (cap := []) (vs := [_, _, _, _, _]) rfl rfl fun_19 .nil ((w_Holders hS hn _ _ _ _).absS) rfl rfl ?_
                rintro vv10 I10 L10 hI10 ⟨hs, e14, hhs, he14, rfl, a10, c10, rfl, hH⟩
                have hS := hS.mono hI10
                have hT := hT.mono hI10
                have hM := hM.mono hI10
                have hY := hY.mono hI10
                have hIc := hIc.trans hI10
                have hB0 := hB0.trans hI10
                have hB10 := hB10.trans hI10
                have hhl : hs.length ≤ 100000 := by rw [hhs]; exact ss_len7 (xs := xs) hS.len (by omega) ed m.1 day time
                refine XO_v0 (ev_move rfl) rfl rfl rfl ?_
                refine XO_v0 (ev_extract rfl rfl) rfl rfl rfl ?_
                refine XO_v0 (ev_extract rfl rfl) rfl rfl rfl ?_
                refine XO_v0 (ev_assign rfl) rfl rfl rfl ?_
                refine XO_v0 (ev_assign rfl) rfl rfl rfl ?_
                refine XO_nil ?_
                refine at_then ?_
                refine X_seq ?_
                refine X_region ?_
                refine XO_v0 (ev_assign rfl) rfl rfl rfl ?_
                refine XO_v0 (ev_assign rfl) rfl rfl rfl ?_
                refine XO_nil ?_
                refine at_then ?_
                refine X_seq ?_
                refine X_seq ?_
                refine X_region ?_
                refine XO_v0 (ev_fieldAddr rfl fld_33_6) rfl rfl rfl ?_
                refine XO_v0 (ev_load rfl sct_31 (fun hg => by first | exact Sl.get0 hT hs1 rfl | exact Sl.get0 hH hz rfl | exact Sl.get (k := ((i : Int) - 1).toNat) hM (prev_m hM.len hli (by simp [conj] at hg; omega)) rfl | exact Cell.h0 rfl | exact Cell.h1 rfl | exact Cell.h2 rfl | exact Cell.h3 rfl | exact Cell.h4 rfl | exact Cell.h5 rfl | (repeat (first | exact Cell.here rfl | apply Cell.there | apply Cell.app)))) rfl rfl rfl ?_
                refine XO_v0 (ev_lenS rfl slt_31) rfl rfl rfl ?_
                refine XO_v0 (ev_move rfl) rfl rfl rfl ?_
                refine XO_nil ?_
                refine at_then ?_
                refine X_block ?_
                refine X_loopT [(0, _), (3, _), (6, _), (26, _), (27, _), (28, _), (30, _), (214, _), (215, _), (216, _), (270, _), (271, _)] (.cons rfl (.cons rfl (.cons rfl (.cons rfl (.cons rfl (.cons rfl (.cons rfl (.cons rfl (.cons rfl (.cons rfl (.cons rfl (.cons rfl .nil)))))))))))) (fun T L0 mz E I' loc' => ∃ (i2 : Nat) (b : Bool), mz = n2 - i2 ∧ E = (29, .bool b) :: (272, .int .i64 i2) :: T ∧ I10 = I' ∧ loc' = L0 ∧ i2 ≤ n2 ∧ b = (ss.take i2).any (fun y => y == m.1)) _ _ _ _ ⟨0, false, rfl, rfl, rfl, rfl, Nat.zero_le _, rfl⟩ (.cons rfl (.cons rfl (.cons rfl (.cons rfl (.cons rfl (.cons rfl (.cons rfl (.cons rfl (.cons rfl (.cons rfl (.cons rfl (.cons rfl (.cons rfl (.cons rfl .nil)))))))))))))) (HLe.refl _) rfl ?_
                rintro mz E I' loc' ⟨i2, b12, rfl, rfl, rfl, rfl, hi2, hb12⟩
                refine X_seq ?_
                refine X_region ?_
                refine XO_v0 (ev_cmp rfl rfl rfl) rfl rfl rfl ?_
                refine XO_nil ?_
                refine at_then ?_
                refine X_seq ?_
                refine X_cond rfl (fun hc273 => ?_) (fun hc273 => ?_)
                · skip
                  have hlj : i2 < n2 := by simpa using hc273
                  obtain ⟨s1, hs1⟩ := hT.at hlj
                  refine X_skip ?_
                  refine at_then ?_
                  refine X_seq ?_
                  refine X_block ?_
                  refine X_seq ?_
                  refine X_region ?_
                  refine XO_v0 (ev_indexSl rfl rfl slt_31 (by assumption) (fun hg => by first | omega | (simp [conj] at hg; omega))) rfl rfl rfl ?_
                  refine XO_v0 (ev_load rfl sct_3 (fun hg => by first | exact Sl.get0 hT hs1 rfl | exact Sl.get0 hH hz rfl | exact Sl.get (k := ((i : Int) - 1).toNat) hM (prev_m hM.len hli (by simp [conj] at hg; omega)) rfl | exact Cell.h0 rfl | exact Cell.h1 rfl | exact Cell.h2 rfl | exact Cell.h3 rfl | exact Cell.h4 rfl | exact Cell.h5 rfl | (repeat (first | exact Cell.here rfl | apply Cell.there | apply Cell.app)))) rfl rfl rfl ?_
                  refine XO_v0 (ev_assign rfl) rfl rfl rfl ?_
                  refine XO_nil ?_
                  refine at_then ?_
                  refine X_region ?_
                  refine XO_v0 (ev_move rfl) rfl rfl rfl ?_
                  refine XO_v0 (ev_move rfl) rfl rfl rfl ?_
                  refine XO_pushF 1 rfl rfl rfl ?_
                  refine XO_v1 (ev_move rfl) (.some rfl rfl rfl rfl gbf) rfl rfl rfl ?_
                  refine XO_v1 (ev_indexArr rfl rfl art_46 (fun hg => by first | decide | omega)) (.some rfl rfl rfl rfl gbf) rfl rfl rfl ?_
                  refine XO_v1 (ev_load rfl sct_3 (fun hg => by first | exact Sl.get0 hT hs1 rfl | exact Sl.get0 hH hz rfl | exact Sl.get (k := ((i : Int) - 1).toNat) hM (prev_m hM.len hli (by simp [conj] at hg; omega)) rfl | exact Cell.h0 rfl | exact Cell.h1 rfl | exact Cell.h2 rfl | exact Cell.h3 rfl | exact Cell.h4 rfl | exact Cell.h5 rfl | (repeat (first | exact Cell.here rfl | apply Cell.there | apply Cell.app)))) (.some rfl rfl rfl rfl gbf) rfl rfl rfl ?_
                  refine XO_v1 (ev_cmp rfl rfl rfl) (.some rfl rfl rfl rfl gbf) rfl rfl rfl ?_
                  refine XO_or0 rfl rfl rfl rfl rfl ?_
                  refine XO_v0 (ev_assign rfl) rfl rfl rfl ?_
                  refine XO_nil ?_
                  refine at_block_n ?_
                  refine at_then ?_
                  refine X_region ?_
                  refine XO_v0 (ev_arB rfl rfl rfl (fun _ => by omega)) rfl rfl rfl ?_
                  refine XO_v0 (ev_move rfl) rfl rfl rfl ?_
                  refine XO_nil ?_
                  exact at_met2 _ _ ⟨n2 - (i2 + 1), by omega, i2 + 1, _, rfl, rfl, rfl, rfl, by omega, by rw [any_take hs1, ← hb12]⟩ (.cons rfl (.cons rfl (.cons rfl (.cons rfl (.cons rfl (.cons rfl (.cons rfl (.cons rfl (.cons rfl (.cons rfl (.cons rfl (.cons rfl (.cons rfl (.cons rfl .nil)))))))))))))) (by repeat (first | exact .refl | refine subL_app ?_ | refine .drop ?_ | refine subL_add ?_))
                · skip
                  have hge12 : n2 ≤ i2 := by simpa using hc273
                  refine X_exit ?_
                  refine at_then_e ?_
                  refine at_then_e ?_
                  refine at_block_hit ?_
                  refine at_then ?_
                  refine X_seq ?_
                  refine X_seq ?_
                  refine X_region ?_
                  refine XO_v0 (ev_move rfl) rfl rfl rfl ?_
                  refine XO_v0 (ev_lenS rfl slt_31) rfl rfl rfl ?_
                  refine XO_v0 (ev_move rfl) rfl rfl rfl ?_
                  refine XO_nil ?_
                  refine at_then ?_
                  refine X_block ?_
                  refine X_loopT [(0, _), (3, _), (6, _), (26, _), (28, _), (29, _), (214, _), (215, _), (216, _), (284, _), (285, _)] (.cons rfl (.cons rfl (.cons rfl (.cons rfl (.cons rfl (.cons rfl (.cons rfl (.cons rfl (.cons rfl (.cons rfl (.cons rfl .nil))))))))))) (fun T L0 mz E I' loc' => ∃ (i3 : Nat) (b : Bool), mz = hs.length - i3 ∧ E = (30, .bool b) :: (286, .int .i64 i3) :: T ∧ I10 = I' ∧ loc' = L0 ∧ i3 ≤ hs.length ∧ b = (hs.take i3).any (fun y => y == m.2)) _ _ _ _ ⟨0, false, rfl, rfl, rfl, rfl, Nat.zero_le _, rfl⟩ (.cons rfl (.cons rfl (.cons rfl (.cons rfl (.cons rfl (.cons rfl (.cons rfl (.cons rfl (.cons rfl (.cons rfl (.cons rfl (.cons rfl (.cons rfl .nil))))))))))))) (HLe.refl _) rfl ?_
                  rintro mz E I' loc' ⟨i3, b14, rfl, rfl, rfl, rfl, hi3, hb14⟩
                  refine X_seq ?_
                  refine X_region ?_
                  refine XO_v0 (ev_cmp rfl rfl rfl) rfl rfl rfl ?_
                  refine XO_nil ?_
                  refine at_then ?_
                  refine X_seq ?_
                  refine X_cond rfl (fun hc287 => ?_) (fun hc287 => ?_)
                  · skip
                    have hlj : i3 < hs.length := by simpa using hc287
                    obtain ⟨z, hz⟩ := hH.at hlj
                    refine X_skip ?_
                    refine at_then ?_
                    refine X_seq ?_
                    refine X_block ?_
                    refine X_seq ?_
                    refine X_region ?_
                    refine XO_v0 (ev_indexSl rfl rfl slt_31 (by assumption) (fun hg => by first | omega | (simp [conj] at hg; omega))) rfl rfl rfl ?_
                    refine XO_v0 (ev_load rfl sct_3 (fun hg => by first | exact Sl.get0 hT hs1 rfl | exact Sl.get0 hH hz rfl | exact Sl.get (k := ((i : Int) - 1).toNat) hM (prev_m hM.len hli (by simp [conj] at hg; omega)) rfl | exact Cell.h0 rfl | exact Cell.h1 rfl | exact Cell.h2 rfl | exact Cell.h3 rfl | exact Cell.h4 rfl | exact Cell.h5 rfl | (repeat (first | exact Cell.here rfl | apply Cell.there | apply Cell.app)))) rfl rfl rfl ?_
                    refine XO_v0 (ev_assign rfl) rfl rfl rfl ?_
                    refine XO_nil ?_
                    refine at_then ?_
                    refine X_region ?_
                    refine XO_v0 (ev_move rfl) rfl rfl rfl ?_
                    refine XO_v0 (ev_move rfl) rfl rfl rfl ?_
                    refine XO_pushF 1 rfl rfl rfl ?_
                    refine XO_v1 (ev_move rfl) (.some rfl rfl rfl rfl gbf) rfl rfl rfl ?_
                    refine XO_v1 (ev_indexArr rfl rfl art_46 (fun hg => by first | decide | omega)) (.some rfl rfl rfl rfl gbf) rfl rfl rfl ?_
                    refine XO_v1 (ev_load rfl sct_3 (fun hg => by first | exact Sl.get0 hT hs1 rfl | exact Sl.get0 hH hz rfl | exact Sl.get (k := ((i : Int) - 1).toNat) hM (prev_m hM.len hli (by simp [conj] at hg; omega)) rfl | exact Cell.h0 rfl | exact Cell.h1 rfl | exact Cell.h2 rfl | exact Cell.h3 rfl | exact Cell.h4 rfl | exact Cell.h5 rfl | (repeat (first | exact Cell.here rfl | apply Cell.there | apply Cell.app)))) (.some rfl rfl rfl rfl gbf) rfl rfl rfl ?_
                    refine XO_v1 (ev_cmp rfl rfl rfl) (.some rfl rfl rfl rfl gbf) rfl rfl rfl ?_
                    refine XO_or0 rfl rfl rfl rfl rfl ?_
                    refine XO_v0 (ev_assign rfl) rfl rfl rfl ?_
                    refine XO_nil ?_
                    refine at_block_n ?_
                    refine at_then ?_
                    refine X_region ?_
                    refine XO_v0 (ev_arB rfl rfl rfl (fun _ => by omega)) rfl rfl rfl ?_
                    refine XO_v0 (ev_move rfl) rfl rfl rfl ?_
                    refine XO_nil ?_
                    exact at_met2 _ _ ⟨hs.length - (i3 + 1), by omega, i3 + 1, _, rfl, rfl, rfl, rfl, by omega, by rw [any_take hz, ← hb14]⟩ (.cons rfl (.cons rfl (.cons rfl (.cons rfl (.cons rfl (.cons rfl (.cons rfl (.cons rfl (.cons rfl (.cons rfl (.cons rfl (.cons rfl (.cons rfl .nil))))))))))))) (by repeat (first | exact .refl | refine subL_app ?_ | refine .drop ?_ | refine subL_add ?_))
                  · skip
                    have hge14 : hs.length ≤ i3 := by simpa using hc287
                    refine X_exit ?_
                    refine at_then_e ?_
                    refine at_then_e ?_
                    refine at_block_hit ?_
                    refine at_then ?_
                    refine X_seq ?_
                    refine X_region ?_
                    refine XO_v0 (ev_move rfl) rfl rfl rfl ?_
                    refine XO_v0 (ev_cmp rfl rfl rfl) rfl rfl rfl ?_
                    refine XO_v0 (ev_move rfl) rfl rfl rfl ?_
                    refine XO_pushF 2 rfl rfl rfl ?_
                    refine XO_v1 (ev_move rfl) (.some rfl rfl rfl rfl gbf) rfl rfl rfl ?_
                    refine XO_v1 (ev_not rfl) (.some rfl rfl rfl rfl gbf) rfl rfl rfl ?_
                    refine XO_or0 rfl rfl rfl rfl rfl ?_
                    refine XO_v0 (ev_move rfl) rfl rfl rfl ?_
                    refine XO_pushF 6 rfl rfl rfl ?_
                    refine XO_v1 (ev_move rfl) (.some rfl rfl rfl rfl gbf) rfl rfl rfl ?_
                    refine XO_v1 (ev_not rfl) (.some rfl rfl rfl rfl gbf) rfl rfl rfl ?_
                    refine XO_or0 rfl rfl rfl rfl rfl ?_
                    refine XO_nil ?_
                    refine at_then ?_
                    refine X_cond rfl (fun hc307 => ?_) (fun hc307 => ?_)
                    · skip
                      rw [take_all hT.len hge12] at hb12
                      rw [take_all rfl hge14] at hb14
                      have hz0 := hErr_ok hc0 (signOK_within hok hmem.1)
                      rw [resF_ok hz0] at hhs
                      have h1 : b12 = true := by rw [hb12, List.any_eq_true]; exact ⟨m.1, hmem.1, by simp⟩
                      have h2 : b14 = true := by rw [hb14, hhs, List.any_eq_true]; exact ⟨m.2, hmem.2.1, by simp⟩
                      exact absurd hc307 (by rw [he14, hz0, h1, h2]; decide)
                    · skip
                      refine X_skip ?_
                      refine at_block_n ?_
                      refine at_then ?_
                      refine X_region ?_
                      refine XO_v0 (ev_arB rfl rfl rfl (fun _ => by omega)) rfl rfl rfl ?_
                      refine XO_v0 (ev_move rfl) rfl rfl rfl ?_
                      refine XO_nil ?_
                      exact at_met2 _ _ ⟨ms.length - (i + 1), by omega, i + 1, rfl, rfl, hB10, rfl, by omega⟩ (.cons rfl (.cons rfl (.cons rfl (.cons rfl (.cons rfl (.cons rfl .nil)))))) (by repeat (first | exact .refl | refine subL_app ?_ | refine .drop ?_ | refine subL_add ?_))
            · skip
              refine X_exit ?_
              refine at_then_e ?_
              refine at_then_e ?_
              refine at_block_hit ?_
              refine at_then ?_
              refine X_seq ?_
              refine X_region ?_
              refine XO_v0 (ev_assign rfl) rfl rfl rfl ?_
              refine XO_nil ?_
              refine at_then ?_
              refine X_ret ?_
              first
              | exact at_ret1 rfl rfl (fun w hw => ⟨rfl, (hw.mono hIc).drop⟩)
              | exact at_ret1 rfl rfl (fun w hw => ⟨by rw [hms, ← he5]; unfold resF; rw [if_pos (by simpa using hc61)]; simp; simpa using hc61, (hw.mono hIc).drop⟩)
end Go.Proofs.Ytmflfccincbnaaa
