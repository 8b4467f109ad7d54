/- editionRoot_holds, part G of the proof: what its theorems say holds without further conditions. -/
import Derived.ProofKit
import Derived.Deep.Slices
import Derived.Test.YthcffaheamikgaaDoorRows
import Derived.LaidMore
import Derived.MakeChecks
import Derived.Lib.LaidTab
import Derived.Test.YthcffaheamikgaaDoorCards
import Derived.Test.YthcffaheamikgaaDoorTie
import Derived.Stop.Joined
import Derived.SevenTiedAt
import Derived.Test.YthcffaheamikgaaDoorECF
section
namespace Go.Proofs.YthcffaheamikgaaDoor
open Go Go.Kn Go.Proofs
theorem und_4 : Tryd.prog.underlying 4 = some .bool := by kernel_rfl
set_option maxHeartbeats 4000000 in
theorem w_rootLaw {I : HMap} {av : Option Addr} {n c : Nat} {xs : List Int} (hS : Sl I 1 encI av n c xs) {bv : Option Addr} {n2 c2 : Nat} {rows : List (List Int)} (hVn : SlN I bv n2 c2 rows) (hDb : DebOK I) (z z2 : Int) (hz : 0 ≤ z ∧ z ≤ 255) (hz2 : 0 ≤ z2 ∧ z2 ≤ 255) : RetV Tryd.prog 3 [.slice bv n2 c2, .slice av n c, .int .u8 z, .int .u8 z2] I (.bool true) := by
 intro g H w hw
 refine enter Tryd.func3 rfl Tryd.ntmps3 rfl hw ?_
 have hIc := HLe.refl I
 have hlV := hVn.len
 subst hlV
 have hlS := hS.len
 subst hlS
 obtain ⟨hs, hV⟩ := id hVn
 have hH := hV.1
 refine X_seq (X_region ?_)
 refine zA ?_
 refine XO_nil (at_then ?_)
 refine X_seq ?_
 refine X_seq (X_region ?_)
 refine XO_callV0 (cap := []) (vs := []) rfl rfl fun_8 (w_sane hDb) rfl rfl ?_
 refine XO_v0 (ev_not rfl) rfl rfl rfl ?_
 refine XO_nil (at_then ?_)
 refine X_cond rfl (fun hc26 => ?_) (fun hc26 => ?_)
 ·
  cases hc26
 ·
  refine X_skip ?_
  refine at_then ?_
  refine X_seq ?_
  refine X_seq (X_region ?_)
  refine zM ?_
  refine zM ?_
  refine XO_callV0 (cap := []) (vs := [_, _, _]) rfl rfl fun_9 (w_few43 hVn _ _ _ _ _ _) rfl rfl ?_
  refine XO_v0 (ev_not rfl) rfl rfl rfl ?_
  refine zM ?_
  refine XO_pushF 4 rfl rfl rfl ?_
  refine XO_v1 (ev_move rfl) (.some rfl rfl rfl rfl gbf) rfl rfl rfl ?_
  refine XO_v1 (ev_lenS rfl slt_22) (.some rfl rfl rfl rfl gbf) rfl rfl rfl ?_
  refine XO_v1 (ev_cmp rfl rfl rfl) (.some rfl rfl rfl rfl gbf) rfl rfl rfl ?_
  refine XO_or0 rfl rfl rfl rfl rfl ?_
  refine XO_nil (at_then ?_)
  refine X_cond rfl (fun hc35 => ?_) (fun hc35 => ?_)
  ·
   refine X_seq (X_region ?_)
   refine zA ?_
   refine XO_nil (at_then ?_)
   refine X_ret ?_
   refine at_then_r ?_
   exact at_ret1 rfl rfl (fun w hw => ⟨by rfl, (hw.mono hIc).drop⟩)
  ·
   have h35 := hc35
   simp only [Bool.or_eq_false_iff, Bool.not_eq_false', Bool.and_eq_true, decide_eq_true_eq, decide_eq_false_iff_not] at h35
   have hfw : fewR rows = true ∧ xs.length ≤ 40 ∧ rows.length < 6 := ⟨h35.1.1.1, by omega, by omega⟩
   have hn2 : rows.length ≤ 100000 := by omega
   refine X_skip ?_
   refine at_then ?_
   refine X_seq (X_region ?_)
   refine zM ?_
   refine zM ?_
   refine XO_callM (cap := []) (vs := [_, _]) rfl rfl fun_10 .nil (w_Roots hS hVn hn2 hDb) rfl rfl ?_
   rintro vv1 I1 L1 hI1 ⟨rfl, av4, c4, rfl, hRt⟩
   have hS := hS.mono hI1
   have hVn := hVn.mono hI1
   have hV := hV.mono hI1
   have hH := hH.mono hI1
   have hDb := hDb.mono hI1
   have hIc := hIc.trans hI1
   refine zM ?_
   refine XO_v0 (ev_extract rfl rfl) rfl rfl rfl ?_
   refine XO_v0 (ev_extract rfl rfl) rfl rfl rfl ?_
   refine zA ?_
   refine zA ?_
   refine XO_nil (at_then ?_)
   refine X_seq ?_
   refine X_seq (X_region ?_)
   refine zM ?_
   refine zC ?_
   refine XO_nil (at_then ?_)
   refine X_cond rfl (fun hc43 => ?_) (fun hc43 => ?_)
   ·
    have hcE : costE rows xs ≠ 0 := by simpa using hc43
    have hl0 : (rootsL rows xs).length = 0 := by rw [roots_bad hcE]; rfl
    rw [hl0]
    refine X_seq (X_region ?_)
    refine zM ?_
    refine XO_v0 (ev_lenS rfl slt_22) rfl rfl rfl ?_
    refine zC ?_
    refine zA ?_
    refine XO_nil (at_then ?_)
    refine X_ret ?_
    refine at_then_r ?_
    exact at_ret1 rfl rfl (fun w hw => ⟨by rfl, (hw.mono hIc).drop⟩)
   ·
    have hcE : costE rows xs = 0 := by simpa using hc43
    have hr0 := cost_rows hcE
    have hc0 : chkN rows.length xs = 0 := by have h := hcE; unfold costE at h; rw [if_neg (by omega)] at h; exact h
    obtain ⟨hr1, hr6, hr64, hrr⟩ := rows_ok hr0
    obtain ⟨x0, v0, hx0, hv0, hQ0⟩ := hV.at (k := 0) (by omega)
    have hg0 : rows.getD 0 [] = v0 := getD_of hv0
    have hQ0l := hQ0.len
    have hg1 : (rows.getD 0 []).length = v0.length := by rw [hg0]
    rw [roots_len hcE] at hRt ⊢
    refine X_skip ?_
    refine at_then ?_
    refine X_seq ?_
    refine X_seq (X_region ?_)
    refine zM ?_
    refine XO_v0 (ev_lenS rfl slt_22) rfl rfl rfl ?_
    refine zM ?_
    refine XO_v0 (ev_indexSl rfl rfl slt_22 hH (fun hg => by first | omega | (simp [conj] at hg; omega))) rfl rfl rfl ?_
    refine XO_v0 (ev_load rfl sct_23 (fun hg => by exact Sl.get0 hH hx0 rfl)) rfl rfl rfl ?_
    refine XO_v0 (ev_lenS rfl slt_23) rfl rfl rfl ?_
    refine zC ?_
    refine XO_nil (at_then ?_)
    refine X_cond rfl (fun hc53 => ?_) (fun hc53 => ?_)
    ·
     have e9 : (((rows.getD 0 []).length : Nat) : Int) = (x0.n : Int) := by omega
     rw [e9] at hc53
     simp at hc53
    ·
     refine X_skip ?_
     refine at_then ?_
     refine X_seq ?_
     refine X_seq (X_region ?_)
     refine zM ?_
     refine XO_v0 (ev_lenS rfl slt_22) rfl rfl rfl ?_
     refine zC ?_
     refine XO_nil (at_then ?_)
     refine X_cond rfl (fun hc56 => ?_) (fun hc56 => ?_)
     ·
      refine X_seq (X_region ?_)
      refine zA ?_
      refine XO_nil (at_then ?_)
      refine X_ret ?_
      refine at_then_r ?_
      exact at_ret1 rfl rfl (fun w hw => ⟨by rfl, (hw.mono hIc).drop⟩)
     ·
      have hn0 : (rows.getD 0 []).length ≠ 0 := by have h := hc56; simp only [beq_eq_false_iff_ne, ne_eq] at h; omega
      obtain ⟨K, eK, hK9⟩ := which_at (n := (rows.getD 0 []).length) hz hn0
      refine X_skip ?_
      refine at_then ?_
      refine X_seq (X_region ?_)
      refine zM ?_
      refine XO_v0 (ev_convI rfl cvt_5_3) rfl rfl rfl ?_
      refine zM ?_
      refine XO_v0 (ev_lenS rfl slt_22) rfl rfl rfl ?_
      refine XO_v0 (ev_rem rfl rfl (fun hg => by omega)) rfl rfl rfl ?_
      rw [eK]
      refine zA ?_
      refine XO_nil (at_then (X_seq (X_region ?_)))
      refine zA ?_
      refine XO_nil (at_then (X_seq (X_region ?_)))
      refine XO_buildSlice (ps := [(0, _)]) (m := [encI (0 : Int)]) elt_23 rfl (.cons rfl (.nil)) rfl (by simp [encI_len, encH_len]) (by decide) (by decide) rfl rfl (fun b_62 => ?_)
      refine zA ?_
      refine XO_nil (at_then ?_)
      refine X_seq ?_
      refine X_seq (X_region ?_)
      refine zM ?_
      refine XO_v0 (ev_lenS rfl slt_22) rfl rfl rfl ?_
      refine zM ?_
      refine XO_nil (at_then ?_)
      refine X_block ?_
      refine X_loopT [(0, _), (1, _), (3, _), (9, _), (11, _), (63, _), (64, _)] (.cons rfl (.cons rfl (.cons rfl (.cons rfl (.cons rfl (.cons rfl (.cons rfl .nil))))))) (fun T L0 mz E I' loc' => ∃ (i : Nat) (v12 : Value) (os : List Hd) (L12 : Go.Kn.Loc) (v13 : Value) (q : Nat) (L13 : Go.Kn.Loc), mz = rows.length - i ∧ E = (12, v12) :: (13, v13) :: (65, .int .i64 i) :: T ∧ HLe I1 I' ∧ L12 ++ L13 = loc' ∧ i ≤ rows.length ∧ OwnS 23 1 v12 i (os.flatMap encH) L12 ∧ RelH I' os (columnF (rows.take i) K) ∧ OwnS 3 1 v13 q ((stL rows K i).flatMap encI) L13 ∧ q ≤ i + 1) _ _ _ _ ⟨0, _, [], [], _, 1, _, rfl, rfl, HLe.refl _, rfl, Nat.zero_le _, OwnS.nil, RelH.nil, OwnS.lit rfl (by decide), Nat.le_refl _⟩ (.cons rfl (.cons rfl (.cons rfl (.cons rfl (.cons rfl (.cons rfl (.cons rfl (.cons rfl (.cons rfl (.cons rfl .nil)))))))))) (HLe.refl _) rfl ?_
      rintro mz E J2 loc' ⟨i, v12, os, L12, v13, q, L13, rfl, rfl, hJ, rfl, hi, hO12, hre, hO13, hq⟩
      have hS := hS.mono hJ
      have hVn := hVn.mono hJ
      have hV := hV.mono hJ
      have hH := hH.mono hJ
      have hDb := hDb.mono hJ
      have hRt := hRt.mono hJ
      have hQ0 := hQ0.mono hJ
      have hIc := hIc.trans hJ
      have hB0 := hJ
      obtain ⟨va12, vc12, rfl⟩ := valn hO12
      obtain ⟨va13, vc13, rfl⟩ := valn hO13
      refine X_seq (X_region ?_)
      refine zC ?_
      refine XO_nil (at_then ?_)
      refine X_seq ?_
      refine X_cond rfl (fun hc66 => ?_) (fun hc66 => ?_)
      ·
       have hlt_i : i < rows.length := by have h := hc66; simp at h; omega
       obtain ⟨x, v, hx, hv, hQ⟩ := hV.at hlt_i
       have hQl := hQ.len
       have hvl := (hrr v (List.mem_of_getElem? hv)).1
       have hUF : uF rows K i = v.getD K 0 := by unfold uF; rw [getD_of hv]
       refine X_skip ?_
       refine at_then ?_
       refine X_seq ?_
       refine X_block ?_
       refine X_seq (X_region ?_)
       refine XO_v0 (ev_indexSl rfl rfl slt_22 hH (fun hg => by first | omega | (simp [conj] at hg; omega))) rfl rfl rfl ?_
       refine XO_v0 (ev_load rfl sct_23 (fun hg => by exact Sl.get0 hH hx rfl)) rfl rfl rfl ?_
       refine zA ?_
       refine XO_nil (at_then (X_seq (X_region ?_)))
       refine zM ?_
       refine zM ?_
       refine zM ?_
       refine XO_v0 (ev_indexSl rfl rfl slt_23 hQ (fun hg => by first | omega | (simp [conj] at hg; omega))) rfl rfl rfl ?_
       refine XO_v0 (ev_load rfl sct_3 (fun hg => by exact Sl.get0 (k := K) hQ (some_getD (d := 0) rfl (by omega)) rfl)) rfl rfl rfl ?_
       refine XO_buildSlice (ps := [(0, _)]) (m := [encI (v.getD K 0)]) elt_23 rfl (.cons rfl (.nil)) rfl (by simp [encI_len, encH_len]) (by decide) (by decide) rfl rfl (fun b_74 => ?_)
       refine XO_freeze (b := b_74) (by repeat (first | exact Take.here | apply Take.there)) (fun I3 hI3 hb3 => ?_)
       have hS := hS.mono hI3
       have hVn := hVn.mono hI3
       have hV := hV.mono hI3
       have hH := hH.mono hI3
       have hDb := hDb.mono hI3
       have hRt := hRt.mono hI3
       have hQ0 := hQ0.mono hI3
       have hre := hre.mono hI3
       have hQ := hQ.mono hI3
       have hIc := hIc.trans hI3
       have hB0 := hB0.trans hI3
       have hRw : Sl I3 1 encI (some ⟨b_74, 0, none⟩) 1 1 [v.getD K 0] := Sl.lit ([v.getD K 0] : List Int) rfl encI_len (show _ = some (Obj.cells (([v.getD K 0] : List Int).flatMap encI).toArray 3 (0, 0)) from hb3)
       refine XO_buildSlice (ps := [(0, _)]) (m := [encH ⟨some ⟨b_74, 0, none⟩, 1, 1⟩]) elt_22 rfl (.cons rfl (.nil)) rfl (by simp [encI_len, encH_len]) (by decide) (by decide) rfl rfl (fun b_75 => ?_)
       refine XO_append (v := _) (ys := [(⟨some ⟨b_74, 0, none⟩, 1, 1⟩ : Hd)].flatMap encH) (L := L12) rfl rfl elt_22 hO12 (by repeat (first | exact .cons .here .nil | exact split_all | exact split_app | apply split_cons | apply split_skip)) ⟨rfl, fun _ => rfl, by repeat (first | exact Cells.here | apply Cells.there | apply Cells.app)⟩ (one_H _) (by omega) rfl rfl ?_
       intro v8 L8 hO8 _; rw [← List.flatMap_append] at hO8
       refine zA ?_
       refine XO_nil (at_then (X_seq (X_region ?_)))
       refine zM ?_
       refine zM ?_
       refine XO_v0 (ev_indexSl rfl rfl slt_23 hQ (fun hg => by first | omega | (simp [conj] at hg; omega))) rfl rfl rfl ?_
       refine XO_v0 (ev_load rfl sct_3 (fun hg => by exact Sl.get0 (k := K) hQ (some_getD (d := 0) rfl (by omega)) rfl)) rfl rfl rfl ?_
       refine zC ?_
       refine XO_nil (at_then ?_)
       refine X_cond rfl (fun hc81 => ?_) (fun hc81 => ?_)
       ·
        have hne : uF rows K i ≠ 8589934592 := by rw [hUF]; simpa using hc81
        refine X_region ?_
        refine zM ?_
        refine zM ?_
        refine zM ?_
        refine XO_v0 (ev_indexSl rfl rfl slt_23 hQ (fun hg => by first | omega | (simp [conj] at hg; omega))) rfl rfl rfl ?_
        refine XO_v0 (ev_load rfl sct_3 (fun hg => by exact Sl.get0 (k := K) hQ (some_getD (d := 0) rfl (by omega)) rfl)) rfl rfl rfl ?_
        refine XO_buildSlice (ps := [(0, _)]) (m := [encI (v.getD K 0)]) elt_23 rfl (.cons rfl (.nil)) rfl (by simp [encI_len, encH_len]) (by decide) (by decide) rfl rfl (fun b_87 => ?_)
        refine XO_append (v := _) (ys := [v.getD K 0].flatMap encI) (L := L13) rfl rfl elt_23 hO13 (by repeat (first | exact .cons .here .nil | exact split_all | exact split_app | apply split_cons | apply split_skip)) ⟨rfl, fun _ => rfl, by repeat (first | exact Cells.here | apply Cells.there | apply Cells.app)⟩ (one_I [v.getD K 0]) (by omega) rfl rfl ?_
        intro v9 L9 hO9 _; rw [← List.flatMap_append] at hO9
        refine zA ?_
        refine XO_nil ?_
        refine at_block_n ?_
        refine at_then ?_
        refine X_region ?_
        refine zB ?_
        refine zM ?_
        refine XO_nil ?_
        first
        | exact at_metP _ _ (L9 ++ L8) ⟨rows.length - (i + 1), by omega, i + 1, _, _, L8, _, q + 1, L9, rfl, rfl, hB0, rfl, by omega, hO8, by rw [col_next hv]; exact hre.snoc (hd := ⟨some ⟨b_74, 0, none⟩, 1, 1⟩) hRw, by rw [sl_yes hne, hUF]; exact hO9, by omega⟩ (.cons rfl (.cons rfl (.cons rfl (.cons rfl (.cons rfl (.cons rfl (.cons rfl (.cons rfl (.cons rfl (.cons rfl .nil)))))))))) List.perm_append_comm (by repeat (first | exact .refl | exact subL_left | refine subL_app ?_ | refine .drop ?_ | refine subL_add ?_))
       ·
        have heq : uF rows K i = 8589934592 := by rw [hUF]; simpa using hc81
        refine X_skip ?_
        refine at_block_n ?_
        refine at_then ?_
        refine X_region ?_
        refine zB ?_
        refine zM ?_
        refine XO_nil ?_
        first
        | exact at_met2 _ _ ⟨rows.length - (i + 1), by omega, i + 1, _, _, L8, _, q, L13, rfl, rfl, hB0, rfl, by omega, hO8, by rw [col_next hv]; exact hre.snoc (hd := ⟨some ⟨b_74, 0, none⟩, 1, 1⟩) hRw, by rw [sl_no heq]; exact hO13, by omega⟩ (.cons rfl (.cons rfl (.cons rfl (.cons rfl (.cons rfl (.cons rfl (.cons rfl (.cons rfl (.cons rfl (.cons rfl .nil)))))))))) (by repeat (first | exact .refl | exact subL_left | refine subL_app ?_ | refine .drop ?_ | refine subL_add ?_))
      ·
       have hge_i : rows.length ≤ i := by have h := hc66; simp at h; omega
       obtain rfl : i = rows.length := by omega
       rw [List.take_length] at hre
       refine X_exit ?_
       refine at_then_e ?_
       refine at_then_e ?_
       refine at_block_hit ?_
       refine at_then ?_
       refine X_seq ?_
       refine X_freezeO hO13 encI_len (by decide) (by repeat (first | exact .cons .here .nil | exact split_all | exact split_app | apply split_cons | apply split_skip)) (fun I4 hI4 af4 cf4 ef4 hSt => ?_)
       cases ef4
       have hS := hS.mono hI4
       have hVn := hVn.mono hI4
       have hV := hV.mono hI4
       have hH := hH.mono hI4
       have hDb := hDb.mono hI4
       have hRt := hRt.mono hI4
       have hQ0 := hQ0.mono hI4
       have hre := hre.mono hI4
       have hIc := hIc.trans hI4
       have hB0 := hB0.trans hI4
       have hsn := hSt.len
       obtain ⟨S9, eS, hS9⟩ := which_at (n := q) hz2 (by rw [← hsn]; unfold stL; simp)
       obtain ⟨y, hsy⟩ := hSt.at hS9
       have hyS : y ∈ statesF rows K := sl_mem.1 (List.mem_of_getElem? hsy)
       obtain ⟨hcl1, hcl2⟩ := root_law hr0 hc0 (by omega) hK9 hyS
       obtain ⟨hcc1, hcc2⟩ := column_cost hr0 hc0 hK9
       have hsh := shl_in (n := (rows.length : Int) + 1) ⟨by omega, by omega⟩
       refine X_region ?_
       refine zM ?_
       refine zM ?_
       refine XO_v0 (ev_convI rfl cvt_5_3) rfl rfl rfl ?_
       refine zM ?_
       refine XO_v0 (ev_lenS rfl slt_23) rfl rfl rfl ?_
       refine XO_v0 (ev_rem rfl rfl (fun hg => by omega)) rfl rfl rfl ?_
       rw [eS]
       refine XO_v0 (ev_indexSl rfl rfl slt_23 hSt (fun hg => by first | omega | (simp [conj] at hg; omega))) rfl rfl rfl ?_
       refine XO_v0 (ev_load rfl sct_3 (fun hg => by exact Sl.get0 (k := S9) hSt hsy rfl)) rfl rfl rfl ?_
       refine zA ?_
       refine XO_nil (at_then ?_)
       refine X_cutT [(1, _), (9, _), (11, _), (12, _), (16, _)] (.cons rfl (.cons rfl (.cons rfl (.cons rfl (.cons rfl .nil))))) (fun T L0 E I' loc' => ∃ (v17 : Value) (L17 : Go.Kn.Loc), E = (17, v17) :: T ∧ HLe I4 I' ∧ L17 ++ L12 = loc' ∧ OwnS 3 1 v17 (xs.length + 1) ((xs ++ [(allS ((rows.length + 1 : Nat) : Int))]).flatMap encI) L17) ?_ ?_
       ·
        have hKc23 := HLe.refl I4
        have hD := HLe.refl I4
        refine X_drawC mixed ?_
        refine XD_take 1 rfl (ev_move rfl) (.none rfl) rfl rfl rfl (by kernel_rfl) (by kernel_rfl) (by kernel_rfl) noP_ok hD (by repeat (first | exact .refl | exact subL_nil | refine .keep ?_ | refine .drop ?_ | refine subL_add ?_)) ?_
        refine XD_take 3 rfl (ev_move rfl) (.none rfl) rfl rfl rfl (by kernel_rfl) (by kernel_rfl) (by kernel_rfl) noP_ok hD (by repeat (first | exact .refl | exact subL_nil | refine .keep ?_ | refine .drop ?_ | refine subL_add ?_)) ?_
        refine XD_take 4 rfl (ev_lenS rfl slt_22) (.none rfl) rfl rfl rfl (by kernel_rfl) (by kernel_rfl) (by kernel_rfl) noP_ok hD (by repeat (first | exact .refl | exact subL_nil | refine .keep ?_ | refine .drop ?_ | refine subL_add ?_)) ?_
        refine XD_take 5 rfl (ev_arB rfl rfl rfl (fun hg => by first | omega | (simp [conj] at hg; omega))) (.none rfl) rfl rfl rfl (by kernel_rfl) (by kernel_rfl) (by kernel_rfl) noP_ok hD (by repeat (first | exact .refl | exact subL_nil | refine .keep ?_ | refine .drop ?_ | refine subL_add ?_)) ?_
        refine XD_take 6 rfl (ev_shl rfl rfl (fun hg => by omega)) (.none rfl) rfl rfl rfl (by kernel_rfl) (by kernel_rfl) (by kernel_rfl) noP_ok hD (by repeat (first | exact .refl | exact subL_nil | refine .keep ?_ | refine .drop ?_ | refine subL_add ?_)) ?_
        refine XD_take 7 rfl (ev_arB rfl rfl rfl (fun hg => by first | omega | (simp [conj] at hg; omega))) (.none rfl) rfl rfl rfl (by kernel_rfl) (by kernel_rfl) (by kernel_rfl) noP_ok hD (by repeat (first | exact .refl | exact subL_nil | refine .keep ?_ | refine .drop ?_ | refine subL_add ?_)) ?_
        refine XD_two 0 8 rfl rfl (by kernel_rfl) ?_ ?_
        ·
         refine XO_buildSlice (ps := []) (m := []) elt_23 rfl (.nil) rfl (by simp [encI_len, encH_len]) (by decide) (by decide) rfl rfl (fun b_98 => ?_)
         refine XO_nil ?_
         refine zD hD ?_
         refine XD_two 2 8 rfl rfl (by kernel_rfl) ?_ ?_
         ·
          refine XO_append (v := _) (ys := xs.flatMap encI) (L := [(b_98, _)]) rfl rfl elt_23 OwnS.new (by repeat (first | exact .cons .here .nil | exact split_all | exact split_app | apply split_cons | apply split_skip)) (hS.src encI_len) (one_I _) (by omega) rfl rfl ?_
          intro v5 L5 hO5 _; rw [List.nil_append, Nat.zero_add] at hO5; obtain ⟨va5, vc5, rfl⟩ := valn hO5
          refine XO_nil ?_
          refine zD hD ?_
          refine XD_one 8 rfl (by kernel_rfl) ?_
          refine XO_buildSlice (ps := [(0, _)]) (m := [encI (allS ((rows.length + 1 : Nat) : Int))]) elt_23 rfl (.cons rfl (.nil)) rfl (by simp [encI_len, encH_len]) (by decide) (by decide) rfl rfl (fun b_106 => ?_)
          refine XO_nil ?_
          refine zD hD ?_
          refine XD_one 9 rfl (by kernel_rfl) ?_
          refine XO_append (v := _) (ys := [(allS ((rows.length + 1 : Nat) : Int))].flatMap encI) (L := L5) rfl rfl elt_23 hO5 (by repeat (first | exact .cons .here .nil | exact split_all | exact split_app | apply split_cons | apply split_skip)) ⟨rfl, fun _ => rfl, by repeat (first | exact Cells.here | apply Cells.there | apply Cells.app)⟩ (one_I [(allS ((rows.length + 1 : Nat) : Int))]) (by omega) rfl rfl ?_
          intro v6 L6 hO6 _; rw [← List.flatMap_append] at hO6
          refine XO_nil ?_
          refine zD hD ?_
          refine XD_take 10 rfl (ev_assign rfl) (.none rfl) rfl rfl rfl (by kernel_rfl) (by kernel_rfl) (by kernel_rfl) noP_ok hD (by repeat (first | exact .refl | exact subL_nil | refine .keep ?_ | refine .drop ?_ | refine subL_add ?_)) ?_
          refine XD_done (by kernel_rfl) ?_
          refine at_noP ?_
          exact at_met2 _ _ ⟨_, _, rfl, hKc23, rfl, hO6⟩ (.cons rfl (.cons rfl (.cons rfl (.cons rfl (.cons rfl (.cons rfl .nil)))))) (by repeat (first | exact .refl | exact subL_left | refine subL_app ?_ | refine .drop ?_ | refine subL_add ?_))
         ·
          refine XO_buildSlice (ps := [(0, _)]) (m := [encI (allS ((rows.length + 1 : Nat) : Int))]) elt_23 rfl (.cons rfl (.nil)) rfl (by simp [encI_len, encH_len]) (by decide) (by decide) rfl rfl (fun b_106 => ?_)
          refine XO_nil ?_
          refine zD hD ?_
          refine XD_one 2 rfl (by kernel_rfl) ?_
          refine XO_append (v := _) (ys := xs.flatMap encI) (L := [(b_98, _)]) rfl rfl elt_23 OwnS.new (by repeat (first | exact .cons .here .nil | exact split_all | exact split_app | apply split_cons | apply split_skip)) (hS.src encI_len) (one_I _) (by omega) rfl rfl ?_
          intro v5 L5 hO5 _; rw [List.nil_append, Nat.zero_add] at hO5; obtain ⟨va5, vc5, rfl⟩ := valn hO5
          refine XO_nil ?_
          refine zD hD ?_
          refine XD_one 9 rfl (by kernel_rfl) ?_
          refine XO_append (v := _) (ys := [(allS ((rows.length + 1 : Nat) : Int))].flatMap encI) (L := L5) rfl rfl elt_23 hO5 (by repeat (first | exact .cons .here .nil | exact split_all | exact split_app | apply split_cons | apply split_skip)) ⟨rfl, fun _ => rfl, by repeat (first | exact Cells.here | apply Cells.there | apply Cells.app)⟩ (one_I [(allS ((rows.length + 1 : Nat) : Int))]) (by omega) rfl rfl ?_
          intro v6 L6 hO6 _; rw [← List.flatMap_append] at hO6
          refine XO_nil ?_
          refine zD hD ?_
          refine XD_take 10 rfl (ev_assign rfl) (.none rfl) rfl rfl rfl (by kernel_rfl) (by kernel_rfl) (by kernel_rfl) noP_ok hD (by repeat (first | exact .refl | exact subL_nil | refine .keep ?_ | refine .drop ?_ | refine subL_add ?_)) ?_
          refine XD_done (by kernel_rfl) ?_
          refine at_noP ?_
          exact at_met2 _ _ ⟨_, _, rfl, hKc23, rfl, hO6⟩ (.cons rfl (.cons rfl (.cons rfl (.cons rfl (.cons rfl (.cons rfl .nil)))))) (by repeat (first | exact .refl | exact subL_left | refine subL_app ?_ | refine .drop ?_ | refine subL_add ?_))
        ·
         refine XO_buildSlice (ps := [(0, _)]) (m := [encI (allS ((rows.length + 1 : Nat) : Int))]) elt_23 rfl (.cons rfl (.nil)) rfl (by simp [encI_len, encH_len]) (by decide) (by decide) rfl rfl (fun b_106 => ?_)
         refine XO_nil ?_
         refine zD hD ?_
         refine XD_one 0 rfl (by kernel_rfl) ?_
         refine XO_buildSlice (ps := []) (m := []) elt_23 rfl (.nil) rfl (by simp [encI_len, encH_len]) (by decide) (by decide) rfl rfl (fun b_98 => ?_)
         refine XO_nil ?_
         refine zD hD ?_
         refine XD_one 2 rfl (by kernel_rfl) ?_
         refine XO_append (v := _) (ys := xs.flatMap encI) (L := [(b_98, _)]) rfl rfl elt_23 OwnS.new (by repeat (first | exact .cons .here .nil | exact split_all | exact split_app | apply split_cons | apply split_skip)) (hS.src encI_len) (one_I _) (by omega) rfl rfl ?_
         intro v5 L5 hO5 _; rw [List.nil_append, Nat.zero_add] at hO5; obtain ⟨va5, vc5, rfl⟩ := valn hO5
         refine XO_nil ?_
         refine zD hD ?_
         refine XD_one 9 rfl (by kernel_rfl) ?_
         refine XO_append (v := _) (ys := [(allS ((rows.length + 1 : Nat) : Int))].flatMap encI) (L := L5) rfl rfl elt_23 hO5 (by repeat (first | exact .cons .here .nil | exact split_all | exact split_app | apply split_cons | apply split_skip)) ⟨rfl, fun _ => rfl, by repeat (first | exact Cells.here | apply Cells.there | apply Cells.app)⟩ (one_I [(allS ((rows.length + 1 : Nat) : Int))]) (by omega) rfl rfl ?_
         intro v6 L6 hO6 _; rw [← List.flatMap_append] at hO6
         refine XO_nil ?_
         refine zD hD ?_
         refine XD_take 10 rfl (ev_assign rfl) (.none rfl) rfl rfl rfl (by kernel_rfl) (by kernel_rfl) (by kernel_rfl) noP_ok hD (by repeat (first | exact .refl | exact subL_nil | refine .keep ?_ | refine .drop ?_ | refine subL_add ?_)) ?_
         refine XD_done (by kernel_rfl) ?_
         refine at_noP ?_
         exact at_met2 _ _ ⟨_, _, rfl, hKc23, rfl, hO6⟩ (.cons rfl (.cons rfl (.cons rfl (.cons rfl (.cons rfl (.cons rfl .nil)))))) (by repeat (first | exact .refl | exact subL_left | refine subL_app ?_ | refine .drop ?_ | refine subL_add ?_))
       ·
        rintro E J5 loc' ⟨v17, L17, rfl, hJ23, rfl, hO17⟩
        have hS := hS.mono hJ23
        have hVn := hVn.mono hJ23
        have hV := hV.mono hJ23
        have hH := hH.mono hJ23
        have hDb := hDb.mono hJ23
        have hRt := hRt.mono hJ23
        have hQ0 := hQ0.mono hJ23
        have hre := hre.mono hJ23
        have hSt := hSt.mono hJ23
        have hIc := hIc.trans hJ23
        have hB0 := hB0.trans hJ23
        refine X_seq ?_
        obtain ⟨va17, vc17, rfl⟩ := valn hO17
        refine X_region ?_
        refine zM ?_
        refine zM ?_
        refine XO_callK0 (cap := []) (vs := [_, _]) rfl rfl fun_11 split_all (RetK.ofV fun I' hI' hL' => w_CostN (hS.mono hI') (own_nest hO12 hre hI' (fun b o h => hL' b o (List.mem_append_right _ h))) hn2 (hDb.mono hI')) rfl rfl ?_
        refine zM ?_
        refine XO_v0 (ev_extract rfl rfl) rfl rfl rfl ?_
        refine XO_v0 (ev_extract rfl rfl) rfl rfl rfl ?_
        refine zA ?_
        refine zA ?_
        refine XO_nil (at_then (X_seq (X_region ?_)))
        refine zM ?_
        refine zM ?_
        refine XO_buildSlice (ps := [(0, _)]) (m := [encI y]) elt_23 rfl (.cons rfl (.nil)) rfl (by simp [encI_len, encH_len]) (by decide) (by decide) rfl rfl (fun b_117 => ?_)
        refine XO_freeze (b := b_117) (by repeat (first | exact Take.here | apply Take.there)) (fun I6 hI6 hb6 => ?_)
        have hS := hS.mono hI6
        have hVn := hVn.mono hI6
        have hV := hV.mono hI6
        have hH := hH.mono hI6
        have hDb := hDb.mono hI6
        have hRt := hRt.mono hI6
        have hQ0 := hQ0.mono hI6
        have hre := hre.mono hI6
        have hSt := hSt.mono hI6
        have hIc := hIc.trans hI6
        have hB0 := hB0.trans hI6
        have hRy : Sl I6 1 encI (some ⟨b_117, 0, none⟩) 1 1 [y] := Sl.lit ([y] : List Int) rfl encI_len (show _ = some (Obj.cells (([y] : List Int).flatMap encI).toArray 3 (0, 0)) from hb6)
        refine XO_buildSlice (ps := [(0, _)]) (m := [encH ⟨some ⟨b_117, 0, none⟩, 1, 1⟩]) elt_22 rfl (.cons rfl (.nil)) rfl (by simp [encI_len, encH_len]) (by decide) (by decide) rfl rfl (fun b_118 => ?_)
        refine XO_append (v := _) (ys := [(⟨some ⟨b_117, 0, none⟩, 1, 1⟩ : Hd)].flatMap encH) (L := L12) rfl rfl elt_22 hO12 (by repeat (first | exact .cons .here .nil | exact split_all | exact split_app | apply split_cons | apply split_skip)) ⟨rfl, fun _ => rfl, by repeat (first | exact Cells.here | apply Cells.there | apply Cells.app)⟩ (one_H _) (by omega) rfl rfl ?_
        intro v4 L4 hO4 _; rw [← List.flatMap_append] at hO4; obtain ⟨va4, vc4, rfl⟩ := valn hO4
        refine zM ?_
        refine XO_freezeAll (fun I7 hI7 hall7 => ?_)
        have hS := hS.mono hI7
        have hVn := hVn.mono hI7
        have hV := hV.mono hI7
        have hH := hH.mono hI7
        have hDb := hDb.mono hI7
        have hRt := hRt.mono hI7
        have hQ0 := hQ0.mono hI7
        have hre := hre.mono hI7
        have hSt := hSt.mono hI7
        have hRy := hRy.mono hI7
        have hIc := hIc.trans hI7
        have hB0 := hB0.trans hI7
        have hV2 : SlN I7 va4 (rows.length + 1) vc4 (columnF rows K ++ [[y]]) := own_nest hO4 (RelH.snoc (hd := ⟨some ⟨b_117, 0, none⟩, 1, 1⟩) hre hRy) (HLe.refl _) (fun b o h => hall7 b o (by simp [h]))
        have hAl2 : Sl I7 1 encI va17 (xs.length + 1) vc17 (xs ++ [(allS ((rows.length + 1 : Nat) : Int))]) := own_ints hO17 (fun b o h => hall7 b o (by simp [h]))
        refine XO_callV0 (cap := []) (vs := [_, _]) rfl rfl fun_11 (w_CostN hAl2 hV2 (by simp [columnF]; omega) hDb) rfl rfl ?_
        refine zM ?_
        refine XO_v0 (ev_extract rfl rfl) rfl rfl rfl ?_
        refine XO_v0 (ev_extract rfl rfl) rfl rfl rfl ?_
        refine zA ?_
        refine zA ?_
        refine XO_nil (at_then ?_)
        refine X_seq ?_
        refine X_seq (X_region ?_)
        refine zM ?_
        refine zC ?_
        refine zM ?_
        refine XO_pushF 2 rfl rfl rfl ?_
        refine XO_v1 (ev_move rfl) (.some rfl rfl rfl rfl gbf) rfl rfl rfl ?_
        refine XO_v1 (ev_cmp rfl rfl rfl) (.some rfl rfl rfl rfl gbf) rfl rfl rfl ?_
        refine XO_or0 rfl rfl rfl rfl rfl ?_
        refine XO_nil (at_then ?_)
        refine X_cond rfl (fun hc129 => ?_) (fun hc129 => ?_)
        ·
         rw [hcc1, hcl1] at hc129
         simp at hc129
        ·
         obtain ⟨rhs, hRh9⟩ := id hRt
         have hRh := hRh9.1
         obtain ⟨rx, rv, hrx, hrv, hQr⟩ := hRh9.at hK9
         rw [roots_at hcE hK9] at hrv
         cases hrv
         have hQrl := hQr.len
         have hstl := stE_len (rows := rows) (l := K)
         have hrl : (rootF rows xs K).length ≤ (stE rows K).length := List.length_filter_le _ _
         have hup := root_up (rows := rows) (cl := xs) (l := K)
         refine X_skip ?_
         refine at_then ?_
         refine X_seq (X_region ?_)
         refine zA ?_
         refine XO_nil (at_then ?_)
         refine X_seq ?_
         refine X_seq (X_region ?_)
         refine zM ?_
         refine zM ?_
         refine XO_v0 (ev_indexSl rfl rfl slt_22 hRh (fun hg => by first | omega | (simp [conj] at hg; omega))) rfl rfl rfl ?_
         refine XO_v0 (ev_load rfl sct_23 (fun hg => by exact Sl.get0 (k := K) hRh hrx rfl)) rfl rfl rfl ?_
         refine XO_v0 (ev_lenS rfl slt_23) rfl rfl rfl ?_
         refine zM ?_
         refine XO_nil (at_then ?_)
         refine X_block ?_
         refine X_loopT [(9, _), (11, _), (16, _), (18, _), (20, _), (133, _), (134, _)] (.cons rfl (.cons rfl (.cons rfl (.cons rfl (.cons rfl (.cons rfl (.cons rfl .nil))))))) (fun T L0 mz E I' loc' => ∃ (i : Nat) (f : Bool), mz = rx.n - i ∧ E = (22, .bool f) :: (135, .int .i64 i) :: T ∧ I7 = I' ∧ [] = loc' ∧ i ≤ rx.n ∧ f = ((rootF rows xs K).take i).any (fun x => x == y)) _ _ _ _ ⟨0, false, rfl, rfl, rfl, rfl, Nat.zero_le _, rfl⟩ (.cons rfl (.cons rfl (.cons rfl (.cons rfl (.cons rfl (.cons rfl (.cons rfl (.cons rfl (.cons rfl .nil))))))))) (HLe.refl _) rfl ?_
         rintro mz E I' loc' ⟨i, f, rfl, rfl, rfl, rfl, hi, hf9⟩
         refine X_seq (X_region ?_)
         refine zC ?_
         refine XO_nil (at_then ?_)
         refine X_seq ?_
         refine X_cond rfl (fun hc136 => ?_) (fun hc136 => ?_)
         ·
          have hlt_i : i < rx.n := by have h := hc136; simp at h; omega
          obtain ⟨x, hri⟩ := hQr.at hlt_i
          refine X_skip ?_
          refine at_then ?_
          refine X_seq ?_
          refine X_block ?_
          refine X_seq (X_region ?_)
          refine zM ?_
          refine XO_v0 (ev_indexSl rfl rfl slt_23 hQr (fun hg => by first | omega | (simp [conj] at hg; omega))) rfl rfl rfl ?_
          refine XO_v0 (ev_load rfl sct_3 (fun hg => by exact Sl.get0 (k := i) hQr hri rfl)) rfl rfl rfl ?_
          refine zA ?_
          refine zA ?_
          refine XO_nil (at_then ?_)
          refine X_seq ?_
          refine X_seq (X_region ?_)
          refine zM ?_
          refine zC ?_
          refine zM ?_
          refine XO_pushT 2 rfl rfl rfl ?_
          refine XO_v1 (ev_move rfl) (.some rfl rfl rfl rfl gbt) rfl rfl rfl ?_
          refine XO_v1 (ev_move rfl) (.some rfl rfl rfl rfl gbt) rfl rfl rfl ?_
          refine XO_v1 (ev_indexSl rfl rfl slt_22 hRh (fun hg => by first | omega | (simp [conj] at hg; omega))) (.some rfl rfl rfl rfl gbt) rfl rfl rfl ?_
          refine XO_v1 (ev_load rfl sct_23 (fun hg => by exact Sl.get0 (k := K) hRh hrx rfl)) (.some rfl rfl rfl rfl gbt) rfl rfl rfl ?_
          refine XO_v1 (ev_move rfl) (.some rfl rfl rfl rfl gbt) rfl rfl rfl ?_
          refine XO_v1 (ev_arB rfl rfl rfl (fun hg => by first | omega | (simp [conj] at hg; omega))) (.some rfl rfl rfl rfl gbt) rfl rfl rfl ?_
          refine XO_v1 (ev_indexSl rfl rfl slt_23 hQr (fun hg => by first | omega | (simp [conj] at hg; omega))) (.some rfl rfl rfl rfl gbt) rfl rfl rfl ?_
          refine XO_v1 (ev_load rfl sct_3 (fun hg => by exact Sl.get0 (k := ((i : Int) - 1).toNat) hQr (some_getD (d := 0) rfl (by simp [conj] at hg; omega)) rfl)) (.some rfl rfl rfl rfl gbt) rfl rfl rfl ?_
          refine XO_v1 (ev_move rfl) (.some rfl rfl rfl rfl gbt) rfl rfl rfl ?_
          refine XO_v1 (ev_cmp rfl rfl rfl) (.some rfl rfl rfl rfl gbt) rfl rfl rfl ?_
          refine XO_and0 rfl rfl rfl rfl rfl ?_
          refine XO_nil (at_then ?_)
          refine X_cond rfl (fun hc153 => ?_) (fun hc153 => ?_)
          ·
           have h := hc153; simp only [Bool.and_eq_true, decide_eq_true_eq] at h
           have h2 := up_prev hup hri (by omega)
           omega
          ·
           refine X_skip ?_
           refine at_then ?_
           refine X_region ?_
           refine zM ?_
           refine zM ?_
           refine XO_pushF 1 rfl rfl rfl ?_
           refine XO_v1 (ev_move rfl) (.some rfl rfl rfl rfl gbf) rfl rfl rfl ?_
           refine XO_v1 (ev_move rfl) (.some rfl rfl rfl rfl gbf) rfl rfl rfl ?_
           refine XO_v1 (ev_cmp rfl rfl rfl) (.some rfl rfl rfl rfl gbf) rfl rfl rfl ?_
           refine XO_or0 rfl rfl rfl rfl rfl ?_
           refine zA ?_
           refine XO_nil ?_
           refine at_block_n ?_
           refine at_then ?_
           refine X_region ?_
           refine zB ?_
           refine zM ?_
           refine XO_nil ?_
           exact at_met2 _ _ ⟨rx.n - (i + 1), by omega, i + 1, _, rfl, rfl, rfl, rfl, by omega, by rw [any_take hri, ← hf9]⟩ (.cons rfl (.cons rfl (.cons rfl (.cons rfl (.cons rfl (.cons rfl (.cons rfl (.cons rfl (.cons rfl .nil))))))))) (by repeat (first | exact .refl | exact subL_left | refine subL_app ?_ | refine .drop ?_ | refine subL_add ?_))
         ·
          have hge_i : rx.n ≤ i := by have h := hc136; simp at h; omega
          rw [List.take_of_length_le (by omega)] at hf9
          rw [any_cont] at hf9
          refine X_exit ?_
          refine at_then_e ?_
          refine at_then_e ?_
          refine at_block_hit ?_
          refine at_then ?_
          refine X_seq (X_region ?_)
          refine zM ?_
          refine zM ?_
          refine zM ?_
          refine zC ?_
          refine XO_v0 (ev_boolR rfl rfl und_4) rfl rfl rfl ?_
          refine zA ?_
          refine XO_nil (at_then ?_)
          refine X_ret ?_
          first
          | exact at_ret1 rfl rfl (fun w hw => ⟨by rw [hf9, hcl2]; simp, (hw.mono hIc).drop⟩)
end Go.Proofs.YthcffaheamikgaaDoor
end
section
namespace Go.Kn
open Go Go.ChangeShapes Go.WideShapes Go.ChangeAt Go.RowKit
/-- All that lies in the world is read only. -/
def heapI (W : World) : HMap := fun b => W.heap[b]?
theorem St.start (W : World) : St W (heapI W) (fun _ => none) [] W :=
  ⟨rfl, rfl, rfl, ⟨Nat.le_refl _, Nat.le_refl _⟩, fun _ _ h => h, (fun _ _ h => by cases h), (fun _ _ h => by cases h), fun _ => .inr rfl, (fun _ _ h => by cases h), by simp⟩
theorem St.below {W w : World} {H : HMap} {loc : Loc} (h : St W (heapI W) H loc w) : Below W.heap.size W w :=
  ⟨h.os, h.tape, h.out, h.size.1, fun k hk => by
    have e : W.heap[k]? = some W.heap[k] := Array.getElem?_eq_getElem hk
    rw [h.imm k _ e, e]⟩
theorem RetV.law {P : Program} {f : FuncId} {args : List Value} {W : World} {v : Value} (h : RetV P f args (heapI W) v) : Calls P f args.toArray W fun e w' => e = .returned v ∧ Below W.heap.size W w' :=
  (h W _ W (St.start W)).mono fun _ _ ⟨he, hs⟩ => ⟨he, hs.below⟩
theorem keptBut_below {W w : World} {may : MemPlace → Prop} (h : Below W.heap.size W w) : W.keptBut w may := by
  refine ⟨h.os, h.output, fun i hi => ?_⟩
  rw [h.block i hi]
  rw [Array.getElem?_eq_getElem hi]
  cases W.heap[i] <;> simp
theorem trodAll_stays {H : Type} {enc : TypeId × Value → H} {P : Program} {W W' : World} (hl : laidOutB P = true) (hB : Below W.heap.size W W') (sp : Nat → Bool) : ∀ (ts : List TypeId) (vs : List Value) (ds : List (DataW H)) (ps : List MemPlace), (∀ t ∈ ts, P.readableRec t = true ∧ t < P.types.size) →
    DataW.TrodAll enc P W 0 (fun _ => true) true ts vs ds ps → (∀ x ∈ ps, x.block < W.heap.size ∧ sp x.block = true) → DataW.TrodAll enc P W' 0 sp true ts vs ds ps
  | [], [], [], ps, _, h, _ => h
  | t :: ts, v :: vs, d :: ds, ps, hr, ⟨p, q, h1, h2, e⟩, hlt => by
    subst e
    exact ⟨p, q, WideElems.Trod_stays hl (hr t (List.mem_cons_self ..)).1 (hr t (List.mem_cons_self ..)).2 h1 (fun x hx => hB.same (hlt x (List.mem_append_left _ hx)).1) (fun x hx => (hlt x (List.mem_append_left _ hx)).2),
      trodAll_stays hl hB sp ts vs ds q (fun t ht => hr t (List.mem_cons_of_mem _ ht)) h2 (fun x hx => hlt x (List.mem_append_right _ hx)), rfl⟩
/-- A law's row: it hands back true; the input reads as it did. -/
theorem post_law {H : Type} {enc : TypeId × Value → H} {P : Program} {f : Func} {s : ChangeSpec} {again : Bool} {W W' : World} {args : Array Value} {ds : List (DataW H)} {before : List MemPlace} {tb : TypeId}
    (hl : laidOutB P = true) (hr : f.resultTypes = #[tb]) (hb : P.underlying tb = some .bool) (hv : s.vars = []) (hs : (s.fn H (ds ++ [])) = { results := [.lit (.bool true)], args := ds }) (hrd : ∀ t ∈ f.params.toList, P.readableRec t = true ∧ t < P.types.size)
    (hW : DataW.Whole enc P f.params.toList s.vars false W args.toList ds [] before) (hB : Below W.heap.size W W') : s.post enc P f false true false again W args (.bool true) W' := by
  have hlt : ∀ x ∈ before, x.block < W.heap.size := fun x hx => by simpa using hW.lt x hx
  have hW0 := hW
  obtain ⟨p, q, hA, hV, rfl, hfz, _⟩ := hW
  rw [hv] at hV
  obtain ⟨_, rfl⟩ := trodVars_none hV
  rw [List.append_nil] at hlt hfz hW0
  have hres : ∀ (b : Nat) (sp : Nat → Bool) (hd : Bool), DataW.TrodAll enc P W' b sp hd f.resultTypes.toList ((Value.bool true).resultList f.resultTypes.size) [.lit (.bool true)] [] := fun b sp hd => by
    rw [hr]; exact trodAll_mk1 (shut_bool hb true)
  have hargs : ∀ sp : Nat → Bool, (∀ x ∈ p, sp x.block = true) → DataW.TrodAll enc P W' 0 sp true f.params.toList args.toList ds p := fun sp h => trodAll_stays hl hB sp _ _ _ _ hrd hA (fun x hx => ⟨hlt x hx, h x hx⟩)
  have hnil : ∀ sp : Nat → Bool, DataW.TrodVars enc P W' sp s.vars [] [] := fun sp => by rw [hv]; rfl
  refine ⟨ds, [], p, [], p, [], hW0, ?_, ?_, ?_, keptBut_below hB, fun _ => ?_⟩
  · rw [hs]; exact hres _ _ _
  · rw [hs]; exact hargs _ (fun x hx => by simpa using hlt x hx)
  · rw [hs]; exact hnil _
  · refine ⟨fun j t r ht hr' => ?_, [.lit (.bool true)] ++ ds, [], [] ++ p, ⟨[] ++ p, [], trodAll_append (hargs _ (fun _ _ => rfl)) (hres _ _ _), hnil _, by simp, ?_, fun h => by cases h⟩, fun x hx _ => by simpa using hx⟩
    · rw [hr] at ht hr'
      cases j with
      | zero => simp [Value.resultList] at ht hr'; subst ht; subst hr'; exact okWide_bool_mk hb _
      | succ j => simp at ht
    · intro b off hx
      rw [hB.frozen (hlt _ (by simpa using hx))]
      exact hfz b off (by simpa using hx)
theorem cell_heap {W : World} {b o : Nat} {u : Value} (h : W.cell? ⟨b, o, none⟩ = some u) : Cell (heapI W) [] b o u := by
  unfold World.cell? at h
  split at h
  · rename_i c t fz hb
    simp only [Option.isSome_none, Bool.false_eq_true, if_false] at h
    exact ⟨c, t, fz, .inl hb, h⟩
  · cases h
/-- A slice that came in, as it is read. -/
theorem open_SlT {H : Type} {enc : TypeId × Value → H} {P : Program} {W : World} {t e : TypeId} {size fuel0 : Nat} {cs : List Value} {x0 : DataW H × List MemPlace} {α : Type} (enc' : α → List Value) (ok : α → Prop)
    (ht : P.underlying t = some (.slice e)) (hc : P.cellsOf e = size) (hpos : 0 < size) (hlen : ∀ y, (enc' y).length = size)
    (hel : ∀ fuel cs x, DataW.trod enc P W 0 (fun _ => true) true fuel e cs = some x → ∃ y, ok y ∧ enc' y = cs)
    (hf' : DataW.trod enc P W 0 (fun _ => true) true fuel0 t cs = some x0) : ∃ av n c xs, cs = [.slice av n c] ∧ Sl (heapI W) size enc' av n c xs ∧ (∀ x ∈ xs, ok x) ∧ c ≤ maxLen := by
  rcases Go.Deep.open_slice ht hf' with ⟨e1, _⟩ | ⟨a, len0, cap0, m, n, D, Pl, e1, hb, hl, hm, hmm, _, hx⟩
  · subst e1
    exact ⟨none, 0, 0, [], rfl, .nil, (fun x hx => by cases hx), Nat.zero_le _⟩
  · subst e1
    have hlm : len0 ≤ m := by rw [hmm]; simp; exact hl
    have each : ∀ i, i < len0 → ∃ y, ok y ∧ W.cells? 0 (a.add (i * size)) size = some (enc' y) := fun i hi => by
      obtain ⟨cs', h1, h2⟩ := hx i (by omega)
      obtain ⟨y, hy, e⟩ := hel _ _ _ h2
      rw [hc] at h1
      exact ⟨y, hy, by rw [h1, e]⟩
    have all : ∀ k, k ≤ len0 → ∃ xs : List α, xs.length = k ∧ ∀ i x, xs[i]? = some x → ok x ∧ W.cells? 0 (a.add (i * size)) size = some (enc' x) := by
      intro k
      induction k with
      | zero => intro _; exact ⟨[], rfl, fun i x h => by simp at h⟩
      | succ k ih =>
        intro hk
        obtain ⟨xs, hl', hxs⟩ := ih (by omega)
        obtain ⟨y, hy, hcy⟩ := each k (by omega)
        refine ⟨xs ++ [y], by simp [hl'], fun i x h => ?_⟩
        by_cases hi : i < xs.length
        · rw [List.getElem?_append_left hi] at h; exact hxs i x h
        · rw [List.getElem?_append_right (by omega)] at h
          have : i = k := by have := (List.getElem?_eq_some_iff.1 h).1; simp at this; omega
          subst this
          rw [hl'] at h; simp at h; subst h
          exact ⟨hy, hcy⟩
    obtain ⟨xs, hl', hxs⟩ := all len0 (Nat.le_refl _)
    have add0 : ∀ (b o n : Nat), (⟨b, o, none⟩ : Addr).add n = ⟨b, o + n, none⟩ := fun b o n => by
      unfold Addr.add
      split
      · rename_i e; subst e; rfl
      · rfl
    have hspot : 0 < xs.length → a.spot = none := fun hx => by
      have hx0 : xs[0]? = some xs[0] := List.getElem?_eq_getElem hx
      have hp0 : 0 < (enc' xs[0]).length := by rw [hlen]; exact hpos
      obtain ⟨_, h1, h2⟩ := World.cells?_some (hxs 0 _ hx0).2
      have h3 := h2 0 hpos
      rw [List.getElem?_eq_getElem hp0] at h3
      simpa [Addr.add] using World.cell?_spot h3
    have cellat : ∀ i x, xs[i]? = some x → ∀ j u, (enc' x)[j]? = some u → W.cell? ⟨a.block, a.off + i * size + j, none⟩ = some u := fun i x hx j u hu => by
      obtain ⟨_, h1, h2⟩ := World.cells?_some (hxs i x hx).2
      have hj : j < size := by rw [← hlen x]; exact (List.getElem?_eq_some_iff.1 hu).1
      have h3 := h2 j hj
      rw [hu] at h3
      have hsp := hspot (by have := (List.getElem?_eq_some_iff.1 hx).1; omega)
      obtain ⟨b, o, sp⟩ := a
      simp only at hsp
      subst hsp
      rw [add0, add0] at h3
      exact h3
    refine ⟨some a, len0, cap0, xs, rfl, ⟨hl', hl, fun hn => ?_, fun k x hx j u hu => ?_⟩, fun x hx => ?_, hm⟩
    · have := hspot (by omega)
      obtain ⟨b, o, sp⟩ := a
      simp only at this
      subst this; rfl
    · exact cell_heap (cellat k x hx j u hu)
    · obtain ⟨i, hi⟩ := List.getElem?_of_mem hx
      exact (hxs i x hi).1
theorem open_Sl {H : Type} {enc : TypeId × Value → H} {P : Program} {W : World} {base : Nat} {t e : TypeId} {size : Nat} {v : Value} {d : DataW H} {p : List MemPlace} {α : Type} (enc' : α → List Value) (ok : α → Prop)
    (ht : P.underlying t = some (.slice e)) (hc : P.cellsOf e = size) (hpos : 0 < size) (hlen : ∀ y, (enc' y).length = size)
    (hel : ∀ fuel cs x, DataW.trod enc P W 0 (fun _ => true) true fuel e cs = some x → ∃ y, ok y ∧ enc' y = cs)
    (hv : Value.okWide P W .any base t v) (h : DataW.Trod enc P W 0 (fun _ => true) true t v d p) : ∃ av n c xs, v = .slice av n c ∧ Sl (heapI W) size enc' av n c xs ∧ (∀ x ∈ xs, ok x) ∧ c ≤ maxLen := by
  obtain ⟨a0, len0, cap0, rfl⟩ := okWide_slice ht hv
  obtain ⟨fuel, hf⟩ := h
  obtain ⟨av, n, c, xs, e, h1, h2, h3⟩ := open_SlT enc' ok ht hc hpos hlen hel (cs := [.slice a0 len0 cap0]) (by simpa [Value.cells] using hf)
  cases e
  exact ⟨_, _, _, xs, rfl, h1, h2, h3⟩
/-- A slice of one-cell ints. -/
theorem el_int {H : Type} {enc : TypeId × Value → H} {P : Program} {W : World} {e : TypeId} {k : IntKind} (he : P.underlying e = some (.int k)) (hk : k = .i64) (fuel : Nat) (cs : List Value) (x : DataW H × List MemPlace) (h : DataW.trod enc P W 0 (fun _ => true) true fuel e cs = some x) :
    ∃ y : Int, (-9223372036854775808 ≤ y ∧ y ≤ 9223372036854775807) ∧ [Value.int .i64 y] = cs := by
  subst hk
  obtain ⟨v, hv⟩ : ∃ v, cs = [v] := by
    have := h
    cases fuel with
    | zero => simp [DataW.trod] at this
    | succ m => unfold DataW.trod at this; rw [he] at this; split at this <;> simp_all
  subst hv
  obtain ⟨n, e, _, w⟩ := DataW.trod_int he h
  cases e
  simp only [Lit.wf, Bool.and_eq_true, decide_eq_true_eq] at w
  exact ⟨n, w, rfl⟩
end Go.Kn
end
section
namespace Go.Proofs.YthcffaheamikgaaDoor
open Go Go.Kn Go.Proofs
open Go.ChangeShapes Go.WideShapes Go.ChangeAt Go.RowKit
set_option maxRecDepth 100000
theorem ound_3 : Tryd.prog.underlying 3 = some (.int .i64) := by kernel_rfl
theorem ound_4 : Tryd.prog.underlying 4 = some .bool := by kernel_rfl
theorem ound_5 : Tryd.prog.underlying 5 = some (.int .u8) := by kernel_rfl
theorem open_ints {H : Type} {enc : TypeId × Value → H} {W : World} {base : Nat} {v : Value} {d : DataW H} {p : List MemPlace} (hv : Value.okWide Tryd.prog W .any base 23 v) (h : DataW.Trod enc Tryd.prog W 0 (fun _ => true) true 23 v d p) :
    ∃ av n c xs, v = .slice av n c ∧ Sl (heapI W) 1 encI av n c xs ∧ n ≤ 9223372036854775807 := by
  obtain ⟨av, n, c, xs, e, hS, _, hm⟩ := open_Sl (e := 3) encI (fun _ => True) (by kernel_rfl) (by kernel_rfl) (by decide) encI_len (fun fuel cs x h => by
    obtain ⟨y, _, e⟩ := el_int ound_3 rfl fuel cs x h
    exact ⟨y, trivial, e⟩) hv h
  exact ⟨av, n, c, xs, e, hS, by have := hS.cap; simp only [maxLen] at hm; omega⟩
theorem heads {I : HMap} : ∀ (hs : List Hd), (∀ h ∈ hs, ∃ v, Sl I 1 encI h.a h.n h.c v) → ∃ vss, RelH I hs vss
  | [], _ => ⟨[], RelH.nil⟩
  | x :: hs, H => by
    obtain ⟨vss, hl, hv⟩ := heads hs fun h hh => H h (List.mem_cons_of_mem _ hh)
    obtain ⟨v0, h0⟩ := H x (List.mem_cons_self ..)
    refine ⟨v0 :: vss, by simp [hl], fun k h v a b => ?_⟩
    cases k with
    | zero => cases a; cases b; exact h0
    | succ k => exact hv k h v a b
theorem open_nest {H : Type} {enc : TypeId × Value → H} {W : World} {base : Nat} {v : Value} {d : DataW H} {p : List MemPlace} (hv : Value.okWide Tryd.prog W .any base 22 v) (h : DataW.Trod enc Tryd.prog W 0 (fun _ => true) true 22 v d p) :
    ∃ av n c vss, v = .slice av n c ∧ SlN (heapI W) av n c vss ∧ n ≤ 9223372036854775807 := by
  obtain ⟨av, n, c, hs, e, hS, hok, hm⟩ := open_Sl (e := 23) encH (fun h => ∃ v, Sl (heapI W) 1 encI h.a h.n h.c v) (by kernel_rfl) (by kernel_rfl) (by decide) encH_len (fun fuel cs x h => by
    obtain ⟨a, m, q, ys, e, hT, _⟩ := open_SlT (t := 23) (e := 3) encI (fun _ => True) (by kernel_rfl) (by kernel_rfl) (by decide) encI_len (fun fuel cs x h => by
      obtain ⟨y, _, e⟩ := el_int ound_3 rfl fuel cs x h
      exact ⟨y, trivial, e⟩) h
    exact ⟨⟨a, m, q⟩, ⟨ys, hT⟩, e.symm⟩) hv h
  obtain ⟨vss, hr⟩ := heads hs hok
  exact ⟨av, n, c, vss, e, ⟨hs, hS, hr⟩, by have := hS.cap; simp only [maxLen] at hm; omega⟩
/-- What the tie lists. -/
def laid2 : List (String × DataW Unit) := [("math/bits.deBruijn32tab", Rows.laid_math_bits_deBruijn32tab), ("math/bits.deBruijn64tab", Rows.laid_math_bits_deBruijn64tab)]
theorem gDeb : Tryd.prog.globalNamed "math/bits.deBruijn64tab" = some 1 := by kernel_rfl
theorem tDeb : (Tryd.prog.globals[1]?).map (·.type) = some 150 := by kernel_rfl
theorem deb_is : (Rows.laid_math_bits_deBruijn64tab : DataW Unit) = Lib.tabData .u8 debT := by rfl
theorem deb_of {W : World} (h : laidMetH Tryd.prog laid2 W) : DebOK (heapI W) := by
  rw [MakeChecks.laidMetH_plain _ _ _ (by kernel_rfl)] at h
  obtain ⟨ps, ⟨g0, t0, cs0, f0, p0, q0, hg0, ht0, hv0, hd0, ⟨g1, t1, cs1, f1, p1, q1, hg1, ht1, hv1, hd1, _, _⟩, _⟩, _, _⟩ := h
  obtain rfl := Option.some.inj (gDeb.symm.trans hg1)
  obtain rfl := Option.some.inj (tDeb.symm.trans ht1)
  rw [deb_is] at hd1
  have hcs := Lib.cells_of_tab (n := 64) (e := 5) (by kernel_rfl) ound_5 (by kernel_rfl) (by kernel_rfl) hd1
  intro i hi
  refine cell_heap ?_
  have := World.var?_cell hg1 hv1 i
  rw [this]
  have hl : i < debT.length := hi
  have e : cs1 = (debT.map fun z => Value.int .u8 z).toArray := Array.ext' hcs
  rw [e]
  simp [List.getD, hl]
/-- The door's own heap meets the condition. -/
theorem door_met (os : Os) (args : Array Value) : laidMetH Tryd.prog laid2 ((World.doorLaid Tryd.prog 400 os).forCall (fun _ _ => 0) ⟨#[], args, []⟩).memory :=
  laidMetH_of_parts3 (fuel := 8) (laidMet_of_run' 8 (by kernel_rfl) (by kernel_rfl)) (by kernel_rfl) (by kernel_rfl)
end Go.Proofs.YthcffaheamikgaaDoor
end
section
namespace Go.Proofs.YthcffaheamikgaaDoor
open Go Go.Kn Go.Proofs
open Go.ChangeShapes Go.WideShapes Go.ChangeAt Go.RowKit
theorem own : ownKnob Tryd.prog.godebug = none := by kernel_rfl
theorem laidOut : laidOutB Tryd.prog = true := by kernel_rfl
set_option maxRecDepth 100000 in
theorem editionRoot_lifted (os : Os) (started : os.Started) (H : Type) (enc : TypeId × Value → H) :
    ReturnsInHanded {} Tryd.checked os 3 .any (fun w args => (Rows.editionRootSpec.pre enc Tryd.prog Tryd.f3 [] false w args ∧ laidMetH Tryd.prog laid2 w) ∧ sizedMet enc Tryd.prog Tryd.f3 (OpenSpec.ofChange Rows.editionRootSpec) false w args)
      (Rows.editionRootSpec.post enc Tryd.prog Tryd.f3 false true false false) := by
  refine returnsInHanded_of_change_and (C := Tryd.checked) (X := fun w _ => laidMetH Tryd.prog laid2 w) (fun _ _ _ hh h => h.of_heap hh) own started (by kernel_rfl) Tryd.func3
    (ChangeSpec.witness_shaped (enc := enc) (C := Tryd.checked) (os := os) (X := fun w _ => laidMetH Tryd.prog laid2 w) false (World.doorLaid Tryd.prog 400 os) #[.slice none 0 0, .slice none 0 0, .int .u8 0, .int .u8 0] 8 rfl (World.shaped_of_RefB (by kernel_rfl) (by kernel_rfl)) (by kernel_rfl) (by kernel_rfl) (by kernel_rfl) (door_met os _)) ?_
  intro W base args ds gs before hval0 hW _ _ hL _
  have hval : ∀ (j : Nat) t v, Tryd.f3.params[j]? = some t → args[j]? = some v → Value.okWide Tryd.prog W .any base t v := hval0
  have hW' := hW
  obtain ⟨p, q, hA0, hV, rfl, hfz, hnd⟩ := hW
  have hA : DataW.TrodAll enc Tryd.prog W 0 (fun _ => true) true Tryd.f3.params.toList args.toList ds p := hA0
  rw [Tryd.params3] at hA hval
  obtain ⟨v0, vs1, d0, ds1, p0, q1, ea, rfl, rfl, h0, hA⟩ := trodAll_cons hA
  obtain ⟨v1, vs2, d1, ds2, p1, q2, rfl, rfl, rfl, h1, hA⟩ := trodAll_cons hA
  obtain ⟨v2, vs3, d2, ds3, p2, q3, rfl, rfl, rfl, h2, hA⟩ := trodAll_cons hA
  obtain ⟨v3, vs4, d3, ds4, p3, q4, rfl, rfl, rfl, h3, hA⟩ := trodAll_cons hA
  obtain ⟨rfl, rfl, rfl⟩ := trodAll_nil hA
  have ea' : args = #[v0, v1, v2, v3] := by rw [← Array.toArray_toList (xs := args), ea]
  subst ea'
  obtain ⟨rfl, rfl⟩ := trodVars_none hV
  have hDb := deb_of hL
  obtain ⟨bv, n2, c2, rows, rfl, hV, hbg⟩ := open_nest (hval 0 22 v0 rfl rfl) h0
  obtain ⟨av, n, c, xs, rfl, hS, hbn⟩ := open_ints (hval 1 23 v1 rfl rfl) h1
  obtain ⟨z, rfl, _, _, wfz⟩ := open_int ound_5 (hval 2 5 v2 rfl rfl) h2
  have hz : 0 ≤ z ∧ z ≤ 255 := by have h := wfz; simp only [Lit.wf, Bool.and_eq_true, decide_eq_true_eq] at h; exact h
  obtain ⟨z2, rfl, _, _, wfz2⟩ := open_int ound_5 (hval 3 5 v3 rfl rfl) h3
  have hz2 : 0 ≤ z2 ∧ z2 ≤ 255 := by have h := wfz2; simp only [Lit.wf, Bool.and_eq_true, decide_eq_true_eq] at h; exact h
  refine (RetV.law (w_rootLaw hS hV hDb z z2 hz hz2)).mono fun e W' ⟨he, hB⟩ => ?_
  subst he
  exact ⟨_, rfl, post_law laidOut (by kernel_rfl) ound_4 rfl rfl (by rw [Tryd.params3]; simp only [List.mem_cons, List.not_mem_nil, or_false, forall_eq_or_imp, forall_eq]; exact ⟨⟨by kernel_rfl, of_decide_eq_true (by kernel_rfl)⟩, ⟨by kernel_rfl, of_decide_eq_true (by kernel_rfl)⟩, ⟨by kernel_rfl, of_decide_eq_true (by kernel_rfl)⟩, ⟨by kernel_rfl, of_decide_eq_true (by kernel_rfl)⟩⟩) hW' hB⟩
theorem editionRoot_row : Rows.EditionRootSaid :=
  OpenClaim.holds_of_wide 3 Tryd.f3 rfl rfl rfl rfl rfl rfl rfl ⟨rfl, rfl, rfl, rfl, rfl⟩ rfl rfl rfl rfl rfl (by kernel_rfl) Tryd.func3 (by kernel_rfl)
    (of_decide_eq_true (by kernel_rfl)) (by unfold Func.isWrapper; first | (rw [if_pos (by decide +kernel)]; kernel_rfl) | (rw [if_neg (by decide +kernel)]; exact ⟨rfl, rfl⟩))
    (fun os started H enc _ => editionRoot_lifted os started H enc)
theorem editionRoot_holds : Rows.EditionRootCardSaid :=
  Claim7.holds_tied_plain_at .later [] [.data, .data] true (true, "919b8fa584992d8ae3c594542a3c1b39c1f5bee942388cade4cc2b467c5275fd") false
    editionRoot_row (fun _ h => by cases h) (by kernel_rfl) (fun _ h => by cases h) editionRoot_row_tie rfl ⟨rfl, rfl⟩ (by kernel_rfl) rfl
    (fun f fn hf hfn => by
      obtain rfl : f = 3 := Option.some.inj ((show Tryd.prog.funcNamed "kinesphere/kinespherelaw43.EditionRoot" = some 3 by kernel_rfl).symm.trans hf) |>.symm
      obtain rfl : fn = Tryd.f3 := (Option.some.inj (Tryd.func3.symm.trans hfn)).symm
      exact ⟨by kernel_rfl, fun j t ht => by
        rw [Tryd.params3] at ht
        have hm : t ∈ [22, 23, 5, 5] := by simpa using Array.mem_of_getElem? ht
        have hall : ([22, 23, 5, 5].all fun u => !Tryd.prog.wantsStandIn u) = true := by kernel_rfl
        exact (show Tryd.prog.wantsStandIn t = false by simpa using List.all_eq_true.1 hall t hm)⟩)
    (by kernel_rfl)
#print axioms editionRoot_holds
end Go.Proofs.YthcffaheamikgaaDoor
end
