/- editionRootsSpec_holds, part E of the proof: what its theorems say holds without further conditions. -/
import Derived.Test.YthcffaheamikgaaGreatDoorERD
section
namespace Go.Proofs.YthcffaheamikgaaGreatDoor
open Go Go.Kn Go.Proofs
theorem elt_88 : ElT Tryz.prog 88 94 2 16 := .of (by kernel_rfl)
theorem fun_30 : Fun Tryz.prog 30 := .of Tryz.func30 (by kernel_rfl) (by kernel_rfl)
theorem szt_114 : SzT Tryz.prog 114 1 := .of (by kernel_rfl)
theorem szt_65 : SzT Tryz.prog 65 1 := .of (by kernel_rfl)
theorem zt_114 : ZeroT Tryz.prog 114 (.map none) := .of (by kernel_rfl)
theorem zt_65 : ZeroT Tryz.prog 65 .nilFunc := .of (by kernel_rfl)
theorem w_lsPA {I : HMap} {ba bb bk bs r : Nat} {av bv : Option Addr} {n c n2 c2 : Nat} {xs ys : List Int} (hE : (LsE I 76 ba bb bk bs r av bv n c n2 c2 xs ys)) (hn : n ≤ 100000) (hn2 : n2 ≤ 100000) (i k : Nat) (m1 : List ((Int × Int) × Int)) (h : i < xs.length ∧ k < ys.length) (hm : MOK xs ys m1) : RetM Tryz.prog 76 ([.int .i64 ((i : Int) + 1), .int .i64 ((k : Int) + 1)] ++ [capP ba, capP bb, capP bk, capP bs]) I [(r, mapO encK2 eivI m1)] (fun v I' L' => ∃ A, isLC xs ys (i + 1) (k + 1) A ∧ v = .int .i64 A ∧ I' = I ∧ ∃ m', MOK xs ys m' ∧ L' = [(r, mapO encK2 eivI m')]) := w_lsP hE hn hn2 (xs.length + ys.length) (i + 1) (k + 1) m1 (by omega) (by omega) (by omega) hm
theorem w_lsPB {I : HMap} {ba bb bk bs r : Nat} {av bv : Option Addr} {n c n2 c2 : Nat} {xs ys : List Int} (hE : (LsE I 76 ba bb bk bs r av bv n c n2 c2 xs ys)) (hn : n ≤ 100000) (hn2 : n2 ≤ 100000) (i k : Nat) (m1 : List ((Int × Int) × Int)) (h : i < xs.length ∧ k ≤ ys.length) (hm : MOK xs ys m1) : RetM Tryz.prog 76 ([.int .i64 ((i : Int) + 1), .int .i64 ((k : Int))] ++ [capP ba, capP bb, capP bk, capP bs]) I [(r, mapO encK2 eivI m1)] (fun v I' L' => ∃ A, isLC xs ys (i + 1) (k) A ∧ v = .int .i64 A ∧ I' = I ∧ ∃ m', MOK xs ys m' ∧ L' = [(r, mapO encK2 eivI m')]) := w_lsP hE hn hn2 (xs.length + ys.length) (i + 1) (k) m1 (by omega) (by omega) (by omega) hm
theorem w_lsPZ {I : HMap} {ba bb bk bs r : Nat} {av bv : Option Addr} {n c n2 c2 : Nat} {xs ys : List Int} (hE : (LsE I 76 ba bb bk bs r av bv n c n2 c2 xs ys)) (hn : n ≤ 100000) (hn2 : n2 ≤ 100000) (i k : Nat) (m1 : List ((Int × Int) × Int)) (h : True) (hm : MOK xs ys m1) : RetM Tryz.prog 76 ([.int .i64 (0), .int .i64 (0)] ++ [capP ba, capP bb, capP bk, capP bs]) I [(r, mapO encK2 eivI m1)] (fun v I' L' => ∃ A, isLC xs ys (0) (0) A ∧ v = .int .i64 A ∧ I' = I ∧ ∃ m', MOK xs ys m' ∧ L' = [(r, mapO encK2 eivI m')]) := w_lsP hE hn hn2 (xs.length + ys.length) (0) (0) m1 (by omega) (by omega) (by omega) hm
set_option maxHeartbeats 1600000 in
theorem w_Pair {I : HMap} {av : Option Addr} {n c : Nat} {xs : List Int} (hA : Sl I 1 encI av n c xs) {bv : Option Addr} {n2 c2 : Nat} {ys : List Int} (hB : Sl I 1 encI bv n2 c2 ys) (hnn : n ≤ 1000000) (hnn2 : n2 ≤ 1000000) : RetM Tryz.prog 43 [.slice av n c, .slice bv n2 c2] I [] (PairQ xs ys) := by
 intro g H w hw
 refine enter Tryz.func43 rfl Tryz.ntmps43 rfl hw ?_
 have hIc := HLe.refl I
 have hlA := hA.len
 subst hlA
 have hlB := hB.len
 subst hlB
 refine X_seq (X_region ?_)
 refine XO_box rfl rfl rfl (fun b_2 => ?_)
 refine XO_box rfl rfl rfl (fun b_3 => ?_)
 refine zA ?_
 refine zA ?_
 refine zA ?_
 refine XO_nil (at_then ?_)
 refine X_seq ?_
 refine X_seq ?_
 refine X_freezeAll (fun I1 hI1 hall => ?_)
 have hA := hA.mono hI1
 have hB := hB.mono hI1
 have hIc := hIc.trans hI1
 have hB2 : Cell I1 [] b_2 0 (.slice av xs.length c) := .imm (hall _ _ (by repeat (first | exact List.mem_cons_self .. | apply List.mem_cons_of_mem))) rfl
 have hB3 : Cell I1 [] b_3 0 (.slice bv ys.length c2) := .imm (hall _ _ (by repeat (first | exact List.mem_cons_self .. | apply List.mem_cons_of_mem))) rfl
 refine X_region ?_
 refine XO_v0 (ev_load rfl sct_23 (fun hg => by exact hB2.any)) rfl rfl rfl ?_
 refine XO_v0 (ev_lenS rfl slt_23) rfl rfl rfl ?_
 refine zC ?_
 refine zM ?_
 refine XO_pushF 3 rfl rfl rfl ?_
 refine XO_v1 (ev_load rfl sct_23 (fun hg => by exact hB3.any)) (.some rfl rfl rfl rfl gbf) rfl rfl rfl ?_
 refine XO_v1 (ev_lenS rfl slt_23) (.some rfl rfl rfl rfl gbf) rfl rfl rfl ?_
 refine XO_v1 (ev_cmp rfl rfl rfl) (.some rfl rfl rfl rfl gbf) rfl rfl rfl ?_
 refine XO_or0 rfl rfl rfl rfl rfl ?_
 refine XO_nil (at_then ?_)
 refine X_cond rfl (fun hc25 => ?_) (fun hc25 => ?_)
 ·
  have hlong : xs.length > 64 ∨ ys.length > 64 := by have h := hc25; simp at h; omega
  refine X_seq (X_region ?_)
  refine zA ?_
  refine zA ?_
  refine zA ?_
  refine XO_nil (at_then ?_)
  refine X_ret ?_
  refine at_then_r ?_
  first
  | exact at_ret3 rfl rfl rfl rfl (fun w hw => ⟨_, _, [], rfl, hIc, hw.drop, rfl, _, none, 0, by rw [pairE_1 hlong, pairR_bad (by rw [pairE_1 hlong]; decide)]; rfl, by rw [pairR_bad (by rw [pairE_1 hlong]; decide)]; exact .nil⟩)
 ·
  have hlong : ¬ (xs.length > 64 ∨ ys.length > 64) := by have h := hc25; simp at h; omega
  refine X_skip ?_
  refine at_then ?_
  refine X_seq ?_
  refine X_seq (X_region ?_)
  refine XO_v0 (ev_load rfl sct_23 (fun hg => by exact hB2.any)) rfl rfl rfl ?_
  refine XO_v0 (ev_load rfl sct_23 (fun hg => by exact hB3.any)) rfl rfl rfl ?_
  refine XO_buildSlice (ps := [(0, _), (1, _)]) (m := [encH ⟨av, xs.length, c⟩, encH ⟨bv, ys.length, c2⟩]) elt_22 rfl (.cons rfl (.cons rfl (.nil))) rfl (by simp [encI_len, encH_len, encQ_len]) (by decide) (by decide) rfl rfl (fun b_28 => ?_)
  refine XO_v0 (ev_lenS rfl slt_22) rfl rfl rfl ?_
  refine zM ?_
  refine XO_nil ?_
  refine X_freezeAll (fun I2 hI2 hall => ?_)
  have hA := hA.mono hI2
  have hB := hB.mono hI2
  have hB2 := hB2.mono hI2
  have hB3 := hB3.mono hI2
  have hIc := hIc.trans hI2
  have hAB : Sl I2 1 encH (some ⟨b_28, 0, none⟩) 2 2 ([⟨av, xs.length, c⟩, ⟨bv, ys.length, c2⟩] : List Hd) := Sl.lit _ rfl encH_len (show _ = some (Obj.cells (([⟨av, xs.length, c⟩, ⟨bv, ys.length, c2⟩] : List Hd).flatMap encH).toArray 23 (0, 0)) from (hall _ _ (by repeat (first | exact List.mem_cons_self .. | apply List.mem_cons_of_mem))))
  refine at_then ?_
  refine X_block ?_
  refine X_loopT [(2, _), (3, _), (28, _), (29, _)] (.cons rfl (.cons rfl (.cons rfl (.cons rfl .nil)))) (fun T L0 mz E I' loc' => ∃ (z : Nat), mz = 2 - z ∧ E = (5, .slice none 0 0) :: (30, .int .i64 z) :: T ∧ I2 = I' ∧ [] = loc' ∧ z ≤ 2 ∧ ([xs, ys].take z).any (fun l => l.any badC) = false) _ _ _ _ ⟨0, rfl, rfl, rfl, rfl, Nat.zero_le _, rfl⟩ (.cons rfl (.cons rfl (.cons rfl (.cons rfl (.cons rfl (.cons rfl .nil)))))) (HLe.refl _) rfl ?_
  rintro mz E I' loc' ⟨z, rfl, rfl, rfl, rfl, hz, hno⟩
  refine X_seq (X_region ?_)
  refine zC ?_
  refine XO_nil (at_then ?_)
  refine X_seq ?_
  refine X_cond rfl (fun hc31 => ?_) (fun hc31 => ?_)
  ·
   have hlt_z : z < 2 := by have h := hc31; simp at h; omega
   obtain ⟨hd, zs, hhd, hzs, hZ, hz2⟩ := two_lists hA hB hlt_z
   refine X_skip ?_
   refine at_then ?_
   refine X_seq ?_
   refine X_block ?_
   refine X_seq (X_region ?_)
   refine XO_v0 (ev_indexSl rfl rfl slt_22 hAB (fun hg => by first | omega | (simp [conj] at hg; omega))) rfl rfl rfl ?_
   refine XO_v0 (ev_load rfl sct_23 (fun hg => by exact Sl.get0 hAB hhd rfl)) rfl rfl rfl ?_
   refine zA ?_
   refine XO_nil (at_then (X_seq (X_region ?_)))
   refine zM ?_
   refine XO_v0 (ev_lenS rfl slt_23) rfl rfl rfl ?_
   refine zM ?_
   refine XO_nil (at_then ?_)
   refine X_block ?_
   refine X_loopT [(2, _), (3, _), (28, _), (29, _), (30, _), (34, _), (35, _)] (.cons rfl (.cons rfl (.cons rfl (.cons rfl (.cons rfl (.cons rfl (.cons rfl .nil))))))) (fun T L0 mz E I' loc' => ∃ (j : Nat), mz = hd.n - j ∧ E = (5, .slice none 0 0) :: (36, .int .i64 j) :: T ∧ I2 = I' ∧ [] = loc' ∧ j ≤ hd.n ∧ (zs.take j).any badC = false) _ _ _ _ ⟨0, rfl, rfl, rfl, rfl, Nat.zero_le _, rfl⟩ (.cons rfl (.cons rfl (.cons rfl (.cons rfl (.cons rfl (.cons rfl (.cons rfl (.cons rfl (.cons rfl .nil))))))))) (HLe.refl _) rfl ?_
   rintro mz E I' loc' ⟨j, rfl, rfl, rfl, rfl, hj, hzb⟩
   refine X_seq (X_region ?_)
   refine zC ?_
   refine XO_nil (at_then ?_)
   refine X_seq ?_
   refine X_cond rfl (fun hc37 => ?_) (fun hc37 => ?_)
   ·
    have hlt_j : j < hd.n := by have h := hc37; simp at h; omega
    obtain ⟨cc, hz⟩ := hZ.at hlt_j
    refine X_skip ?_
    refine at_then ?_
    refine X_seq ?_
    refine X_block ?_
    refine X_seq (X_region ?_)
    refine XO_v0 (ev_indexSl rfl rfl slt_23 hZ (fun hg => by first | omega | (simp [conj] at hg; omega))) rfl rfl rfl ?_
    refine XO_v0 (ev_load rfl sct_3 (fun hg => by exact Sl.get0 hZ hz rfl)) rfl rfl rfl ?_
    refine zA ?_
    refine XO_nil (at_then (X_seq (X_region ?_)))
    refine zM ?_
    refine XO_callV0 (cap := []) (vs := [_]) rfl rfl fun_30 (w_Sign _ _) rfl rfl ?_
    refine zM ?_
    refine XO_v0 (ev_extract rfl rfl) rfl rfl rfl ?_
    refine XO_v0 (ev_extract rfl rfl) rfl rfl rfl ?_
    refine XO_alloc zt_48 rfl rfl (fun b_11 => ?_)
    refine XO_storeA rfl rfl szt_48 rfl rfl rfl rfl (by repeat (first | exact Upd.here | apply Upd.there | apply upd_app)) ?_
    refine zA ?_
    refine XO_nil (at_then (X_seq (X_region ?_)))
    refine zM ?_
    refine zC ?_
    refine zM ?_
    refine XO_pushT 2 rfl rfl rfl ?_
    refine XO_v1 (ev_move rfl) (.some rfl rfl rfl rfl gbt) rfl rfl rfl ?_
    refine XO_v1 (ev_cmp rfl rfl rfl) (.some rfl rfl rfl rfl gbt) rfl rfl rfl ?_
    refine XO_and0 rfl rfl rfl rfl rfl ?_
    refine XO_nil (at_then ?_)
    refine X_cond rfl (fun hc50 => ?_) (fun hc50 => ?_)
    ·
     have hbc : badC cc = true := hc50
     have hyes : (xs.any badC || ys.any badC) = true := by have h := any_yes (p := fun l : List Int => l.any badC) hzs (any_yes hz hbc); simpa using h
     refine X_seq (X_region ?_)
     refine zA ?_
     refine zA ?_
     refine zA ?_
     refine XO_nil (at_then ?_)
     refine X_ret ?_
     refine at_block_r ?_
     refine at_then_r ?_
     refine at_then_r ?_
     refine at_block_r ?_
     refine at_block_r ?_
     refine at_then_r ?_
     refine at_then_r ?_
     refine at_block_r ?_
     refine at_then_r ?_
     first
     | exact at_ret3 rfl rfl rfl rfl (fun w hw => ⟨_, _, [], rfl, hIc, hw.drop, rfl, _, none, 0, by rw [pairE_2 hlong hyes, pairR_bad (by rw [pairE_2 hlong hyes]; decide)]; rfl, by rw [pairR_bad (by rw [pairE_2 hlong hyes]; decide)]; exact .nil⟩)
    ·
     have hbc : badC cc = false := hc50
     refine X_skip ?_
     refine at_block_n ?_
     refine at_then ?_
     refine X_region ?_
     refine zB ?_
     refine zM ?_
     refine XO_nil ?_
     exact at_met2 _ _ ⟨hd.n - (j + 1), by omega, j + 1, rfl, rfl, rfl, rfl, by omega, any_no hz hzb hbc⟩ (.cons rfl (.cons rfl (.cons rfl (.cons rfl (.cons rfl (.cons rfl (.cons rfl (.cons rfl (.cons rfl .nil))))))))) (by repeat (first | exact .refl | exact subL_left | refine subL_app ?_ | refine .drop ?_ | refine subL_add ?_))
   ·
    have hge_j : hd.n ≤ j := by have h := hc37; simp at h; omega
    rw [take_all hZ.len hge_j] at hzb
    refine X_exit ?_
    refine at_then_e ?_
    refine at_then_e ?_
    refine at_block_hit ?_
    refine at_block_n ?_
    refine at_then ?_
    refine X_region ?_
    refine zB ?_
    refine zM ?_
    refine XO_nil ?_
    exact at_met2 _ _ ⟨2 - (z + 1), by omega, z + 1, rfl, rfl, rfl, rfl, by omega, any_no hzs hno hzb⟩ (.cons rfl (.cons rfl (.cons rfl (.cons rfl (.cons rfl (.cons rfl .nil)))))) (by repeat (first | exact .refl | exact subL_left | refine subL_app ?_ | refine .drop ?_ | refine subL_add ?_))
  ·
   have hge_z : 2 ≤ z := by have h := hc31; simp at h; omega
   rw [List.take_of_length_le (by simpa using hge_z)] at hno
   have hno2 : (xs.any badC || ys.any badC) = false := by simpa using hno
   refine X_exit ?_
   refine at_then_e ?_
   refine at_then_e ?_
   refine at_block_hit ?_
   refine at_then ?_
   refine X_seq (X_region ?_)
   refine XO_makeMap rfl rfl (fun r_53 => ?_)
   refine XO_alloc zt_114 rfl rfl (fun b_13 => ?_)
   refine zS szt_114 ?_
   refine XO_nil (at_then (X_seq (X_region ?_)))
   refine XO_alloc zt_65 rfl rfl (fun b_14 => ?_)
   refine XO_nil (at_then (X_seq (X_region ?_)))
   refine XO_v0 (ev_makeFunc (us := []) (vs := [_, _, _, _]) rfl rfl) rfl rfl rfl ?_
   refine zS szt_65 ?_
   refine XO_nil (at_then ?_)
   refine X_seq ?_
   refine X_seq ?_
   refine X_freeze (b := b_14) (by repeat (first | exact Take.here | apply Take.there)) (fun I5 hI5 hb5 => ?_)
   have hA := hA.mono hI5
   have hB := hB.mono hI5
   have hB2 := hB2.mono hI5
   have hB3 := hB3.mono hI5
   have hAB := hAB.mono hI5
   have hIc := hIc.trans hI5
   have hC14 : Cell I5 [] b_14 0 (.func (.func 76) #[] #[capP b_2, capP b_3, capP b_13, capP b_14]) := .imm hb5 rfl
   refine X_freeze (b := b_13) (by repeat (first | exact Take.here | apply Take.there)) (fun I6 hI6 hb6 => ?_)
   have hA := hA.mono hI6
   have hB := hB.mono hI6
   have hB2 := hB2.mono hI6
   have hB3 := hB3.mono hI6
   have hAB := hAB.mono hI6
   have hC14 := hC14.mono hI6
   have hIc := hIc.trans hI6
   have hC13 : Cell I6 [] b_13 0 (.map (some r_53)) := .imm hb6 rfl
   have hLE : LsE I6 76 b_2 b_3 b_13 b_14 r_53 av bv xs.length c ys.length c2 xs ys := ⟨hB2, hB3, hC13, hC14, hA, hB⟩
   refine X_region ?_
   refine zA ?_
   refine zA ?_
   refine XO_nil (at_then ?_)
   refine X_block ?_
   refine X_loopT [(2, _), (3, _), (14, _)] (.cons rfl (.cons rfl (.cons rfl .nil))) (fun T L0 mz E I' loc' => ∃ (i k : Nat) (m : List ((Int × Int) × Int)) (pre : List (Int × Int)) (v5 : Value) (q : Nat) (L : Go.Kn.Loc), mz = xs.length - i + (ys.length - k) ∧ E = (5, v5) :: (15, .int .i64 i) :: (16, .int .i64 k) :: T ∧ HLe I6 I' ∧ L ++ [(r_53, mapO encK2 eivI m)] = loc' ∧ i ≤ xs.length ∧ k ≤ ys.length ∧ MOK xs ys m ∧ PaQ xs ys pre i k ∧ OwnS 94 2 v5 q (pre.flatMap encQ) L ∧ q ≤ i + k) _ _ _ _ ⟨0, 0, [], [], _, 0, [], rfl, rfl, HLe.refl _, rfl, Nat.zero_le _, Nat.zero_le _, .nil, .start, OwnS.nil, Nat.le_refl _⟩ (.cons rfl (.cons rfl (.cons rfl (.cons rfl (.cons rfl (.cons rfl .nil)))))) (HLe.refl _) rfl ?_
   rintro mz E J7 loc' ⟨i, k, m, pre, v5, q, L, rfl, rfl, hJ, rfl, hi, hk, hm, hpq, hO, hq⟩
   have hA := hA.mono hJ
   have hB := hB.mono hJ
   have hB2 := hB2.mono hJ
   have hB3 := hB3.mono hJ
   have hAB := hAB.mono hJ
   have hC14 := hC14.mono hJ
   have hC13 := hC13.mono hJ
   have hLE := hLE.mono hJ
   have hIc := hIc.trans hJ
   have hB4 := hJ
   refine X_seq ?_
   refine X_seq (X_region ?_)
   refine zM ?_
   refine XO_v0 (ev_load rfl sct_23 (fun hg => by exact hB2.any)) rfl rfl rfl ?_
   refine XO_v0 (ev_lenS rfl slt_23) rfl rfl rfl ?_
   refine zC ?_
   refine zM ?_
   refine XO_pushF 4 rfl rfl rfl ?_
   refine XO_v1 (ev_move rfl) (.some rfl rfl rfl rfl gbf) rfl rfl rfl ?_
   refine XO_v1 (ev_load rfl sct_23 (fun hg => by exact hB3.any)) (.some rfl rfl rfl rfl gbf) rfl rfl rfl ?_
   refine XO_v1 (ev_lenS rfl slt_23) (.some rfl rfl rfl rfl gbf) rfl rfl rfl ?_
   refine XO_v1 (ev_cmp rfl rfl rfl) (.some rfl rfl rfl rfl gbf) rfl rfl rfl ?_
   refine XO_or0 rfl rfl rfl rfl rfl ?_
   refine XO_nil (at_then ?_)
   refine X_cond rfl (fun hc64 => ?_) (fun hc64 => ?_)
   ·
    have hor : i < xs.length ∨ k < ys.length := by have h := hc64; simp at h; omega
    refine X_skip ?_
    refine at_then ?_
    refine X_block ?_
    refine X_seq (X_region ?_)
    refine XO_v0 (ev_load rfl sct_65 (fun hg => by exact hLE.se.any)) rfl rfl rfl ?_
    refine zM ?_
    refine zM ?_
    refine XO_callM (cap := [capP b_2, capP b_3, capP b_13, capP b_14]) (vs := [_, _]) rfl rfl fun_76 (by repeat (first | exact .cons .here .nil | exact split_all | exact split_app | apply split_cons | apply split_skip)) (w_lsP hLE (by omega) (by omega) (xs.length + ys.length) i k m (by omega) hi hk hm) rfl rfl ?_
    rintro vv8 I8 L8 hI8 ⟨VV, hLV, rfl, rfl, m1, hm1, rfl⟩
    have hA := hA.mono hI8
    have hB := hB.mono hI8
    have hB2 := hB2.mono hI8
    have hB3 := hB3.mono hI8
    have hAB := hAB.mono hI8
    have hC14 := hC14.mono hI8
    have hC13 := hC13.mono hI8
    have hLE := hLE.mono hI8
    have hLE := hLE.mono hI8
    have hIc := hIc.trans hI8
    have hB4 := hB4.trans hI8
    have hbV := hLV.inn
    refine zA ?_
    refine XO_nil (at_then ?_)
    refine X_block ?_
    refine X_seq ?_
    obtain ⟨hd1, hd2, h5, h6⟩ | ⟨hd1, hd2, h5, h6⟩ | ⟨hd1, hd2, h5, h6⟩ := lt_three hor
    ·
     obtain ⟨x, hx⟩ := hLE.hA.at h5
     obtain ⟨y, hy⟩ := hLE.hB.at h6
     have hbn := besN_in x y
     have hD := HLe.refl I8
     refine X_noP ?_
     refine X_drawS I8 [] mixed ?_
     refine XD_take 0 rfl (ev_move rfl) (.none rfl) rfl rfl rfl (by kernel_rfl) (by kernel_rfl) (by kernel_rfl) noP_ok hD (by repeat (first | exact .refl | exact subL_nil | refine .keep ?_ | refine .drop ?_ | refine subL_add ?_)) ?_
     refine XD_take 1 rfl (ev_load rfl sct_23 (fun hg => by exact hB2.any)) (.none rfl) rfl rfl rfl (by kernel_rfl) (by kernel_rfl) (by kernel_rfl) noP_ok hD (by repeat (first | exact .refl | exact subL_nil | refine .keep ?_ | refine .drop ?_ | refine subL_add ?_)) ?_
     refine XD_take 2 rfl (ev_lenS rfl slt_23) (.none rfl) rfl rfl rfl (by kernel_rfl) (by kernel_rfl) (by kernel_rfl) noP_ok hD (by repeat (first | exact .refl | exact subL_nil | refine .keep ?_ | refine .drop ?_ | refine subL_add ?_)) ?_
     refine XD_take 3 rfl (ev_cmp rfl rfl rfl) (.none rfl) rfl rfl rfl (by kernel_rfl) (by kernel_rfl) (by kernel_rfl) noP_ok hD (by repeat (first | exact .refl | exact subL_nil | refine .keep ?_ | refine .drop ?_ | refine subL_add ?_)) ?_
     rw [hd1]
     refine XD_take 4 rfl (ev_move rfl) (.none rfl) rfl rfl rfl (by kernel_rfl) (by kernel_rfl) (by kernel_rfl) noP_ok hD (by repeat (first | exact .refl | exact subL_nil | refine .keep ?_ | refine .drop ?_ | refine subL_add ?_)) ?_
     refine XD_takeW 5 rfl rfl rfl (dj := 81) rfl (ev_move rfl) rfl (by kernel_rfl) (by kernel_rfl) (by kernel_rfl) noP_ok hD (by repeat (first | exact .refl | exact subL_nil | refine .keep ?_ | refine .drop ?_ | refine subL_add ?_)) ?_
     refine XD_takeW 6 rfl rfl rfl (dj := 81) rfl (ev_load rfl sct_23 (fun hg => by exact hB3.any)) rfl (by kernel_rfl) (by kernel_rfl) (by kernel_rfl) noP_ok hD (by repeat (first | exact .refl | exact subL_nil | refine .keep ?_ | refine .drop ?_ | refine subL_add ?_)) ?_
     refine XD_takeW 7 rfl rfl rfl (dj := 81) rfl (ev_lenS rfl slt_23) rfl (by kernel_rfl) (by kernel_rfl) (by kernel_rfl) noP_ok hD (by repeat (first | exact .refl | exact subL_nil | refine .keep ?_ | refine .drop ?_ | refine subL_add ?_)) ?_
     refine XD_takeW 8 rfl rfl rfl (dj := 81) rfl (ev_cmp rfl rfl rfl) rfl (by kernel_rfl) (by kernel_rfl) (by kernel_rfl) noP_ok hD (by repeat (first | exact .refl | exact subL_nil | refine .keep ?_ | refine .drop ?_ | refine subL_add ?_)) ?_
     rw [hd2]
     refine XD_take 9 rfl (ev_pickb rfl rfl rfl) (.none rfl) rfl rfl rfl (by kernel_rfl) (by kernel_rfl) (by kernel_rfl) noP_ok hD (by repeat (first | exact .refl | exact subL_nil | refine .keep ?_ | refine .drop ?_ | refine subL_add ?_)) ?_
     refine XD_take 10 rfl (ev_move rfl) (.none rfl) rfl rfl rfl (by kernel_rfl) (by kernel_rfl) (by kernel_rfl) noP_ok hD (by repeat (first | exact .refl | exact subL_nil | refine .keep ?_ | refine .drop ?_ | refine subL_add ?_)) ?_
     refine XD_takeW 11 rfl rfl rfl (dj := 87) rfl (ev_move rfl) rfl (by kernel_rfl) (by kernel_rfl) (by kernel_rfl) noP_ok hD (by repeat (first | exact .refl | exact subL_nil | refine .keep ?_ | refine .drop ?_ | refine subL_add ?_)) ?_
     refine XD_takeW 12 rfl rfl rfl (dj := 87) rfl (ev_load rfl sct_23 (fun hg => by exact hB2.any)) rfl (by kernel_rfl) (by kernel_rfl) (by kernel_rfl) noP_ok hD (by repeat (first | exact .refl | exact subL_nil | refine .keep ?_ | refine .drop ?_ | refine subL_add ?_)) ?_
     refine XD_takeW 13 rfl rfl rfl (dj := 87) rfl (ev_move rfl) rfl (by kernel_rfl) (by kernel_rfl) (by kernel_rfl) noP_ok hD (by repeat (first | exact .refl | exact subL_nil | refine .keep ?_ | refine .drop ?_ | refine subL_add ?_)) ?_
     refine XD_takeW 14 rfl rfl rfl (dj := 87) rfl (ev_indexSl rfl rfl slt_23 hLE.hA (fun hg => by first | omega | (simp [conj] at hg; omega))) rfl (by kernel_rfl) (by kernel_rfl) (by kernel_rfl) noP_ok hD (by repeat (first | exact .refl | exact subL_nil | refine .keep ?_ | refine .drop ?_ | refine subL_add ?_)) ?_
     refine XD_takeW 15 rfl rfl rfl (dj := 87) rfl (ev_load rfl sct_3 (fun hg => by exact Sl.get0 hLE.hA hx rfl)) rfl (by kernel_rfl) (by kernel_rfl) (by kernel_rfl) noP_ok hD (by repeat (first | exact .refl | exact subL_nil | refine .keep ?_ | refine .drop ?_ | refine subL_add ?_)) ?_
     refine XD_takeW 16 rfl rfl rfl (dj := 87) rfl (ev_load rfl sct_23 (fun hg => by exact hB3.any)) rfl (by kernel_rfl) (by kernel_rfl) (by kernel_rfl) noP_ok hD (by repeat (first | exact .refl | exact subL_nil | refine .keep ?_ | refine .drop ?_ | refine subL_add ?_)) ?_
     refine XD_takeW 17 rfl rfl rfl (dj := 87) rfl (ev_move rfl) rfl (by kernel_rfl) (by kernel_rfl) (by kernel_rfl) noP_ok hD (by repeat (first | exact .refl | exact subL_nil | refine .keep ?_ | refine .drop ?_ | refine subL_add ?_)) ?_
     refine XD_takeW 18 rfl rfl rfl (dj := 87) rfl (ev_indexSl rfl rfl slt_23 hLE.hB (fun hg => by first | omega | (simp [conj] at hg; omega))) rfl (by kernel_rfl) (by kernel_rfl) (by kernel_rfl) noP_ok hD (by repeat (first | exact .refl | exact subL_nil | refine .keep ?_ | refine .drop ?_ | refine subL_add ?_)) ?_
     refine XD_takeW 19 rfl rfl rfl (dj := 87) rfl (ev_load rfl sct_3 (fun hg => by exact Sl.get0 hLE.hB hy rfl)) rfl (by kernel_rfl) (by kernel_rfl) (by kernel_rfl) noP_ok hD (by repeat (first | exact .refl | exact subL_nil | refine .keep ?_ | refine .drop ?_ | refine subL_add ?_)) ?_
     refine XD_takeW 21 rfl rfl rfl (dj := 87) rfl (ev_load rfl sct_65 (fun hg => by exact hLE.se.any)) rfl (by kernel_rfl) (by kernel_rfl) (by kernel_rfl) noP_ok hD (by repeat (first | exact .refl | exact subL_nil | refine .keep ?_ | refine .drop ?_ | refine subL_add ?_)) ?_
     refine XD_takeW 22 rfl rfl rfl (dj := 87) rfl (ev_move rfl) rfl (by kernel_rfl) (by kernel_rfl) (by kernel_rfl) noP_ok hD (by repeat (first | exact .refl | exact subL_nil | refine .keep ?_ | refine .drop ?_ | refine subL_add ?_)) ?_
     refine XD_takeW 23 rfl rfl rfl (dj := 87) rfl (ev_arB rfl rfl rfl (fun hg => by first | omega | (simp [conj] at hg; omega))) rfl (by kernel_rfl) (by kernel_rfl) (by kernel_rfl) noP_ok hD (by repeat (first | exact .refl | exact subL_nil | refine .keep ?_ | refine .drop ?_ | refine subL_add ?_)) ?_
     refine XD_takeW 24 rfl rfl rfl (dj := 87) rfl (ev_move rfl) rfl (by kernel_rfl) (by kernel_rfl) (by kernel_rfl) noP_ok hD (by repeat (first | exact .refl | exact subL_nil | refine .keep ?_ | refine .drop ?_ | refine subL_add ?_)) ?_
     refine XD_takeW 25 rfl rfl rfl (dj := 87) rfl (ev_arB rfl rfl rfl (fun hg => by first | omega | (simp [conj] at hg; omega))) rfl (by kernel_rfl) (by kernel_rfl) (by kernel_rfl) noP_ok hD (by repeat (first | exact .refl | exact subL_nil | refine .keep ?_ | refine .drop ?_ | refine subL_add ?_)) ?_
     refine XD_one 20 rfl (by kernel_rfl) ?_
     refine XO_want (dj := 87) rfl rfl rfl ?_
     refine XO_callV0 (cap := []) (vs := [_, _]) rfl rfl fun_77 (w_beside _ _ _) rfl rfl ?_
     refine XO_nil ?_
     refine zD hD ?_
     refine XD_one 26 rfl (by kernel_rfl) ?_
     refine XO_want (dj := 87) rfl rfl rfl ?_
     refine XO_callM (cap := [capP b_2, capP b_3, capP b_13, capP b_14]) (vs := [_, _]) rfl rfl fun_76 (by repeat (first | exact .cons .here .nil | exact split_all | exact split_app | apply split_cons | apply split_skip)) (w_lsPA hLE (by omega) (by omega) i k m1 (by omega) hm1) rfl rfl ?_
     rintro vv9 I9 L9 hI9 ⟨VA, hLA, rfl, rfl, m2, hm2, rfl⟩
     have hA := hA.mono hI9
     have hB := hB.mono hI9
     have hB2 := hB2.mono hI9
     have hB3 := hB3.mono hI9
     have hAB := hAB.mono hI9
     have hC14 := hC14.mono hI9
     have hC13 := hC13.mono hI9
     have hLE := hLE.mono hI9
     have hLE := hLE.mono hI9
     have hIc := hIc.trans hI9
     have hB4 := hB4.trans hI9
     have hD := hD.trans hI9
     have hbA := hLA.inn
     refine XO_nil ?_
     refine zD hD ?_
     refine XD_takeW 27 rfl rfl rfl (dj := 87) rfl (ev_arB rfl rfl rfl (fun hg => by first | omega | (simp [conj] at hg; omega))) rfl (by kernel_rfl) (by kernel_rfl) (by kernel_rfl) noP_ok hD (by repeat (first | exact .refl | exact subL_nil | refine .keep ?_ | refine .drop ?_ | refine subL_add ?_)) ?_
     refine XD_takeW 28 rfl rfl rfl (dj := 87) rfl (ev_cmp rfl rfl rfl) rfl (by kernel_rfl) (by kernel_rfl) (by kernel_rfl) noP_ok hD (by repeat (first | exact .refl | exact subL_nil | refine .keep ?_ | refine .drop ?_ | refine subL_add ?_)) ?_
     refine XD_take 29 rfl (ev_pickb rfl rfl rfl) (.none rfl) rfl rfl rfl (by kernel_rfl) (by kernel_rfl) (by kernel_rfl) noP_ok hD (by repeat (first | exact .refl | exact subL_nil | refine .keep ?_ | refine .drop ?_ | refine subL_add ?_)) ?_
     refine XD_take 30 rfl (ev_assign rfl) (.none rfl) rfl rfl rfl (by kernel_rfl) (by kernel_rfl) (by kernel_rfl) noP_ok hD (by repeat (first | exact .refl | exact subL_nil | refine .keep ?_ | refine .drop ?_ | refine subL_add ?_)) ?_
     refine XD_done (by kernel_rfl) ?_
     refine at_noP ?_
     refine at_then ?_
     refine X_cond rfl (fun hc76 => ?_) (fun hc76 => ?_)
     ·
      have hbo := bothP_of (t := true) hx hy hLV hLA (by simpa using hc76)
      refine X_seq (X_region ?_)
      refine zM ?_
      refine zB ?_
      refine zM ?_
      refine zB ?_
      refine zA ?_
      refine zA ?_
      refine XO_nil (at_then ?_)
      refine X_region ?_
      refine zM ?_
      refine zM ?_
      refine zM ?_
      refine XO_v0 (ev_buildArr (ps := [(0, _), (1, _)]) [_, _] art_94 zt_94 rfl rfl) rfl rfl rfl ?_
      refine XO_buildSlice (ps := [(0, _)]) (m := [encQ ((i : Int) + 1, (k : Int) + 1)]) elt_88 rfl (.cons rfl (.nil)) rfl (by simp [encI_len, encH_len, encQ_len]) (by decide) (by decide) rfl rfl (fun b_115 => ?_)
      refine XO_append (v := _) (ys := [((i : Int) + 1, (k : Int) + 1)].flatMap encQ) (L := L) rfl rfl elt_88 hO (by repeat (first | exact .cons .here .nil | exact split_all | exact split_app | apply split_cons | apply split_skip)) ⟨rfl, fun _ => rfl, by repeat (first | exact Cells.here | apply Cells.there | apply Cells.app)⟩ (one_Q [((i : Int) + 1, (k : Int) + 1)]) (by omega) rfl rfl ?_
      intro v9 L9 hO9 _; rw [← List.flatMap_append] at hO9
      refine zA ?_
      refine XO_nil ?_
      refine at_block_n ?_
      refine at_block_n ?_
      exact at_met2 _ _ ⟨xs.length - (i + 1) + (ys.length - (k + 1)), by omega, i + 1, k + 1, _, _, _, _, _, rfl, rfl, hB4, rfl, by omega, by omega, hm2, hpq.both hbo, hO9, by omega⟩ (.cons rfl (.cons rfl (.cons rfl (.cons rfl (.cons rfl (.cons rfl .nil)))))) (by repeat (first | exact .refl | exact subL_left | refine subL_app ?_ | refine .drop ?_ | refine subL_add ?_))
     ·
      have hbo := bothP_of (t := false) hx hy hLV hLA (by simpa using hc76)
      refine X_seq (X_region ?_)
      refine zM ?_
      refine XO_v0 (ev_load rfl sct_23 (fun hg => by exact hB2.any)) rfl rfl rfl ?_
      refine XO_v0 (ev_lenS rfl slt_23) rfl rfl rfl ?_
      refine zC ?_
      rw [hd1]
      refine zM ?_
      refine XO_want (dj := 122) rfl rfl rfl ?_
      refine zM ?_
      refine XO_want (dj := 122) rfl rfl rfl ?_
      refine XO_v0 (ev_load rfl sct_65 (fun hg => by exact hLE.se.any)) rfl rfl rfl ?_
      refine XO_want (dj := 122) rfl rfl rfl ?_
      refine zM ?_
      refine XO_want (dj := 122) rfl rfl rfl ?_
      refine zB ?_
      refine XO_want (dj := 122) rfl rfl rfl ?_
      refine zM ?_
      refine XO_want (dj := 122) rfl rfl rfl ?_
      refine XO_callM (cap := [capP b_2, capP b_3, capP b_13, capP b_14]) (vs := [_, _]) rfl rfl fun_76 (by repeat (first | exact .cons .here .nil | exact split_all | exact split_app | apply split_cons | apply split_skip)) (w_lsPB hLE (by omega) (by omega) i k m2 (by omega) hm2) rfl rfl ?_
      rintro vv10 I10 L10 hI10 ⟨VB, hLB, rfl, rfl, m3, hm3, rfl⟩
      have hA := hA.mono hI10
      have hB := hB.mono hI10
      have hB2 := hB2.mono hI10
      have hB3 := hB3.mono hI10
      have hAB := hAB.mono hI10
      have hC14 := hC14.mono hI10
      have hC13 := hC13.mono hI10
      have hLE := hLE.mono hI10
      have hLE := hLE.mono hI10
      have hIc := hIc.trans hI10
      have hB4 := hB4.trans hI10
      have hbB := hLB.inn
      refine XO_want (dj := 122) rfl rfl rfl ?_
      refine zB ?_
      refine XO_want (dj := 122) rfl rfl rfl ?_
      refine zC ?_
      refine XO_v0 (ev_pickb rfl rfl rfl) rfl rfl rfl ?_
      refine zA ?_
      refine XO_nil (at_then ?_)
      refine X_cond rfl (fun hc117 => ?_) (fun hc117 => ?_)
      ·
       have hon := oneP_of (t := true) h5 hLV hLB (by simpa using hc117)
       refine X_seq (X_region ?_)
       refine zM ?_
       refine zB ?_
       refine zA ?_
       refine XO_nil (at_then ?_)
       refine X_region ?_
       refine zM ?_
       refine zM ?_
       refine XO_v0 (ev_buildArr (ps := [(0, _), (1, _)]) [_, _] art_94 zt_94 rfl rfl) rfl rfl rfl ?_
       refine XO_buildSlice (ps := [(0, _)]) (m := [encQ ((i : Int) + 1, (0 : Int))]) elt_88 rfl (.cons rfl (.nil)) rfl (by simp [encI_len, encH_len, encQ_len]) (by decide) (by decide) rfl rfl (fun b_137 => ?_)
       refine XO_append (v := _) (ys := [((i : Int) + 1, (0 : Int))].flatMap encQ) (L := L) rfl rfl elt_88 hO (by repeat (first | exact .cons .here .nil | exact split_all | exact split_app | apply split_cons | apply split_skip)) ⟨rfl, fun _ => rfl, by repeat (first | exact Cells.here | apply Cells.there | apply Cells.app)⟩ (one_Q [((i : Int) + 1, (0 : Int))]) (by omega) rfl rfl ?_
       intro v9 L9 hO9 _; rw [← List.flatMap_append] at hO9
       refine zA ?_
       refine XO_nil ?_
       refine at_block_n ?_
       refine at_block_n ?_
       exact at_met2 _ _ ⟨xs.length - (i + 1) + (ys.length - (k)), by omega, i + 1, k, _, _, _, _, _, rfl, rfl, hB4, rfl, by omega, by omega, hm3, hpq.one hbo hon, hO9, by omega⟩ (.cons rfl (.cons rfl (.cons rfl (.cons rfl (.cons rfl (.cons rfl .nil)))))) (by repeat (first | exact .refl | exact subL_left | refine subL_app ?_ | refine .drop ?_ | refine subL_add ?_))
      ·
       have hon := oneP_of (t := false) h5 hLV hLB (by simpa using hc117)
       refine X_seq (X_region ?_)
       refine zM ?_
       refine zB ?_
       refine zA ?_
       refine XO_nil (at_then ?_)
       refine X_region ?_
       refine zM ?_
       refine zM ?_
       refine XO_v0 (ev_buildArr (ps := [(0, _), (1, _)]) [_, _] art_94 zt_94 rfl rfl) rfl rfl rfl ?_
       refine XO_buildSlice (ps := [(0, _)]) (m := [encQ ((0 : Int), (k : Int) + 1)]) elt_88 rfl (.cons rfl (.nil)) rfl (by simp [encI_len, encH_len, encQ_len]) (by decide) (by decide) rfl rfl (fun b_74 => ?_)
       refine XO_append (v := _) (ys := [((0 : Int), (k : Int) + 1)].flatMap encQ) (L := L) rfl rfl elt_88 hO (by repeat (first | exact .cons .here .nil | exact split_all | exact split_app | apply split_cons | apply split_skip)) ⟨rfl, fun _ => rfl, by repeat (first | exact Cells.here | apply Cells.there | apply Cells.app)⟩ (one_Q [((0 : Int), (k : Int) + 1)]) (by omega) rfl rfl ?_
       intro v9 L9 hO9 _; rw [← List.flatMap_append] at hO9
       refine zA ?_
       refine XO_nil ?_
       refine at_block_n ?_
       refine at_block_n ?_
       exact at_met2 _ _ ⟨xs.length - (i) + (ys.length - (k + 1)), by omega, i, k + 1, _, _, _, _, _, rfl, rfl, hB4, rfl, by omega, by omega, hm3, hpq.two h6 hbo hon, hO9, by omega⟩ (.cons rfl (.cons rfl (.cons rfl (.cons rfl (.cons rfl (.cons rfl .nil)))))) (by repeat (first | exact .refl | exact subL_left | refine subL_app ?_ | refine .drop ?_ | refine subL_add ?_))
    ·
     have hD := HLe.refl I8
     refine X_noP ?_
     refine X_drawS I8 [] mixed ?_
     refine XD_take 0 rfl (ev_move rfl) (.none rfl) rfl rfl rfl (by kernel_rfl) (by kernel_rfl) (by kernel_rfl) noP_ok hD (by repeat (first | exact .refl | exact subL_nil | refine .keep ?_ | refine .drop ?_ | refine subL_add ?_)) ?_
     refine XD_take 1 rfl (ev_load rfl sct_23 (fun hg => by exact hB2.any)) (.none rfl) rfl rfl rfl (by kernel_rfl) (by kernel_rfl) (by kernel_rfl) noP_ok hD (by repeat (first | exact .refl | exact subL_nil | refine .keep ?_ | refine .drop ?_ | refine subL_add ?_)) ?_
     refine XD_take 2 rfl (ev_lenS rfl slt_23) (.none rfl) rfl rfl rfl (by kernel_rfl) (by kernel_rfl) (by kernel_rfl) noP_ok hD (by repeat (first | exact .refl | exact subL_nil | refine .keep ?_ | refine .drop ?_ | refine subL_add ?_)) ?_
     refine XD_take 3 rfl (ev_cmp rfl rfl rfl) (.none rfl) rfl rfl rfl (by kernel_rfl) (by kernel_rfl) (by kernel_rfl) noP_ok hD (by repeat (first | exact .refl | exact subL_nil | refine .keep ?_ | refine .drop ?_ | refine subL_add ?_)) ?_
     rw [hd1]
     refine XD_take 4 rfl (ev_move rfl) (.none rfl) rfl rfl rfl (by kernel_rfl) (by kernel_rfl) (by kernel_rfl) noP_ok hD (by repeat (first | exact .refl | exact subL_nil | refine .keep ?_ | refine .drop ?_ | refine subL_add ?_)) ?_
     refine XD_takeW 5 rfl rfl rfl (dj := 81) rfl (ev_move rfl) rfl (by kernel_rfl) (by kernel_rfl) (by kernel_rfl) noP_ok hD (by repeat (first | exact .refl | exact subL_nil | refine .keep ?_ | refine .drop ?_ | refine subL_add ?_)) ?_
     refine XD_takeW 6 rfl rfl rfl (dj := 81) rfl (ev_load rfl sct_23 (fun hg => by exact hB3.any)) rfl (by kernel_rfl) (by kernel_rfl) (by kernel_rfl) noP_ok hD (by repeat (first | exact .refl | exact subL_nil | refine .keep ?_ | refine .drop ?_ | refine subL_add ?_)) ?_
     refine XD_takeW 7 rfl rfl rfl (dj := 81) rfl (ev_lenS rfl slt_23) rfl (by kernel_rfl) (by kernel_rfl) (by kernel_rfl) noP_ok hD (by repeat (first | exact .refl | exact subL_nil | refine .keep ?_ | refine .drop ?_ | refine subL_add ?_)) ?_
     refine XD_takeW 8 rfl rfl rfl (dj := 81) rfl (ev_cmp rfl rfl rfl) rfl (by kernel_rfl) (by kernel_rfl) (by kernel_rfl) noP_ok hD (by repeat (first | exact .refl | exact subL_nil | refine .keep ?_ | refine .drop ?_ | refine subL_add ?_)) ?_
     rw [hd2]
     refine XD_take 9 rfl (ev_pickb rfl rfl rfl) (.none rfl) rfl rfl rfl (by kernel_rfl) (by kernel_rfl) (by kernel_rfl) noP_ok hD (by repeat (first | exact .refl | exact subL_nil | refine .keep ?_ | refine .drop ?_ | refine subL_add ?_)) ?_
     refine XD_take 10 rfl (ev_move rfl) (.none rfl) rfl rfl rfl (by kernel_rfl) (by kernel_rfl) (by kernel_rfl) noP_ok hD (by repeat (first | exact .refl | exact subL_nil | refine .keep ?_ | refine .drop ?_ | refine subL_add ?_)) ?_
     refine XD_skipW 11 rfl rfl rfl (dj := 87) rfl rfl (by intro c e; cases e) rfl (by kernel_rfl) (by kernel_rfl) (by kernel_rfl) noP_ok hD (by repeat (first | exact .refl | exact subL_nil | refine .keep ?_ | refine .drop ?_ | refine subL_add ?_)) ?_
     refine XD_skipW 12 rfl rfl rfl (dj := 87) rfl rfl (by intro c e; cases e) rfl (by kernel_rfl) (by kernel_rfl) (by kernel_rfl) noP_ok hD (by repeat (first | exact .refl | exact subL_nil | refine .keep ?_ | refine .drop ?_ | refine subL_add ?_)) ?_
     refine XD_skipW 13 rfl rfl rfl (dj := 87) rfl rfl (by intro c e; cases e) rfl (by kernel_rfl) (by kernel_rfl) (by kernel_rfl) noP_ok hD (by repeat (first | exact .refl | exact subL_nil | refine .keep ?_ | refine .drop ?_ | refine subL_add ?_)) ?_
     refine XD_skipW 14 rfl rfl rfl (dj := 87) rfl rfl (by intro c e; cases e) rfl (by kernel_rfl) (by kernel_rfl) (by kernel_rfl) noP_ok hD (by repeat (first | exact .refl | exact subL_nil | refine .keep ?_ | refine .drop ?_ | refine subL_add ?_)) ?_
     refine XD_skipW 15 rfl rfl rfl (dj := 87) rfl rfl (by intro c e; cases e) rfl (by kernel_rfl) (by kernel_rfl) (by kernel_rfl) noP_ok hD (by repeat (first | exact .refl | exact subL_nil | refine .keep ?_ | refine .drop ?_ | refine subL_add ?_)) ?_
     refine XD_skipW 16 rfl rfl rfl (dj := 87) rfl rfl (by intro c e; cases e) rfl (by kernel_rfl) (by kernel_rfl) (by kernel_rfl) noP_ok hD (by repeat (first | exact .refl | exact subL_nil | refine .keep ?_ | refine .drop ?_ | refine subL_add ?_)) ?_
     refine XD_skipW 17 rfl rfl rfl (dj := 87) rfl rfl (by intro c e; cases e) rfl (by kernel_rfl) (by kernel_rfl) (by kernel_rfl) noP_ok hD (by repeat (first | exact .refl | exact subL_nil | refine .keep ?_ | refine .drop ?_ | refine subL_add ?_)) ?_
     refine XD_skipW 18 rfl rfl rfl (dj := 87) rfl rfl (by intro c e; cases e) rfl (by kernel_rfl) (by kernel_rfl) (by kernel_rfl) noP_ok hD (by repeat (first | exact .refl | exact subL_nil | refine .keep ?_ | refine .drop ?_ | refine subL_add ?_)) ?_
     refine XD_skipW 19 rfl rfl rfl (dj := 87) rfl rfl (by intro c e; cases e) rfl (by kernel_rfl) (by kernel_rfl) (by kernel_rfl) noP_ok hD (by repeat (first | exact .refl | exact subL_nil | refine .keep ?_ | refine .drop ?_ | refine subL_add ?_)) ?_
     refine XD_skipW 20 rfl rfl rfl (dj := 87) rfl rfl (by intro c e; cases e) rfl (by kernel_rfl) (by kernel_rfl) (by kernel_rfl) noP_ok hD (by repeat (first | exact .refl | exact subL_nil | refine .keep ?_ | refine .drop ?_ | refine subL_add ?_)) ?_
     refine XD_skipW 21 rfl rfl rfl (dj := 87) rfl rfl (by intro c e; cases e) rfl (by kernel_rfl) (by kernel_rfl) (by kernel_rfl) noP_ok hD (by repeat (first | exact .refl | exact subL_nil | refine .keep ?_ | refine .drop ?_ | refine subL_add ?_)) ?_
     refine XD_skipW 22 rfl rfl rfl (dj := 87) rfl rfl (by intro c e; cases e) rfl (by kernel_rfl) (by kernel_rfl) (by kernel_rfl) noP_ok hD (by repeat (first | exact .refl | exact subL_nil | refine .keep ?_ | refine .drop ?_ | refine subL_add ?_)) ?_
     refine XD_skipW 23 rfl rfl rfl (dj := 87) rfl rfl (by intro c e; cases e) rfl (by kernel_rfl) (by kernel_rfl) (by kernel_rfl) noP_ok hD (by repeat (first | exact .refl | exact subL_nil | refine .keep ?_ | refine .drop ?_ | refine subL_add ?_)) ?_
     refine XD_skipW 24 rfl rfl rfl (dj := 87) rfl rfl (by intro c e; cases e) rfl (by kernel_rfl) (by kernel_rfl) (by kernel_rfl) noP_ok hD (by repeat (first | exact .refl | exact subL_nil | refine .keep ?_ | refine .drop ?_ | refine subL_add ?_)) ?_
     refine XD_skipW 25 rfl rfl rfl (dj := 87) rfl rfl (by intro c e; cases e) rfl (by kernel_rfl) (by kernel_rfl) (by kernel_rfl) noP_ok hD (by repeat (first | exact .refl | exact subL_nil | refine .keep ?_ | refine .drop ?_ | refine subL_add ?_)) ?_
     refine XD_skipW 26 rfl rfl rfl (dj := 87) rfl rfl (by intro c e; cases e) rfl (by kernel_rfl) (by kernel_rfl) (by kernel_rfl) noP_ok hD (by repeat (first | exact .refl | exact subL_nil | refine .keep ?_ | refine .drop ?_ | refine subL_add ?_)) ?_
     refine XD_skipW 27 rfl rfl rfl (dj := 87) rfl rfl (by intro c e; cases e) rfl (by kernel_rfl) (by kernel_rfl) (by kernel_rfl) noP_ok hD (by repeat (first | exact .refl | exact subL_nil | refine .keep ?_ | refine .drop ?_ | refine subL_add ?_)) ?_
     refine XD_skipW 28 rfl rfl rfl (dj := 87) rfl rfl (by intro c e; cases e) rfl (by kernel_rfl) (by kernel_rfl) (by kernel_rfl) noP_ok hD (by repeat (first | exact .refl | exact subL_nil | refine .keep ?_ | refine .drop ?_ | refine subL_add ?_)) ?_
     refine XD_take 29 rfl (ev_pick rfl rfl rfl) (.none rfl) rfl rfl rfl (by kernel_rfl) (by kernel_rfl) (by kernel_rfl) noP_ok hD (by repeat (first | exact .refl | exact subL_nil | refine .keep ?_ | refine .drop ?_ | refine subL_add ?_)) ?_
     refine XD_take 30 rfl (ev_assign rfl) (.none rfl) rfl rfl rfl (by kernel_rfl) (by kernel_rfl) (by kernel_rfl) noP_ok hD (by repeat (first | exact .refl | exact subL_nil | refine .keep ?_ | refine .drop ?_ | refine subL_add ?_)) ?_
     refine XD_done (by kernel_rfl) ?_
     refine at_noP ?_
     refine at_then ?_
     refine X_cond rfl (fun hc76 => ?_) (fun hc76 => ?_)
     ·
      cases hc76
     ·
      have hbo := bothP_no (a := xs) (b := ys) (i := i) (k := k) (.inr h6)
      refine X_seq (X_region ?_)
      refine zM ?_
      refine XO_v0 (ev_load rfl sct_23 (fun hg => by exact hB2.any)) rfl rfl rfl ?_
      refine XO_v0 (ev_lenS rfl slt_23) rfl rfl rfl ?_
      refine zC ?_
      rw [hd1]
      refine zM ?_
      refine XO_want (dj := 122) rfl rfl rfl ?_
      refine zM ?_
      refine XO_want (dj := 122) rfl rfl rfl ?_
      refine XO_v0 (ev_load rfl sct_65 (fun hg => by exact hLE.se.any)) rfl rfl rfl ?_
      refine XO_want (dj := 122) rfl rfl rfl ?_
      refine zM ?_
      refine XO_want (dj := 122) rfl rfl rfl ?_
      refine zB ?_
      refine XO_want (dj := 122) rfl rfl rfl ?_
      refine zM ?_
      refine XO_want (dj := 122) rfl rfl rfl ?_
      refine XO_callM (cap := [capP b_2, capP b_3, capP b_13, capP b_14]) (vs := [_, _]) rfl rfl fun_76 (by repeat (first | exact .cons .here .nil | exact split_all | exact split_app | apply split_cons | apply split_skip)) (w_lsPB hLE (by omega) (by omega) i k m1 (by omega) hm1) rfl rfl ?_
      rintro vv11 I11 L11 hI11 ⟨VB, hLB, rfl, rfl, m3, hm3, rfl⟩
      have hA := hA.mono hI11
      have hB := hB.mono hI11
      have hB2 := hB2.mono hI11
      have hB3 := hB3.mono hI11
      have hAB := hAB.mono hI11
      have hC14 := hC14.mono hI11
      have hC13 := hC13.mono hI11
      have hLE := hLE.mono hI11
      have hLE := hLE.mono hI11
      have hIc := hIc.trans hI11
      have hB4 := hB4.trans hI11
      have hbB := hLB.inn
      refine XO_want (dj := 122) rfl rfl rfl ?_
      refine zB ?_
      refine XO_want (dj := 122) rfl rfl rfl ?_
      refine zC ?_
      refine XO_v0 (ev_pickb rfl rfl rfl) rfl rfl rfl ?_
      refine zA ?_
      refine XO_nil (at_then ?_)
      refine X_cond rfl (fun hc117 => ?_) (fun hc117 => ?_)
      ·
       have hon := oneP_of (t := true) h5 hLV hLB (by simpa using hc117)
       refine X_seq (X_region ?_)
       refine zM ?_
       refine zB ?_
       refine zA ?_
       refine XO_nil (at_then ?_)
       refine X_region ?_
       refine zM ?_
       refine zM ?_
       refine XO_v0 (ev_buildArr (ps := [(0, _), (1, _)]) [_, _] art_94 zt_94 rfl rfl) rfl rfl rfl ?_
       refine XO_buildSlice (ps := [(0, _)]) (m := [encQ ((i : Int) + 1, (0 : Int))]) elt_88 rfl (.cons rfl (.nil)) rfl (by simp [encI_len, encH_len, encQ_len]) (by decide) (by decide) rfl rfl (fun b_137 => ?_)
       refine XO_append (v := _) (ys := [((i : Int) + 1, (0 : Int))].flatMap encQ) (L := L) rfl rfl elt_88 hO (by repeat (first | exact .cons .here .nil | exact split_all | exact split_app | apply split_cons | apply split_skip)) ⟨rfl, fun _ => rfl, by repeat (first | exact Cells.here | apply Cells.there | apply Cells.app)⟩ (one_Q [((i : Int) + 1, (0 : Int))]) (by omega) rfl rfl ?_
       intro v9 L9 hO9 _; rw [← List.flatMap_append] at hO9
       refine zA ?_
       refine XO_nil ?_
       refine at_block_n ?_
       refine at_block_n ?_
       exact at_met2 _ _ ⟨xs.length - (i + 1) + (ys.length - (k)), by omega, i + 1, k, _, _, _, _, _, rfl, rfl, hB4, rfl, by omega, by omega, hm3, hpq.one hbo hon, hO9, by omega⟩ (.cons rfl (.cons rfl (.cons rfl (.cons rfl (.cons rfl (.cons rfl .nil)))))) (by repeat (first | exact .refl | exact subL_left | refine subL_app ?_ | refine .drop ?_ | refine subL_add ?_))
      ·
       have hon := oneP_of (t := false) h5 hLV hLB (by simpa using hc117)
       exact absurd (two_lt hi hk (.inl h5) hbo hon) (by omega)
    ·
     have hD := HLe.refl I8
     refine X_noP ?_
     refine X_drawS I8 [] mixed ?_
     refine XD_take 0 rfl (ev_move rfl) (.none rfl) rfl rfl rfl (by kernel_rfl) (by kernel_rfl) (by kernel_rfl) noP_ok hD (by repeat (first | exact .refl | exact subL_nil | refine .keep ?_ | refine .drop ?_ | refine subL_add ?_)) ?_
     refine XD_take 1 rfl (ev_load rfl sct_23 (fun hg => by exact hB2.any)) (.none rfl) rfl rfl rfl (by kernel_rfl) (by kernel_rfl) (by kernel_rfl) noP_ok hD (by repeat (first | exact .refl | exact subL_nil | refine .keep ?_ | refine .drop ?_ | refine subL_add ?_)) ?_
     refine XD_take 2 rfl (ev_lenS rfl slt_23) (.none rfl) rfl rfl rfl (by kernel_rfl) (by kernel_rfl) (by kernel_rfl) noP_ok hD (by repeat (first | exact .refl | exact subL_nil | refine .keep ?_ | refine .drop ?_ | refine subL_add ?_)) ?_
     refine XD_take 3 rfl (ev_cmp rfl rfl rfl) (.none rfl) rfl rfl rfl (by kernel_rfl) (by kernel_rfl) (by kernel_rfl) noP_ok hD (by repeat (first | exact .refl | exact subL_nil | refine .keep ?_ | refine .drop ?_ | refine subL_add ?_)) ?_
     rw [hd1]
     refine XD_take 4 rfl (ev_move rfl) (.none rfl) rfl rfl rfl (by kernel_rfl) (by kernel_rfl) (by kernel_rfl) noP_ok hD (by repeat (first | exact .refl | exact subL_nil | refine .keep ?_ | refine .drop ?_ | refine subL_add ?_)) ?_
     refine XD_skipW 5 rfl rfl rfl (dj := 81) rfl rfl (by intro c e; cases e) rfl (by kernel_rfl) (by kernel_rfl) (by kernel_rfl) noP_ok hD (by repeat (first | exact .refl | exact subL_nil | refine .keep ?_ | refine .drop ?_ | refine subL_add ?_)) ?_
     refine XD_skipW 6 rfl rfl rfl (dj := 81) rfl rfl (by intro c e; cases e) rfl (by kernel_rfl) (by kernel_rfl) (by kernel_rfl) noP_ok hD (by repeat (first | exact .refl | exact subL_nil | refine .keep ?_ | refine .drop ?_ | refine subL_add ?_)) ?_
     refine XD_skipW 7 rfl rfl rfl (dj := 81) rfl rfl (by intro c e; cases e) rfl (by kernel_rfl) (by kernel_rfl) (by kernel_rfl) noP_ok hD (by repeat (first | exact .refl | exact subL_nil | refine .keep ?_ | refine .drop ?_ | refine subL_add ?_)) ?_
     refine XD_skipW 8 rfl rfl rfl (dj := 81) rfl rfl (by intro c e; cases e) rfl (by kernel_rfl) (by kernel_rfl) (by kernel_rfl) noP_ok hD (by repeat (first | exact .refl | exact subL_nil | refine .keep ?_ | refine .drop ?_ | refine subL_add ?_)) ?_
     refine XD_take 9 rfl (ev_pick rfl rfl rfl) (.none rfl) rfl rfl rfl (by kernel_rfl) (by kernel_rfl) (by kernel_rfl) noP_ok hD (by repeat (first | exact .refl | exact subL_nil | refine .keep ?_ | refine .drop ?_ | refine subL_add ?_)) ?_
     refine XD_take 10 rfl (ev_move rfl) (.none rfl) rfl rfl rfl (by kernel_rfl) (by kernel_rfl) (by kernel_rfl) noP_ok hD (by repeat (first | exact .refl | exact subL_nil | refine .keep ?_ | refine .drop ?_ | refine subL_add ?_)) ?_
     refine XD_skipW 11 rfl rfl rfl (dj := 87) rfl rfl (by intro c e; cases e) rfl (by kernel_rfl) (by kernel_rfl) (by kernel_rfl) noP_ok hD (by repeat (first | exact .refl | exact subL_nil | refine .keep ?_ | refine .drop ?_ | refine subL_add ?_)) ?_
     refine XD_skipW 12 rfl rfl rfl (dj := 87) rfl rfl (by intro c e; cases e) rfl (by kernel_rfl) (by kernel_rfl) (by kernel_rfl) noP_ok hD (by repeat (first | exact .refl | exact subL_nil | refine .keep ?_ | refine .drop ?_ | refine subL_add ?_)) ?_
     refine XD_skipW 13 rfl rfl rfl (dj := 87) rfl rfl (by intro c e; cases e) rfl (by kernel_rfl) (by kernel_rfl) (by kernel_rfl) noP_ok hD (by repeat (first | exact .refl | exact subL_nil | refine .keep ?_ | refine .drop ?_ | refine subL_add ?_)) ?_
     refine XD_skipW 14 rfl rfl rfl (dj := 87) rfl rfl (by intro c e; cases e) rfl (by kernel_rfl) (by kernel_rfl) (by kernel_rfl) noP_ok hD (by repeat (first | exact .refl | exact subL_nil | refine .keep ?_ | refine .drop ?_ | refine subL_add ?_)) ?_
     refine XD_skipW 15 rfl rfl rfl (dj := 87) rfl rfl (by intro c e; cases e) rfl (by kernel_rfl) (by kernel_rfl) (by kernel_rfl) noP_ok hD (by repeat (first | exact .refl | exact subL_nil | refine .keep ?_ | refine .drop ?_ | refine subL_add ?_)) ?_
     refine XD_skipW 16 rfl rfl rfl (dj := 87) rfl rfl (by intro c e; cases e) rfl (by kernel_rfl) (by kernel_rfl) (by kernel_rfl) noP_ok hD (by repeat (first | exact .refl | exact subL_nil | refine .keep ?_ | refine .drop ?_ | refine subL_add ?_)) ?_
     refine XD_skipW 17 rfl rfl rfl (dj := 87) rfl rfl (by intro c e; cases e) rfl (by kernel_rfl) (by kernel_rfl) (by kernel_rfl) noP_ok hD (by repeat (first | exact .refl | exact subL_nil | refine .keep ?_ | refine .drop ?_ | refine subL_add ?_)) ?_
     refine XD_skipW 18 rfl rfl rfl (dj := 87) rfl rfl (by intro c e; cases e) rfl (by kernel_rfl) (by kernel_rfl) (by kernel_rfl) noP_ok hD (by repeat (first | exact .refl | exact subL_nil | refine .keep ?_ | refine .drop ?_ | refine subL_add ?_)) ?_
     refine XD_skipW 19 rfl rfl rfl (dj := 87) rfl rfl (by intro c e; cases e) rfl (by kernel_rfl) (by kernel_rfl) (by kernel_rfl) noP_ok hD (by repeat (first | exact .refl | exact subL_nil | refine .keep ?_ | refine .drop ?_ | refine subL_add ?_)) ?_
     refine XD_skipW 20 rfl rfl rfl (dj := 87) rfl rfl (by intro c e; cases e) rfl (by kernel_rfl) (by kernel_rfl) (by kernel_rfl) noP_ok hD (by repeat (first | exact .refl | exact subL_nil | refine .keep ?_ | refine .drop ?_ | refine subL_add ?_)) ?_
     refine XD_skipW 21 rfl rfl rfl (dj := 87) rfl rfl (by intro c e; cases e) rfl (by kernel_rfl) (by kernel_rfl) (by kernel_rfl) noP_ok hD (by repeat (first | exact .refl | exact subL_nil | refine .keep ?_ | refine .drop ?_ | refine subL_add ?_)) ?_
     refine XD_skipW 22 rfl rfl rfl (dj := 87) rfl rfl (by intro c e; cases e) rfl (by kernel_rfl) (by kernel_rfl) (by kernel_rfl) noP_ok hD (by repeat (first | exact .refl | exact subL_nil | refine .keep ?_ | refine .drop ?_ | refine subL_add ?_)) ?_
     refine XD_skipW 23 rfl rfl rfl (dj := 87) rfl rfl (by intro c e; cases e) rfl (by kernel_rfl) (by kernel_rfl) (by kernel_rfl) noP_ok hD (by repeat (first | exact .refl | exact subL_nil | refine .keep ?_ | refine .drop ?_ | refine subL_add ?_)) ?_
     refine XD_skipW 24 rfl rfl rfl (dj := 87) rfl rfl (by intro c e; cases e) rfl (by kernel_rfl) (by kernel_rfl) (by kernel_rfl) noP_ok hD (by repeat (first | exact .refl | exact subL_nil | refine .keep ?_ | refine .drop ?_ | refine subL_add ?_)) ?_
     refine XD_skipW 25 rfl rfl rfl (dj := 87) rfl rfl (by intro c e; cases e) rfl (by kernel_rfl) (by kernel_rfl) (by kernel_rfl) noP_ok hD (by repeat (first | exact .refl | exact subL_nil | refine .keep ?_ | refine .drop ?_ | refine subL_add ?_)) ?_
     refine XD_skipW 26 rfl rfl rfl (dj := 87) rfl rfl (by intro c e; cases e) rfl (by kernel_rfl) (by kernel_rfl) (by kernel_rfl) noP_ok hD (by repeat (first | exact .refl | exact subL_nil | refine .keep ?_ | refine .drop ?_ | refine subL_add ?_)) ?_
     refine XD_skipW 27 rfl rfl rfl (dj := 87) rfl rfl (by intro c e; cases e) rfl (by kernel_rfl) (by kernel_rfl) (by kernel_rfl) noP_ok hD (by repeat (first | exact .refl | exact subL_nil | refine .keep ?_ | refine .drop ?_ | refine subL_add ?_)) ?_
     refine XD_skipW 28 rfl rfl rfl (dj := 87) rfl rfl (by intro c e; cases e) rfl (by kernel_rfl) (by kernel_rfl) (by kernel_rfl) noP_ok hD (by repeat (first | exact .refl | exact subL_nil | refine .keep ?_ | refine .drop ?_ | refine subL_add ?_)) ?_
     refine XD_take 29 rfl (ev_pick rfl rfl rfl) (.none rfl) rfl rfl rfl (by kernel_rfl) (by kernel_rfl) (by kernel_rfl) noP_ok hD (by repeat (first | exact .refl | exact subL_nil | refine .keep ?_ | refine .drop ?_ | refine subL_add ?_)) ?_
     refine XD_take 30 rfl (ev_assign rfl) (.none rfl) rfl rfl rfl (by kernel_rfl) (by kernel_rfl) (by kernel_rfl) noP_ok hD (by repeat (first | exact .refl | exact subL_nil | refine .keep ?_ | refine .drop ?_ | refine subL_add ?_)) ?_
     refine XD_done (by kernel_rfl) ?_
     refine at_noP ?_
     refine at_then ?_
     refine X_cond rfl (fun hc76 => ?_) (fun hc76 => ?_)
     ·
      cases hc76
     ·
      have hbo := bothP_no (a := xs) (b := ys) (i := i) (k := k) (.inl h5)
      refine X_seq (X_region ?_)
      refine zM ?_
      refine XO_v0 (ev_load rfl sct_23 (fun hg => by exact hB2.any)) rfl rfl rfl ?_
      refine XO_v0 (ev_lenS rfl slt_23) rfl rfl rfl ?_
      refine zC ?_
      rw [hd1]
      refine zM ?_
      refine XO_skipW (dj := 122) rfl rfl rfl rfl rfl ?_
      refine XO_skipW (dj := 122) rfl rfl rfl rfl rfl ?_
      refine XO_skipW (dj := 122) rfl rfl rfl rfl rfl ?_
      refine XO_skipW (dj := 122) rfl rfl rfl rfl rfl ?_
      refine XO_skipW (dj := 122) rfl rfl rfl rfl rfl ?_
      refine XO_skipW (dj := 122) rfl rfl rfl rfl rfl ?_
      refine XO_skipW (dj := 122) rfl rfl rfl rfl rfl ?_
      refine XO_skipW (dj := 122) rfl rfl rfl rfl rfl ?_
      refine XO_v0 (ev_pick rfl rfl rfl) rfl rfl rfl ?_
      refine zA ?_
      refine XO_nil (at_then ?_)
      refine X_cond rfl (fun hc117 => ?_) (fun hc117 => ?_)
      ·
       cases hc117
      ·
       have hon := oneP_no (a := xs) (b := ys) (i := i) (k := k) h5
       refine X_seq (X_region ?_)
       refine zM ?_
       refine zB ?_
       refine zA ?_
       refine XO_nil (at_then ?_)
       refine X_region ?_
       refine zM ?_
       refine zM ?_
       refine XO_v0 (ev_buildArr (ps := [(0, _), (1, _)]) [_, _] art_94 zt_94 rfl rfl) rfl rfl rfl ?_
       refine XO_buildSlice (ps := [(0, _)]) (m := [encQ ((0 : Int), (k : Int) + 1)]) elt_88 rfl (.cons rfl (.nil)) rfl (by simp [encI_len, encH_len, encQ_len]) (by decide) (by decide) rfl rfl (fun b_74 => ?_)
       refine XO_append (v := _) (ys := [((0 : Int), (k : Int) + 1)].flatMap encQ) (L := L) rfl rfl elt_88 hO (by repeat (first | exact .cons .here .nil | exact split_all | exact split_app | apply split_cons | apply split_skip)) ⟨rfl, fun _ => rfl, by repeat (first | exact Cells.here | apply Cells.there | apply Cells.app)⟩ (one_Q [((0 : Int), (k : Int) + 1)]) (by omega) rfl rfl ?_
       intro v9 L9 hO9 _; rw [← List.flatMap_append] at hO9
       refine zA ?_
       refine XO_nil ?_
       refine at_block_n ?_
       refine at_block_n ?_
       exact at_met2 _ _ ⟨xs.length - (i) + (ys.length - (k + 1)), by omega, i, k + 1, _, _, _, _, _, rfl, rfl, hB4, rfl, by omega, by omega, hm1, hpq.two h6 hbo hon, hO9, by omega⟩ (.cons rfl (.cons rfl (.cons rfl (.cons rfl (.cons rfl (.cons rfl .nil)))))) (by repeat (first | exact .refl | exact subL_left | refine subL_app ?_ | refine .drop ?_ | refine subL_add ?_))
   ·
    have hnor : xs.length ≤ i ∧ ys.length ≤ k := by have h := hc64; simp at h; omega
    have hfin : pairL xs ys = pre := hpq.fin hnor.1 hnor.2
    have hE0 := pairE_3 hlong hno2
    have hR0 := (pairR_ok hE0).trans hfin
    refine X_exit ?_
    refine at_then_e ?_
    refine at_then_e ?_
    refine at_block_hit ?_
    refine at_then ?_
    refine X_seq (X_region ?_)
    refine XO_v0 (ev_load rfl sct_65 (fun hg => by exact hLE.se.any)) rfl rfl rfl ?_
    refine XO_callM (cap := [capP b_2, capP b_3, capP b_13, capP b_14]) (vs := [_, _]) rfl rfl fun_76 (by repeat (first | exact .cons .here .nil | exact split_all | exact split_app | apply split_cons | apply split_skip)) (w_lsPZ hLE (by omega) (by omega) i k m trivial hm) rfl rfl ?_
    rintro vv12 I12 L12 hI12 ⟨VZ, hLZ, rfl, rfl, m5, hm5, rfl⟩
    have hA := hA.mono hI12
    have hB := hB.mono hI12
    have hB2 := hB2.mono hI12
    have hB3 := hB3.mono hI12
    have hAB := hAB.mono hI12
    have hC14 := hC14.mono hI12
    have hC13 := hC13.mono hI12
    have hLE := hLE.mono hI12
    have hLE := hLE.mono hI12
    have hIc := hIc.trans hI12
    have hB4 := hB4.trans hI12
    refine zM ?_
    refine zA ?_
    refine zA ?_
    refine zA ?_
    refine XO_nil (at_then ?_)
    refine X_ret ?_
    first
    | exact at_ret3 rfl rfl rfl rfl (fun w hw => by obtain ⟨I9, av9, c9, h1', h2', e9, h4'⟩ := OwnS.freeze (R := []) hO encQ_len (by decide) (by rw [List.append_nil]; exact hw.subL (by repeat (first | exact .refl | exact subL_left | exact subL_left (L := L) (R := []) | refine .drop ?_))); have hq9 := h4'.len; subst hq9; exact ⟨_, I9, [], rfl, hIc.trans h1', h2', rfl, _, av9, c9, by rw [hE0, hR0, e9], by rw [hR0]; exact h4'⟩)
end Go.Proofs.YthcffaheamikgaaGreatDoor
end
section
namespace Go.Proofs.YthcffaheamikgaaGreatDoor
open Go Go.Kn Go.Proofs
def aloF (a : Int) : List (Int × Int) → List (Int × Int)
  | [] => []
  | p :: ps => if p.1 > 0 then aloF p.1 ps else (a, p.2 - 1) :: aloF a ps
def aloL (ps : List (Int × Int)) : List (Int × Int) := aloF 0 ps
theorem alo_yes {a : Int} {ps : List (Int × Int)} {k : Nat} {p : Int × Int} (hp : ps[k]? = some p) (h : decide (p.1 > 0) = true) : aloF a (ps.drop k) = aloF p.1 (ps.drop (k + 1)) := by
  rw [drop_cons hp]
  show (if p.1 > 0 then aloF p.1 (ps.drop (k + 1)) else (a, p.2 - 1) :: aloF a (ps.drop (k + 1))) = _
  rw [if_pos (by simpa using h)]
theorem alo_no {a : Int} {ps : List (Int × Int)} {k : Nat} {p : Int × Int} (hp : ps[k]? = some p) (h : decide (p.1 > 0) = false) : aloF a (ps.drop k) = (a, p.2 - 1) :: aloF a (ps.drop (k + 1)) := by
  rw [drop_cons hp]
  show (if p.1 > 0 then aloF p.1 (ps.drop (k + 1)) else (a, p.2 - 1) :: aloF a (ps.drop (k + 1))) = _
  rw [if_neg (by simpa using h)]
theorem alo_end {a : Int} {ps pre : List (Int × Int)} {k : Nat} (h : aloL ps = pre ++ aloF a (ps.drop k)) (hk : ps.length ≤ k) : aloL ps = pre := by
  rw [h, List.drop_eq_nil_of_le hk]; simp [aloF]
theorem alo_pre {a : Int} {ps pre : List (Int × Int)} {k : Nat} {p : Int × Int} (h : aloL ps = pre ++ aloF a (ps.drop k)) (hp : ps[k]? = some p) (hn : decide (p.1 > 0) = false) : pre ++ [(a, p.2 - 1)] <+: aloL ps := by
  rw [h, alo_no hp hn]
  exact ⟨aloF a (ps.drop (k + 1)), by simp⟩
def en1Q (q : Int × Int) : Value := .int .i64 q.1
def en2Q (q : Int × Int) : Value := .int .i64 q.2
end Go.Proofs.YthcffaheamikgaaGreatDoor
end
section
namespace Go.Kn
open Go
/-- An iterator that hands on two values, with blocks of its own; they are gone behind it. -/
def SeqL2 {α : Type} (P : Program) (f : FuncId) (cap : List Value) (I : HMap) (K : Loc) (en1 en2 : α → Value) (xs : List α) : Prop :=
  ∀ g l (J Jx : List α → HMap → HMap → Prop),
    (∀ pre x I' H', pre ++ [x] <+: xs → HLe I I' → J pre I' H' → YieldOK P g l [en1 x, en2 x] I' H' fun b I2 H2 => if b then J (pre ++ [x]) I2 H2 else Jx (pre ++ [x]) I2 H2) →
    ∀ I0 H w, HLe I I0 → J [] I0 H → St g I0 H K w → Calls P f ((.func (.yield l) #[] #[] : Value) :: cap).toArray w fun e w' => ∃ v I' H', e = .returned v ∧ HLe I0 I' ∧ St g I' H' [] w' ∧ (J xs I' H' ∨ ∃ pre, pre <+: xs ∧ Jx pre I' H')
section
variable {α : Type} {C : Cx} {Q : Exit → Act → World → Prop} {E E' : Env} {I I' : HMap} {loc loc' L R : Loc} {ops : Array Oper} {rest : List Oper} {S : GS}
variable {Jc : List α → HMap → Loc → Prop} {Jx : Code → List α → HMap → Loc → Prop} {pre : List α}
theorem X_rangeFuncD2 {P : Program} {N : Nat} {D : List Deferred} {K : Loc} {g : World} {H : HMap} {gop : Operand} {p q : Nat} {assign body : Code} {f : FuncId} {cap : List Value} {en1 en2 : α → Value} {xs : List α}
    (Jc : List α → HMap → Loc → Prop) (Jx : Code → List α → HMap → Loc → Prop) (Ja : List α → α → Env → HMap → Loc → Prop)
    (hg : evalS [] E gop = some (.func (.func f) #[] cap.toArray)) (hF : Fun P f) (hseq : SeqL2 P f cap I K en1 en2 xs) (hp : Nat.blt p N = true) (hq9 : Nat.blt q N = true) (h0 : Jc [] I loc)
    (hass : ∀ l pre x I' loc' H1, pre ++ [x] <+: xs → HLe I I' → Jc pre I' loc' → X ⟨P, some l, N, [], g, H1⟩ (Exit.then (Met ⟨P, some l, N, [], g, H1⟩ fun E2 I2 loc2 => HLe I' I2 ∧ Ja pre x E2 I2 loc2) (fun _ _ _ => False)) assign ((q, en2 x) :: (p, en1 x) :: E) I' loc')
    (hbody : ∀ l pre x E2 I2 loc2 H2, pre ++ [x] <+: xs → HLe I I2 → Ja pre x E2 I2 loc2 → X ⟨P, some l, N, [], g, H2⟩ (RoundQ g H2 (fun q0 I3 loc3 => HLe I2 I3 ∧ Jc q0 I3 loc3) (fun c q0 I3 loc3 => HLe I2 I3 ∧ Jx c q0 I3 loc3) (pre ++ [x])) body E2 I2 loc2)
    (hdone : ∀ bd I' loc', HLe I I' → Jc xs I' loc' → At ⟨P, none, N, { target := .collected bd, args := #[] } :: D, g, H⟩ Q .normal E I' (loc' ++ [(bd, .deferred (some []))]))
    (hstop : ∀ c bd pre I' loc', HLe I I' → pre <+: xs → Jx c pre I' loc' → X ⟨P, none, N, { target := .collected bd, args := #[] } :: D, g, H⟩ Q c E I' (loc' ++ [(bd, .deferred (some []))])) :
    X ⟨P, none, N, D, g, H⟩ Q (.rangeFunc gop #[p, q] assign body) E I (K ++ loc) := by
  intro a w ha hw
  refine wpIn_rangeFunc fun fn _ => ?_
  have hen := run_enterLoop_outer (P := P) (w := w) fn a.tmps #[p, q] assign body
  generalize hbd : w.heap.size = bd at hen
  let rec_ : LoopState → Option Code → Obj := fun st pd => .loop { state := st, pending := pd, fn, tmps := a.tmps, params := #[p, q], assign, body, defers := bd }
  have hw1 : St g I H ((bd + 1, rec_ .ready none) :: (bd, .deferred (some [])) :: (K ++ loc)) ((w.alloc (.deferred (some []))).alloc (rec_ .ready none)) := by
    have h1 := hw.alloc (.deferred (some []))
    have h2 := h1.alloc (rec_ .ready none)
    rw [World.size_alloc, hbd] at h2
    exact h2
  have hev := evalS_sound (S := []) ha trivial rfl hg
  refine ⟨bd + 1, [{ target := .collected bd, args := #[] }], _, { target := .fn (.func f) cap.toArray, args := #[.func (.yield (bd + 1)) #[] #[]] }, (w.alloc (.deferred (some []))).alloc (rec_ .ready none), f, ((.func (.yield (bd + 1)) #[] #[] : Value) :: cap).toArray, (w.alloc (.deferred (some []))).alloc (rec_ .ready none), hen, ?_, fun _ _ => trivial, ?_, by simp [FR], callsFR.2 ?_⟩
  · have e2 : a.eval (.const (.func (.yield (bd + 1)) #[] #[])) = .func (.yield (bd + 1)) #[] #[] := rfl
    simp only [resolve, List.map_toArray, List.map_cons, List.map_nil, e2, hev, Deferred.ofValue]
    rfl
  · simp only [invoke, run_callFunc hF]
    simp
  -- the caller's blocks, between two rounds
  let Lr : LoopState → Option Code → Loc → Loc := fun st pd l' => l' ++ [(bd + 1, rec_ st pd), (bd, .deferred (some []))]
  have okL : ∀ {I' H1 l' W st pd}, St g I' H1 (Lr st pd l') W → ((Lr st pd l').map (·.1)).Nodup := fun h => h.nodup
  let J : List α → HMap → HMap → Prop := fun pre I' H' => ∃ l', Jc pre I' l' ∧ HLe I I' ∧ H' = addL H (Lr .ready none l') ∧ ((Lr .ready none l').map (·.1)).Nodup ∧ ∀ b o, (b, o) ∈ Lr .ready none l' → H b = none
  let Jy : List α → HMap → HMap → Prop := fun pre I' H' => ∃ c l', Jx c pre I' l' ∧ HLe I I' ∧ H' = addL H (Lr .done (some c) l') ∧ ((Lr .done (some c) l').map (·.1)).Nodup ∧ ∀ b o, (b, o) ∈ Lr .done (some c) l' → H b = none
  have hw2 : St g I H (K ++ Lr .ready none loc) ((w.alloc (.deferred (some []))).alloc (rec_ .ready none)) := by
    have hp : (K ++ Lr .ready none loc).Perm ((bd + 1, rec_ .ready none) :: (bd, .deferred (some [])) :: (K ++ loc)) := by
      show (K ++ (loc ++ [(bd + 1, rec_ .ready none), (bd, .deferred (some []))])).Perm _
      rw [← List.append_assoc]
      exact List.perm_append_comm
    exact hw1.perm (fun q => hp.mem_iff) ((hp.map (·.1)).nodup_iff.2 hw1.nodup)
  have hw2r := hw2.rest split_app
  have hJ0 : J [] I (addL H (Lr .ready none loc)) := ⟨loc, h0, HLe.refl I, rfl, hw2r.nodup, fun b o hm => (hw2r.sepIL b o hm).2⟩
  refine (hseq g (bd + 1) J Jy ?_ I _ _ (HLe.refl I) hJ0 hw2.hideR).mono ?_
  · -- a round
    intro pre x I' H' hpre hI ⟨l', hJc, _, hH, hnd, hdj⟩ lit W hW
    subst hH
    have hS1 := hW.swap hnd hdj
    have hrec : W.heap[bd + 1]? = some (rec_ .ready none) := hS1.own _ _ (by simp [Lr])
    refine ⟨fn, _, assign, body, run_yield (P := P) hrec (by simp), ?_⟩
    have hfit : Fits N [] ((q, en2 x) :: (p, en1 x) :: E) { tmps := (a.tmps.setIfInBounds p (en1 x)).setIfInBounds q (en2 x), defers := [] } := by
      have h1 := (ha.put hp (en1 x)).put hq9 (en2 x)
      exact ⟨h1.size, rfl, h1.env⟩
    have hdjK : ∀ b o, (b, o) ∈ lit → H b = none := fun b o hm => (addL_none (hW.sepIL b o hm).2).1
    refine roundIn_of_wpIn (F := Fence.wide) trivial ?_
    have htm : ((#[p, q] : Array Tmp).zip #[en1 x, en2 x]).foldl (fun tmps (t, v) => tmps.setIfInBounds t v) a.tmps = (a.tmps.setIfInBounds p (en1 x)).setIfInBounds q (en2 x) := by simp
    show Code.wpIn _ _ _ _ _ { tmps := ((#[p, q] : Array Tmp).zip #[en1 x, en2 x]).foldl (fun tmps (t, v) => tmps.setIfInBounds t v) a.tmps, defers := [] } _
    rw [htm]
    have hA := hass (bd + 1) pre x I' l' (addL (addL H lit) [(bd + 1, rec_ .ready none), (bd, .deferred (some []))]) hpre hI hJc _ W hfit hS1.hideR
    refine wpIn_mono (F := Fence.wide.inRound (bd + 1)) (n := 0) (P := P) (show assign.wpIn (Fence.wide.inRound (bd + 1)) 0 P _ _ _ from hA) ?_
    intro e a1 W1 hq
    cases e with
    | normal =>
      obtain ⟨E2, I2, loc2, ⟨hI2, hJa⟩, hf2, hs2⟩ := hq
      have hs3 : St g I2 (addL H lit) (loc2 ++ [(bd + 1, rec_ .ready none), (bd, .deferred (some []))]) W1 := St.unhide (hS1.rest split_app) hs2
      have hrec1 : W1.heap[bd + 1]? = some (rec_ .ready none) := hs3.own _ _ (by simp)
      have hs4 := hs3.putObj (o' := rec_ .busy none) (b := bd + 1) (upd_app .here)
      refine ⟨_, run_beginRound (P := P) hrec1 rfl, ?_⟩
      have hB := hbody (bd + 1) pre x E2 I2 loc2 (addL (addL H lit) [(bd + 1, rec_ .busy none), (bd, .deferred (some []))]) hpre (hI.trans hI2) hJa a1 _ hf2 hs4.hideR
      refine wpIn_mono (F := Fence.wide.inRound (bd + 1)) (n := 0) (P := P) (show body.wpIn (Fence.wide.inRound (bd + 1)) 0 P _ _ _ from hB) ?_
      have fin : ∀ (W3 : World) (I3 : HMap) (loc3 : Loc) (jump : Option Code) (st : LoopState), St g I3 (addL (addL H lit) [(bd + 1, rec_ .busy none), (bd, .deferred (some []))]) loc3 W3 →
          (st = if jump.isNone then .ready else .done) →
          ∃ W4, (Instr.endRound (bd + 1) jump).run P W3 = .ok (.bool jump.isNone) W4 ∧ St g I3 (addL H (Lr st jump loc3)) lit W4 ∧ ((Lr st jump loc3).map (·.1)).Nodup ∧ ∀ b o, (b, o) ∈ Lr st jump loc3 → H b = none := by
        intro W3 I3 loc3 jump st hs hst
        have hs5 : St g I3 (addL H lit) (loc3 ++ [(bd + 1, rec_ .busy none), (bd, .deferred (some []))]) W3 := St.unhide (hs4.rest split_app) hs
        have hrec3 : W3.heap[bd + 1]? = some (rec_ .busy none) := hs5.own _ _ (by simp)
        have hs6 := hs5.putObj (o' := rec_ st jump) (b := bd + 1) (upd_app .here)
        refine ⟨_, run_endRound (P := P) jump hrec3, ?_, hs6.nodup, fun b o hm => (addL_none (hs6.sepIL b o hm).2).1⟩
        rw [← hst]
        exact hs6.swap hW.nodup hdjK
      intro e a3 W3 hq
      cases e with
      | normal =>
        obtain ⟨I3, loc3, ⟨hI3, hJ3⟩, hs⟩ := hq
        obtain ⟨W4, h1, h2, h3, h4⟩ := fin W3 I3 loc3 none .ready hs rfl
        exact ⟨_, W4, h1, true, I3, _, rfl, hI2.trans hI3, h2, loc3, hJ3, (hI.trans hI2).trans hI3, rfl, h3, h4⟩
      | ret =>
        obtain ⟨I3, loc3, ⟨hI3, hJ3⟩, hs⟩ := hq
        obtain ⟨W4, h1, h2, h3, h4⟩ := fin W3 I3 loc3 (some .ret) .done hs rfl
        exact ⟨_, W4, h1, false, I3, _, rfl, hI2.trans hI3, h2, .ret, loc3, hJ3, (hI.trans hI2).trans hI3, rfl, h3, h4⟩
      | exit id =>
        obtain ⟨I3, loc3, ⟨hI3, hJ3⟩, hs⟩ := hq
        obtain ⟨W4, h1, h2, h3, h4⟩ := fin W3 I3 loc3 (some (.exit id)) .done hs rfl
        exact ⟨_, W4, h1, false, I3, _, rfl, hI2.trans hI3, h2, .exit id, loc3, hJ3, (hI.trans hI2).trans hI3, rfl, h3, h4⟩
      | goto t => exact hq.elim
      | panic c => exact hq.elim
      | outgrown => exact hq.elim
    | _ => exact hq.elim
  · -- behind the call
    rintro e w' ⟨v, I', H', rfl, hI, hs, hJ | ⟨pre, hpre, hJ⟩⟩
    · obtain ⟨l', hJc, hI1, rfl, hnd, hdj⟩ := hJ
      have hs1 := hs.swap hnd hdj
      have hrec : w'.heap[bd + 1]? = some (rec_ .ready none) := hs1.own _ _ (by simp [Lr])
      have hs2 := hs1.putObj (o' := rec_ .exhausted none) (b := bd + 1) (upd_app .here)
      refine ⟨none, _, run_endLoop (P := P) hrec (by simp), ?_⟩
      refine hdone bd I' l' hI1 hJc _ _ ⟨ha.size, by simp [ha.defers], ha.env⟩ ?_
      refine hs2.rest (L := [(bd + 1, rec_ .exhausted none)]) ?_
      have : Split (l' ++ [(bd + 1, rec_ .exhausted none), (bd, .deferred (some []))]) [(bd + 1, rec_ .exhausted none)] (l' ++ [(bd, .deferred (some []))]) := by
        refine .cons ?_ .nil
        clear hdj hnd hs2 hs1 hs hJc hrec
        induction l' with
        | nil => exact .here
        | cons q l ih => exact .there ih
      exact this
    · obtain ⟨c, l', hJc, hI1, rfl, hnd, hdj⟩ := hJ
      have hs1 := hs.swap hnd hdj
      have hrec : w'.heap[bd + 1]? = some (rec_ .done (some c)) := hs1.own _ _ (by simp [Lr])
      have hs2 := hs1.putObj (o' := rec_ .exhausted (some c)) (b := bd + 1) (upd_app .here)
      refine ⟨some c, _, run_endLoop (P := P) hrec (by simp), ?_⟩
      refine hstop c bd pre I' l' hI1 hpre hJc _ _ ⟨ha.size, by simp [ha.defers], ha.env⟩ ?_
      refine hs2.rest (L := [(bd + 1, rec_ .exhausted (some c))]) ?_
      have : Split (l' ++ [(bd + 1, rec_ .exhausted (some c)), (bd, .deferred (some []))]) [(bd + 1, rec_ .exhausted (some c))] (l' ++ [(bd, .deferred (some []))]) := by
        refine .cons ?_ .nil
        clear hdj hnd hs2 hs1 hs hJc hrec
        induction l' with
        | nil => exact .here
        | cons q l ih => exact .there ih
      exact this
end
section
variable {P : Program} {r : Option Nat} {N : Nat} {g : World} {H : HMap} {Q : Exit → Act → World → Prop} {E E' : Env} {I I' : HMap} {loc loc' L R : Loc} {ms : List Nat}
theorem X_rangeFuncM2 {α : Type} {gop : Operand} {p q : Nat} {assign body : Code} {f : FuncId} {cap : List Value} {K : Loc} {en1 en2 : α → Value} {xs : List α}
    (Jc : List α → HMap → Loc → Prop) (Jx : Code → List α → HMap → Loc → Prop) (Ja : List α → α → Env → HMap → Loc → Prop)
    (hg : evalS [] E gop = some (.func (.func f) #[] cap.toArray)) (hF : Fun P f) (hseq : SeqL2 P f cap I K en1 en2 xs) (hp : Nat.blt p N = true) (hq9 : Nat.blt q N = true) (h0 : Jc [] I L)
    (hass : ∀ l pre x I' loc' H1, pre ++ [x] <+: xs → HLe I I' → Jc pre I' loc' → X ⟨P, some l, N, [], g, H1⟩ (Exit.then (Met ⟨P, some l, N, [], g, H1⟩ fun E2 I2 loc2 => HLe I' I2 ∧ Ja pre x E2 I2 loc2) (fun _ _ _ => False)) assign ((q, en2 x) :: (p, en1 x) :: E) I' loc')
    (hbody : ∀ l pre x E2 I2 loc2 H2, pre ++ [x] <+: xs → HLe I I2 → Ja pre x E2 I2 loc2 → X ⟨P, some l, N, [], g, H2⟩ (RoundQ g H2 (fun q0 I3 loc3 => HLe I2 I3 ∧ Jc q0 I3 loc3) (fun c q0 I3 loc3 => HLe I2 I3 ∧ Jx c q0 I3 loc3) (pre ++ [x])) body E2 I2 loc2)
    (hdone : ∀ bd I' loc', HLe I I' → Jc xs I' loc' → At ⟨P, none, N, mk (bd :: ms), g, H⟩ Q .normal E I' (loc' ++ MB (bd :: ms)))
    (hstop : ∀ c bd pre I' loc', HLe I I' → pre <+: xs → Jx c pre I' loc' → X ⟨P, none, N, mk (bd :: ms), g, H⟩ Q c E I' (loc' ++ MB (bd :: ms))) :
    X ⟨P, none, N, mk ms, g, H⟩ Q (.rangeFunc gop #[p, q] assign body) E I (K ++ (L ++ MB ms)) := by
  intro a w ha hw
  have back : ∀ {I' : HMap} {loc' : Loc} {bd : Nat} {w' : World}, St g I' (addL H (MB ms)) (loc' ++ [(bd, .deferred (some []))]) w' → St g I' H (loc' ++ MB (bd :: ms)) w' := fun {I' loc' bd w'} h => by
    have h1 := St.unhide ((hw.rest split_app).rest split_app) h
    refine h1.perm (fun p => ?_) ?_
    · simp only [MB, List.mem_append]
      constructor
      · rintro (h | h | h)
        · exact .inl (.inl h)
        · exact .inr h
        · exact .inl (.inr h)
      · rintro ((h | h) | h)
        · exact .inl h
        · exact .inr (.inr h)
        · exact .inr (.inl h)
    · have hn := h1.nodup
      have hpm : (loc' ++ MB (bd :: ms)).Perm (loc' ++ [(bd, .deferred (some []))] ++ MB ms) := by
        rw [List.append_assoc]
        exact (List.Perm.refl loc').append List.perm_append_comm
      exact (hpm.map (·.1)).nodup_iff.2 hn
  refine X_rangeFuncD2 (K := K) (P := P) (N := N) (D := mk ms) (g := g) (H := addL H (MB ms)) (Q := Q) Jc Jx Ja hg hF hseq hp hq9 h0 hass hbody ?_ ?_ a w ha (show St g I (addL H (MB ms)) (K ++ L) w from (show St g I H ((K ++ L) ++ MB ms) w by rw [List.append_assoc]; exact hw).hideR)
  · intro bd I' loc' hI hJ a' w' ha' hw'
    exact hdone bd I' loc' hI hJ a' w' ha' (back hw')
  · intro c bd pre I' loc' hI hpre hJ a' w' ha' hw'
    exact hstop c bd pre I' loc' hI hpre hJ a' w' ha' (back hw')
end
end Go.Kn
namespace Go.Kn
open Go
section
variable {C : Cx} {Q : Exit → Act → World → Prop} {E E' : Env} {I I' I0 : HMap} {loc loc' loc0 L R : Loc} {ops : Array Oper} {rest : List Oper} {S : GS}
/-- Own blocks are read from now on, at an exit. -/
theorem at_freeze {e : Exit} {b : Nat} {o : Obj} (ht : Take loc b o loc') (h : ∀ I', HLe I I' → I' b = some o → At C Q e E I' loc') : At C Q e E I loc := fun a w ha hw =>
  let ⟨h1, h2, h3⟩ := hw.freeze ht; h _ h2 h3 a w ha h1
theorem X_locEq {c : Code} (h : loc = loc') (hx : X C Q c E I loc') : X C Q c E I loc := h ▸ hx
/-- Four may come up. -/
theorem XD_four (i j k m : Nat) {oi oj ok om : Oper} {fuel : Nat} {listed : Array Bool} (hi : ops[i]? = some oi) (hj : ops[j]? = some oj) (hk : ops[k]? = some ok) (hm : ops[m]? = some om) (hr : Region.ready .any ops listed = [i, j, k, m])
    (h1 : XO C (fun e a w => match e with | .normal => St C.g I0 C.H loc0 w ∧ wpAnyS C.r C.P .any ops Q (fun w => St C.g I0 C.H loc0 w) fuel (listed.setIfInBounds i true) a w | e => Q e a w) ops [oi] S E I loc)
    (h2 : XO C (fun e a w => match e with | .normal => St C.g I0 C.H loc0 w ∧ wpAnyS C.r C.P .any ops Q (fun w => St C.g I0 C.H loc0 w) fuel (listed.setIfInBounds j true) a w | e => Q e a w) ops [oj] S E I loc)
    (h3 : XO C (fun e a w => match e with | .normal => St C.g I0 C.H loc0 w ∧ wpAnyS C.r C.P .any ops Q (fun w => St C.g I0 C.H loc0 w) fuel (listed.setIfInBounds k true) a w | e => Q e a w) ops [ok] S E I loc)
    (h4 : XO C (fun e a w => match e with | .normal => St C.g I0 C.H loc0 w ∧ wpAnyS C.r C.P .any ops Q (fun w => St C.g I0 C.H loc0 w) fuel (listed.setIfInBounds m true) a w | e => Q e a w) ops [om] S E I loc) : XD C Q ops I0 loc0 (fuel + 1) listed S E I loc := by
  intro a w ha hg hw
  refine ⟨(fun h0 => by rw [hr] at h0; cases h0), fun q hq => ?_⟩
  rw [hr] at hq
  rcases List.mem_cons.1 hq with e | hq
  · subst e; exact XD_key hi ha hg hw h1
  · rcases List.mem_cons.1 hq with e | hq
    · subst e; exact XD_key hj ha hg hw h2
    · rcases List.mem_cons.1 hq with e | hq
      · subst e; exact XD_key hk ha hg hw h3
      · obtain rfl := List.mem_singleton.1 hq; exact XD_key hm ha hg hw h4
end
end Go.Kn
end
section
namespace Go.Proofs.YthcffaheamikgaaGreatDoor
open Go Go.Kn Go.Proofs
theorem fun_78 : Fun Tryz.prog 78 := .of Tryz.func78 (by kernel_rfl) (by kernel_rfl)
theorem sct_88 : ScT Tryz.prog 88 := .of (by kernel_rfl)
theorem slt_88 : SlT Tryz.prog 88 94 2 := .of (by kernel_rfl)
theorem szt_94 : SzT Tryz.prog 94 2 := .of (by kernel_rfl)
theorem w_alone (I : HMap) (av : Option Addr) (n c : Nat) : RetM Tryz.prog 44 [.slice av n c] I [] (fun v I' L => L = [] ∧ ∃ b1, v = .func (.func 78) #[] [capP b1].toArray ∧ I' b1 = some (.cells #[.slice av n c] 88 (0, 0))) := by
 intro g H w hw
 refine enter Tryz.func44 rfl Tryz.ntmps44 rfl hw ?_
 have hIc := HLe.refl I
 refine X_seq (X_region ?_)
 refine XO_box rfl rfl rfl (fun b_1 => ?_)
 refine zA ?_
 refine XO_nil (at_then ?_)
 refine X_seq ?_
 refine X_freeze .here (fun I1 hI1 hb1 => ?_)
 have hIc := hIc.trans hI1
 have h1 := hb1
 refine X_region ?_
 refine XO_v0 (ev_makeFunc (us := []) (vs := [_]) rfl rfl) rfl rfl rfl ?_
 refine zA ?_
 refine XO_nil (at_then ?_)
 refine X_ret ?_
 exact at_ret1 rfl rfl (fun w hw => ⟨_, I1, [], rfl, hIc, hw.drop, rfl, b_1, rfl, h1⟩)
theorem w_aloit {I : HMap} {av : Option Addr} {n c : Nat} {ps : List (Int × Int)} (hS : Sl I 2 encQ av n c ps) (hn9 : n ≤ 1000000) (hps : ∀ p ∈ ps, -1000000 ≤ p.2 ∧ p.2 ≤ 1000000) {b1 : Nat} (h1 : I b1 = some (.cells #[.slice av n c] 88 (0, 0))) : SeqL2 Tryz.prog 78 [capP b1] I [] en1Q en2Q (aloL ps) := by
 intro g y J Jx hY I0 H w h0 hJ hw
 have hS := hS.mono h0
 have h1 := h0 _ _ h1
 refine enter Tryz.func78 rfl Tryz.ntmps78 rfl hw ?_
 have hSl := hS.len
 subst hSl
 refine X_seq (X_region ?_)
 refine zA ?_
 refine XO_nil (at_then (X_seq (X_region ?_)))
 refine XO_v0 (ev_load rfl sct_88 (fun hg => by exact Cell.imm h1 rfl)) rfl rfl rfl ?_
 refine XO_v0 (ev_lenS rfl slt_88) rfl rfl rfl ?_
 refine zM ?_
 refine XO_nil (at_then ?_)
 refine X_block ?_
 refine X_loopH (fun m E I' H' loc' => ∃ (k : Nat) (a : Int) (pre : List (Int × Int)), m = ps.length - k ∧ E = [(0, .func (.yield y) #[] #[]), (1, capP b1), (3, .int .i64 a), (6, .slice av ps.length c), (7, .int .i64 ps.length), (8, .int .i64 k)] ∧ loc' = [] ∧ HLe I0 I' ∧ k ≤ ps.length ∧ J pre I' H' ∧ aloL ps = pre ++ aloF a (ps.drop k)) _ _ _ ⟨0, 0, [], rfl, rfl, rfl, HLe.refl _, Nat.zero_le _, hJ, rfl⟩ (.cons rfl (.cons rfl (.cons rfl (.cons rfl (.cons rfl (.cons rfl .nil)))))) rfl ?_
 rintro m E I' H' loc' ⟨k, a, pre, rfl, rfl, rfl, hI1, hk, hJk, hal⟩
 have hS := hS.mono hI1
 have h1 := hI1 _ _ h1
 have hI0 := h0.trans hI1
 refine X_seq (X_region ?_)
 refine zC ?_
 refine XO_nil (at_then ?_)
 refine X_seq ?_
 refine X_cond rfl (fun hc9 => ?_) (fun hc9 => ?_)
 ·
  have hlt : k < ps.length := by have h := hc9; simp at h; omega
  obtain ⟨p, hp⟩ := hS.at hlt
  refine X_skip ?_
  refine at_then ?_
  refine X_seq ?_
  refine X_block ?_
  refine X_seq (X_region ?_)
  refine XO_v0 (ev_indexSl rfl rfl slt_88 hS (fun hg => by first | omega | (simp [conj] at hg; omega))) rfl rfl rfl ?_
  refine XO_v0 (ev_loadA rfl agt_94 (fun hg => by exact Sl.getA hS hp) rfl) rfl rfl rfl ?_
  refine XO_alloc zt_94 rfl rfl (fun b_5 => ?_)
  refine XO_storeA rfl rfl szt_94 rfl rfl rfl rfl (by repeat (first | exact Upd.here | apply Upd.there | apply upd_app)) ?_
  refine XO_nil (at_then (X_seq (X_region ?_)))
  refine XO_v0 (ev_indexArr rfl rfl art_94 (fun hg => by first | decide | omega)) rfl rfl rfl ?_
  refine XO_v0 (ev_load rfl sct_3 (fun hg => by exact Cell.h0 rfl)) rfl rfl rfl ?_
  refine zC ?_
  refine XO_nil (at_then ?_)
  refine X_cond rfl (fun hc14 => ?_) (fun hc14 => ?_)
  ·
   refine X_region ?_
   refine XO_v0 (ev_indexArr rfl rfl art_94 (fun hg => by first | decide | omega)) rfl rfl rfl ?_
   refine XO_v0 (ev_load rfl sct_3 (fun hg => by exact Cell.h0 rfl)) rfl rfl rfl ?_
   refine zA ?_
   refine XO_nil ?_
   refine at_block_n ?_
   refine at_then ?_
   refine X_region ?_
   refine XO_v0 (ev_arB rfl rfl rfl (fun _ => by first | omega | (have hp9 := hps p (List.mem_of_getElem? hp); omega))) rfl rfl rfl ?_
   refine zM ?_
   refine XO_nil ?_
   exact at_metH2 rfl rfl rfl _ [] ⟨ps.length - (k + 1), by omega, k + 1, p.1, pre, rfl, rfl, rfl, hI1, by omega, hJk, by rw [hal, alo_yes hp hc14]⟩ (.cons rfl (.cons rfl (.cons rfl (.cons rfl (.cons rfl (.cons rfl .nil)))))) (.drop .refl)
  ·
   have hpre2 := alo_pre hal hp hc14
   refine X_seq (X_region ?_)
   refine zM ?_
   refine zM ?_
   refine XO_v0 (ev_indexArr rfl rfl art_94 (fun hg => by first | decide | omega)) rfl rfl rfl ?_
   refine XO_v0 (ev_load rfl sct_3 (fun hg => by exact Cell.h0 rfl)) rfl rfl rfl ?_
   refine XO_v0 (ev_arB rfl rfl rfl (fun _ => by first | omega | (have hp9 := hps p (List.mem_of_getElem? hp); omega))) rfl rfl rfl ?_
   refine XO_yield0 (vs := [_, _]) (Post := fun b I2 H2 => if b then J (pre ++ [(a, p.2 - 1)]) I2 H2 else Jx (pre ++ [(a, p.2 - 1)]) I2 H2) rfl rfl rfl rfl (hY pre (a, p.2 - 1) _ _ hpre2 hI0 hJk) ?_
   rintro t I2 H2 hI2 hP2
   refine XO_v0 (ev_not rfl) rfl rfl rfl ?_
   refine XO_nil (at_then ?_)
   refine X_cond rfl (fun hc23 => ?_) (fun hc23 => ?_)
   ·
    have ht : t = false := by simpa using hc23
    subst ht
    have hJ2 : Jx (pre ++ [(a, p.2 - 1)]) I2 H2 := hP2
    refine X_ret ?_
    refine at_block_r ?_
    refine at_then_r ?_
    refine at_then_r ?_
    refine at_block_r ?_
    exact at_ret0 rfl (fun w hw => ⟨_, I2, H2, rfl, hI1.trans hI2, hw.drop, .inr ⟨_, hpre2, hJ2⟩⟩)
   ·
    have ht : t = true := by simpa using hc23
    subst ht
    have hJ2 : J (pre ++ [(a, p.2 - 1)]) I2 H2 := hP2
    refine X_skip ?_
    refine at_block_n ?_
    refine at_then ?_
    refine X_region ?_
    refine XO_v0 (ev_arB rfl rfl rfl (fun _ => by first | omega | (have hp9 := hps p (List.mem_of_getElem? hp); omega))) rfl rfl rfl ?_
    refine zM ?_
    refine XO_nil ?_
    first
    | exact at_metH2 rfl rfl rfl _ [] ⟨ps.length - (k + 1), by omega, k + 1, a, pre ++ [(a, p.2 - 1)], rfl, rfl, rfl, hI1.trans hI2, by omega, hJ2, by rw [hal, alo_no hp hc14, List.append_assoc]; rfl⟩ (.cons rfl (.cons rfl (.cons rfl (.cons rfl (.cons rfl (.cons rfl .nil)))))) (.drop .refl)
 ·
  have hge : ps.length ≤ k := by have h := hc9; simp at h; omega
  refine X_exit ?_
  refine at_then_e ?_
  refine at_then_e ?_
  refine at_block_hit ?_
  first
  | exact at_norm (at_ret0 rfl (fun w hw => ⟨_, I', H', rfl, hI1, hw, .inl (by rw [alo_end hal hge]; exact hJk)⟩))
end Go.Proofs.YthcffaheamikgaaGreatDoor
end
section
namespace Go.Proofs.YthcffaheamikgaaGreatDoor
open Go Go.Kn Go.Proofs
/-! ### Lists as functions -/
def rngL (n : Nat) (f : Nat → Int) : List Int := (List.range n).map f
def updF {β : Type} (f : Nat → β) (a : Nat) (v : β) : Nat → β := fun j => if j = a then v else f j
def natF (f : Nat → Nat) : Nat → Int := fun j => ((f j : Nat) : Int)
theorem rngL_len {n : Nat} {f : Nat → Int} : (rngL n f).length = n := by unfold rngL; simp
theorem rngL_at {n a : Nat} {f : Nat → Int} (h : a < n) : (rngL n f)[a]? = some (f a) := by unfold rngL; simp [h]
theorem updF_same {β : Type} {f : Nat → β} {a : Nat} {v : β} : updF f a v a = v := if_pos rfl
theorem updF_ne {β : Type} {f : Nat → β} {a j : Nat} {v : β} (h : j ≠ a) : updF f a v j = f j := if_neg h
theorem rngL_set {n a : Nat} {f : Nat → Int} {v : Int} : (rngL n f).set a v = rngL n (updF f a v) := by
  apply List.ext_getElem?
  intro j
  rw [List.getElem?_set]
  by_cases hj : j < n
  · rw [rngL_at hj, rngL_at hj, rngL_len]
    by_cases h : a = j
    · subst h; rw [updF_same]; simp [hj]
    · rw [if_neg h, updF_ne (Ne.symm h)]
  · rw [List.getElem?_eq_none (l := rngL n (updF f a v)) (by rw [rngL_len]; omega), rngL_len]
    by_cases h : a = j
    · subst h; simp [hj]
    · rw [if_neg h, List.getElem?_eq_none (by rw [rngL_len]; omega)]
theorem rngL_zero {n : Nat} : List.replicate n (0 : Int) = rngL n (fun _ => 0) := by
  apply List.ext_getElem?
  intro j
  unfold rngL
  by_cases h : j < n <;> simp [h]
theorem nat_upd {f : Nat → Nat} {a v : Nat} : updF (natF f) a (v : Int) = natF (updF f a v) := by
  funext j
  by_cases h : j = a
  · subst h; rw [updF_same]; unfold natF; rw [updF_same]
  · rw [updF_ne h]; unfold natF; rw [updF_ne h]
theorem nat_zero : (fun _ => 0 : Nat → Int) = natF (fun _ => 0) := by funext j; rfl
theorem maxI_nat {a b : Nat} : maxI (a : Int) (b : Int) = ((max a b : Nat) : Int) := by unfold maxI; split <;> omega
/-! ### Counts -/
def cnt (pre : List (Int × Int)) : Nat → Nat := pre.foldl (fun c q => updF c q.1.toNat (c q.1.toNat + 1)) (fun _ => 0)
theorem cnt_snoc {pre : List (Int × Int)} {q : Int × Int} : cnt (pre ++ [q]) = updF (cnt pre) q.1.toNat (cnt pre q.1.toNat + 1) := by unfold cnt; rw [List.foldl_append]; rfl
theorem cnt_one {pre : List (Int × Int)} {q : Int × Int} {a : Nat} (h : q.1.toNat = a) : cnt (pre ++ [q]) a = cnt pre a + 1 := by rw [cnt_snoc, h]; unfold updF; rw [if_pos rfl]
theorem cnt_le {pre : List (Int × Int)} {q : Int × Int} {a : Nat} : cnt pre a ≤ cnt (pre ++ [q]) a := by
  rw [cnt_snoc]; unfold updF; split
  · rename_i h; subst h; omega
  · exact Nat.le_refl _
theorem cnt_app (pre : List (Int × Int)) (a : Nat) : ∀ (r : Nat) (qs : List (Int × Int)), qs.length ≤ r → cnt pre a ≤ cnt (pre ++ qs) a := by
  intro r qs _
  induction qs generalizing pre with
  | nil => simp
  | cons q qs ih =>
    have h1 := ih (pre ++ [q]) (by simp at *; omega)
    rw [List.append_assoc] at h1
    exact Nat.le_trans cnt_le h1
theorem cnt_pre {pre xs : List (Int × Int)} {a : Nat} (h : pre <+: xs) : cnt pre a ≤ cnt xs a := by
  obtain ⟨qs, rfl⟩ := h; exact cnt_app pre a qs.length qs (Nat.le_refl _)
theorem cnt_foldl (qs : List (Int × Int)) : ∀ (c : Nat → Nat) (a : Nat), (qs.foldl (fun c q => updF c q.1.toNat (c q.1.toNat + 1)) c) a ≤ c a + qs.length := by
  induction qs with
  | nil => intro c a; simp
  | cons q qs ih =>
    intro c a
    rw [List.foldl_cons]
    have h := ih (updF c q.1.toNat (c q.1.toNat + 1)) a
    have h2 : updF c q.1.toNat (c q.1.toNat + 1) a ≤ c a + 1 := by unfold updF; split <;> (try (rename_i e; subst e)) <;> omega
    rw [List.length_cons]; omega
theorem cnt_len {pre : List (Int × Int)} {a : Nat} : cnt pre a ≤ pre.length := by
  have h := cnt_foldl pre (fun _ => 0) a
  unfold cnt; omega
/-! ### How wide the places are -/
def wmx (w : Nat → Nat) (pre : List (Int × Int)) : Nat → Nat := fun a => max (w a) (cnt pre a)
def wdF (al : Nat → List (Int × Int)) : Nat → Nat → Nat
  | 0 => fun _ => 0
  | i + 1 => wmx (wdF al i) (al i)
theorem wmx_nil {w : Nat → Nat} : wmx w [] = w := by funext a; unfold wmx; show max (w a) 0 = w a; omega
theorem wmx_snoc {w : Nat → Nat} {pre : List (Int × Int)} {q : Int × Int} {a : Nat} (h : q.1.toNat = a) : updF (wmx w pre) a (max (wmx w pre a) (cnt (pre ++ [q]) a)) = wmx w (pre ++ [q]) := by
  funext j
  unfold updF
  split
  · rename_i e; subst e
    rw [cnt_one h]
    show max (max (w j) (cnt pre j)) (cnt pre j + 1) = max (w j) (cnt (pre ++ [q]) j)
    rw [cnt_one h]; omega
  · rename_i e
    show max (w j) (cnt pre j) = max (w j) (cnt (pre ++ [q]) j)
    rw [cnt_snoc, h]; unfold updF; rw [if_neg e]
theorem wdF_one {al : Nat → List (Int × Int)} (h : al 0 = []) : wdF al 1 = fun _ => 0 := by
  show wmx (wdF al 0) (al 0) = _
  rw [h, wmx_nil]; rfl
theorem wdF_le {al : Nat → List (Int × Int)} {B : Nat} (h : ∀ j, (al j).length ≤ B) : ∀ (i a : Nat), wdF al i a ≤ B
  | 0, a => Nat.zero_le _
  | i + 1, a => by
    show max (wdF al i a) (cnt (al i) a) ≤ B
    have h1 := wdF_le h i a
    have h2 := @cnt_len (al i) a
    have h3 := h i
    omega
theorem wdF_ge {al : Nat → List (Int × Int)} {j : Nat} : ∀ {i a : Nat}, j < i → cnt (al j) a ≤ wdF al i a
  | 0, _, h => by omega
  | i + 1, a, h => by
    show _ ≤ max (wdF al i a) (cnt (al i) a)
    by_cases e : j = i
    · subst e; omega
    · have := wdF_ge (al := al) (a := a) (show j < i by omega); omega
/-! ### Where the places begin -/
def sumF (w : Nat → Nat) : Nat → Nat
  | 0 => 0
  | k + 1 => sumF w k + (w k + 1)
theorem sumF_le {w : Nat → Nat} {B : Nat} (h : ∀ a, w a ≤ B) : ∀ k, sumF w k ≤ k * (B + 1)
  | 0 => Nat.zero_le _
  | k + 1 => by
    have h1 := sumF_le h k
    have h2 := h k
    show sumF w k + (w k + 1) ≤ _
    rw [Nat.add_mul]; omega
theorem sumF_lt {w : Nat → Nat} {k : Nat} : ∀ {j : Nat}, k < j → sumF w k + w k + 1 ≤ sumF w j
  | 0, h => by omega
  | j + 1, h => by
    show _ ≤ sumF w j + (w j + 1)
    by_cases e : k = j
    · subst e; omega
    · have := sumF_lt (w := w) (show k < j by omega); omega
theorem sumF_ge {w : Nat → Nat} : ∀ k, k ≤ sumF w k
  | 0 => Nat.le_refl _
  | k + 1 => by have := sumF_ge (w := w) k; show k + 1 ≤ sumF w k + (w k + 1); omega
/-- The first places, as far as they are reckoned. -/
def atK (w : Nat → Nat) (k : Nat) : Nat → Nat := fun j => if j < k then sumF w j else 0
theorem atK_zero {w : Nat → Nat} : atK w 0 = fun _ => 0 := by funext j; unfold atK; simp
theorem atK_next {w : Nat → Nat} {k : Nat} : updF (atK w k) k (sumF w k) = atK w (k + 1) := by
  funext j
  unfold updF atK
  by_cases e : j = k
  · subst e; rw [if_pos rfl, if_pos (by omega)]
  · rw [if_neg e]
    by_cases h : j < k
    · rw [if_pos h, if_pos (by omega)]
    · rw [if_neg h, if_neg (by omega)]
theorem atK_all {w : Nat → Nat} {n : Nat} : rngL n (natF (atK w n)) = rngL n (natF (sumF w)) := by
  unfold rngL
  refine List.map_congr_left fun j hj => ?_
  unfold natF atK
  rw [if_pos (List.mem_range.1 hj)]
/-! ### Rows -/
def txF (w : Nat → Nat) (T : List Int) : Nat → Nat → Int
  | 0 => fun _ => 0
  | k + 1 => updF (txF w T k) (sumF w k + w k) (T.getD k 0)
def prF (w : Nat → Nat) (l : List Int) (f : Nat → Int) (y : Int × Int) : Nat → Int :=
  if (decide (y.1 > 0) && decide (y.2 > 0)) = true then updF f (sumF w (y.1 - 1).toNat + w (y.1 - 1).toNat) (l.getD (y.2 - 1).toNat 0) else f
def alS (w : Nat → Nat) (l : List Int) (s : (Nat → Int) × (Nat → Nat)) (q : Int × Int) : (Nat → Int) × (Nat → Nat) :=
  (updF s.1 (sumF w q.1.toNat + s.2 q.1.toNat) (l.getD q.2.toNat 0), updF s.2 q.1.toNat (s.2 q.1.toNat + 1))
def alP (w : Nat → Nat) (l : List Int) (f : Nat → Int) (pre : List (Int × Int)) : (Nat → Int) × (Nat → Nat) := pre.foldl (alS w l) (f, fun _ => 0)
theorem alP_cnt {w : Nat → Nat} {l : List Int} {f : Nat → Int} {pre : List (Int × Int)} : (alP w l f pre).2 = cnt pre := by
  have key : ∀ (f : Nat → Int) (c : Nat → Nat), (pre.foldl (alS w l) (f, c)).2 = pre.foldl (fun c q => updF c q.1.toNat (c q.1.toNat + 1)) c := by
    induction pre with
    | nil => intro f c; rfl
    | cons q pre ih => intro f c; rw [List.foldl_cons, List.foldl_cons]; exact ih _ _
  exact key f _
theorem alP_snoc {w : Nat → Nat} {l : List Int} {f : Nat → Int} {pre : List (Int × Int)} {q : Int × Int} : (alP w l f (pre ++ [q])).1 = updF (alP w l f pre).1 (sumF w q.1.toNat + cnt pre q.1.toNat) (l.getD q.2.toNat 0) := by
  rw [← alP_cnt (w := w) (l := l) (f := f)]
  unfold alP
  rw [List.foldl_append]; rfl
def rowF (w : Nat → Nat) (T l : List Int) (i : Nat) (ps : List (Int × Int)) : Nat → Int :=
  (alP w l (ps.foldl (prF w l) (if i = 0 then txF w T T.length else fun _ => 0)) (aloL ps)).1
theorem prF_next {w : Nat → Nat} {l : List Int} {f : Nat → Int} {ps : List (Int × Int)} {k : Nat} {y : Int × Int} (hy : ps[k]? = some y) : (ps.take (k + 1)).foldl (prF w l) f = prF w l ((ps.take k).foldl (prF w l) f) y := by
  rw [List.take_add_one, hy, List.foldl_append]; rfl
/-! ### A table -/
def codesW (x : Wr) : List Int := x.rs.map codeR
def csW (xs : List Wr) (i : Nat) : List Int := ((xs[i]?).map codesW).getD []
def pfW (xs : List Wr) (i : Nat) : List (Int × Int) := if i = 0 then [] else pairR (csW xs 0) (csW xs i)
def alW (xs : List Wr) (i : Nat) : List (Int × Int) := aloL (pfW xs i)
def wdW (xs : List Wr) : Nat → Nat := wdF (alW xs) xs.length
def loW (xs : List Wr) : Nat := sumF (wdW xs) ((csW xs 0).length + 1) - 1
def rowW (xs : List Wr) (i : Nat) : List Int := rngL (loW xs) (rowF (wdW xs) (csW xs 0) (csW xs i) i (pfW xs i))
def tabE (xs : List Wr) : Int := if (chkW xs != 0 || xs.length == 0) = true then chkW xs else if loW xs > 256 then 2 else 0
def tabR (xs : List Wr) : List (List Int) := if (chkW xs != 0 || xs.length == 0) = true ∨ loW xs > 256 then [] else (List.range xs.length).map (rowW xs)
theorem tab_1 {xs : List Wr} (h : (chkW xs != 0 || xs.length == 0) = true) : tabE xs = chkW xs ∧ tabR xs = [] := by unfold tabE tabR; rw [if_pos h, if_pos (.inl h)]; exact ⟨rfl, rfl⟩
theorem tab_2 {xs : List Wr} (h : (chkW xs != 0 || xs.length == 0) = false) (h2 : loW xs > 256) : tabE xs = 2 ∧ tabR xs = [] := by unfold tabE tabR; rw [if_neg (by rw [h]; decide), if_pos h2, if_pos (.inr h2)]; exact ⟨rfl, rfl⟩
theorem tab_3 {xs : List Wr} (h : (chkW xs != 0 || xs.length == 0) = false) (h2 : ¬ loW xs > 256) : tabE xs = 0 ∧ tabR xs = (List.range xs.length).map (rowW xs) := by unfold tabE tabR; rw [if_neg (by rw [h]; decide), if_neg h2, if_neg (by rw [h]; simp; omega)]; exact ⟨rfl, rfl⟩
theorem csW_at {xs : List Wr} {i : Nat} {x : Wr} (h : xs[i]? = some x) : csW xs i = x.rs.map codeR := by unfold csW; rw [h]; rfl
theorem alW_zero {xs : List Wr} : alW xs 0 = [] := rfl
/-! ### What lies in alignments -/
def QOK (m n : Nat) (p : Int × Int) : Prop := ∃ i k : Nat, p = ((i : Int), (k : Int)) ∧ i ≤ m ∧ k ≤ n ∧ (0 < i ∨ 0 < k)
theorem pa_ok {a b : List Int} : ∀ (f i k : Nat), i ≤ a.length → k ≤ b.length → (∀ p ∈ paF a b f i k, QOK a.length b.length p) ∧ (paF a b f i k).length ≤ f
  | 0, _, _, _, _ => ⟨(fun p hp => by cases hp), Nat.le_refl _⟩
  | f + 1, i, k, hi, hk => by
    unfold paF
    split
    · rename_i hg
      split
      · rename_i hb
        have h1 : i < a.length ∧ k < b.length := by unfold bothP at hb; simp at hb; omega
        have ih := pa_ok f (i + 1) (k + 1) h1.1 h1.2
        refine ⟨fun p hp => ?_, by rw [List.length_cons]; omega⟩
        rcases List.mem_cons.1 hp with rfl | hp
        · exact ⟨i + 1, k + 1, rfl, h1.1, h1.2, by omega⟩
        · exact ih.1 p hp
      · rename_i hb
        split
        · rename_i ho
          have h1 : i < a.length := by unfold oneP at ho; simp at ho; omega
          have ih := pa_ok f (i + 1) k h1 hk
          refine ⟨fun p hp => ?_, by rw [List.length_cons]; omega⟩
          rcases List.mem_cons.1 hp with rfl | hp
          · exact ⟨i + 1, 0, rfl, h1, Nat.zero_le _, by omega⟩
          · exact ih.1 p hp
        · rename_i ho
          have h1 : k < b.length := two_lt hi hk (by simp at hg; omega) (by simpa using hb) (by simpa using ho)
          have ih := pa_ok f i (k + 1) hi h1
          refine ⟨fun p hp => ?_, by rw [List.length_cons]; omega⟩
          rcases List.mem_cons.1 hp with rfl | hp
          · exact ⟨0, k + 1, rfl, Nat.zero_le _, h1, by omega⟩
          · exact ih.1 p hp
    · exact ⟨(fun p hp => by cases hp), Nat.zero_le _⟩
theorem pairR_okQ {a b : List Int} : (∀ p ∈ pairR a b, QOK a.length b.length p) ∧ (pairR a b).length ≤ a.length + b.length := by
  unfold pairR
  split
  · exact ⟨(fun p hp => by cases hp), Nat.zero_le _⟩
  · exact pa_ok _ 0 0 (Nat.zero_le _) (Nat.zero_le _)
theorem alo_ok {m n : Nat} : ∀ (ps : List (Int × Int)) (a : Nat), a ≤ m → (∀ p ∈ ps, QOK m n p) → (∀ q ∈ aloF (a : Int) ps, ∃ c r : Nat, q = ((c : Int), (r : Int)) ∧ c ≤ m ∧ r < n) ∧ (aloF (a : Int) ps).length ≤ ps.length
  | [], _, _, _ => ⟨(fun q hq => by cases hq), Nat.le_refl _⟩
  | p :: ps, a, ha, h => by
    obtain ⟨i, k, rfl, hi, hk, h0⟩ := h p (List.mem_cons_self ..)
    unfold aloF
    split
    · have ih := alo_ok ps i hi fun p hp => h p (List.mem_cons_of_mem _ hp)
      exact ⟨ih.1, Nat.le_succ_of_le ih.2⟩
    · rename_i hn
      have hi0 : i = 0 := by simp at hn; omega
      have ih := alo_ok ps a ha fun p hp => h p (List.mem_cons_of_mem _ hp)
      refine ⟨fun q hq => ?_, by rw [List.length_cons, List.length_cons]; omega⟩
      rcases List.mem_cons.1 hq with rfl | hq
      · exact ⟨a, k - 1, by simp; omega, ha, by omega⟩
      · exact ih.1 q hq
theorem pfW_ok {xs : List Wr} {i : Nat} : (∀ p ∈ pfW xs i, QOK (csW xs 0).length (csW xs i).length p) ∧ (pfW xs i).length ≤ (csW xs 0).length + (csW xs i).length := by
  unfold pfW
  split
  · exact ⟨(fun p hp => by cases hp), Nat.zero_le _⟩
  · exact pairR_okQ
theorem alW_ok {xs : List Wr} {i : Nat} : (∀ q ∈ alW xs i, ∃ c r : Nat, q = ((c : Int), (r : Int)) ∧ c ≤ (csW xs 0).length ∧ r < (csW xs i).length) ∧ (alW xs i).length ≤ (csW xs 0).length + (csW xs i).length := by
  have h := alo_ok (pfW xs i) 0 (Nat.zero_le _) (pfW_ok (xs := xs) (i := i)).1
  exact ⟨h.1, Nat.le_trans h.2 pfW_ok.2⟩
theorem csW_len {xs : List Wr} {i B : Nat} (h : ∀ x ∈ xs, x.rs.length ≤ B) : (csW xs i).length ≤ B := by
  unfold csW
  cases hx : xs[i]? with
  | none => exact Nat.zero_le _
  | some x =>
    have := h x (List.mem_of_getElem? hx)
    show (x.rs.map codeR).length ≤ B
    rw [List.length_map]; exact this
/-- Pairs that are put in, one after another. -/
def PrQ (I : HMap) (xs : List Wr) (hs : List Hd) (i : Nat) : Prop := ∀ j, j < i → ∃ h, hs[j]? = some h ∧ h.n = (pfW xs j).length ∧ Sl I 2 encQ h.a h.n h.c (pfW xs j)
theorem PrQ.mono {I I' : HMap} {xs : List Wr} {hs : List Hd} {i : Nat} (h : PrQ I xs hs i) (hI : HLe I I') : PrQ I' xs hs i := fun j hj => by
  obtain ⟨x, h1, h2, h3⟩ := h j hj; exact ⟨x, h1, h2, h3.mono hI⟩
theorem PrQ.start {I : HMap} {xs : List Wr} {n : Nat} (hn : 0 < n) : PrQ I xs (List.replicate n ⟨none, 0, 0⟩) 1 := fun j hj => by
  obtain rfl : j = 0 := by omega
  exact ⟨_, by simp [hn]; rfl, rfl, .nil⟩
theorem PrQ.put {I : HMap} {xs : List Wr} {hs : List Hd} {i : Nat} {a : Option Addr} {n c : Nat} (h : PrQ I xs hs i) (hi : 0 < i) (hil : i < hs.length) (hS : Sl I 2 encQ a n c (pairR (csW xs 0) (csW xs i))) : PrQ I xs (hs.set i ⟨a, n, c⟩) (i + 1) := fun j hj => by
  have hp : pfW xs i = pairR (csW xs 0) (csW xs i) := by unfold pfW; rw [if_neg (by omega)]
  by_cases e : j = i
  · subst e
    exact ⟨⟨a, n, c⟩, by rw [List.getElem?_set_self hil], by rw [hp]; exact hS.len.symm, by rw [hp]; exact hS⟩
  · obtain ⟨x, h1, h2, h3⟩ := h j (by omega)
    exact ⟨x, by rw [List.getElem?_set_ne (Ne.symm e)]; exact h1, h2, h3⟩
end Go.Proofs.YthcffaheamikgaaGreatDoor
end
section
namespace Go.Proofs.YthcffaheamikgaaGreatDoor
open Go Go.Kn Go.Proofs
theorem cellsI_setN (row : List Int) (m : Nat) (b : Int) : (cellsI row).setIfInBounds (m * 1) (.int .i64 b) = cellsI (row.set m b) := by
  unfold cellsI
  rw [cellsI_eq, cellsI_eq, Nat.mul_one, List.setIfInBounds_toArray, List.map_set]
theorem bltN {row : List Int} {m : Nat} (h : m < row.length) : Nat.blt (m * 1) (cellsI row).size = true := by
  unfold cellsI
  rw [cellsI_eq, Nat.mul_one]
  simpa [Nat.blt_eq] using h
theorem cellH_at {I : HMap} {b t k : Nat} {hs : List Hd} {h : Hd} {l : Go.Kn.Loc} (e : hs[k]? = some h) : Cell I ((b, .cells (cellsH hs) t (0, 0)) :: l) b (k * 1) (.slice h.a h.n h.c) := by
  refine .here ?_
  rw [lget_eq]
  unfold cellsH
  rw [flat_H1, Nat.mul_one]
  simp [e]
theorem chkW_ok {xs : List Wr} (h : (chkW xs != 0 || xs.length == 0) = false) : chkW xs = 0 ∧ 0 < xs.length ∧ xs.length ≤ 24 ∧ ∀ x ∈ xs, x.rs.length ≤ 64 := by
  have h1 : chkW xs = 0 ∧ ¬ xs.length = 0 := by simpa using h
  obtain ⟨h1, h2⟩ := h1
  unfold chkW at h1
  split at h1
  · cases h1
  · rename_i h3
    split at h1
    · cases h1
    · rename_i h4
      refine ⟨by unfold chkW; rw [if_neg h3, if_neg h4]; exact h1, by omega, by omega, fun x hx => ?_⟩
      have h5 : xs.any (fun x => decide (x.rs.length > 64)) = false := by simpa using h4
      have := List.any_eq_false.1 h5 x hx
      simp at this; omega
theorem alW_in {xs : List Wr} {i : Nat} {q : Int × Int} {pre : List (Int × Int)} (h : pre ++ [q] <+: alW xs i) : 0 ≤ q.1 ∧ q.1.toNat < (csW xs 0).length + 1 ∧ 0 ≤ q.2 ∧ q.2.toNat < (csW xs i).length ∧ cnt pre q.1.toNat < cnt (alW xs i) q.1.toNat := by
  obtain ⟨c, r, rfl, h1, h2⟩ := alW_ok.1 q (h.subset (by simp))
  have h3 := cnt_pre (a := ((c : Int), (r : Int)).1.toNat) h
  rw [cnt_one rfl] at h3
  exact ⟨by simp, by simp; omega, by simp, by simpa using h2, h3⟩
theorem alW_b {xs : List Wr} (h : ∀ x ∈ xs, x.rs.length ≤ 64) (i : Nat) : (alW xs i).length ≤ 128 := by
  have h1 := (alW_ok (xs := xs) (i := i)).2
  have h2 := csW_len (i := 0) h
  have h3 := csW_len (i := i) h
  omega
theorem pfW_in {xs : List Wr} {i k : Nat} {y : Int × Int} (h : (pfW xs i)[k]? = some y) : 0 ≤ y.1 ∧ y.1 ≤ (csW xs 0).length ∧ 0 ≤ y.2 ∧ y.2 ≤ (csW xs i).length := by
  obtain ⟨a, b, rfl, h1, h2, _⟩ := pfW_ok.1 y (List.mem_of_getElem? h)
  simp; omega
theorem pfW_2 {xs : List Wr} (hb : ∀ x ∈ xs, x.rs.length ≤ 64) (i : Nat) : ∀ p ∈ pfW xs i, -1000000 ≤ p.2 ∧ p.2 ≤ 1000000 := fun p hp => by
  obtain ⟨a, b, rfl, h1, h2, _⟩ := pfW_ok.1 p hp
  have := csW_len (i := i) hb
  simp; omega
theorem pos_lt {xs : List Wr} {k : Nat} (h : k < (csW xs 0).length) : sumF (wdW xs) k + wdW xs k < loW xs := by
  have h1 := sumF_lt (w := wdW xs) (show k < k + 1 by omega)
  have h2 := sumF_lt (w := wdW xs) (show k + 1 < (csW xs 0).length + 1 by omega)
  have h3 : sumF (wdW xs) (k + 1) = sumF (wdW xs) k + (wdW xs k + 1) := rfl
  unfold loW; omega
theorem pos_lt2 {xs : List Wr} {a i c : Nat} (ha : a < (csW xs 0).length + 1) (hi : i < xs.length) (hc : c < cnt (alW xs i) a) : sumF (wdW xs) a + c < loW xs := by
  have h1 := sumF_lt (w := wdW xs) ha
  have h2 : cnt (alW xs i) a ≤ wdW xs a := wdF_ge hi
  unfold loW; omega
theorem lo_eq {xs : List Wr} : ((sumF (wdW xs) ((csW xs 0).length + 1) : Nat) : Int) - 1 = ((loW xs : Nat) : Int) := by
  have := sumF_ge (w := wdW xs) ((csW xs 0).length + 1)
  unfold loW; omega
theorem prF_yes {w : Nat → Nat} {l : List Int} {f : Nat → Int} {y : Int × Int} (h : (decide (y.1 > 0) && decide (y.2 > 0)) = true) : prF w l f y = updF f (sumF w (y.1 - 1).toNat + w (y.1 - 1).toNat) (l.getD (y.2 - 1).toNat 0) := by unfold prF; rw [if_pos h]
theorem prF_no {w : Nat → Nat} {l : List Int} {f : Nat → Int} {y : Int × Int} (h : (decide (y.1 > 0) && decide (y.2 > 0)) = false) : prF w l f y = f := by unfold prF; rw [if_neg (by rw [h]; decide)]
theorem natF_max {f g : Nat → Nat} {a : Nat} : maxI (natF f a) (natF g a) = ((max (f a) (g a) : Nat) : Int) := maxI_nat
theorem natF_in {f : Nat → Nat} {a B : Nat} (h : f a ≤ B) : 0 ≤ natF f a ∧ natF f a ≤ (B : Int) := by unfold natF; omega
theorem len_zero {n : Nat} : ((n : Int) == 0) = (n == 0) := by rw [Bool.eq_iff_iff]; simp
end Go.Proofs.YthcffaheamikgaaGreatDoor
end
section
namespace Go.Proofs.YthcffaheamikgaaGreatDoor
open Go Go.Kn Go.Proofs
theorem fun_41 : Fun Tryz.prog 41 := .of Tryz.func41 (by kernel_rfl) (by kernel_rfl)
theorem fun_42 : Fun Tryz.prog 42 := .of Tryz.func42 (by kernel_rfl) (by kernel_rfl)
theorem fun_43 : Fun Tryz.prog 43 := .of Tryz.func43 (by kernel_rfl) (by kernel_rfl)
theorem fun_44 : Fun Tryz.prog 44 := .of Tryz.func44 (by kernel_rfl) (by kernel_rfl)
theorem mkt_87 : MkT Tryz.prog 87 88 24 (.slice none 0 0) := ⟨by kernel_rfl, by kernel_rfl, rfl⟩
theorem slt_87 : SlT Tryz.prog 87 88 1 := .of (by kernel_rfl)
theorem szt_88 : SzT Tryz.prog 88 1 := .of (by kernel_rfl)
set_option maxHeartbeats 40000000 in
theorem w_Table {I : HMap} {av : Option Addr} {n c : Nat} {xs : List Wr} (hW0 : SlW I av n c xs) (hn : n ≤ 100000) : RetM Tryz.prog 16 [.slice av n c] I [] (SlNTup (tabE xs) (tabR xs)) := by
 intro g H w hw
 refine enterMs Tryz.func16 rfl Tryz.ntmps16 rfl hw ?_
 have hIc := HLe.refl I
 obtain ⟨ws, hW⟩ := id hW0
 have hH := hW.1
 have hlW := hW.len
 subst hlW
 refine X_seq (X_region ?_)
 refine zA ?_
 refine zA ?_
 refine XO_nil (at_then ?_)
 refine X_seq ?_
 refine X_seq (X_region ?_)
 refine zM ?_
 refine XO_callV0 (cap := []) (vs := [_]) rfl rfl fun_41 (w_chkW hW0 hn) rfl rfl ?_
 refine zA ?_
 refine XO_nil (at_then (X_seq (X_region ?_)))
 refine zM ?_
 refine zC ?_
 refine zM ?_
 refine XO_pushF 2 rfl rfl rfl ?_
 refine XO_v1 (ev_move rfl) (.some rfl rfl rfl rfl gbf) rfl rfl rfl ?_
 refine XO_v1 (ev_lenS rfl slt_31) (.some rfl rfl rfl rfl gbf) rfl rfl rfl ?_
 refine XO_v1 (ev_cmp rfl rfl rfl) (.some rfl rfl rfl rfl gbf) rfl rfl rfl ?_
 refine XO_or0 rfl rfl rfl rfl rfl ?_
 refine XO_nil (at_then ?_)
 refine X_cond rfl (fun hc33 => ?_) (fun hc33 => ?_)
 ·
  rw [len_zero] at hc33
  refine X_seq (X_region ?_)
  refine zM ?_
  refine zA ?_
  refine zA ?_
  refine XO_nil (at_then ?_)
  refine X_ret ?_
  refine at_then_r ?_
  first
  | exact at_retMs (L := []) (fun a ha w hw => res2 rfl rfl rfl a ha w) (fun w hw => ⟨_, I, [], rfl, hIc, hw.drop, by rw [(tab_1 hc33).1]; exact SlNTup.empty (tab_1 hc33).2⟩)
 ·
  rw [len_zero] at hc33
  obtain ⟨hck, hx1, hx24, hrs⟩ := chkW_ok hc33
  obtain ⟨w0, x0, hx0, hv0, e01, e02, hR0⟩ := hW.at (k := 0) (by omega)
  have hcs0 : x0.rs.map codeR = csW xs 0 := (csW_at hv0).symm
  have hM64 := csW_len (i := 0) hrs
  have hR0l := hR0.len
  have hx0b := hrs x0 (List.mem_of_getElem? hv0)
  refine X_skip ?_
  refine at_then ?_
  refine X_seq (X_region ?_)
  refine zM ?_
  refine XO_v0 (ev_indexSl rfl rfl slt_31 hH (fun hg => by first | omega | (simp [conj] at hg; omega))) rfl rfl rfl ?_
  refine XO_v0 (ev_loadA rfl agt_54 (fun hg => by exact Sl.getA hH hx0) rfl) rfl rfl rfl ?_
  refine XO_callM (cap := []) (vs := [_]) rfl rfl fun_42 .nil (w_codes hR0 (by omega) _ _) rfl rfl ?_
  rintro vv1 I1 L1 hI1 ⟨rfl, av4, c4, rfl, hT⟩
  have hW0 := hW0.mono hI1
  have hW := hW.mono hI1
  have hH := hH.mono hI1
  have hIc := hIc.trans hI1
  rw [hcs0] at hT ⊢
  refine zA ?_
  refine XO_nil (at_then (X_seq (X_region ?_)))
  refine zM ?_
  refine XO_v0 (ev_lenS rfl slt_31) rfl rfl rfl ?_
  refine XO_makeSlice mkt_87 rfl rfl (by first | omega | (simp; omega)) (by decide) rfl rfl (fun b_41 => ?_)
  refine zA ?_
  refine XO_nil ?_
  rw [show ((xs.length : Nat) : Int).toNat = xs.length from rfl, cellsH_new]
  refine at_then ?_
  refine X_seq (X_region ?_)
  refine zM ?_
  refine XO_v0 (ev_lenS rfl slt_23) rfl rfl rfl ?_
  refine zB ?_
  refine XO_makeSlice mkt_23 rfl rfl (by first | omega | (simp; omega)) (by decide) rfl rfl (fun b_45 => ?_)
  refine XO_alloc zt_23 rfl rfl (fun b_6 => ?_)
  refine zS szt_23 ?_
  refine XO_nil ?_
  have e1 : (((csW xs 0).length : Nat) : Int) + 1 = (((csW xs 0).length + 1 : Nat) : Int) := rfl
  rw [e1, show (((csW xs 0).length + 1 : Nat) : Int).toNat = (csW xs 0).length + 1 from rfl, cellsI_new, rngL_zero, nat_zero]
  refine X_freeze (b := b_6) (by repeat (first | exact Take.here | apply Take.there)) (fun I2 hI2 hb2 => ?_)
  have hW0 := hW0.mono hI2
  have hW := hW.mono hI2
  have hH := hH.mono hI2
  have hT := hT.mono hI2
  have hIc := hIc.trans hI2
  have hC6 : Cell I2 [] b_6 0 (.slice (some ⟨b_45, 0, none⟩) ((csW xs 0).length + 1) ((csW xs 0).length + 1)) := .imm hb2 rfl
  refine at_then ?_
  refine X_seq ?_
  refine X_seq ?_
  have hw1 := wdF_one (al := alW xs) alW_zero
  refine X_locEq (loc' := (b_45, .cells (cellsI (rngL ((csW xs 0).length + 1) (natF (wdF (alW xs) 1)))) 3 (0, 0)) :: (b_41, .cells (cellsH (List.replicate xs.length ⟨none, 0, 0⟩)) 88 (0, 0)) :: MB []) (by rw [hw1]; rfl) ?_
  refine X_region ?_
  refine zA ?_
  refine XO_nil (at_then ?_)
  refine X_block ?_
  refine X_loopM [(0, _), (2, _), (4, _), (5, _), (6, _)] (.cons rfl (.cons rfl (.cons rfl (.cons rfl (.cons rfl .nil))))) (fun T L0 mz ms E I' loc' => ∃ (i : Nat) (hs : List Hd), mz = xs.length - i ∧ E = (7, .int .i64 i) :: T ∧ HLe I2 I' ∧ (b_45, .cells (cellsI (rngL ((csW xs 0).length + 1) (natF (wdF (alW xs) i)))) 3 (0, 0)) :: (b_41, .cells (cellsH hs) 88 (0, 0)) :: MB ms = loc' ∧ i ≤ xs.length ∧ 1 ≤ i ∧ hs.length = xs.length ∧ PrQ I' xs hs i) _ _ _ _ ⟨1, _, rfl, rfl, HLe.refl _, rfl, hx1, Nat.le_refl _, by rw [List.length_replicate], PrQ.start hx1⟩ (.cons rfl (.cons rfl (.cons rfl (.cons rfl (.cons rfl (.cons rfl .nil)))))) (HLe.refl _) rfl ?_
  rintro mz ms E J3 loc' ⟨i, hs, rfl, rfl, hJ, rfl, hi, hi1, hhl, hPr⟩
  have hW0 := hW0.mono hJ
  have hW := hW.mono hJ
  have hH := hH.mono hJ
  have hT := hT.mono hJ
  have hC6 := hC6.mono hJ
  have hIc := hIc.trans hJ
  have hB0 := hJ
  refine X_seq ?_
  refine X_seq (X_region ?_)
  refine zM ?_
  refine zM ?_
  refine XO_v0 (ev_lenS rfl slt_31) rfl rfl rfl ?_
  refine zC ?_
  refine XO_nil (at_then ?_)
  refine X_cond rfl (fun hc49 => ?_) (fun hc49 => ?_)
  ·
   have hlt_i : i < xs.length := by have h := hc49; simp at h; omega
   obtain ⟨w, x, hx, hv, e1, e2, hR⟩ := hW.at hlt_i
   have hcsi : x.rs.map codeR = csW xs i := (csW_at hv).symm
   have hMi := csW_len (i := i) hrs
   have hRl := hR.len
   have hxb := hrs x (List.mem_of_getElem? hv)
   refine X_skip ?_
   refine at_then ?_
   refine X_seq ?_
   refine X_block ?_
   refine X_seq (X_region ?_)
   refine zM ?_
   refine zM ?_
   refine zM ?_
   refine zM ?_
   refine zM ?_
   refine XO_v0 (ev_indexSl rfl rfl slt_31 hH (fun hg => by first | omega | (simp [conj] at hg; omega))) rfl rfl rfl ?_
   refine XO_v0 (ev_loadA rfl agt_54 (fun hg => by exact Sl.getA hH hx) rfl) rfl rfl rfl ?_
   refine XO_callM (cap := []) (vs := [_]) rfl rfl fun_42 .nil (w_codes hR (by omega) _ _) rfl rfl ?_
   rintro vv4 I4 L4 hI4 ⟨rfl, av7, c7, rfl, hT7⟩
   have hW0 := hW0.mono hI4
   have hW := hW.mono hI4
   have hH := hH.mono hI4
   have hT := hT.mono hI4
   have hC6 := hC6.mono hI4
   have hPr := hPr.mono hI4
   have hR := hR.mono hI4
   have hIc := hIc.trans hI4
   have hB0 := hB0.trans hI4
   rw [hcsi] at hT7 ⊢
   refine XO_callM (cap := []) (vs := [_, _]) rfl rfl fun_43 .nil (w_Pair hT hT7 (by omega) (by omega)) rfl rfl ?_
   rintro vv5 I5 L5 hI5 ⟨rfl, z8, av8, c8, rfl, hP8⟩
   have hW0 := hW0.mono hI5
   have hW := hW.mono hI5
   have hH := hH.mono hI5
   have hT := hT.mono hI5
   have hC6 := hC6.mono hI5
   have hPr := hPr.mono hI5
   have hR := hR.mono hI5
   have hT7 := hT7.mono hI5
   have hIc := hIc.trans hI5
   have hB0 := hB0.trans hI5
   refine zM ?_
   refine XO_v0 (ev_extract rfl rfl) rfl rfl rfl ?_
   refine XO_v0 (ev_extract rfl rfl) rfl rfl rfl ?_
   refine XO_v0 (ev_extract rfl rfl) rfl rfl rfl ?_
   refine XO_v0 (ev_indexOwn rfl rfl slt_87 (fun hg => by first | omega | (simp [conj] at hg; omega))) rfl rfl rfl ?_
   refine XO_store rfl rfl szt_88 rfl rfl (by repeat (first | exact Upd.here | apply Upd.there | apply upd_app)) (bltH (by omega)) ?_
   refine XO_nil ?_
   rw [show (#[Value.int .i64 z8, Value.slice av8 (pairR (csW xs 0) (csW xs i)).length c8, Value.int .i64 (pairE (csW xs 0) (csW xs i))] : Array Value)[1] = Value.slice av8 (pairR (csW xs 0) (csW xs i)).length c8 from rfl, cellsH_set]
   have hPr2 := hPr.put (by omega) (by omega) hP8
   have hs2_at : (hs.set i ⟨av8, (pairR (csW xs 0) (csW xs i)).length, c8⟩)[i]? = some ⟨av8, (pairR (csW xs 0) (csW xs i)).length, c8⟩ := List.getElem?_set_self (by omega)
   have hpfe : pfW xs i = pairR (csW xs 0) (csW xs i) := by unfold pfW; rw [if_neg (by omega)]
   have hPi : Sl I5 2 encQ av8 (pairR (csW xs 0) (csW xs i)).length c8 (pfW xs i) := by rw [hpfe]; exact hP8
   have hpl := (pfW_ok (xs := xs) (i := i)).2
   have hpr := (pairR_okQ (a := (csW xs 0)) (b := (csW xs i))).2
   refine at_then ?_
   refine X_seq (X_region ?_)
   refine zM ?_
   refine XO_v0 (ev_lenS rfl slt_23) rfl rfl rfl ?_
   refine zB ?_
   refine XO_makeSlice mkt_23 rfl rfl (by first | omega | (simp; omega)) (by decide) rfl rfl (fun b_69 => ?_)
   refine XO_alloc zt_23 rfl rfl (fun b_8 => ?_)
   refine zS szt_23 ?_
   refine XO_nil ?_
   have e1 : (((csW xs 0).length : Nat) : Int) + 1 = (((csW xs 0).length + 1 : Nat) : Int) := rfl
   rw [e1, show (((csW xs 0).length + 1 : Nat) : Int).toNat = (csW xs 0).length + 1 from rfl, cellsI_new, rngL_zero, nat_zero]
   refine X_freeze (b := b_8) (by repeat (first | exact Take.here | apply Take.there)) (fun I6 hI6 hb6 => ?_)
   have hW0 := hW0.mono hI6
   have hW := hW.mono hI6
   have hH := hH.mono hI6
   have hT := hT.mono hI6
   have hC6 := hC6.mono hI6
   have hPr := hPr.mono hI6
   have hR := hR.mono hI6
   have hT7 := hT7.mono hI6
   have hP8 := hP8.mono hI6
   have hPr2 := hPr2.mono hI6
   have hPi := hPi.mono hI6
   have hIc := hIc.trans hI6
   have hB0 := hB0.trans hI6
   have hC8 : Cell I6 [] b_8 0 (.slice (some ⟨b_69, 0, none⟩) ((csW xs 0).length + 1) ((csW xs 0).length + 1)) := .imm hb6 rfl
   refine at_then ?_
   refine X_seq (X_region ?_)
   refine zM ?_
   refine zM ?_
   refine XO_v0 (ev_indexOwn rfl rfl slt_87 (fun hg => by first | omega | (simp [conj] at hg; omega))) rfl rfl rfl ?_
   refine XO_v0 (ev_load rfl sct_88 (fun hg => by exact Cell.there (Cell.there (cellH_at hs2_at)))) rfl rfl rfl ?_
   refine XO_callM (cap := []) (vs := [_]) rfl rfl fun_44 .nil (w_alone _ _ _ _) rfl rfl ?_
   rintro vv7 I7 L7 hI7 ⟨rfl, b1, rfl, hb1⟩
   have hW0 := hW0.mono hI7
   have hW := hW.mono hI7
   have hH := hH.mono hI7
   have hT := hT.mono hI7
   have hC6 := hC6.mono hI7
   have hPr := hPr.mono hI7
   have hR := hR.mono hI7
   have hT7 := hT7.mono hI7
   have hP8 := hP8.mono hI7
   have hPr2 := hPr2.mono hI7
   have hPi := hPi.mono hI7
   have hC8 := hC8.mono hI7
   have hIc := hIc.trans hI7
   have hB0 := hB0.trans hI7
   refine XO_nil (at_then ?_)
   refine X_block ?_
   refine X_locEq (loc' := [] ++ (((b_69, .cells (cellsI (rngL ((csW xs 0).length + 1) (natF (cnt [])))) 3 (0, 0)) :: (b_45, .cells (cellsI (rngL ((csW xs 0).length + 1) (natF (wmx (wdF (alW xs) i) [])))) 3 (0, 0)) :: (b_41, .cells (cellsH (hs.set i ⟨av8, (pairR (csW xs 0) (csW xs i)).length, c8⟩)) 88 (0, 0)) :: []) ++ MB ms)) (by rw [wmx_nil]; rfl) ?_
   refine X_rangeFuncM2 (K := []) (L := (b_69, .cells (cellsI (rngL ((csW xs 0).length + 1) (natF (cnt [])))) 3 (0, 0)) :: (b_45, .cells (cellsI (rngL ((csW xs 0).length + 1) (natF (wmx (wdF (alW xs) i) [])))) 3 (0, 0)) :: (b_41, .cells (cellsH (hs.set i ⟨av8, (pairR (csW xs 0) (csW xs i)).length, c8⟩)) 88 (0, 0)) :: []) (en1 := en1Q) (en2 := en2Q) (xs := alW xs i) (fun pre I' loc' => loc' = (b_69, .cells (cellsI (rngL ((csW xs 0).length + 1) (natF (cnt pre)))) 3 (0, 0)) :: (b_45, .cells (cellsI (rngL ((csW xs 0).length + 1) (natF (wmx (wdF (alW xs) i) pre)))) 3 (0, 0)) :: (b_41, .cells (cellsH (hs.set i ⟨av8, (pairR (csW xs 0) (csW xs i)).length, c8⟩)) 88 (0, 0)) :: []) (fun _ _ _ _ => False) (fun pre x E2 I2 loc2 => E2 = [(6, capP b_6), (8, capP b_8), (9, .int .i64 x.1)] ∧ loc2 = (b_69, .cells (cellsI (rngL ((csW xs 0).length + 1) (natF (cnt pre)))) 3 (0, 0)) :: (b_45, .cells (cellsI (rngL ((csW xs 0).length + 1) (natF (wmx (wdF (alW xs) i) pre)))) 3 (0, 0)) :: (b_41, .cells (cellsH (hs.set i ⟨av8, (pairR (csW xs 0) (csW xs i)).length, c8⟩)) 88 (0, 0)) :: []) rfl fun_78 (w_aloit hPi (by omega) (pfW_2 hrs i) hb1) rfl rfl rfl ?_ ?_ ?_ ?_
   ·
    rintro l9 pre x I1 loc1 H1 hpre hI1 rfl
    refine X_region ?_
    refine zA ?_
    refine XO_nil ?_
    exact at_met' _ ⟨HLe.refl _, rfl, rfl⟩ (.cons rfl (.cons rfl (.cons rfl .nil)))
   ·
    rintro l9 pre x E2 I2 loc2 H2 hpre hI2 ⟨rfl, rfl⟩
    have hW0 := hW0.mono hI2
    have hW := hW.mono hI2
    have hH := hH.mono hI2
    have hT := hT.mono hI2
    have hC6 := hC6.mono hI2
    have hPr := hPr.mono hI2
    have hR := hR.mono hI2
    have hT7 := hT7.mono hI2
    have hP8 := hP8.mono hI2
    have hPr2 := hPr2.mono hI2
    have hPi := hPi.mono hI2
    have hC8 := hC8.mono hI2
    have hIc := hIc.trans hI2
    have hB0 := hB0.trans hI2
    obtain ⟨x1, x2, x3, x4, x5⟩ := alW_in hpre
    have hcb := Nat.le_trans (@cnt_len (alW xs i) x.1.toNat) (alW_b hrs i)
    have hnc := natF_in (f := cnt pre) (a := x.1.toNat) (B := 128) (by omega)
    refine X_block ?_
    refine X_seq (X_region ?_)
    refine XO_v0 (ev_load rfl sct_23 (fun hg => by exact hC8.any)) rfl rfl rfl ?_
    refine zM ?_
    refine XO_v0 (ev_indexOwn rfl rfl slt_23 (fun hg => by first | omega | (simp [conj] at hg; omega))) rfl rfl rfl ?_
    refine XO_v0 (ev_load rfl sct_3 (fun hg => by exact cellI_at (rngL_at (by omega)))) rfl rfl rfl ?_
    refine zB ?_
    refine XO_v0 (ev_indexOwn rfl rfl slt_23 (fun hg => by first | omega | (simp [conj] at hg; omega))) rfl rfl rfl ?_
    refine XO_store rfl rfl szt_3 rfl rfl (by repeat (first | exact Upd.here | apply Upd.there | apply upd_app)) (bltN (by rw [rngL_len]; omega)) ?_
    refine XO_nil ?_
    rw [cellsI_setN, rngL_set, show natF (cnt pre) x.1.toNat + 1 = ((cnt pre x.1.toNat + 1 : Nat) : Int) from rfl, nat_upd, ← cnt_snoc]
    refine at_then ?_
    have hD := HLe.refl I2
    refine X_noP ?_
    refine X_drawS I2 [(b_69, .cells (cellsI (rngL ((csW xs 0).length + 1) (natF (cnt (pre ++ [x]))))) 3 (0, 0))] mixed ?_
    refine XD_take 0 rfl (ev_load rfl sct_23 (fun hg => by exact hC6.any)) (.none rfl) rfl rfl rfl (by kernel_rfl) (by kernel_rfl) (by kernel_rfl) noP_ok hD (by repeat (first | exact .refl | exact subL_nil | refine .keep ?_ | refine .drop ?_ | refine subL_add ?_)) ?_
    refine XD_take 1 rfl (ev_move rfl) (.none rfl) rfl rfl rfl (by kernel_rfl) (by kernel_rfl) (by kernel_rfl) noP_ok hD (by repeat (first | exact .refl | exact subL_nil | refine .keep ?_ | refine .drop ?_ | refine subL_add ?_)) ?_
    refine XD_take 2 rfl (ev_load rfl sct_23 (fun hg => by exact hC6.any)) (.none rfl) rfl rfl rfl (by kernel_rfl) (by kernel_rfl) (by kernel_rfl) noP_ok hD (by repeat (first | exact .refl | exact subL_nil | refine .keep ?_ | refine .drop ?_ | refine subL_add ?_)) ?_
    refine XD_take 3 rfl (ev_move rfl) (.none rfl) rfl rfl rfl (by kernel_rfl) (by kernel_rfl) (by kernel_rfl) noP_ok hD (by repeat (first | exact .refl | exact subL_nil | refine .keep ?_ | refine .drop ?_ | refine subL_add ?_)) ?_
    refine XD_take 4 rfl (ev_indexOwn rfl rfl slt_23 (fun hg => by first | omega | (simp [conj] at hg; omega))) (.none rfl) rfl rfl rfl (by kernel_rfl) (by kernel_rfl) (by kernel_rfl) noP_ok hD (by repeat (first | exact .refl | exact subL_nil | refine .keep ?_ | refine .drop ?_ | refine subL_add ?_)) ?_
    refine XD_take 6 rfl (ev_load rfl sct_23 (fun hg => by exact hC8.any)) (.none rfl) rfl rfl rfl (by kernel_rfl) (by kernel_rfl) (by kernel_rfl) noP_ok hD (by repeat (first | exact .refl | exact subL_nil | refine .keep ?_ | refine .drop ?_ | refine subL_add ?_)) ?_
    refine XD_take 7 rfl (ev_move rfl) (.none rfl) rfl rfl rfl (by kernel_rfl) (by kernel_rfl) (by kernel_rfl) noP_ok hD (by repeat (first | exact .refl | exact subL_nil | refine .keep ?_ | refine .drop ?_ | refine subL_add ?_)) ?_
    refine XD_take 8 rfl (ev_indexOwn rfl rfl slt_23 (fun hg => by first | omega | (simp [conj] at hg; omega))) (.none rfl) rfl rfl rfl (by kernel_rfl) (by kernel_rfl) (by kernel_rfl) noP_ok hD (by repeat (first | exact .refl | exact subL_nil | refine .keep ?_ | refine .drop ?_ | refine subL_add ?_)) ?_
    refine XD_take 9 rfl (ev_load rfl sct_3 (fun hg => by exact cellI_at (rngL_at (by omega)))) (.none rfl) rfl rfl rfl (by kernel_rfl) (by kernel_rfl) (by kernel_rfl) noP_ok hD (by repeat (first | exact .refl | exact subL_nil | refine .keep ?_ | refine .drop ?_ | refine subL_add ?_)) ?_
    refine XD_one 5 rfl (by kernel_rfl) ?_
    refine XO_v0 (ev_load rfl sct_3 (fun hg => by exact Cell.there (cellI_at (rngL_at (by omega))))) rfl rfl rfl ?_
    refine XO_nil ?_
    refine zD hD ?_
    refine XD_take 10 rfl (ev_max rfl rfl) (.none rfl) rfl rfl rfl (by kernel_rfl) (by kernel_rfl) (by kernel_rfl) noP_ok hD (by repeat (first | exact .refl | exact subL_nil | refine .keep ?_ | refine .drop ?_ | refine subL_add ?_)) ?_
    refine XD_take 11 rfl (ev_indexOwn rfl rfl slt_23 (fun hg => by first | omega | (simp [conj] at hg; omega))) (.none rfl) rfl rfl rfl (by kernel_rfl) (by kernel_rfl) (by kernel_rfl) noP_ok hD (by repeat (first | exact .refl | exact subL_nil | refine .keep ?_ | refine .drop ?_ | refine subL_add ?_)) ?_
    refine XD_one 12 rfl (by kernel_rfl) ?_
    refine XO_store rfl rfl szt_3 rfl rfl (by repeat (first | exact Upd.here | apply Upd.there | apply upd_app)) (bltN (by rw [rngL_len]; omega)) ?_
    refine XO_nil ?_
    refine zD hD ?_
    refine XD_done (by kernel_rfl) ?_
    refine at_noP ?_
    rw [natF_max, cellsI_setN, rngL_set, nat_upd, wmx_snoc rfl]
    refine at_block_n ?_
    exact at_round2 ⟨HLe.refl _, rfl⟩ .refl
   ·
    rintro bd I1 loc1 hI1 rfl
    have hW0 := hW0.mono hI1
    have hW := hW.mono hI1
    have hH := hH.mono hI1
    have hT := hT.mono hI1
    have hC6 := hC6.mono hI1
    have hPr := hPr.mono hI1
    have hR := hR.mono hI1
    have hT7 := hT7.mono hI1
    have hP8 := hP8.mono hI1
    have hPr2 := hPr2.mono hI1
    have hPi := hPi.mono hI1
    have hC8 := hC8.mono hI1
    have hIc := hIc.trans hI1
    have hB0 := hB0.trans hI1
    refine at_block_n ?_
    refine at_block_n ?_
    refine at_then ?_
    refine X_region ?_
    refine zM ?_
    refine zB ?_
    refine zA ?_
    refine XO_nil ?_
    exact at_metM rfl rfl rfl _ _ ⟨xs.length - (i + 1), by omega, i + 1, _, rfl, rfl, hB0, rfl, by omega, by omega, by rw [List.length_set]; exact hhl, hPr2⟩ (.cons rfl (.cons rfl (.cons rfl (.cons rfl (.cons rfl (.cons rfl .nil)))))) (by repeat (first | exact .refl | exact subL_left | refine subL_app ?_ | refine .drop ?_ | refine subL_add ?_))
   ·
    rintro c bd pre I1 loc1 hI1 hpre hF; exact hF.elim
  ·
   have hge_i : xs.length ≤ i := by have h := hc49; simp at h; omega
   obtain rfl : i = xs.length := by omega
   refine X_exit ?_
   refine at_then_e ?_
   refine at_then_e ?_
   refine at_block_hit ?_
   refine at_then ?_
   refine X_seq (X_region ?_)
   refine zM ?_
   refine XO_v0 (ev_lenS rfl slt_23) rfl rfl rfl ?_
   refine zB ?_
   refine XO_makeSlice mkt_23 rfl rfl (by first | omega | (simp; omega)) (by decide) rfl rfl (fun b_98 => ?_)
   refine XO_alloc zt_23 rfl rfl (fun b_10 => ?_)
   refine zS szt_23 ?_
   refine XO_nil ?_
   have e1 : (((csW xs 0).length : Nat) : Int) + 1 = (((csW xs 0).length + 1 : Nat) : Int) := rfl
   rw [e1, show (((csW xs 0).length + 1 : Nat) : Int).toNat = (csW xs 0).length + 1 from rfl, cellsI_new, rngL_zero, nat_zero, ← atK_zero (w := (wdW xs))]
   refine X_freeze (b := b_10) (by repeat (first | exact Take.here | apply Take.there)) (fun I8 hI8 hb8 => ?_)
   have hW0 := hW0.mono hI8
   have hW := hW.mono hI8
   have hH := hH.mono hI8
   have hT := hT.mono hI8
   have hC6 := hC6.mono hI8
   have hPr := hPr.mono hI8
   have hIc := hIc.trans hI8
   have hB0 := hB0.trans hI8
   have hC10 : Cell I8 [] b_10 0 (.slice (some ⟨b_98, 0, none⟩) ((csW xs 0).length + 1) ((csW xs 0).length + 1)) := .imm hb8 rfl
   refine at_then ?_
   refine X_seq (X_region ?_)
   refine zA ?_
   refine XO_nil (at_then ?_)
   refine X_seq ?_
   refine X_seq (X_region ?_)
   refine XO_v0 (ev_load rfl sct_23 (fun hg => by exact hC6.any)) rfl rfl rfl ?_
   refine XO_v0 (ev_lenS rfl slt_23) rfl rfl rfl ?_
   refine zM ?_
   refine XO_nil (at_then ?_)
   refine X_block ?_
   refine X_loopM [(0, _), (2, _), (4, _), (5, _), (6, _), (10, _), (99, _), (100, _)] (.cons rfl (.cons rfl (.cons rfl (.cons rfl (.cons rfl (.cons rfl (.cons rfl (.cons rfl .nil)))))))) (fun T L0 mz ms E I' loc' => ∃ (k : Nat), mz = ((csW xs 0).length + 1) - k ∧ E = (11, .int .i64 ((sumF (wdW xs) k : Nat) : Int)) :: (101, .int .i64 k) :: T ∧ I8 = I' ∧ (b_98, .cells (cellsI (rngL ((csW xs 0).length + 1) (natF (atK (wdW xs) k)))) 3 (0, 0)) :: (b_45, .cells (cellsI (rngL ((csW xs 0).length + 1) (natF (wdW xs)))) 3 (0, 0)) :: (b_41, .cells (cellsH hs) 88 (0, 0)) :: MB ms = loc' ∧ k ≤ ((csW xs 0).length + 1)) _ _ _ _ ⟨0, rfl, rfl, rfl, rfl, Nat.zero_le _⟩ (.cons rfl (.cons rfl (.cons rfl (.cons rfl (.cons rfl (.cons rfl (.cons rfl (.cons rfl (.cons rfl (.cons rfl .nil)))))))))) (HLe.refl _) rfl ?_
   rintro mz ms E I' loc' ⟨k, rfl, rfl, rfl, rfl, hk⟩
   refine X_seq (X_region ?_)
   refine zC ?_
   refine XO_nil (at_then ?_)
   refine X_seq ?_
   refine X_cond rfl (fun hc102 => ?_) (fun hc102 => ?_)
   ·
    have hlt_k : k < ((csW xs 0).length + 1) := by have h := hc102; simp at h; omega
    have hns := natF_in (f := sumF (wdW xs)) (a := k) (B := 20000) (Nat.le_trans (sumF_le (wdF_le (alW_b hrs) _) k) (Nat.le_trans (Nat.mul_le_mul_right 129 (show k ≤ 65 by omega)) (by decide)))
    have hnw := natF_in (f := (wdW xs)) (a := k) (B := 128) (wdF_le (alW_b hrs) _ _)
    have e9 : natF (sumF (wdW xs)) k = ((sumF (wdW xs) k : Nat) : Int) := rfl
    refine X_skip ?_
    refine at_then ?_
    refine X_seq ?_
    refine X_block ?_
    refine X_seq (X_region ?_)
    refine zM ?_
    refine XO_v0 (ev_indexOwn rfl rfl slt_23 (fun hg => by first | omega | (simp [conj] at hg; omega))) rfl rfl rfl ?_
    refine XO_v0 (ev_load rfl sct_3 (fun hg => by exact Cell.there (cellI_at (k := k) (rngL_at (show k < _ by omega))))) rfl rfl rfl ?_
    refine zA ?_
    refine zA ?_
    refine XO_nil (at_then (X_seq (X_region ?_)))
    refine XO_v0 (ev_load rfl sct_23 (fun hg => by exact hC10.any)) rfl rfl rfl ?_
    refine zM ?_
    refine zM ?_
    refine XO_v0 (ev_indexOwn rfl rfl slt_23 (fun hg => by first | omega | (simp [conj] at hg; omega))) rfl rfl rfl ?_
    refine XO_store rfl rfl szt_3 rfl rfl (by repeat (first | exact Upd.here | apply Upd.there | apply upd_app)) (bltN (by rw [rngL_len]; omega)) ?_
    refine XO_nil ?_
    rw [cellsI_set, rngL_set, nat_upd, atK_next]
    refine at_then ?_
    refine X_region ?_
    refine zM ?_
    refine zM ?_
    refine zB ?_
    refine zB ?_
    refine zA ?_
    refine XO_nil ?_
    refine at_block_n ?_
    refine at_then ?_
    refine X_region ?_
    refine zB ?_
    refine zM ?_
    refine XO_nil ?_
    exact at_metM rfl rfl rfl _ _ ⟨((csW xs 0).length + 1) - (k + 1), by omega, k + 1, rfl, rfl, rfl, rfl, by omega⟩ (.cons rfl (.cons rfl (.cons rfl (.cons rfl (.cons rfl (.cons rfl (.cons rfl (.cons rfl (.cons rfl (.cons rfl .nil)))))))))) (by repeat (first | exact .refl | exact subL_left | refine subL_app ?_ | refine .drop ?_ | refine subL_add ?_))
   ·
    have hge_k : ((csW xs 0).length + 1) ≤ k := by have h := hc102; simp at h; omega
    obtain rfl : k = (csW xs 0).length + 1 := by omega
    have hsE := Nat.le_trans (sumF_le (w := wdW xs) (wdF_le (alW_b hrs) _) ((csW xs 0).length + 1)) (Nat.mul_le_mul_right 129 (show (csW xs 0).length + 1 ≤ 65 by omega))
    refine X_exit ?_
    refine at_then_e ?_
    refine at_then_e ?_
    refine at_block_hit ?_
    refine at_then ?_
    refine X_seq ?_
    refine X_seq (X_region ?_)
    refine zM ?_
    refine zB ?_
    refine zA ?_
    refine XO_nil ?_
    rw [lo_eq]
    refine at_then ?_
    refine X_seq (X_region ?_)
    refine zM ?_
    refine zC ?_
    refine XO_nil (at_then ?_)
    refine X_cond rfl (fun hc118 => ?_) (fun hc118 => ?_)
    ·
     have hbig : loW xs > 256 := by have h := hc118; simp at h; omega
     obtain ⟨t1, t2⟩ := tab_2 hc33 hbig
     refine X_seq (X_region ?_)
     refine zA ?_
     refine zA ?_
     refine XO_nil (at_then ?_)
     refine X_ret ?_
     refine at_then_r ?_
     first
     | exact at_retMs (L := _ :: _ :: _ :: []) (fun a ha w hw => res2 rfl rfl rfl a ha w) (fun w hw => ⟨_, I8, [], rfl, hIc, hw.drop, by rw [t1]; exact SlNTup.empty t2⟩)
    ·
     have hbig : ¬ loW xs > 256 := by have h := hc118; simp at h; omega
     obtain ⟨t1, t2⟩ := tab_3 hc33 hbig
     refine X_locEq (by rw [atK_all]) ?_
     refine X_freezeL (L := (b_98, .cells (cellsI (rngL ((csW xs 0).length + 1) (natF (sumF (wdW xs))))) 3 (0, 0)) :: (b_45, .cells (cellsI (rngL ((csW xs 0).length + 1) (natF (wdW xs)))) 3 (0, 0)) :: (b_41, .cells (cellsH hs) 88 (0, 0)) :: []) (R := MB ms) (.cons .here (.cons .here (.cons .here .nil))) (fun I10 hI10 hall => ?_)
     have hW0 := hW0.mono hI10
     have hW := hW.mono hI10
     have hH := hH.mono hI10
     have hT := hT.mono hI10
     have hC6 := hC6.mono hI10
     have hPr := hPr.mono hI10
     have hC10 := hC10.mono hI10
     have hIc := hIc.trans hI10
     have hB0 := hB0.trans hI10
     have hAt : Sl I10 1 encI (some ⟨b_98, 0, none⟩) ((csW xs 0).length + 1) ((csW xs 0).length + 1) (rngL ((csW xs 0).length + 1) (natF (sumF (wdW xs)))) := Sl.lit _ rngL_len encI_len (hall _ _ (by repeat (first | exact List.mem_cons_self .. | apply List.mem_cons_of_mem)))
     have hWd : Sl I10 1 encI (some ⟨b_45, 0, none⟩) ((csW xs 0).length + 1) ((csW xs 0).length + 1) (rngL ((csW xs 0).length + 1) (natF (wdW xs))) := Sl.lit _ rngL_len encI_len (hall _ _ (by repeat (first | exact List.mem_cons_self .. | apply List.mem_cons_of_mem)))
     have hPs : Sl I10 1 encH (some ⟨b_41, 0, none⟩) xs.length xs.length hs := Sl.lit _ hhl encH_len (hall _ _ (by repeat (first | exact List.mem_cons_self .. | apply List.mem_cons_of_mem)))
     refine X_locEq (loc' := [] ++ MB ms) rfl ?_
     refine X_skip ?_
     refine at_then ?_
     refine X_seq ?_
     refine X_seq (X_region ?_)
     refine zM ?_
     refine XO_v0 (ev_lenS rfl slt_31) rfl rfl rfl ?_
     refine zM ?_
     refine XO_nil (at_then ?_)
     refine X_block ?_
     refine X_loopM [(4, _), (5, _), (6, _), (10, _), (11, _), (119, _), (120, _)] (.cons rfl (.cons rfl (.cons rfl (.cons rfl (.cons rfl (.cons rfl (.cons rfl .nil))))))) (fun T L0 mz ms E I' loc' => ∃ (i : Nat) (v2 : Value) (os : List Hd) (L : Go.Kn.Loc), mz = xs.length - i ∧ E = (2, v2) :: (121, .int .i64 i) :: T ∧ HLe I10 I' ∧ L ++ MB ms = loc' ∧ i ≤ xs.length ∧ OwnS 23 1 v2 i (os.flatMap encH) L ∧ RelH I' os ((List.range i).map (rowW xs))) _ _ _ _ ⟨0, _, [], [], rfl, rfl, HLe.refl _, rfl, Nat.zero_le _, OwnS.nil, RelH.nil⟩ (.cons rfl (.cons rfl (.cons rfl (.cons rfl (.cons rfl (.cons rfl (.cons rfl (.cons rfl (.cons rfl .nil))))))))) (HLe.refl _) rfl ?_
     rintro mz ms E J11 loc' ⟨i, v2, os, L, rfl, rfl, hJ, rfl, hi, hO, hre⟩
     have hW0 := hW0.mono hJ
     have hW := hW.mono hJ
     have hH := hH.mono hJ
     have hT := hT.mono hJ
     have hC6 := hC6.mono hJ
     have hPr := hPr.mono hJ
     have hC10 := hC10.mono hJ
     have hAt := hAt.mono hJ
     have hWd := hWd.mono hJ
     have hPs := hPs.mono hJ
     have hIc := hIc.trans hJ
     have hB0 := hB0.trans hJ
     have hB6 := hJ
     obtain ⟨va2, vc2, rfl⟩ := valn hO
     refine X_seq (X_region ?_)
     refine zC ?_
     refine XO_nil (at_then ?_)
     refine X_seq ?_
     refine X_cond rfl (fun hc122 => ?_) (fun hc122 => ?_)
     ·
      have hlt_i : i < xs.length := by have h := hc122; simp at h; omega
      obtain ⟨w, x, hx, hv, e1, e2, hR⟩ := hW.at hlt_i
      have hcsi : x.rs.map codeR = csW xs i := (csW_at hv).symm
      have hMi := csW_len (i := i) hrs
      have hRl := hR.len
      have hxb := hrs x (List.mem_of_getElem? hv)
      obtain ⟨hp, hhp, hhn, hPf⟩ := hPr i hlt_i
      have hpl := (pfW_ok (xs := xs) (i := i)).2
      refine X_skip ?_
      refine at_then ?_
      refine X_seq ?_
      refine X_block ?_
      refine X_seq (X_region ?_)
      refine zM ?_
      refine XO_v0 (ev_indexSl rfl rfl slt_31 hH (fun hg => by first | omega | (simp [conj] at hg; omega))) rfl rfl rfl ?_
      refine XO_v0 (ev_loadA rfl agt_54 (fun hg => by exact Sl.getA hH hx) rfl) rfl rfl rfl ?_
      refine XO_alloc zt_54 rfl rfl (fun b_15 => ?_)
      refine zA ?_
      refine XO_storeA rfl rfl szt_54 rfl rfl rfl rfl (by repeat (first | exact Upd.here | apply Upd.there | apply upd_app)) ?_
      refine XO_nil (at_then ?_)
      refine X_cutM [(2, _), (4, _), (5, _), (6, _), (10, _), (11, _), (14, _), (119, _), (120, _), (121, _)] (.cons rfl (.cons rfl (.cons rfl (.cons rfl (.cons rfl (.cons rfl (.cons rfl (.cons rfl (.cons rfl (.cons rfl .nil)))))))))) (fun T L0 ms E I' loc' => ∃ (b16 b17 b127 : Nat) (av17 : Option Addr) (c17 : Nat), E = (16, capP b16) :: (17, capP b17) :: T ∧ HLe J11 I' ∧ (b127, .cells (cellsI (rngL (loW xs) (fun _ => 0))) 3 (0, 0)) :: (L ++ MB ms) = loc' ∧ Cell I' [] b16 0 (.slice (some ⟨b127, 0, none⟩) (loW xs) (loW xs)) ∧ Cell I' [] b17 0 (.slice av17 (csW xs i).length c17) ∧ Sl I' 1 encI av17 (csW xs i).length c17 (csW xs i)) ?_ ?_
      ·
       have hKc30 := HLe.refl J11
       have hD := HLe.refl J11
       refine X_noP ?_
       refine X_drawS J11 [(b_15, .cells (encW w).toArray 54 (0, 0))] mixed ?_
       refine XD_take 0 rfl (ev_move rfl) (.none rfl) rfl rfl rfl (by kernel_rfl) (by kernel_rfl) (by kernel_rfl) noP_ok hD (by repeat (first | exact .refl | exact subL_nil | refine .keep ?_ | refine .drop ?_ | refine subL_add ?_)) ?_
       refine XD_take 2 rfl (ev_loadA rfl agt_54 (fun hg => by exact Cells.g0) rfl) (.none rfl) rfl rfl rfl (by kernel_rfl) (by kernel_rfl) (by kernel_rfl) noP_ok hD (by repeat (first | exact .refl | exact subL_nil | refine .keep ?_ | refine .drop ?_ | refine subL_add ?_)) ?_
       refine XD_four 1 3 4 5 rfl rfl rfl rfl (by kernel_rfl) ?_ ?_ ?_ ?_
       ·
        refine XO_makeSlice mkt_23 rfl rfl (by first | omega | (simp; omega)) (by decide) rfl rfl (fun b_127 => ?_)
        refine XO_nil ?_
        refine zD hD ?_
        refine XD_three 3 4 5 rfl rfl rfl (by kernel_rfl) ?_ ?_ ?_
        ·
         refine XO_callM (cap := []) (vs := [_]) rfl rfl fun_42 .nil (w_codes hR (by omega) _ _) rfl rfl ?_
         rintro vv12 I12 L12 hI12 ⟨rfl, av30, c30, rfl, hL30⟩
         have hW0 := hW0.mono hI12
         have hW := hW.mono hI12
         have hH := hH.mono hI12
         have hT := hT.mono hI12
         have hC6 := hC6.mono hI12
         have hPr := hPr.mono hI12
         have hC10 := hC10.mono hI12
         have hAt := hAt.mono hI12
         have hWd := hWd.mono hI12
         have hPs := hPs.mono hI12
         have hre := hre.mono hI12
         have hR := hR.mono hI12
         have hPf := hPf.mono hI12
         have hIc := hIc.trans hI12
         have hB0 := hB0.trans hI12
         have hB6 := hB6.trans hI12
         have hKc30 := hKc30.trans hI12
         have hD := hD.trans hI12
         rw [hcsi] at hL30 ⊢
         refine XO_nil ?_
         refine zD hD ?_
         refine XD_two 4 5 rfl rfl (by kernel_rfl) ?_ ?_
         ·
          refine XO_alloc zt_23 rfl rfl (fun b_16 => ?_)
          refine XO_nil ?_
          refine zD hD ?_
          refine XD_one 5 rfl (by kernel_rfl) ?_
          refine XO_alloc zt_23 rfl rfl (fun b_17 => ?_)
          refine XO_nil ?_
          refine zD hD ?_
          refine XD_one 6 rfl (by kernel_rfl) ?_
          refine zS szt_23 ?_
          refine XO_nil ?_
          refine zD hD ?_
          refine XD_one 7 rfl (by kernel_rfl) ?_
          refine zS szt_23 ?_
          refine XO_nil ?_
          refine zD hD ?_
          refine XD_done (by kernel_rfl) ?_
          refine at_noP ?_
          rw [show ((loW xs : Nat) : Int).toNat = loW xs from rfl, cellsI_new, rngL_zero]
          refine at_freeze (b := b_16) (by repeat (first | exact Take.here | apply Take.there)) (fun I16 h16 e16 => ?_)
          refine at_freeze (b := b_17) (by repeat (first | exact Take.here | apply Take.there)) (fun I17 h17 e17 => ?_)
          exact at_metM rfl rfl rfl _ _ ⟨b_16, b_17, b_127, _, _, rfl, (hKc30.trans h16).trans h17, rfl, .imm (h17 _ _ e16) rfl, .imm e17 rfl, (hL30.mono h16).mono h17⟩ (.cons rfl (.cons rfl (.cons rfl (.cons rfl (.cons rfl (.cons rfl (.cons rfl (.cons rfl (.cons rfl (.cons rfl (.cons rfl (.cons rfl .nil)))))))))))) (by repeat (first | exact .refl | refine .keep ?_ | refine .drop ?_))
         ·
          refine XO_alloc zt_23 rfl rfl (fun b_17 => ?_)
          refine XO_nil ?_
          refine zD hD ?_
          refine XD_one 4 rfl (by kernel_rfl) ?_
          refine XO_alloc zt_23 rfl rfl (fun b_16 => ?_)
          refine XO_nil ?_
          refine zD hD ?_
          refine XD_one 6 rfl (by kernel_rfl) ?_
          refine zS szt_23 ?_
          refine XO_nil ?_
          refine zD hD ?_
          refine XD_one 7 rfl (by kernel_rfl) ?_
          refine zS szt_23 ?_
          refine XO_nil ?_
          refine zD hD ?_
          refine XD_done (by kernel_rfl) ?_
          refine at_noP ?_
          rw [show ((loW xs : Nat) : Int).toNat = loW xs from rfl, cellsI_new, rngL_zero]
          refine at_freeze (b := b_16) (by repeat (first | exact Take.here | apply Take.there)) (fun I16 h16 e16 => ?_)
          refine at_freeze (b := b_17) (by repeat (first | exact Take.here | apply Take.there)) (fun I17 h17 e17 => ?_)
          exact at_metM rfl rfl rfl _ _ ⟨b_16, b_17, b_127, _, _, rfl, (hKc30.trans h16).trans h17, rfl, .imm (h17 _ _ e16) rfl, .imm e17 rfl, (hL30.mono h16).mono h17⟩ (.cons rfl (.cons rfl (.cons rfl (.cons rfl (.cons rfl (.cons rfl (.cons rfl (.cons rfl (.cons rfl (.cons rfl (.cons rfl (.cons rfl .nil)))))))))))) (by repeat (first | exact .refl | refine .keep ?_ | refine .drop ?_))
        ·
         refine XO_alloc zt_23 rfl rfl (fun b_16 => ?_)
         refine XO_nil ?_
         refine zD hD ?_
         refine XD_two 3 5 rfl rfl (by kernel_rfl) ?_ ?_
         ·
          refine XO_callM (cap := []) (vs := [_]) rfl rfl fun_42 .nil (w_codes hR (by omega) _ _) rfl rfl ?_
          rintro vv13 I13 L13 hI13 ⟨rfl, av30, c30, rfl, hL30⟩
          have hW0 := hW0.mono hI13
          have hW := hW.mono hI13
          have hH := hH.mono hI13
          have hT := hT.mono hI13
          have hC6 := hC6.mono hI13
          have hPr := hPr.mono hI13
          have hC10 := hC10.mono hI13
          have hAt := hAt.mono hI13
          have hWd := hWd.mono hI13
          have hPs := hPs.mono hI13
          have hre := hre.mono hI13
          have hR := hR.mono hI13
          have hPf := hPf.mono hI13
          have hIc := hIc.trans hI13
          have hB0 := hB0.trans hI13
          have hB6 := hB6.trans hI13
          have hKc30 := hKc30.trans hI13
          have hD := hD.trans hI13
          rw [hcsi] at hL30 ⊢
          refine XO_nil ?_
          refine zD hD ?_
          refine XD_one 5 rfl (by kernel_rfl) ?_
          refine XO_alloc zt_23 rfl rfl (fun b_17 => ?_)
          refine XO_nil ?_
          refine zD hD ?_
          refine XD_one 6 rfl (by kernel_rfl) ?_
          refine zS szt_23 ?_
          refine XO_nil ?_
          refine zD hD ?_
          refine XD_one 7 rfl (by kernel_rfl) ?_
          refine zS szt_23 ?_
          refine XO_nil ?_
          refine zD hD ?_
          refine XD_done (by kernel_rfl) ?_
          refine at_noP ?_
          rw [show ((loW xs : Nat) : Int).toNat = loW xs from rfl, cellsI_new, rngL_zero]
          refine at_freeze (b := b_16) (by repeat (first | exact Take.here | apply Take.there)) (fun I16 h16 e16 => ?_)
          refine at_freeze (b := b_17) (by repeat (first | exact Take.here | apply Take.there)) (fun I17 h17 e17 => ?_)
          exact at_metM rfl rfl rfl _ _ ⟨b_16, b_17, b_127, _, _, rfl, (hKc30.trans h16).trans h17, rfl, .imm (h17 _ _ e16) rfl, .imm e17 rfl, (hL30.mono h16).mono h17⟩ (.cons rfl (.cons rfl (.cons rfl (.cons rfl (.cons rfl (.cons rfl (.cons rfl (.cons rfl (.cons rfl (.cons rfl (.cons rfl (.cons rfl .nil)))))))))))) (by repeat (first | exact .refl | refine .keep ?_ | refine .drop ?_))
         ·
          refine XO_alloc zt_23 rfl rfl (fun b_17 => ?_)
          refine XO_nil ?_
          refine zD hD ?_
          refine XD_one 3 rfl (by kernel_rfl) ?_
          refine XO_callM (cap := []) (vs := [_]) rfl rfl fun_42 .nil (w_codes hR (by omega) _ _) rfl rfl ?_
          rintro vv14 I14 L14 hI14 ⟨rfl, av30, c30, rfl, hL30⟩
          have hW0 := hW0.mono hI14
          have hW := hW.mono hI14
          have hH := hH.mono hI14
          have hT := hT.mono hI14
          have hC6 := hC6.mono hI14
          have hPr := hPr.mono hI14
          have hC10 := hC10.mono hI14
          have hAt := hAt.mono hI14
          have hWd := hWd.mono hI14
          have hPs := hPs.mono hI14
          have hre := hre.mono hI14
          have hR := hR.mono hI14
          have hPf := hPf.mono hI14
          have hIc := hIc.trans hI14
          have hB0 := hB0.trans hI14
          have hB6 := hB6.trans hI14
          have hKc30 := hKc30.trans hI14
          have hD := hD.trans hI14
          rw [hcsi] at hL30 ⊢
          refine XO_nil ?_
          refine zD hD ?_
          refine XD_one 6 rfl (by kernel_rfl) ?_
          refine zS szt_23 ?_
          refine XO_nil ?_
          refine zD hD ?_
          refine XD_one 7 rfl (by kernel_rfl) ?_
          refine zS szt_23 ?_
          refine XO_nil ?_
          refine zD hD ?_
          refine XD_done (by kernel_rfl) ?_
          refine at_noP ?_
          rw [show ((loW xs : Nat) : Int).toNat = loW xs from rfl, cellsI_new, rngL_zero]
          refine at_freeze (b := b_16) (by repeat (first | exact Take.here | apply Take.there)) (fun I16 h16 e16 => ?_)
          refine at_freeze (b := b_17) (by repeat (first | exact Take.here | apply Take.there)) (fun I17 h17 e17 => ?_)
          exact at_metM rfl rfl rfl _ _ ⟨b_16, b_17, b_127, _, _, rfl, (hKc30.trans h16).trans h17, rfl, .imm (h17 _ _ e16) rfl, .imm e17 rfl, (hL30.mono h16).mono h17⟩ (.cons rfl (.cons rfl (.cons rfl (.cons rfl (.cons rfl (.cons rfl (.cons rfl (.cons rfl (.cons rfl (.cons rfl (.cons rfl (.cons rfl .nil)))))))))))) (by repeat (first | exact .refl | refine .keep ?_ | refine .drop ?_))
        ·
         refine XO_alloc zt_23 rfl rfl (fun b_17 => ?_)
         refine XO_nil ?_
         refine zD hD ?_
         refine XD_two 3 4 rfl rfl (by kernel_rfl) ?_ ?_
         ·
          refine XO_callM (cap := []) (vs := [_]) rfl rfl fun_42 .nil (w_codes hR (by omega) _ _) rfl rfl ?_
          rintro vv15 I15 L15 hI15 ⟨rfl, av30, c30, rfl, hL30⟩
          have hW0 := hW0.mono hI15
          have hW := hW.mono hI15
          have hH := hH.mono hI15
          have hT := hT.mono hI15
          have hC6 := hC6.mono hI15
          have hPr := hPr.mono hI15
          have hC10 := hC10.mono hI15
          have hAt := hAt.mono hI15
          have hWd := hWd.mono hI15
          have hPs := hPs.mono hI15
          have hre := hre.mono hI15
          have hR := hR.mono hI15
          have hPf := hPf.mono hI15
          have hIc := hIc.trans hI15
          have hB0 := hB0.trans hI15
          have hB6 := hB6.trans hI15
          have hKc30 := hKc30.trans hI15
          have hD := hD.trans hI15
          rw [hcsi] at hL30 ⊢
          refine XO_nil ?_
          refine zD hD ?_
          refine XD_one 4 rfl (by kernel_rfl) ?_
          refine XO_alloc zt_23 rfl rfl (fun b_16 => ?_)
          refine XO_nil ?_
          refine zD hD ?_
          refine XD_one 6 rfl (by kernel_rfl) ?_
          refine zS szt_23 ?_
          refine XO_nil ?_
          refine zD hD ?_
          refine XD_one 7 rfl (by kernel_rfl) ?_
          refine zS szt_23 ?_
          refine XO_nil ?_
          refine zD hD ?_
          refine XD_done (by kernel_rfl) ?_
          refine at_noP ?_
          rw [show ((loW xs : Nat) : Int).toNat = loW xs from rfl, cellsI_new, rngL_zero]
          refine at_freeze (b := b_16) (by repeat (first | exact Take.here | apply Take.there)) (fun I16 h16 e16 => ?_)
          refine at_freeze (b := b_17) (by repeat (first | exact Take.here | apply Take.there)) (fun I17 h17 e17 => ?_)
          exact at_metM rfl rfl rfl _ _ ⟨b_16, b_17, b_127, _, _, rfl, (hKc30.trans h16).trans h17, rfl, .imm (h17 _ _ e16) rfl, .imm e17 rfl, (hL30.mono h16).mono h17⟩ (.cons rfl (.cons rfl (.cons rfl (.cons rfl (.cons rfl (.cons rfl (.cons rfl (.cons rfl (.cons rfl (.cons rfl (.cons rfl (.cons rfl .nil)))))))))))) (by repeat (first | exact .refl | refine .keep ?_ | refine .drop ?_))
         ·
          refine XO_alloc zt_23 rfl rfl (fun b_16 => ?_)
          refine XO_nil ?_
          refine zD hD ?_
          refine XD_one 3 rfl (by kernel_rfl) ?_
          refine XO_callM (cap := []) (vs := [_]) rfl rfl fun_42 .nil (w_codes hR (by omega) _ _) rfl rfl ?_
          rintro vv16 I16 L16 hI16 ⟨rfl, av30, c30, rfl, hL30⟩
          have hW0 := hW0.mono hI16
          have hW := hW.mono hI16
          have hH := hH.mono hI16
          have hT := hT.mono hI16
          have hC6 := hC6.mono hI16
          have hPr := hPr.mono hI16
          have hC10 := hC10.mono hI16
          have hAt := hAt.mono hI16
          have hWd := hWd.mono hI16
          have hPs := hPs.mono hI16
          have hre := hre.mono hI16
          have hR := hR.mono hI16
          have hPf := hPf.mono hI16
          have hIc := hIc.trans hI16
          have hB0 := hB0.trans hI16
          have hB6 := hB6.trans hI16
          have hKc30 := hKc30.trans hI16
          have hD := hD.trans hI16
          rw [hcsi] at hL30 ⊢
          refine XO_nil ?_
          refine zD hD ?_
          refine XD_one 6 rfl (by kernel_rfl) ?_
          refine zS szt_23 ?_
          refine XO_nil ?_
          refine zD hD ?_
          refine XD_one 7 rfl (by kernel_rfl) ?_
          refine zS szt_23 ?_
          refine XO_nil ?_
          refine zD hD ?_
          refine XD_done (by kernel_rfl) ?_
          refine at_noP ?_
          rw [show ((loW xs : Nat) : Int).toNat = loW xs from rfl, cellsI_new, rngL_zero]
          refine at_freeze (b := b_16) (by repeat (first | exact Take.here | apply Take.there)) (fun I16 h16 e16 => ?_)
          refine at_freeze (b := b_17) (by repeat (first | exact Take.here | apply Take.there)) (fun I17 h17 e17 => ?_)
          exact at_metM rfl rfl rfl _ _ ⟨b_16, b_17, b_127, _, _, rfl, (hKc30.trans h16).trans h17, rfl, .imm (h17 _ _ e16) rfl, .imm e17 rfl, (hL30.mono h16).mono h17⟩ (.cons rfl (.cons rfl (.cons rfl (.cons rfl (.cons rfl (.cons rfl (.cons rfl (.cons rfl (.cons rfl (.cons rfl (.cons rfl (.cons rfl .nil)))))))))))) (by repeat (first | exact .refl | refine .keep ?_ | refine .drop ?_))
       ·
        refine XO_callM (cap := []) (vs := [_]) rfl rfl fun_42 .nil (w_codes hR (by omega) _ _) rfl rfl ?_
        rintro vv17 I17 L17 hI17 ⟨rfl, av30, c30, rfl, hL30⟩
        have hW0 := hW0.mono hI17
        have hW := hW.mono hI17
        have hH := hH.mono hI17
        have hT := hT.mono hI17
        have hC6 := hC6.mono hI17
        have hPr := hPr.mono hI17
        have hC10 := hC10.mono hI17
        have hAt := hAt.mono hI17
        have hWd := hWd.mono hI17
        have hPs := hPs.mono hI17
        have hre := hre.mono hI17
        have hR := hR.mono hI17
        have hPf := hPf.mono hI17
        have hIc := hIc.trans hI17
        have hB0 := hB0.trans hI17
        have hB6 := hB6.trans hI17
        have hKc30 := hKc30.trans hI17
        have hD := hD.trans hI17
        rw [hcsi] at hL30 ⊢
        refine XO_nil ?_
        refine zD hD ?_
        refine XD_three 1 4 5 rfl rfl rfl (by kernel_rfl) ?_ ?_ ?_
        ·
         refine XO_makeSlice mkt_23 rfl rfl (by first | omega | (simp; omega)) (by decide) rfl rfl (fun b_127 => ?_)
         refine XO_nil ?_
         refine zD hD ?_
         refine XD_two 4 5 rfl rfl (by kernel_rfl) ?_ ?_
         ·
          refine XO_alloc zt_23 rfl rfl (fun b_16 => ?_)
          refine XO_nil ?_
          refine zD hD ?_
          refine XD_one 5 rfl (by kernel_rfl) ?_
          refine XO_alloc zt_23 rfl rfl (fun b_17 => ?_)
          refine XO_nil ?_
          refine zD hD ?_
          refine XD_one 6 rfl (by kernel_rfl) ?_
          refine zS szt_23 ?_
          refine XO_nil ?_
          refine zD hD ?_
          refine XD_one 7 rfl (by kernel_rfl) ?_
          refine zS szt_23 ?_
          refine XO_nil ?_
          refine zD hD ?_
          refine XD_done (by kernel_rfl) ?_
          refine at_noP ?_
          rw [show ((loW xs : Nat) : Int).toNat = loW xs from rfl, cellsI_new, rngL_zero]
          refine at_freeze (b := b_16) (by repeat (first | exact Take.here | apply Take.there)) (fun I16 h16 e16 => ?_)
          refine at_freeze (b := b_17) (by repeat (first | exact Take.here | apply Take.there)) (fun I17 h17 e17 => ?_)
          exact at_metM rfl rfl rfl _ _ ⟨b_16, b_17, b_127, _, _, rfl, (hKc30.trans h16).trans h17, rfl, .imm (h17 _ _ e16) rfl, .imm e17 rfl, (hL30.mono h16).mono h17⟩ (.cons rfl (.cons rfl (.cons rfl (.cons rfl (.cons rfl (.cons rfl (.cons rfl (.cons rfl (.cons rfl (.cons rfl (.cons rfl (.cons rfl .nil)))))))))))) (by repeat (first | exact .refl | refine .keep ?_ | refine .drop ?_))
         ·
          refine XO_alloc zt_23 rfl rfl (fun b_17 => ?_)
          refine XO_nil ?_
          refine zD hD ?_
          refine XD_one 4 rfl (by kernel_rfl) ?_
          refine XO_alloc zt_23 rfl rfl (fun b_16 => ?_)
          refine XO_nil ?_
          refine zD hD ?_
          refine XD_one 6 rfl (by kernel_rfl) ?_
          refine zS szt_23 ?_
          refine XO_nil ?_
          refine zD hD ?_
          refine XD_one 7 rfl (by kernel_rfl) ?_
          refine zS szt_23 ?_
          refine XO_nil ?_
          refine zD hD ?_
          refine XD_done (by kernel_rfl) ?_
          refine at_noP ?_
          rw [show ((loW xs : Nat) : Int).toNat = loW xs from rfl, cellsI_new, rngL_zero]
          refine at_freeze (b := b_16) (by repeat (first | exact Take.here | apply Take.there)) (fun I16 h16 e16 => ?_)
          refine at_freeze (b := b_17) (by repeat (first | exact Take.here | apply Take.there)) (fun I17 h17 e17 => ?_)
          exact at_metM rfl rfl rfl _ _ ⟨b_16, b_17, b_127, _, _, rfl, (hKc30.trans h16).trans h17, rfl, .imm (h17 _ _ e16) rfl, .imm e17 rfl, (hL30.mono h16).mono h17⟩ (.cons rfl (.cons rfl (.cons rfl (.cons rfl (.cons rfl (.cons rfl (.cons rfl (.cons rfl (.cons rfl (.cons rfl (.cons rfl (.cons rfl .nil)))))))))))) (by repeat (first | exact .refl | refine .keep ?_ | refine .drop ?_))
        ·
         refine XO_alloc zt_23 rfl rfl (fun b_16 => ?_)
         refine XO_nil ?_
         refine zD hD ?_
         refine XD_two 1 5 rfl rfl (by kernel_rfl) ?_ ?_
         ·
          refine XO_makeSlice mkt_23 rfl rfl (by first | omega | (simp; omega)) (by decide) rfl rfl (fun b_127 => ?_)
          refine XO_nil ?_
          refine zD hD ?_
          refine XD_one 5 rfl (by kernel_rfl) ?_
          refine XO_alloc zt_23 rfl rfl (fun b_17 => ?_)
          refine XO_nil ?_
          refine zD hD ?_
          refine XD_one 6 rfl (by kernel_rfl) ?_
          refine zS szt_23 ?_
          refine XO_nil ?_
          refine zD hD ?_
          refine XD_one 7 rfl (by kernel_rfl) ?_
          refine zS szt_23 ?_
          refine XO_nil ?_
          refine zD hD ?_
          refine XD_done (by kernel_rfl) ?_
          refine at_noP ?_
          rw [show ((loW xs : Nat) : Int).toNat = loW xs from rfl, cellsI_new, rngL_zero]
          refine at_freeze (b := b_16) (by repeat (first | exact Take.here | apply Take.there)) (fun I16 h16 e16 => ?_)
          refine at_freeze (b := b_17) (by repeat (first | exact Take.here | apply Take.there)) (fun I17 h17 e17 => ?_)
          exact at_metM rfl rfl rfl _ _ ⟨b_16, b_17, b_127, _, _, rfl, (hKc30.trans h16).trans h17, rfl, .imm (h17 _ _ e16) rfl, .imm e17 rfl, (hL30.mono h16).mono h17⟩ (.cons rfl (.cons rfl (.cons rfl (.cons rfl (.cons rfl (.cons rfl (.cons rfl (.cons rfl (.cons rfl (.cons rfl (.cons rfl (.cons rfl .nil)))))))))))) (by repeat (first | exact .refl | refine .keep ?_ | refine .drop ?_))
         ·
          refine XO_alloc zt_23 rfl rfl (fun b_17 => ?_)
          refine XO_nil ?_
          refine zD hD ?_
          refine XD_one 1 rfl (by kernel_rfl) ?_
          refine XO_makeSlice mkt_23 rfl rfl (by first | omega | (simp; omega)) (by decide) rfl rfl (fun b_127 => ?_)
          refine XO_nil ?_
          refine zD hD ?_
          refine XD_one 6 rfl (by kernel_rfl) ?_
          refine zS szt_23 ?_
          refine XO_nil ?_
          refine zD hD ?_
          refine XD_one 7 rfl (by kernel_rfl) ?_
          refine zS szt_23 ?_
          refine XO_nil ?_
          refine zD hD ?_
          refine XD_done (by kernel_rfl) ?_
          refine at_noP ?_
          rw [show ((loW xs : Nat) : Int).toNat = loW xs from rfl, cellsI_new, rngL_zero]
          refine at_freeze (b := b_16) (by repeat (first | exact Take.here | apply Take.there)) (fun I16 h16 e16 => ?_)
          refine at_freeze (b := b_17) (by repeat (first | exact Take.here | apply Take.there)) (fun I17 h17 e17 => ?_)
          exact at_metM rfl rfl rfl _ _ ⟨b_16, b_17, b_127, _, _, rfl, (hKc30.trans h16).trans h17, rfl, .imm (h17 _ _ e16) rfl, .imm e17 rfl, (hL30.mono h16).mono h17⟩ (.cons rfl (.cons rfl (.cons rfl (.cons rfl (.cons rfl (.cons rfl (.cons rfl (.cons rfl (.cons rfl (.cons rfl (.cons rfl (.cons rfl .nil)))))))))))) (by repeat (first | exact .refl | refine .keep ?_ | refine .drop ?_))
        ·
         refine XO_alloc zt_23 rfl rfl (fun b_17 => ?_)
         refine XO_nil ?_
         refine zD hD ?_
         refine XD_two 1 4 rfl rfl (by kernel_rfl) ?_ ?_
         ·
          refine XO_makeSlice mkt_23 rfl rfl (by first | omega | (simp; omega)) (by decide) rfl rfl (fun b_127 => ?_)
          refine XO_nil ?_
          refine zD hD ?_
          refine XD_one 4 rfl (by kernel_rfl) ?_
          refine XO_alloc zt_23 rfl rfl (fun b_16 => ?_)
          refine XO_nil ?_
          refine zD hD ?_
          refine XD_one 6 rfl (by kernel_rfl) ?_
          refine zS szt_23 ?_
          refine XO_nil ?_
          refine zD hD ?_
          refine XD_one 7 rfl (by kernel_rfl) ?_
          refine zS szt_23 ?_
          refine XO_nil ?_
          refine zD hD ?_
          refine XD_done (by kernel_rfl) ?_
          refine at_noP ?_
          rw [show ((loW xs : Nat) : Int).toNat = loW xs from rfl, cellsI_new, rngL_zero]
          refine at_freeze (b := b_16) (by repeat (first | exact Take.here | apply Take.there)) (fun I16 h16 e16 => ?_)
          refine at_freeze (b := b_17) (by repeat (first | exact Take.here | apply Take.there)) (fun I17 h17 e17 => ?_)
          exact at_metM rfl rfl rfl _ _ ⟨b_16, b_17, b_127, _, _, rfl, (hKc30.trans h16).trans h17, rfl, .imm (h17 _ _ e16) rfl, .imm e17 rfl, (hL30.mono h16).mono h17⟩ (.cons rfl (.cons rfl (.cons rfl (.cons rfl (.cons rfl (.cons rfl (.cons rfl (.cons rfl (.cons rfl (.cons rfl (.cons rfl (.cons rfl .nil)))))))))))) (by repeat (first | exact .refl | refine .keep ?_ | refine .drop ?_))
         ·
          refine XO_alloc zt_23 rfl rfl (fun b_16 => ?_)
          refine XO_nil ?_
          refine zD hD ?_
          refine XD_one 1 rfl (by kernel_rfl) ?_
          refine XO_makeSlice mkt_23 rfl rfl (by first | omega | (simp; omega)) (by decide) rfl rfl (fun b_127 => ?_)
          refine XO_nil ?_
          refine zD hD ?_
          refine XD_one 6 rfl (by kernel_rfl) ?_
          refine zS szt_23 ?_
          refine XO_nil ?_
          refine zD hD ?_
          refine XD_one 7 rfl (by kernel_rfl) ?_
          refine zS szt_23 ?_
          refine XO_nil ?_
          refine zD hD ?_
          refine XD_done (by kernel_rfl) ?_
          refine at_noP ?_
          rw [show ((loW xs : Nat) : Int).toNat = loW xs from rfl, cellsI_new, rngL_zero]
          refine at_freeze (b := b_16) (by repeat (first | exact Take.here | apply Take.there)) (fun I16 h16 e16 => ?_)
          refine at_freeze (b := b_17) (by repeat (first | exact Take.here | apply Take.there)) (fun I17 h17 e17 => ?_)
          exact at_metM rfl rfl rfl _ _ ⟨b_16, b_17, b_127, _, _, rfl, (hKc30.trans h16).trans h17, rfl, .imm (h17 _ _ e16) rfl, .imm e17 rfl, (hL30.mono h16).mono h17⟩ (.cons rfl (.cons rfl (.cons rfl (.cons rfl (.cons rfl (.cons rfl (.cons rfl (.cons rfl (.cons rfl (.cons rfl (.cons rfl (.cons rfl .nil)))))))))))) (by repeat (first | exact .refl | refine .keep ?_ | refine .drop ?_))
       ·
        refine XO_alloc zt_23 rfl rfl (fun b_16 => ?_)
        refine XO_nil ?_
        refine zD hD ?_
        refine XD_three 1 3 5 rfl rfl rfl (by kernel_rfl) ?_ ?_ ?_
        ·
         refine XO_makeSlice mkt_23 rfl rfl (by first | omega | (simp; omega)) (by decide) rfl rfl (fun b_127 => ?_)
         refine XO_nil ?_
         refine zD hD ?_
         refine XD_two 3 5 rfl rfl (by kernel_rfl) ?_ ?_
         ·
          refine XO_callM (cap := []) (vs := [_]) rfl rfl fun_42 .nil (w_codes hR (by omega) _ _) rfl rfl ?_
          rintro vv18 I18 L18 hI18 ⟨rfl, av30, c30, rfl, hL30⟩
          have hW0 := hW0.mono hI18
          have hW := hW.mono hI18
          have hH := hH.mono hI18
          have hT := hT.mono hI18
          have hC6 := hC6.mono hI18
          have hPr := hPr.mono hI18
          have hC10 := hC10.mono hI18
          have hAt := hAt.mono hI18
          have hWd := hWd.mono hI18
          have hPs := hPs.mono hI18
          have hre := hre.mono hI18
          have hR := hR.mono hI18
          have hPf := hPf.mono hI18
          have hIc := hIc.trans hI18
          have hB0 := hB0.trans hI18
          have hB6 := hB6.trans hI18
          have hKc30 := hKc30.trans hI18
          have hD := hD.trans hI18
          rw [hcsi] at hL30 ⊢
          refine XO_nil ?_
          refine zD hD ?_
          refine XD_one 5 rfl (by kernel_rfl) ?_
          refine XO_alloc zt_23 rfl rfl (fun b_17 => ?_)
          refine XO_nil ?_
          refine zD hD ?_
          refine XD_one 6 rfl (by kernel_rfl) ?_
          refine zS szt_23 ?_
          refine XO_nil ?_
          refine zD hD ?_
          refine XD_one 7 rfl (by kernel_rfl) ?_
          refine zS szt_23 ?_
          refine XO_nil ?_
          refine zD hD ?_
          refine XD_done (by kernel_rfl) ?_
          refine at_noP ?_
          rw [show ((loW xs : Nat) : Int).toNat = loW xs from rfl, cellsI_new, rngL_zero]
          refine at_freeze (b := b_16) (by repeat (first | exact Take.here | apply Take.there)) (fun I16 h16 e16 => ?_)
          refine at_freeze (b := b_17) (by repeat (first | exact Take.here | apply Take.there)) (fun I17 h17 e17 => ?_)
          exact at_metM rfl rfl rfl _ _ ⟨b_16, b_17, b_127, _, _, rfl, (hKc30.trans h16).trans h17, rfl, .imm (h17 _ _ e16) rfl, .imm e17 rfl, (hL30.mono h16).mono h17⟩ (.cons rfl (.cons rfl (.cons rfl (.cons rfl (.cons rfl (.cons rfl (.cons rfl (.cons rfl (.cons rfl (.cons rfl (.cons rfl (.cons rfl .nil)))))))))))) (by repeat (first | exact .refl | refine .keep ?_ | refine .drop ?_))
         ·
          refine XO_alloc zt_23 rfl rfl (fun b_17 => ?_)
          refine XO_nil ?_
          refine zD hD ?_
          refine XD_one 3 rfl (by kernel_rfl) ?_
          refine XO_callM (cap := []) (vs := [_]) rfl rfl fun_42 .nil (w_codes hR (by omega) _ _) rfl rfl ?_
          rintro vv19 I19 L19 hI19 ⟨rfl, av30, c30, rfl, hL30⟩
          have hW0 := hW0.mono hI19
          have hW := hW.mono hI19
          have hH := hH.mono hI19
          have hT := hT.mono hI19
          have hC6 := hC6.mono hI19
          have hPr := hPr.mono hI19
          have hC10 := hC10.mono hI19
          have hAt := hAt.mono hI19
          have hWd := hWd.mono hI19
          have hPs := hPs.mono hI19
          have hre := hre.mono hI19
          have hR := hR.mono hI19
          have hPf := hPf.mono hI19
          have hIc := hIc.trans hI19
          have hB0 := hB0.trans hI19
          have hB6 := hB6.trans hI19
          have hKc30 := hKc30.trans hI19
          have hD := hD.trans hI19
          rw [hcsi] at hL30 ⊢
          refine XO_nil ?_
          refine zD hD ?_
          refine XD_one 6 rfl (by kernel_rfl) ?_
          refine zS szt_23 ?_
          refine XO_nil ?_
          refine zD hD ?_
          refine XD_one 7 rfl (by kernel_rfl) ?_
          refine zS szt_23 ?_
          refine XO_nil ?_
          refine zD hD ?_
          refine XD_done (by kernel_rfl) ?_
          refine at_noP ?_
          rw [show ((loW xs : Nat) : Int).toNat = loW xs from rfl, cellsI_new, rngL_zero]
          refine at_freeze (b := b_16) (by repeat (first | exact Take.here | apply Take.there)) (fun I16 h16 e16 => ?_)
          refine at_freeze (b := b_17) (by repeat (first | exact Take.here | apply Take.there)) (fun I17 h17 e17 => ?_)
          exact at_metM rfl rfl rfl _ _ ⟨b_16, b_17, b_127, _, _, rfl, (hKc30.trans h16).trans h17, rfl, .imm (h17 _ _ e16) rfl, .imm e17 rfl, (hL30.mono h16).mono h17⟩ (.cons rfl (.cons rfl (.cons rfl (.cons rfl (.cons rfl (.cons rfl (.cons rfl (.cons rfl (.cons rfl (.cons rfl (.cons rfl (.cons rfl .nil)))))))))))) (by repeat (first | exact .refl | refine .keep ?_ | refine .drop ?_))
        ·
         refine XO_callM (cap := []) (vs := [_]) rfl rfl fun_42 .nil (w_codes hR (by omega) _ _) rfl rfl ?_
         rintro vv20 I20 L20 hI20 ⟨rfl, av30, c30, rfl, hL30⟩
         have hW0 := hW0.mono hI20
         have hW := hW.mono hI20
         have hH := hH.mono hI20
         have hT := hT.mono hI20
         have hC6 := hC6.mono hI20
         have hPr := hPr.mono hI20
         have hC10 := hC10.mono hI20
         have hAt := hAt.mono hI20
         have hWd := hWd.mono hI20
         have hPs := hPs.mono hI20
         have hre := hre.mono hI20
         have hR := hR.mono hI20
         have hPf := hPf.mono hI20
         have hIc := hIc.trans hI20
         have hB0 := hB0.trans hI20
         have hB6 := hB6.trans hI20
         have hKc30 := hKc30.trans hI20
         have hD := hD.trans hI20
         rw [hcsi] at hL30 ⊢
         refine XO_nil ?_
         refine zD hD ?_
         refine XD_two 1 5 rfl rfl (by kernel_rfl) ?_ ?_
         ·
          refine XO_makeSlice mkt_23 rfl rfl (by first | omega | (simp; omega)) (by decide) rfl rfl (fun b_127 => ?_)
          refine XO_nil ?_
          refine zD hD ?_
          refine XD_one 5 rfl (by kernel_rfl) ?_
          refine XO_alloc zt_23 rfl rfl (fun b_17 => ?_)
          refine XO_nil ?_
          refine zD hD ?_
          refine XD_one 6 rfl (by kernel_rfl) ?_
          refine zS szt_23 ?_
          refine XO_nil ?_
          refine zD hD ?_
          refine XD_one 7 rfl (by kernel_rfl) ?_
          refine zS szt_23 ?_
          refine XO_nil ?_
          refine zD hD ?_
          refine XD_done (by kernel_rfl) ?_
          refine at_noP ?_
          rw [show ((loW xs : Nat) : Int).toNat = loW xs from rfl, cellsI_new, rngL_zero]
          refine at_freeze (b := b_16) (by repeat (first | exact Take.here | apply Take.there)) (fun I16 h16 e16 => ?_)
          refine at_freeze (b := b_17) (by repeat (first | exact Take.here | apply Take.there)) (fun I17 h17 e17 => ?_)
          exact at_metM rfl rfl rfl _ _ ⟨b_16, b_17, b_127, _, _, rfl, (hKc30.trans h16).trans h17, rfl, .imm (h17 _ _ e16) rfl, .imm e17 rfl, (hL30.mono h16).mono h17⟩ (.cons rfl (.cons rfl (.cons rfl (.cons rfl (.cons rfl (.cons rfl (.cons rfl (.cons rfl (.cons rfl (.cons rfl (.cons rfl (.cons rfl .nil)))))))))))) (by repeat (first | exact .refl | refine .keep ?_ | refine .drop ?_))
         ·
          refine XO_alloc zt_23 rfl rfl (fun b_17 => ?_)
          refine XO_nil ?_
          refine zD hD ?_
          refine XD_one 1 rfl (by kernel_rfl) ?_
          refine XO_makeSlice mkt_23 rfl rfl (by first | omega | (simp; omega)) (by decide) rfl rfl (fun b_127 => ?_)
          refine XO_nil ?_
          refine zD hD ?_
          refine XD_one 6 rfl (by kernel_rfl) ?_
          refine zS szt_23 ?_
          refine XO_nil ?_
          refine zD hD ?_
          refine XD_one 7 rfl (by kernel_rfl) ?_
          refine zS szt_23 ?_
          refine XO_nil ?_
          refine zD hD ?_
          refine XD_done (by kernel_rfl) ?_
          refine at_noP ?_
          rw [show ((loW xs : Nat) : Int).toNat = loW xs from rfl, cellsI_new, rngL_zero]
          refine at_freeze (b := b_16) (by repeat (first | exact Take.here | apply Take.there)) (fun I16 h16 e16 => ?_)
          refine at_freeze (b := b_17) (by repeat (first | exact Take.here | apply Take.there)) (fun I17 h17 e17 => ?_)
          exact at_metM rfl rfl rfl _ _ ⟨b_16, b_17, b_127, _, _, rfl, (hKc30.trans h16).trans h17, rfl, .imm (h17 _ _ e16) rfl, .imm e17 rfl, (hL30.mono h16).mono h17⟩ (.cons rfl (.cons rfl (.cons rfl (.cons rfl (.cons rfl (.cons rfl (.cons rfl (.cons rfl (.cons rfl (.cons rfl (.cons rfl (.cons rfl .nil)))))))))))) (by repeat (first | exact .refl | refine .keep ?_ | refine .drop ?_))
        ·
         refine XO_alloc zt_23 rfl rfl (fun b_17 => ?_)
         refine XO_nil ?_
         refine zD hD ?_
         refine XD_two 1 3 rfl rfl (by kernel_rfl) ?_ ?_
         ·
          refine XO_makeSlice mkt_23 rfl rfl (by first | omega | (simp; omega)) (by decide) rfl rfl (fun b_127 => ?_)
          refine XO_nil ?_
          refine zD hD ?_
          refine XD_one 3 rfl (by kernel_rfl) ?_
          refine XO_callM (cap := []) (vs := [_]) rfl rfl fun_42 .nil (w_codes hR (by omega) _ _) rfl rfl ?_
          rintro vv21 I21 L21 hI21 ⟨rfl, av30, c30, rfl, hL30⟩
          have hW0 := hW0.mono hI21
          have hW := hW.mono hI21
          have hH := hH.mono hI21
          have hT := hT.mono hI21
          have hC6 := hC6.mono hI21
          have hPr := hPr.mono hI21
          have hC10 := hC10.mono hI21
          have hAt := hAt.mono hI21
          have hWd := hWd.mono hI21
          have hPs := hPs.mono hI21
          have hre := hre.mono hI21
          have hR := hR.mono hI21
          have hPf := hPf.mono hI21
          have hIc := hIc.trans hI21
          have hB0 := hB0.trans hI21
          have hB6 := hB6.trans hI21
          have hKc30 := hKc30.trans hI21
          have hD := hD.trans hI21
          rw [hcsi] at hL30 ⊢
          refine XO_nil ?_
          refine zD hD ?_
          refine XD_one 6 rfl (by kernel_rfl) ?_
          refine zS szt_23 ?_
          refine XO_nil ?_
          refine zD hD ?_
          refine XD_one 7 rfl (by kernel_rfl) ?_
          refine zS szt_23 ?_
          refine XO_nil ?_
          refine zD hD ?_
          refine XD_done (by kernel_rfl) ?_
          refine at_noP ?_
          rw [show ((loW xs : Nat) : Int).toNat = loW xs from rfl, cellsI_new, rngL_zero]
          refine at_freeze (b := b_16) (by repeat (first | exact Take.here | apply Take.there)) (fun I16 h16 e16 => ?_)
          refine at_freeze (b := b_17) (by repeat (first | exact Take.here | apply Take.there)) (fun I17 h17 e17 => ?_)
          exact at_metM rfl rfl rfl _ _ ⟨b_16, b_17, b_127, _, _, rfl, (hKc30.trans h16).trans h17, rfl, .imm (h17 _ _ e16) rfl, .imm e17 rfl, (hL30.mono h16).mono h17⟩ (.cons rfl (.cons rfl (.cons rfl (.cons rfl (.cons rfl (.cons rfl (.cons rfl (.cons rfl (.cons rfl (.cons rfl (.cons rfl (.cons rfl .nil)))))))))))) (by repeat (first | exact .refl | refine .keep ?_ | refine .drop ?_))
         ·
          refine XO_callM (cap := []) (vs := [_]) rfl rfl fun_42 .nil (w_codes hR (by omega) _ _) rfl rfl ?_
          rintro vv22 I22 L22 hI22 ⟨rfl, av30, c30, rfl, hL30⟩
          have hW0 := hW0.mono hI22
          have hW := hW.mono hI22
          have hH := hH.mono hI22
          have hT := hT.mono hI22
          have hC6 := hC6.mono hI22
          have hPr := hPr.mono hI22
          have hC10 := hC10.mono hI22
          have hAt := hAt.mono hI22
          have hWd := hWd.mono hI22
          have hPs := hPs.mono hI22
          have hre := hre.mono hI22
          have hR := hR.mono hI22
          have hPf := hPf.mono hI22
          have hIc := hIc.trans hI22
          have hB0 := hB0.trans hI22
          have hB6 := hB6.trans hI22
          have hKc30 := hKc30.trans hI22
          have hD := hD.trans hI22
          rw [hcsi] at hL30 ⊢
          refine XO_nil ?_
          refine zD hD ?_
          refine XD_one 1 rfl (by kernel_rfl) ?_
          refine XO_makeSlice mkt_23 rfl rfl (by first | omega | (simp; omega)) (by decide) rfl rfl (fun b_127 => ?_)
          refine XO_nil ?_
          refine zD hD ?_
          refine XD_one 6 rfl (by kernel_rfl) ?_
          refine zS szt_23 ?_
          refine XO_nil ?_
          refine zD hD ?_
          refine XD_one 7 rfl (by kernel_rfl) ?_
          refine zS szt_23 ?_
          refine XO_nil ?_
          refine zD hD ?_
          refine XD_done (by kernel_rfl) ?_
          refine at_noP ?_
          rw [show ((loW xs : Nat) : Int).toNat = loW xs from rfl, cellsI_new, rngL_zero]
          refine at_freeze (b := b_16) (by repeat (first | exact Take.here | apply Take.there)) (fun I16 h16 e16 => ?_)
          refine at_freeze (b := b_17) (by repeat (first | exact Take.here | apply Take.there)) (fun I17 h17 e17 => ?_)
          exact at_metM rfl rfl rfl _ _ ⟨b_16, b_17, b_127, _, _, rfl, (hKc30.trans h16).trans h17, rfl, .imm (h17 _ _ e16) rfl, .imm e17 rfl, (hL30.mono h16).mono h17⟩ (.cons rfl (.cons rfl (.cons rfl (.cons rfl (.cons rfl (.cons rfl (.cons rfl (.cons rfl (.cons rfl (.cons rfl (.cons rfl (.cons rfl .nil)))))))))))) (by repeat (first | exact .refl | refine .keep ?_ | refine .drop ?_))
       ·
        refine XO_alloc zt_23 rfl rfl (fun b_17 => ?_)
        refine XO_nil ?_
        refine zD hD ?_
        refine XD_three 1 3 4 rfl rfl rfl (by kernel_rfl) ?_ ?_ ?_
        ·
         refine XO_makeSlice mkt_23 rfl rfl (by first | omega | (simp; omega)) (by decide) rfl rfl (fun b_127 => ?_)
         refine XO_nil ?_
         refine zD hD ?_
         refine XD_two 3 4 rfl rfl (by kernel_rfl) ?_ ?_
         ·
          refine XO_callM (cap := []) (vs := [_]) rfl rfl fun_42 .nil (w_codes hR (by omega) _ _) rfl rfl ?_
          rintro vv23 I23 L23 hI23 ⟨rfl, av30, c30, rfl, hL30⟩
          have hW0 := hW0.mono hI23
          have hW := hW.mono hI23
          have hH := hH.mono hI23
          have hT := hT.mono hI23
          have hC6 := hC6.mono hI23
          have hPr := hPr.mono hI23
          have hC10 := hC10.mono hI23
          have hAt := hAt.mono hI23
          have hWd := hWd.mono hI23
          have hPs := hPs.mono hI23
          have hre := hre.mono hI23
          have hR := hR.mono hI23
          have hPf := hPf.mono hI23
          have hIc := hIc.trans hI23
          have hB0 := hB0.trans hI23
          have hB6 := hB6.trans hI23
          have hKc30 := hKc30.trans hI23
          have hD := hD.trans hI23
          rw [hcsi] at hL30 ⊢
          refine XO_nil ?_
          refine zD hD ?_
          refine XD_one 4 rfl (by kernel_rfl) ?_
          refine XO_alloc zt_23 rfl rfl (fun b_16 => ?_)
          refine XO_nil ?_
          refine zD hD ?_
          refine XD_one 6 rfl (by kernel_rfl) ?_
          refine zS szt_23 ?_
          refine XO_nil ?_
          refine zD hD ?_
          refine XD_one 7 rfl (by kernel_rfl) ?_
          refine zS szt_23 ?_
          refine XO_nil ?_
          refine zD hD ?_
          refine XD_done (by kernel_rfl) ?_
          refine at_noP ?_
          rw [show ((loW xs : Nat) : Int).toNat = loW xs from rfl, cellsI_new, rngL_zero]
          refine at_freeze (b := b_16) (by repeat (first | exact Take.here | apply Take.there)) (fun I16 h16 e16 => ?_)
          refine at_freeze (b := b_17) (by repeat (first | exact Take.here | apply Take.there)) (fun I17 h17 e17 => ?_)
          exact at_metM rfl rfl rfl _ _ ⟨b_16, b_17, b_127, _, _, rfl, (hKc30.trans h16).trans h17, rfl, .imm (h17 _ _ e16) rfl, .imm e17 rfl, (hL30.mono h16).mono h17⟩ (.cons rfl (.cons rfl (.cons rfl (.cons rfl (.cons rfl (.cons rfl (.cons rfl (.cons rfl (.cons rfl (.cons rfl (.cons rfl (.cons rfl .nil)))))))))))) (by repeat (first | exact .refl | refine .keep ?_ | refine .drop ?_))
         ·
          refine XO_alloc zt_23 rfl rfl (fun b_16 => ?_)
          refine XO_nil ?_
          refine zD hD ?_
          refine XD_one 3 rfl (by kernel_rfl) ?_
          refine XO_callM (cap := []) (vs := [_]) rfl rfl fun_42 .nil (w_codes hR (by omega) _ _) rfl rfl ?_
          rintro vv24 I24 L24 hI24 ⟨rfl, av30, c30, rfl, hL30⟩
          have hW0 := hW0.mono hI24
          have hW := hW.mono hI24
          have hH := hH.mono hI24
          have hT := hT.mono hI24
          have hC6 := hC6.mono hI24
          have hPr := hPr.mono hI24
          have hC10 := hC10.mono hI24
          have hAt := hAt.mono hI24
          have hWd := hWd.mono hI24
          have hPs := hPs.mono hI24
          have hre := hre.mono hI24
          have hR := hR.mono hI24
          have hPf := hPf.mono hI24
          have hIc := hIc.trans hI24
          have hB0 := hB0.trans hI24
          have hB6 := hB6.trans hI24
          have hKc30 := hKc30.trans hI24
          have hD := hD.trans hI24
          rw [hcsi] at hL30 ⊢
          refine XO_nil ?_
          refine zD hD ?_
          refine XD_one 6 rfl (by kernel_rfl) ?_
          refine zS szt_23 ?_
          refine XO_nil ?_
          refine zD hD ?_
          refine XD_one 7 rfl (by kernel_rfl) ?_
          refine zS szt_23 ?_
          refine XO_nil ?_
          refine zD hD ?_
          refine XD_done (by kernel_rfl) ?_
          refine at_noP ?_
          rw [show ((loW xs : Nat) : Int).toNat = loW xs from rfl, cellsI_new, rngL_zero]
          refine at_freeze (b := b_16) (by repeat (first | exact Take.here | apply Take.there)) (fun I16 h16 e16 => ?_)
          refine at_freeze (b := b_17) (by repeat (first | exact Take.here | apply Take.there)) (fun I17 h17 e17 => ?_)
          exact at_metM rfl rfl rfl _ _ ⟨b_16, b_17, b_127, _, _, rfl, (hKc30.trans h16).trans h17, rfl, .imm (h17 _ _ e16) rfl, .imm e17 rfl, (hL30.mono h16).mono h17⟩ (.cons rfl (.cons rfl (.cons rfl (.cons rfl (.cons rfl (.cons rfl (.cons rfl (.cons rfl (.cons rfl (.cons rfl (.cons rfl (.cons rfl .nil)))))))))))) (by repeat (first | exact .refl | refine .keep ?_ | refine .drop ?_))
        ·
         refine XO_callM (cap := []) (vs := [_]) rfl rfl fun_42 .nil (w_codes hR (by omega) _ _) rfl rfl ?_
         rintro vv25 I25 L25 hI25 ⟨rfl, av30, c30, rfl, hL30⟩
         have hW0 := hW0.mono hI25
         have hW := hW.mono hI25
         have hH := hH.mono hI25
         have hT := hT.mono hI25
         have hC6 := hC6.mono hI25
         have hPr := hPr.mono hI25
         have hC10 := hC10.mono hI25
         have hAt := hAt.mono hI25
         have hWd := hWd.mono hI25
         have hPs := hPs.mono hI25
         have hre := hre.mono hI25
         have hR := hR.mono hI25
         have hPf := hPf.mono hI25
         have hIc := hIc.trans hI25
         have hB0 := hB0.trans hI25
         have hB6 := hB6.trans hI25
         have hKc30 := hKc30.trans hI25
         have hD := hD.trans hI25
         rw [hcsi] at hL30 ⊢
         refine XO_nil ?_
         refine zD hD ?_
         refine XD_two 1 4 rfl rfl (by kernel_rfl) ?_ ?_
         ·
          refine XO_makeSlice mkt_23 rfl rfl (by first | omega | (simp; omega)) (by decide) rfl rfl (fun b_127 => ?_)
          refine XO_nil ?_
          refine zD hD ?_
          refine XD_one 4 rfl (by kernel_rfl) ?_
          refine XO_alloc zt_23 rfl rfl (fun b_16 => ?_)
          refine XO_nil ?_
          refine zD hD ?_
          refine XD_one 6 rfl (by kernel_rfl) ?_
          refine zS szt_23 ?_
          refine XO_nil ?_
          refine zD hD ?_
          refine XD_one 7 rfl (by kernel_rfl) ?_
          refine zS szt_23 ?_
          refine XO_nil ?_
          refine zD hD ?_
          refine XD_done (by kernel_rfl) ?_
          refine at_noP ?_
          rw [show ((loW xs : Nat) : Int).toNat = loW xs from rfl, cellsI_new, rngL_zero]
          refine at_freeze (b := b_16) (by repeat (first | exact Take.here | apply Take.there)) (fun I16 h16 e16 => ?_)
          refine at_freeze (b := b_17) (by repeat (first | exact Take.here | apply Take.there)) (fun I17 h17 e17 => ?_)
          exact at_metM rfl rfl rfl _ _ ⟨b_16, b_17, b_127, _, _, rfl, (hKc30.trans h16).trans h17, rfl, .imm (h17 _ _ e16) rfl, .imm e17 rfl, (hL30.mono h16).mono h17⟩ (.cons rfl (.cons rfl (.cons rfl (.cons rfl (.cons rfl (.cons rfl (.cons rfl (.cons rfl (.cons rfl (.cons rfl (.cons rfl (.cons rfl .nil)))))))))))) (by repeat (first | exact .refl | refine .keep ?_ | refine .drop ?_))
         ·
          refine XO_alloc zt_23 rfl rfl (fun b_16 => ?_)
          refine XO_nil ?_
          refine zD hD ?_
          refine XD_one 1 rfl (by kernel_rfl) ?_
          refine XO_makeSlice mkt_23 rfl rfl (by first | omega | (simp; omega)) (by decide) rfl rfl (fun b_127 => ?_)
          refine XO_nil ?_
          refine zD hD ?_
          refine XD_one 6 rfl (by kernel_rfl) ?_
          refine zS szt_23 ?_
          refine XO_nil ?_
          refine zD hD ?_
          refine XD_one 7 rfl (by kernel_rfl) ?_
          refine zS szt_23 ?_
          refine XO_nil ?_
          refine zD hD ?_
          refine XD_done (by kernel_rfl) ?_
          refine at_noP ?_
          rw [show ((loW xs : Nat) : Int).toNat = loW xs from rfl, cellsI_new, rngL_zero]
          refine at_freeze (b := b_16) (by repeat (first | exact Take.here | apply Take.there)) (fun I16 h16 e16 => ?_)
          refine at_freeze (b := b_17) (by repeat (first | exact Take.here | apply Take.there)) (fun I17 h17 e17 => ?_)
          exact at_metM rfl rfl rfl _ _ ⟨b_16, b_17, b_127, _, _, rfl, (hKc30.trans h16).trans h17, rfl, .imm (h17 _ _ e16) rfl, .imm e17 rfl, (hL30.mono h16).mono h17⟩ (.cons rfl (.cons rfl (.cons rfl (.cons rfl (.cons rfl (.cons rfl (.cons rfl (.cons rfl (.cons rfl (.cons rfl (.cons rfl (.cons rfl .nil)))))))))))) (by repeat (first | exact .refl | refine .keep ?_ | refine .drop ?_))
        ·
         refine XO_alloc zt_23 rfl rfl (fun b_16 => ?_)
         refine XO_nil ?_
         refine zD hD ?_
         refine XD_two 1 3 rfl rfl (by kernel_rfl) ?_ ?_
         ·
          refine XO_makeSlice mkt_23 rfl rfl (by first | omega | (simp; omega)) (by decide) rfl rfl (fun b_127 => ?_)
          refine XO_nil ?_
          refine zD hD ?_
          refine XD_one 3 rfl (by kernel_rfl) ?_
          refine XO_callM (cap := []) (vs := [_]) rfl rfl fun_42 .nil (w_codes hR (by omega) _ _) rfl rfl ?_
          rintro vv26 I26 L26 hI26 ⟨rfl, av30, c30, rfl, hL30⟩
          have hW0 := hW0.mono hI26
          have hW := hW.mono hI26
          have hH := hH.mono hI26
          have hT := hT.mono hI26
          have hC6 := hC6.mono hI26
          have hPr := hPr.mono hI26
          have hC10 := hC10.mono hI26
          have hAt := hAt.mono hI26
          have hWd := hWd.mono hI26
          have hPs := hPs.mono hI26
          have hre := hre.mono hI26
          have hR := hR.mono hI26
          have hPf := hPf.mono hI26
          have hIc := hIc.trans hI26
          have hB0 := hB0.trans hI26
          have hB6 := hB6.trans hI26
          have hKc30 := hKc30.trans hI26
          have hD := hD.trans hI26
          rw [hcsi] at hL30 ⊢
          refine XO_nil ?_
          refine zD hD ?_
          refine XD_one 6 rfl (by kernel_rfl) ?_
          refine zS szt_23 ?_
          refine XO_nil ?_
          refine zD hD ?_
          refine XD_one 7 rfl (by kernel_rfl) ?_
          refine zS szt_23 ?_
          refine XO_nil ?_
          refine zD hD ?_
          refine XD_done (by kernel_rfl) ?_
          refine at_noP ?_
          rw [show ((loW xs : Nat) : Int).toNat = loW xs from rfl, cellsI_new, rngL_zero]
          refine at_freeze (b := b_16) (by repeat (first | exact Take.here | apply Take.there)) (fun I16 h16 e16 => ?_)
          refine at_freeze (b := b_17) (by repeat (first | exact Take.here | apply Take.there)) (fun I17 h17 e17 => ?_)
          exact at_metM rfl rfl rfl _ _ ⟨b_16, b_17, b_127, _, _, rfl, (hKc30.trans h16).trans h17, rfl, .imm (h17 _ _ e16) rfl, .imm e17 rfl, (hL30.mono h16).mono h17⟩ (.cons rfl (.cons rfl (.cons rfl (.cons rfl (.cons rfl (.cons rfl (.cons rfl (.cons rfl (.cons rfl (.cons rfl (.cons rfl (.cons rfl .nil)))))))))))) (by repeat (first | exact .refl | refine .keep ?_ | refine .drop ?_))
         ·
          refine XO_callM (cap := []) (vs := [_]) rfl rfl fun_42 .nil (w_codes hR (by omega) _ _) rfl rfl ?_
          rintro vv27 I27 L27 hI27 ⟨rfl, av30, c30, rfl, hL30⟩
          have hW0 := hW0.mono hI27
          have hW := hW.mono hI27
          have hH := hH.mono hI27
          have hT := hT.mono hI27
          have hC6 := hC6.mono hI27
          have hPr := hPr.mono hI27
          have hC10 := hC10.mono hI27
          have hAt := hAt.mono hI27
          have hWd := hWd.mono hI27
          have hPs := hPs.mono hI27
          have hre := hre.mono hI27
          have hR := hR.mono hI27
          have hPf := hPf.mono hI27
          have hIc := hIc.trans hI27
          have hB0 := hB0.trans hI27
          have hB6 := hB6.trans hI27
          have hKc30 := hKc30.trans hI27
          have hD := hD.trans hI27
          rw [hcsi] at hL30 ⊢
          refine XO_nil ?_
          refine zD hD ?_
          refine XD_one 1 rfl (by kernel_rfl) ?_
          refine XO_makeSlice mkt_23 rfl rfl (by first | omega | (simp; omega)) (by decide) rfl rfl (fun b_127 => ?_)
          refine XO_nil ?_
          refine zD hD ?_
          refine XD_one 6 rfl (by kernel_rfl) ?_
          refine zS szt_23 ?_
          refine XO_nil ?_
          refine zD hD ?_
          refine XD_one 7 rfl (by kernel_rfl) ?_
          refine zS szt_23 ?_
          refine XO_nil ?_
          refine zD hD ?_
          refine XD_done (by kernel_rfl) ?_
          refine at_noP ?_
          rw [show ((loW xs : Nat) : Int).toNat = loW xs from rfl, cellsI_new, rngL_zero]
          refine at_freeze (b := b_16) (by repeat (first | exact Take.here | apply Take.there)) (fun I16 h16 e16 => ?_)
          refine at_freeze (b := b_17) (by repeat (first | exact Take.here | apply Take.there)) (fun I17 h17 e17 => ?_)
          exact at_metM rfl rfl rfl _ _ ⟨b_16, b_17, b_127, _, _, rfl, (hKc30.trans h16).trans h17, rfl, .imm (h17 _ _ e16) rfl, .imm e17 rfl, (hL30.mono h16).mono h17⟩ (.cons rfl (.cons rfl (.cons rfl (.cons rfl (.cons rfl (.cons rfl (.cons rfl (.cons rfl (.cons rfl (.cons rfl (.cons rfl (.cons rfl .nil)))))))))))) (by repeat (first | exact .refl | refine .keep ?_ | refine .drop ?_))
      ·
       rintro ms E J28 loc' ⟨b16, b17, b127, av17, c17, rfl, hJ30, rfl, hC16, hC17, hL17⟩
       have hW0 := hW0.mono hJ30
       have hW := hW.mono hJ30
       have hH := hH.mono hJ30
       have hT := hT.mono hJ30
       have hC6 := hC6.mono hJ30
       have hPr := hPr.mono hJ30
       have hC10 := hC10.mono hJ30
       have hAt := hAt.mono hJ30
       have hWd := hWd.mono hJ30
       have hPs := hPs.mono hJ30
       have hre := hre.mono hJ30
       have hR := hR.mono hJ30
       have hPf := hPf.mono hJ30
       have hIc := hIc.trans hJ30
       have hB0 := hB0.trans hJ30
       have hB6 := hB6.trans hJ30
       refine X_cutM [(2, _), (4, _), (5, _), (6, _), (10, _), (11, _), (14, _), (16, _), (17, _), (119, _), (120, _), (121, _)] (.cons rfl (.cons rfl (.cons rfl (.cons rfl (.cons rfl (.cons rfl (.cons rfl (.cons rfl (.cons rfl (.cons rfl (.cons rfl (.cons rfl .nil)))))))))))) (fun T L0 ms E I' loc' => E = T ∧ HLe J28 I' ∧ (b127, .cells (cellsI (rngL (loW xs) ((if i = 0 then txF (wdW xs) (csW xs 0) (csW xs 0).length else fun _ => 0)))) 3 (0, 0)) :: (L ++ MB ms) = loc') ?_ ?_
       ·
        have hKc31 := HLe.refl J28
        refine X_seq (X_region ?_)
        refine zM ?_
        refine zC ?_
        refine XO_nil (at_then ?_)
        refine X_cond rfl (fun hc131 => ?_) (fun hc131 => ?_)
        ·
         have hi0 : i = 0 := by have h := hc131; simp at h; omega
         refine X_seq (X_region ?_)
         refine zM ?_
         refine XO_v0 (ev_lenS rfl slt_23) rfl rfl rfl ?_
         refine zM ?_
         refine XO_nil (at_then ?_)
         refine X_block ?_
         refine X_loopM [(2, _), (4, _), (5, _), (6, _), (10, _), (11, _), (14, _), (16, _), (17, _), (119, _), (120, _), (121, _), (132, _), (133, _)] (.cons rfl (.cons rfl (.cons rfl (.cons rfl (.cons rfl (.cons rfl (.cons rfl (.cons rfl (.cons rfl (.cons rfl (.cons rfl (.cons rfl (.cons rfl (.cons rfl .nil)))))))))))))) (fun T L0 mz ms E I' loc' => ∃ (k : Nat), mz = (csW xs 0).length - k ∧ E = (134, .int .i64 k) :: T ∧ J28 = I' ∧ (b127, .cells (cellsI (rngL (loW xs) (txF (wdW xs) (csW xs 0) k))) 3 (0, 0)) :: (L ++ MB ms) = loc' ∧ k ≤ (csW xs 0).length) _ _ _ _ ⟨0, rfl, rfl, rfl, rfl, Nat.zero_le _⟩ (.cons rfl (.cons rfl (.cons rfl (.cons rfl (.cons rfl (.cons rfl (.cons rfl (.cons rfl (.cons rfl (.cons rfl (.cons rfl (.cons rfl (.cons rfl (.cons rfl (.cons rfl .nil))))))))))))))) (HLe.refl _) rfl ?_
         rintro mz ms E I' loc' ⟨k, rfl, rfl, rfl, rfl, hk⟩
         refine X_seq (X_region ?_)
         refine zC ?_
         refine XO_nil (at_then ?_)
         refine X_seq ?_
         refine X_cond rfl (fun hc135 => ?_) (fun hc135 => ?_)
         ·
          have hlt_k : k < (csW xs 0).length := by have h := hc135; simp at h; omega
          obtain ⟨tk, hTk⟩ := hT.at hlt_k
          have hps := pos_lt hlt_k
          have hf1 : natF (sumF (wdW xs)) k = (((sumF (wdW xs)) k : Nat) : Int) := rfl
          have hf2 : natF (wdW xs) k = (((wdW xs) k : Nat) : Int) := rfl
          refine X_skip ?_
          refine at_then ?_
          refine X_seq ?_
          refine X_block ?_
          refine X_seq (X_region ?_)
          refine zM ?_
          refine XO_v0 (ev_indexSl rfl rfl slt_23 hT (fun hg => by first | omega | (simp [conj] at hg; omega))) rfl rfl rfl ?_
          refine XO_v0 (ev_load rfl sct_3 (fun hg => by exact Sl.get0 hT hTk rfl)) rfl rfl rfl ?_
          refine zA ?_
          refine zA ?_
          refine XO_nil (at_then ?_)
          have hD := HLe.refl J28
          refine X_noP ?_
          refine X_drawS J28 [] mixed ?_
          refine XD_take 0 rfl (ev_load rfl sct_23 (fun hg => by exact hC16.any)) (.none rfl) rfl rfl rfl (by kernel_rfl) (by kernel_rfl) (by kernel_rfl) noP_ok hD (by repeat (first | exact .refl | exact subL_nil | refine .keep ?_ | refine .drop ?_ | refine subL_add ?_)) ?_
          refine XD_take 1 rfl (ev_load rfl sct_23 (fun hg => by exact hC10.any)) (.none rfl) rfl rfl rfl (by kernel_rfl) (by kernel_rfl) (by kernel_rfl) noP_ok hD (by repeat (first | exact .refl | exact subL_nil | refine .keep ?_ | refine .drop ?_ | refine subL_add ?_)) ?_
          refine XD_take 2 rfl (ev_move rfl) (.none rfl) rfl rfl rfl (by kernel_rfl) (by kernel_rfl) (by kernel_rfl) noP_ok hD (by repeat (first | exact .refl | exact subL_nil | refine .keep ?_ | refine .drop ?_ | refine subL_add ?_)) ?_
          refine XD_take 3 rfl (ev_indexSl rfl rfl slt_23 hAt (fun hg => by first | omega | (simp [conj] at hg; omega))) (.none rfl) rfl rfl rfl (by kernel_rfl) (by kernel_rfl) (by kernel_rfl) noP_ok hD (by repeat (first | exact .refl | exact subL_nil | refine .keep ?_ | refine .drop ?_ | refine subL_add ?_)) ?_
          refine XD_take 4 rfl (ev_load rfl sct_3 (fun hg => by exact Sl.get0 (k := k) hAt (rngL_at (show k < _ by omega)) rfl)) (.none rfl) rfl rfl rfl (by kernel_rfl) (by kernel_rfl) (by kernel_rfl) noP_ok hD (by repeat (first | exact .refl | exact subL_nil | refine .keep ?_ | refine .drop ?_ | refine subL_add ?_)) ?_
          refine XD_take 5 rfl (ev_load rfl sct_23 (fun hg => by exact hC6.any)) (.none rfl) rfl rfl rfl (by kernel_rfl) (by kernel_rfl) (by kernel_rfl) noP_ok hD (by repeat (first | exact .refl | exact subL_nil | refine .keep ?_ | refine .drop ?_ | refine subL_add ?_)) ?_
          refine XD_take 6 rfl (ev_move rfl) (.none rfl) rfl rfl rfl (by kernel_rfl) (by kernel_rfl) (by kernel_rfl) noP_ok hD (by repeat (first | exact .refl | exact subL_nil | refine .keep ?_ | refine .drop ?_ | refine subL_add ?_)) ?_
          refine XD_take 7 rfl (ev_indexSl rfl rfl slt_23 hWd (fun hg => by first | omega | (simp [conj] at hg; omega))) (.none rfl) rfl rfl rfl (by kernel_rfl) (by kernel_rfl) (by kernel_rfl) noP_ok hD (by repeat (first | exact .refl | exact subL_nil | refine .keep ?_ | refine .drop ?_ | refine subL_add ?_)) ?_
          refine XD_take 8 rfl (ev_load rfl sct_3 (fun hg => by exact Sl.get0 (k := k) hWd (rngL_at (show k < _ by omega)) rfl)) (.none rfl) rfl rfl rfl (by kernel_rfl) (by kernel_rfl) (by kernel_rfl) noP_ok hD (by repeat (first | exact .refl | exact subL_nil | refine .keep ?_ | refine .drop ?_ | refine subL_add ?_)) ?_
          refine XD_take 9 rfl (ev_arB rfl rfl rfl (fun hg => by first | omega | (simp [conj] at hg; omega))) (.none rfl) rfl rfl rfl (by kernel_rfl) (by kernel_rfl) (by kernel_rfl) noP_ok hD (by repeat (first | exact .refl | exact subL_nil | refine .keep ?_ | refine .drop ?_ | refine subL_add ?_)) ?_
          refine XD_take 10 rfl (ev_move rfl) (.none rfl) rfl rfl rfl (by kernel_rfl) (by kernel_rfl) (by kernel_rfl) noP_ok hD (by repeat (first | exact .refl | exact subL_nil | refine .keep ?_ | refine .drop ?_ | refine subL_add ?_)) ?_
          refine XD_take 11 rfl (ev_indexOwn rfl rfl slt_23 (fun hg => by first | omega | (simp [conj] at hg; omega))) (.none rfl) rfl rfl rfl (by kernel_rfl) (by kernel_rfl) (by kernel_rfl) noP_ok hD (by repeat (first | exact .refl | exact subL_nil | refine .keep ?_ | refine .drop ?_ | refine subL_add ?_)) ?_
          refine XD_one 12 rfl (by kernel_rfl) ?_
          refine XO_store rfl rfl szt_3 rfl rfl (by repeat (first | exact Upd.here | apply Upd.there | apply upd_app)) (by rw [show natF (sumF (wdW xs)) k + natF (wdW xs) k = ((sumF (wdW xs) k + wdW xs k : Nat) : Int) from rfl]; exact bltI (by rw [rngL_len]; omega)) ?_
          refine XO_nil ?_
          refine zD hD ?_
          refine XD_done (by kernel_rfl) ?_
          refine at_noP ?_
          rw [show natF (sumF (wdW xs)) k + natF (wdW xs) k = ((sumF (wdW xs) k + wdW xs k : Nat) : Int) from rfl, cellsI_set, rngL_set, ← getD_of (d := 0) hTk]
          refine at_block_n ?_
          refine at_then ?_
          refine X_region ?_
          refine zB ?_
          refine zM ?_
          refine XO_nil ?_
          exact at_metM rfl rfl rfl _ _ ⟨(csW xs 0).length - (k + 1), by omega, k + 1, rfl, rfl, rfl, rfl, by omega⟩ (.cons rfl (.cons rfl (.cons rfl (.cons rfl (.cons rfl (.cons rfl (.cons rfl (.cons rfl (.cons rfl (.cons rfl (.cons rfl (.cons rfl (.cons rfl (.cons rfl (.cons rfl .nil))))))))))))))) (by repeat (first | exact .refl | exact subL_left | refine subL_app ?_ | refine .drop ?_ | refine subL_add ?_))
         ·
          have hge_k : (csW xs 0).length ≤ k := by have h := hc135; simp at h; omega
          obtain rfl : k = (csW xs 0).length := by omega
          refine X_exit ?_
          refine at_then_e ?_
          refine at_then_e ?_
          refine at_block_hit ?_
          exact at_metM rfl rfl rfl _ _ ⟨rfl, hKc31, by rw [if_pos hi0]⟩ (.cons rfl (.cons rfl (.cons rfl (.cons rfl (.cons rfl (.cons rfl (.cons rfl (.cons rfl (.cons rfl (.cons rfl (.cons rfl (.cons rfl .nil)))))))))))) .refl
        ·
         have hi0 : ¬ i = 0 := by have h := hc131; simp at h; omega
         refine X_skip ?_
         exact at_metM rfl rfl rfl _ _ ⟨rfl, hKc31, by rw [if_neg hi0]⟩ (.cons rfl (.cons rfl (.cons rfl (.cons rfl (.cons rfl (.cons rfl (.cons rfl (.cons rfl (.cons rfl (.cons rfl (.cons rfl (.cons rfl .nil)))))))))))) .refl
       ·
        rintro ms E J30 loc' ⟨rfl, hJ131, rfl⟩
        have hW0 := hW0.mono hJ131
        have hW := hW.mono hJ131
        have hH := hH.mono hJ131
        have hT := hT.mono hJ131
        have hC6 := hC6.mono hJ131
        have hPr := hPr.mono hJ131
        have hC10 := hC10.mono hJ131
        have hAt := hAt.mono hJ131
        have hWd := hWd.mono hJ131
        have hPs := hPs.mono hJ131
        have hre := hre.mono hJ131
        have hR := hR.mono hJ131
        have hPf := hPf.mono hJ131
        have hC16 := hC16.mono hJ131
        have hC17 := hC17.mono hJ131
        have hL17 := hL17.mono hJ131
        have hIc := hIc.trans hJ131
        have hB0 := hB0.trans hJ131
        have hB6 := hB6.trans hJ131
        refine X_seq ?_
        refine X_seq (X_region ?_)
        refine zM ?_
        refine zM ?_
        refine XO_v0 (ev_indexSl rfl rfl slt_87 hPs (fun hg => by first | omega | (simp [conj] at hg; omega))) rfl rfl rfl ?_
        refine XO_v0 (ev_load rfl sct_88 (fun hg => by exact Sl.get0 hPs hhp rfl)) rfl rfl rfl ?_
        refine XO_v0 (ev_lenS rfl slt_88) rfl rfl rfl ?_
        refine zM ?_
        refine XO_nil (at_then ?_)
        refine X_block ?_
        refine X_loopM [(2, _), (4, _), (5, _), (6, _), (10, _), (11, _), (14, _), (16, _), (17, _), (119, _), (120, _), (121, _), (155, _), (156, _)] (.cons rfl (.cons rfl (.cons rfl (.cons rfl (.cons rfl (.cons rfl (.cons rfl (.cons rfl (.cons rfl (.cons rfl (.cons rfl (.cons rfl (.cons rfl (.cons rfl .nil)))))))))))))) (fun T L0 mz ms E I' loc' => ∃ (k : Nat), mz = (pfW xs i).length - k ∧ E = (157, .int .i64 k) :: T ∧ J30 = I' ∧ (b127, .cells (cellsI (rngL (loW xs) (((pfW xs i).take k).foldl (prF (wdW xs) (csW xs i)) (if i = 0 then txF (wdW xs) (csW xs 0) (csW xs 0).length else fun _ => 0)))) 3 (0, 0)) :: (L ++ MB ms) = loc' ∧ k ≤ (pfW xs i).length) _ _ _ _ ⟨0, rfl, rfl, rfl, rfl, Nat.zero_le _⟩ (.cons rfl (.cons rfl (.cons rfl (.cons rfl (.cons rfl (.cons rfl (.cons rfl (.cons rfl (.cons rfl (.cons rfl (.cons rfl (.cons rfl (.cons rfl (.cons rfl (.cons rfl .nil))))))))))))))) (HLe.refl _) rfl ?_
        rintro mz ms E I' loc' ⟨k, rfl, rfl, rfl, rfl, hk⟩
        refine X_seq (X_region ?_)
        refine zC ?_
        refine XO_nil (at_then ?_)
        refine X_seq ?_
        refine X_cond rfl (fun hc158 => ?_) (fun hc158 => ?_)
        ·
         have hlt_k : k < (pfW xs i).length := by have h := hc158; simp at h; omega
         obtain ⟨y, hy⟩ := hPf.at (show k < _ by omega)
         obtain ⟨y1, y2, y3, y4⟩ := pfW_in hy
         refine X_skip ?_
         refine at_then ?_
         refine X_seq ?_
         refine X_block ?_
         refine X_seq (X_region ?_)
         refine XO_v0 (ev_indexSl rfl rfl slt_88 hPf (fun hg => by first | omega | (simp [conj] at hg; omega))) rfl rfl rfl ?_
         refine XO_v0 (ev_loadA rfl agt_94 (fun hg => by exact Sl.getA hPf hy) rfl) rfl rfl rfl ?_
         refine XO_alloc zt_94 rfl rfl (fun b_21 => ?_)
         refine XO_storeA rfl rfl szt_94 rfl rfl rfl rfl (by repeat (first | exact Upd.here | apply Upd.there | apply upd_app)) ?_
         refine XO_nil (at_then (X_seq (X_region ?_)))
         refine XO_v0 (ev_indexArr rfl rfl art_94 (fun hg => by first | decide | omega)) rfl rfl rfl ?_
         refine XO_v0 (ev_load rfl sct_3 (fun hg => by exact Cell.h0 rfl)) rfl rfl rfl ?_
         refine zC ?_
         refine zM ?_
         refine XO_pushT 3 rfl rfl rfl ?_
         refine XO_v1 (ev_indexArr rfl rfl art_94 (fun hg => by first | decide | omega)) (.some rfl rfl rfl rfl gbt) rfl rfl rfl ?_
         refine XO_v1 (ev_load rfl sct_3 (fun hg => by exact Cell.h0 rfl)) (.some rfl rfl rfl rfl gbt) rfl rfl rfl ?_
         refine XO_v1 (ev_cmp rfl rfl rfl) (.some rfl rfl rfl rfl gbt) rfl rfl rfl ?_
         refine XO_and0 rfl rfl rfl rfl rfl ?_
         refine XO_nil (at_then ?_)
         refine X_cond rfl (fun hc168 => ?_) (fun hc168 => ?_)
         ·
          have hy5 : y.1 > 0 ∧ y.2 > 0 := by have h := hc168; simp at h; exact h
          have hps := pos_lt (xs := xs) (k := (y.1 - 1).toNat) (by omega)
          have hf1 : natF (sumF (wdW xs)) (y.1 - 1).toNat = (((sumF (wdW xs)) (y.1 - 1).toNat : Nat) : Int) := rfl
          have hf2 : natF (wdW xs) (y.1 - 1).toNat = (((wdW xs) (y.1 - 1).toNat : Nat) : Int) := rfl
          have hD := HLe.refl J30
          refine X_noP ?_
          refine X_drawS J30 [(b_21, .cells (encQ y).toArray 94 (0, 0))] mixed ?_
          refine XD_take 0 rfl (ev_load rfl sct_23 (fun hg => by exact hC16.any)) (.none rfl) rfl rfl rfl (by kernel_rfl) (by kernel_rfl) (by kernel_rfl) noP_ok hD (by repeat (first | exact .refl | exact subL_nil | refine .keep ?_ | refine .drop ?_ | refine subL_add ?_)) ?_
          refine XD_take 1 rfl (ev_load rfl sct_23 (fun hg => by exact hC10.any)) (.none rfl) rfl rfl rfl (by kernel_rfl) (by kernel_rfl) (by kernel_rfl) noP_ok hD (by repeat (first | exact .refl | exact subL_nil | refine .keep ?_ | refine .drop ?_ | refine subL_add ?_)) ?_
          refine XD_take 2 rfl (ev_indexArr rfl rfl art_94 (fun hg => by first | decide | omega)) (.none rfl) rfl rfl rfl (by kernel_rfl) (by kernel_rfl) (by kernel_rfl) noP_ok hD (by repeat (first | exact .refl | exact subL_nil | refine .keep ?_ | refine .drop ?_ | refine subL_add ?_)) ?_
          refine XD_take 3 rfl (ev_load rfl sct_3 (fun hg => by exact Cell.h0 rfl)) (.none rfl) rfl rfl rfl (by kernel_rfl) (by kernel_rfl) (by kernel_rfl) noP_ok hD (by repeat (first | exact .refl | exact subL_nil | refine .keep ?_ | refine .drop ?_ | refine subL_add ?_)) ?_
          refine XD_take 4 rfl (ev_arB rfl rfl rfl (fun hg => by first | omega | (simp [conj] at hg; omega))) (.none rfl) rfl rfl rfl (by kernel_rfl) (by kernel_rfl) (by kernel_rfl) noP_ok hD (by repeat (first | exact .refl | exact subL_nil | refine .keep ?_ | refine .drop ?_ | refine subL_add ?_)) ?_
          refine XD_take 5 rfl (ev_indexSl rfl rfl slt_23 hAt (fun hg => by first | omega | (simp [conj] at hg; omega))) (.none rfl) rfl rfl rfl (by kernel_rfl) (by kernel_rfl) (by kernel_rfl) noP_ok hD (by repeat (first | exact .refl | exact subL_nil | refine .keep ?_ | refine .drop ?_ | refine subL_add ?_)) ?_
          refine XD_take 6 rfl (ev_load rfl sct_3 (fun hg => by exact Sl.get0 (k := (y.1 - 1).toNat) hAt (rngL_at (by omega)) rfl)) (.none rfl) rfl rfl rfl (by kernel_rfl) (by kernel_rfl) (by kernel_rfl) noP_ok hD (by repeat (first | exact .refl | exact subL_nil | refine .keep ?_ | refine .drop ?_ | refine subL_add ?_)) ?_
          refine XD_take 7 rfl (ev_load rfl sct_23 (fun hg => by exact hC6.any)) (.none rfl) rfl rfl rfl (by kernel_rfl) (by kernel_rfl) (by kernel_rfl) noP_ok hD (by repeat (first | exact .refl | exact subL_nil | refine .keep ?_ | refine .drop ?_ | refine subL_add ?_)) ?_
          refine XD_take 8 rfl (ev_indexArr rfl rfl art_94 (fun hg => by first | decide | omega)) (.none rfl) rfl rfl rfl (by kernel_rfl) (by kernel_rfl) (by kernel_rfl) noP_ok hD (by repeat (first | exact .refl | exact subL_nil | refine .keep ?_ | refine .drop ?_ | refine subL_add ?_)) ?_
          refine XD_take 9 rfl (ev_load rfl sct_3 (fun hg => by exact Cell.h0 rfl)) (.none rfl) rfl rfl rfl (by kernel_rfl) (by kernel_rfl) (by kernel_rfl) noP_ok hD (by repeat (first | exact .refl | exact subL_nil | refine .keep ?_ | refine .drop ?_ | refine subL_add ?_)) ?_
          refine XD_take 10 rfl (ev_arB rfl rfl rfl (fun hg => by first | omega | (simp [conj] at hg; omega))) (.none rfl) rfl rfl rfl (by kernel_rfl) (by kernel_rfl) (by kernel_rfl) noP_ok hD (by repeat (first | exact .refl | exact subL_nil | refine .keep ?_ | refine .drop ?_ | refine subL_add ?_)) ?_
          refine XD_take 11 rfl (ev_indexSl rfl rfl slt_23 hWd (fun hg => by first | omega | (simp [conj] at hg; omega))) (.none rfl) rfl rfl rfl (by kernel_rfl) (by kernel_rfl) (by kernel_rfl) noP_ok hD (by repeat (first | exact .refl | exact subL_nil | refine .keep ?_ | refine .drop ?_ | refine subL_add ?_)) ?_
          refine XD_take 12 rfl (ev_load rfl sct_3 (fun hg => by exact Sl.get0 (k := (y.1 - 1).toNat) hWd (rngL_at (by omega)) rfl)) (.none rfl) rfl rfl rfl (by kernel_rfl) (by kernel_rfl) (by kernel_rfl) noP_ok hD (by repeat (first | exact .refl | exact subL_nil | refine .keep ?_ | refine .drop ?_ | refine subL_add ?_)) ?_
          refine XD_take 13 rfl (ev_arB rfl rfl rfl (fun hg => by first | omega | (simp [conj] at hg; omega))) (.none rfl) rfl rfl rfl (by kernel_rfl) (by kernel_rfl) (by kernel_rfl) noP_ok hD (by repeat (first | exact .refl | exact subL_nil | refine .keep ?_ | refine .drop ?_ | refine subL_add ?_)) ?_
          refine XD_take 14 rfl (ev_load rfl sct_23 (fun hg => by exact hC17.any)) (.none rfl) rfl rfl rfl (by kernel_rfl) (by kernel_rfl) (by kernel_rfl) noP_ok hD (by repeat (first | exact .refl | exact subL_nil | refine .keep ?_ | refine .drop ?_ | refine subL_add ?_)) ?_
          refine XD_take 15 rfl (ev_indexArr rfl rfl art_94 (fun hg => by first | decide | omega)) (.none rfl) rfl rfl rfl (by kernel_rfl) (by kernel_rfl) (by kernel_rfl) noP_ok hD (by repeat (first | exact .refl | exact subL_nil | refine .keep ?_ | refine .drop ?_ | refine subL_add ?_)) ?_
          refine XD_take 16 rfl (ev_load rfl sct_3 (fun hg => by exact Cell.h0 rfl)) (.none rfl) rfl rfl rfl (by kernel_rfl) (by kernel_rfl) (by kernel_rfl) noP_ok hD (by repeat (first | exact .refl | exact subL_nil | refine .keep ?_ | refine .drop ?_ | refine subL_add ?_)) ?_
          refine XD_take 17 rfl (ev_arB rfl rfl rfl (fun hg => by first | omega | (simp [conj] at hg; omega))) (.none rfl) rfl rfl rfl (by kernel_rfl) (by kernel_rfl) (by kernel_rfl) noP_ok hD (by repeat (first | exact .refl | exact subL_nil | refine .keep ?_ | refine .drop ?_ | refine subL_add ?_)) ?_
          refine XD_take 18 rfl (ev_indexSl rfl rfl slt_23 hL17 (fun hg => by first | omega | (simp [conj] at hg; omega))) (.none rfl) rfl rfl rfl (by kernel_rfl) (by kernel_rfl) (by kernel_rfl) noP_ok hD (by repeat (first | exact .refl | exact subL_nil | refine .keep ?_ | refine .drop ?_ | refine subL_add ?_)) ?_
          refine XD_take 19 rfl (ev_load rfl sct_3 (fun hg => by exact Sl.get0 (k := (y.2 - 1).toNat) hL17 (some_getD (d := 0) rfl (by omega)) rfl)) (.none rfl) rfl rfl rfl (by kernel_rfl) (by kernel_rfl) (by kernel_rfl) noP_ok hD (by repeat (first | exact .refl | exact subL_nil | refine .keep ?_ | refine .drop ?_ | refine subL_add ?_)) ?_
          refine XD_take 20 rfl (ev_indexOwn rfl rfl slt_23 (fun hg => by first | omega | (simp [conj] at hg; omega))) (.none rfl) rfl rfl rfl (by kernel_rfl) (by kernel_rfl) (by kernel_rfl) noP_ok hD (by repeat (first | exact .refl | exact subL_nil | refine .keep ?_ | refine .drop ?_ | refine subL_add ?_)) ?_
          refine XD_one 21 rfl (by kernel_rfl) ?_
          refine XO_store rfl rfl szt_3 rfl rfl (by repeat (first | exact Upd.here | apply Upd.there | apply upd_app)) (by rw [show natF (sumF (wdW xs)) (y.1 - 1).toNat + natF (wdW xs) (y.1 - 1).toNat = ((sumF (wdW xs) (y.1 - 1).toNat + wdW xs (y.1 - 1).toNat : Nat) : Int) from rfl]; exact bltI (by rw [rngL_len]; omega)) ?_
          refine XO_nil ?_
          refine zD hD ?_
          refine XD_done (by kernel_rfl) ?_
          refine at_noP ?_
          rw [show natF (sumF (wdW xs)) (y.1 - 1).toNat + natF (wdW xs) (y.1 - 1).toNat = ((sumF (wdW xs) (y.1 - 1).toNat + wdW xs (y.1 - 1).toNat : Nat) : Int) from rfl, cellsI_set, rngL_set]
          refine at_block_n ?_
          refine at_then ?_
          refine X_region ?_
          refine zB ?_
          refine zM ?_
          refine XO_nil ?_
          exact at_metM rfl rfl rfl _ _ ⟨(pfW xs i).length - (k + 1), by omega, k + 1, rfl, rfl, rfl, by rw [prF_next hy, prF_yes hc168], by omega⟩ (.cons rfl (.cons rfl (.cons rfl (.cons rfl (.cons rfl (.cons rfl (.cons rfl (.cons rfl (.cons rfl (.cons rfl (.cons rfl (.cons rfl (.cons rfl (.cons rfl (.cons rfl .nil))))))))))))))) (by repeat (first | exact .refl | exact subL_left | refine subL_app ?_ | refine .drop ?_ | refine subL_add ?_))
         ·
          refine X_skip ?_
          refine at_block_n ?_
          refine at_then ?_
          refine X_region ?_
          refine zB ?_
          refine zM ?_
          refine XO_nil ?_
          exact at_metM rfl rfl rfl _ _ ⟨(pfW xs i).length - (k + 1), by omega, k + 1, rfl, rfl, rfl, by rw [prF_next hy, prF_no hc168], by omega⟩ (.cons rfl (.cons rfl (.cons rfl (.cons rfl (.cons rfl (.cons rfl (.cons rfl (.cons rfl (.cons rfl (.cons rfl (.cons rfl (.cons rfl (.cons rfl (.cons rfl (.cons rfl .nil))))))))))))))) (by repeat (first | exact .refl | exact subL_left | refine subL_app ?_ | refine .drop ?_ | refine subL_add ?_))
        ·
         have hge_k : (pfW xs i).length ≤ k := by have h := hc158; simp at h; omega
         rw [List.take_of_length_le hge_k]
         refine X_exit ?_
         refine at_then_e ?_
         refine at_then_e ?_
         refine at_block_hit ?_
         refine at_then ?_
         refine X_seq (X_region ?_)
         refine zM ?_
         refine XO_v0 (ev_lenS rfl slt_23) rfl rfl rfl ?_
         refine zB ?_
         refine XO_makeSlice mkt_23 rfl rfl (by first | omega | (simp; omega)) (by decide) rfl rfl (fun b_194 => ?_)
         refine XO_alloc zt_23 rfl rfl (fun b_22 => ?_)
         refine zS szt_23 ?_
         refine XO_nil ?_
         have e1 : (((csW xs 0).length : Nat) : Int) + 1 = (((csW xs 0).length + 1 : Nat) : Int) := rfl
         rw [e1, show (((csW xs 0).length + 1 : Nat) : Int).toNat = (csW xs 0).length + 1 from rfl, cellsI_new, rngL_zero, nat_zero]
         refine X_freeze (b := b_22) (by repeat (first | exact Take.here | apply Take.there)) (fun I32 hI32 hb32 => ?_)
         have hW0 := hW0.mono hI32
         have hW := hW.mono hI32
         have hH := hH.mono hI32
         have hT := hT.mono hI32
         have hC6 := hC6.mono hI32
         have hPr := hPr.mono hI32
         have hC10 := hC10.mono hI32
         have hAt := hAt.mono hI32
         have hWd := hWd.mono hI32
         have hPs := hPs.mono hI32
         have hre := hre.mono hI32
         have hR := hR.mono hI32
         have hPf := hPf.mono hI32
         have hC16 := hC16.mono hI32
         have hC17 := hC17.mono hI32
         have hL17 := hL17.mono hI32
         have hIc := hIc.trans hI32
         have hB0 := hB0.trans hI32
         have hB6 := hB6.trans hI32
         have hC22 : Cell I32 [] b_22 0 (.slice (some ⟨b_194, 0, none⟩) ((csW xs 0).length + 1) ((csW xs 0).length + 1)) := .imm hb32 rfl
         refine at_then ?_
         refine X_seq ?_
         refine X_seq (X_region ?_)
         refine zM ?_
         refine zM ?_
         refine XO_v0 (ev_indexSl rfl rfl slt_87 hPs (fun hg => by first | omega | (simp [conj] at hg; omega))) rfl rfl rfl ?_
         refine XO_v0 (ev_load rfl sct_88 (fun hg => by exact Sl.get0 hPs hhp rfl)) rfl rfl rfl ?_
         refine XO_callM (cap := []) (vs := [_]) rfl rfl fun_44 .nil (w_alone _ _ _ _) rfl rfl ?_
         rintro vv33 I33 L33 hI33 ⟨rfl, b1, rfl, hb1⟩
         have hW0 := hW0.mono hI33
         have hW := hW.mono hI33
         have hH := hH.mono hI33
         have hT := hT.mono hI33
         have hC6 := hC6.mono hI33
         have hPr := hPr.mono hI33
         have hC10 := hC10.mono hI33
         have hAt := hAt.mono hI33
         have hWd := hWd.mono hI33
         have hPs := hPs.mono hI33
         have hre := hre.mono hI33
         have hR := hR.mono hI33
         have hPf := hPf.mono hI33
         have hC16 := hC16.mono hI33
         have hC17 := hC17.mono hI33
         have hL17 := hL17.mono hI33
         have hC22 := hC22.mono hI33
         have hIc := hIc.trans hI33
         have hB0 := hB0.trans hI33
         have hB6 := hB6.trans hI33
         refine XO_nil (at_then ?_)
         refine X_block ?_
         refine X_rangeFuncM2 (K := []) (L := (b_194, .cells (cellsI (rngL ((csW xs 0).length + 1) (natF (cnt [])))) 3 (0, 0)) :: (b127, .cells (cellsI (rngL (loW xs) ((alP (wdW xs) (csW xs i) ((pfW xs i).foldl (prF (wdW xs) (csW xs i)) (if i = 0 then txF (wdW xs) (csW xs 0) (csW xs 0).length else fun _ => 0)) []).1))) 3 (0, 0)) :: L) (en1 := en1Q) (en2 := en2Q) (xs := alW xs i) (fun pre I' loc' => loc' = (b_194, .cells (cellsI (rngL ((csW xs 0).length + 1) (natF (cnt pre)))) 3 (0, 0)) :: (b127, .cells (cellsI (rngL (loW xs) ((alP (wdW xs) (csW xs i) ((pfW xs i).foldl (prF (wdW xs) (csW xs i)) (if i = 0 then txF (wdW xs) (csW xs 0) (csW xs 0).length else fun _ => 0)) pre).1))) 3 (0, 0)) :: L) (fun _ _ _ _ => False) (fun pre x E2 I2 loc2 => E2 = [(10, capP b_10), (16, capP b16), (17, capP b17), (22, capP b_22), (23, .int .i64 x.1), (24, .int .i64 x.2)] ∧ loc2 = (b_194, .cells (cellsI (rngL ((csW xs 0).length + 1) (natF (cnt pre)))) 3 (0, 0)) :: (b127, .cells (cellsI (rngL (loW xs) ((alP (wdW xs) (csW xs i) ((pfW xs i).foldl (prF (wdW xs) (csW xs i)) (if i = 0 then txF (wdW xs) (csW xs 0) (csW xs 0).length else fun _ => 0)) pre).1))) 3 (0, 0)) :: L) rfl fun_78 (w_aloit hPf (by omega) (pfW_2 hrs i) hb1) rfl rfl rfl ?_ ?_ ?_ ?_
         ·
          rintro l9 pre x I1 loc1 H1 hpre hI1 rfl
          refine X_seq (X_region ?_)
          refine zA ?_
          refine XO_nil (at_then ?_)
          refine X_region ?_
          refine zA ?_
          refine XO_nil ?_
          exact at_met' _ ⟨HLe.refl _, rfl, rfl⟩ (.cons rfl (.cons rfl (.cons rfl (.cons rfl (.cons rfl (.cons rfl .nil))))))
         ·
          rintro l9 pre x E2 I2 loc2 H2 hpre hI2 ⟨rfl, rfl⟩
          have hW0 := hW0.mono hI2
          have hW := hW.mono hI2
          have hH := hH.mono hI2
          have hT := hT.mono hI2
          have hC6 := hC6.mono hI2
          have hPr := hPr.mono hI2
          have hC10 := hC10.mono hI2
          have hAt := hAt.mono hI2
          have hWd := hWd.mono hI2
          have hPs := hPs.mono hI2
          have hre := hre.mono hI2
          have hR := hR.mono hI2
          have hPf := hPf.mono hI2
          have hC16 := hC16.mono hI2
          have hC17 := hC17.mono hI2
          have hL17 := hL17.mono hI2
          have hC22 := hC22.mono hI2
          have hIc := hIc.trans hI2
          have hB0 := hB0.trans hI2
          have hB6 := hB6.trans hI2
          obtain ⟨x1, x2, x3, x4, x5⟩ := alW_in hpre
          have hcb := Nat.le_trans (@cnt_len (alW xs i) x.1.toNat) (alW_b hrs i)
          have hnc := natF_in (f := cnt pre) (a := x.1.toNat) (B := 128) (by omega)
          have hp2 := pos_lt2 x2 hlt_i x5
          have hf1 : natF (sumF (wdW xs)) x.1.toNat = (((sumF (wdW xs)) x.1.toNat : Nat) : Int) := rfl
          have hf2 : natF (cnt pre) x.1.toNat = (((cnt pre) x.1.toNat : Nat) : Int) := rfl
          refine X_block ?_
          refine X_seq ?_
          have hD := HLe.refl I2
          refine X_noP ?_
          refine X_drawS I2 [(b_194, .cells (cellsI (rngL ((csW xs 0).length + 1) (natF (cnt pre)))) 3 (0, 0))] mixed ?_
          refine XD_take 0 rfl (ev_load rfl sct_23 (fun hg => by exact hC16.any)) (.none rfl) rfl rfl rfl (by kernel_rfl) (by kernel_rfl) (by kernel_rfl) noP_ok hD (by repeat (first | exact .refl | exact subL_nil | refine .keep ?_ | refine .drop ?_ | refine subL_add ?_)) ?_
          refine XD_take 1 rfl (ev_load rfl sct_23 (fun hg => by exact hC10.any)) (.none rfl) rfl rfl rfl (by kernel_rfl) (by kernel_rfl) (by kernel_rfl) noP_ok hD (by repeat (first | exact .refl | exact subL_nil | refine .keep ?_ | refine .drop ?_ | refine subL_add ?_)) ?_
          refine XD_take 2 rfl (ev_move rfl) (.none rfl) rfl rfl rfl (by kernel_rfl) (by kernel_rfl) (by kernel_rfl) noP_ok hD (by repeat (first | exact .refl | exact subL_nil | refine .keep ?_ | refine .drop ?_ | refine subL_add ?_)) ?_
          refine XD_take 3 rfl (ev_indexSl rfl rfl slt_23 hAt (fun hg => by first | omega | (simp [conj] at hg; omega))) (.none rfl) rfl rfl rfl (by kernel_rfl) (by kernel_rfl) (by kernel_rfl) noP_ok hD (by repeat (first | exact .refl | exact subL_nil | refine .keep ?_ | refine .drop ?_ | refine subL_add ?_)) ?_
          refine XD_take 4 rfl (ev_load rfl sct_3 (fun hg => by exact Sl.get0 (k := x.1.toNat) hAt (rngL_at (by omega)) rfl)) (.none rfl) rfl rfl rfl (by kernel_rfl) (by kernel_rfl) (by kernel_rfl) noP_ok hD (by repeat (first | exact .refl | exact subL_nil | refine .keep ?_ | refine .drop ?_ | refine subL_add ?_)) ?_
          refine XD_take 5 rfl (ev_load rfl sct_23 (fun hg => by exact hC22.any)) (.none rfl) rfl rfl rfl (by kernel_rfl) (by kernel_rfl) (by kernel_rfl) noP_ok hD (by repeat (first | exact .refl | exact subL_nil | refine .keep ?_ | refine .drop ?_ | refine subL_add ?_)) ?_
          refine XD_take 6 rfl (ev_move rfl) (.none rfl) rfl rfl rfl (by kernel_rfl) (by kernel_rfl) (by kernel_rfl) noP_ok hD (by repeat (first | exact .refl | exact subL_nil | refine .keep ?_ | refine .drop ?_ | refine subL_add ?_)) ?_
          refine XD_take 7 rfl (ev_indexOwn rfl rfl slt_23 (fun hg => by first | omega | (simp [conj] at hg; omega))) (.none rfl) rfl rfl rfl (by kernel_rfl) (by kernel_rfl) (by kernel_rfl) noP_ok hD (by repeat (first | exact .refl | exact subL_nil | refine .keep ?_ | refine .drop ?_ | refine subL_add ?_)) ?_
          refine XD_take 8 rfl (ev_load rfl sct_3 (fun hg => by exact cellI_at (rngL_at (by omega)))) (.none rfl) rfl rfl rfl (by kernel_rfl) (by kernel_rfl) (by kernel_rfl) noP_ok hD (by repeat (first | exact .refl | exact subL_nil | refine .keep ?_ | refine .drop ?_ | refine subL_add ?_)) ?_
          refine XD_take 9 rfl (ev_arB rfl rfl rfl (fun hg => by first | omega | (simp [conj] at hg; omega))) (.none rfl) rfl rfl rfl (by kernel_rfl) (by kernel_rfl) (by kernel_rfl) noP_ok hD (by repeat (first | exact .refl | exact subL_nil | refine .keep ?_ | refine .drop ?_ | refine subL_add ?_)) ?_
          refine XD_take 10 rfl (ev_load rfl sct_23 (fun hg => by exact hC17.any)) (.none rfl) rfl rfl rfl (by kernel_rfl) (by kernel_rfl) (by kernel_rfl) noP_ok hD (by repeat (first | exact .refl | exact subL_nil | refine .keep ?_ | refine .drop ?_ | refine subL_add ?_)) ?_
          refine XD_take 11 rfl (ev_move rfl) (.none rfl) rfl rfl rfl (by kernel_rfl) (by kernel_rfl) (by kernel_rfl) noP_ok hD (by repeat (first | exact .refl | exact subL_nil | refine .keep ?_ | refine .drop ?_ | refine subL_add ?_)) ?_
          refine XD_take 12 rfl (ev_indexSl rfl rfl slt_23 hL17 (fun hg => by first | omega | (simp [conj] at hg; omega))) (.none rfl) rfl rfl rfl (by kernel_rfl) (by kernel_rfl) (by kernel_rfl) noP_ok hD (by repeat (first | exact .refl | exact subL_nil | refine .keep ?_ | refine .drop ?_ | refine subL_add ?_)) ?_
          refine XD_take 13 rfl (ev_load rfl sct_3 (fun hg => by exact Sl.get0 (k := x.2.toNat) hL17 (some_getD (d := 0) rfl (by omega)) rfl)) (.none rfl) rfl rfl rfl (by kernel_rfl) (by kernel_rfl) (by kernel_rfl) noP_ok hD (by repeat (first | exact .refl | exact subL_nil | refine .keep ?_ | refine .drop ?_ | refine subL_add ?_)) ?_
          refine XD_take 14 rfl (ev_indexOwn rfl rfl slt_23 (fun hg => by first | omega | (simp [conj] at hg; omega))) (.none rfl) rfl rfl rfl (by kernel_rfl) (by kernel_rfl) (by kernel_rfl) noP_ok hD (by repeat (first | exact .refl | exact subL_nil | refine .keep ?_ | refine .drop ?_ | refine subL_add ?_)) ?_
          refine XD_one 15 rfl (by kernel_rfl) ?_
          refine XO_store rfl rfl szt_3 rfl rfl (by repeat (first | exact Upd.here | apply Upd.there | apply upd_app)) (by rw [show natF (sumF (wdW xs)) x.1.toNat + natF (cnt pre) x.1.toNat = ((sumF (wdW xs) x.1.toNat + cnt pre x.1.toNat : Nat) : Int) from rfl]; exact bltI (by rw [rngL_len]; omega)) ?_
          refine XO_nil ?_
          refine zD hD ?_
          refine XD_done (by kernel_rfl) ?_
          refine at_noP ?_
          rw [show natF (sumF (wdW xs)) x.1.toNat + natF (cnt pre) x.1.toNat = ((sumF (wdW xs) x.1.toNat + cnt pre x.1.toNat : Nat) : Int) from rfl, cellsI_set, rngL_set, ← alP_snoc]
          refine at_then ?_
          refine X_region ?_
          refine XO_v0 (ev_load rfl sct_23 (fun hg => by exact hC22.any)) rfl rfl rfl ?_
          refine zM ?_
          refine XO_v0 (ev_indexOwn rfl rfl slt_23 (fun hg => by first | omega | (simp [conj] at hg; omega))) rfl rfl rfl ?_
          refine XO_v0 (ev_load rfl sct_3 (fun hg => by exact cellI_at (rngL_at (by omega)))) rfl rfl rfl ?_
          refine zB ?_
          refine XO_v0 (ev_indexOwn rfl rfl slt_23 (fun hg => by first | omega | (simp [conj] at hg; omega))) rfl rfl rfl ?_
          refine XO_store rfl rfl szt_3 rfl rfl (by repeat (first | exact Upd.here | apply Upd.there | apply upd_app)) (bltN (by rw [rngL_len]; omega)) ?_
          refine XO_nil ?_
          rw [cellsI_setN, rngL_set, show natF (cnt pre) x.1.toNat + 1 = ((cnt pre x.1.toNat + 1 : Nat) : Int) from rfl, nat_upd, ← cnt_snoc]
          refine at_block_n ?_
          exact at_round2 ⟨HLe.refl _, rfl⟩ .refl
         ·
          rintro bd I1 loc1 hI1 rfl
          have hW0 := hW0.mono hI1
          have hW := hW.mono hI1
          have hH := hH.mono hI1
          have hT := hT.mono hI1
          have hC6 := hC6.mono hI1
          have hPr := hPr.mono hI1
          have hC10 := hC10.mono hI1
          have hAt := hAt.mono hI1
          have hWd := hWd.mono hI1
          have hPs := hPs.mono hI1
          have hre := hre.mono hI1
          have hR := hR.mono hI1
          have hPf := hPf.mono hI1
          have hC16 := hC16.mono hI1
          have hC17 := hC17.mono hI1
          have hL17 := hL17.mono hI1
          have hC22 := hC22.mono hI1
          have hIc := hIc.trans hI1
          have hB0 := hB0.trans hI1
          have hB6 := hB6.trans hI1
          refine at_block_n ?_
          refine at_then ?_
          refine X_freeze (b := b127) (by repeat (first | exact Take.here | apply Take.there)) (fun I34 hI34 hb34 => ?_)
          have hW0 := hW0.mono hI34
          have hW := hW.mono hI34
          have hH := hH.mono hI34
          have hT := hT.mono hI34
          have hC6 := hC6.mono hI34
          have hPr := hPr.mono hI34
          have hC10 := hC10.mono hI34
          have hAt := hAt.mono hI34
          have hWd := hWd.mono hI34
          have hPs := hPs.mono hI34
          have hre := hre.mono hI34
          have hR := hR.mono hI34
          have hPf := hPf.mono hI34
          have hC16 := hC16.mono hI34
          have hC17 := hC17.mono hI34
          have hL17 := hL17.mono hI34
          have hC22 := hC22.mono hI34
          have hIc := hIc.trans hI34
          have hB0 := hB0.trans hI34
          have hB6 := hB6.trans hI34
          have hRow : Sl I34 1 encI (some ⟨b127, 0, none⟩) (loW xs) (loW xs) (rowW xs i) := Sl.lit (rowW xs i) rngL_len encI_len hb34
          refine X_region ?_
          refine zM ?_
          refine XO_v0 (ev_load rfl sct_23 (fun hg => by exact hC16.any)) rfl rfl rfl ?_
          refine XO_buildSlice (ps := [(0, _)]) (m := [encH ⟨some ⟨b127, 0, none⟩, loW xs, loW xs⟩]) elt_22 rfl (.cons rfl (.nil)) rfl (by simp [encH_len, encI_len]) (by decide) (by decide) rfl rfl (fun b_225 => ?_)
          refine XO_append (v := _) (ys := [(⟨some ⟨b127, 0, none⟩, loW xs, loW xs⟩ : Hd)].flatMap encH) (L := L) rfl rfl elt_22 hO (by repeat (first | exact .cons .here .nil | exact split_all | exact split_app | apply split_cons | apply split_skip)) ⟨rfl, fun _ => rfl, by repeat (first | exact Cells.here | apply Cells.there | apply Cells.app)⟩ (one_H _) (by omega) rfl rfl ?_
          intro v9 L9 hO9 _; rw [← List.flatMap_append] at hO9
          refine zA ?_
          refine XO_nil ?_
          refine at_block_n ?_
          refine at_then ?_
          refine X_region ?_
          refine zB ?_
          refine zM ?_
          refine XO_nil ?_
          exact at_metM rfl rfl rfl _ _ ⟨xs.length - (i + 1), by omega, i + 1, _, _, _, rfl, rfl, hB6, rfl, by omega, hO9, by rw [range_map]; exact hre.snoc (hd := ⟨some ⟨b127, 0, none⟩, loW xs, loW xs⟩) hRow⟩ (.cons rfl (.cons rfl (.cons rfl (.cons rfl (.cons rfl (.cons rfl (.cons rfl (.cons rfl (.cons rfl .nil))))))))) (by repeat (first | exact .refl | exact subL_left | refine subL_app ?_ | refine .drop ?_ | refine subL_add ?_))
         ·
          rintro c bd pre I1 loc1 hI1 hpre hF; exact hF.elim
     ·
      have hge_i : xs.length ≤ i := by have h := hc122; simp at h; omega
      obtain rfl : i = xs.length := by omega
      refine X_exit ?_
      refine at_then_e ?_
      refine at_then_e ?_
      refine at_block_hit ?_
      refine at_then ?_
      refine X_seq (X_region ?_)
      refine zM ?_
      refine zA ?_
      refine zA ?_
      refine XO_nil (at_then ?_)
      refine X_ret ?_
      first
      | exact at_retMs (L := L) (fun a ha w hw => res2 rfl rfl rfl a ha w) (fun w hw => by obtain ⟨I9, av9, c9, h1', h2', e9, h4'⟩ := OwnS.freeze (R := []) hO encH_len (by decide) (by rw [List.append_nil]; exact hw); cases e9; exact ⟨_, I9, [], rfl, hIc.trans h1', h2', rfl, va2, vc2, by rw [t1, t2, List.length_map, List.length_range], by rw [t2, List.length_map, List.length_range]; exact ⟨os, h4', hre.mono h1'⟩⟩)
end Go.Proofs.YthcffaheamikgaaGreatDoor
end
section
namespace Go.Proofs.YthcffaheamikgaaGreatDoor
open Go Go.Kn Go.Proofs
structure Em where
  locus : Int
  code : Int
  reason : Int
def encEm (e : Em) : List Value := [.int .i64 e.locus, .int .i64 e.code, .int .i64 e.reason]
theorem encEm_len (e : Em) : (encEm e).length = 3 := rfl
theorem one_Em (xs : List Em) : allOne (xs.flatMap encEm) = true := allOne_flat (fun _ => rfl) xs
def r1F (code : Int) (b : Bool) : Bool := (b && code != 0) && code != 8589934592
def r2F (code : Int) (b : Bool) : Bool := (signE code == 0) && !b
def r3F (code : Int) (_ : Bool) : Bool := code == 0
def rsF (r code : Int) (b : Bool) : Bool := if r = 1 then r1F code b else if r = 2 then r2F code b else if r = 3 then r3F code b else false
def thereF (rows : List (List Int)) (e : Em) : Bool := rows.any fun r => r.getD e.locus.toNat 0 == e.code
/-- Is an emendation wrong, behind the locus l, of so many loci? -/
def badE (rows : List (List Int)) (m : Nat) (l : Int) (e : Em) : Bool := decide (e.locus ≤ l) || (decide (e.locus ≥ (m : Int)) || !rsF e.reason e.code (thereF rows e))
def goodE (rows : List (List Int)) (m : Nat) : Int → List Em → Bool
  | _, [] => true
  | l, e :: es => !badE rows m l e && goodE rows m e.locus es
theorem goodE_bad {rows : List (List Int)} {m k : Nat} {l : Int} {es : List Em} {e : Em} (h : es[k]? = some e) (hb : badE rows m l e = true) : goodE rows m l (es.drop k) = false := by rw [drop_cons h]; unfold goodE; rw [hb]; rfl
theorem goodE_step {rows : List (List Int)} {m k : Nat} {l : Int} {es : List Em} {e : Em} (h : es[k]? = some e) (hb : badE rows m l e = false) : goodE rows m l (es.drop k) = goodE rows m e.locus (es.drop (k + 1)) := by
  rw [drop_cons h]
  show (!badE rows m l e && goodE rows m e.locus (es.drop (k + 1))) = _
  rw [hb]; rfl
theorem goodE_end {rows : List (List Int)} {m k : Nat} {l : Int} {es : List Em} (h : es.length ≤ k) : goodE rows m l (es.drop k) = true := by rw [List.drop_eq_nil_of_le h]; rfl
theorem badE_1 {rows : List (List Int)} {m : Nat} {l : Int} {e : Em} (h1 : e.reason ≠ 1) (h2 : e.reason ≠ 2) (h3 : e.reason ≠ 3) : badE rows m l e = true := by unfold badE rsF; rw [if_neg h1, if_neg h2, if_neg h3]; simp
theorem badE_2 {rows : List (List Int)} {m : Nat} {l : Int} {e : Em} (h : decide (e.locus ≤ l) = true) : badE rows m l e = true := by unfold badE; rw [h]; rfl
theorem badE_3 {rows : List (List Int)} {m : Nat} {l : Int} {e : Em} (h : decide (e.locus ≥ (m : Int)) = true) : badE rows m l e = true := by unfold badE; rw [h]; simp
theorem badE_4 {rows : List (List Int)} {m : Nat} {l : Int} {e : Em} {t : Bool} (h1 : decide (e.locus ≤ l) = false) (h2 : decide (e.locus ≥ (m : Int)) = false) (h3 : (!rsF e.reason e.code (thereF rows e)) = t) : badE rows m l e = t := by unfold badE; rw [h1, h2, h3]; rfl
theorem em_three (rows : List (List Int)) (m : Nat) (l : Int) (e : Em) : decide (e.locus ≤ l) = true ∨ (decide (e.locus ≤ l) = false ∧ decide (e.locus ≥ (m : Int)) = true) ∨ (decide (e.locus ≤ l) = false ∧ decide (e.locus ≥ (m : Int)) = false) := by
  cases decide (e.locus ≤ l) <;> cases decide (e.locus ≥ (m : Int)) <;> simp
/-! ### The readings -/
/-- What is left of the emendations at a locus. -/
def lfK (es : List Em) : Nat → List Em
  | 0 => es
  | k + 1 => match lfK es k with
    | [] => []
    | e :: r => if e.locus = (k : Int) then r else e :: r
def baseK (rows : List (List Int)) (cl : List Int) (k : Nat) : Int := if (rootF rows cl k).any (fun y => (rows.getD 0 []).getD k 0 == y) = true then (rows.getD 0 []).getD k 0 else (rootF rows cl k).getD 0 0
def readK (rows : List (List Int)) (cl : List Int) (es : List Em) (k : Nat) : Int := match lfK es k with
  | [] => baseK rows cl k
  | e :: _ => if e.locus = (k : Int) then e.code else baseK rows cl k
def readsL (rows : List (List Int)) (cl : List Int) (es : List Em) : List Int := (List.range (rows.getD 0 []).length).map (readK rows cl es)
theorem lf_nil {es : List Em} {k : Nat} (h : lfK es k = []) : lfK es (k + 1) = [] := by show (match lfK es k with | [] => [] | e :: r => if e.locus = (k : Int) then r else e :: r) = _; rw [h]
theorem lf_yes {es : List Em} {k : Nat} {e : Em} {r : List Em} (h : lfK es k = e :: r) (he : e.locus = (k : Int)) : lfK es (k + 1) = r := by show (match lfK es k with | [] => [] | e :: r => if e.locus = (k : Int) then r else e :: r) = _; rw [h]; exact if_pos he
theorem lf_no {es : List Em} {k : Nat} {e : Em} {r : List Em} (h : lfK es k = e :: r) (he : ¬ e.locus = (k : Int)) : lfK es (k + 1) = e :: r := by show (match lfK es k with | [] => [] | e :: r => if e.locus = (k : Int) then r else e :: r) = _; rw [h]; exact if_neg he
theorem rd_nil {rows : List (List Int)} {cl : List Int} {es : List Em} {k : Nat} (h : lfK es k = []) : readK rows cl es k = baseK rows cl k := by unfold readK; rw [h]
theorem rd_yes {rows : List (List Int)} {cl : List Int} {es : List Em} {k : Nat} {e : Em} {r : List Em} (h : lfK es k = e :: r) (he : e.locus = (k : Int)) : readK rows cl es k = e.code := by unfold readK; rw [h]; exact if_pos he
theorem rd_no {rows : List (List Int)} {cl : List Int} {es : List Em} {k : Nat} {e : Em} {r : List Em} (h : lfK es k = e :: r) (he : ¬ e.locus = (k : Int)) : readK rows cl es k = baseK rows cl k := by unfold readK; rw [h]; exact if_neg he
def makE (rows : List (List Int)) (no : Int) (cl : List Int) (es : List Em) : Int :=
  if costE rows cl ≠ 0 then costE rows cl else if (decide (no < 0) || decide (no > 1048576)) = true then 430 else if goodE rows (rows.getD 0 []).length (-1) es = true then 0 else 430
theorem makE_1 {rows : List (List Int)} {no : Int} {cl : List Int} {es : List Em} (h : costE rows cl ≠ 0) : makE rows no cl es = costE rows cl := by unfold makE; rw [if_pos h]
theorem makE_2 {rows : List (List Int)} {no : Int} {cl : List Int} {es : List Em} (h : costE rows cl = 0) (h2 : (decide (no < 0) || decide (no > 1048576)) = true) : makE rows no cl es = 430 := by unfold makE; rw [if_neg (by omega), if_pos h2]
theorem makE_3 {rows : List (List Int)} {no : Int} {cl : List Int} {es : List Em} (h : costE rows cl = 0) (h2 : (decide (no < 0) || decide (no > 1048576)) = false) (h3 : goodE rows (rows.getD 0 []).length (-1) es = false) : makE rows no cl es = 430 := by unfold makE; rw [if_neg (by omega), if_neg (by rw [h2]; decide), if_neg (by rw [h3]; decide)]
theorem makE_4 {rows : List (List Int)} {no : Int} {cl : List Int} {es : List Em} (h : costE rows cl = 0) (h2 : (decide (no < 0) || decide (no > 1048576)) = false) (h3 : goodE rows (rows.getD 0 []).length (-1) es = true) : makE rows no cl es = 0 := by unfold makE; rw [if_neg (by omega), if_neg (by rw [h2]; decide), if_pos h3]
/-- An edition: its number and the three lists, with their heads. -/
def encEd (no : Int) (a1 : Option Addr) (n1 c1 : Nat) (a2 : Option Addr) (n2 c2 : Nat) (a3 : Option Addr) (n3 c3 : Nat) : List Value := [.int .i64 no, .slice a1 n1 c1, .slice a2 n2 c2, .slice a3 n3 c3]
def SlEd (I : HMap) (vs : List Value) (no : Int) (cl : List Int) (es : List Em) (rd : List Int) : Prop := ∃ a1 n1 c1 a2 n2 c2 a3 n3 c3, vs = encEd no a1 n1 c1 a2 n2 c2 a3 n3 c3 ∧ Sl I 1 encI a1 n1 c1 cl ∧ Sl I 3 encEm a2 n2 c2 es ∧ Sl I 1 encI a3 n3 c3 rd
def MakQ (rows : List (List Int)) (no : Int) (cl : List Int) (es : List Em) : Value → HMap → Go.Kn.Loc → Prop := fun v I' L => L = [] ∧ ∃ vs, v = .tuple #[.agg vs.toArray, .int .i64 (makE rows no cl es)] ∧
  ((makE rows no cl es = 0 ∧ SlEd I' vs no cl es (readsL rows cl es)) ∨ (makE rows no cl es ≠ 0 ∧ SlEd I' vs 0 [] [] []))
theorem roots_at {rows : List (List Int)} {cl : List Int} {k : Nat} (h : costE rows cl = 0) (hk : k < (rows.getD 0 []).length) : (rootsL rows cl)[k]? = some (rootF rows cl k) := by rw [roots_ok h, List.getElem?_map, List.getElem?_range hk]; rfl
theorem roots_len {rows : List (List Int)} {cl : List Int} (h : costE rows cl = 0) : (rootsL rows cl).length = (rows.getD 0 []).length := by rw [roots_ok h, List.length_map, List.length_range]
end Go.Proofs.YthcffaheamikgaaGreatDoor
end
