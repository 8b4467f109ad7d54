/- topCourse_holds, part E of the proof: what its theorems say holds without further conditions. -/
import Derived.Test.YtclkmnidgdkekaaGreatTCD
section
namespace Go.Proofs.YtclkmnidgdkekaaGreat
open Go Go.Kn Go.Proofs
theorem w_broken {I : HMap} {x : CH} {cr : Cr} (hC : CrAt I x cr) (hr : rightF cr = true) (h16 : cr.days.length ≤ 16) (h8 : cr.ss.length ≤ 8) (hwh : ∀ s ∈ cr.ss, s.who.length ≤ 6) (hnd : ∀ s ∈ cr.ss, s.needs.length ≤ 100000) {av : Option Addr} {n c : Nat} {pl : List Int} (hS : Sl I 1 encI av n c pl) (hl : pl.length ≤ cr.ss.length) (hin : InR cr pl) : RetM Tryz.prog 44 [encCHA x, .slice av n c] I [] (SlRes 3 encBr (brkL cr pl)) := by
 intro g H w hw
 refine enterMs Tryz.func44 rfl Tryz.ntmps44 rfl hw ?_
 have hIc := HLe.refl I
 obtain ⟨hD, e1, e2, e3, e4, hss⟩ := id hC
 obtain ⟨hs, hH⟩ := hss
 have hSs := hH.1
 have hlD := hD.len
 have hlS := hH.len
 have hlP := hS.len
 have hn : n ≤ 100000 := by omega
 refine zR ?_
 refine XO_box rfl rfl rfl (fun b_2 => ?_)
 refine zA ?_
 refine zN ?_
 refine X_seq ?_
 refine X_freeze .here (fun I1 hI1 hb1 => ?_)
 have hC := hC.mono hI1; have hS := hS.mono hI1; have hSs := hSs.mono hI1; have hD := hD.mono hI1; have hH := hH.mono hI1; have hIc := hIc.trans hI1
 have h2 := ImmC.of hb1
 refine X_region ?_
 refine XO_makeMap rfl rfl (fun r_23 => ?_)
 refine zA ?_
 refine zN ?_
 refine X_seq ?_
 refine zR ?_
 refine zM ?_
 refine zQ slt_24 ?_
 refine zM ?_
 refine zN ?_
 refine X_block ?_
 refine X_loopM [(1, _), (2, _), (5, _), (24, _), (25, _)] (.cons rfl (.cons rfl (.cons rfl (.cons rfl (.cons rfl .nil))))) (fun T L0 mz ms E I' loc' => ∃ (k : Nat) (ks : List Br), mz = n - k ∧ E = (26, .int .i64 k) :: T ∧ I1 = I' ∧ (r_23, mapO encBrA Value.bool (kmap ks)) :: MB ms = loc' ∧ k ≤ n ∧ SetI ks (NdK cr pl k)) _ _ _ _ ⟨0, [], rfl, rfl, rfl, rfl, Nat.zero_le _, SetI.nil ndK_0⟩ (.cons rfl (.cons rfl (.cons rfl (.cons rfl (.cons rfl (.cons rfl .nil)))))) (HLe.refl _) rfl ?_
 rintro mz ms E I' loc' ⟨k, ks, rfl, rfl, rfl, rfl, hk, hK⟩
 refine zR ?_
 refine zC ?_
 refine zN ?_
 refine X_seq ?_
 refine zI ?_ ?_ <;> intro hc27
 ·
  have hlt_k : k < n := by have h := hc27; simp at h; omega
  obtain ⟨d0, hx⟩ := hS.at hlt_k
  obtain ⟨z, s, hy, hy2, q1, q2, hW, hN⟩ := hH.at (show k < x.n2 by omega)
  have hlN := hN.len
  have hnn := hnd s (List.mem_of_getElem? hy2)
  refine X_skip ?_
  refine at_then ?_
  refine X_seq ?_
  refine X_block ?_
  refine zR ?_
  refine zM ?_
  refine zV (ev_indexSl rfl rfl slt_24 (by assumption) (fun hg => by omega)) ?_
  refine zV (ev_load rfl sct_3 (fun hg => by exact Sl.get0 hS hx rfl)) ?_
  refine zA ?_
  refine zA ?_
  refine zN (zR ?_)
  refine zF fld_28_5 ?_
  refine zV (ev_load rfl sct_26 (fun hg => by exact Cell.imm h2 rfl)) ?_
  refine zM ?_
  refine zV (ev_indexSl rfl rfl slt_26 (by assumption) (fun hg => by omega)) ?_
  refine zF fld_40_3 ?_
  refine zV (ev_load rfl sct_24 (fun hg => by exact Sl.get hSs hy (j := 3) rfl)) ?_
  refine zQ slt_24 ?_
  refine zM ?_
  refine zN ?_
  refine X_block ?_
  refine X_loopM [(1, _), (2, _), (5, _), (7, _), (24, _), (25, _), (26, _), (36, _), (37, _)] (.cons rfl (.cons rfl (.cons rfl (.cons rfl (.cons rfl (.cons rfl (.cons rfl (.cons rfl (.cons rfl .nil))))))))) (fun T L0 mz ms E I' loc' => ∃ (j : Nat) (ks2 : List Br), mz = z.n2 - j ∧ E = (38, .int .i64 j) :: T ∧ I1 = I' ∧ (r_23, mapO encBrA Value.bool (kmap ks2)) :: MB ms = loc' ∧ j ≤ z.n2 ∧ SetI ks2 (NdJ cr pl k d0 s j)) _ _ _ _ ⟨0, ks, rfl, rfl, rfl, rfl, Nat.zero_le _, hK.congr ndJ_0⟩ (.cons rfl (.cons rfl (.cons rfl (.cons rfl (.cons rfl (.cons rfl (.cons rfl (.cons rfl (.cons rfl (.cons rfl .nil)))))))))) (HLe.refl _) rfl ?_
  rintro mz ms E I' loc' ⟨j, ks2, rfl, rfl, rfl, rfl, hj, hK2⟩
  refine zR ?_
  refine zC ?_
  refine zN ?_
  refine X_seq ?_
  refine zI ?_ ?_ <;> intro hc39
  ·
   have hlt_j : j < z.n2 := by have h := hc39; simp at h; omega
   obtain ⟨kk, hp⟩ := hN.at hlt_j
   have hkr := (right_ses hr hy2).needs kk (List.mem_of_getElem? hp)
   obtain ⟨w0, hw0⟩ := hS.at (show kk.toNat < n by omega)
   have hgd : pl.getD kk.toNat 0 = w0 := by rw [List.getD_eq_getElem?_getD, hw0]; rfl
   refine X_skip ?_
   refine at_then ?_
   refine X_seq ?_
   refine X_block ?_
   refine zR ?_
   refine zV (ev_indexSl rfl rfl slt_24 (by assumption) (fun hg => by omega)) ?_
   refine zV (ev_load rfl sct_3 (fun hg => by exact Sl.get0 hN hp rfl)) ?_
   refine zA ?_
   refine zN (zR ?_)
   refine zM ?_
   refine zM ?_
   refine zV (ev_indexSl rfl rfl slt_24 (by assumption) (fun hg => by omega)) ?_
   refine zV (ev_load rfl sct_3 (fun hg => by exact Sl.get0 hS hw0 rfl)) ?_
   refine zM ?_
   refine zC ?_
   refine zN ?_
   refine zI ?_ ?_ <;> intro hc47
   ·
    have hge9 : pl.getD kk.toNat 0 ≥ d0 := by rw [hgd]; simpa using hc47
    refine X_region ?_
    refine zM ?_
    refine zM ?_
    refine zM ?_
    refine zV (ev_buildL (ps := [(0, _), (1, _), (2, _)]) [_, _, _] plt_98 rfl rfl) ?_
    refine XO_mapUpdate (m := kmap ks2) (ek := encBrA) (ev := Value.bool) (a := ⟨1, d0, kk⟩) true mpt_133 key_98 rfl rfl rfl rfl (by exact Upd.u0) ?_
    rw [mset_kmap]
    refine XO_nil ?_
    refine at_block_n ?_
    refine at_then ?_
    refine X_region ?_
    refine zB ?_
    refine zM ?_
    refine XO_nil ?_
    exact at_metM rfl rfl rfl _ _ ⟨z.n2 - (j + 1), by omega, j + 1, _, rfl, rfl, rfl, rfl, by omega, hK2.put (ndJ_yes hp hge9)⟩ (.cons rfl (.cons rfl (.cons rfl (.cons rfl (.cons rfl (.cons rfl (.cons rfl (.cons rfl (.cons rfl (.cons rfl .nil)))))))))) (by repeat (first | exact .refl | exact subL_left | refine subL_app ?_ | refine .drop ?_ | refine subL_add ?_))
   have hge9 : ¬ pl.getD kk.toNat 0 ≥ d0 := by rw [hgd]; simpa using hc47
   refine X_skip ?_
   refine at_block_n ?_
   refine at_then ?_
   refine X_region ?_
   refine zB ?_
   refine zM ?_
   refine XO_nil ?_
   exact at_metM rfl rfl rfl _ _ ⟨z.n2 - (j + 1), by omega, j + 1, _, rfl, rfl, rfl, rfl, by omega, hK2.congr (ndJ_no hp hge9)⟩ (.cons rfl (.cons rfl (.cons rfl (.cons rfl (.cons rfl (.cons rfl (.cons rfl (.cons rfl (.cons rfl (.cons rfl .nil)))))))))) (by repeat (first | exact .refl | exact subL_left | refine subL_app ?_ | refine .drop ?_ | refine subL_add ?_))
  have hge_j : z.n2 ≤ j := by have h := hc39; simp at h; omega
  refine X_exit ?_
  refine at_then_e ?_
  refine at_then_e ?_
  refine at_block_hit ?_
  refine at_block_n ?_
  refine at_then ?_
  refine X_region ?_
  refine zB ?_
  refine zM ?_
  refine XO_nil ?_
  exact at_metM rfl rfl rfl _ _ ⟨n - (k + 1), by omega, k + 1, _, rfl, rfl, rfl, rfl, by omega, hK2.congr (ndJ_end hx hy2 (by omega))⟩ (.cons rfl (.cons rfl (.cons rfl (.cons rfl (.cons rfl (.cons rfl .nil)))))) (by repeat (first | exact .refl | exact subL_left | refine subL_app ?_ | refine .drop ?_ | refine subL_add ?_))
 have hge_k : n ≤ k := by have h := hc27; simp at h; omega
 have hB0 := hK.congr (ndK_all hr h8 hin (by omega))
 refine X_exit ?_
 refine at_then_e ?_
 refine at_then_e ?_
 refine at_block_hit ?_
 refine at_then ?_
 refine zR ?_
 refine XO_makeMap rfl rfl (fun r_54 => ?_)
 refine XO_alloc zt_134 rfl rfl (fun b_10 => ?_)
 refine XO_store rfl rfl szt_134 rfl rfl (by exact Upd.u0) rfl ?_
 refine zN ?_
 refine X_seq ?_
 refine X_seq ?_
 refine X_freeze .here (fun I4 hI4 hb4 => ?_)
 have hC := hC.mono hI4; have hS := hS.mono hI4; have hSs := hSs.mono hI4; have hD := hD.mono hI4; have hH := hH.mono hI4; have h2 := h2.mono hI4; have hIc := hIc.trans hI4
 have h10 := ImmC.of hb4
 refine X_region ?_
 refine zF fld_28_0 ?_
 refine zV (ev_load rfl sct_24 (fun hg => by exact Cell.imm h2 rfl)) ?_
 refine zQ slt_24 ?_
 refine zM ?_
 refine zN ?_
 refine X_block ?_
 refine X_loopM [(1, _), (2, _), (5, _), (10, _), (56, _), (57, _)] (.cons rfl (.cons rfl (.cons rfl (.cons rfl (.cons rfl (.cons rfl .nil)))))) (fun T L0 mz ms E I' loc' => ∃ (d : Nat) (ks : List Br) (dm : List (Int × Nat)) (f : Int → List (Int × Bool)), mz = x.n - d ∧ E = (58, .int .i64 d) :: T ∧ HLe I4 I' ∧ dL dm f ++ ((r_54, mapO (Value.int .i64) mapV dm) :: (r_23, mapO encBrA Value.bool (kmap ks)) :: MB ms) = loc' ∧ d ≤ x.n ∧ SetI ks (InB cr pl d) ∧ DOK dm f (bsyK cr pl d)) _ _ _ _ ⟨0, ks, [], fun _ => [], rfl, rfl, HLe.refl _, rfl, Nat.zero_le _, hB0, DOK.nil (bsyK_0 hin)⟩ (.cons rfl (.cons rfl (.cons rfl (.cons rfl (.cons rfl (.cons rfl (.cons rfl .nil))))))) (HLe.refl _) rfl ?_
 rintro mz ms E J5 loc' ⟨d, ks, dm, f, rfl, rfl, hJ, rfl, hd, hB, hDk⟩
 have hC := hC.mono hJ; have hS := hS.mono hJ; have hSs := hSs.mono hJ; have hD := hD.mono hJ; have hH := hH.mono hJ; have h2 := h2.mono hJ; have h10 := h10.mono hJ; have hIc := hIc.trans hJ
 have hB4 := hJ
 refine zR ?_
 refine zC ?_
 refine zN ?_
 refine X_seq ?_
 refine zI ?_ ?_ <;> intro hc59
 ·
  have hlt_d : d < x.n := by have h := hc59; simp at h; omega
  obtain ⟨date, hdt⟩ := hD.at hlt_d
  have hdf := dayF_at hdt
  have hdl : d < cr.days.length := by omega
  have hd0 := (head_ok hr).day date (List.mem_of_getElem? hdt)
  refine X_skip ?_
  refine at_then ?_
  refine X_seq ?_
  refine X_block ?_
  refine zR ?_
  refine zM ?_
  refine zV (ev_indexSl rfl rfl slt_24 (by assumption) (fun hg => by omega)) ?_
  refine zV (ev_load rfl sct_3 (fun hg => by exact Sl.get0 hD hdt rfl)) ?_
  refine XO_alloc zt_3 rfl rfl (fun b_12 => ?_)
  refine zA ?_
  refine XO_store rfl rfl szt_3 rfl rfl (by exact Upd.u0) rfl ?_
  refine zN ?_
  refine X_seq ?_
  refine X_freeze .here (fun I6 hI6 hb6 => ?_)
  have hC := hC.mono hI6; have hS := hS.mono hI6; have hSs := hSs.mono hI6; have hD := hD.mono hI6; have hH := hH.mono hI6; have h2 := h2.mono hI6; have h10 := h10.mono hI6; have hIc := hIc.trans hI6; have hB4 := hB4.trans hI6
  have h12 := ImmC.of hb6
  refine X_region ?_
  refine XO_makeMap rfl rfl (fun r_63 => ?_)
  refine XO_makeMap rfl rfl (fun r_64 => ?_)
  refine XO_alloc zt_81 rfl rfl (fun b_13 => ?_)
  refine XO_alloc zt_81 rfl rfl (fun b_14 => ?_)
  refine XO_store rfl rfl szt_81 rfl rfl (by exact Upd.u1) rfl ?_
  refine XO_store rfl rfl szt_81 rfl rfl (by exact Upd.u0) rfl ?_
  refine zN ?_
  refine X_seq ?_
  refine X_seq ?_
  refine X_freeze .here (fun I7 hI7 hb7 => ?_)
  have hC := hC.mono hI7; have hS := hS.mono hI7; have hSs := hSs.mono hI7; have hD := hD.mono hI7; have hH := hH.mono hI7; have h2 := h2.mono hI7; have h10 := h10.mono hI7; have h12 := h12.mono hI7; have hIc := hIc.trans hI7; have hB4 := hB4.trans hI7
  have h14 := ImmC.of hb7
  refine X_freeze .here (fun I8 hI8 hb8 => ?_)
  have hC := hC.mono hI8; have hS := hS.mono hI8; have hSs := hSs.mono hI8; have hD := hD.mono hI8; have hH := hH.mono hI8; have h2 := h2.mono hI8; have h10 := h10.mono hI8; have h12 := h12.mono hI8; have h14 := h14.mono hI8; have hIc := hIc.trans hI8; have hB4 := hB4.trans hI8
  have h13 := ImmC.of hb8
  refine X_perm (dL dm f ++ ((r_64, .map #[] 0) :: (r_63, .map #[] 0) :: (r_54, mapO (Value.int .i64) mapV dm) :: (r_23, mapO encBrA Value.bool (kmap ks)) :: MB ms)) (List.perm_middle.trans (List.Perm.cons _ List.perm_middle)) ?_
  refine X_region ?_
  refine zV (ev_loadA rfl agt_28 (fun hg => by exact Cells.immC h2) rfl) ?_
  refine zM ?_
  refine zM ?_
  refine XO_callM (cap := []) (vs := [_, _, _]) rfl rfl fun_76 .nil (w_people I8 x av n c d) rfl rfl ?_
  rintro vv9 I9 L9 hI9 ⟨rfl, bp1, bp2, bp3, rfl, hp1, hp2, hp3⟩
  have hC := hC.mono hI9; have hS := hS.mono hI9; have hSs := hSs.mono hI9; have hD := hD.mono hI9; have hH := hH.mono hI9; have h2 := h2.mono hI9; have h10 := h10.mono hI9; have h12 := h12.mono hI9; have h14 := h14.mono hI9; have h13 := h13.mono hI9; have hIc := hIc.trans hI9; have hB4 := hB4.trans hI9
  have hp1 := ImmC.of hp1
  have hp2 := ImmC.of hp2
  have hp3 := ImmC.of hp3
  rw [List.nil_append]
  refine zN ?_
  refine X_block ?_
  refine X_locEq (loc' := [] ++ ((dL dm f ++ [(r_64, mapO (Value.int .i64) (Value.int .i64) (sumM [])), (r_63, mapO (Value.int .i64) (Value.int .i64) (cntM [])), (r_54, mapO (Value.int .i64) mapV dm), (r_23, mapO encBrA Value.bool (kmap ks))]) ++ MB ms)) (by simp [cntM_nil, sumM_nil, mapO, entriesO]) ?_
  refine X_rangeFuncM2 (K := []) (L := dL dm f ++ [(r_64, mapO (Value.int .i64) (Value.int .i64) (sumM [])), (r_63, mapO (Value.int .i64) (Value.int .i64) (cntM [])), (r_54, mapO (Value.int .i64) mapV dm), (r_23, mapO encBrA Value.bool (kmap ks))]) (en1 := en1P) (en2 := en2P) (xs := (peoL cr pl (d : Int))) (fun pre I' loc' => ∃ (dm : List (Int × Nat)) (f : Int → List (Int × Bool)), loc' = dL dm f ++ [(r_64, mapO (Value.int .i64) (Value.int .i64) (sumM pre)), (r_63, mapO (Value.int .i64) (Value.int .i64) (cntM pre)), (r_54, mapO (Value.int .i64) mapV dm), (r_23, mapO encBrA Value.bool (kmap ks))] ∧ DOK dm f (bsyP cr pl d pre)) (fun _ _ _ _ => False) (fun pre x0 E2 I2 loc2 => ∃ (dm : List (Int × Nat)) (f : Int → List (Int × Bool)), E2 = [(10, capP b_10), (12, capP b_12), (13, capP b_13), (14, capP b_14), (15, .int .i64 x0.1), (16, .int .i64 x0.2)] ∧ loc2 = dL dm f ++ [(r_64, mapO (Value.int .i64) (Value.int .i64) (sumM pre)), (r_63, mapO (Value.int .i64) (Value.int .i64) (cntM pre)), (r_54, mapO (Value.int .i64) mapV dm), (r_23, mapO encBrA Value.bool (kmap ks))] ∧ DOK dm f (bsyP cr pl d pre)) rfl fun_103 (w_peopleIt hC hS hn hl (fun s hs => by have := hwh s hs; omega) hp1 hp2 hp3) rfl rfl ⟨dm, f, rfl, hDk.congr (fun q y => (bsyP_nil cr pl d q y).symm)⟩ ?_ ?_ ?_ ?_
  ·
   rintro l9 pre x0 I1 loc1 H1 hpre hI1 ⟨dm1, f1, rfl, hd1⟩
   refine zR ?_
   refine zA ?_
   refine zN ?_
   refine X_region ?_
   refine zA ?_
   refine XO_nil ?_
   exact at_met' _ ⟨HLe.refl _, dm1, f1, rfl, rfl, hd1⟩ (.cons rfl (.cons rfl (.cons rfl (.cons rfl (.cons rfl (.cons rfl .nil))))))
  ·
   rintro l9 pre x0 E2 I2 loc2 H2 hpre hI2 ⟨dm1, f1, rfl, rfl, hd1⟩
   have hC := hC.mono hI2; have hS := hS.mono hI2; have hSs := hSs.mono hI2; have hD := hD.mono hI2; have hH := hH.mono hI2; have h2 := h2.mono hI2; have h10 := h10.mono hI2; have h12 := h12.mono hI2; have h14 := h14.mono hI2; have h13 := h13.mono hI2
   have hpl := hpre.length_le
   rw [List.length_append, List.length_singleton] at hpl
   have hpb := peo_len h8 hwh (pl := pl) (d := (d : Int))
   have hcg := cntM_get pre x0.1
   have hcb := cntE_le pre x0.1
   have hc0 := cntE_nonneg pre x0.1
   have hsg := sumM_get pre x0.1
   have hsb := sumE_bd (es := pre) (fun e he => peo_ef hr e (hpre.subset (by simp [he]))) x0.1
   have hxe := peo_ef hr x0 (hpre.subset (by simp))
   refine X_block ?_
   refine zR ?_
   refine zV (ev_load rfl sct_81 (fun hg => by exact Cell.imm h13 rfl)) ?_
   refine zM ?_
   refine zV (ev_lookupI (m := cntM pre) (ek := Value.int .i64) (a := x0.1) mpt_81 key_3 rfl rfl (fun _ => (by (repeat (first | exact Mem.m0 | apply Mem.there | apply Mem.app))))) ?_
   refine zB ?_
   refine XO_mapUpdate (m := cntM pre) (ek := Value.int .i64) (ev := Value.int .i64) (a := x0.1) ((mget (cntM pre) x0.1).getD 0 + 1) mpt_81 key_3 rfl rfl rfl rfl (by (repeat (first | exact Upd.here | apply Upd.there | apply upd_app))) ?_
   rw [← cntM_snoc pre x0]
   refine zN (zR ?_)
   refine zV (ev_load rfl sct_81 (fun hg => by exact Cell.imm h14 rfl)) ?_
   refine zM ?_
   refine zV (ev_lookupI (m := sumM pre) (ek := Value.int .i64) (a := x0.1) mpt_81 key_3 rfl rfl (fun _ => (by (repeat (first | exact Mem.m0 | apply Mem.there | apply Mem.app))))) ?_
   refine zM ?_
   refine zB ?_
   refine XO_mapUpdate (m := sumM pre) (ek := Value.int .i64) (ev := Value.int .i64) (a := x0.1) ((mget (sumM pre) x0.1).getD 0 + x0.2) mpt_81 key_3 rfl rfl rfl rfl (by (repeat (first | exact Upd.here | apply Upd.there | apply upd_app))) ?_
   rw [← sumM_snoc pre x0]
   refine zN ?_
   refine X_cutT [(10, _), (12, _), (15, _)] (.cons rfl (.cons rfl (.cons rfl .nil))) (fun T L0 E I' loc' => ∃ (dm : List (Int × Nat)) (r : Nat), E = T ∧ I2 = I' ∧ dL dm f1 ++ [(r_64, mapO (Value.int .i64) (Value.int .i64) (sumM (pre ++ [x0]))), (r_63, mapO (Value.int .i64) (Value.int .i64) (cntM (pre ++ [x0]))), (r_54, mapO (Value.int .i64) mapV dm), (r_23, mapO encBrA Value.bool (kmap ks))] = loc' ∧ DOK dm f1 (bsyP cr pl d pre) ∧ mget dm x0.1 = some r) ?_ ?_
   ·
    refine zR ?_
    refine zV (ev_load rfl sct_134 (fun hg => by exact Cell.imm h10 rfl)) ?_
    refine zM ?_
    refine zV (ev_lookupM (m := dm1) (ek := Value.int .i64) (a := x0.1) mpt_134 key_3 rfl rfl (fun _ => (by (repeat (first | exact Mem.m0 | apply Mem.there | apply Mem.app))))) ?_
    refine zV (ev_mapNil rfl rfl und_35) ?_
    refine zN ?_
    refine zI ?_ ?_ <;> intro hc83
    ·
     have hn1 : mget dm1 x0.1 = none := Option.isNone_iff_eq_none.1 hc83
     refine X_region ?_
     refine zV (ev_load rfl sct_134 (fun hg => by exact Cell.imm h10 rfl)) ?_
     refine zM ?_
     refine XO_makeMap rfl rfl (fun r_86 => ?_)
     refine XO_mapUpdate (m := dm1) (ek := Value.int .i64) (ev := mapV) (a := x0.1) r_86 mpt_134 key_3 rfl rfl rfl rfl (by (repeat (first | exact Upd.here | apply Upd.there | apply upd_app))) ?_
     rw [mset_add hn1]
     refine XO_nil ?_
     first
     | exact at_met2 _ _ ⟨_, r_86, rfl, rfl, rfl, hd1.add hn1, by rw [← mset_add hn1, mget_mset, if_pos rfl]⟩ (.cons rfl (.cons rfl (.cons rfl .nil))) (by rw [dL_snoc, hd1.no _ hn1]; exact .refl)
    obtain ⟨r9, hr9⟩ : ∃ r, mget dm1 x0.1 = some r := by cases e9 : mget dm1 x0.1 with | none => rw [e9] at hc83; cases hc83 | some r => exact ⟨r, rfl⟩
    refine X_skip ?_
    exact at_met2 _ _ ⟨dm1, r9, rfl, rfl, rfl, hd1, hr9⟩ (.cons rfl (.cons rfl (.cons rfl .nil))) .refl
   rintro E I' loc' ⟨dm2, r2, rfl, rfl, rfl, hd2, hr2⟩
   refine X_region ?_
   refine zV (ev_load rfl sct_134 (fun hg => by exact Cell.imm h10 rfl)) ?_
   refine zM ?_
   refine zV (ev_lookupG (m := dm2) (ek := Value.int .i64) (ev := mapV) (a := x0.1) hr2 mpt_134 key_3 rfl rfl (fun _ => (by (repeat (first | exact Mem.m0 | apply Mem.there | apply Mem.app))))) ?_
   refine zV (ev_load rfl sct_3 (fun hg => by exact Cell.imm h12 rfl)) ?_
   refine XO_mapUpdate (m := f1 x0.1) (ek := Value.int .i64) (ev := Value.bool) (a := date) true mpt_35 key_3 rfl rfl rfl rfl (by exact dL_upd hd2.nd hr2) ?_
   refine XO_nil ?_
   refine at_block_n ?_
   exact at_round2 ⟨HLe.refl _, dm2, _, rfl, (hd2.put hr2).congr (fun q y => by rw [← hdf]; exact bsyP_snoc cr pl d pre x0 q y)⟩ .refl
  ·
   rintro bd I1 loc1 hI1 ⟨dm1, f1, rfl, hd1⟩
   have hC := hC.mono hI1; have hS := hS.mono hI1; have hSs := hSs.mono hI1; have hD := hD.mono hI1; have hH := hH.mono hI1; have h2 := h2.mono hI1; have h10 := h10.mono hI1; have h12 := h12.mono hI1; have h14 := h14.mono hI1; have h13 := h13.mono hI1; have hIc := hIc.trans hI1; have hB4 := hB4.trans hI1
   have hd1 := hd1.congr (fun q y => bsyP_all d q y)
   refine at_locEq (loc' := dL dm1 f1 ++ ((r_64, mapO (Value.int .i64) (Value.int .i64) (sumM (peoL cr pl (d : Int)))) :: (r_63, mapO (Value.int .i64) (Value.int .i64) (cntM (peoL cr pl (d : Int)))) :: (r_54, mapO (Value.int .i64) mapV dm1) :: (r_23, mapO encBrA Value.bool (kmap ks)) :: MB (bd :: ms))) (by rw [List.append_assoc]; rfl) ?_
   refine at_block_n ?_
   refine at_then ?_
   refine zR ?_
   refine zA ?_
   refine zN ?_
   refine X_seq ?_
   refine zR ?_
   refine zM ?_
   refine zQ slt_24 ?_
   refine zM ?_
   refine zN ?_
   refine X_block ?_
   refine X_loopM [(1, _), (2, _), (5, _), (10, _), (11, _), (12, _), (13, _), (14, _), (56, _), (57, _), (58, _), (91, _), (92, _)] (.cons rfl (.cons rfl (.cons rfl (.cons rfl (.cons rfl (.cons rfl (.cons rfl (.cons rfl (.cons rfl (.cons rfl (.cons rfl (.cons rfl (.cons rfl .nil))))))))))))) (fun T L0 mz ms E I' loc' => ∃ (j : Nat) (mn : Int), mz = n - j ∧ E = (17, .int .i64 mn) :: (93, .int .i64 j) :: T ∧ I1 = I' ∧ dL dm1 f1 ++ ((r_64, mapO (Value.int .i64) (Value.int .i64) (sumM (peoL cr pl (d : Int)))) :: (r_63, mapO (Value.int .i64) (Value.int .i64) (cntM (peoL cr pl (d : Int)))) :: (r_54, mapO (Value.int .i64) mapV dm1) :: (r_23, mapO encBrA Value.bool (kmap ks)) :: MB ms) = loc' ∧ j ≤ n ∧ mn = manyF (pl.take j) (d : Int)) _ _ _ _ ⟨0, 0, rfl, rfl, rfl, rfl, Nat.zero_le _, by simp [manyF]⟩ (.cons rfl (.cons rfl (.cons rfl (.cons rfl (.cons rfl (.cons rfl (.cons rfl (.cons rfl (.cons rfl (.cons rfl (.cons rfl (.cons rfl (.cons rfl (.cons rfl (.cons rfl .nil))))))))))))))) (HLe.refl _) rfl ?_
   rintro mz ms E I' loc' ⟨j, mn, rfl, rfl, rfl, rfl, hj, hmn⟩
   refine zR ?_
   refine zC ?_
   refine zN ?_
   refine X_seq ?_
   refine zI ?_ ?_ <;> intro hc94
   ·
    have hlt_j : j < n := by have h := hc94; simp at h; omega
    obtain ⟨w0, hw0⟩ := hS.at hlt_j
    have hmb := many_le (pl.take j) (d : Int)
    rw [List.length_take] at hmb
    refine X_skip ?_
    refine at_then ?_
    refine X_seq ?_
    refine X_block ?_
    refine zR ?_
    refine zV (ev_indexSl rfl rfl slt_24 (by assumption) (fun hg => by omega)) ?_
    refine zV (ev_load rfl sct_3 (fun hg => by exact Sl.get0 hS hw0 rfl)) ?_
    refine zA ?_
    refine zN (zR ?_)
    refine zM ?_
    refine zM ?_
    refine zC ?_
    refine zN ?_
    refine zI ?_ ?_ <;> intro hc99
    ·
     have he9 : w0 = (d : Int) := by simpa using hc99
     refine X_region ?_
     refine zM ?_
     refine zB ?_
     refine zA ?_
     refine XO_nil ?_
     refine at_block_n ?_
     refine at_then ?_
     refine X_region ?_
     refine zB ?_
     refine zM ?_
     refine XO_nil ?_
     exact at_metM rfl rfl rfl _ _ ⟨n - (j + 1), by omega, j + 1, _, rfl, rfl, rfl, rfl, by omega, by rw [many_snoc hw0 _, if_pos he9, hmn]⟩ (.cons rfl (.cons rfl (.cons rfl (.cons rfl (.cons rfl (.cons rfl (.cons rfl (.cons rfl (.cons rfl (.cons rfl (.cons rfl (.cons rfl (.cons rfl (.cons rfl (.cons rfl .nil))))))))))))))) (by repeat (first | exact .refl | exact subL_left | refine subL_app ?_ | refine .drop ?_ | refine subL_add ?_))
    have he9 : ¬ w0 = (d : Int) := by simpa using hc99
    refine X_skip ?_
    refine at_block_n ?_
    refine at_then ?_
    refine X_region ?_
    refine zB ?_
    refine zM ?_
    refine XO_nil ?_
    exact at_metM rfl rfl rfl _ _ ⟨n - (j + 1), by omega, j + 1, _, rfl, rfl, rfl, rfl, by omega, by rw [many_snoc hw0 _, if_neg he9, hmn, Int.add_zero]⟩ (.cons rfl (.cons rfl (.cons rfl (.cons rfl (.cons rfl (.cons rfl (.cons rfl (.cons rfl (.cons rfl (.cons rfl (.cons rfl (.cons rfl (.cons rfl (.cons rfl (.cons rfl .nil))))))))))))))) (by repeat (first | exact .refl | exact subL_left | refine subL_app ?_ | refine .drop ?_ | refine subL_add ?_))
   have hge_j : n ≤ j := by have h := hc94; simp at h; omega
   rw [take_all hS.len hge_j] at hmn
   refine X_exit ?_
   refine at_then_e ?_
   refine at_then_e ?_
   refine at_block_hit ?_
   refine at_then ?_
   refine X_cutM [(1, _), (2, _), (5, _), (10, _), (11, _), (12, _), (13, _), (14, _), (56, _), (57, _), (58, _)] (.cons rfl (.cons rfl (.cons rfl (.cons rfl (.cons rfl (.cons rfl (.cons rfl (.cons rfl (.cons rfl (.cons rfl (.cons rfl .nil))))))))))) (fun T L0 ms E I' loc' => ∃ (ks : List Br), E = T ∧ I1 = I' ∧ dL dm1 f1 ++ ((r_64, mapO (Value.int .i64) (Value.int .i64) (sumM (peoL cr pl (d : Int)))) :: (r_63, mapO (Value.int .i64) (Value.int .i64) (cntM (peoL cr pl (d : Int)))) :: (r_54, mapO (Value.int .i64) mapV dm1) :: (r_23, mapO encBrA Value.bool (kmap ks)) :: MB ms) = loc' ∧ SetI ks (InC cr pl d)) ?_ ?_
   ·
    refine zR ?_
    refine zM ?_
    refine zF fld_28_1 ?_
    refine zV (ev_load rfl sct_3 (fun hg => by exact Cell.imm h2 rfl)) ?_
    refine zC ?_
    refine zN ?_
    refine zI ?_ ?_ <;> intro hc106
    ·
     have hb2 : brk cr pl ⟨2, d, 0⟩ = true := by rw [brk_2, ← hmn, ← e1]; exact hc106
     refine X_region ?_
     refine zM ?_
     refine zM ?_
     refine zV (ev_buildL (ps := [(0, _), (1, _)]) [_, _, _] plt_98 rfl rfl) ?_
     refine XO_mapUpdate (m := kmap ks) (ek := encBrA) (ev := Value.bool) (a := ⟨2, (d : Int), 0⟩) true mpt_133 key_98 rfl rfl rfl rfl (by (repeat (first | exact Upd.here | apply Upd.there | apply upd_app))) ?_
     rw [mset_kmap]
     refine XO_nil ?_
     exact at_metM rfl rfl rfl _ _ ⟨_, rfl, rfl, rfl, hB.put (inC_yes hb2)⟩ (.cons rfl (.cons rfl (.cons rfl (.cons rfl (.cons rfl (.cons rfl (.cons rfl (.cons rfl (.cons rfl (.cons rfl (.cons rfl .nil))))))))))) .refl
    have hb2 : brk cr pl ⟨2, d, 0⟩ = false := by rw [brk_2, ← hmn, ← e1]; exact hc106
    refine X_skip ?_
    exact at_metM rfl rfl rfl _ _ ⟨_, rfl, rfl, rfl, hB.congr (inC_no hb2)⟩ (.cons rfl (.cons rfl (.cons rfl (.cons rfl (.cons rfl (.cons rfl (.cons rfl (.cons rfl (.cons rfl (.cons rfl (.cons rfl .nil))))))))))) .refl
   rintro ms E I' loc' ⟨ks3, rfl, rfl, rfl, hC3⟩
   refine zR ?_
   refine zV (ev_load rfl sct_81 (fun hg => by exact Cell.imm h13 rfl)) ?_
   refine XO_range (ek := Value.int .i64) (ev := Value.int .i64) (m := cntM (peoL cr pl (d : Int))) rfl mpt_81 rfl rfl (.inr (by simp)) (fun b_111 => ?_)
   refine zN ?_
   refine X_block ?_
   refine X_loopM [(1, _), (2, _), (5, _), (10, _), (11, _), (12, _), (14, _), (56, _), (57, _), (58, _), (111, _)] (.cons rfl (.cons rfl (.cons rfl (.cons rfl (.cons rfl (.cons rfl (.cons rfl (.cons rfl (.cons rfl (.cons rfl (.cons rfl .nil))))))))))) (fun T L0 mz ms E I' loc' => ∃ (seen : List Nat) (ks : List Br), mz = (cntM (peoL cr pl (d : Int))).length - seen.length ∧ E = T ∧ I1 = I' ∧ (b_111, iterO r_63 (cntM (peoL cr pl (d : Int))).length seen) :: (dL dm1 f1 ++ ((r_64, mapO (Value.int .i64) (Value.int .i64) (sumM (peoL cr pl (d : Int)))) :: (r_63, mapO (Value.int .i64) (Value.int .i64) (cntM (peoL cr pl (d : Int)))) :: (r_54, mapO (Value.int .i64) mapV dm1) :: (r_23, mapO encBrA Value.bool (kmap ks)) :: MB ms)) = loc' ∧ SetI ks (InD cr pl d (cntM (peoL cr pl (d : Int))) seen) ∧ seen.Nodup ∧ ∀ i ∈ seen, i < (cntM (peoL cr pl (d : Int))).length) _ _ _ _ ⟨[], ks3, rfl, rfl, rfl, rfl, hC3.congr inD_0, .nil, fun i h => by cases h⟩ (.cons rfl (.cons rfl (.cons rfl (.cons rfl (.cons rfl (.cons rfl (.cons rfl (.cons rfl (.cons rfl (.cons rfl (.cons rfl .nil))))))))))) (HLe.refl _) rfl ?_
   rintro mz ms E I' loc' ⟨seen, ks4, rfl, rfl, rfl, rfl, hC4, hnd2, hlt2⟩
   have hsl := seen_lt hnd2 hlt2
   refine zR ?_
   refine XO_next2 (ek := Value.int .i64) (ev := Value.int .i64) (m := cntM (peoL cr pl (d : Int))) (fun s' => (b_111, iterO r_63 (cntM (peoL cr pl (d : Int))).length s') :: (dL dm1 f1 ++ ((r_64, mapO (Value.int .i64) (Value.int .i64) (sumM (peoL cr pl (d : Int)))) :: (r_63, mapO (Value.int .i64) (Value.int .i64) (cntM (peoL cr pl (d : Int)))) :: (r_54, mapO (Value.int .i64) mapV dm1) :: (r_23, mapO encBrA Value.bool (kmap ks4)) :: MB ms))) rfl (fun s' => .here) rfl rfl rfl rfl rfl (.inr (by simp)) (by simp) ?_
   intro t tv s' hno hyes
   refine zN ?_
   refine X_seq ?_
   refine zI ?_ ?_ <;> intro hc113
   ·
    obtain ⟨i, q, hq, hns, rfl⟩ := hyes hc113
    obtain ⟨hnd3, hlt3⟩ := seen_more hnd2 hlt2 hns (List.getElem?_eq_some_iff.1 hq).1
    have hsl2 := seen_lt hnd3 hlt3
    rw [List.length_append, List.length_singleton] at hsl2
    have hqv := cntM_val (List.mem_of_getElem? hq)
    have hky := (cntM_key (peoL cr pl (d : Int)) q.1).1 (List.mem_map_of_mem (f := (·.1)) (List.mem_of_getElem? hq))
    have hbz := bsy_of_cnt hky
    obtain ⟨r9, hr9⟩ := hd1.has hbz
    refine X_skip ?_
    refine at_then ?_
    refine X_block ?_
    refine zR ?_
    refine zV (ev_entry (ek := Value.int .i64) (ev := Value.int .i64) (m := cntM (peoL cr pl (d : Int))) (r := r_63) (b := b_111) (p := q) (seen := seen) (i := i) rfl (.inr (by simp)) (.inr (by simp)) hq) ?_
    refine zE ?_
    refine zE ?_
    refine zA ?_
    refine zA ?_
    refine zN ?_
    refine X_cutM [(1, _), (2, _), (5, _), (10, _), (11, _), (12, _), (14, _), (20, _), (56, _), (57, _), (58, _), (111, _)] (.cons rfl (.cons rfl (.cons rfl (.cons rfl (.cons rfl (.cons rfl (.cons rfl (.cons rfl (.cons rfl (.cons rfl (.cons rfl (.cons rfl .nil)))))))))))) (fun T L0 ms E I' loc' => ∃ (ks : List Br), E = T ∧ I1 = I' ∧ (b_111, iterO r_63 (cntM (peoL cr pl (d : Int))).length (seen ++ [i])) :: (dL dm1 f1 ++ ((r_64, mapO (Value.int .i64) (Value.int .i64) (sumM (peoL cr pl (d : Int)))) :: (r_63, mapO (Value.int .i64) (Value.int .i64) (cntM (peoL cr pl (d : Int)))) :: (r_54, mapO (Value.int .i64) mapV dm1) :: (r_23, mapO encBrA Value.bool (kmap ks)) :: MB ms)) = loc' ∧ SetI ks (InE cr pl d (cntM (peoL cr pl (d : Int))) seen q.1 1)) ?_ ?_
    ·
     refine zR ?_
     refine zM ?_
     refine zF fld_28_2 ?_
     refine zV (ev_load rfl sct_3 (fun hg => by exact Cell.imm h2 rfl)) ?_
     refine zC ?_
     refine zN ?_
     refine zI ?_ ?_ <;> intro hc120
     ·
      have hb3 : brk cr pl ⟨3, d, q.1⟩ = true := by rw [brk_3 hr, ← hqv, ← e2]; exact hc120
      refine X_region ?_
      refine zM ?_
      refine zM ?_
      refine zM ?_
      refine zV (ev_buildL (ps := [(0, _), (1, _), (2, _)]) [_, _, _] plt_98 rfl rfl) ?_
      refine XO_mapUpdate (m := kmap ks4) (ek := encBrA) (ev := Value.bool) (a := ⟨3, (d : Int), q.1⟩) true mpt_133 key_98 rfl rfl rfl rfl (by (repeat (first | exact Upd.here | apply Upd.there | apply upd_app))) ?_
      rw [mset_kmap]
      refine XO_nil ?_
      exact at_metM rfl rfl rfl _ _ ⟨_, rfl, rfl, rfl, (hC4.congr inE_0).put (inE_yes rfl rfl (by decide) hb3)⟩ (.cons rfl (.cons rfl (.cons rfl (.cons rfl (.cons rfl (.cons rfl (.cons rfl (.cons rfl (.cons rfl (.cons rfl (.cons rfl (.cons rfl .nil)))))))))))) .refl
     have hb3 : brk cr pl ⟨3, d, q.1⟩ = false := by rw [brk_3 hr, ← hqv, ← e2]; exact hc120
     refine X_skip ?_
     exact at_metM rfl rfl rfl _ _ ⟨_, rfl, rfl, rfl, (hC4.congr inE_0).congr (inE_no rfl rfl hb3)⟩ (.cons rfl (.cons rfl (.cons rfl (.cons rfl (.cons rfl (.cons rfl (.cons rfl (.cons rfl (.cons rfl (.cons rfl (.cons rfl (.cons rfl .nil)))))))))))) .refl
    rintro ms E I' loc' ⟨ks5, rfl, rfl, rfl, hC5⟩
    refine X_cutM [(1, _), (2, _), (5, _), (10, _), (11, _), (12, _), (14, _), (20, _), (56, _), (57, _), (58, _), (111, _)] (.cons rfl (.cons rfl (.cons rfl (.cons rfl (.cons rfl (.cons rfl (.cons rfl (.cons rfl (.cons rfl (.cons rfl (.cons rfl (.cons rfl .nil)))))))))))) (fun T L0 ms E I' loc' => ∃ (ks : List Br), E = T ∧ I1 = I' ∧ (b_111, iterO r_63 (cntM (peoL cr pl (d : Int))).length (seen ++ [i])) :: (dL dm1 f1 ++ ((r_64, mapO (Value.int .i64) (Value.int .i64) (sumM (peoL cr pl (d : Int)))) :: (r_63, mapO (Value.int .i64) (Value.int .i64) (cntM (peoL cr pl (d : Int)))) :: (r_54, mapO (Value.int .i64) mapV dm1) :: (r_23, mapO encBrA Value.bool (kmap ks)) :: MB ms)) = loc' ∧ SetI ks (InE cr pl d (cntM (peoL cr pl (d : Int))) seen q.1 2)) ?_ ?_
    ·
     refine zR ?_
     refine zV (ev_load rfl sct_81 (fun hg => by exact Cell.imm h14 rfl)) ?_
     refine zM ?_
     refine zV (ev_lookupI (m := sumM (peoL cr pl (d : Int))) (ek := Value.int .i64) (a := q.1) mpt_81 key_3 rfl rfl (fun _ => (by (repeat (first | exact Mem.m0 | apply Mem.there | apply Mem.app))))) ?_
     refine zF fld_28_3 ?_
     refine zV (ev_load rfl sct_3 (fun hg => by exact Cell.imm h2 rfl)) ?_
     refine zC ?_
     refine zN ?_
     refine zI ?_ ?_ <;> intro hc130
     ·
      have hb4 : brk cr pl ⟨4, d, q.1⟩ = true := by rw [brk_4 hr, ← sumM_get, ← e3]; exact hc130
      refine X_region ?_
      refine zM ?_
      refine zM ?_
      refine zM ?_
      refine zV (ev_buildL (ps := [(0, _), (1, _), (2, _)]) [_, _, _] plt_98 rfl rfl) ?_
      refine XO_mapUpdate (m := kmap ks5) (ek := encBrA) (ev := Value.bool) (a := ⟨4, (d : Int), q.1⟩) true mpt_133 key_98 rfl rfl rfl rfl (by (repeat (first | exact Upd.here | apply Upd.there | apply upd_app))) ?_
      rw [mset_kmap]
      refine XO_nil ?_
      exact at_metM rfl rfl rfl _ _ ⟨_, rfl, rfl, rfl, hC5.put (inE_yes rfl rfl (by decide) hb4)⟩ (.cons rfl (.cons rfl (.cons rfl (.cons rfl (.cons rfl (.cons rfl (.cons rfl (.cons rfl (.cons rfl (.cons rfl (.cons rfl (.cons rfl .nil)))))))))))) .refl
     have hb4 : brk cr pl ⟨4, d, q.1⟩ = false := by rw [brk_4 hr, ← sumM_get, ← e3]; exact hc130
     refine X_skip ?_
     exact at_metM rfl rfl rfl _ _ ⟨_, rfl, rfl, rfl, hC5.congr (inE_no rfl rfl hb4)⟩ (.cons rfl (.cons rfl (.cons rfl (.cons rfl (.cons rfl (.cons rfl (.cons rfl (.cons rfl (.cons rfl (.cons rfl (.cons rfl (.cons rfl .nil)))))))))))) .refl
    rintro ms E I' loc' ⟨ks6, rfl, rfl, rfl, hC6⟩
    refine zR ?_
    refine zA ?_
    refine zN ?_
    refine X_seq ?_
    refine X_block ?_
    refine X_loopM [(1, _), (2, _), (5, _), (10, _), (11, _), (12, _), (14, _), (20, _), (56, _), (57, _), (58, _), (111, _)] (.cons rfl (.cons rfl (.cons rfl (.cons rfl (.cons rfl (.cons rfl (.cons rfl (.cons rfl (.cons rfl (.cons rfl (.cons rfl (.cons rfl .nil)))))))))))) (fun T L0 mz ms E I' loc' => ∃ (row : Int), mz = (date + 2 - row).toNat ∧ E = (22, .int .i64 row) :: T ∧ I1 = I' ∧ (b_111, iterO r_63 (cntM (peoL cr pl (d : Int))).length (seen ++ [i])) :: (dL dm1 f1 ++ ((r_64, mapO (Value.int .i64) (Value.int .i64) (sumM (peoL cr pl (d : Int)))) :: (r_63, mapO (Value.int .i64) (Value.int .i64) (cntM (peoL cr pl (d : Int)))) :: (r_54, mapO (Value.int .i64) mapV dm1) :: (r_23, mapO encBrA Value.bool (kmap ks6)) :: MB ms)) = loc' ∧ 1 ≤ row ∧ row ≤ date + 1 ∧ ∀ j : Int, 1 ≤ j → j < row → bsyK cr pl (d + 1) q.1 (dayF cr d - j) = true) _ _ _ _ ⟨1, rfl, rfl, rfl, rfl, Int.le_refl _, by omega, fun j a b => by omega⟩ (.cons rfl (.cons rfl (.cons rfl (.cons rfl (.cons rfl (.cons rfl (.cons rfl (.cons rfl (.cons rfl (.cons rfl (.cons rfl (.cons rfl (.cons rfl .nil))))))))))))) (HLe.refl _) rfl ?_
    rintro mz ms E I' loc' ⟨row, rfl, rfl, rfl, rfl, hw1, hw2, hw3⟩
    refine X_seq ?_
    refine zR ?_
    refine zV (ev_load rfl sct_134 (fun hg => by exact Cell.imm h10 rfl)) ?_
    refine zM ?_
    refine zV (ev_lookupG (m := dm1) (ek := Value.int .i64) (ev := mapV) (a := q.1) hr9 mpt_134 key_3 rfl rfl (fun _ => (by (repeat (first | exact Mem.m0 | apply Mem.there | apply Mem.app))))) ?_
    refine zV (ev_load rfl sct_3 (fun hg => by exact Cell.imm h12 rfl)) ?_
    refine zM ?_
    refine zB ?_
    refine zV (ev_lookupBool (m := f1 q.1) (ek := Value.int .i64) (a := date - row) mpt_35 key_3 rfl rfl (fun _ => .inr (List.mem_cons_of_mem _ (List.mem_append_left _ (dL_mem hr9))))) ?_
    refine zN ?_
    refine zI ?_ ?_ <;> intro hc141
    ·
     have hbt : bsyK cr pl (d + 1) q.1 (dayF cr d - row) = true := by rw [hdf, ← hd1.is]; exact hc141
     have hx0 := bsyK_pos hr hin hbt
     rw [hdf] at hx0
     refine X_skip ?_
     refine at_then ?_
     refine X_block ?_
     refine X_region ?_
     refine zM ?_
     refine zB ?_
     refine zA ?_
     refine XO_nil ?_
     refine at_block_n ?_
     exact at_metM rfl rfl rfl _ _ ⟨(date + 2 - (row + 1)).toNat, by omega, row + 1, rfl, rfl, rfl, rfl, by omega, by omega, fun j a b => by by_cases hj : j < row; exact hw3 j a hj; obtain rfl : j = row := (by omega); exact hbt⟩ (.cons rfl (.cons rfl (.cons rfl (.cons rfl (.cons rfl (.cons rfl (.cons rfl (.cons rfl (.cons rfl (.cons rfl (.cons rfl (.cons rfl (.cons rfl .nil))))))))))))) .refl
    have hbf : bsyK cr pl (d + 1) q.1 (dayF cr d - row) = false := by rw [hdf, ← hd1.is]; exact hc141
    have hb5 := brk_5 hr hin hdl hbz hw1 hw3 hbf
    refine X_exit ?_
    refine at_then_e ?_
    refine at_then_e ?_
    refine at_block_hit ?_
    refine at_then ?_
    refine zR ?_
    refine zM ?_
    refine zF fld_28_4 ?_
    refine zV (ev_load rfl sct_3 (fun hg => by exact Cell.imm h2 rfl)) ?_
    refine zC ?_
    refine zN ?_
    refine zI ?_ ?_ <;> intro hc147
    ·
     have hb6 : brk cr pl ⟨5, d, q.1⟩ = true := by rw [hb5, ← e4]; exact hc147
     refine X_region ?_
     refine zM ?_
     refine zM ?_
     refine zM ?_
     refine zV (ev_buildL (ps := [(0, _), (1, _), (2, _)]) [_, _, _] plt_98 rfl rfl) ?_
     refine XO_mapUpdate (m := kmap ks6) (ek := encBrA) (ev := Value.bool) (a := ⟨5, (d : Int), q.1⟩) true mpt_133 key_98 rfl rfl rfl rfl (by (repeat (first | exact Upd.here | apply Upd.there | apply upd_app))) ?_
     rw [mset_kmap]
     refine XO_nil ?_
     refine at_block_n ?_
     first
     | exact at_metM rfl rfl rfl _ _ ⟨(cntM (peoL cr pl (d : Int))).length - (seen ++ [i]).length, by rw [List.length_append, List.length_singleton]; omega, seen ++ [i], _, rfl, rfl, rfl, rfl, (hC6.put (inE_yes rfl rfl (by decide) hb6)).congr (inE_end hq), hnd3, hlt3⟩ (.cons rfl (.cons rfl (.cons rfl (.cons rfl (.cons rfl (.cons rfl (.cons rfl (.cons rfl (.cons rfl (.cons rfl (.cons rfl .nil))))))))))) .refl
    have hb6 : brk cr pl ⟨5, d, q.1⟩ = false := by rw [hb5, ← e4]; exact hc147
    refine X_skip ?_
    refine at_block_n ?_
    first
    | exact at_metM rfl rfl rfl _ _ ⟨(cntM (peoL cr pl (d : Int))).length - (seen ++ [i]).length, by rw [List.length_append, List.length_singleton]; omega, seen ++ [i], _, rfl, rfl, rfl, rfl, (hC6.congr (inE_no rfl rfl hb6)).congr (inE_end hq), hnd3, hlt3⟩ (.cons rfl (.cons rfl (.cons rfl (.cons rfl (.cons rfl (.cons rfl (.cons rfl (.cons rfl (.cons rfl (.cons rfl (.cons rfl .nil))))))))))) .refl
   obtain ⟨rfl, hall⟩ := hno hc113
   refine X_exit ?_
   refine at_then_e ?_
   refine at_then_e ?_
   refine at_block_hit ?_
   refine at_block_n ?_
   refine at_then ?_
   refine X_region ?_
   refine zB ?_
   refine zM ?_
   refine XO_nil ?_
   exact at_metM rfl rfl rfl _ _ ⟨x.n - (d + 1), by omega, d + 1, ks4, dm1, f1, rfl, rfl, hB4, rfl, by omega, hC4.congr (inD_end hr hin hdl hall), hd1⟩ (.cons rfl (.cons rfl (.cons rfl (.cons rfl (.cons rfl (.cons rfl (.cons rfl .nil))))))) (by repeat (first | exact .refl | exact subL_left | refine subL_app ?_ | refine .drop ?_ | refine subL_add ?_))
  rintro c9 bd pre I1 loc1 hI1 hpre hF; exact hF.elim
 have hge_d : x.n ≤ d := by have h := hc59; simp at h; omega
 have hA := hB.congr (inB_all (by omega))
 have hk9 : ks.length ≤ 100000 := by rw [set_len hA (brkL_nodup cr pl)]; have := brkL_len h16 pl; omega
 refine X_exit ?_
 refine at_then_e ?_
 refine at_then_e ?_
 refine at_block_hit ?_
 refine at_then ?_
 refine X_seq ?_
 refine X_freeze (take_skip (.there .here)) (fun I17 hI17 hb17 => ?_)
 have hC := hC.mono hI17; have hS := hS.mono hI17; have hSs := hSs.mono hI17; have hD := hD.mono hI17; have hH := hH.mono hI17; have h2 := h2.mono hI17; have h10 := h10.mono hI17; have hIc := hIc.trans hI17; have hB4 := hB4.trans hI17
 have hset := ImmC.of hb17
 refine X_region ?_
 refine zM ?_
 refine XO_callM (cap := []) (vs := [_]) rfl rfl fun_78 .nil (w_keys I17 r_23) rfl rfl ?_
 rintro vv18 I18 L18 hI18 ⟨rfl, b91, rfl, h91⟩
 have hC := hC.mono hI18; have hS := hS.mono hI18; have hSs := hSs.mono hI18; have hD := hD.mono hI18; have hH := hH.mono hI18; have h2 := h2.mono hI18; have h10 := h10.mono hI18; have hset := hset.mono hI18; have hIc := hIc.trans hI18; have hB4 := hB4.trans hI18
 rw [List.nil_append]
 refine XO_callM (cap := []) (vs := [_, _]) rfl rfl fun_77 .nil (w_sortedB fun_106 (w_keysIt I18 hset hk9 h91) hk9) rfl rfl ?_
 rintro vv19 I19 L19 hI19 ⟨zs, hz, hzp, hO⟩
 have hC := hC.mono hI19; have hS := hS.mono hI19; have hSs := hSs.mono hI19; have hD := hD.mono hI19; have hH := hH.mono hI19; have h2 := h2.mono hI19; have h10 := h10.mono hI19; have hset := hset.mono hI19; have hIc := hIc.trans hI19; have hB4 := hB4.trans hI19
 obtain ⟨L9, hL9⟩ : ∃ L9, L9 = L19 := ⟨_, rfl⟩
 subst hL9
 refine zA ?_
 refine zN ?_
 refine X_ret ?_
 refine at_locEq (loc' := (L9 ++ (dL dm f ++ [(r_54, mapO (Value.int .i64) mapV dm)])) ++ MB ms) (by simp) ?_
 exact at_retMs (fun a ha w hw => res1 rfl rfl a ha w) (fun w hw => by obtain ⟨I9, h91, h92, h93⟩ := hw.freezeAll; obtain ⟨a9, c9, rfl, hS9⟩ := hO.sl encBr_len (by decide) (fun b o hb => h93 b o (List.mem_append_left _ hb)); exact ⟨_, I9, [], rfl, hIc.trans h91, h92, SlRes.good (sorted_brk hA.nd hA.is hz hzp).symm hS9⟩)
end Go.Proofs.YtclkmnidgdkekaaGreat
end
section
namespace Go.Kn
open Go
section
variable {C : Cx} {E : Env} {I : HMap} {loc : Loc} {S : GS} {dst : Option Tmp} {ty : TypeId} {pos : String} {af : Array Edge} {gd : Option (Nat × Bool)} {x y z : Operand}
theorem ev_sliceM {t e size n c : Nat} {av : Option Addr} {k k' : IntKind} {i : Int} (hx : evalS S E x = some (.slice av n c)) (hy : evalS S E y = some (.int k i)) (hz : evalS S E z = some (.int k' i)) (hT : SlT C.P t e size) (hb : conj S = true → 0 ≤ i ∧ i ≤ (c : Int)) :
    EvalOp C S E I loc ⟨dst, .slice t x none (some y) (some z), ty, pos, af, gd⟩ (.slice av i.toNat i.toNat) :=
  .of (by intro c e; cases e) fun a w ha hg hc _ => by
    obtain ⟨h1, j, h2, h3⟩ := hT
    have hav : (if i.toNat = 0 then av else av.map (·.add (0 * j.size))) = av := by
      split
      · rfl
      · cases av <;> simp [Addr.add]
    have hi : 0 ≤ i ∧ i ≤ ((i.toNat : Nat) : Int) := by have := hb hc; omega
    simp only [execOp, Option.map_none, Option.map_some, evalS_sound ha hg hc hx, evalS_sound ha hg hc hy, evalS_sound ha hg hc hz, Instr.sliceAt, Instr.slice, Instr.sliceBounds, Instr.sliceBound, asIntOf, Sem.run_bind, Sem.run_pure, run_underlying h1, Result.andThen, if_pos (hb hc), if_pos hi, run_sizeOf h2, hav, Nat.sub_zero]
end
end Go.Kn
namespace Go.Kn
open Go
section
variable {g : World} {I I' H : HMap} {loc loc' L R : Loc} {w w' : World}
/-- 'append' onto a slice that is only read and has no room. -/
theorem run_append_cut {P : Program} (t ty e : TypeId) (i : TypeInfo) (z : Value) {size bytes : Nat} (ht : P.underlying t = some (.slice e)) (hi : P.info? e = some i) (hz : i.zero = some z)
    (hsize : i.size = size) (hby : i.bytes = bytes) (hzs : z.cells.size = size)
    {bv : Option Addr} {n : Nat} {xs : List Value} {av : Option Addr} {m c : Nat} {ys : List Value} (hX : Src I loc bv n size xs) (hw : St g I H loc w) (hS : Src I loc av m size ys)
    (hB : (n + m) * (bytes + 1) ≤ 70368744177664) :
    ∃ v' w' L', (Builtin.append_ #[t, t] ty #[.slice bv n n, .slice av m c]).run P w = .ok v' w' ∧ St g I H (L' ++ loc) w' ∧ ((m = 0 ∧ v' = .slice bv n n ∧ L' = []) ∨ OwnS e size v' (n + m) (xs ++ ys) L') := by
  subst hsize
  subst hby
  have hnm : n + m ≤ 70368744177664 := by
    have : (n + m) * 1 ≤ (n + m) * (i.bytes + 1) := Nat.mul_le_mul_left _ (by omega)
    omega
  have hbytes : (n + m) * i.bytes ≤ 140737488355328 := by
    have : (n + m) * i.bytes ≤ (n + m) * (i.bytes + 1) := Nat.mul_le_mul_left _ (by omega)
    omega
  have hmL : n + m ≤ maxLen := by simp only [maxLen]; omega
  have hlen : (xs ++ ys).length = (n + m) * i.size := by rw [List.length_append, hX.len, hS.len, Nat.add_mul]
  by_cases hm : m = 0
  · subst hm
    refine ⟨.slice bv n n, w, [], ?_, hw, .inl ⟨rfl, rfl, rfl⟩⟩
    cases av <;> cases bv <;> simp [Builtin.append_, run_underlying ht, sizeOf, typeInfo, hi, Builtin.lenOf, Builtin.firstCells, loadCells, loadCellsFrom, storeCells]
  · have hav := hS.base hm
    have hnews : ∀ j u, ys[j]? = some u → w.cell? ((⟨Ab av, Ao av, none⟩ : Addr).add j) = some u := fun j u hj => by rw [add_plain]; exact (hS.cells j u hj).get hw
    rw [hav]
    have grown : ∀ (old : Nat), old < n + m → ∃ L', OwnS e i.size (.slice (some ⟨w.heap.size, 0, none⟩) (n + m) (grownCap w (n + m) old e)) (n + m) (xs ++ ys) L' ∧
        St g I H (L' ++ loc) (w.drew.alloc (.cells (xs.toArray ++ ys.toArray ++ Builtin.zeroCells z.cells (grownCap w (n + m) old e - (n + m))) e)) := by
      intro old ho
      have hge := grownCap_ge w (n + m) old e
      have hcm : grownCap w (n + m) old e ≤ maxLen := grownCap_le_maxLen w (n + m) old e hmL
      refine ⟨_, ⟨hlen, .inr ⟨w.heap.size, _, xs.toArray ++ ys.toArray ++ Builtin.zeroCells z.cells (grownCap w (n + m) old e - (n + m)), rfl, rfl, hge, hcm, ?_, ?_⟩⟩, ?_⟩
      · simp only [Array.size_append, List.size_toArray, size_zeroCells', hzs, hX.len, hS.len, ← Nat.add_mul]
        congr 1
        omega
      · simp only [Array.toList_append, List.append_assoc]
        rw [← List.append_assoc, ← hlen]
        exact List.take_left
      · exact hw.drew'.alloc _
    obtain ⟨L', h1', h2'⟩ := grown n (by omega)
    cases bv with
    | none =>
      have hn0 : n = 0 := Decidable.byContradiction fun h => by have := hX.base h; cases this
      subst hn0
      have hx : xs = [] := List.eq_nil_of_length_eq_zero (by simpa using hX.len)
      subst hx
      have hr := run_append_nil (P := P) w t ty e i z ht hi hz ⟨Ab av, Ao av, none⟩ m c ys hS.len hnews (by omega) (by omega) (by simp only [Nat.zero_add] at hbytes; omega)
      simp only [Nat.zero_add, List.nil_append, Array.empty_append] at h1' h2' ⊢
      exact ⟨_, _, L', hr, h2', .inr h1'⟩
    | some q =>
      have holds : ∀ j u, xs[j]? = some u → w.cell? (q.add j) = some u := fun j u hj => by
        by_cases hn0 : n = 0
        · subst hn0
          have hx : xs = [] := List.eq_nil_of_length_eq_zero (by simpa using hX.len)
          subst hx; simp at hj
        · have hq := hX.base hn0
          have hq2 : q = ⟨Ab (some q), Ao (some q), none⟩ := Option.some.inj hq
          rw [hq2, add_plain]
          exact (hX.cells j u hj).get hw
      have hr := run_append_grow (P := P) w t ty e i z ht hi hz q n n xs hX.len holds ⟨Ab av, Ao av, none⟩ m c ys hS.len hnews (by omega) (by omega) (growslice_fits (by omega) hbytes)
      exact ⟨_, _, L', hr, h2', .inr h1'⟩
end
end Go.Kn
namespace Go.Kn
open Go
section
variable {C : Cx} {Q : Exit → Act → World → Prop} {E : Env} {I : HMap} {loc : Loc} {ops : Array Oper} {rest : List Oper} {d : Nat} {ty : TypeId} {pos : String} {af : Array Edge} {gd : Option (Nat × Bool)} {x y : Operand}
/-- 'append' onto a slice that is only read and has no room; what comes is read from now on. -/
theorem XO_appendCut {α : Type} {enc : α → List Value} {t e size bytes n m c : Nat} {av bv : Option Addr} {xs ys : List α} (hs : ∀ x, (enc x).length = size) (hsz : 0 < size) (hx : evalS [] E x = some (.slice bv n n)) (hy : evalS [] E y = some (.slice av m c)) (hT : ElT C.P t e size bytes)
    (hX : Sl I size enc bv n n xs) (hS : Sl I size enc av m c ys) (hB : (n + m) * (bytes + 1) ≤ 70368744177664) (hG : gd = none) (hN : Nat.blt d C.N = true)
    (h : ∀ I' a' c', HLe I I' → Sl I' size enc a' (n + m) c' (xs ++ ys) → XO C Q ops rest [] ((d, .slice a' (n + m) c') :: E) I' loc) :
    XO C Q ops (⟨some d, .call ⟨.builtin .append, #[x, y], #[t, t]⟩, ty, pos, af, gd⟩ :: rest) [] E I loc :=
  XO_world hG (by intro c e; cases e) fun a w ha hw => by
    obtain ⟨ht, i, zz, hi, hz, hs', hb, hzs⟩ := hT
    obtain ⟨v', w', L', hr, hw', hm⟩ := run_append_cut (P := C.P) t ty e i zz ht hi hz hs' hb hzs (c := c) (hX.src hs) hw (hS.src hs) hB
    simp only [execOp, resolve, List.map_toArray, List.map_cons, List.map_nil, evalS_sound (S := []) ha trivial rfl hx, evalS_sound (S := []) ha trivial rfl hy, Sem.run_bind, Sem.run_pure, Result.andThen, invoke, builtin, hr, Oper.uponIn_value]
    rcases hm with ⟨hm0, rfl, rfl⟩ | hO
    · subst hm0
      have hy0 : ys = [] := List.eq_nil_of_length_eq_zero hS.len
      subst hy0
      exact h I bv n (HLe.refl I) (by rw [List.append_nil]; exact hX) _ _ (ha.put hN _) trivial hw'
    · rw [← List.flatMap_append] at hO
      obtain ⟨I', a', c', h1, h2, rfl, h4⟩ := OwnS.freeze (R := loc) hO hs hsz hw'
      exact h I' a' c' h1 h4 _ _ (ha.put hN _) trivial h2
end
end Go.Kn
namespace Go.Kn
open Go
section
variable {C : Cx} {Q : Exit → Act → World → Prop} {E : Env} {I : HMap} {loc : Loc} {ops : Array Oper} {rest : List Oper} {d : Nat} {ty : TypeId} {pos : String} {af : Array Edge} {gd : Option (Nat × Bool)} {x y : Operand}
end
section
variable {C : Cx} {S : GS} {E : Env} {I : HMap} {loc : Loc} {dst : Option Tmp} {ty : TypeId} {pos : String} {af : Array Edge} {gd : Option (Nat × Bool)} {x y : Operand}
theorem ev_indexOwn {t e size b n c : Nat} {k : IntKind} {i : Int} (hx : evalS S E x = some (.slice (some ⟨b, 0, none⟩) n c)) (hy : evalS S E y = some (.int k i)) (hT : SlT C.P t e size) (hb : conj S = true → 0 ≤ i ∧ i < (n : Int)) :
    EvalOp C S E I loc ⟨dst, .indexAddr t x y, ty, pos, af, gd⟩ (.pointer (some ⟨b, i.toNat * size, none⟩)) := by
  have h := ev_indexAddr (I := I) (loc := loc) (dst := dst) (ty := ty) (pos := pos) (af := af) (gd := gd) hx hy hT hb
  rwa [Nat.zero_add] at h
end
theorem Sl.cut {α : Type} {I : HMap} {size : Nat} {enc : α → List Value} {av : Option Addr} {n c : Nat} {xs : List α} (h : Sl I size enc av n c xs) : Sl I size enc av n n xs := ⟨h.len, Nat.le_refl _, h.base, h.cells⟩
theorem at_freezeO {C : Cx} {Q : Exit → Act → World → Prop} {E : Env} {I : HMap} {loc L R : Loc} {α : Type} {e size n : Nat} {enc : α → List Value} {v : Value} {xs : List α} {ex : Exit} (hO : OwnS e size v n (xs.flatMap enc) L) (hs : ∀ x, (enc x).length = size) (hsz : 0 < size) (hsp : Split loc L R)
    (h : ∀ I', HLe I I' → ∀ av c0, v = .slice av n c0 → Sl I' size enc av n c0 xs → At C Q ex E I' R) : At C Q ex E I loc := fun a w ha hw =>
  let ⟨I', av, c0, h1, h2, h3, h4⟩ := OwnS.freeze (R := R) hO hs hsz (hw.unsplit hsp)
  h I' h1 av c0 h3 h4 a w ha h2
end Go.Kn
end
section
namespace Go.Kn
open Go
/-- What a block's variable holds. -/
def LdV (P : Program) (I : HMap) (loc : Loc) (tt b : Nat) (v : Value) : Prop := ∀ (g : World) (H : HMap) (w : World), St g I H loc w → (loadVar tt ⟨b, 0, none⟩).run P w = .ok v w
theorem LdV.sc {P : Program} {I : HMap} {loc : Loc} {tt b : Nat} {v : Value} (hT : ScT P tt) (hc : Cell I loc b 0 v) : LdV P I loc tt b v := fun g H w hw => by
  simp only [loadVar, Sem.run_bind, run_isAgg_sc hT, Result.andThen, Bool.false_eq_true, if_false, run_load, hc.get hw]
theorem LdV.ag {P : Program} {I : HMap} {loc : Loc} {tt b n : Nat} {vs : List Value} (hA : AgT P tt n) (hc : Cells I loc b 0 vs) (hn : vs.length = n) : LdV P I loc tt b (.agg vs.toArray) := fun g H w hw => by
  have h1 : (loadCells ⟨b, 0, none⟩ n).run P w = .ok vs.toArray w := by
    rw [← hn]
    exact run_loadCells_list w _ _ fun j v hj => by rw [add_plain]; exact (hc j v hj).get hw
  have hA' := hA
  obtain ⟨_, i, h2, h3⟩ := hA'
  simp only [loadVar, Sem.run_bind, Sem.run_pure, run_isAgg_ag hA, Result.andThen, if_true, run_sizeOf h2, h3, h1]
section
variable {P : Program} {fn : Func} {R : Ending → World → Prop} {N : Nat} {g : World} {I H : HMap} {loc : Loc} {E : Env} {r : Option Nat}
theorem at_ret1L {t tt b : Nat} {v : Value} (hr : fn.results = #[.cell t tt]) (hv : look E t = some (.pointer (some ⟨b, 0, none⟩))) (hl : LdV P I loc tt b v)
    (h : ∀ w, St g I H loc w → R (.returned v) w) : At ⟨P, r, N, [], g, H⟩ (bodyPost P fn R) .ret E I loc := fun a w ha hw =>
  ⟨ha.defers, v, by
    have e1 := ha.env _ _ hv
    rw [Array.getD_eq_getD_getElem?] at e1
    have l1 := hl _ _ _ hw
    simp only [results, hr]
    simp [List.mapM_cons, e1, asAddr, l1], h w hw⟩
theorem at_ret3L {t u s tt b : Nat} {v v' v'' : Value} (hr : fn.results = #[.cell t tt, .tmp u, .tmp s]) (hv : look E t = some (.pointer (some ⟨b, 0, none⟩))) (hv' : look E u = some v') (hv'' : look E s = some v'') (hl : LdV P I loc tt b v)
    (h : ∀ w, St g I H loc w → R (.returned (.tuple #[v, v', v''])) w) : At ⟨P, r, N, [], g, H⟩ (bodyPost P fn R) .ret E I loc := fun a w ha hw =>
  ⟨ha.defers, .tuple #[v, v', v''], by
    have e1 := ha.env _ _ hv
    have e2 := ha.env _ _ hv'
    have e3 := ha.env _ _ hv''
    rw [Array.getD_eq_getD_getElem?] at e1 e2 e3
    have l1 := hl _ _ _ hw
    simp only [results, hr]
    simp [List.mapM_cons, e1, e2, e3, asAddr, l1], h w hw⟩
theorem at_ret3LL {t u s tt tt' b b' : Nat} {v v' v'' : Value} (hr : fn.results = #[.cell t tt, .cell u tt', .tmp s]) (hv : look E t = some (.pointer (some ⟨b, 0, none⟩))) (hv' : look E u = some (.pointer (some ⟨b', 0, none⟩))) (hv'' : look E s = some v'') (hl : LdV P I loc tt b v) (hl' : LdV P I loc tt' b' v')
    (h : ∀ w, St g I H loc w → R (.returned (.tuple #[v, v', v''])) w) : At ⟨P, r, N, [], g, H⟩ (bodyPost P fn R) .ret E I loc := fun a w ha hw =>
  ⟨ha.defers, .tuple #[v, v', v''], by
    have e1 := ha.env _ _ hv
    have e2 := ha.env _ _ hv'
    have e3 := ha.env _ _ hv''
    rw [Array.getD_eq_getD_getElem?] at e1 e2 e3
    have l1 := hl _ _ _ hw
    have l2 := hl' _ _ _ hw
    simp only [results, hr]
    simp [List.mapM_cons, e1, e2, e3, asAddr, l1, l2], h w hw⟩
end
end Go.Kn
end
section
namespace Go.Proofs.YtclkmnidgdkekaaGreat
open Go Go.Kn Go.Proofs
/-- A proof with the head of its kids. -/
structure PH where
  r : Int
  d : Int
  w : Int
  a : Option Addr
  n : Nat
  c : Nat
def encPH (h : PH) : List Value := [.int .i64 h.r, .int .i64 h.d, .int .i64 h.w, .slice h.a h.n h.c]
theorem encPH_len (h : PH) : (encPH h).length = 4 := rfl
theorem one_PH (xs : List PH) : allOne (xs.flatMap encPH) = true := allOne_flat (fun _ => rfl) xs
def encPHA (h : PH) : Value := .agg (encPH h).toArray
mutual
def PrAt (I : HMap) : PH → Pr → Prop
  | h, .mk r d w ks => h.r = r ∧ h.d = d ∧ h.w = w ∧ ∃ hs, Sl I 4 encPH h.a h.n h.c hs ∧ PrsAt I hs ks
def PrsAt (I : HMap) : List PH → List Pr → Prop
  | [], [] => True
  | h :: hs, k :: ks => PrAt I h k ∧ PrsAt I hs ks
  | _, _ => False
end
mutual
theorem PrAt.monoX {I I' : HMap} (hI : HLe I I') : ∀ {p : Pr} {h : PH}, PrAt I h p → PrAt I' h p
  | .mk r d w ks, h, H => by
    unfold PrAt at *
    obtain ⟨h1, h2, h3, hs, h4, h5⟩ := H
    exact ⟨h1, h2, h3, hs, h4.mono hI, PrsAt.monoX hI h5⟩
theorem PrsAt.monoX {I I' : HMap} (hI : HLe I I') : ∀ {ks : List Pr} {hs : List PH}, PrsAt I hs ks → PrsAt I' hs ks
  | [], [], _ => trivial
  | [], _ :: _, H => H.elim
  | _ :: _, [], H => H.elim
  | k :: ks, h :: hs, H => ⟨PrAt.monoX hI H.1, PrsAt.monoX hI H.2⟩
end
theorem PrAt.mono {I I' : HMap} {p : Pr} {h : PH} (H : PrAt I h p) (hI : HLe I I') : PrAt I' h p := PrAt.monoX hI H
theorem PrsAt.mono {I I' : HMap} {ks : List Pr} {hs : List PH} (H : PrsAt I hs ks) (hI : HLe I I') : PrsAt I' hs ks := PrsAt.monoX hI H
theorem PrsAt.nil {I : HMap} : PrsAt I [] [] := trivial
theorem PrsAt.snoc {I : HMap} : ∀ {hs : List PH} {ks : List Pr} {h : PH} {k : Pr}, PrsAt I hs ks → PrAt I h k → PrsAt I (hs ++ [h]) (ks ++ [k])
  | [], [], _, _, _, H => ⟨H, trivial⟩
  | [], _ :: _, _, _, H, _ => H.elim
  | _ :: _, [], _, _, H, _ => H.elim
  | _ :: _, _ :: _, _, _, H, G => ⟨H.1, H.2.snoc G⟩
theorem PrsAt.len {I : HMap} : ∀ {hs : List PH} {ks : List Pr}, PrsAt I hs ks → hs.length = ks.length
  | [], [], _ => rfl
  | [], _ :: _, H => H.elim
  | _ :: _, [], H => H.elim
  | _ :: _, _ :: _, H => by simp [H.2.len]
theorem PrsAt.at {I : HMap} : ∀ {hs : List PH} {ks : List Pr}, PrsAt I hs ks → ∀ (i : Nat) (h : PH), hs[i]? = some h → ∃ k, ks[i]? = some k ∧ PrAt I h k
  | [], [], _, i, h, e => by simp at e
  | [], _ :: _, H, _, _, _ => H.elim
  | _ :: _, [], H, _, _, _ => H.elim
  | a :: hs, k :: ks, H, i, h, e => by
    cases i with
    | zero => simp at e; subst e; exact ⟨k, rfl, H.1⟩
    | succ i => simpa using H.2.at i h (by simpa using e)
theorem PrAt.node {I : HMap} {r d w : Int} {av : Option Addr} {n c : Nat} {hs : List PH} {ks : List Pr} (hS : Sl I 4 encPH av n c hs) (hP : PrsAt I hs ks) : PrAt I ⟨r, d, w, av, n, c⟩ (.mk r d w ks) := by
  unfold PrAt; exact ⟨rfl, rfl, rfl, hs, hS, hP⟩
theorem PrAt.leaf {I : HMap} (b : Br) : PrAt I ⟨b.r, b.d, b.w, none, 0, 0⟩ (leafP b) := PrAt.node Sl.nil PrsAt.nil
/-- What a search from a beginning hands back. -/
def SrQ (c : Cr) (last f : Nat) (pl : List Int) (bp tt : Nat) (pv : Value) : Value → HMap → Go.Kn.Loc → Prop := fun v I' L' => ∃ (h : PH) (pv' : Value) (fd : Bool), v = .tuple #[encPHA h, .bool fd] ∧ L' = [(bp, .cells #[pv'] tt (0, 0))] ∧ PrAt I' h (srch c last f pl).1 ∧
  ((fd = false ∧ (srch c last f pl).2 = none ∧ pv' = pv) ∨ (fd = true ∧ ∃ x a cc, (srch c last f pl).2 = some x ∧ pv' = .slice a x.length cc ∧ Sl I' 1 encI a x.length cc x))
/-- What a day's search has left in the plan's block. -/
def KidQ (c : Cr) (last f : Nat) (pl : List Int) (fd : Bool) (pv' pv : Value) (I' : HMap) : Prop :=
  (fd = false ∧ (srch c last f pl).2 = none ∧ pv' = pv) ∨ (fd = true ∧ ∃ x a cc, (srch c last f pl).2 = some x ∧ pv' = .slice a x.length cc ∧ Sl I' 1 encI a x.length cc x)
theorem KidQ.no {c : Cr} {last f : Nat} {pl : List Int} {pv' pv : Value} {I : HMap} (h : KidQ c last f pl false pv' pv I) : (srch c last f pl).2 = none ∧ pv' = pv := by
  rcases h with h | ⟨h1, _⟩
  · exact h.2
  · cases h1
theorem KidQ.yes {c : Cr} {last f : Nat} {pl : List Int} {pv' pv : Value} {I : HMap} (h : KidQ c last f pl true pv' pv I) : ∃ x a cc, (srch c last f pl).2 = some x ∧ pv' = .slice a x.length cc ∧ Sl I 1 encI a x.length cc x := by
  rcases h with h | ⟨_, h⟩
  · cases h.1
  · exact h
/-- The days so far: none gave a plan. -/
def GoQ (c : Cr) (last f : Nat) (pl : List Int) (d : Nat) (ks : List Pr) : Prop := srch c last (f + 1) pl = goS (fun d => srch c last f (pl ++ [(d : Int)])) (last - d) d ks
theorem goQ_0 {c : Cr} {last f : Nat} {pl : List Int} (h : brkL c pl = []) : GoQ c last f pl 0 [] := by unfold GoQ; rw [srch_step h, Nat.sub_zero]
theorem goQ_no {c : Cr} {last f : Nat} {pl : List Int} {d : Nat} {ks : List Pr} (h : GoQ c last f pl d ks) (hd : d < last) (hn : (srch c last f (pl ++ [(d : Int)])).2 = none) : GoQ c last f pl (d + 1) (ks ++ [(srch c last f (pl ++ [(d : Int)])).1]) := by
  unfold GoQ at *
  rw [h, show last - d = (last - (d + 1)) + 1 by omega, goS_none (g := fun d => srch c last f (pl ++ [(d : Int)])) hn]
theorem goQ_yes {c : Cr} {last f : Nat} {pl : List Int} {d : Nat} {ks : List Pr} {x : List Int} (h : GoQ c last f pl d ks) (hd : d < last) (hn : (srch c last f (pl ++ [(d : Int)])).2 = some x) : srch c last (f + 1) pl = (.mk 0 0 0 ks, some x) := by
  unfold GoQ at h
  rw [h, show last - d = (last - (d + 1)) + 1 by omega, goS_some (g := fun d => srch c last f (pl ++ [(d : Int)])) hn]
theorem goQ_end {c : Cr} {last f : Nat} {pl : List Int} {d : Nat} {ks : List Pr} (h : GoQ c last f pl d ks) (hd : last ≤ d) : srch c last (f + 1) pl = (.mk 0 0 0 ks, none) := by
  unfold GoQ at h
  rw [h, show last - d = 0 by omega]; rfl
end Go.Proofs.YtclkmnidgdkekaaGreat
end
section
namespace Go.Proofs.YtclkmnidgdkekaaGreat
open Go Go.Kn Go.Proofs
theorem w_leaf (I : HMap) (b : Br) : RetV Tryz.prog 73 [encBrA b] I (encPHA ⟨b.r, b.d, b.w, none, 0, 0⟩) := by
 intro g H w hw
 refine enter Tryz.func73 rfl Tryz.ntmps73 rfl hw ?_
 refine zR ?_
 refine XO_box rfl rfl rfl (fun b_1 => ?_)
 refine XO_alloc zt_49 rfl rfl (fun b_2 => ?_)
 refine zN (zR ?_)
 refine zF fld_98_0 ?_
 refine zL sct_3 ?_
 refine zF fld_98_1 ?_
 refine zL sct_3 ?_
 refine zF fld_98_2 ?_
 refine zL sct_3 ?_
 refine zV (ev_buildL (ps := [(0, _), (1, _), (2, _)]) [_, _, _, _] plt_49 rfl rfl) ?_
 refine XO_storeA rfl rfl szt_49 rfl rfl rfl rfl (by repeat (first | exact Upd.here | apply Upd.there | apply upd_app)) ?_
 refine zN ?_
 refine X_ret ?_
 exact at_ret1L rfl rfl (.ag agt_49 (Cells.here (vs := encPH ⟨b.r, b.d, b.w, none, 0, 0⟩)) rfl) (fun w hw => ⟨rfl, hw.drop⟩)
theorem w_from_step {I : HMap} {x : CH} {cr : Cr} (hC : CrAt I x cr) (hr : rightF cr = true) (h16 : cr.days.length ≤ 16) (h8 : cr.ss.length ≤ 8) (hwh : ∀ s ∈ cr.ss, s.who.length ≤ 6) (hnd : ∀ s ∈ cr.ss, s.needs.length ≤ 100000) {bc bp bl bf last f : Nat} (hl9 : last ≤ cr.days.length) (hbc : ImmC I bc (.cells (encCH x).toArray 28 (0, 0))) (hbl : ImmC I bl (.cells #[.int .i64 last] 3 (0, 0))) (hbf : ImmC I bf (.cells #[.func (.func 72) #[] [capP bc, capP bp, capP bl, capP bf].toArray] 128 (0, 0))) {av : Option Addr} {n c : Nat} {pl : List Int} (hS : Sl I 1 encI av n c pl) (hlen : pl.length + f = cr.ss.length) (hin : InR cr pl) (pv : Value) (ih : ∀ f', f = f' + 1 → ∀ (I' : HMap), HLe I I' → ∀ (av' : Option Addr) (n' c' : Nat) (pl' : List Int), Sl I' 1 encI av' n' c' pl' → pl'.length + f' = cr.ss.length → InR cr pl' → ∀ (pv' : Value), RetM Tryz.prog 72 ([.slice av' n' c'] ++ [capP bc, capP bp, capP bl, capP bf]) I' [(bp, .cells #[pv'] 24 (0, 0))] (SrQ cr last f' pl' bp 24 pv')) : RetM Tryz.prog 72 [.slice av n c, capP bc, capP bp, capP bl, capP bf] I [(bp, .cells #[pv] 24 (0, 0))] (SrQ cr last f pl bp 24 pv) := by
 intro g H w hw
 refine enter Tryz.func72 rfl Tryz.ntmps72 rfl hw ?_
 have hIc := HLe.refl I
 have hlP := hS.len
 have hlS : cr.ss.length = x.n2 := hC.2.2.2.2.2.len
 refine zR ?_
 refine XO_alloc zt_49 rfl rfl (fun b_6 => ?_)
 refine zA ?_
 refine zN ?_
 refine X_scope ?_
 refine X_seq ?_
 refine zR ?_
 refine zV (ev_loadA rfl agt_28 (fun hg => by exact Cells.immC hbc) rfl) ?_
 refine zM ?_
 refine XO_callM (cap := []) (vs := [_, _]) rfl rfl fun_44 .nil (w_broken hC hr h16 h8 hwh hnd hS (by omega) hin) rfl rfl ?_
 rintro vv1 I1 L1 hI1 ⟨rfl, ab9, cb9, rfl, hB9⟩
 have hC := hC.mono hI1; have hS := hS.mono hI1; have hbc := hbc.mono hI1; have hbl := hbl.mono hI1; have hbf := hbf.mono hI1; have hIc := hIc.trans hI1
 rw [List.nil_append]
 refine zA ?_
 refine zN (zR ?_)
 refine zM ?_
 refine zQ slt_96 ?_
 refine zC ?_
 refine zN ?_
 refine zI ?_ ?_ <;> intro hc17
 ·
  obtain ⟨b0, l0, hbl0⟩ : ∃ b l, brkL cr pl = b :: l := by cases e9 : brkL cr pl with | nil => rw [e9] at hc17; simp at hc17 | cons b l => exact ⟨b, l, rfl⟩
  have hb0 : (brkL cr pl)[0]? = some b0 := by rw [hbl0]; rfl
  have hbn : 0 < (brkL cr pl).length := by rw [hbl0]; simp
  refine zR ?_
  refine zM ?_
  refine zV (ev_indexSl rfl rfl slt_96 (by assumption) (fun hg => by omega)) ?_
  refine zV (ev_loadA rfl agt_98 (fun hg => by exact Sl.getA hB9 hb0) rfl) ?_
  refine XO_callV0 (cap := []) (vs := [_]) rfl rfl fun_73 (w_leaf _ _) rfl rfl ?_
  refine XO_storeA rfl rfl szt_49 rfl rfl rfl rfl (by repeat (first | exact Upd.here | apply Upd.there | apply upd_app)) ?_
  refine zA ?_
  refine zN ?_
  refine X_ret ?_
  refine at_then_r ?_
  refine at_scope_r ?_
  first
  | exact at_ret2A rfl rfl rfl agt_49 (Cells.here (vs := encPH ⟨b0.r, b0.d, b0.w, none, 0, 0⟩)) rfl (fun w hw => ⟨_, I1, _, rfl, hIc, hw.subL (.drop .refl), ⟨b0.r, b0.d, b0.w, none, 0, 0⟩, pv, false, rfl, rfl, by rw [srch_leaf hbl0]; exact PrAt.leaf b0, .inl ⟨rfl, by rw [srch_leaf hbl0], rfl⟩⟩)
 have hnil : brkL cr pl = [] := by cases e9 : brkL cr pl with | nil => rfl | cons b l => rw [e9] at hc17; simp at hc17
 refine X_skip ?_
 refine at_then ?_
 refine X_seq ?_
 refine zR ?_
 refine zM ?_
 refine zQ slt_24 ?_
 refine zF fld_28_5 ?_
 refine zV (ev_load rfl sct_26 (fun hg => by exact Cell.imm hbc rfl)) ?_
 refine zQ slt_26 ?_
 refine zC ?_
 refine zN ?_
 refine zI ?_ ?_ <;> intro hc27
 ·
  obtain rfl : f = 0 := by have h := hc27; simp at h; omega
  refine zR ?_
  refine zM ?_
  refine XO_callM (cap := []) (vs := [_]) rfl rfl fun_74 .nil (w_cloneI hS (by omega)) rfl rfl ?_
  rintro vv2 I2 L2 hI2 ⟨rfl, hO9⟩
  have hC := hC.mono hI2; have hS := hS.mono hI2; have hbc := hbc.mono hI2; have hbl := hbl.mono hI2; have hbf := hbf.mono hI2; have hB9 := hB9.mono hI2; have hIc := hIc.trans hI2
  obtain ⟨L9, hL9⟩ : ∃ L9, L9 = L2 := ⟨_, rfl⟩
  subst hL9
  obtain ⟨v8, hv8⟩ : ∃ v8, v8 = vv2 := ⟨_, rfl⟩
  subst hv8
  refine XO_store rfl rfl szt_24 hO9.one rfl (by repeat (first | exact Upd.here | apply Upd.there | apply upd_app)) rfl ?_
  refine zN (zR ?_)
  refine zV (ev_loadA rfl agt_49 (fun hg => by (repeat (first | exact Cells.here | exact Cells.s0 (vs := [_, _, _, _]) rfl | apply Cells.there | apply Cells.app))) rfl) ?_
  refine XO_storeA rfl rfl szt_49 rfl rfl rfl rfl (by repeat (first | exact Upd.here | apply Upd.there | apply upd_app)) ?_
  refine zA ?_
  refine zN ?_
  refine X_ret ?_
  refine at_then_r ?_
  refine at_scope_r ?_
  first
  | exact at_freezeO hO9 encI_len (by decide) (by repeat (first | exact .cons .here .nil | exact split_all | exact split_app | apply split_cons | apply split_skip)) (fun I7 hI7 a7 c7 e7 hS7 => by subst e7; exact at_ret2A rfl rfl rfl agt_49 (Cells.here (vs := encPH ⟨0, 0, 0, none, 0, 0⟩)) rfl (fun w hw => ⟨_, I7, _, rfl, hIc.trans hI7, hw.subL (.drop .refl), ⟨0, 0, 0, none, 0, 0⟩, _, true, rfl, rfl, by rw [srch_full hnil]; exact PrAt.node Sl.nil PrsAt.nil, .inr ⟨rfl, pl, a7, c7, by rw [srch_full hnil], by rw [hlP], by rw [hlP]; exact hS7⟩⟩))
 obtain ⟨f', rfl⟩ : ∃ f', f = f' + 1 := ⟨f - 1, by have h := hc27; simp at h; omega⟩
 refine X_skip ?_
 refine at_then ?_
 refine X_seq ?_
 refine X_label ?_
 refine at_then ?_
 refine X_seq ?_
 refine X_seq ?_
 refine X_perm [(bp, .cells #[pv] 24 (0, 0)), (b_6, .cells #[.int .i64 0, .int .i64 0, .int .i64 0, .slice none 0 0] 49 (0, 0))] (List.Perm.swap _ _ _) ?_
 refine X_region ?_
 refine zV (ev_load rfl sct_3 (fun hg => by exact Cell.imm hbl rfl)) ?_
 refine zM ?_
 refine zN ?_
 refine X_block ?_
 refine X_loopT [(0, _), (4, _), (6, _), (31, _)] (.cons rfl (.cons rfl (.cons rfl (.cons rfl .nil)))) (fun T L0 mz E I' loc' => ∃ (d : Nat) (v : Value) (q : Nat) (L : Go.Kn.Loc) (hs : List PH) (ks : List Pr), mz = last - d ∧ E = (7, .bool false) :: (32, .int .i64 d) :: T ∧ HLe I1 I' ∧ L ++ [(bp, .cells #[pv] 24 (0, 0)), (b_6, .cells #[.int .i64 0, .int .i64 0, .int .i64 0, v] 49 (0, 0))] = loc' ∧ d ≤ last ∧ OwnS 49 4 v q (hs.flatMap encPH) L ∧ q ≤ d ∧ PrsAt I' hs ks ∧ GoQ cr last f' pl d ks) _ _ _ _ ⟨0, _, 0, [], [], [], rfl, rfl, HLe.refl _, rfl, Nat.zero_le _, OwnS.nil, Nat.le_refl _, PrsAt.nil, goQ_0 hnil⟩ (.cons rfl (.cons rfl (.cons rfl (.cons rfl (.cons rfl (.cons rfl .nil)))))) (HLe.refl _) rfl ?_
 rintro mz E J3 loc' ⟨d, v, q, L, hs, ks, rfl, rfl, hJ, rfl, hd, hO, hq, hks, hgo⟩
 have hC := hC.mono hJ; have hS := hS.mono hJ; have hbc := hbc.mono hJ; have hbl := hbl.mono hJ; have hbf := hbf.mono hJ; have hB9 := hB9.mono hJ; have hIc := hIc.trans hJ
 have hB0 := hJ
 refine zR ?_
 refine zC ?_
 refine zN ?_
 refine X_seq ?_
 refine zI ?_ ?_ <;> intro hc33
 ·
  have hlt_d : d < last := by have h := hc33; simp at h; omega
  refine X_skip ?_
  refine at_then ?_
  refine X_seq ?_
  refine X_block ?_
  refine zR ?_
  refine zM ?_
  refine zA ?_
  refine zN ?_
  refine X_cutT [(0, _), (4, _), (6, _), (7, _), (31, _), (32, _)] (.cons rfl (.cons rfl (.cons rfl (.cons rfl (.cons rfl (.cons rfl .nil)))))) (fun T L0 E I' loc' => ∃ (b10 : Nat) (kh : PH) (kpv : Value) (kfd : Bool), E = (10, capP b10) :: (11, .bool kfd) :: T ∧ HLe J3 I' ∧ (b10, .cells (encPH kh).toArray 49 (0, 0)) :: (bp, .cells #[kpv] 24 (0, 0)) :: (L ++ [(b_6, .cells #[.int .i64 0, .int .i64 0, .int .i64 0, v] 49 (0, 0))]) = loc' ∧ PrAt I' kh (srch cr last f' (pl ++ [(d : Int)])).1 ∧ KidQ cr last f' (pl ++ [(d : Int)]) kfd kpv pv I') ?_ ?_
  ·
   have hKc10 := HLe.refl J3
   have hD := HLe.refl J3
   refine X_noP ?_
   refine X_drawS J3 [] mixed ?_
   refine zT 0 rfl (ev_load rfl sct_128 (fun hg => by exact Cell.imm hbf rfl)) hD ?_
   refine zT 1 rfl (ev_move rfl) hD ?_
   refine zT 2 rfl (ev_move rfl) hD ?_
   refine zT 3 rfl (ev_lenS rfl slt_24) hD ?_
   refine zT 4 rfl (ev_move rfl) hD ?_
   refine zT 5 rfl (ev_lenS rfl slt_24) hD ?_
   refine zT 6 rfl (ev_sliceM rfl rfl rfl slt_24 (fun _ => by have := hS.cap; omega)) hD ?_
   refine zT 7 rfl (ev_move rfl) hD ?_
   refine XD_two 8 14 rfl rfl (by kernel_rfl) ?_ ?_
   ·
    refine XO_buildSlice (ps := [(0, _)]) (m := [encI (d : Int)]) elt_24 rfl (.cons rfl (.nil)) rfl (by simp [encI_len]) (by decide) (by decide) rfl rfl (fun b_44 => ?_)
    refine XO_freeze (by repeat (first | exact Take.here | apply Take.there)) (fun I4 hI4 hb4 => ?_)
    have hC := hC.mono hI4; have hS := hS.mono hI4; have hbc := hbc.mono hI4; have hbl := hbl.mono hI4; have hbf := hbf.mono hI4; have hB9 := hB9.mono hI4; have hks := hks.mono hI4; have hIc := hIc.trans hI4; have hB0 := hB0.trans hI4; have hKc10 := hKc10.trans hI4; have hD := hD.trans hI4
    have hY := Sl.lit [(d : Int)] rfl encI_len (show I4 _ = some (Obj.cells (([(d : Int)] : List Int).flatMap encI).toArray 3 (0, 0)) from hb4)
    refine XO_nil ?_
    refine zD hD ?_
    refine XD_two 9 14 rfl rfl (by kernel_rfl) ?_ ?_
    ·
     refine XO_appendCut encI_len (by decide) rfl rfl elt_24 hS.cut hY (by omega) rfl rfl ?_
     intro I5 ac cc hI5 hZ
     have hC := hC.mono hI5; have hS := hS.mono hI5; have hbc := hbc.mono hI5; have hbl := hbl.mono hI5; have hbf := hbf.mono hI5; have hB9 := hB9.mono hI5; have hks := hks.mono hI5; have hY := hY.mono hI5; have hIc := hIc.trans hI5; have hB0 := hB0.trans hI5; have hKc10 := hKc10.trans hI5; have hD := hD.trans hI5
     refine XO_nil ?_
     refine zD hD ?_
     refine XD_two 10 14 rfl rfl (by kernel_rfl) ?_ ?_
     ·
      refine XO_callM (cap := [capP bc, capP bp, capP bl, capP bf]) (vs := [_]) rfl rfl fun_72 (by repeat (first | exact .cons .here .nil | exact split_all | exact split_app | apply split_cons | apply split_skip)) (ih f' rfl I5 hIc ac (n + 1) cc _ hZ (by rw [List.length_append, List.length_singleton]; omega) (fun e he => by rcases List.mem_append.1 he with he | he; exact hin e he; (rw [List.mem_singleton] at he; subst he; exact ⟨by omega, by omega⟩)) _) rfl rfl ?_
      rintro vv6 I6 L6 hI6 ⟨kh, kpv, kfd, rfl, rfl, hkp, hkq⟩
      have hC := hC.mono hI6; have hS := hS.mono hI6; have hbc := hbc.mono hI6; have hbl := hbl.mono hI6; have hbf := hbf.mono hI6; have hB9 := hB9.mono hI6; have hks := hks.mono hI6; have hY := hY.mono hI6; have hZ := hZ.mono hI6; have hIc := hIc.trans hI6; have hB0 := hB0.trans hI6; have hKc10 := hKc10.trans hI6
      have hD := hD.trans hI6
      have hkq := show KidQ cr last f' (pl ++ [(d : Int)]) kfd kpv pv _ from hkq
      refine XO_nil ?_
      refine zD hD ?_
      refine zT 11 rfl (ev_move rfl) hD ?_
      refine zT 12 rfl (ev_extract rfl rfl) hD ?_
      refine zT 13 rfl (ev_extract rfl rfl) hD ?_
      refine XD_one 14 rfl (by kernel_rfl) ?_
      refine XO_alloc zt_49 rfl rfl (fun b_10 => ?_)
      refine XO_nil ?_
      refine zD hD ?_
      refine XD_one 15 rfl (by kernel_rfl) ?_
      refine XO_storeA rfl rfl szt_49 rfl rfl rfl rfl (by repeat (first | exact Upd.here | apply Upd.there | apply upd_app)) ?_
      refine XO_nil ?_
      refine zD hD ?_
      refine zT 16 rfl (ev_assign rfl) hD ?_
      refine XD_done (by kernel_rfl) ?_
      refine at_noP ?_
      exact at_met2 _ _ ⟨b_10, kh, kpv, kfd, rfl, hKc10, rfl, hkp, hkq⟩ (.cons rfl (.cons rfl (.cons rfl (.cons rfl (.cons rfl (.cons rfl (.cons rfl (.cons rfl .nil)))))))) .refl
     refine XO_alloc zt_49 rfl rfl (fun b_10 => ?_)
     refine XO_nil ?_
     refine zD hD ?_
     refine XD_one 10 rfl (by kernel_rfl) ?_
     refine XO_callM (cap := [capP bc, capP bp, capP bl, capP bf]) (vs := [_]) rfl rfl fun_72 (by repeat (first | exact .cons .here .nil | exact split_all | exact split_app | apply split_cons | apply split_skip)) (ih f' rfl I5 hIc ac (n + 1) cc _ hZ (by rw [List.length_append, List.length_singleton]; omega) (fun e he => by rcases List.mem_append.1 he with he | he; exact hin e he; (rw [List.mem_singleton] at he; subst he; exact ⟨by omega, by omega⟩)) _) rfl rfl ?_
     rintro vv7 I7 L7 hI7 ⟨kh, kpv, kfd, rfl, rfl, hkp, hkq⟩
     have hC := hC.mono hI7; have hS := hS.mono hI7; have hbc := hbc.mono hI7; have hbl := hbl.mono hI7; have hbf := hbf.mono hI7; have hB9 := hB9.mono hI7; have hks := hks.mono hI7; have hY := hY.mono hI7; have hZ := hZ.mono hI7; have hIc := hIc.trans hI7; have hB0 := hB0.trans hI7; have hKc10 := hKc10.trans hI7
     have hD := hD.trans hI7
     have hkq := show KidQ cr last f' (pl ++ [(d : Int)]) kfd kpv pv _ from hkq
     refine XO_nil ?_
     refine zD hD ?_
     refine zT 11 rfl (ev_move rfl) hD ?_
     refine zT 12 rfl (ev_extract rfl rfl) hD ?_
     refine zT 13 rfl (ev_extract rfl rfl) hD ?_
     refine XD_one 15 rfl (by kernel_rfl) ?_
     refine XO_storeA rfl rfl szt_49 rfl rfl rfl rfl (by repeat (first | exact Upd.here | apply Upd.there | apply upd_app)) ?_
     refine XO_nil ?_
     refine zD hD ?_
     refine zT 16 rfl (ev_assign rfl) hD ?_
     refine XD_done (by kernel_rfl) ?_
     refine at_noP ?_
     exact at_metP _ _ _ ⟨b_10, kh, kpv, kfd, rfl, hKc10, rfl, hkp, hkq⟩ (.cons rfl (.cons rfl (.cons rfl (.cons rfl (.cons rfl (.cons rfl (.cons rfl (.cons rfl .nil)))))))) (List.Perm.swap _ _ _) .refl
    refine XO_alloc zt_49 rfl rfl (fun b_10 => ?_)
    refine XO_nil ?_
    refine zD hD ?_
    refine XD_one 9 rfl (by kernel_rfl) ?_
    refine XO_appendCut encI_len (by decide) rfl rfl elt_24 hS.cut hY (by omega) rfl rfl ?_
    intro I8 ac cc hI8 hZ
    have hC := hC.mono hI8; have hS := hS.mono hI8; have hbc := hbc.mono hI8; have hbl := hbl.mono hI8; have hbf := hbf.mono hI8; have hB9 := hB9.mono hI8; have hks := hks.mono hI8; have hY := hY.mono hI8; have hIc := hIc.trans hI8; have hB0 := hB0.trans hI8; have hKc10 := hKc10.trans hI8; have hD := hD.trans hI8
    refine XO_nil ?_
    refine zD hD ?_
    refine XD_one 10 rfl (by kernel_rfl) ?_
    refine XO_callM (cap := [capP bc, capP bp, capP bl, capP bf]) (vs := [_]) rfl rfl fun_72 (by repeat (first | exact .cons .here .nil | exact split_all | exact split_app | apply split_cons | apply split_skip)) (ih f' rfl I8 hIc ac (n + 1) cc _ hZ (by rw [List.length_append, List.length_singleton]; omega) (fun e he => by rcases List.mem_append.1 he with he | he; exact hin e he; (rw [List.mem_singleton] at he; subst he; exact ⟨by omega, by omega⟩)) _) rfl rfl ?_
    rintro vv9 I9 L9 hI9 ⟨kh, kpv, kfd, rfl, rfl, hkp, hkq⟩
    have hC := hC.mono hI9; have hS := hS.mono hI9; have hbc := hbc.mono hI9; have hbl := hbl.mono hI9; have hbf := hbf.mono hI9; have hB9 := hB9.mono hI9; have hks := hks.mono hI9; have hY := hY.mono hI9; have hZ := hZ.mono hI9; have hIc := hIc.trans hI9; have hB0 := hB0.trans hI9; have hKc10 := hKc10.trans hI9
    have hD := hD.trans hI9
    have hkq := show KidQ cr last f' (pl ++ [(d : Int)]) kfd kpv pv _ from hkq
    refine XO_nil ?_
    refine zD hD ?_
    refine zT 11 rfl (ev_move rfl) hD ?_
    refine zT 12 rfl (ev_extract rfl rfl) hD ?_
    refine zT 13 rfl (ev_extract rfl rfl) hD ?_
    refine XD_one 15 rfl (by kernel_rfl) ?_
    refine XO_storeA rfl rfl szt_49 rfl rfl rfl rfl (by repeat (first | exact Upd.here | apply Upd.there | apply upd_app)) ?_
    refine XO_nil ?_
    refine zD hD ?_
    refine zT 16 rfl (ev_assign rfl) hD ?_
    refine XD_done (by kernel_rfl) ?_
    refine at_noP ?_
    exact at_metP _ _ _ ⟨b_10, kh, kpv, kfd, rfl, hKc10, rfl, hkp, hkq⟩ (.cons rfl (.cons rfl (.cons rfl (.cons rfl (.cons rfl (.cons rfl (.cons rfl (.cons rfl .nil)))))))) (List.Perm.swap _ _ _) .refl
   refine XO_alloc zt_49 rfl rfl (fun b_10 => ?_)
   refine XO_nil ?_
   refine zD hD ?_
   refine XD_one 8 rfl (by kernel_rfl) ?_
   refine XO_buildSlice (ps := [(0, _)]) (m := [encI (d : Int)]) elt_24 rfl (.cons rfl (.nil)) rfl (by simp [encI_len]) (by decide) (by decide) rfl rfl (fun b_44 => ?_)
   refine XO_freeze (by repeat (first | exact Take.here | apply Take.there)) (fun I10 hI10 hb10 => ?_)
   have hC := hC.mono hI10; have hS := hS.mono hI10; have hbc := hbc.mono hI10; have hbl := hbl.mono hI10; have hbf := hbf.mono hI10; have hB9 := hB9.mono hI10; have hks := hks.mono hI10; have hIc := hIc.trans hI10; have hB0 := hB0.trans hI10; have hKc10 := hKc10.trans hI10; have hD := hD.trans hI10
   have hY := Sl.lit [(d : Int)] rfl encI_len (show I10 _ = some (Obj.cells (([(d : Int)] : List Int).flatMap encI).toArray 3 (0, 0)) from hb10)
   refine XO_nil ?_
   refine zD hD ?_
   refine XD_one 9 rfl (by kernel_rfl) ?_
   refine XO_appendCut encI_len (by decide) rfl rfl elt_24 hS.cut hY (by omega) rfl rfl ?_
   intro I11 ac cc hI11 hZ
   have hC := hC.mono hI11; have hS := hS.mono hI11; have hbc := hbc.mono hI11; have hbl := hbl.mono hI11; have hbf := hbf.mono hI11; have hB9 := hB9.mono hI11; have hks := hks.mono hI11; have hY := hY.mono hI11; have hIc := hIc.trans hI11; have hB0 := hB0.trans hI11; have hKc10 := hKc10.trans hI11; have hD := hD.trans hI11
   refine XO_nil ?_
   refine zD hD ?_
   refine XD_one 10 rfl (by kernel_rfl) ?_
   refine XO_callM (cap := [capP bc, capP bp, capP bl, capP bf]) (vs := [_]) rfl rfl fun_72 (by repeat (first | exact .cons .here .nil | exact split_all | exact split_app | apply split_cons | apply split_skip)) (ih f' rfl I11 hIc ac (n + 1) cc _ hZ (by rw [List.length_append, List.length_singleton]; omega) (fun e he => by rcases List.mem_append.1 he with he | he; exact hin e he; (rw [List.mem_singleton] at he; subst he; exact ⟨by omega, by omega⟩)) _) rfl rfl ?_
   rintro vv12 I12 L12 hI12 ⟨kh, kpv, kfd, rfl, rfl, hkp, hkq⟩
   have hC := hC.mono hI12; have hS := hS.mono hI12; have hbc := hbc.mono hI12; have hbl := hbl.mono hI12; have hbf := hbf.mono hI12; have hB9 := hB9.mono hI12; have hks := hks.mono hI12; have hY := hY.mono hI12; have hZ := hZ.mono hI12; have hIc := hIc.trans hI12; have hB0 := hB0.trans hI12; have hKc10 := hKc10.trans hI12
   have hD := hD.trans hI12
   have hkq := show KidQ cr last f' (pl ++ [(d : Int)]) kfd kpv pv _ from hkq
   refine XO_nil ?_
   refine zD hD ?_
   refine zT 11 rfl (ev_move rfl) hD ?_
   refine zT 12 rfl (ev_extract rfl rfl) hD ?_
   refine zT 13 rfl (ev_extract rfl rfl) hD ?_
   refine XD_one 15 rfl (by kernel_rfl) ?_
   refine XO_storeA rfl rfl szt_49 rfl rfl rfl rfl (by repeat (first | exact Upd.here | apply Upd.there | apply upd_app)) ?_
   refine XO_nil ?_
   refine zD hD ?_
   refine zT 16 rfl (ev_assign rfl) hD ?_
   refine XD_done (by kernel_rfl) ?_
   refine at_noP ?_
   exact at_metP _ _ _ ⟨b_10, kh, kpv, kfd, rfl, hKc10, rfl, hkp, hkq⟩ (.cons rfl (.cons rfl (.cons rfl (.cons rfl (.cons rfl (.cons rfl (.cons rfl (.cons rfl .nil)))))))) (List.Perm.swap _ _ _) .refl
  rintro E J13 loc' ⟨b10, kh, kpv, kfd, rfl, hJ, rfl, hkp, hkq⟩
  have hC := hC.mono hJ; have hS := hS.mono hJ; have hbc := hbc.mono hJ; have hbl := hbl.mono hJ; have hbf := hbf.mono hJ; have hB9 := hB9.mono hJ; have hks := hks.mono hJ; have hIc := hIc.trans hJ; have hB0 := hB0.trans hJ
  refine X_seq ?_
  refine zR ?_
  refine zM ?_
  refine zN ?_
  refine zI ?_ ?_ <;> intro hc49
  ·
   have hkf : kfd = true := hc49
   subst hkf
   obtain ⟨x9, a9, c9, hx9, rfl, hsx⟩ := hkq.yes
   refine zR ?_
   refine zA ?_
   refine zN ?_
   refine X_exit ?_
   refine at_then_e ?_
   refine at_block_miss rfl ?_
   refine at_then_e ?_
   refine at_then_e ?_
   refine at_block_hit ?_
   refine at_then ?_
   refine zR ?_
   refine zV (ev_loadA rfl agt_49 (fun hg => by (repeat (first | exact Cells.here | exact Cells.s0 (vs := [_, _, _, _]) rfl | apply Cells.there | apply Cells.app))) rfl) ?_
   refine zM ?_
   refine XO_storeA rfl rfl szt_49 rfl rfl (show allOne [.int .i64 0, .int .i64 0, .int .i64 0, v] = true from by obtain ⟨va, vm, vc, hv⟩ := hO.val; rw [hv]; rfl) rfl (by repeat (first | exact Upd.here | apply Upd.there | apply upd_app)) ?_
   refine zA ?_
   refine zN ?_
   refine X_ret ?_
   refine at_scope_r ?_
   first
   | exact at_freezeO hO encPH_len (by decide) (by repeat (first | exact .cons .here .nil | exact split_all | exact split_app | apply split_cons | apply split_skip)) (fun I7 hI7 a7 c7 e7 hS7 => by subst e7; exact at_ret2A rfl rfl rfl agt_49 (vs := encPH ⟨0, 0, 0, a7, q, c7⟩) (by repeat (first | exact Cells.here | apply Cells.there | apply Cells.app)) rfl (fun w hw => ⟨_, I7, _, rfl, hIc.trans hI7, hw.subL (.drop (.keep subL_nil)), ⟨0, 0, 0, a7, q, c7⟩, _, true, rfl, rfl, by rw [goQ_yes hgo hlt_d hx9]; exact PrAt.node hS7 (hks.mono hI7), .inr ⟨rfl, x9, a9, c9, by rw [goQ_yes hgo hlt_d hx9], rfl, hsx.mono hI7⟩⟩))
  have hkf : kfd = false := hc49
  subst hkf
  have hkn := hkq.no
  obtain rfl := hkn.2
  refine X_skip ?_
  refine at_then ?_
  refine X_region ?_
  refine zF fld_49_3 ?_
  refine zV (ev_load rfl sct_47 (fun hg => by (repeat (first | exact Cell.here rfl | apply Cell.there | apply Cell.app)))) ?_
  refine zV (ev_loadA rfl agt_49 (fun hg => by (repeat (first | exact Cells.here | exact Cells.s0 (vs := [_, _, _, _]) rfl | apply Cells.there | apply Cells.app))) rfl) ?_
  refine XO_buildSlice (ps := [(0, _)]) (m := [encPH kh]) elt_47 rfl (.cons rfl (.nil)) rfl (by simp [encPH_len]) (by decide) (by decide) rfl rfl (fun b_53 => ?_)
  refine XO_append (v := _) (ys := [kh].flatMap encPH) (L := L) rfl rfl elt_47 hO (by repeat (first | exact .cons .here .nil | exact split_all | exact split_app | apply split_cons | apply split_skip)) ⟨rfl, fun _ => rfl, by repeat (first | exact Cells.here | apply Cells.there | apply Cells.app)⟩ (one_PH _) (by omega) rfl rfl ?_
  intro v9 L9 hO9 _; rw [← List.flatMap_append] at hO9
  refine zF fld_49_3 ?_
  refine XO_store rfl rfl szt_47 hO9.one rfl (by repeat (first | exact Upd.here | apply Upd.there | apply upd_app)) rfl ?_
  refine XO_nil ?_
  refine at_block_n ?_
  refine at_then ?_
  refine X_region ?_
  refine zB ?_
  refine zM ?_
  refine XO_nil ?_
  exact at_met2 _ _ ⟨last - (d + 1), by omega, d + 1, v9, q + 1, L9, _, _, rfl, rfl, hB0, rfl, by omega, hO9, by omega, hks.snoc hkp, goQ_no hgo hlt_d hkn.1⟩ (.cons rfl (.cons rfl (.cons rfl (.cons rfl (.cons rfl (.cons rfl .nil)))))) (by repeat (first | exact .refl | exact subL_left | refine subL_app ?_ | refine .drop ?_ | refine subL_add ?_))
 have hge_d : last ≤ d := by have h := hc33; simp at h; omega
 refine X_exit ?_
 refine at_then_e ?_
 refine at_then_e ?_
 refine at_block_hit ?_
 refine at_then ?_
 refine zR ?_
 refine zV (ev_loadA rfl agt_49 (fun hg => by (repeat (first | exact Cells.here | exact Cells.s0 (vs := [_, _, _, _]) rfl | apply Cells.there | apply Cells.app))) rfl) ?_
 refine zM ?_
 refine XO_storeA rfl rfl szt_49 rfl rfl (show allOne [.int .i64 0, .int .i64 0, .int .i64 0, v] = true from by obtain ⟨va, vm, vc, hv⟩ := hO.val; rw [hv]; rfl) rfl (by repeat (first | exact Upd.here | apply Upd.there | apply upd_app)) ?_
 refine zA ?_
 refine zN ?_
 refine X_ret ?_
 refine at_scope_r ?_
 first
 | exact at_freezeO hO encPH_len (by decide) (by repeat (first | exact .cons .here .nil | exact split_all | exact split_app | apply split_cons | apply split_skip)) (fun I7 hI7 a7 c7 e7 hS7 => by subst e7; exact at_ret2A rfl rfl rfl agt_49 (vs := encPH ⟨0, 0, 0, a7, q, c7⟩) (by repeat (first | exact Cells.here | apply Cells.there | apply Cells.app)) rfl (fun w hw => ⟨_, I7, _, rfl, hIc.trans hI7, hw.subL (.keep subL_nil), ⟨0, 0, 0, a7, q, c7⟩, pv, false, rfl, rfl, by rw [goQ_end hgo hge_d]; exact PrAt.node hS7 (hks.mono hI7), .inl ⟨rfl, by rw [goQ_end hgo hge_d], rfl⟩⟩))
end Go.Proofs.YtclkmnidgdkekaaGreat
end
section
namespace Go.Proofs.YtclkmnidgdkekaaGreat
open Go Go.Kn Go.Proofs
/-- What a call of search hands back. -/
def SchQ (c : Cr) (last : Nat) : Value → HMap → Go.Kn.Loc → Prop := fun v I' L' => L' = [] ∧ ∃ (pv : Value) (h : PH) (fd : Bool), v = .tuple #[pv, encPHA h, .bool fd] ∧ PrAt I' h (srch c last c.ss.length []).1 ∧ KidQ c last c.ss.length [] fd pv (.slice none 0 0) I'
def planO (c : Cr) : Bool := decide (chkC c = 0) && (planF c).isSome
def planL (c : Cr) : List Int := if chkC c = 0 then (match planF c with | some (_, x) => x | none => []) else []
def PlaQ (c : Cr) : Value → HMap → Go.Kn.Loc → Prop := fun v I' L' => L' = [] ∧ ∃ a cc, v = .tuple #[.slice a (planL c).length cc, .bool (planO c), .int .i64 (chkC c)] ∧ Sl I' 1 encI a (planL c).length cc (planL c)
theorem PlaQ.bad {c : Cr} {I : HMap} (h : chkC c ≠ 0) : PlaQ c (.tuple #[.slice none 0 0, .bool false, .int .i64 (chkC c)]) I [] := by
  have e1 : planL c = [] := by unfold planL; rw [if_neg h]
  have e2 : planO c = false := by unfold planO; rw [decide_eq_false h]; rfl
  refine ⟨rfl, none, 0, ?_, ?_⟩
  · rw [e1, e2]; rfl
  · rw [e1]; exact Sl.nil
theorem PlaQ.none {c : Cr} {I : HMap} (h : chkC c = 0) (hp : planF c = none) : PlaQ c (.tuple #[.slice none 0 0, .bool false, .int .i64 0]) I [] := by
  have e1 : planL c = [] := by unfold planL; rw [if_pos h, hp]
  have e2 : planO c = false := by unfold planO; rw [hp]; simp
  refine ⟨rfl, .none, 0, ?_, ?_⟩
  · rw [e1, e2, h]; rfl
  · rw [e1]; exact Sl.nil
theorem PlaQ.some {c : Cr} {I : HMap} {k : Nat} {x : List Int} {a : Option Addr} {cc : Nat} (h : chkC c = 0) (hp : planF c = .some (k, x)) (hS : Sl I 1 encI a x.length cc x) : PlaQ c (.tuple #[.slice a x.length cc, .bool true, .int .i64 0]) I [] := by
  have e1 : planL c = x := by unfold planL; rw [if_pos h, hp]
  have e2 : planO c = true := by unfold planO; rw [hp]; simp [h]
  refine ⟨rfl, a, cc, ?_, ?_⟩
  · rw [e1, e2, h]
  · rw [e1]; exact hS
/-- The errors of Refute and Accepts. -/
def lastE (c : Cr) (last : Int) : Int := if chkC c ≠ 0 then chkC c else if (decide (last < 0) || decide (last > (c.days.length : Int))) = true then 1 else 0
def refO (c : Cr) (last : Int) : Bool := decide (lastE c last = 0) && (srch c last.toNat c.ss.length []).2.isNone
def refP (c : Cr) (last : Int) : Pr := if refO c last = true then (srch c last.toNat c.ss.length []).1 else .mk 0 0 0 []
def accO (c : Cr) (last : Int) (p : Pr) : Bool := decide (lastE c last = 0) && provesF c last p []
def RefQ (c : Cr) (last : Int) : Value → HMap → Go.Kn.Loc → Prop := fun v I' L' => L' = [] ∧ ∃ h, v = .tuple #[encPHA h, .bool (refO c last), .int .i64 (lastE c last)] ∧ PrAt I' h (refP c last)
theorem lastE_1 {c : Cr} {last : Int} (h : chkC c ≠ 0) : lastE c last = chkC c := by unfold lastE; rw [if_pos h]
theorem lastE_2 {c : Cr} {last : Int} (h : chkC c = 0) (g : (decide (last < 0) || decide (last > (c.days.length : Int))) = true) : lastE c last = 1 := by unfold lastE; rw [if_neg (by omega), if_pos g]
theorem lastE_3 {c : Cr} {last : Int} (h : chkC c = 0) (g : (decide (last < 0) || decide (last > (c.days.length : Int))) = false) : lastE c last = 0 := by unfold lastE; rw [if_neg (by omega), if_neg (by rw [g]; decide)]
theorem RefQ.bad {c : Cr} {last e : Int} {I : HMap} (h : lastE c last = e) (he : e ≠ 0) : RefQ c last (.tuple #[encPHA ⟨0, 0, 0, none, 0, 0⟩, .bool false, .int .i64 e]) I [] := by
  have e1 : refO c last = false := by unfold refO; rw [h, decide_eq_false he]; rfl
  refine ⟨rfl, _, by rw [e1, h], ?_⟩
  unfold refP; rw [e1]; exact PrAt.node Sl.nil PrsAt.nil
theorem RefQ.found {c : Cr} {last : Int} {x : List Int} {I : HMap} (h : lastE c last = 0) (hx : (srch c last.toNat c.ss.length []).2 = some x) : RefQ c last (.tuple #[encPHA ⟨0, 0, 0, none, 0, 0⟩, .bool false, .int .i64 0]) I [] := by
  have e1 : refO c last = false := by unfold refO; rw [hx]; simp
  refine ⟨rfl, _, by rw [e1, h], ?_⟩
  unfold refP; rw [e1]; exact PrAt.node Sl.nil PrsAt.nil
theorem RefQ.good {c : Cr} {last : Int} {I : HMap} {k : PH} (h : lastE c last = 0) (hx : (srch c last.toNat c.ss.length []).2 = none) (hk : PrAt I k (srch c last.toNat c.ss.length []).1) : RefQ c last (.tuple #[encPHA k, .bool true, .int .i64 0]) I [] := by
  have e1 : refO c last = true := by unfold refO; rw [hx, h]; rfl
  refine ⟨rfl, k, by rw [e1, h], ?_⟩
  unfold refP; rw [e1]; exact hk
theorem chkC_0 {c : Cr} (h : chkC c = 0) : rightF c = true ∧ c.days.length ≤ 16 ∧ c.ss.length ≤ 8 ∧ (∀ s ∈ c.ss, s.who.length ≤ 6) ∧ plansF c ≤ 65536 := by
  unfold chkC at h
  split at h
  · cases h
  · rename_i h1
    have h1 : ((decide ((c.days.length : Int) > 16) || decide ((c.ss.length : Int) > 8)) || c.ss.any (fun s => decide ((s.who.length : Int) > 6))) = false := by simpa using h1
    obtain ⟨g1, g2, g3⟩ := chk_small h1
    split at h
    · rename_i h2
      split at h
      · cases h
      · exact ⟨h2, g1, g2, g3, by omega⟩
    · cases h
theorem provesL_bad {c : Cr} {last : Int} {ks : List Pr} {k : Nat} {pl : List Int} {p : Pr} (h : ks[k]? = some p) (hb : provesF c last p (pl ++ [(k : Int)]) = false) : provesL c last (ks.drop k) k pl = false := by rw [drop_cons h, provesL, hb]; rfl
theorem provesL_step {c : Cr} {last : Int} {ks : List Pr} {k : Nat} {pl : List Int} {p : Pr} (h : ks[k]? = some p) (hb : provesF c last p (pl ++ [(k : Int)]) = true) : provesL c last (ks.drop k) k pl = provesL c last (ks.drop (k + 1)) (k + 1) pl := by rw [drop_cons h, provesL, hb, Bool.true_and]
theorem provesL_end {c : Cr} {last : Int} {ks : List Pr} {k : Nat} {pl : List Int} (h : ks.length ≤ k) : provesL c last (ks.drop k) k pl = true := by rw [List.drop_eq_nil_of_le h, provesL]
theorem find_0 (c : Cr) : planF c = findL c (c.days.length + 1 - 0) 0 := rfl
theorem find_no {c : Cr} {k : Nat} (h : planF c = findL c (c.days.length + 1 - k) k) (hk : k < c.days.length + 1) (hn : (srch c k c.ss.length []).2 = none) : planF c = findL c (c.days.length + 1 - (k + 1)) (k + 1) := by
  rw [h, show c.days.length + 1 - k = (c.days.length + 1 - (k + 1)) + 1 by omega, findL_none hn]
theorem find_yes {c : Cr} {k : Nat} {x : List Int} (h : planF c = findL c (c.days.length + 1 - k) k) (hk : k < c.days.length + 1) (hn : (srch c k c.ss.length []).2 = some x) : planF c = some (k, x) := by
  rw [h, show c.days.length + 1 - k = (c.days.length + 1 - (k + 1)) + 1 by omega, findL_some hn]
theorem find_end {c : Cr} {k : Nat} (h : planF c = findL c (c.days.length + 1 - k) k) (hk : c.days.length + 1 ≤ k) : planF c = none := by
  rw [h, show c.days.length + 1 - k = 0 by omega]; rfl
end Go.Proofs.YtclkmnidgdkekaaGreat
end
section
namespace Go.Proofs.YtclkmnidgdkekaaGreat
open Go Go.Kn Go.Proofs
theorem w_from {I : HMap} {x : CH} {cr : Cr} (hC : CrAt I x cr) (hr : rightF cr = true) (h16 : cr.days.length ≤ 16) (h8 : cr.ss.length ≤ 8) (hwh : ∀ s ∈ cr.ss, s.who.length ≤ 6) (hnd : ∀ s ∈ cr.ss, s.needs.length ≤ 100000) {bc bp bl bf last f : Nat} (hl9 : last ≤ cr.days.length) (hbc : ImmC I bc (.cells (encCH x).toArray 28 (0, 0))) (hbl : ImmC I bl (.cells #[.int .i64 last] 3 (0, 0))) (hbf : ImmC I bf (.cells #[.func (.func 72) #[] [capP bc, capP bp, capP bl, capP bf].toArray] 128 (0, 0))) {av : Option Addr} {n c : Nat} {pl : List Int} (hS : Sl I 1 encI av n c pl) (hlen : pl.length + f = cr.ss.length) (hin : InR cr pl) (pv : Value) :
  RetM Tryz.prog 72 ([.slice av n c] ++ [capP bc, capP bp, capP bl, capP bf]) I [(bp, .cells #[pv] 24 (0, 0))] (SrQ cr last f pl bp 24 pv) := by
 induction f generalizing I av n c pl pv with
 | zero => exact w_from_step hC hr h16 h8 hwh hnd hl9 hbc hbl hbf hS hlen hin pv (fun f' e => by omega)
 | succ f ih => exact w_from_step hC hr h16 h8 hwh hnd hl9 hbc hbl hbf hS hlen hin pv (fun f' e I' hI' av' n' c' pl' hS' hlen' hin' pv' => by
   obtain rfl : f' = f := by omega
   exact ih (hC.mono hI') (hbc.mono hI') (hbl.mono hI') (hbf.mono hI') hS' hlen' hin' pv')
theorem w_search {I : HMap} {x : CH} {cr : Cr} (hC : CrAt I x cr) (hr : rightF cr = true) (h16 : cr.days.length ≤ 16) (h8 : cr.ss.length ≤ 8) (hwh : ∀ s ∈ cr.ss, s.who.length ≤ 6) (hnd : ∀ s ∈ cr.ss, s.needs.length ≤ 100000) (last : Nat) (hl9 : last ≤ cr.days.length) : RetM Tryz.prog 41 [encCHA x, .int .i64 last] I [] (SchQ cr last) := by
 intro g H w hw
 refine enter Tryz.func41 rfl Tryz.ntmps41 rfl hw ?_
 have hIc := HLe.refl I
 refine zR ?_
 refine XO_box rfl rfl rfl (fun b_2 => ?_)
 refine XO_box rfl rfl rfl (fun b_3 => ?_)
 refine XO_alloc zt_24 rfl rfl (fun b_4 => ?_)
 refine XO_alloc zt_49 rfl rfl (fun b_5 => ?_)
 refine zA ?_
 refine zN (zR ?_)
 refine XO_alloc zt_128 rfl rfl (fun b_7 => ?_)
 refine zN (zR ?_)
 refine zV (ev_makeFunc (us := []) (vs := [_, _, _, _]) rfl rfl) ?_
 refine zS szt_128 ?_
 refine zN ?_
 refine X_seq ?_
 refine X_freeze .here (fun I1 hI1 hb1 => ?_)
 have hC := hC.mono hI1; have hIc := hIc.trans hI1
 have h7 := ImmC.of hb1
 refine X_freeze (.there (.there .here)) (fun I2 hI2 hb2 => ?_)
 have hC := hC.mono hI2; have h7 := h7.mono hI2; have hIc := hIc.trans hI2
 have h3 := ImmC.of hb2
 refine X_freeze (.there (.there .here)) (fun I3 hI3 hb3 => ?_)
 have hC := hC.mono hI3; have h7 := h7.mono hI3; have h3 := h3.mono hI3; have hIc := hIc.trans hI3
 have h2 := ImmC.of hb3
 refine X_region ?_
 refine zV (ev_load rfl sct_128 (fun hg => by exact Cell.imm h7 rfl)) ?_
 refine XO_callM (cap := [capP b_2, capP b_4, capP b_3, capP b_7]) (vs := [_]) rfl rfl fun_72 (by repeat (first | exact .cons .here .nil | exact split_all | exact split_app | apply split_cons | apply split_skip)) (w_from (bp := b_4) (f := cr.ss.length) hC hr h16 h8 hwh hnd hl9 h2 h3 h7 (pl := []) Sl.nil (by simp) (fun e he => by cases he) _) rfl rfl ?_
 rintro vv4 I4 L4 hI4 ⟨kh, kpv, kfd, rfl, rfl, hkp, hkq⟩
 have hC := hC.mono hI4; have h7 := h7.mono hI4; have h3 := h3.mono hI4; have h2 := h2.mono hI4; have hIc := hIc.trans hI4
 have hkq := show KidQ cr last cr.ss.length [] kfd kpv (.slice none 0 0) _ from hkq
 refine zM ?_
 refine zE ?_
 refine zE ?_
 refine XO_storeA rfl rfl szt_49 rfl rfl rfl rfl (by repeat (first | exact Upd.here | apply Upd.there | apply upd_app)) ?_
 refine zA ?_
 refine XO_nil ?_
 have hk1 : kpv.oneCell' = true := by rcases hkq with ⟨_, _, h⟩ | ⟨_, x9, a9, c9, _, h, _⟩ <;> rw [h] <;> rfl
 refine at_then ?_
 refine X_seq ?_
 have hD := HLe.refl I4
 refine X_drawC mixed ?_
 refine zT 0 rfl (ev_load rfl sct_24 (fun hg => by (repeat (first | exact Cell.here rfl | apply Cell.there | apply Cell.app)))) hD ?_
 refine zT 1 rfl (ev_loadA rfl agt_49 (fun hg => by first | (repeat (first | exact Cells.here | exact Cells.s0 (vs := [_, _, _, _]) rfl | apply Cells.there | apply Cells.app))) rfl) hD ?_
 refine zT 2 rfl (ev_move rfl) hD ?_
 refine XD_one 3 rfl (by kernel_rfl) ?_
 refine XO_store rfl rfl szt_24 hk1 rfl (by repeat (first | exact Upd.here | apply Upd.there | apply upd_app)) rfl ?_
 refine XO_nil ?_
 refine zD hD ?_
 refine XD_one 4 rfl (by kernel_rfl) ?_
 refine XO_storeA rfl rfl szt_49 rfl rfl rfl rfl (by repeat (first | exact Upd.here | apply Upd.there | apply upd_app)) ?_
 refine XO_nil ?_
 refine zD hD ?_
 refine zT 5 rfl (ev_assign rfl) hD ?_
 refine XD_done (by kernel_rfl) ?_
 refine at_noP ?_
 refine at_then ?_
 refine X_ret ?_
 exact at_ret3LL rfl rfl rfl rfl (.sc sct_24 (by repeat (first | exact Cell.here rfl | apply Cell.there))) (.ag agt_49 (vs := encPH kh) (by repeat (first | exact Cells.here | apply Cells.there)) rfl) (fun w hw => ⟨_, I4, [], rfl, hIc, hw.drop, rfl, kpv, kh, kfd, rfl, hkp, hkq⟩)
theorem w_Plan {I : HMap} {x : CH} {cr : Cr} (hC : CrAt I x cr) (hnd : ∀ s ∈ cr.ss, s.needs.length ≤ 100000) : RetM Tryz.prog 12 [encCHA x] I [] (PlaQ cr) := by
 intro g H w hw
 refine enter Tryz.func12 rfl Tryz.ntmps12 rfl hw ?_
 have hIc := HLe.refl I
 have hlD : cr.days.length = x.n := hC.1.len
 refine zR ?_
 refine XO_box rfl rfl rfl (fun b_1 => ?_)
 refine zA ?_
 refine zA ?_
 refine zA ?_
 refine zN ?_
 refine X_seq ?_
 refine X_seq ?_
 refine X_freeze .here (fun I1 hI1 hb1 => ?_)
 have hC := hC.mono hI1; have hIc := hIc.trans hI1
 have h1 := ImmC.of hb1
 refine X_region ?_
 refine zV (ev_loadA rfl agt_28 (fun hg => by exact Cells.immC h1) rfl) ?_
 refine XO_callV0 (cap := []) (vs := [_]) rfl rfl fun_40 (w_chkC hC hnd) rfl rfl ?_
 refine zA ?_
 refine zN (zR ?_)
 refine zM ?_
 refine zC ?_
 refine zN ?_
 refine zI ?_ ?_ <;> intro hc9
 ·
  have hk0 : chkC cr ≠ 0 := by simpa using hc9
  refine zR ?_
  refine zM ?_
  refine zA ?_
  refine zA ?_
  refine zA ?_
  refine zN ?_
  refine X_ret ?_
  refine at_then_r ?_
  exact at_ret3 rfl rfl rfl rfl (fun w hw => ⟨_, I1, [], rfl, hIc, hw.drop, PlaQ.bad hk0⟩)
 have hk0 : chkC cr = 0 := by simpa using hc9
 obtain ⟨hr, h16, h8, hwh, hpl9⟩ := chkC_0 hk0
 refine X_skip ?_
 refine at_then ?_
 refine X_seq ?_
 refine zR ?_
 refine zF fld_28_0 ?_
 refine zV (ev_load rfl sct_24 (fun hg => by exact Cell.imm h1 rfl)) ?_
 refine zQ slt_24 ?_
 refine zB ?_
 refine zM ?_
 refine zN ?_
 refine X_block ?_
 refine X_loopT [(1, _), (14, _)] (.cons rfl (.cons rfl .nil)) (fun T L0 mz E I' loc' => ∃ (k : Nat), mz = x.n + 1 - k ∧ E = (15, .int .i64 k) :: T ∧ HLe I1 I' ∧ L0 = loc' ∧ k ≤ x.n + 1 ∧ planF cr = findL cr (cr.days.length + 1 - k) k) _ _ _ _ ⟨0, rfl, rfl, HLe.refl _, rfl, Nat.zero_le _, find_0 cr⟩ (.cons rfl (.cons rfl (.cons rfl .nil))) (HLe.refl _) rfl ?_
 rintro mz E J2 loc' ⟨k, rfl, rfl, hJ, rfl, hk, hpf⟩
 have hC := hC.mono hJ; have h1 := h1.mono hJ; have hIc := hIc.trans hJ
 have hB0 := hJ
 refine zR ?_
 refine zC ?_
 refine zN ?_
 refine X_seq ?_
 refine zI ?_ ?_ <;> intro hc16
 ·
  have hlt_k : k < x.n + 1 := by have h := hc16; simp at h; omega
  refine X_skip ?_
  refine at_then ?_
  refine X_seq ?_
  refine X_block ?_
  refine zR ?_
  refine zM ?_
  refine zA ?_
  refine zN (zR ?_)
  refine zV (ev_loadA rfl agt_28 (fun hg => by exact Cells.immC h1) rfl) ?_
  refine zM ?_
  refine XO_callM (cap := []) (vs := [_, _]) rfl rfl fun_41 .nil (w_search hC hr h16 h8 hwh hnd k (by omega)) rfl rfl ?_
  rintro vv3 I3 L3 hI3 ⟨rfl, kpv, kh, kfd, rfl, hkp, hkq⟩
  have hC := hC.mono hI3; have h1 := h1.mono hI3; have hIc := hIc.trans hI3; have hB0 := hB0.trans hI3
  rw [List.nil_append]
  refine zM ?_
  refine zE ?_
  refine zE ?_
  refine zE ?_
  refine zA ?_
  refine zA ?_
  refine zN (zR ?_)
  refine zM ?_
  refine zN ?_
  refine zI ?_ ?_ <;> intro hc25
  ·
   have hkf : kfd = true := hc25
   subst hkf
   obtain ⟨x9, a9, c9, hx9, rfl, hsx⟩ := hkq.yes
   refine zR ?_
   refine zM ?_
   refine zA ?_
   refine zA ?_
   refine zA ?_
   refine zN ?_
   refine X_ret ?_
   refine at_block_r ?_
   refine at_then_r ?_
   refine at_then_r ?_
   refine at_block_r ?_
   refine at_then_r ?_
   exact at_ret3 rfl rfl rfl rfl (fun w hw => ⟨_, I3, [], rfl, hIc, hw.drop, PlaQ.some hk0 (find_yes hpf (by omega) hx9) hsx⟩)
  have hkf : kfd = false := hc25
  subst hkf
  have hkn := hkq.no
  obtain rfl := hkn.2
  refine X_skip ?_
  refine at_block_n ?_
  refine at_then ?_
  refine X_region ?_
  refine zB ?_
  refine zM ?_
  refine XO_nil ?_
  exact at_met2 _ _ ⟨x.n + 1 - (k + 1), by omega, k + 1, rfl, rfl, hB0, rfl, by omega, find_no hpf (by omega) hkn.1⟩ (.cons rfl (.cons rfl (.cons rfl .nil))) (by repeat (first | exact .refl | exact subL_left | refine subL_app ?_ | refine .drop ?_ | refine subL_add ?_))
 have hge_k : x.n + 1 ≤ k := by have h := hc16; simp at h; omega
 refine X_exit ?_
 refine at_then_e ?_
 refine at_then_e ?_
 refine at_block_hit ?_
 refine at_then ?_
 refine zR ?_
 refine zA ?_
 refine zA ?_
 refine zA ?_
 refine zN ?_
 refine X_ret ?_
 exact at_ret3 rfl rfl rfl rfl (fun w hw => ⟨_, J2, [], rfl, hIc, hw.drop, PlaQ.none hk0 (find_end hpf (by omega))⟩)
theorem w_Refute {I : HMap} {x : CH} {cr : Cr} (hC : CrAt I x cr) (hnd : ∀ s ∈ cr.ss, s.needs.length ≤ 100000) (last : Int) : RetM Tryz.prog 13 [encCHA x, .int .i64 last] I [] (RefQ cr last) := by
 intro g H w hw
 refine enter Tryz.func13 rfl Tryz.ntmps13 rfl hw ?_
 have hIc := HLe.refl I
 have hlD : cr.days.length = x.n := hC.1.len
 refine zR ?_
 refine XO_box rfl rfl rfl (fun b_2 => ?_)
 refine XO_alloc zt_49 rfl rfl (fun b_4 => ?_)
 refine zA ?_
 refine zA ?_
 refine zN ?_
 refine X_seq ?_
 refine X_seq ?_
 refine X_freeze (.there .here) (fun I1 hI1 hb1 => ?_)
 have hC := hC.mono hI1; have hIc := hIc.trans hI1
 have h2 := ImmC.of hb1
 refine X_region ?_
 refine zV (ev_loadA rfl agt_28 (fun hg => by exact Cells.immC h2) rfl) ?_
 refine XO_callV0 (cap := []) (vs := [_]) rfl rfl fun_40 (w_chkC hC hnd) rfl rfl ?_
 refine zA ?_
 refine zN (zR ?_)
 refine zM ?_
 refine zC ?_
 refine zN ?_
 refine zI ?_ ?_ <;> intro hc13
 ·
  have hk0 : chkC cr ≠ 0 := by simpa using hc13
  refine zR ?_
  refine zV (ev_loadA rfl agt_49 (fun hg => by (repeat (first | exact Cells.here | exact Cells.s0 (vs := [_, _, _, _]) rfl | apply Cells.there | apply Cells.app))) rfl) ?_
  refine zM ?_
  refine XO_storeA rfl rfl szt_49 rfl rfl rfl rfl (by repeat (first | exact Upd.here | apply Upd.there | apply upd_app)) ?_
  refine zA ?_
  refine zA ?_
  refine zN ?_
  refine X_ret ?_
  refine at_then_r ?_
  exact at_ret3L rfl rfl rfl rfl (.ag agt_49 (vs := encPH ⟨0, 0, 0, none, 0, 0⟩) (by repeat (first | exact Cells.here | apply Cells.there | apply Cells.app)) rfl) (fun w hw => ⟨_, I1, [], rfl, hIc, hw.drop, RefQ.bad (lastE_1 hk0) hk0⟩)
 have hk0 : chkC cr = 0 := by simpa using hc13
 obtain ⟨hr, h16, h8, hwh, hpl9⟩ := chkC_0 hk0
 refine X_skip ?_
 refine at_then ?_
 refine X_seq ?_
 refine zR ?_
 refine zM ?_
 refine zC ?_
 refine zM ?_
 refine XO_pushF 2 rfl rfl rfl ?_
 refine zJ (ev_move rfl) ?_
 refine zJ (ev_fieldAddr rfl fld_28_0) ?_
 refine zJ (ev_load rfl sct_24 (fun hg => by exact Cell.imm h2 rfl)) ?_
 refine zJ (ev_lenS rfl slt_24) ?_
 refine zJ (ev_cmp rfl rfl rfl) ?_
 refine XO_or0 rfl rfl rfl rfl rfl ?_
 refine zN ?_
 refine zI ?_ ?_ <;> intro hc24
 ·
  have hb9 : (decide (last < 0) || decide (last > (cr.days.length : Int))) = true := by rw [hlD]; exact hc24
  refine zR ?_
  refine zV (ev_loadA rfl agt_49 (fun hg => by (repeat (first | exact Cells.here | exact Cells.s0 (vs := [_, _, _, _]) rfl | apply Cells.there | apply Cells.app))) rfl) ?_
  refine XO_storeA rfl rfl szt_49 rfl rfl rfl rfl (by repeat (first | exact Upd.here | apply Upd.there | apply upd_app)) ?_
  refine zA ?_
  refine zA ?_
  refine zN ?_
  refine X_ret ?_
  refine at_then_r ?_
  exact at_ret3L rfl rfl rfl rfl (.ag agt_49 (vs := encPH ⟨0, 0, 0, none, 0, 0⟩) (by repeat (first | exact Cells.here | apply Cells.there | apply Cells.app)) rfl) (fun w hw => ⟨_, I1, [], rfl, hIc, hw.drop, RefQ.bad (lastE_2 hk0 hb9) (by decide)⟩)
 have hb9 : (decide (last < 0) || decide (last > (cr.days.length : Int))) = false := by rw [hlD]; exact hc24
 have hl0 : 0 ≤ last ∧ last ≤ cr.days.length := by simp at hb9; omega
 refine X_skip ?_
 refine at_then ?_
 refine zR ?_
 refine zV (ev_loadA rfl agt_28 (fun hg => by exact Cells.immC h2) rfl) ?_
 refine zM ?_
 refine XO_callM (cap := []) (vs := [_, _]) rfl rfl fun_41 .nil ((show RetM Tryz.prog 41 [encCHA x, .int .i64 last] I1 [] (SchQ cr last.toNat) from by have h9 := w_search hC hr h16 h8 hwh hnd last.toNat (by omega); rw [Int.toNat_of_nonneg (by omega)] at h9; exact h9)) rfl rfl ?_
 rintro vv2 I2 L2 hI2 ⟨rfl, kpv, kh, kfd, rfl, hkp, hkq⟩
 have hC := hC.mono hI2; have h2 := h2.mono hI2; have hIc := hIc.trans hI2
 rw [List.nil_append]
 refine zM ?_
 refine zE ?_
 refine zE ?_
 refine zE ?_
 refine XO_alloc zt_49 rfl rfl (fun b_8 => ?_)
 refine zA ?_
 refine XO_storeA rfl rfl szt_49 rfl rfl rfl rfl (by repeat (first | exact Upd.here | apply Upd.there | apply upd_app)) ?_
 refine zA ?_
 refine zN ?_
 refine X_seq ?_
 refine zR ?_
 refine zM ?_
 refine zN ?_
 refine zI ?_ ?_ <;> intro hc33
 ·
  have hkf : kfd = true := hc33
  subst hkf
  obtain ⟨x9, a9, c9, hx9, rfl, hsx⟩ := hkq.yes
  refine zR ?_
  refine zV (ev_loadA rfl agt_49 (fun hg => by (repeat (first | exact Cells.here | exact Cells.s0 (vs := [_, _, _, _]) rfl | apply Cells.there | apply Cells.app))) rfl) ?_
  refine XO_storeA rfl rfl szt_49 rfl rfl rfl rfl (by repeat (first | exact Upd.here | apply Upd.there | apply upd_app)) ?_
  refine zA ?_
  refine zA ?_
  refine zN ?_
  refine X_ret ?_
  refine at_then_r ?_
  exact at_ret3L rfl rfl rfl rfl (.ag agt_49 (vs := encPH ⟨0, 0, 0, none, 0, 0⟩) (by repeat (first | exact Cells.here | apply Cells.there | apply Cells.app)) rfl) (fun w hw => ⟨_, I2, [], rfl, hIc, hw.drop, RefQ.found (lastE_3 hk0 hb9) hx9⟩)
 have hkf : kfd = false := hc33
 subst hkf
 have hkn := hkq.no
 obtain rfl := hkn.2
 refine X_skip ?_
 refine at_then ?_
 refine zR ?_
 refine zV (ev_loadA rfl agt_49 (fun hg => by (repeat (first | exact Cells.here | exact Cells.s0 (vs := [_, _, _, _]) rfl | apply Cells.there | apply Cells.app))) rfl) ?_
 refine XO_storeA rfl rfl szt_49 rfl rfl rfl rfl (by repeat (first | exact Upd.here | apply Upd.there | apply upd_app)) ?_
 refine zA ?_
 refine zA ?_
 refine zN ?_
 refine X_ret ?_
 exact at_ret3L rfl rfl rfl rfl (.ag agt_49 (vs := encPH kh) (by repeat (first | exact Cells.here | apply Cells.there | apply Cells.app)) rfl) (fun w hw => ⟨_, I2, [], rfl, hIc, hw.drop, RefQ.good (lastE_3 hk0 hb9) hkn.1 hkp⟩)
end Go.Proofs.YtclkmnidgdkekaaGreat
end
section
namespace Go.Proofs.YtclkmnidgdkekaaGreat
open Go Go.Kn Go.Proofs
theorem any_contI (xs : List Int) (v : Int) : xs.contains v = xs.any fun y => y == v := by
  rw [Bool.eq_iff_iff, List.any_eq_true, List.contains_iff_mem]
  constructor
  · intro h; exact ⟨v, h, by simp⟩
  · rintro ⟨x, hx, h⟩; rw [beq_iff_eq] at h; subst h; exact hx
theorem beq_symmI (a b : Int) : (a == b) = (b == a) := by
  rw [Bool.eq_iff_iff, beq_iff_eq, beq_iff_eq]; exact eq_comm
theorem brEq (v x : Br) : (v.r == x.r && (v.d == x.d && (v.w == x.w && true))) = decide (v = x) := by
  rw [Bool.eq_iff_iff, decide_eq_true_eq]; obtain ⟨r, d, w⟩ := v; obtain ⟨r', d', w'⟩ := x; simp
theorem any_cont (bs : List Br) (v : Br) : (bs.any fun x => decide (v = x)) = bs.contains v := by
  rw [Bool.eq_iff_iff, List.any_eq_true, List.contains_iff_mem]
  constructor
  · rintro ⟨x, hx, h⟩; rw [decide_eq_true_eq] at h; subst h; exact hx
  · intro h; exact ⟨v, h, by simp⟩
theorem nat_beq (a b : Nat) : (a == b) = (((a : Nat) : Int) == (b : Int)) := by
  rw [Bool.eq_iff_iff, beq_iff_eq, beq_iff_eq]; omega
theorem nat_beq0 {ks : List Pr} {n : Nat} (h : ks.length = n) : ((n : Int) == 0) = (ks.length == 0) := by
  rw [Bool.eq_iff_iff, beq_iff_eq, beq_iff_eq]; omega
mutual
/-- No proof in a proof has more than a hundred thousand kids. -/
def smlP : Pr → Prop
  | .mk _ _ _ ks => ks.length ≤ 100000 ∧ smlL ks
def smlL : List Pr → Prop
  | [] => True
  | k :: ks => smlP k ∧ smlL ks
end
theorem smlL_mem : ∀ {ks : List Pr}, smlL ks → ∀ {k : Pr}, k ∈ ks → smlP k
  | [], _, k, h => by cases h
  | a :: ks, H, k, h => by
    unfold smlL at H
    rcases List.mem_cons.1 h with rfl | h
    · exact H.1
    · exact smlL_mem H.2 h
end Go.Proofs.YtclkmnidgdkekaaGreat
end
section
namespace Go.Proofs.YtclkmnidgdkekaaGreat
open Go Go.Kn Go.Proofs
theorem w_ixB {I : HMap} {av : Option Addr} {n c : Nat} {bs : List Br} (hS : Sl I 3 encBr av n c bs) (hn : n ≤ 100000) (v : Br) : RetV Tryz.prog 75 [.slice av n c, encBrA v] I (.int .i64 (idxF (fun x => decide (v = x)) bs)) := by
 intro g H w hw
 refine enter Tryz.func75 rfl Tryz.ntmps75 rfl hw ?_
 have hIc := HLe.refl I
 refine zR ?_
 refine XO_box rfl rfl rfl (fun b_3 => ?_)
 refine zA ?_
 refine zN ?_
 refine X_seq ?_
 refine X_seq ?_
 refine X_freeze .here (fun I1 hI1 hb1 => ?_)
 have hS := hS.mono hI1; have hIc := hIc.trans hI1
 have h3 := ImmC.of hb1
 refine X_region ?_
 refine zM ?_
 refine zQ slt_96 ?_
 refine zM ?_
 refine zN ?_
 refine X_block ?_
 refine X_loopT [(0, _), (3, _), (7, _)] (.cons rfl (.cons rfl (.cons rfl .nil))) (fun T L0 mz E I' loc' => ∃ (k : Nat), mz = n - k ∧ E = (8, .int .i64 k) :: T ∧ I1 = I' ∧ L0 = loc' ∧ k ≤ n ∧ (bs.take k).any (fun x => decide (v = x)) = false) _ _ _ _ ⟨0, rfl, rfl, rfl, rfl, Nat.zero_le _, rfl⟩ (.cons rfl (.cons rfl (.cons rfl (.cons rfl .nil)))) (HLe.refl _) rfl ?_
 rintro mz E I' loc' ⟨k, rfl, rfl, rfl, rfl, hk, hno⟩
 refine zR ?_
 refine zC ?_
 refine zN ?_
 refine X_seq ?_
 refine zI ?_ ?_ <;> intro hc9
 ·
  have hlt_k : k < n := by have h := hc9; simp at h; omega
  obtain ⟨x, hx⟩ := hS.at hlt_k
  refine X_skip ?_
  refine at_then ?_
  refine X_seq ?_
  refine X_block ?_
  refine zR ?_
  refine zM ?_
  refine zA ?_
  refine zN ?_
  refine X_seq ?_
  refine X_draw mixed (by kernel_rfl) ?_
  refine XQ_v0 (ev_loadA rfl agt_98 (fun hg => by exact Cells.immC h3) rfl) rfl rfl rfl ?_
  refine XQ_v0 (ev_move rfl) rfl rfl rfl ?_
  refine XQ_v0 (ev_move rfl) rfl rfl rfl ?_
  refine XQ_v0 (ev_indexSl rfl rfl slt_96 (by assumption) (fun hg => by omega)) rfl rfl rfl ?_
  refine XQ_v0 (ev_loadA rfl agt_98 (fun hg => by exact Sl.getA hS hx) rfl) rfl rfl rfl ?_
  refine XQ_v0 (v := .bool (decide (v = x))) (ev_eqS (us := encBr v) (vs := encBr x) rfl rfl eqt_98 ((show eqKs _ (encBr v) (encBr x) = some (v.r == x.r && (v.d == x.d && (v.w == x.w && true))) from rfl).trans (congrArg some (brEq v x)))) rfl rfl rfl ?_
  refine XQ_nil ?_
  refine at_then ?_
  refine zI ?_ ?_ <;> intro hc16
  ·
   refine zR ?_
   refine zM ?_
   refine zA ?_
   refine zN ?_
   refine X_ret ?_
   refine at_block_r ?_
   refine at_then_r ?_
   refine at_then_r ?_
   refine at_block_r ?_
   refine at_then_r ?_
   exact at_ret1 rfl rfl (fun w hw => ⟨by rw [idx_hit hno hx hc16], (hw.mono hIc).drop⟩)
  refine X_skip ?_
  refine at_block_n ?_
  refine at_then ?_
  refine X_region ?_
  refine zB ?_
  refine zM ?_
  refine XO_nil ?_
  exact at_met2 _ _ ⟨n - (k + 1), by omega, k + 1, rfl, rfl, rfl, rfl, by omega, any_no hx hno hc16⟩ (.cons rfl (.cons rfl (.cons rfl (.cons rfl .nil)))) (by repeat (first | exact .refl | exact subL_left | refine subL_app ?_ | refine .drop ?_ | refine subL_add ?_))
 have hge_k : n ≤ k := by have h := hc9; simp at h; omega
 refine X_exit ?_
 refine at_then_e ?_
 refine at_then_e ?_
 refine at_block_hit ?_
 refine at_then ?_
 refine zR ?_
 refine zA ?_
 refine zN ?_
 refine X_ret ?_
 exact at_ret1 rfl rfl (fun w hw => ⟨by rw [idx_none hS.len hge_k hno], (hw.mono hIc).drop⟩)
theorem w_cnB {I : HMap} {av : Option Addr} {n c : Nat} {bs : List Br} (hS : Sl I 3 encBr av n c bs) (hn : n ≤ 100000) (v : Br) : RetV Tryz.prog 43 [.slice av n c, encBrA v] I (.bool (bs.contains v)) := by
 intro g H w hw
 refine enter Tryz.func43 rfl Tryz.ntmps43 rfl hw ?_
 have hIc := HLe.refl I
 refine zR ?_
 refine XO_box rfl rfl rfl (fun b_3 => ?_)
 refine zA ?_
 refine zN ?_
 refine X_seq ?_
 refine X_freeze .here (fun I1 hI1 hb1 => ?_)
 have hS := hS.mono hI1; have hIc := hIc.trans hI1
 have h3 := ImmC.of hb1
 refine X_region ?_
 refine zM ?_
 refine zV (ev_loadA rfl agt_98 (fun hg => by exact Cells.immC h3) rfl) ?_
 refine XO_callV0 (cap := []) (vs := [_, _]) rfl rfl fun_75 (w_ixB hS hn v) rfl rfl ?_
 refine zC ?_
 refine zA ?_
 refine zN ?_
 refine X_ret ?_
 exact at_ret1 rfl rfl (fun w hw => ⟨by rw [← any_cont, ← idx_any], (hw.mono hIc).drop⟩)
theorem w_proves_step {I : HMap} {x : CH} {cr : Cr} (hC : CrAt I x cr) (hr : rightF cr = true) (h16 : cr.days.length ≤ 16) (h8 : cr.ss.length ≤ 8) (hwh : ∀ s ∈ cr.ss, s.who.length ≤ 6) (hnd : ∀ s ∈ cr.ss, s.needs.length ≤ 100000) {bc bl bf : Nat} {last : Int} (hl9 : last ≤ cr.days.length) (hbc : ImmC I bc (.cells (encCH x).toArray 28 (0, 0))) (hbl : ImmC I bl (.cells #[.int .i64 last] 3 (0, 0))) (hbf : ImmC I bf (.cells #[.func (.func 42) #[] [capP bc, capP bl, capP bf].toArray] 94 (0, 0))) {av : Option Addr} {n c : Nat} {pl : List Int} (hS : Sl I 1 encI av n c pl) (hlen : pl.length ≤ cr.ss.length) (hin : InR cr pl) {r d wz : Int} {ks : List Pr} {ka : Option Addr} {kn kc : Nat} {hs9 : List PH} (hK : Sl I 4 encPH ka kn kc hs9) (hks : PrsAt I hs9 ks) (hkn : kn ≤ 100000) (ih : ∀ k ∈ ks, ∀ (I' : HMap), HLe I I' → ∀ (av' : Option Addr) (n' c' : Nat) (pl' : List Int), Sl I' 1 encI av' n' c' pl' → pl'.length ≤ cr.ss.length → InR cr pl' → ∀ (h' : PH), PrAt I' h' k → RetV Tryz.prog 42 ([.slice av' n' c', encPHA h'] ++ [capP bc, capP bl, capP bf]) I' (.bool (provesF cr last k pl'))) : RetV Tryz.prog 42 [.slice av n c, encPHA ⟨r, d, wz, ka, kn, kc⟩, capP bc, capP bl, capP bf] I (.bool (provesF cr last (.mk r d wz ks) pl)) := by
 intro g H w hw
 refine enter Tryz.func42 rfl Tryz.ntmps42 rfl hw ?_
 have hIc := HLe.refl I
 have hlP := hS.len
 have hlS : cr.ss.length = x.n2 := hC.2.2.2.2.2.len
 have hlK : ks.length = kn := by rw [← hks.len]; exact hK.len
 refine zR ?_
 refine XO_box rfl rfl rfl (fun b_6 => ?_)
 refine zA ?_
 refine zN ?_
 refine X_seq ?_
 refine X_seq ?_
 refine X_freeze .here (fun I1 hI1 hb1 => ?_)
 have hC := hC.mono hI1; have hS := hS.mono hI1; have hbc := hbc.mono hI1; have hbl := hbl.mono hI1; have hbf := hbf.mono hI1; have hK := hK.mono hI1; have hks := hks.mono hI1; have hIc := hIc.trans hI1
 have h6 := ImmC.of hb1
 refine X_region ?_
 refine zF fld_49_0 ?_
 refine zV (ev_load rfl sct_3 (fun hg => by exact Cell.imm h6 rfl)) ?_
 refine zC ?_
 refine zN ?_
 refine zI ?_ ?_ <;> intro hc12
 ·
  have hr0 : (r != 0) = true := hc12
  refine X_seq ?_
  rcases Bool.eq_false_or_eq_true ((kn : Int) == 0) with h0 | h0
  ·
   have hD := HLe.refl I1
   refine X_drawC mixed ?_
   refine zT 0 rfl (ev_fieldAddr rfl fld_49_3) hD ?_
   refine zT 1 rfl (ev_load rfl sct_47 (fun hg => by exact Cell.imm h6 rfl)) hD ?_
   refine zT 2 rfl (ev_lenS rfl slt_47) hD ?_
   refine zT 3 rfl (ev_cmp rfl rfl rfl) hD ?_
   rw [h0]
   refine zT 4 rfl (ev_move rfl) hD ?_
   refine XD_takeW 5 rfl rfl rfl (dj := 17) rfl (ev_loadA rfl agt_28 (fun hg => by exact Cells.immC hbc) rfl) rfl (by kernel_rfl) (by kernel_rfl) (by kernel_rfl) noP_ok hD (by repeat (first | exact .refl | exact subL_nil | refine .keep ?_ | refine .drop ?_ | refine subL_add ?_)) ?_
   refine XD_takeW 6 rfl rfl rfl (dj := 17) rfl (ev_move rfl) rfl (by kernel_rfl) (by kernel_rfl) (by kernel_rfl) noP_ok hD (by repeat (first | exact .refl | exact subL_nil | refine .keep ?_ | refine .drop ?_ | refine subL_add ?_)) ?_
   refine XD_takeW 8 rfl rfl rfl (dj := 17) rfl (ev_fieldAddr rfl fld_49_0) rfl (by kernel_rfl) (by kernel_rfl) (by kernel_rfl) noP_ok hD (by repeat (first | exact .refl | exact subL_nil | refine .keep ?_ | refine .drop ?_ | refine subL_add ?_)) ?_
   refine XD_takeW 9 rfl rfl rfl (dj := 17) rfl (ev_load rfl sct_3 (fun hg => by exact Cell.imm h6 rfl)) rfl (by kernel_rfl) (by kernel_rfl) (by kernel_rfl) noP_ok hD (by repeat (first | exact .refl | exact subL_nil | refine .keep ?_ | refine .drop ?_ | refine subL_add ?_)) ?_
   refine XD_takeW 10 rfl rfl rfl (dj := 17) rfl (ev_fieldAddr rfl fld_49_1) rfl (by kernel_rfl) (by kernel_rfl) (by kernel_rfl) noP_ok hD (by repeat (first | exact .refl | exact subL_nil | refine .keep ?_ | refine .drop ?_ | refine subL_add ?_)) ?_
   refine XD_takeW 11 rfl rfl rfl (dj := 17) rfl (ev_load rfl sct_3 (fun hg => by exact Cell.imm h6 rfl)) rfl (by kernel_rfl) (by kernel_rfl) (by kernel_rfl) noP_ok hD (by repeat (first | exact .refl | exact subL_nil | refine .keep ?_ | refine .drop ?_ | refine subL_add ?_)) ?_
   refine XD_takeW 12 rfl rfl rfl (dj := 17) rfl (ev_fieldAddr rfl fld_49_2) rfl (by kernel_rfl) (by kernel_rfl) (by kernel_rfl) noP_ok hD (by repeat (first | exact .refl | exact subL_nil | refine .keep ?_ | refine .drop ?_ | refine subL_add ?_)) ?_
   refine XD_takeW 13 rfl rfl rfl (dj := 17) rfl (ev_load rfl sct_3 (fun hg => by exact Cell.imm h6 rfl)) rfl (by kernel_rfl) (by kernel_rfl) (by kernel_rfl) noP_ok hD (by repeat (first | exact .refl | exact subL_nil | refine .keep ?_ | refine .drop ?_ | refine subL_add ?_)) ?_
   refine XD_takeW 14 rfl rfl rfl (dj := 17) rfl (ev_buildL (ps := [(0, _), (1, _), (2, _)]) [_, _, _] plt_98 rfl rfl) rfl (by kernel_rfl) (by kernel_rfl) (by kernel_rfl) noP_ok hD (by repeat (first | exact .refl | exact subL_nil | refine .keep ?_ | refine .drop ?_ | refine subL_add ?_)) ?_
   refine XD_one 7 rfl (by kernel_rfl) ?_
   refine XO_want (dj := 17) rfl rfl rfl ?_
   refine XO_callM (cap := []) (vs := [_, _]) rfl rfl fun_44 .nil (w_broken hC hr h16 h8 hwh hnd hS (by omega) hin) rfl rfl ?_
   rintro vv2 I2 L2 hI2 ⟨rfl, ab9, cb9, rfl, hB9⟩
   have hC := hC.mono hI2; have hS := hS.mono hI2; have hbc := hbc.mono hI2; have hbl := hbl.mono hI2; have hbf := hbf.mono hI2; have hK := hK.mono hI2; have hks := hks.mono hI2; have h6 := h6.mono hI2; have hIc := hIc.trans hI2; have hD := hD.trans hI2
   rw [List.nil_append]
   refine XO_nil ?_
   refine zD hD ?_
   refine XD_one 15 rfl (by kernel_rfl) ?_
   refine XO_want (dj := 17) rfl rfl rfl ?_
   refine XO_callV0 (cap := []) (vs := [_, _]) rfl rfl fun_43 (w_cnB hB9 (by have := brkL_len h16 pl; omega) ⟨r, d, wz⟩) rfl rfl ?_
   refine XO_nil ?_
   refine zD hD ?_
   refine zT 16 rfl (ev_pickb rfl rfl rfl) hD ?_
   refine zT 17 rfl (ev_assign rfl) hD ?_
   refine XD_done (by kernel_rfl) ?_
   refine at_noP ?_
   refine at_then ?_
   refine X_ret ?_
   refine at_then_r ?_
   first
   | exact at_ret1 rfl rfl (fun w hw => ⟨by rw [provesF, if_pos hr0, ← nat_beq0 hlK, h0]; rfl, (hw.mono hIc).drop⟩)
  have hD := HLe.refl I1
  refine X_drawC mixed ?_
  refine zT 0 rfl (ev_fieldAddr rfl fld_49_3) hD ?_
  refine zT 1 rfl (ev_load rfl sct_47 (fun hg => by exact Cell.imm h6 rfl)) hD ?_
  refine zT 2 rfl (ev_lenS rfl slt_47) hD ?_
  refine zT 3 rfl (ev_cmp rfl rfl rfl) hD ?_
  rw [h0]
  refine zT 4 rfl (ev_move rfl) hD ?_
  refine XD_skipW 5 rfl rfl rfl (dj := 17) rfl rfl (by intro c e; cases e) rfl (by kernel_rfl) (by kernel_rfl) (by kernel_rfl) noP_ok hD (by repeat (first | exact .refl | exact subL_nil | refine .keep ?_ | refine .drop ?_ | refine subL_add ?_)) ?_
  refine XD_skipW 6 rfl rfl rfl (dj := 17) rfl rfl (by intro c e; cases e) rfl (by kernel_rfl) (by kernel_rfl) (by kernel_rfl) noP_ok hD (by repeat (first | exact .refl | exact subL_nil | refine .keep ?_ | refine .drop ?_ | refine subL_add ?_)) ?_
  refine XD_skipW 7 rfl rfl rfl (dj := 17) rfl rfl (by intro c e; cases e) rfl (by kernel_rfl) (by kernel_rfl) (by kernel_rfl) noP_ok hD (by repeat (first | exact .refl | exact subL_nil | refine .keep ?_ | refine .drop ?_ | refine subL_add ?_)) ?_
  refine XD_skipW 8 rfl rfl rfl (dj := 17) rfl rfl (by intro c e; cases e) rfl (by kernel_rfl) (by kernel_rfl) (by kernel_rfl) noP_ok hD (by repeat (first | exact .refl | exact subL_nil | refine .keep ?_ | refine .drop ?_ | refine subL_add ?_)) ?_
  refine XD_skipW 9 rfl rfl rfl (dj := 17) rfl rfl (by intro c e; cases e) rfl (by kernel_rfl) (by kernel_rfl) (by kernel_rfl) noP_ok hD (by repeat (first | exact .refl | exact subL_nil | refine .keep ?_ | refine .drop ?_ | refine subL_add ?_)) ?_
  refine XD_skipW 10 rfl rfl rfl (dj := 17) rfl rfl (by intro c e; cases e) rfl (by kernel_rfl) (by kernel_rfl) (by kernel_rfl) noP_ok hD (by repeat (first | exact .refl | exact subL_nil | refine .keep ?_ | refine .drop ?_ | refine subL_add ?_)) ?_
  refine XD_skipW 11 rfl rfl rfl (dj := 17) rfl rfl (by intro c e; cases e) rfl (by kernel_rfl) (by kernel_rfl) (by kernel_rfl) noP_ok hD (by repeat (first | exact .refl | exact subL_nil | refine .keep ?_ | refine .drop ?_ | refine subL_add ?_)) ?_
  refine XD_skipW 12 rfl rfl rfl (dj := 17) rfl rfl (by intro c e; cases e) rfl (by kernel_rfl) (by kernel_rfl) (by kernel_rfl) noP_ok hD (by repeat (first | exact .refl | exact subL_nil | refine .keep ?_ | refine .drop ?_ | refine subL_add ?_)) ?_
  refine XD_skipW 13 rfl rfl rfl (dj := 17) rfl rfl (by intro c e; cases e) rfl (by kernel_rfl) (by kernel_rfl) (by kernel_rfl) noP_ok hD (by repeat (first | exact .refl | exact subL_nil | refine .keep ?_ | refine .drop ?_ | refine subL_add ?_)) ?_
  refine XD_skipW 14 rfl rfl rfl (dj := 17) rfl rfl (by intro c e; cases e) rfl (by kernel_rfl) (by kernel_rfl) (by kernel_rfl) noP_ok hD (by repeat (first | exact .refl | exact subL_nil | refine .keep ?_ | refine .drop ?_ | refine subL_add ?_)) ?_
  refine XD_skipW 15 rfl rfl rfl (dj := 17) rfl rfl (by intro c e; cases e) rfl (by kernel_rfl) (by kernel_rfl) (by kernel_rfl) noP_ok hD (by repeat (first | exact .refl | exact subL_nil | refine .keep ?_ | refine .drop ?_ | refine subL_add ?_)) ?_
  refine zT 16 rfl (ev_pick rfl rfl rfl) hD ?_
  refine zT 17 rfl (ev_assign rfl) hD ?_
  refine XD_done (by kernel_rfl) ?_
  refine at_noP ?_
  refine at_then ?_
  refine X_ret ?_
  refine at_then_r ?_
  first
  | exact at_ret1 rfl rfl (fun w hw => ⟨by rw [provesF, if_pos hr0, ← nat_beq0 hlK, h0]; rfl, (hw.mono hIc).drop⟩)
 have hr0 : (r != 0) = false := hc12
 refine X_skip ?_
 refine at_then ?_
 refine X_seq ?_
 refine zR ?_
 refine zF fld_49_1 ?_
 refine zV (ev_load rfl sct_3 (fun hg => by exact Cell.imm h6 rfl)) ?_
 refine zC ?_
 refine zM ?_
 refine XO_pushF 3 rfl rfl rfl ?_
 refine zJ (ev_fieldAddr rfl fld_49_2) ?_
 refine zJ (ev_load rfl sct_3 (fun hg => by exact Cell.imm h6 rfl)) ?_
 refine zJ (ev_cmp rfl rfl rfl) ?_
 refine XO_or0 rfl rfl rfl rfl rfl ?_
 refine zM ?_
 refine XO_pushF 8 rfl rfl rfl ?_
 refine zJ (ev_move rfl) ?_
 refine zJ (ev_lenS rfl slt_24) ?_
 refine zJ (ev_fieldAddr rfl fld_28_5) ?_
 refine zJ (ev_load rfl sct_26 (fun hg => by exact Cell.imm hbc rfl)) ?_
 refine zJ (ev_lenS rfl slt_26) ?_
 refine zJ (ev_cmp rfl rfl rfl) ?_
 refine XO_or0 rfl rfl rfl rfl rfl ?_
 refine zM ?_
 refine XO_pushF 16 rfl rfl rfl ?_
 refine zJ (ev_fieldAddr rfl fld_49_3) ?_
 refine zJ (ev_load rfl sct_47 (fun hg => by exact Cell.imm h6 rfl)) ?_
 refine zJ (ev_lenS rfl slt_47) ?_
 refine zJ (ev_load rfl sct_3 (fun hg => by exact Cell.imm hbl rfl)) ?_
 refine zJ (ev_cmp rfl rfl rfl) ?_
 refine XO_or0 rfl rfl rfl rfl rfl ?_
 refine zN ?_
 refine zI ?_ ?_ <;> intro hc52
 ·
  have hq : (d != 0 || wz != 0 || (pl.length == cr.ss.length) || ((ks.length : Int) != last)) = true := by rw [hlK, hlP, hlS]; rw [nat_beq]; exact hc52
  refine zR ?_
  refine zA ?_
  refine zN ?_
  refine X_ret ?_
  refine at_then_r ?_
  first
  | exact at_ret1 rfl rfl (fun w hw => ⟨by rw [provesF, if_neg (by rw [hr0]; decide), if_pos hq], (hw.mono hIc).drop⟩)
 have hq : (d != 0 || wz != 0 || (pl.length == cr.ss.length) || ((ks.length : Int) != last)) = false := by rw [hlK, hlP, hlS]; rw [nat_beq]; exact hc52
 have hq2 : pl.length ≠ cr.ss.length ∧ (ks.length : Int) = last := by simp only [Bool.or_eq_false_iff, beq_eq_false_iff_ne, bne_eq_false_iff_eq] at hq; exact ⟨hq.1.2, hq.2⟩
 refine X_skip ?_
 refine at_then ?_
 refine X_seq ?_
 refine zR ?_
 refine zF fld_49_3 ?_
 refine zV (ev_load rfl sct_47 (fun hg => by exact Cell.imm h6 rfl)) ?_
 refine zQ slt_47 ?_
 refine zM ?_
 refine zN ?_
 refine X_block ?_
 refine X_loopT [(0, _), (4, _), (54, _), (55, _)] (.cons rfl (.cons rfl (.cons rfl (.cons rfl .nil)))) (fun T L0 mz E I' loc' => ∃ (k : Nat), mz = kn - k ∧ E = (56, .int .i64 k) :: T ∧ HLe I1 I' ∧ L0 = loc' ∧ k ≤ kn ∧ provesL cr last ks 0 pl = provesL cr last (ks.drop k) k pl) _ _ _ _ ⟨0, rfl, rfl, HLe.refl _, rfl, Nat.zero_le _, rfl⟩ (.cons rfl (.cons rfl (.cons rfl (.cons rfl (.cons rfl .nil))))) (HLe.refl _) rfl ?_
 rintro mz E J3 loc' ⟨k, rfl, rfl, hJ, rfl, hk, hpv⟩
 have hC := hC.mono hJ; have hS := hS.mono hJ; have hbc := hbc.mono hJ; have hbl := hbl.mono hJ; have hbf := hbf.mono hJ; have hK := hK.mono hJ; have hks := hks.mono hJ; have h6 := h6.mono hJ; have hIc := hIc.trans hJ
 have hB0 := hJ
 refine zR ?_
 refine zC ?_
 refine zN ?_
 refine X_seq ?_
 refine zI ?_ ?_ <;> intro hc57
 ·
  have hlt_k : k < kn := by have h := hc57; simp at h; omega
  obtain ⟨kh, hkh⟩ := hK.at hlt_k
  obtain ⟨kk, hkk, hka⟩ := hks.at k kh hkh
  refine X_skip ?_
  refine at_then ?_
  refine X_seq ?_
  refine X_block ?_
  refine zR ?_
  refine zM ?_
  refine zV (ev_indexSl rfl rfl slt_47 hK (fun hg => by (dsimp only; omega))) ?_
  refine zV (ev_loadA rfl agt_49 (fun hg => by exact Sl.getA hK hkh) rfl) ?_
  refine XO_alloc zt_49 rfl rfl (fun b_9 => ?_)
  refine zA ?_
  refine XO_storeA rfl rfl szt_49 rfl rfl rfl rfl (by repeat (first | exact Upd.here | apply Upd.there | apply upd_app)) ?_
  refine zN ?_
  refine X_seq ?_
  refine X_freeze .here (fun I4 hI4 hb4 => ?_)
  have hC := hC.mono hI4; have hS := hS.mono hI4; have hbc := hbc.mono hI4; have hbl := hbl.mono hI4; have hbf := hbf.mono hI4; have hK := hK.mono hI4; have hks := hks.mono hI4; have h6 := h6.mono hI4; have hka := hka.mono hI4; have hIc := hIc.trans hI4; have hB0 := hB0.trans hI4
  have h9 := ImmC.of hb4
  have hD := HLe.refl I4
  refine X_drawC mixed ?_
  refine zT 0 rfl (ev_load rfl sct_94 (fun hg => by exact Cell.imm hbf rfl)) hD ?_
  refine zT 1 rfl (ev_move rfl) hD ?_
  refine zT 2 rfl (ev_move rfl) hD ?_
  refine zT 3 rfl (ev_lenS rfl slt_24) hD ?_
  refine zT 4 rfl (ev_move rfl) hD ?_
  refine zT 5 rfl (ev_lenS rfl slt_24) hD ?_
  refine zT 6 rfl (ev_sliceM rfl rfl rfl slt_24 (fun _ => by have := hS.cap; omega)) hD ?_
  refine zT 7 rfl (ev_move rfl) hD ?_
  refine zT 10 rfl (ev_loadA rfl agt_49 (fun hg => by exact Cells.immC (vs := encPH kh) h9) rfl) hD ?_
  refine XD_one 8 rfl (by kernel_rfl) ?_
  refine XO_buildSlice (ps := [(0, _)]) (m := [encI (k : Int)]) elt_24 rfl (.cons rfl (.nil)) rfl (by simp [encI_len]) (by decide) (by decide) rfl rfl (fun b_69 => ?_)
  refine XO_freeze (by repeat (first | exact Take.here | apply Take.there)) (fun I5 hI5 hb5 => ?_)
  have hC := hC.mono hI5; have hS := hS.mono hI5; have hbc := hbc.mono hI5; have hbl := hbl.mono hI5; have hbf := hbf.mono hI5; have hK := hK.mono hI5; have hks := hks.mono hI5; have h6 := h6.mono hI5; have hka := hka.mono hI5; have h9 := h9.mono hI5; have hIc := hIc.trans hI5; have hB0 := hB0.trans hI5
  have hD := hD.trans hI5
  have hY := Sl.lit [(k : Int)] rfl encI_len (show I5 _ = some (Obj.cells (([(k : Int)] : List Int).flatMap encI).toArray 3 (0, 0)) from hb5)
  refine XO_nil ?_
  refine zD hD ?_
  refine XD_one 9 rfl (by kernel_rfl) ?_
  refine XO_appendCut encI_len (by decide) rfl rfl elt_24 hS.cut hY (by omega) rfl rfl ?_
  intro I6 ac cc hI6 hZ
  have hC := hC.mono hI6; have hS := hS.mono hI6; have hbc := hbc.mono hI6; have hbl := hbl.mono hI6; have hbf := hbf.mono hI6; have hK := hK.mono hI6; have hks := hks.mono hI6; have h6 := h6.mono hI6; have hka := hka.mono hI6; have h9 := h9.mono hI6; have hY := hY.mono hI6; have hIc := hIc.trans hI6
  have hB0 := hB0.trans hI6; have hD := hD.trans hI6
  refine XO_nil ?_
  refine zD hD ?_
  refine XD_one 11 rfl (by kernel_rfl) ?_
  refine XO_callV0 (cap := [capP bc, capP bl, capP bf]) (vs := [_, _]) rfl rfl fun_42 (ih kk (List.mem_of_getElem? hkk) _ hIc ac (n + 1) cc _ hZ (by rw [List.length_append, List.length_singleton]; omega) (fun e he => by rcases List.mem_append.1 he with he | he; exact hin e he; (rw [List.mem_singleton] at he; subst he; exact ⟨by omega, by omega⟩)) kh hka) rfl rfl ?_
  refine XO_nil ?_
  refine zD hD ?_
  refine zT 12 rfl (ev_not rfl) hD ?_
  refine XD_done (by kernel_rfl) ?_
  refine at_noP ?_
  refine at_then ?_
  refine zI ?_ ?_ <;> intro hc73
  ·
   refine zR ?_
   refine zA ?_
   refine zN ?_
   refine X_ret ?_
   refine at_block_r ?_
   refine at_then_r ?_
   refine at_then_r ?_
   refine at_block_r ?_
   refine at_then_r ?_
   first
   | exact at_ret1 rfl rfl (fun w hw => ⟨by rw [provesF, if_neg (by rw [hr0]; decide), if_neg (by rw [hq]; decide), hpv, provesL_bad hkk (by simpa using hc73)], (hw.mono hIc).drop⟩)
  refine X_skip ?_
  refine at_block_n ?_
  refine at_then ?_
  refine X_region ?_
  refine zB ?_
  refine zM ?_
  refine XO_nil ?_
  exact at_met2 _ _ ⟨kn - (k + 1), by omega, k + 1, rfl, rfl, hB0, rfl, by omega, by rw [hpv, provesL_step hkk (by simpa using hc73)]⟩ (.cons rfl (.cons rfl (.cons rfl (.cons rfl (.cons rfl .nil))))) (by repeat (first | exact .refl | exact subL_left | refine subL_app ?_ | refine .drop ?_ | refine subL_add ?_))
 have hge_k : kn ≤ k := by have h := hc57; simp at h; omega
 refine X_exit ?_
 refine at_then_e ?_
 refine at_then_e ?_
 refine at_block_hit ?_
 refine at_then ?_
 refine zR ?_
 refine zA ?_
 refine zN ?_
 refine X_ret ?_
 first
 | exact at_ret1 rfl rfl (fun w hw => ⟨by rw [provesF, if_neg (by rw [hr0]; decide), if_neg (by rw [hq]; decide), hpv, provesL_end (by omega)], (hw.mono hIc).drop⟩)
theorem w_proves {cr : Cr} (hr : rightF cr = true) (h16 : cr.days.length ≤ 16) (h8 : cr.ss.length ≤ 8) (hwh : ∀ s ∈ cr.ss, s.who.length ≤ 6) (hnd : ∀ s ∈ cr.ss, s.needs.length ≤ 100000) : ∀ (p : Pr) {I : HMap} {x : CH} (_ : CrAt I x cr) {bc bl bf : Nat} {last : Int} (_ : last ≤ cr.days.length) (_ : ImmC I bc (.cells (encCH x).toArray 28 (0, 0))) (_ : ImmC I bl (.cells #[.int .i64 last] 3 (0, 0))) (_ : ImmC I bf (.cells #[.func (.func 42) #[] [capP bc, capP bl, capP bf].toArray] 94 (0, 0))) {av : Option Addr} {n c : Nat} {pl : List Int} (_ : Sl I 1 encI av n c pl) (_ : pl.length ≤ cr.ss.length) (_ : InR cr pl) (h : PH) (_ : PrAt I h p) (_ : smlP p),
  RetV Tryz.prog 42 ([.slice av n c, encPHA h] ++ [capP bc, capP bl, capP bf]) I (.bool (provesF cr last p pl))
 | .mk r d w ks, I, x, hC, bc, bl, bf, last, hl9, hbc, hbl, hbf, av, n, c, pl, hS, hlen, hin, h, hP, hsm => by
  obtain ⟨hr0, hd0, hw0, ka, kn, kc⟩ := h
  unfold PrAt at hP
  obtain ⟨e1, e2, e3, hs9, hK, hks⟩ := hP
  simp only at e1 e2 e3 hK
  subst e1 e2 e3
  unfold smlP at hsm
  exact w_proves_step hC hr h16 h8 hwh hnd hl9 hbc hbl hbf hS hlen hin hK hks (by have h1 := hks.len; have h2 := hK.len; omega) (fun k hk I' hI' av' n' c' pl' hS' hlen' hin' h' hP' => w_proves hr h16 h8 hwh hnd k (hC.mono hI') hl9 (hbc.mono hI') (hbl.mono hI') (hbf.mono hI') hS' hlen' hin' h' hP' (smlL_mem hsm.2 hk))
termination_by p => SizeOf.sizeOf p
decreasing_by have := List.sizeOf_lt_of_mem hk; simp; omega
theorem w_Accepts {I : HMap} {x : CH} {cr : Cr} (hC : CrAt I x cr) (hnd : ∀ s ∈ cr.ss, s.needs.length ≤ 100000) (last : Int) (p : Pr) (h : PH) (hP : PrAt I h p) (hsm : smlP p) : RetV Tryz.prog 14 [encCHA x, .int .i64 last, encPHA h] I (.tuple #[.bool (accO cr last p), .int .i64 (lastE cr last)]) := by
 intro g H w hw
 refine enter Tryz.func14 rfl Tryz.ntmps14 rfl hw ?_
 have hIc := HLe.refl I
 have hlD : cr.days.length = x.n := hC.1.len
 refine zR ?_
 refine XO_box rfl rfl rfl (fun b_3 => ?_)
 refine XO_box rfl rfl rfl (fun b_4 => ?_)
 refine XO_box rfl rfl rfl (fun b_5 => ?_)
 refine zA ?_
 refine zA ?_
 refine zN ?_
 refine X_seq ?_
 refine X_seq ?_
 refine X_freeze .here (fun I1 hI1 hb1 => ?_)
 have hC := hC.mono hI1; have hP := hP.mono hI1; have hIc := hIc.trans hI1
 have h5 := ImmC.of hb1
 refine X_freeze .here (fun I2 hI2 hb2 => ?_)
 have hC := hC.mono hI2; have hP := hP.mono hI2; have h5 := h5.mono hI2; have hIc := hIc.trans hI2
 have h4 := ImmC.of hb2
 refine X_freeze .here (fun I3 hI3 hb3 => ?_)
 have hC := hC.mono hI3; have hP := hP.mono hI3; have h5 := h5.mono hI3; have h4 := h4.mono hI3; have hIc := hIc.trans hI3
 have h3 := ImmC.of hb3
 refine X_region ?_
 refine zV (ev_loadA rfl agt_28 (fun hg => by exact Cells.immC h3) rfl) ?_
 refine XO_callV0 (cap := []) (vs := [_]) rfl rfl fun_40 (w_chkC hC hnd) rfl rfl ?_
 refine zA ?_
 refine zN (zR ?_)
 refine zM ?_
 refine zC ?_
 refine zN ?_
 refine zI ?_ ?_ <;> intro hc12
 ·
  have hk0 : chkC cr ≠ 0 := by simpa using hc12
  refine zR ?_
  refine zM ?_
  refine zA ?_
  refine zA ?_
  refine zN ?_
  refine X_ret ?_
  refine at_then_r ?_
  first
  | exact at_ret2 rfl rfl rfl (fun w hw => ⟨by unfold accO; rw [lastE_1 hk0, decide_eq_false hk0]; rfl, (hw.mono hIc).drop⟩)
 have hk0 : chkC cr = 0 := by simpa using hc12
 obtain ⟨hr, h16, h8, hwh, hpl9⟩ := chkC_0 hk0
 refine X_skip ?_
 refine at_then ?_
 refine X_seq ?_
 refine zR ?_
 refine zV (ev_load rfl sct_3 (fun hg => by exact Cell.imm h4 rfl)) ?_
 refine zC ?_
 refine zM ?_
 refine XO_pushF 2 rfl rfl rfl ?_
 refine zJ (ev_load rfl sct_3 (fun hg => by exact Cell.imm h4 rfl)) ?_
 refine zJ (ev_fieldAddr rfl fld_28_0) ?_
 refine zJ (ev_load rfl sct_24 (fun hg => by exact Cell.imm h3 rfl)) ?_
 refine zJ (ev_lenS rfl slt_24) ?_
 refine zJ (ev_cmp rfl rfl rfl) ?_
 refine XO_or0 rfl rfl rfl rfl rfl ?_
 refine zN ?_
 refine zI ?_ ?_ <;> intro hc22
 ·
  have hb9 : (decide (last < 0) || decide (last > (cr.days.length : Int))) = true := by rw [hlD]; exact hc22
  refine zR ?_
  refine zA ?_
  refine zA ?_
  refine zN ?_
  refine X_ret ?_
  refine at_then_r ?_
  first
  | exact at_ret2 rfl rfl rfl (fun w hw => ⟨by unfold accO; rw [lastE_2 hk0 hb9]; rfl, (hw.mono hIc).drop⟩)
 have hb9 : (decide (last < 0) || decide (last > (cr.days.length : Int))) = false := by rw [hlD]; exact hc22
 have hl0 : 0 ≤ last ∧ last ≤ cr.days.length := by simp at hb9; omega
 refine X_skip ?_
 refine at_then ?_
 refine zR ?_
 refine XO_alloc zt_94 rfl rfl (fun b_8 => ?_)
 refine zN (zR ?_)
 refine zV (ev_makeFunc (us := []) (vs := [_, _, _]) rfl rfl) ?_
 refine zS szt_94 ?_
 refine zN ?_
 refine X_seq ?_
 refine X_freeze .here (fun I4 hI4 hb4 => ?_)
 have hC := hC.mono hI4; have hP := hP.mono hI4; have h5 := h5.mono hI4; have h4 := h4.mono hI4; have h3 := h3.mono hI4; have hIc := hIc.trans hI4
 have h8f := ImmC.of hb4
 refine X_region ?_
 refine zV (ev_load rfl sct_94 (fun hg => by exact Cell.imm h8f rfl)) ?_
 refine zV (ev_loadA rfl agt_49 (fun hg => by exact Cells.immC (vs := encPH h) h5) rfl) ?_
 refine XO_callV0 (cap := [capP b_3, capP b_4, capP b_8]) (vs := [_, _]) rfl rfl fun_42 (w_proves hr h16 h8 hwh hnd p hC hl0.2 h3 h4 h8f Sl.nil (Nat.zero_le _) (fun e he => by cases he) h hP hsm) rfl rfl ?_
 refine zA ?_
 refine zA ?_
 refine zN ?_
 refine X_ret ?_
 first
 | exact at_ret2 rfl rfl rfl (fun w hw => ⟨by unfold accO; rw [lastE_3 hk0 hb9]; rfl, (hw.mono hIc).drop⟩)
end Go.Proofs.YtclkmnidgdkekaaGreat
end
section
namespace Go.Kn
open Go Go.Sort Go.Shelf Go.Lib Go.Proofs
theorem retRevK {α : Type} [Inhabited α] {P : Program} {f : FuncId} {e : TypeId} {k : Nat} {enc : α → List Value} (hk : ∀ x, (enc x).length = k) (hpos : 0 < k)
    (hs : ∀ (blk off cap : Nat) (d : Array α) (w : World), HoldsK enc k w blk off d → d.size ≤ 9223372036854775807 →
      Calls P f #[.slice (some ⟨blk, off, none⟩) d.size cap] w fun e w' => e = .returned (.tuple #[]) ∧ ∃ n, w' = putRowK enc k (Sort.ahead w n) blk off d.reverse)
    (h0 : ∀ (p : Option Addr) (cap : Nat) (w : World), Calls P f #[.slice p 0 cap] w fun e w' => e = .returned (.tuple #[]) ∧ w' = w)
    (zs : List α) {v : Value} {n : Nat} {L : Loc} (hO : OwnS e k v n (zs.flatMap enc) L) (hn : n ≤ 1000000) (I : HMap) :
    RetM P f [v] I L (fun u I' L' => u = .tuple #[] ∧ I' = I ∧ OwnS e k v n (zs.reverse.flatMap enc) L') := by
  intro g H w hw
  have hl : zs.length = n := by
    have := hO.1
    rw [flat_len hk] at this
    exact Nat.eq_of_mul_eq_mul_right hpos this
  subst hl
  rcases hO.2 with ⟨rfl, h00, rfl⟩ | ⟨b, c, cur, rfl, rfl, hc, hc2, hsz, htk⟩
  · have : zs = [] := List.length_eq_zero_iff.1 h00
    subst this
    refine (h0 none 0 w).mono ?_
    rintro e w' ⟨rfl, rfl⟩
    exact ⟨_, I, [], rfl, HLe.refl _, hw, rfl, rfl, by simp, .inl ⟨rfl, rfl, rfl⟩⟩
  · have hb := hw.own b _ (List.mem_singleton.2 rfl)
    have hfl : (zs.flatMap enc).length = zs.length * k := flat_len hk zs
    have hH : HoldsK enc k w b 0 zs.toArray := by
      unfold HoldsK
      rw [flat_eq hk hpos]
      exact holds_own (enc := id) hw (List.mem_singleton.2 rfl) (zs.flatMap enc) (by rw [hfl, htk]; simp)
    have hcall := hs b 0 c zs.toArray w hH (by simp; omega)
    rw [List.size_toArray] at hcall
    refine hcall.mono ?_
    rintro e w' ⟨rfl, m, rfl⟩
    have hfd : (zs.reverse.flatMap enc).length = zs.length * k := by rw [flat_len hk, List.length_reverse]
    refine ⟨_, I, [(b, .cells (putCells id 0 (zs.reverse.flatMap enc).toArray cur) e (0, 0))], rfl, HLe.refl _, ?_, rfl, rfl, ?_⟩
    · unfold putRowK
      rw [List.reverse_toArray, flat_eq hk hpos]
      exact (hw.aheadN m).rowPut (enc := id) _ .here
    · refine ⟨by rw [hfd], .inr ⟨b, c, _, rfl, rfl, hc, hc2, by simp [putCells, hsz], ?_⟩⟩
      have := take_put (enc := id) (cs := cur) (n := zs.length * k) (zs.reverse.flatMap enc) hfd (by rw [hsz]; exact Nat.mul_le_mul_right k hc)
      simpa using this
end Go.Kn
end
section
namespace Go.Proofs.YtclkmnidgdkekaaGreat
open Go Go.Kn Go.Proofs
/-- Heads and what they lead to. -/
def RelA {α : Type} (I : HMap) (size : Nat) (enc : α → List Value) (hs : List Hd) (vss : List (List α)) : Prop := hs.length = vss.length ∧ ∀ (k : Nat) (h : Hd) (v : List α), hs[k]? = some h → vss[k]? = some v → Sl I size enc h.a h.n h.c v
theorem RelA.mono {α : Type} {I I' : HMap} {size : Nat} {enc : α → List Value} {hs : List Hd} {vss : List (List α)} (h : RelA I size enc hs vss) (hI : HLe I I') : RelA I' size enc hs vss := ⟨h.1, fun k x v a b => (h.2 k x v a b).mono hI⟩
theorem RelA.cons {α : Type} {I : HMap} {size : Nat} {enc : α → List Value} {hs : List Hd} {vss : List (List α)} {h : Hd} {v : List α} (h0 : Sl I size enc h.a h.n h.c v) (H : RelA I size enc hs vss) : RelA I size enc (h :: hs) (v :: vss) := by
  refine ⟨by simp [H.1], fun k x y a b => ?_⟩
  cases k with
  | zero => simp at a b; subst a b; exact h0
  | succ k => exact H.2 k x y (by simpa using a) (by simpa using b)
theorem RelA.nil {α : Type} {I : HMap} {size : Nat} {enc : α → List Value} : RelA I size enc [] ([] : List (List α)) := ⟨rfl, fun k x v a _ => by simp at a⟩
def SlHA {α : Type} (I : HMap) (size : Nat) (enc : α → List Value) (av : Option Addr) (n c : Nat) (hs : List Hd) (vss : List (List α)) : Prop := Sl I 1 encH av n c hs ∧ RelA I size enc hs vss
theorem SlHA.mono {α : Type} {I I' : HMap} {size : Nat} {enc : α → List Value} {av : Option Addr} {n c : Nat} {hs : List Hd} {vss : List (List α)} (h : SlHA I size enc av n c hs vss) (hI : HLe I I') : SlHA I' size enc av n c hs vss := ⟨h.1.mono hI, h.2.mono hI⟩
theorem SlHA.len {α : Type} {I : HMap} {size : Nat} {enc : α → List Value} {av : Option Addr} {n c : Nat} {hs : List Hd} {vss : List (List α)} (h : SlHA I size enc av n c hs vss) : vss.length = n := by rw [← h.2.1]; exact h.1.len
theorem SlHA.at {α : Type} {I : HMap} {size : Nat} {enc : α → List Value} {av : Option Addr} {n c k : Nat} {hs : List Hd} {vss : List (List α)} (h : SlHA I size enc av n c hs vss) (hk : k < n) : ∃ x v, hs[k]? = some x ∧ vss[k]? = some v ∧ Sl I size enc x.a x.n x.c v := by
  have h1 : k < hs.length := by rw [h.1.len]; exact hk
  have h2 : k < vss.length := by rw [h.len]; exact hk
  exact ⟨hs[k], vss[k], List.getElem?_eq_getElem h1, List.getElem?_eq_getElem h2, h.2.2 k _ _ (List.getElem?_eq_getElem h1) (List.getElem?_eq_getElem h2)⟩
theorem flat_step {α : Type} {vss : List (List α)} {k : Nat} {v : List α} (h : vss[k]? = some v) : (vss.take (k + 1)).flatten = (vss.take k).flatten ++ v := by
  rw [List.take_add_one, h, List.flatten_append]; simp
theorem flat_le {α : Type} {vss : List (List α)} (k : Nat) : (vss.take k).flatten.length ≤ vss.flatten.length := by
  have h : vss.flatten = (vss.take k).flatten ++ (vss.drop k).flatten := by rw [← List.flatten_append, List.take_append_drop]
  rw [h, List.length_append]; omega
/-! ### Who -/
def diffK (tg : List Int) (has : List (List Int)) (id : Int) (k : Nat) : List Int := ((List.range k).filter fun i => (has.getD i []).contains id != tg.contains id).map fun (i : Nat) => (i : Int)
theorem diffK_all (tg : List Int) (has : List (List Int)) (id : Int) : diffK tg has id has.length = diffW tg has id := rfl
theorem diffK_yes {tg : List Int} {has : List (List Int)} {id : Int} {k : Nat} {v : List Int} (h : has[k]? = some v) (hb : (v.contains id != tg.contains id) = true) : diffK tg has id (k + 1) = diffK tg has id k ++ [(k : Int)] := by
  unfold diffK
  rw [List.range_succ, List.filter_append, List.map_append]
  have : (has.getD k []).contains id = v.contains id := by rw [List.getD_eq_getElem?_getD, h]; rfl
  simp only [List.filter_cons, List.filter_nil, this, hb, if_true, List.map_cons, List.map_nil]
theorem diffK_no {tg : List Int} {has : List (List Int)} {id : Int} {k : Nat} {v : List Int} (h : has[k]? = some v) (hb : (v.contains id != tg.contains id) = false) : diffK tg has id (k + 1) = diffK tg has id k := by
  unfold diffK
  rw [List.range_succ, List.filter_append, List.map_append]
  have : (has.getD k []).contains id = v.contains id := by rw [List.getD_eq_getElem?_getD, h]; rfl
  simp only [List.filter_cons, List.filter_nil, this, hb, Bool.false_eq_true, if_false, List.map_nil, List.append_nil]
theorem diffK_len (tg : List Int) (has : List (List Int)) (id : Int) (k : Nat) : (diffK tg has id k).length ≤ k := by
  unfold diffK; rw [List.length_map]; have := List.length_filter_le (fun i => (has.getD i []).contains id != tg.contains id) (List.range k); rw [List.length_range] at this; exact this
/-! ### Needs by IDs -/
def needV (p : Pt) : Value := .slice p.a p.n p.c
def nmM (ps : List Pt) : List (Int × Pt) := ps.map fun p => (p.id, p)
theorem nmM_get {ps : List Pt} (h : Lst ps) {p : Pt} (hp : p ∈ ps) : mget (nmM ps) p.id = some p := by
  have hn : ((nmM ps).map (·.1)).Nodup := by
    unfold nmM
    rw [List.map_map]
    exact List.pairwise_map.2 (h.inc.imp fun {a b} h => by show a.id ≠ b.id; omega)
  exact mget_at (p := (p.id, p)) hn (List.mem_map.2 ⟨p, hp, rfl⟩)
theorem nmM_step {ps : List Pt} (h : Lst ps) {k : Nat} {p : Pt} (hp : ps[k]? = some p) : mset (nmM (ps.take k)) p.id p = nmM (ps.take (k + 1)) := by
  have hno : mget (nmM (ps.take k)) p.id = none := mget_none.2 fun hm => by
    unfold nmM at hm
    rw [List.map_map] at hm
    obtain ⟨q, hq, e⟩ := List.mem_map.1 hm
    obtain ⟨i, hi⟩ := List.mem_iff_getElem?.1 hq
    have hik : i < k := by have := (List.getElem?_eq_some_iff.1 hi).1; rw [List.length_take] at this; omega
    rw [List.getElem?_take_of_lt hik] at hi
    have hk1 := (List.getElem?_eq_some_iff.1 hp).1
    have := List.pairwise_iff_getElem.1 h.inc i k (by omega) hk1 hik
    rw [(List.getElem?_eq_some_iff.1 hi).2, (List.getElem?_eq_some_iff.1 hp).2] at this
    have e : q.id = p.id := e
    omega
  rw [mset_add hno, List.take_add_one, hp]
  unfold nmM; rw [List.map_append]; rfl
/-! ### The sessions so far, by their patches' IDs -/
def atM (ks : List Pt) : List (Int × Int) := (List.range ks.length).map fun i => ((ks.getD i zeroP).id, (i : Int))
theorem atM_snoc (ks : List Pt) (p : Pt) : atM (ks ++ [p]) = atM ks ++ [(p.id, (ks.length : Int))] := by
  unfold atM
  rw [List.length_append, List.length_singleton, List.range_succ, List.map_append]
  congr 1
  · refine List.map_congr_left fun i hi => ?_
    have hi := List.mem_range.1 hi
    rw [List.getD_eq_getElem?_getD, List.getElem?_append_left hi, ← List.getD_eq_getElem?_getD]
  · simp
theorem atM_at {ks : List Pt} {i : Nat} {q : Int × Int} (h : (atM ks)[i]? = some q) : ∃ p, ks[i]? = some p ∧ q = (p.id, (i : Int)) := by
  unfold atM at h
  rw [List.getElem?_map, Option.map_eq_some_iff] at h
  obtain ⟨j, hj, rfl⟩ := h
  have hi : i < ks.length := by
    have := (List.getElem?_eq_some_iff.1 hj).1; rwa [List.length_range] at this
  rw [List.getElem?_range hi] at hj
  cases hj
  exact ⟨ks[i], List.getElem?_eq_getElem hi, by rw [List.getD_eq_getElem?_getD, List.getElem?_eq_getElem hi]; rfl⟩
theorem atM_len (ks : List Pt) : (atM ks).length = ks.length := by unfold atM; simp
theorem atM_new {ks : List Pt} {p : Pt} (h : p.id ∉ ks.map (·.id)) : mset (atM ks) p.id (ks.length : Int) = atM (ks ++ [p]) := by
  rw [atM_snoc]
  refine mset_add (mget_none.2 fun hm => h ?_)
  obtain ⟨q, hq, e⟩ := List.mem_map.1 hm
  obtain ⟨i, hi⟩ := List.mem_iff_getElem?.1 hq
  obtain ⟨r, hr, rfl⟩ := atM_at hi
  exact List.mem_map.2 ⟨r, List.mem_of_getElem? hr, e⟩
/-- Does the session of p need the one of q? -/
def ndY (tg : List Int) (p q : Pt) : Bool := if tg.contains p.id then p.needs.contains q.id else q.needs.contains p.id
/-- The places gathered, in the order in which they were seen. -/
def gthN (tg : List Int) (ks : List Pt) (p : Pt) (seen : List Nat) : List Int := seen.flatMap fun (i : Nat) => match ks[i]? with | some q => if ndY tg p q then [(i : Int)] else [] | none => []
theorem gthN_yes {tg : List Int} {ks : List Pt} {p q : Pt} {seen : List Nat} {i : Nat} (h : ks[i]? = some q) (hb : ndY tg p q = true) : gthN tg ks p (seen ++ [i]) = gthN tg ks p seen ++ [(i : Int)] := by
  unfold gthN; rw [List.flatMap_append]; simp [h, hb]
theorem gthN_no {tg : List Int} {ks : List Pt} {p q : Pt} {seen : List Nat} {i : Nat} (h : ks[i]? = some q) (hb : ndY tg p q = false) : gthN tg ks p (seen ++ [i]) = gthN tg ks p seen := by
  unfold gthN; rw [List.flatMap_append]; simp [h, hb]
theorem gthN_len {tg : List Int} {ks : List Pt} {p : Pt} : ∀ (seen : List Nat), (gthN tg ks p seen).length ≤ seen.length
  | [] => by simp [gthN]
  | i :: seen => by
    have := gthN_len (tg := tg) (ks := ks) (p := p) seen
    unfold gthN at *
    rw [List.flatMap_cons, List.length_append, List.length_cons]
    have h1 : (match ks[i]? with | some q => if ndY tg p q then [(i : Int)] else [] | none => ([] : List Int)).length ≤ 1 := by
      cases ks[i]? with
      | none => simp
      | some q => by_cases e : ndY tg p q <;> simp [e]
    omega
theorem gthN_all {tg : List Int} {ks : List Pt} {p : Pt} {seen : List Nat} (hnd : seen.Nodup) (hlt : ∀ i ∈ seen, i < (atM ks).length) (hall : ∀ (i : Nat) (q : Int × Int), (atM ks)[i]? = some q → i ∈ seen) : (gthN tg ks p seen).Perm (ndW tg ks p) := by
  have h1 := seen_perm hnd hlt hall
  rw [atM_len] at h1
  refine (h1.flatMap_right _).trans (List.Perm.of_eq ?_)
  unfold ndW
  have key : ∀ l : List Nat, (∀ i ∈ l, i < ks.length) → (l.flatMap fun (i : Nat) => match ks[i]? with | some q => if ndY tg p q then [(i : Int)] else [] | none => []) = (l.filter fun k => if tg.contains p.id then p.needs.contains (ks.getD k zeroP).id else (ks.getD k zeroP).needs.contains p.id).map fun (k : Nat) => (k : Int) := by
    intro l
    induction l with
    | nil => intro _; rfl
    | cons i l ih =>
      intro h
      have hi := h i (by simp)
      rw [List.flatMap_cons, ih fun j hj => h j (by simp [hj]), List.getElem?_eq_getElem hi, List.filter_cons]
      have e : ks.getD i zeroP = ks[i] := by rw [List.getD_eq_getElem?_getD, List.getElem?_eq_getElem hi]; rfl
      rw [e]
      unfold ndY
      simp only []
      split
      · rename_i h1; split
        · rfl
        · rfl
      · rename_i h1; split
        · rfl
        · rfl
  exact key _ fun i hi => List.mem_range.1 hi
theorem sort_ndW {tg : List Int} {ks : List Pt} {p : Pt} {zs : List Int} (h : zs.Perm (ndW tg ks p)) : sortI zs = ndW tg ks p := by
  refine List.Perm.eq_of_pairwise (le := (· ≤ ·)) (fun a b _ _ h1 h2 => by omega) ?_ ((ndW_inc tg ks p).imp fun h => by omega) ((List.mergeSort_perm _ _).trans h)
  have := List.pairwise_mergeSort (le := fun a b : Int => decide (a ≤ b)) (fun a b c h1 h2 => by simp at *; omega) (fun a b => by simp; omega) zs
  exact this.imp fun h => by simpa using h
/-- The patches with a session among the first of the order. -/
def kpP (tg : List Int) (has : List (List Int)) (os : List Pt) (k : Nat) : List Pt := (os.take k).filter fun p => !(diffW tg has p.id).isEmpty
theorem kpP_yes {tg : List Int} {has : List (List Int)} {os : List Pt} {k : Nat} {p : Pt} (h : os[k]? = some p) (hb : diffW tg has p.id ≠ []) : kpP tg has os (k + 1) = kpP tg has os k ++ [p] := by
  unfold kpP
  rw [List.take_add_one, h, List.filter_append]
  have : (diffW tg has p.id).isEmpty = false := by cases e : diffW tg has p.id with | nil => exact absurd e hb | cons a l => rfl
  simp [this]
theorem kpP_no {tg : List Int} {has : List (List Int)} {os : List Pt} {k : Nat} {p : Pt} (h : os[k]? = some p) (hb : diffW tg has p.id = []) : kpP tg has os (k + 1) = kpP tg has os k := by
  unfold kpP
  rw [List.take_add_one, h, List.filter_append]
  simp [hb]
theorem kpP_all {ps : List Pt} {tg : List Int} {has : List (List Int)} {k : Nat} (h : (ordP ps tg).length ≤ k) : kpP tg has (ordP ps tg) k = keptP ps tg has := by
  unfold kpP keptP; rw [List.take_of_length_le h]
theorem kpP_len {tg : List Int} {has : List (List Int)} {os : List Pt} {k : Nat} : (kpP tg has os k).length ≤ os.length := by
  unfold kpP
  refine Nat.le_trans (List.length_filter_le _ _) ?_
  rw [List.length_take]; omega
theorem kpP_sub {tg : List Int} {has : List (List Int)} {os : List Pt} {k : Nat} {p : Pt} (h : p ∈ kpP tg has os k) : p ∈ os := List.mem_of_mem_take (List.mem_filter.1 h).1
theorem kpP_new {tg : List Int} {has : List (List Int)} {ps : List Pt} (hL : Lst ps) {k : Nat} {p : Pt} (h : (ordP ps tg)[k]? = some p) : p.id ∉ (kpP tg has (ordP ps tg) k).map (·.id) := fun hm => by
  obtain ⟨q, hq, e⟩ := List.mem_map.1 hm
  unfold kpP at hq
  obtain ⟨i, hi⟩ := List.mem_iff_getElem?.1 (List.mem_filter.1 hq).1
  have hik : i < k := by have := (List.getElem?_eq_some_iff.1 hi).1; rw [List.length_take] at this; omega
  rw [List.getElem?_take_of_lt hik] at hi
  have hk1 := (List.getElem?_eq_some_iff.1 h).1
  have := bef_ne (List.pairwise_iff_getElem.1 (ordP_bef hL tg) i k (by omega) hk1 hik)
  rw [(List.getElem?_eq_some_iff.1 hi).2, (List.getElem?_eq_some_iff.1 h).2] at this
  exact this e
theorem ordP_len (ps : List Pt) (tg : List Int) : (ordP ps tg).length = ps.length := by
  unfold ordP
  rw [List.length_append, List.length_reverse]
  have key : ∀ l : List Pt, (l.filter fun p => !tg.contains p.id).length + (l.filter fun p => tg.contains p.id).length = l.length := by
    intro l
    induction l with
    | nil => rfl
    | cons a l ih =>
      rw [List.filter_cons, List.filter_cons]
      cases tg.contains a.id
      · simp only [Bool.not_false, if_true, Bool.false_eq_true, if_false, List.length_cons]; omega
      · simp only [Bool.not_true, if_true, Bool.false_eq_true, if_false, List.length_cons]; omega
  exact key ps
/-! ### What From gives -/
def fromR (ps : List Pt) (tg : List Int) (has : List (List Int)) : List Ses := if fromE ps tg has = 0 then fromL ps tg has else []
def FroQ (ps : List Pt) (tg : List Int) (has : List (List Int)) : Value → HMap → Go.Kn.Loc → Prop := fun v I' L' => L' = [] ∧ ∃ a c, v = .tuple #[.slice a (fromR ps tg has).length c, .int .i64 (fromE ps tg has)] ∧ SlS I' a (fromR ps tg has).length c (fromR ps tg has)
theorem SlS.nil {I : HMap} {c : Nat} : SlS I none 0 c [] := ⟨[], Sl.nil, RelS.nil⟩
theorem FroQ.bad {ps : List Pt} {tg : List Int} {has : List (List Int)} {e : Int} {I : HMap} (h : fromE ps tg has = e) (he : e ≠ 0) : FroQ ps tg has (.tuple #[.slice none 0 0, .int .i64 e]) I [] := by
  have e1 : fromR ps tg has = [] := by unfold fromR; rw [if_neg (by omega)]
  refine ⟨rfl, none, 0, ?_, ?_⟩
  · rw [e1, h]; rfl
  · rw [e1]; exact SlS.nil
theorem FroQ.good {ps : List Pt} {tg : List Int} {has : List (List Int)} {I : HMap} {a : Option Addr} {n c : Nat} (h : fromE ps tg has = 0) (hS : SlS I a n c (fromL ps tg has)) : FroQ ps tg has (.tuple #[.slice a n c, .int .i64 0]) I [] := by
  have e1 : fromR ps tg has = fromL ps tg has := by unfold fromR; rw [if_pos h]
  refine ⟨rfl, a, c, ?_, ?_⟩
  · rw [e1, h, hS.len]
  · rw [e1, hS.len]; exact hS
theorem fromE_1 {ps : List Pt} {tg : List Int} {has : List (List Int)} (h : chkR ps ≠ 0) : fromE ps tg has = chkR ps := by unfold fromE; rw [if_pos h]
theorem fromE_2 {ps : List Pt} {tg : List Int} {has : List (List Int)} (h : chkR ps = 0) (g : has.length > 6) : fromE ps tg has = 2 := by unfold fromE; rw [if_neg (by omega), if_pos g]
theorem fromE_3 {ps : List Pt} {tg : List Int} {has : List (List Int)} (h : chkR ps = 0) (g : ¬ has.length > 6) (q : (tg :: has).all (verF ps) = false) : fromE ps tg has = 400 := by unfold fromE; rw [if_neg (by omega), if_neg g, if_neg (by rw [q]; decide)]
theorem fromE_4 {ps : List Pt} {tg : List Int} {has : List (List Int)} (h : chkR ps = 0) (g : ¬ has.length > 6) (q : (tg :: has).all (verF ps) = true) : fromE ps tg has = if (fromL ps tg has).length > 8 then 2 else 0 := by unfold fromE; rw [if_neg (by omega), if_neg g, if_pos q]
theorem all_take {α : Type} {xs : List α} {k : Nat} {x : α} {p : α → Bool} (hx : xs[k]? = some x) (h : (xs.take k).all p = true) (hp : p x = true) : (xs.take (k + 1)).all p = true := by
  rw [List.take_add_one, hx, List.all_append, h]; simp [hp]
theorem all_bad {α : Type} {xs : List α} {k : Nat} {x : α} {p : α → Bool} (hx : xs[k]? = some x) (hp : p x = false) : xs.all p = false := by
  rw [List.all_eq_false]; exact ⟨x, List.mem_of_getElem? hx, by rw [hp]; decide⟩
theorem ver_val {ps : List Pt} (h : chkR ps = 0) (v : List Int) : verF ps v = !((cloE ps v != 0) || !(resF (cloE ps v) (cloF ps v) == v)) := by
  unfold verF
  by_cases e : cloE ps v = 0
  · rw [e]; simp [resF]
  · have h1 : (cloE ps v == 0) = false := by simpa using e
    have h2 : (cloE ps v != 0) = true := by simpa using e
    rw [h1, h2]; rfl
end Go.Proofs.YtclkmnidgdkekaaGreat
namespace Go.Proofs.YtclkmnidgdkekaaGreat
open Go Go.Kn Go.Proofs
theorem clo_len_le (ps : List Pt) (v : List Int) : (resF (cloE ps v) (cloF ps v)).length ≤ ps.length := by
  unfold resF
  split
  · simp
  · unfold cloF; rw [List.length_map]; exact List.length_filter_le _ _
theorem ndY_val {tg : List Int} {p q : Pt} {b : Bool} (h : b = (tg.contains p.id && p.needs.contains q.id || !tg.contains p.id && q.needs.contains p.id)) : b = ndY tg p q := by
  rw [h]; unfold ndY; cases tg.contains p.id <;> simp
end Go.Proofs.YtclkmnidgdkekaaGreat
end
section
namespace Go.Proofs.YtclkmnidgdkekaaGreat
open Go Go.Kn Go.Proofs
theorem w_index {I : HMap} {av : Option Addr} {n c : Nat} {xs : List Int} (hS : Sl I 1 encI av n c xs) (hn : n ≤ 100000) (v : Int) : RetV Tryz.prog 63 [.slice av n c, .int .i64 v] I (.int .i64 (idxF (fun y => y == v) xs)) := by
 intro g H w hw
 refine enter Tryz.func63 rfl Tryz.ntmps63 rfl hw ?_
 refine zR ?_
 refine zA ?_
 refine zN ?_
 refine X_seq ?_
 refine zR ?_
 refine zM ?_
 refine zQ slt_24 ?_
 refine zM ?_
 refine zN ?_
 refine X_block ?_
 refine X_loopT [(0, _), (1, _), (7, _)] (.cons rfl (.cons rfl (.cons rfl .nil))) (fun T L0 mz E I' loc' => ∃ (k : Nat), mz = n - k ∧ E = (8, .int .i64 k) :: T ∧ I = I' ∧ L0 = loc' ∧ k ≤ n ∧ (xs.take k).any (fun y => y == v) = false) _ _ _ _ ⟨0, rfl, rfl, rfl, rfl, Nat.zero_le _, rfl⟩ (.cons rfl (.cons rfl (.cons rfl (.cons rfl .nil)))) (HLe.refl _) rfl ?_
 rintro mz E I' loc' ⟨k, rfl, rfl, rfl, rfl, hk, hno⟩
 refine zR ?_
 refine zC ?_
 refine zN ?_
 refine X_seq ?_
 refine zI ?_ ?_ <;> intro hc9
 ·
  have hlt_k : k < n := by have h := hc9; simp at h; omega
  obtain ⟨x, hx⟩ := hS.at hlt_k
  refine X_skip ?_
  refine at_then ?_
  refine X_seq ?_
  refine X_block ?_
  refine zR ?_
  refine zM ?_
  refine zA ?_
  refine zN (zR ?_)
  refine zM ?_
  refine zM ?_
  refine zM ?_
  refine zV (ev_indexSl rfl rfl slt_24 (by assumption) (fun hg => by omega)) ?_
  refine zV (ev_load rfl sct_3 (fun hg => by exact Sl.get0 hS hx rfl)) ?_
  refine zC ?_
  refine zN ?_
  refine zI ?_ ?_ <;> intro hc16
  ·
   refine zR ?_
   refine zM ?_
   refine zA ?_
   refine zN ?_
   refine X_ret ?_
   refine at_block_r ?_
   refine at_then_r ?_
   refine at_then_r ?_
   refine at_block_r ?_
   refine at_then_r ?_
   first
   | exact at_ret1 rfl rfl (fun w hw => ⟨by rw [idx_hit hno hx (by rw [beq_symmI]; exact hc16)], hw.drop⟩)
  refine X_skip ?_
  refine at_block_n ?_
  refine at_then ?_
  refine X_region ?_
  refine zV (ev_arB rfl rfl rfl (fun _ => by omega)) ?_
  refine zM ?_
  refine XO_nil ?_
  exact at_met2 _ _ ⟨n - (k + 1), by omega, k + 1, rfl, rfl, rfl, rfl, by omega, any_no hx hno (by rw [beq_symmI]; exact hc16)⟩ (.cons rfl (.cons rfl (.cons rfl (.cons rfl .nil)))) (by repeat (first | exact .refl | exact subL_left | refine subL_app ?_ | refine .drop ?_ | refine subL_add ?_))
 have hge_k : n ≤ k := by have h := hc9; simp at h; omega
 refine X_exit ?_
 refine at_then_e ?_
 refine at_then_e ?_
 refine at_block_hit ?_
 refine at_then ?_
 refine zR ?_
 refine zA ?_
 refine zN ?_
 refine X_ret ?_
 exact at_ret1 rfl rfl (fun w hw => ⟨by rw [idx_none hS.len hge_k hno], hw.drop⟩)
theorem w_contains {I : HMap} {av : Option Addr} {n c : Nat} {xs : List Int} (hS : Sl I 1 encI av n c xs) (hn : n ≤ 100000) (v : Int) : RetV Tryz.prog 30 [.slice av n c, .int .i64 v] I (.bool (xs.contains v)) := by
 intro g H w hw
 refine enter Tryz.func30 rfl Tryz.ntmps30 rfl hw ?_
 refine zR ?_
 refine zA ?_
 refine zN (zR ?_)
 refine zM ?_
 refine zM ?_
 refine XO_callV0 (cap := []) (vs := [_, _]) rfl rfl fun_63 (w_index hS hn v) rfl rfl ?_
 refine zC ?_
 refine zA ?_
 refine zN ?_
 refine X_ret ?_
 exact at_ret1 rfl rfl (fun w hw => ⟨by rw [any_contI, ← idx_any], hw.drop⟩)
theorem w_equalI {I : HMap} {av : Option Addr} {n c : Nat} {xs : List Int} (hS : Sl I 1 encI av n c xs) {bv : Option Addr} {n2 c2 : Nat} {ys : List Int} (hT : Sl I 1 encI bv n2 c2 ys) (hn : n ≤ 100000) : RetV Tryz.prog 25 [.slice av n c, .slice bv n2 c2] I (.bool (xs == ys)) := by
 intro g H w hw
 refine enter Tryz.func25 rfl Tryz.ntmps25 rfl hw ?_
 have hl1 := hS.len
 have hl2 := hT.len
 refine zR ?_
 refine zA ?_
 refine zN ?_
 refine X_seq ?_
 refine zR ?_
 refine zM ?_
 refine zQ slt_24 ?_
 refine zM ?_
 refine zQ slt_24 ?_
 refine zC ?_
 refine zN ?_
 refine zI ?_ ?_ <;> intro hc10
 ·
  have hne : xs ≠ ys := fun e => by have h := hc10; subst e; simp at h; omega
  refine zR ?_
  refine zA ?_
  refine zN ?_
  refine X_ret ?_
  refine at_then_r ?_
  exact at_ret1 rfl rfl (fun w hw => ⟨by rw [beq_eq_false_iff_ne.2 hne], hw.drop⟩)
 have hnn : n = n2 := by have h := hc10; simp at h; omega
 refine X_skip ?_
 refine at_then ?_
 refine X_seq ?_
 refine zR ?_
 refine zM ?_
 refine zQ slt_24 ?_
 refine zM ?_
 refine zN ?_
 refine X_block ?_
 refine X_loopT [(0, _), (1, _), (12, _)] (.cons rfl (.cons rfl (.cons rfl .nil))) (fun T L0 mz E I' loc' => ∃ (k : Nat), mz = n - k ∧ E = (13, .int .i64 k) :: T ∧ I = I' ∧ L0 = loc' ∧ k ≤ n ∧ xs.take k = ys.take k) _ _ _ _ ⟨0, rfl, rfl, rfl, rfl, Nat.zero_le _, rfl⟩ (.cons rfl (.cons rfl (.cons rfl (.cons rfl .nil)))) (HLe.refl _) rfl ?_
 rintro mz E I' loc' ⟨k, rfl, rfl, rfl, rfl, hk, hall⟩
 refine zR ?_
 refine zC ?_
 refine zN ?_
 refine X_seq ?_
 refine zI ?_ ?_ <;> intro hc14
 ·
  have hlt_k : k < n := by have h := hc14; simp at h; omega
  obtain ⟨x, hx⟩ := hS.at hlt_k
  obtain ⟨y, hy⟩ := hT.at (show k < n2 by omega)
  refine X_skip ?_
  refine at_then ?_
  refine X_seq ?_
  refine X_block ?_
  refine zR ?_
  refine zM ?_
  refine zA ?_
  refine zN ?_
  refine X_seq ?_
  refine X_draw mixed (by kernel_rfl) ?_
  refine XQ_v0 (ev_move rfl) rfl rfl rfl ?_
  refine XQ_v0 (ev_move rfl) rfl rfl rfl ?_
  refine XQ_v0 (ev_indexSl rfl rfl slt_24 hS (fun hg => by omega)) rfl rfl rfl ?_
  refine XQ_v0 (ev_load rfl sct_3 (fun hg => by exact Sl.get0 hS hx rfl)) rfl rfl rfl ?_
  refine XQ_v0 (ev_move rfl) rfl rfl rfl ?_
  refine XQ_v0 (ev_move rfl) rfl rfl rfl ?_
  refine XQ_v0 (ev_indexSl rfl rfl slt_24 hT (fun hg => by omega)) rfl rfl rfl ?_
  refine XQ_v0 (ev_load rfl sct_3 (fun hg => by exact Sl.get0 hT hy rfl)) rfl rfl rfl ?_
  refine XQ_v0 (ev_cmp rfl rfl rfl) rfl rfl rfl ?_
  refine XQ_nil ?_
  refine at_then ?_
  refine zI ?_ ?_ <;> intro hc24
  ·
   have hne : xs ≠ ys := fun e => by subst e; rw [hx] at hy; cases hy; simp at hc24
   refine zR ?_
   refine zA ?_
   refine zN ?_
   refine X_ret ?_
   refine at_block_r ?_
   refine at_then_r ?_
   refine at_then_r ?_
   refine at_block_r ?_
   refine at_then_r ?_
   exact at_ret1 rfl rfl (fun w hw => ⟨by rw [beq_eq_false_iff_ne.2 hne], hw.drop⟩)
  have hxy : x = y := by simpa using hc24
  refine X_skip ?_
  refine at_block_n ?_
  refine at_then ?_
  refine X_region ?_
  refine zV (ev_arB rfl rfl rfl (fun _ => by omega)) ?_
  refine zM ?_
  refine XO_nil ?_
  exact at_met2 _ _ ⟨n - (k + 1), by omega, k + 1, rfl, rfl, rfl, rfl, by omega, by rw [List.take_add_one, List.take_add_one, hall, hx, hy, hxy]⟩ (.cons rfl (.cons rfl (.cons rfl (.cons rfl .nil)))) (by repeat (first | exact .refl | exact subL_left | refine subL_app ?_ | refine .drop ?_ | refine subL_add ?_))
 have hge_k : n ≤ k := by have h := hc14; simp at h; omega
 have heq : xs = ys := by rw [List.take_of_length_le (by omega), List.take_of_length_le (by omega)] at hall; exact hall
 refine X_exit ?_
 refine at_then_e ?_
 refine at_then_e ?_
 refine at_block_hit ?_
 refine at_then ?_
 refine zR ?_
 refine zA ?_
 refine zN ?_
 refine X_ret ?_
 exact at_ret1 rfl rfl (fun w hw => ⟨by rw [beq_iff_eq.2 heq], hw.drop⟩)
theorem w_in {I : HMap} {av : Option Addr} {n c : Nat} {xs : List Int} (hS : Sl I 1 encI av n c xs) (hn : n ≤ 100000) (hs9 : xs.Pairwise (· < ·)) (v : Int) : RetV Tryz.prog 26 [.slice av n c, .int .i64 v] I (.bool (xs.contains v)) := by
 intro g H w hw
 refine enter Tryz.func26 rfl Tryz.ntmps26 rfl hw ?_
 refine zR ?_
 refine zA ?_
 refine zN (zR ?_)
 refine zM ?_
 refine zM ?_
 refine XO_callV0 (cap := []) (vs := [_, _]) rfl rfl fun_27 (w_bsI hS hn hs9 v) rfl rfl ?_
 refine zM ?_
 refine zE ?_
 refine zE ?_
 refine zA ?_
 refine zA ?_
 refine zN (zR ?_)
 refine zM ?_
 refine zA ?_
 refine zN ?_
 refine X_ret ?_
 exact at_ret1 rfl rfl (fun w hw => ⟨by rw [any_contI]; rfl, hw.drop⟩)
theorem w_growH (I : HMap) (k : Nat) (hk : k ≤ 100000) : RetM Tryz.prog 58 [.slice none 0 0, .int .i64 k] I [] (fun v I' L => I' = I ∧ OwnS 24 1 v 0 [] L) := by
 intro g H w hw
 refine enter Tryz.func58 rfl Tryz.ntmps58 rfl hw ?_
 refine zR ?_
 refine zA ?_
 refine zN ?_
 refine X_seq ?_
 refine zR ?_
 refine zM ?_
 refine zC ?_
 refine zN ?_
 refine zI ?_ ?_ <;> intro hc6
 ·
  have h := hc6; simp at h; omega
 refine X_skip ?_
 refine at_then ?_
 refine X_seq ?_
 refine zR ?_
 refine zM ?_
 refine zM ?_
 refine zV (ev_cap rfl slt_23) ?_
 refine zM ?_
 refine zQ slt_23 ?_
 refine zV (ev_arB rfl rfl rfl (fun _ => by omega)) ?_
 refine zV (ev_arB rfl rfl rfl (fun _ => by omega)) ?_
 refine zA ?_
 refine zN (zR ?_)
 refine zM ?_
 refine zC ?_
 refine zN ?_
 refine zI ?_ ?_ <;> intro hc16
 ·
  have hk1 : 0 < k := by have h := hc16; simp at h; omega
  refine X_region ?_
  refine zM ?_
  refine zM ?_
  refine zV (ev_cap rfl slt_23) ?_
  refine zV (ev_sliceHi rfl rfl slt_23 (fun hg => by omega)) ?_
  refine zM ?_
  refine XO_appendZ0 rfl rfl elt_23 und_3 (by omega) (by decide) (by omega) rfl rfl (fun b9 c9 zs9 hz1 hz2 hz3 => ?_)
  refine zM ?_
  refine zQ slt_23 ?_
  refine zV (ev_sliceHi rfl rfl slt_23 (fun hg => by omega)) ?_
  refine zA ?_
  refine zN (zR ?_)
  refine zM ?_
  refine zA ?_
  refine zN ?_
  refine X_ret ?_
  exact at_ret1 rfl rfl (fun w hw => ⟨_, I, _, rfl, HLe.refl _, hw, rfl, rfl, .inr ⟨b9, c9, zs9.toArray, rfl, rfl, Nat.zero_le _, hz2, by simpa using hz3, by simp⟩⟩)
 have hk0 : k = 0 := by have h := hc16; simp at h; omega
 refine X_skip ?_
 refine at_then ?_
 refine zR ?_
 refine zM ?_
 refine zA ?_
 refine zN ?_
 refine X_ret ?_
 exact at_ret1 rfl rfl (fun w hw => ⟨_, I, [], rfl, HLe.refl _, hw, rfl, OwnS.nil⟩)
theorem w_concatH {I : HMap} {av : Option Addr} {n c : Nat} {hs : List Hd} {vss : List (List Hd)} (hV : SlHA I 1 encH av n c hs vss) (hn : n ≤ 100000) (hf : vss.flatten.length ≤ 100000) : RetM Tryz.prog 23 [.slice av n c] I [] (fun v I' L => I' = I ∧ OwnS 24 1 v vss.flatten.length (vss.flatten.flatMap encH) L) := by
 intro g H w hw
 refine enter Tryz.func23 rfl Tryz.ntmps23 rfl hw ?_
 have hH := hV.1
 have hlV := hV.len
 refine zR ?_
 refine zA ?_
 refine zN (zR ?_)
 refine zA ?_
 refine zN ?_
 refine X_seq ?_
 refine zR ?_
 refine zM ?_
 refine zQ slt_116 ?_
 refine zM ?_
 refine zN ?_
 refine X_block ?_
 refine X_loopT [(0, _), (9, _), (10, _)] (.cons rfl (.cons rfl (.cons rfl .nil))) (fun T L0 mz E I' loc' => ∃ (k : Nat), mz = n - k ∧ E = (3, .int .i64 ((vss.take k).flatten.length : Nat)) :: (11, .int .i64 k) :: T ∧ I = I' ∧ [] = loc' ∧ k ≤ n) _ _ _ _ ⟨0, rfl, rfl, rfl, rfl, Nat.zero_le _⟩ (.cons rfl (.cons rfl (.cons rfl (.cons rfl (.cons rfl .nil))))) (HLe.refl _) rfl ?_
 rintro mz E I' loc' ⟨k, rfl, rfl, rfl, rfl, hk⟩
 refine zR ?_
 refine zC ?_
 refine zN ?_
 refine X_seq ?_
 refine zI ?_ ?_ <;> intro hc12
 ·
  have hlt_k : k < n := by have h := hc12; simp at h; omega
  obtain ⟨x, v, hx, hv, hQ⟩ := hV.at hlt_k
  have hfs := flat_step hv
  have hfs2 : (vss.take (k + 1)).flatten.length = (vss.take k).flatten.length + x.n := by rw [hfs, List.length_append, hQ.len]
  refine X_skip ?_
  refine at_then ?_
  refine X_seq ?_
  refine X_block ?_
  refine zR ?_
  refine zV (ev_indexSl rfl rfl slt_116 hH (fun hg => by omega)) ?_
  refine zV (ev_load rfl sct_23 (fun hg => by exact Sl.get0 hH hx rfl)) ?_
  refine zA ?_
  refine zN (zR ?_)
  refine zM ?_
  refine zM ?_
  refine zQ slt_23 ?_
  refine zV (ev_arB rfl rfl rfl (fun _ => by (have hfl := flat_le (vss := vss) k; have hfl2 := flat_le (vss := vss) (k + 1); omega))) ?_
  refine zA ?_
  refine zN (zR ?_)
  refine zM ?_
  refine zC ?_
  refine zN ?_
  refine zI ?_ ?_ <;> intro hc20
  ·
   have h := hc20; simp at h; omega
  rw [show (((vss.take k).flatten.length : Nat) : Int) + (x.n : Int) = (((vss.take (k + 1)).flatten.length : Nat) : Int) from by omega]
  refine X_skip ?_
  refine at_block_n ?_
  refine at_then ?_
  refine X_region ?_
  refine zV (ev_arB rfl rfl rfl (fun _ => by omega)) ?_
  refine zM ?_
  refine XO_nil ?_
  exact at_met2 _ _ ⟨n - (k + 1), by omega, k + 1, rfl, rfl, rfl, rfl, by omega⟩ (.cons rfl (.cons rfl (.cons rfl (.cons rfl (.cons rfl .nil))))) (by repeat (first | exact .refl | exact subL_left | refine subL_app ?_ | refine .drop ?_ | refine subL_add ?_))
 have hge_k : n ≤ k := by have h := hc12; simp at h; omega
 rw [List.take_of_length_le (show vss.length ≤ k by omega)]
 refine X_exit ?_
 refine at_then_e ?_
 refine at_then_e ?_
 refine at_block_hit ?_
 refine at_then ?_
 refine zR ?_
 refine zM ?_
 refine XO_callM (cap := []) (vs := [_, _]) rfl rfl fun_58 .nil (w_growH _ vss.flatten.length (by omega)) rfl rfl ?_
 rintro vv2 I2 L2 hI2 ⟨rfl, hG⟩
 rw [List.append_nil]
 refine zA ?_
 refine zN ?_
 refine X_seq ?_
 refine zR ?_
 refine zM ?_
 refine zQ slt_116 ?_
 refine zM ?_
 refine zN ?_
 refine X_block ?_
 refine X_loopT [(25, _), (26, _)] (.cons rfl (.cons rfl .nil)) (fun T L0 mz E I' loc' => ∃ (k : Nat) (v6 : Value) (L : Go.Kn.Loc), mz = n - k ∧ E = (6, v6) :: (27, .int .i64 k) :: T ∧ I2 = I' ∧ L = loc' ∧ k ≤ n ∧ OwnS 24 1 v6 (vss.take k).flatten.length ((vss.take k).flatten.flatMap encH) L) _ _ _ _ ⟨0, _, _, rfl, rfl, rfl, rfl, Nat.zero_le _, hG⟩ (.cons rfl (.cons rfl (.cons rfl (.cons rfl .nil)))) (HLe.refl _) rfl ?_
 rintro mz E I' loc' ⟨k, v6, L, rfl, rfl, rfl, rfl, hk, hO⟩
 refine zR ?_
 refine zC ?_
 refine zN ?_
 refine X_seq ?_
 refine zI ?_ ?_ <;> intro hc28
 ·
  have hlt_k : k < n := by have h := hc28; simp at h; omega
  obtain ⟨x, v, hx, hv, hQ⟩ := hV.at hlt_k
  have hxl := hQ.len
  have hfl := flat_le (vss := vss) (k + 1)
  rw [flat_step hv, List.length_append] at hfl
  refine X_skip ?_
  refine at_then ?_
  refine X_seq ?_
  refine X_block ?_
  refine zR ?_
  refine zV (ev_indexSl rfl rfl slt_116 hH (fun hg => by omega)) ?_
  refine zV (ev_load rfl sct_23 (fun hg => by exact Sl.get0 hH hx rfl)) ?_
  refine zA ?_
  refine zN ?_
  refine X_region ?_
  refine zM ?_
  refine zM ?_
  refine XO_append (v := _) (ys := v.flatMap encH) (L := L) rfl rfl elt_23 hO (by repeat (first | exact .cons .here .nil | exact split_all | exact split_app | apply split_cons | apply split_skip)) (hQ.src encH_len) (one_H _) (by omega) rfl rfl ?_
  intro v9 L9 hO9 _; rw [← List.flatMap_append] at hO9
  refine zA ?_
  refine XO_nil ?_
  refine at_block_n ?_
  refine at_then ?_
  refine X_region ?_
  refine zV (ev_arB rfl rfl rfl (fun _ => by omega)) ?_
  refine zM ?_
  refine XO_nil ?_
  exact at_met2 _ _ ⟨n - (k + 1), by omega, k + 1, _, _, rfl, rfl, rfl, rfl, by omega, by rw [flat_step hv, List.length_append, hQ.len]; exact hO9⟩ (.cons rfl (.cons rfl (.cons rfl (.cons rfl .nil)))) (by repeat (first | exact .refl | exact subL_left | refine subL_app ?_ | refine .drop ?_ | refine subL_add ?_))
 have hge_k : n ≤ k := by have h := hc28; simp at h; omega
 rw [List.take_of_length_le (show vss.length ≤ k by omega)] at hO
 refine X_exit ?_
 refine at_then_e ?_
 refine at_then_e ?_
 refine at_block_hit ?_
 refine at_then ?_
 refine zR ?_
 refine zM ?_
 refine zA ?_
 refine zN ?_
 refine X_ret ?_
 exact at_ret1 rfl rfl (fun w hw => ⟨_, _, L, rfl, HLe.refl _, hw, rfl, hO⟩)
theorem w_growP (I : HMap) (k : Nat) (hk : k ≤ 100000) : RetM Tryz.prog 62 [.slice none 0 0, .int .i64 k] I [] (fun v I' L => I' = I ∧ OwnS 66 19 v 0 [] L) := by
 intro g H w hw
 refine enter Tryz.func62 rfl Tryz.ntmps62 rfl hw ?_
 refine zR ?_
 refine zA ?_
 refine zN ?_
 refine X_seq ?_
 refine zR ?_
 refine zM ?_
 refine zC ?_
 refine zN ?_
 refine zI ?_ ?_ <;> intro hc6
 ·
  have h := hc6; simp at h; omega
 refine X_skip ?_
 refine at_then ?_
 refine X_seq ?_
 refine zR ?_
 refine zM ?_
 refine zM ?_
 refine zV (ev_cap rfl slt_22) ?_
 refine zM ?_
 refine zQ slt_22 ?_
 refine zV (ev_arB rfl rfl rfl (fun _ => by omega)) ?_
 refine zV (ev_arB rfl rfl rfl (fun _ => by omega)) ?_
 refine zA ?_
 refine zN (zR ?_)
 refine zM ?_
 refine zC ?_
 refine zN ?_
 refine zI ?_ ?_ <;> intro hc16
 ·
  have hk1 : 0 < k := by have h := hc16; simp at h; omega
  refine X_region ?_
  refine zM ?_
  refine zM ?_
  refine zV (ev_cap rfl slt_22) ?_
  refine zV (ev_sliceHi rfl rfl slt_22 (fun hg => by omega)) ?_
  refine zM ?_
  refine XO_appendZ0 rfl rfl elt_22 und_3 (by omega) (by decide) (by omega) rfl rfl (fun b9 c9 zs9 hz1 hz2 hz3 => ?_)
  refine zM ?_
  refine zQ slt_22 ?_
  refine zV (ev_sliceHi rfl rfl slt_22 (fun hg => by omega)) ?_
  refine zA ?_
  refine zN (zR ?_)
  refine zM ?_
  refine zA ?_
  refine zN ?_
  refine X_ret ?_
  exact at_ret1 rfl rfl (fun w hw => ⟨_, I, _, rfl, HLe.refl _, hw, rfl, rfl, .inr ⟨b9, c9, zs9.toArray, rfl, rfl, Nat.zero_le _, hz2, by simpa using hz3, by simp⟩⟩)
 have hk0 : k = 0 := by have h := hc16; simp at h; omega
 refine X_skip ?_
 refine at_then ?_
 refine zR ?_
 refine zM ?_
 refine zA ?_
 refine zN ?_
 refine X_ret ?_
 exact at_ret1 rfl rfl (fun w hw => ⟨_, I, [], rfl, HLe.refl _, hw, rfl, OwnS.nil⟩)
theorem w_concatP {I : HMap} {av : Option Addr} {n c : Nat} {hs : List Hd} {vss : List (List Pt)} (hV : SlHA I 19 encP av n c hs vss) (hn : n ≤ 100000) (hf : vss.flatten.length ≤ 100000) : RetM Tryz.prog 29 [.slice av n c] I [] (fun v I' L => I' = I ∧ OwnS 66 19 v vss.flatten.length (vss.flatten.flatMap encP) L) := by
 intro g H w hw
 refine enter Tryz.func29 rfl Tryz.ntmps29 rfl hw ?_
 have hH := hV.1
 have hlV := hV.len
 refine zR ?_
 refine zA ?_
 refine zN (zR ?_)
 refine zA ?_
 refine zN ?_
 refine X_seq ?_
 refine zR ?_
 refine zM ?_
 refine zQ slt_119 ?_
 refine zM ?_
 refine zN ?_
 refine X_block ?_
 refine X_loopT [(0, _), (9, _), (10, _)] (.cons rfl (.cons rfl (.cons rfl .nil))) (fun T L0 mz E I' loc' => ∃ (k : Nat), mz = n - k ∧ E = (3, .int .i64 ((vss.take k).flatten.length : Nat)) :: (11, .int .i64 k) :: T ∧ I = I' ∧ [] = loc' ∧ k ≤ n) _ _ _ _ ⟨0, rfl, rfl, rfl, rfl, Nat.zero_le _⟩ (.cons rfl (.cons rfl (.cons rfl (.cons rfl (.cons rfl .nil))))) (HLe.refl _) rfl ?_
 rintro mz E I' loc' ⟨k, rfl, rfl, rfl, rfl, hk⟩
 refine zR ?_
 refine zC ?_
 refine zN ?_
 refine X_seq ?_
 refine zI ?_ ?_ <;> intro hc12
 ·
  have hlt_k : k < n := by have h := hc12; simp at h; omega
  obtain ⟨x, v, hx, hv, hQ⟩ := hV.at hlt_k
  have hfs := flat_step hv
  have hfs2 : (vss.take (k + 1)).flatten.length = (vss.take k).flatten.length + x.n := by rw [hfs, List.length_append, hQ.len]
  refine X_skip ?_
  refine at_then ?_
  refine X_seq ?_
  refine X_block ?_
  refine zR ?_
  refine zV (ev_indexSl rfl rfl slt_119 hH (fun hg => by omega)) ?_
  refine zV (ev_load rfl sct_22 (fun hg => by exact Sl.get0 hH hx rfl)) ?_
  refine zA ?_
  refine zN (zR ?_)
  refine zM ?_
  refine zM ?_
  refine zQ slt_22 ?_
  refine zV (ev_arB rfl rfl rfl (fun _ => by (have hfl := flat_le (vss := vss) k; have hfl2 := flat_le (vss := vss) (k + 1); omega))) ?_
  refine zA ?_
  refine zN (zR ?_)
  refine zM ?_
  refine zC ?_
  refine zN ?_
  refine zI ?_ ?_ <;> intro hc20
  ·
   have h := hc20; simp at h; omega
  rw [show (((vss.take k).flatten.length : Nat) : Int) + (x.n : Int) = (((vss.take (k + 1)).flatten.length : Nat) : Int) from by omega]
  refine X_skip ?_
  refine at_block_n ?_
  refine at_then ?_
  refine X_region ?_
  refine zV (ev_arB rfl rfl rfl (fun _ => by omega)) ?_
  refine zM ?_
  refine XO_nil ?_
  exact at_met2 _ _ ⟨n - (k + 1), by omega, k + 1, rfl, rfl, rfl, rfl, by omega⟩ (.cons rfl (.cons rfl (.cons rfl (.cons rfl (.cons rfl .nil))))) (by repeat (first | exact .refl | exact subL_left | refine subL_app ?_ | refine .drop ?_ | refine subL_add ?_))
 have hge_k : n ≤ k := by have h := hc12; simp at h; omega
 rw [List.take_of_length_le (show vss.length ≤ k by omega)]
 refine X_exit ?_
 refine at_then_e ?_
 refine at_then_e ?_
 refine at_block_hit ?_
 refine at_then ?_
 refine zR ?_
 refine zM ?_
 refine XO_callM (cap := []) (vs := [_, _]) rfl rfl fun_62 .nil (w_growP _ vss.flatten.length (by omega)) rfl rfl ?_
 rintro vv2 I2 L2 hI2 ⟨rfl, hG⟩
 rw [List.append_nil]
 refine zA ?_
 refine zN ?_
 refine X_seq ?_
 refine zR ?_
 refine zM ?_
 refine zQ slt_119 ?_
 refine zM ?_
 refine zN ?_
 refine X_block ?_
 refine X_loopT [(25, _), (26, _)] (.cons rfl (.cons rfl .nil)) (fun T L0 mz E I' loc' => ∃ (k : Nat) (v6 : Value) (L : Go.Kn.Loc), mz = n - k ∧ E = (6, v6) :: (27, .int .i64 k) :: T ∧ I2 = I' ∧ L = loc' ∧ k ≤ n ∧ OwnS 66 19 v6 (vss.take k).flatten.length ((vss.take k).flatten.flatMap encP) L) _ _ _ _ ⟨0, _, _, rfl, rfl, rfl, rfl, Nat.zero_le _, hG⟩ (.cons rfl (.cons rfl (.cons rfl (.cons rfl .nil)))) (HLe.refl _) rfl ?_
 rintro mz E I' loc' ⟨k, v6, L, rfl, rfl, rfl, rfl, hk, hO⟩
 refine zR ?_
 refine zC ?_
 refine zN ?_
 refine X_seq ?_
 refine zI ?_ ?_ <;> intro hc28
 ·
  have hlt_k : k < n := by have h := hc28; simp at h; omega
  obtain ⟨x, v, hx, hv, hQ⟩ := hV.at hlt_k
  have hxl := hQ.len
  have hfl := flat_le (vss := vss) (k + 1)
  rw [flat_step hv, List.length_append] at hfl
  refine X_skip ?_
  refine at_then ?_
  refine X_seq ?_
  refine X_block ?_
  refine zR ?_
  refine zV (ev_indexSl rfl rfl slt_119 hH (fun hg => by omega)) ?_
  refine zV (ev_load rfl sct_22 (fun hg => by exact Sl.get0 hH hx rfl)) ?_
  refine zA ?_
  refine zN ?_
  refine X_region ?_
  refine zM ?_
  refine zM ?_
  refine XO_append (v := _) (ys := v.flatMap encP) (L := L) rfl rfl elt_22 hO (by repeat (first | exact .cons .here .nil | exact split_all | exact split_app | apply split_cons | apply split_skip)) (hQ.src encP_len) (one_P _) (by omega) rfl rfl ?_
  intro v9 L9 hO9 _; rw [← List.flatMap_append] at hO9
  refine zA ?_
  refine XO_nil ?_
  refine at_block_n ?_
  refine at_then ?_
  refine X_region ?_
  refine zV (ev_arB rfl rfl rfl (fun _ => by omega)) ?_
  refine zM ?_
  refine XO_nil ?_
  exact at_met2 _ _ ⟨n - (k + 1), by omega, k + 1, _, _, rfl, rfl, rfl, rfl, by omega, by rw [flat_step hv, List.length_append, hQ.len]; exact hO9⟩ (.cons rfl (.cons rfl (.cons rfl (.cons rfl .nil)))) (by repeat (first | exact .refl | exact subL_left | refine subL_app ?_ | refine .drop ?_ | refine subL_add ?_))
 have hge_k : n ≤ k := by have h := hc28; simp at h; omega
 rw [List.take_of_length_le (show vss.length ≤ k by omega)] at hO
 refine X_exit ?_
 refine at_then_e ?_
 refine at_then_e ?_
 refine at_block_hit ?_
 refine at_then ?_
 refine zR ?_
 refine zM ?_
 refine zA ?_
 refine zN ?_
 refine X_ret ?_
 exact at_ret1 rfl rfl (fun w hw => ⟨_, _, L, rfl, HLe.refl _, hw, rfl, hO⟩)
instance : Inhabited Pt := ⟨zeroP⟩
theorem w_revP (zs : List Pt) {v : Value} {n : Nat} {L : Go.Kn.Loc} (hO : OwnS 66 19 v n (zs.flatMap encP) L) (hn : n ≤ 1000000) (I : HMap) :
  RetM Tryz.prog 28 [v] I L (fun u I' L' => u = .tuple #[] ∧ I' = I ∧ OwnS 66 19 v n (zs.reverse.flatMap encP) L') :=
 retRevK encP_len (by decide) (fun blk off cap d w hH hs => Tryz.slices_Reverse 19 (fun w => run_isAgg_ag agt_66) (fun w => by obtain ⟨i, hi, hz⟩ := szt_66; exact hz ▸ Go.Kn.run_sizeOf hi) encP encP_len (fun x => allOne_iff (by rfl)) blk off cap d w hH hs)
  (Tryz.slices_Reverse_empty (α := Pt)) zs hO hn I
end Go.Proofs.YtclkmnidgdkekaaGreat
end
