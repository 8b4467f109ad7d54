/- editionSignsSpec_holds, part E of the proof: what its theorems say holds without further conditions. -/
import Derived.Test.YthcffaheamikgaaGreatDoorSGD
namespace Go.Proofs.YthcffaheamikgaaGreatDoor
section
open Go Go.Kn Go.Proofs
theorem fun_41 : Fun Tryz.prog 41 := .of Tryz.func41 (by kernel_rfl) (by kernel_rfl)
theorem fun_42 : Fun Tryz.prog 42 := .of Tryz.func42 (by kernel_rfl) (by kernel_rfl)
theorem fun_43 : Fun Tryz.prog 43 := .of Tryz.func43 (by kernel_rfl) (by kernel_rfl)
theorem fun_44 : Fun Tryz.prog 44 := .of Tryz.func44 (by kernel_rfl) (by kernel_rfl)
theorem mkt_87 : MkT Tryz.prog 87 88 24 (.slice none 0 0) := ⟨by kernel_rfl, by kernel_rfl, rfl⟩
theorem slt_87 : SlT Tryz.prog 87 88 1 := .of (by kernel_rfl)
theorem szt_88 : SzT Tryz.prog 88 1 := .of (by kernel_rfl)
set_option maxHeartbeats 40000000 in
theorem w_Table {I : HMap} {av : Option Addr} {n c : Nat} {xs : List Wr} (hW0 : SlW I av n c xs) (hn : n ≤ 100000) : RetM Tryz.prog 16 [.slice av n c] I [] (SlNTup (tabE xs) (tabR xs)) := by
 intro g H w hw
 refine enterMs Tryz.func16 rfl Tryz.ntmps16 rfl hw ?_
 have hIc := HLe.refl I
 obtain ⟨ws, hW⟩ := id hW0
 have hH := hW.1
 have hlW := hW.len
 subst hlW
 refine zR (zA ?_)
 refine zA (zN (X_seq (zR ?_)))
 refine zM ?_
 refine XO_callV0 (cap := []) (vs := [_]) rfl rfl fun_41 (w_chkW hW0 hn) rfl rfl ?_
 refine zA ?_
 refine zN (zR ?_)
 refine zM ?_
 refine zC ?_
 refine zM ?_
 refine XO_pushF 2 rfl rfl rfl ?_
 refine zJ (ev_move rfl) ?_
 refine zJ (ev_lenS rfl slt_31) ?_
 refine zJ (ev_cmp rfl rfl rfl) ?_
 refine XO_or0 rfl rfl rfl rfl rfl ?_
 refine zN ?_
 refine zI ?_ ?_ <;> intro hc33
 ·
  rw [len_zero] at hc33
  refine zR (zM ?_)
  refine zA ?_
  refine zA (zN (X_ret (at_then_r ?_)))
  first
  | exact at_retMs (L := []) (fun a ha w hw => res2 rfl rfl rfl a ha w) (fun w hw => ⟨_, I, [], rfl, hIc, hw.drop, by rw [(tab_1 hc33).1]; exact SlNTup.empty (tab_1 hc33).2⟩)
 rw [len_zero] at hc33
 obtain ⟨hck, hx1, hx24, hrs⟩ := chkW_ok hc33
 obtain ⟨w0, x0, hx0, hv0, e01, e02, hR0⟩ := hW.at (k := 0) (by omega)
 have hcs0 : x0.rs.map codeR = csW xs 0 := (csW_at hv0).symm
 have hM64 := csW_len (i := 0) hrs
 have hR0l := hR0.len
 have hx0b := hrs x0 (List.mem_of_getElem? hv0)
 refine X_skip (at_then (zR (zM ?_)))
 refine zV (zX slt_31 hH) ?_
 refine zV (ev_loadA rfl agt_54 (fun hg => by exact Sl.getA hH hx0) rfl) ?_
 refine XO_callM (cap := []) (vs := [_]) rfl rfl fun_42 .nil (w_codes hR0 (by omega) _ _) rfl rfl ?_
 rintro vv1 I1 L1 hI1 ⟨rfl, av4, c4, rfl, hT⟩
 have hW0 := hW0.mono hI1; have hW := hW.mono hI1; have hH := hH.mono hI1; have hIc := hIc.trans hI1
 rw [hcs0] at hT ⊢
 refine zA ?_
 refine zN (zR ?_)
 refine zM ?_
 refine zQ slt_31 ?_
 refine XO_makeSlice mkt_87 rfl rfl (by omega) (by decide) rfl rfl (fun b_41 => ?_)
 refine zA (XO_nil ?_)
 rw [show ((xs.length : Nat) : Int).toNat = xs.length from rfl, cellsH_new]
 refine at_then (zR (zM ?_))
 refine zQ slt_23 ?_
 refine zB ?_
 refine XO_makeSlice mkt_23 rfl rfl (by omega) (by decide) rfl rfl (fun b_45 => ?_)
 refine XO_alloc zt_23 rfl rfl (fun b_6 => ?_)
 refine zS szt_23 ?_
 refine XO_nil ?_
 have e1 : (((csW xs 0).length : Nat) : Int) + 1 = (((csW xs 0).length + 1 : Nat) : Int) := rfl
 rw [e1, show (((csW xs 0).length + 1 : Nat) : Int).toNat = (csW xs 0).length + 1 from rfl, cellsI_new, rngL_zero, nat_zero]
 refine X_freeze (b := b_6) (by repeat (first | exact Take.here | apply Take.there)) (fun I2 hI2 hb2 => ?_)
 have hW0 := hW0.mono hI2; have hW := hW.mono hI2; have hH := hH.mono hI2; have hT := hT.mono hI2; have hIc := hIc.trans hI2
 have hC6 : Cell I2 [] b_6 0 (.slice (some ⟨b_45, 0, none⟩) ((csW xs 0).length + 1) ((csW xs 0).length + 1)) := .imm hb2 rfl
 refine at_then (X_seq (X_seq ?_))
 have hw1 := wdF_one (al := alW xs) alW_zero
 refine X_locEq (loc' := (b_45, .cells (cellsI (rngL ((csW xs 0).length + 1) (natF (wdF (alW xs) 1)))) 3 (0, 0)) :: (b_41, .cells (cellsH (List.replicate xs.length ⟨none, 0, 0⟩)) 88 (0, 0)) :: MB []) (by rw [hw1]; rfl) ?_
 refine X_region (zA (zN (X_block ?_)))
 refine X_loopM [(0, _), (2, _), (4, _), (5, _), (6, _)] (.cons rfl (.cons rfl (.cons rfl (.cons rfl (.cons rfl .nil))))) (fun T L0 mz ms E I' loc' => ∃ (i : Nat) (hs : List Hd), mz = xs.length - i ∧ E = (7, .int .i64 i) :: T ∧ HLe I2 I' ∧ (b_45, .cells (cellsI (rngL ((csW xs 0).length + 1) (natF (wdF (alW xs) i)))) 3 (0, 0)) :: (b_41, .cells (cellsH hs) 88 (0, 0)) :: MB ms = loc' ∧ i ≤ xs.length ∧ 1 ≤ i ∧ hs.length = xs.length ∧ PrQ I' xs hs i) _ _ _ _ ⟨1, _, rfl, rfl, HLe.refl _, rfl, hx1, Nat.le_refl _, by rw [List.length_replicate], PrQ.start hx1⟩ (.cons rfl (.cons rfl (.cons rfl (.cons rfl (.cons rfl (.cons rfl .nil)))))) (HLe.refl _) rfl ?_
 rintro mz ms E J3 loc' ⟨i, hs, rfl, rfl, hJ, rfl, hi, hi1, hhl, hPr⟩
 have hW0 := hW0.mono hJ; have hW := hW.mono hJ; have hH := hH.mono hJ; have hT := hT.mono hJ; have hC6 := hC6.mono hJ; have hIc := hIc.trans hJ
 have hB0 := hJ
 refine X_seq (zR (zM ?_))
 refine zM ?_
 refine zQ slt_31 ?_
 refine zC (zN ?_)
 refine zI ?_ ?_ <;> intro hc49
 ·
  have hlt_i : i < xs.length := by have h := hc49; simp at h; omega
  obtain ⟨w, x, hx, hv, e1, e2, hR⟩ := hW.at hlt_i
  have hcsi : x.rs.map codeR = csW xs i := (csW_at hv).symm
  have hMi := csW_len (i := i) hrs
  have hRl := hR.len
  have hxb := hrs x (List.mem_of_getElem? hv)
  refine X_skip (at_then (X_seq (X_block (zR (zM ?_)))))
  refine zM ?_
  refine zM ?_
  refine zM ?_
  refine zM ?_
  refine zV (zX slt_31 hH) ?_
  refine zV (ev_loadA rfl agt_54 (fun hg => by exact Sl.getA hH hx) rfl) ?_
  refine XO_callM (cap := []) (vs := [_]) rfl rfl fun_42 .nil (w_codes hR (by omega) _ _) rfl rfl ?_
  rintro vv4 I4 L4 hI4 ⟨rfl, av7, c7, rfl, hT7⟩
  have hW0 := hW0.mono hI4; have hW := hW.mono hI4; have hH := hH.mono hI4; have hT := hT.mono hI4; have hC6 := hC6.mono hI4; have hPr := hPr.mono hI4; have hR := hR.mono hI4; have hIc := hIc.trans hI4; have hB0 := hB0.trans hI4
  rw [hcsi] at hT7 ⊢
  refine XO_callM (cap := []) (vs := [_, _]) rfl rfl fun_43 .nil (w_Pair hT hT7 (by omega) (by omega)) rfl rfl ?_
  rintro vv5 I5 L5 hI5 ⟨rfl, z8, av8, c8, rfl, hP8⟩
  have hW0 := hW0.mono hI5; have hW := hW.mono hI5; have hH := hH.mono hI5; have hT := hT.mono hI5; have hC6 := hC6.mono hI5; have hPr := hPr.mono hI5; have hR := hR.mono hI5; have hT7 := hT7.mono hI5; have hIc := hIc.trans hI5; have hB0 := hB0.trans hI5
  refine zM ?_
  refine zE ?_
  refine zE ?_
  refine zE ?_
  refine zV (ev_indexOwn rfl rfl slt_87 (fun hg => by omega)) ?_
  refine XO_store rfl rfl szt_88 rfl rfl (by repeat (first | exact Upd.here | apply Upd.there | apply upd_app)) (bltH (by omega)) ?_
  refine XO_nil ?_
  rw [show (#[Value.int .i64 z8, Value.slice av8 (pairR (csW xs 0) (csW xs i)).length c8, Value.int .i64 (pairE (csW xs 0) (csW xs i))] : Array Value)[1] = Value.slice av8 (pairR (csW xs 0) (csW xs i)).length c8 from rfl, cellsH_set]
  have hPr2 := hPr.put (by omega) (by omega) hP8
  have hs2_at : (hs.set i ⟨av8, (pairR (csW xs 0) (csW xs i)).length, c8⟩)[i]? = some ⟨av8, (pairR (csW xs 0) (csW xs i)).length, c8⟩ := List.getElem?_set_self (by omega)
  have hpfe : pfW xs i = pairR (csW xs 0) (csW xs i) := by unfold pfW; rw [if_neg (by omega)]
  have hPi : Sl I5 2 encQ av8 (pairR (csW xs 0) (csW xs i)).length c8 (pfW xs i) := by rw [hpfe]; exact hP8
  have hpl := (pfW_ok (xs := xs) (i := i)).2
  have hpr := (pairR_okQ (a := (csW xs 0)) (b := (csW xs i))).2
  refine at_then (zR (zM ?_))
  refine zQ slt_23 ?_
  refine zB ?_
  refine XO_makeSlice mkt_23 rfl rfl (by omega) (by decide) rfl rfl (fun b_69 => ?_)
  refine XO_alloc zt_23 rfl rfl (fun b_8 => ?_)
  refine zS szt_23 ?_
  refine XO_nil ?_
  have e1 : (((csW xs 0).length : Nat) : Int) + 1 = (((csW xs 0).length + 1 : Nat) : Int) := rfl
  rw [e1, show (((csW xs 0).length + 1 : Nat) : Int).toNat = (csW xs 0).length + 1 from rfl, cellsI_new, rngL_zero, nat_zero]
  refine X_freeze (b := b_8) (by repeat (first | exact Take.here | apply Take.there)) (fun I6 hI6 hb6 => ?_)
  have hW0 := hW0.mono hI6; have hW := hW.mono hI6; have hH := hH.mono hI6; have hT := hT.mono hI6; have hC6 := hC6.mono hI6; have hPr := hPr.mono hI6; have hR := hR.mono hI6; have hT7 := hT7.mono hI6; have hP8 := hP8.mono hI6; have hPr2 := hPr2.mono hI6; have hPi := hPi.mono hI6; have hIc := hIc.trans hI6
  have hB0 := hB0.trans hI6
  have hC8 : Cell I6 [] b_8 0 (.slice (some ⟨b_69, 0, none⟩) ((csW xs 0).length + 1) ((csW xs 0).length + 1)) := .imm hb6 rfl
  refine at_then (zR (zM ?_))
  refine zM ?_
  refine zV (ev_indexOwn rfl rfl slt_87 (fun hg => by omega)) ?_
  refine zV (ev_load rfl sct_88 (fun hg => by exact Cell.there (Cell.there (cellH_at hs2_at)))) ?_
  refine XO_callM (cap := []) (vs := [_]) rfl rfl fun_44 .nil (w_alone _ _ _ _) rfl rfl ?_
  rintro vv7 I7 L7 hI7 ⟨rfl, b1, rfl, hb1⟩
  have hW0 := hW0.mono hI7; have hW := hW.mono hI7; have hH := hH.mono hI7; have hT := hT.mono hI7; have hC6 := hC6.mono hI7; have hPr := hPr.mono hI7; have hR := hR.mono hI7; have hT7 := hT7.mono hI7; have hP8 := hP8.mono hI7; have hPr2 := hPr2.mono hI7; have hPi := hPi.mono hI7; have hC8 := hC8.mono hI7
  have hIc := hIc.trans hI7; have hB0 := hB0.trans hI7
  refine zN (X_block ?_)
  refine X_locEq (loc' := [] ++ (((b_69, .cells (cellsI (rngL ((csW xs 0).length + 1) (natF (cnt [])))) 3 (0, 0)) :: (b_45, .cells (cellsI (rngL ((csW xs 0).length + 1) (natF (wmx (wdF (alW xs) i) [])))) 3 (0, 0)) :: (b_41, .cells (cellsH (hs.set i ⟨av8, (pairR (csW xs 0) (csW xs i)).length, c8⟩)) 88 (0, 0)) :: []) ++ MB ms)) (by rw [wmx_nil]; rfl) ?_
  refine X_rangeFuncM2 (K := []) (L := (b_69, .cells (cellsI (rngL ((csW xs 0).length + 1) (natF (cnt [])))) 3 (0, 0)) :: (b_45, .cells (cellsI (rngL ((csW xs 0).length + 1) (natF (wmx (wdF (alW xs) i) [])))) 3 (0, 0)) :: (b_41, .cells (cellsH (hs.set i ⟨av8, (pairR (csW xs 0) (csW xs i)).length, c8⟩)) 88 (0, 0)) :: []) (en1 := en1Q) (en2 := en2Q) (xs := alW xs i) (fun pre I' loc' => loc' = (b_69, .cells (cellsI (rngL ((csW xs 0).length + 1) (natF (cnt pre)))) 3 (0, 0)) :: (b_45, .cells (cellsI (rngL ((csW xs 0).length + 1) (natF (wmx (wdF (alW xs) i) pre)))) 3 (0, 0)) :: (b_41, .cells (cellsH (hs.set i ⟨av8, (pairR (csW xs 0) (csW xs i)).length, c8⟩)) 88 (0, 0)) :: []) (fun _ _ _ _ => False) (fun pre x E2 I2 loc2 => E2 = [(6, capP b_6), (8, capP b_8), (9, .int .i64 x.1)] ∧ loc2 = (b_69, .cells (cellsI (rngL ((csW xs 0).length + 1) (natF (cnt pre)))) 3 (0, 0)) :: (b_45, .cells (cellsI (rngL ((csW xs 0).length + 1) (natF (wmx (wdF (alW xs) i) pre)))) 3 (0, 0)) :: (b_41, .cells (cellsH (hs.set i ⟨av8, (pairR (csW xs 0) (csW xs i)).length, c8⟩)) 88 (0, 0)) :: []) rfl fun_78 (w_aloit hPi (by omega) (pfW_2 hrs i) hb1) rfl rfl rfl ?_ ?_ ?_ ?_
  ·
   rintro l9 pre x I1 loc1 H1 hpre hI1 rfl
   refine X_region (zA (XO_nil ?_))
   exact at_met' _ ⟨HLe.refl _, rfl, rfl⟩ (.cons rfl (.cons rfl (.cons rfl .nil)))
  ·
   rintro l9 pre x E2 I2 loc2 H2 hpre hI2 ⟨rfl, rfl⟩
   have hW0 := hW0.mono hI2; have hW := hW.mono hI2; have hH := hH.mono hI2; have hT := hT.mono hI2; have hC6 := hC6.mono hI2; have hPr := hPr.mono hI2; have hR := hR.mono hI2; have hT7 := hT7.mono hI2; have hP8 := hP8.mono hI2; have hPr2 := hPr2.mono hI2; have hPi := hPi.mono hI2; have hC8 := hC8.mono hI2
   have hIc := hIc.trans hI2; have hB0 := hB0.trans hI2
   obtain ⟨x1, x2, x3, x4, x5⟩ := alW_in hpre
   have hcb := Nat.le_trans (@cnt_len (alW xs i) x.1.toNat) (alW_b hrs i)
   have hnc := natF_in (f := cnt pre) (a := x.1.toNat) (B := 128) (by omega)
   refine X_block (zR ?_)
   refine zV (ev_load rfl sct_23 (fun hg => by exact hC8.any)) ?_
   refine zM ?_
   refine zV (ev_indexOwn rfl rfl slt_23 (fun hg => by omega)) ?_
   refine zV (ev_load rfl sct_3 (fun hg => by exact cellI_at (rngL_at (by omega)))) ?_
   refine zB ?_
   refine zV (ev_indexOwn rfl rfl slt_23 (fun hg => by omega)) ?_
   refine XO_store rfl rfl szt_3 rfl rfl (by repeat (first | exact Upd.here | apply Upd.there | apply upd_app)) (bltN (by rw [rngL_len]; omega)) ?_
   refine XO_nil ?_
   rw [cellsI_setN, rngL_set, show natF (cnt pre) x.1.toNat + 1 = ((cnt pre x.1.toNat + 1 : Nat) : Int) from rfl, nat_upd, ← cnt_snoc]
   refine at_then ?_
   have hD := HLe.refl I2
   refine X_noP ?_
   refine X_drawS I2 [(b_69, .cells (cellsI (rngL ((csW xs 0).length + 1) (natF (cnt (pre ++ [x]))))) 3 (0, 0))] mixed ?_
   refine zT 0 rfl (ev_load rfl sct_23 (fun hg => by exact hC6.any)) hD ?_
   refine zT 1 rfl (ev_move rfl) hD ?_
   refine zT 2 rfl (ev_load rfl sct_23 (fun hg => by exact hC6.any)) hD ?_
   refine zT 3 rfl (ev_move rfl) hD ?_
   refine zT 4 rfl (ev_indexOwn rfl rfl slt_23 (fun hg => by omega)) hD ?_
   refine zT 6 rfl (ev_load rfl sct_23 (fun hg => by exact hC8.any)) hD ?_
   refine zT 7 rfl (ev_move rfl) hD ?_
   refine zT 8 rfl (ev_indexOwn rfl rfl slt_23 (fun hg => by omega)) hD ?_
   refine zT 9 rfl (ev_load rfl sct_3 (fun hg => by exact cellI_at (rngL_at (by omega)))) hD ?_
   refine XD_one 5 rfl (by kernel_rfl) ?_
   refine zV (ev_load rfl sct_3 (fun hg => by exact Cell.there (cellI_at (rngL_at (by omega))))) ?_
   refine XO_nil ?_
   refine zD hD ?_
   refine zT 10 rfl (ev_max rfl rfl) hD ?_
   refine zT 11 rfl (ev_indexOwn rfl rfl slt_23 (fun hg => by omega)) hD ?_
   refine XD_one 12 rfl (by kernel_rfl) ?_
   refine XO_store rfl rfl szt_3 rfl rfl (by repeat (first | exact Upd.here | apply Upd.there | apply upd_app)) (bltN (by rw [rngL_len]; omega)) ?_
   refine XO_nil ?_
   refine zD hD ?_
   refine XD_done (by kernel_rfl) ?_
   refine at_noP ?_
   rw [natF_max, cellsI_setN, rngL_set, nat_upd, wmx_snoc rfl]
   refine at_block_n ?_
   exact at_round2 ⟨HLe.refl _, rfl⟩ .refl
  ·
   rintro bd I1 loc1 hI1 rfl
   have hW0 := hW0.mono hI1; have hW := hW.mono hI1; have hH := hH.mono hI1; have hT := hT.mono hI1; have hC6 := hC6.mono hI1; have hPr := hPr.mono hI1; have hR := hR.mono hI1; have hT7 := hT7.mono hI1; have hP8 := hP8.mono hI1; have hPr2 := hPr2.mono hI1; have hPi := hPi.mono hI1; have hC8 := hC8.mono hI1
   have hIc := hIc.trans hI1; have hB0 := hB0.trans hI1
   refine at_block_n (at_block_n (at_then (X_region (zM ?_))))
   refine zB ?_
   refine zA (XO_nil ?_)
   exact at_metM rfl rfl rfl _ _ ⟨xs.length - (i + 1), by omega, i + 1, _, rfl, rfl, hB0, rfl, by omega, by omega, by rw [List.length_set]; exact hhl, hPr2⟩ (.cons rfl (.cons rfl (.cons rfl (.cons rfl (.cons rfl (.cons rfl .nil)))))) (by repeat (first | exact .refl | exact subL_left | refine subL_app ?_ | refine .drop ?_ | refine subL_add ?_))
  rintro c bd pre I1 loc1 hI1 hpre hF; exact hF.elim
 have hge_i : xs.length ≤ i := by have h := hc49; simp at h; omega
 obtain rfl : i = xs.length := by omega
 refine X_exit (at_then_e (at_then_e (at_block_hit (at_then (zR (zM ?_))))))
 refine zQ slt_23 ?_
 refine zB ?_
 refine XO_makeSlice mkt_23 rfl rfl (by omega) (by decide) rfl rfl (fun b_98 => ?_)
 refine XO_alloc zt_23 rfl rfl (fun b_10 => ?_)
 refine zS szt_23 ?_
 refine XO_nil ?_
 have e1 : (((csW xs 0).length : Nat) : Int) + 1 = (((csW xs 0).length + 1 : Nat) : Int) := rfl
 rw [e1, show (((csW xs 0).length + 1 : Nat) : Int).toNat = (csW xs 0).length + 1 from rfl, cellsI_new, rngL_zero, nat_zero, ← atK_zero (w := (wdW xs))]
 refine X_freeze (b := b_10) (by repeat (first | exact Take.here | apply Take.there)) (fun I8 hI8 hb8 => ?_)
 have hW0 := hW0.mono hI8; have hW := hW.mono hI8; have hH := hH.mono hI8; have hT := hT.mono hI8; have hC6 := hC6.mono hI8; have hPr := hPr.mono hI8; have hIc := hIc.trans hI8; have hB0 := hB0.trans hI8
 have hC10 : Cell I8 [] b_10 0 (.slice (some ⟨b_98, 0, none⟩) ((csW xs 0).length + 1) ((csW xs 0).length + 1)) := .imm hb8 rfl
 refine at_then (zR (zA (zN (X_seq (zR ?_)))))
 refine zV (ev_load rfl sct_23 (fun hg => by exact hC6.any)) ?_
 refine zQ slt_23 ?_
 refine zM (zN (X_block ?_))
 refine X_loopM [(0, _), (2, _), (4, _), (5, _), (6, _), (10, _), (99, _), (100, _)] (.cons rfl (.cons rfl (.cons rfl (.cons rfl (.cons rfl (.cons rfl (.cons rfl (.cons rfl .nil)))))))) (fun T L0 mz ms E I' loc' => ∃ (k : Nat), mz = ((csW xs 0).length + 1) - k ∧ E = (11, .int .i64 ((sumF (wdW xs) k : Nat) : Int)) :: (101, .int .i64 k) :: T ∧ I8 = I' ∧ (b_98, .cells (cellsI (rngL ((csW xs 0).length + 1) (natF (atK (wdW xs) k)))) 3 (0, 0)) :: (b_45, .cells (cellsI (rngL ((csW xs 0).length + 1) (natF (wdW xs)))) 3 (0, 0)) :: (b_41, .cells (cellsH hs) 88 (0, 0)) :: MB ms = loc' ∧ k ≤ ((csW xs 0).length + 1)) _ _ _ _ ⟨0, rfl, rfl, rfl, rfl, Nat.zero_le _⟩ (.cons rfl (.cons rfl (.cons rfl (.cons rfl (.cons rfl (.cons rfl (.cons rfl (.cons rfl (.cons rfl (.cons rfl .nil)))))))))) (HLe.refl _) rfl ?_
 rintro mz ms E I' loc' ⟨k, rfl, rfl, rfl, rfl, hk⟩
 refine zR (zC (zN (X_seq ?_)))
 refine zI ?_ ?_ <;> intro hc102
 ·
  have hlt_k : k < ((csW xs 0).length + 1) := by have h := hc102; simp at h; omega
  have hns := natF_in (f := sumF (wdW xs)) (a := k) (B := 20000) (Nat.le_trans (sumF_le (wdF_le (alW_b hrs) _) k) (Nat.le_trans (Nat.mul_le_mul_right 129 (show k ≤ 65 by omega)) (by decide)))
  have hnw := natF_in (f := (wdW xs)) (a := k) (B := 128) (wdF_le (alW_b hrs) _ _)
  have e9 : natF (sumF (wdW xs)) k = ((sumF (wdW xs) k : Nat) : Int) := rfl
  refine X_skip (at_then (X_seq (X_block (zR (zM ?_)))))
  refine zV (ev_indexOwn rfl rfl slt_23 (fun hg => by omega)) ?_
  refine zV (ev_load rfl sct_3 (fun hg => by exact Cell.there (cellI_at (k := k) (rngL_at (show k < _ by omega))))) ?_
  refine zA ?_
  refine zA ?_
  refine zN (zR ?_)
  refine zV (ev_load rfl sct_23 (fun hg => by exact hC10.any)) ?_
  refine zM ?_
  refine zM ?_
  refine zV (ev_indexOwn rfl rfl slt_23 (fun hg => by omega)) ?_
  refine XO_store rfl rfl szt_3 rfl rfl (by repeat (first | exact Upd.here | apply Upd.there | apply upd_app)) (bltN (by rw [rngL_len]; omega)) ?_
  refine XO_nil ?_
  rw [cellsI_set, rngL_set, nat_upd, atK_next]
  refine at_then (X_region (zM ?_))
  refine zM ?_
  refine zB ?_
  refine zB ?_
  refine zA (XO_nil (at_block_n (at_then (X_region ?_))))
  refine zB ?_
  refine zM (XO_nil ?_)
  exact at_metM rfl rfl rfl _ _ ⟨((csW xs 0).length + 1) - (k + 1), by omega, k + 1, rfl, rfl, rfl, rfl, by omega⟩ (.cons rfl (.cons rfl (.cons rfl (.cons rfl (.cons rfl (.cons rfl (.cons rfl (.cons rfl (.cons rfl (.cons rfl .nil)))))))))) (by repeat (first | exact .refl | exact subL_left | refine subL_app ?_ | refine .drop ?_ | refine subL_add ?_))
 have hge_k : ((csW xs 0).length + 1) ≤ k := by have h := hc102; simp at h; omega
 obtain rfl : k = (csW xs 0).length + 1 := by omega
 have hsE := Nat.le_trans (sumF_le (w := wdW xs) (wdF_le (alW_b hrs) _) ((csW xs 0).length + 1)) (Nat.mul_le_mul_right 129 (show (csW xs 0).length + 1 ≤ 65 by omega))
 refine X_exit (at_then_e (at_then_e (at_block_hit (at_then (X_seq (zR (zM ?_)))))))
 refine zB ?_
 refine zA (XO_nil ?_)
 rw [lo_eq]
 refine at_then (zR (zM ?_))
 refine zC (zN ?_)
 refine zI ?_ ?_ <;> intro hc118
 ·
  have hbig : loW xs > 256 := by have h := hc118; simp at h; omega
  obtain ⟨t1, t2⟩ := tab_2 hc33 hbig
  refine zR (zA ?_)
  refine zA (zN (X_ret (at_then_r ?_)))
  first
  | exact at_retMs (L := _ :: _ :: _ :: []) (fun a ha w hw => res2 rfl rfl rfl a ha w) (fun w hw => ⟨_, I8, [], rfl, hIc, hw.drop, by rw [t1]; exact SlNTup.empty t2⟩)
 have hbig : ¬ loW xs > 256 := by have h := hc118; simp at h; omega
 obtain ⟨t1, t2⟩ := tab_3 hc33 hbig
 refine X_locEq (by rw [atK_all]) ?_
 refine X_freezeL (L := (b_98, .cells (cellsI (rngL ((csW xs 0).length + 1) (natF (sumF (wdW xs))))) 3 (0, 0)) :: (b_45, .cells (cellsI (rngL ((csW xs 0).length + 1) (natF (wdW xs)))) 3 (0, 0)) :: (b_41, .cells (cellsH hs) 88 (0, 0)) :: []) (R := MB ms) (.cons .here (.cons .here (.cons .here .nil))) (fun I10 hI10 hall => ?_)
 have hW0 := hW0.mono hI10; have hW := hW.mono hI10; have hH := hH.mono hI10; have hT := hT.mono hI10; have hC6 := hC6.mono hI10; have hPr := hPr.mono hI10; have hC10 := hC10.mono hI10; have hIc := hIc.trans hI10; have hB0 := hB0.trans hI10
 have hAt : Sl I10 1 encI (some ⟨b_98, 0, none⟩) ((csW xs 0).length + 1) ((csW xs 0).length + 1) (rngL ((csW xs 0).length + 1) (natF (sumF (wdW xs)))) := Sl.lit _ rngL_len encI_len (hall _ _ (by repeat (first | exact List.mem_cons_self .. | apply List.mem_cons_of_mem)))
 have hWd : Sl I10 1 encI (some ⟨b_45, 0, none⟩) ((csW xs 0).length + 1) ((csW xs 0).length + 1) (rngL ((csW xs 0).length + 1) (natF (wdW xs))) := Sl.lit _ rngL_len encI_len (hall _ _ (by repeat (first | exact List.mem_cons_self .. | apply List.mem_cons_of_mem)))
 have hPs : Sl I10 1 encH (some ⟨b_41, 0, none⟩) xs.length xs.length hs := Sl.lit _ hhl encH_len (hall _ _ (by repeat (first | exact List.mem_cons_self .. | apply List.mem_cons_of_mem)))
 refine X_locEq (loc' := [] ++ MB ms) rfl ?_
 refine X_skip (at_then (X_seq (zR (zM ?_))))
 refine zQ slt_31 ?_
 refine zM (zN (X_block ?_))
 refine X_loopM [(4, _), (5, _), (6, _), (10, _), (11, _), (119, _), (120, _)] (.cons rfl (.cons rfl (.cons rfl (.cons rfl (.cons rfl (.cons rfl (.cons rfl .nil))))))) (fun T L0 mz ms E I' loc' => ∃ (i : Nat) (v2 : Value) (os : List Hd) (L : Go.Kn.Loc), mz = xs.length - i ∧ E = (2, v2) :: (121, .int .i64 i) :: T ∧ HLe I10 I' ∧ L ++ MB ms = loc' ∧ i ≤ xs.length ∧ OwnS 23 1 v2 i (os.flatMap encH) L ∧ RelH I' os ((List.range i).map (rowW xs))) _ _ _ _ ⟨0, _, [], [], rfl, rfl, HLe.refl _, rfl, Nat.zero_le _, OwnS.nil, RelH.nil⟩ (.cons rfl (.cons rfl (.cons rfl (.cons rfl (.cons rfl (.cons rfl (.cons rfl (.cons rfl (.cons rfl .nil))))))))) (HLe.refl _) rfl ?_
 rintro mz ms E J11 loc' ⟨i, v2, os, L, rfl, rfl, hJ, rfl, hi, hO, hre⟩
 have hW0 := hW0.mono hJ; have hW := hW.mono hJ; have hH := hH.mono hJ; have hT := hT.mono hJ; have hC6 := hC6.mono hJ; have hPr := hPr.mono hJ; have hC10 := hC10.mono hJ; have hAt := hAt.mono hJ; have hWd := hWd.mono hJ; have hPs := hPs.mono hJ; have hIc := hIc.trans hJ; have hB0 := hB0.trans hJ
 have hB6 := hJ
 obtain ⟨va2, vc2, rfl⟩ := valn hO
 refine zR (zC (zN (X_seq ?_)))
 refine zI ?_ ?_ <;> intro hc122
 ·
  have hlt_i : i < xs.length := by have h := hc122; simp at h; omega
  obtain ⟨w, x, hx, hv, e1, e2, hR⟩ := hW.at hlt_i
  have hcsi : x.rs.map codeR = csW xs i := (csW_at hv).symm
  have hMi := csW_len (i := i) hrs
  have hRl := hR.len
  have hxb := hrs x (List.mem_of_getElem? hv)
  obtain ⟨hp, hhp, hhn, hPf⟩ := hPr i hlt_i
  have hpl := (pfW_ok (xs := xs) (i := i)).2
  refine X_skip (at_then (X_seq (X_block (zR (zM ?_)))))
  refine zV (zX slt_31 hH) ?_
  refine zV (ev_loadA rfl agt_54 (fun hg => by exact Sl.getA hH hx) rfl) ?_
  refine XO_alloc zt_54 rfl rfl (fun b_15 => ?_)
  refine zA ?_
  refine XO_storeA rfl rfl szt_54 rfl rfl rfl rfl (by repeat (first | exact Upd.here | apply Upd.there | apply upd_app)) ?_
  refine zN ?_
  refine X_cutM [(2, _), (4, _), (5, _), (6, _), (10, _), (11, _), (14, _), (119, _), (120, _), (121, _)] (.cons rfl (.cons rfl (.cons rfl (.cons rfl (.cons rfl (.cons rfl (.cons rfl (.cons rfl (.cons rfl (.cons rfl .nil)))))))))) (fun T L0 ms E I' loc' => ∃ (b16 b17 b127 : Nat) (av17 : Option Addr) (c17 : Nat), E = (16, capP b16) :: (17, capP b17) :: T ∧ HLe J11 I' ∧ (b127, .cells (cellsI (rngL (loW xs) (fun _ => 0))) 3 (0, 0)) :: (L ++ MB ms) = loc' ∧ Cell I' [] b16 0 (.slice (some ⟨b127, 0, none⟩) (loW xs) (loW xs)) ∧ Cell I' [] b17 0 (.slice av17 (csW xs i).length c17) ∧ Sl I' 1 encI av17 (csW xs i).length c17 (csW xs i)) ?_ ?_
  ·
   have hKc30 := HLe.refl J11
   have hD := HLe.refl J11
   refine X_noP ?_
   refine X_drawS J11 [(b_15, .cells (encW w).toArray 54 (0, 0))] mixed ?_
   refine zT 0 rfl (ev_move rfl) hD ?_
   refine zT 2 rfl (ev_loadA rfl agt_54 (fun hg => by exact Cells.g0) rfl) hD ?_
   refine XD_four 1 3 4 5 rfl rfl rfl rfl (by kernel_rfl) ?_ ?_ ?_ ?_
   ·
    refine XO_makeSlice mkt_23 rfl rfl (by omega) (by decide) rfl rfl (fun b_127 => ?_)
    refine XO_nil ?_
    refine zD hD ?_
    refine XD_three 3 4 5 rfl rfl rfl (by kernel_rfl) ?_ ?_ ?_
    ·
     refine XO_callM (cap := []) (vs := [_]) rfl rfl fun_42 .nil (w_codes hR (by omega) _ _) rfl rfl ?_
     rintro vv12 I12 L12 hI12 ⟨rfl, av30, c30, rfl, hL30⟩
     have hW0 := hW0.mono hI12; have hW := hW.mono hI12; have hH := hH.mono hI12; have hT := hT.mono hI12; have hC6 := hC6.mono hI12; have hPr := hPr.mono hI12; have hC10 := hC10.mono hI12; have hAt := hAt.mono hI12; have hWd := hWd.mono hI12; have hPs := hPs.mono hI12; have hre := hre.mono hI12; have hR := hR.mono hI12
     have hPf := hPf.mono hI12; have hIc := hIc.trans hI12; have hB0 := hB0.trans hI12; have hB6 := hB6.trans hI12; have hKc30 := hKc30.trans hI12; have hD := hD.trans hI12
     rw [hcsi] at hL30 ⊢
     refine XO_nil ?_
     refine zD hD ?_
     refine XD_two 4 5 rfl rfl (by kernel_rfl) ?_ ?_
     ·
      refine XO_alloc zt_23 rfl rfl (fun b_16 => ?_)
      refine XO_nil ?_
      refine zD hD ?_
      refine XD_one 5 rfl (by kernel_rfl) ?_
      refine XO_alloc zt_23 rfl rfl (fun b_17 => ?_)
      refine XO_nil ?_
      refine zD hD ?_
      refine XD_one 6 rfl (by kernel_rfl) ?_
      refine zS szt_23 ?_
      refine XO_nil ?_
      refine zD hD ?_
      refine XD_one 7 rfl (by kernel_rfl) ?_
      refine zS szt_23 ?_
      refine XO_nil ?_
      refine zD hD ?_
      refine XD_done (by kernel_rfl) ?_
      refine at_noP ?_
      rw [show ((loW xs : Nat) : Int).toNat = loW xs from rfl, cellsI_new, rngL_zero]
      refine at_freeze (b := b_16) (by repeat (first | exact Take.here | apply Take.there)) (fun I16 h16 e16 => ?_)
      refine at_freeze (b := b_17) (by repeat (first | exact Take.here | apply Take.there)) (fun I17 h17 e17 => ?_)
      exact at_metM rfl rfl rfl _ _ ⟨b_16, b_17, b_127, _, _, rfl, (hKc30.trans h16).trans h17, rfl, .imm (h17 _ _ e16) rfl, .imm e17 rfl, (hL30.mono h16).mono h17⟩ (.cons rfl (.cons rfl (.cons rfl (.cons rfl (.cons rfl (.cons rfl (.cons rfl (.cons rfl (.cons rfl (.cons rfl (.cons rfl (.cons rfl .nil)))))))))))) (by repeat (first | exact .refl | refine .keep ?_ | refine .drop ?_))
     refine XO_alloc zt_23 rfl rfl (fun b_17 => ?_)
     refine XO_nil ?_
     refine zD hD ?_
     refine XD_one 4 rfl (by kernel_rfl) ?_
     refine XO_alloc zt_23 rfl rfl (fun b_16 => ?_)
     refine XO_nil ?_
     refine zD hD ?_
     refine XD_one 6 rfl (by kernel_rfl) ?_
     refine zS szt_23 ?_
     refine XO_nil ?_
     refine zD hD ?_
     refine XD_one 7 rfl (by kernel_rfl) ?_
     refine zS szt_23 ?_
     refine XO_nil ?_
     refine zD hD ?_
     refine XD_done (by kernel_rfl) ?_
     refine at_noP ?_
     rw [show ((loW xs : Nat) : Int).toNat = loW xs from rfl, cellsI_new, rngL_zero]
     refine at_freeze (b := b_16) (by repeat (first | exact Take.here | apply Take.there)) (fun I16 h16 e16 => ?_)
     refine at_freeze (b := b_17) (by repeat (first | exact Take.here | apply Take.there)) (fun I17 h17 e17 => ?_)
     exact at_metM rfl rfl rfl _ _ ⟨b_16, b_17, b_127, _, _, rfl, (hKc30.trans h16).trans h17, rfl, .imm (h17 _ _ e16) rfl, .imm e17 rfl, (hL30.mono h16).mono h17⟩ (.cons rfl (.cons rfl (.cons rfl (.cons rfl (.cons rfl (.cons rfl (.cons rfl (.cons rfl (.cons rfl (.cons rfl (.cons rfl (.cons rfl .nil)))))))))))) (by repeat (first | exact .refl | refine .keep ?_ | refine .drop ?_))
    ·
     refine XO_alloc zt_23 rfl rfl (fun b_16 => ?_)
     refine XO_nil ?_
     refine zD hD ?_
     refine XD_two 3 5 rfl rfl (by kernel_rfl) ?_ ?_
     ·
      refine XO_callM (cap := []) (vs := [_]) rfl rfl fun_42 .nil (w_codes hR (by omega) _ _) rfl rfl ?_
      rintro vv13 I13 L13 hI13 ⟨rfl, av30, c30, rfl, hL30⟩
      have hW0 := hW0.mono hI13; have hW := hW.mono hI13; have hH := hH.mono hI13; have hT := hT.mono hI13; have hC6 := hC6.mono hI13; have hPr := hPr.mono hI13; have hC10 := hC10.mono hI13; have hAt := hAt.mono hI13; have hWd := hWd.mono hI13; have hPs := hPs.mono hI13; have hre := hre.mono hI13; have hR := hR.mono hI13
      have hPf := hPf.mono hI13; have hIc := hIc.trans hI13; have hB0 := hB0.trans hI13; have hB6 := hB6.trans hI13; have hKc30 := hKc30.trans hI13; have hD := hD.trans hI13
      rw [hcsi] at hL30 ⊢
      refine XO_nil ?_
      refine zD hD ?_
      refine XD_one 5 rfl (by kernel_rfl) ?_
      refine XO_alloc zt_23 rfl rfl (fun b_17 => ?_)
      refine XO_nil ?_
      refine zD hD ?_
      refine XD_one 6 rfl (by kernel_rfl) ?_
      refine zS szt_23 ?_
      refine XO_nil ?_
      refine zD hD ?_
      refine XD_one 7 rfl (by kernel_rfl) ?_
      refine zS szt_23 ?_
      refine XO_nil ?_
      refine zD hD ?_
      refine XD_done (by kernel_rfl) ?_
      refine at_noP ?_
      rw [show ((loW xs : Nat) : Int).toNat = loW xs from rfl, cellsI_new, rngL_zero]
      refine at_freeze (b := b_16) (by repeat (first | exact Take.here | apply Take.there)) (fun I16 h16 e16 => ?_)
      refine at_freeze (b := b_17) (by repeat (first | exact Take.here | apply Take.there)) (fun I17 h17 e17 => ?_)
      exact at_metM rfl rfl rfl _ _ ⟨b_16, b_17, b_127, _, _, rfl, (hKc30.trans h16).trans h17, rfl, .imm (h17 _ _ e16) rfl, .imm e17 rfl, (hL30.mono h16).mono h17⟩ (.cons rfl (.cons rfl (.cons rfl (.cons rfl (.cons rfl (.cons rfl (.cons rfl (.cons rfl (.cons rfl (.cons rfl (.cons rfl (.cons rfl .nil)))))))))))) (by repeat (first | exact .refl | refine .keep ?_ | refine .drop ?_))
     refine XO_alloc zt_23 rfl rfl (fun b_17 => ?_)
     refine XO_nil ?_
     refine zD hD ?_
     refine XD_one 3 rfl (by kernel_rfl) ?_
     refine XO_callM (cap := []) (vs := [_]) rfl rfl fun_42 .nil (w_codes hR (by omega) _ _) rfl rfl ?_
     rintro vv14 I14 L14 hI14 ⟨rfl, av30, c30, rfl, hL30⟩
     have hW0 := hW0.mono hI14; have hW := hW.mono hI14; have hH := hH.mono hI14; have hT := hT.mono hI14; have hC6 := hC6.mono hI14; have hPr := hPr.mono hI14; have hC10 := hC10.mono hI14; have hAt := hAt.mono hI14; have hWd := hWd.mono hI14; have hPs := hPs.mono hI14; have hre := hre.mono hI14; have hR := hR.mono hI14
     have hPf := hPf.mono hI14; have hIc := hIc.trans hI14; have hB0 := hB0.trans hI14; have hB6 := hB6.trans hI14; have hKc30 := hKc30.trans hI14; have hD := hD.trans hI14
     rw [hcsi] at hL30 ⊢
     refine XO_nil ?_
     refine zD hD ?_
     refine XD_one 6 rfl (by kernel_rfl) ?_
     refine zS szt_23 ?_
     refine XO_nil ?_
     refine zD hD ?_
     refine XD_one 7 rfl (by kernel_rfl) ?_
     refine zS szt_23 ?_
     refine XO_nil ?_
     refine zD hD ?_
     refine XD_done (by kernel_rfl) ?_
     refine at_noP ?_
     rw [show ((loW xs : Nat) : Int).toNat = loW xs from rfl, cellsI_new, rngL_zero]
     refine at_freeze (b := b_16) (by repeat (first | exact Take.here | apply Take.there)) (fun I16 h16 e16 => ?_)
     refine at_freeze (b := b_17) (by repeat (first | exact Take.here | apply Take.there)) (fun I17 h17 e17 => ?_)
     exact at_metM rfl rfl rfl _ _ ⟨b_16, b_17, b_127, _, _, rfl, (hKc30.trans h16).trans h17, rfl, .imm (h17 _ _ e16) rfl, .imm e17 rfl, (hL30.mono h16).mono h17⟩ (.cons rfl (.cons rfl (.cons rfl (.cons rfl (.cons rfl (.cons rfl (.cons rfl (.cons rfl (.cons rfl (.cons rfl (.cons rfl (.cons rfl .nil)))))))))))) (by repeat (first | exact .refl | refine .keep ?_ | refine .drop ?_))
    refine XO_alloc zt_23 rfl rfl (fun b_17 => ?_)
    refine XO_nil ?_
    refine zD hD ?_
    refine XD_two 3 4 rfl rfl (by kernel_rfl) ?_ ?_
    ·
     refine XO_callM (cap := []) (vs := [_]) rfl rfl fun_42 .nil (w_codes hR (by omega) _ _) rfl rfl ?_
     rintro vv15 I15 L15 hI15 ⟨rfl, av30, c30, rfl, hL30⟩
     have hW0 := hW0.mono hI15; have hW := hW.mono hI15; have hH := hH.mono hI15; have hT := hT.mono hI15; have hC6 := hC6.mono hI15; have hPr := hPr.mono hI15; have hC10 := hC10.mono hI15; have hAt := hAt.mono hI15; have hWd := hWd.mono hI15; have hPs := hPs.mono hI15; have hre := hre.mono hI15; have hR := hR.mono hI15
     have hPf := hPf.mono hI15; have hIc := hIc.trans hI15; have hB0 := hB0.trans hI15; have hB6 := hB6.trans hI15; have hKc30 := hKc30.trans hI15; have hD := hD.trans hI15
     rw [hcsi] at hL30 ⊢
     refine XO_nil ?_
     refine zD hD ?_
     refine XD_one 4 rfl (by kernel_rfl) ?_
     refine XO_alloc zt_23 rfl rfl (fun b_16 => ?_)
     refine XO_nil ?_
     refine zD hD ?_
     refine XD_one 6 rfl (by kernel_rfl) ?_
     refine zS szt_23 ?_
     refine XO_nil ?_
     refine zD hD ?_
     refine XD_one 7 rfl (by kernel_rfl) ?_
     refine zS szt_23 ?_
     refine XO_nil ?_
     refine zD hD ?_
     refine XD_done (by kernel_rfl) ?_
     refine at_noP ?_
     rw [show ((loW xs : Nat) : Int).toNat = loW xs from rfl, cellsI_new, rngL_zero]
     refine at_freeze (b := b_16) (by repeat (first | exact Take.here | apply Take.there)) (fun I16 h16 e16 => ?_)
     refine at_freeze (b := b_17) (by repeat (first | exact Take.here | apply Take.there)) (fun I17 h17 e17 => ?_)
     exact at_metM rfl rfl rfl _ _ ⟨b_16, b_17, b_127, _, _, rfl, (hKc30.trans h16).trans h17, rfl, .imm (h17 _ _ e16) rfl, .imm e17 rfl, (hL30.mono h16).mono h17⟩ (.cons rfl (.cons rfl (.cons rfl (.cons rfl (.cons rfl (.cons rfl (.cons rfl (.cons rfl (.cons rfl (.cons rfl (.cons rfl (.cons rfl .nil)))))))))))) (by repeat (first | exact .refl | refine .keep ?_ | refine .drop ?_))
    refine XO_alloc zt_23 rfl rfl (fun b_16 => ?_)
    refine XO_nil ?_
    refine zD hD ?_
    refine XD_one 3 rfl (by kernel_rfl) ?_
    refine XO_callM (cap := []) (vs := [_]) rfl rfl fun_42 .nil (w_codes hR (by omega) _ _) rfl rfl ?_
    rintro vv16 I16 L16 hI16 ⟨rfl, av30, c30, rfl, hL30⟩
    have hW0 := hW0.mono hI16; have hW := hW.mono hI16; have hH := hH.mono hI16; have hT := hT.mono hI16; have hC6 := hC6.mono hI16; have hPr := hPr.mono hI16; have hC10 := hC10.mono hI16; have hAt := hAt.mono hI16; have hWd := hWd.mono hI16; have hPs := hPs.mono hI16; have hre := hre.mono hI16; have hR := hR.mono hI16
    have hPf := hPf.mono hI16; have hIc := hIc.trans hI16; have hB0 := hB0.trans hI16; have hB6 := hB6.trans hI16; have hKc30 := hKc30.trans hI16; have hD := hD.trans hI16
    rw [hcsi] at hL30 ⊢
    refine XO_nil ?_
    refine zD hD ?_
    refine XD_one 6 rfl (by kernel_rfl) ?_
    refine zS szt_23 ?_
    refine XO_nil ?_
    refine zD hD ?_
    refine XD_one 7 rfl (by kernel_rfl) ?_
    refine zS szt_23 ?_
    refine XO_nil ?_
    refine zD hD ?_
    refine XD_done (by kernel_rfl) ?_
    refine at_noP ?_
    rw [show ((loW xs : Nat) : Int).toNat = loW xs from rfl, cellsI_new, rngL_zero]
    refine at_freeze (b := b_16) (by repeat (first | exact Take.here | apply Take.there)) (fun I16 h16 e16 => ?_)
    refine at_freeze (b := b_17) (by repeat (first | exact Take.here | apply Take.there)) (fun I17 h17 e17 => ?_)
    exact at_metM rfl rfl rfl _ _ ⟨b_16, b_17, b_127, _, _, rfl, (hKc30.trans h16).trans h17, rfl, .imm (h17 _ _ e16) rfl, .imm e17 rfl, (hL30.mono h16).mono h17⟩ (.cons rfl (.cons rfl (.cons rfl (.cons rfl (.cons rfl (.cons rfl (.cons rfl (.cons rfl (.cons rfl (.cons rfl (.cons rfl (.cons rfl .nil)))))))))))) (by repeat (first | exact .refl | refine .keep ?_ | refine .drop ?_))
   ·
    refine XO_callM (cap := []) (vs := [_]) rfl rfl fun_42 .nil (w_codes hR (by omega) _ _) rfl rfl ?_
    rintro vv17 I17 L17 hI17 ⟨rfl, av30, c30, rfl, hL30⟩
    have hW0 := hW0.mono hI17; have hW := hW.mono hI17; have hH := hH.mono hI17; have hT := hT.mono hI17; have hC6 := hC6.mono hI17; have hPr := hPr.mono hI17; have hC10 := hC10.mono hI17; have hAt := hAt.mono hI17; have hWd := hWd.mono hI17; have hPs := hPs.mono hI17; have hre := hre.mono hI17; have hR := hR.mono hI17
    have hPf := hPf.mono hI17; have hIc := hIc.trans hI17; have hB0 := hB0.trans hI17; have hB6 := hB6.trans hI17; have hKc30 := hKc30.trans hI17; have hD := hD.trans hI17
    rw [hcsi] at hL30 ⊢
    refine XO_nil ?_
    refine zD hD ?_
    refine XD_three 1 4 5 rfl rfl rfl (by kernel_rfl) ?_ ?_ ?_
    ·
     refine XO_makeSlice mkt_23 rfl rfl (by omega) (by decide) rfl rfl (fun b_127 => ?_)
     refine XO_nil ?_
     refine zD hD ?_
     refine XD_two 4 5 rfl rfl (by kernel_rfl) ?_ ?_
     ·
      refine XO_alloc zt_23 rfl rfl (fun b_16 => ?_)
      refine XO_nil ?_
      refine zD hD ?_
      refine XD_one 5 rfl (by kernel_rfl) ?_
      refine XO_alloc zt_23 rfl rfl (fun b_17 => ?_)
      refine XO_nil ?_
      refine zD hD ?_
      refine XD_one 6 rfl (by kernel_rfl) ?_
      refine zS szt_23 ?_
      refine XO_nil ?_
      refine zD hD ?_
      refine XD_one 7 rfl (by kernel_rfl) ?_
      refine zS szt_23 ?_
      refine XO_nil ?_
      refine zD hD ?_
      refine XD_done (by kernel_rfl) ?_
      refine at_noP ?_
      rw [show ((loW xs : Nat) : Int).toNat = loW xs from rfl, cellsI_new, rngL_zero]
      refine at_freeze (b := b_16) (by repeat (first | exact Take.here | apply Take.there)) (fun I16 h16 e16 => ?_)
      refine at_freeze (b := b_17) (by repeat (first | exact Take.here | apply Take.there)) (fun I17 h17 e17 => ?_)
      exact at_metM rfl rfl rfl _ _ ⟨b_16, b_17, b_127, _, _, rfl, (hKc30.trans h16).trans h17, rfl, .imm (h17 _ _ e16) rfl, .imm e17 rfl, (hL30.mono h16).mono h17⟩ (.cons rfl (.cons rfl (.cons rfl (.cons rfl (.cons rfl (.cons rfl (.cons rfl (.cons rfl (.cons rfl (.cons rfl (.cons rfl (.cons rfl .nil)))))))))))) (by repeat (first | exact .refl | refine .keep ?_ | refine .drop ?_))
     refine XO_alloc zt_23 rfl rfl (fun b_17 => ?_)
     refine XO_nil ?_
     refine zD hD ?_
     refine XD_one 4 rfl (by kernel_rfl) ?_
     refine XO_alloc zt_23 rfl rfl (fun b_16 => ?_)
     refine XO_nil ?_
     refine zD hD ?_
     refine XD_one 6 rfl (by kernel_rfl) ?_
     refine zS szt_23 ?_
     refine XO_nil ?_
     refine zD hD ?_
     refine XD_one 7 rfl (by kernel_rfl) ?_
     refine zS szt_23 ?_
     refine XO_nil ?_
     refine zD hD ?_
     refine XD_done (by kernel_rfl) ?_
     refine at_noP ?_
     rw [show ((loW xs : Nat) : Int).toNat = loW xs from rfl, cellsI_new, rngL_zero]
     refine at_freeze (b := b_16) (by repeat (first | exact Take.here | apply Take.there)) (fun I16 h16 e16 => ?_)
     refine at_freeze (b := b_17) (by repeat (first | exact Take.here | apply Take.there)) (fun I17 h17 e17 => ?_)
     exact at_metM rfl rfl rfl _ _ ⟨b_16, b_17, b_127, _, _, rfl, (hKc30.trans h16).trans h17, rfl, .imm (h17 _ _ e16) rfl, .imm e17 rfl, (hL30.mono h16).mono h17⟩ (.cons rfl (.cons rfl (.cons rfl (.cons rfl (.cons rfl (.cons rfl (.cons rfl (.cons rfl (.cons rfl (.cons rfl (.cons rfl (.cons rfl .nil)))))))))))) (by repeat (first | exact .refl | refine .keep ?_ | refine .drop ?_))
    ·
     refine XO_alloc zt_23 rfl rfl (fun b_16 => ?_)
     refine XO_nil ?_
     refine zD hD ?_
     refine XD_two 1 5 rfl rfl (by kernel_rfl) ?_ ?_
     ·
      refine XO_makeSlice mkt_23 rfl rfl (by omega) (by decide) rfl rfl (fun b_127 => ?_)
      refine XO_nil ?_
      refine zD hD ?_
      refine XD_one 5 rfl (by kernel_rfl) ?_
      refine XO_alloc zt_23 rfl rfl (fun b_17 => ?_)
      refine XO_nil ?_
      refine zD hD ?_
      refine XD_one 6 rfl (by kernel_rfl) ?_
      refine zS szt_23 ?_
      refine XO_nil ?_
      refine zD hD ?_
      refine XD_one 7 rfl (by kernel_rfl) ?_
      refine zS szt_23 ?_
      refine XO_nil ?_
      refine zD hD ?_
      refine XD_done (by kernel_rfl) ?_
      refine at_noP ?_
      rw [show ((loW xs : Nat) : Int).toNat = loW xs from rfl, cellsI_new, rngL_zero]
      refine at_freeze (b := b_16) (by repeat (first | exact Take.here | apply Take.there)) (fun I16 h16 e16 => ?_)
      refine at_freeze (b := b_17) (by repeat (first | exact Take.here | apply Take.there)) (fun I17 h17 e17 => ?_)
      exact at_metM rfl rfl rfl _ _ ⟨b_16, b_17, b_127, _, _, rfl, (hKc30.trans h16).trans h17, rfl, .imm (h17 _ _ e16) rfl, .imm e17 rfl, (hL30.mono h16).mono h17⟩ (.cons rfl (.cons rfl (.cons rfl (.cons rfl (.cons rfl (.cons rfl (.cons rfl (.cons rfl (.cons rfl (.cons rfl (.cons rfl (.cons rfl .nil)))))))))))) (by repeat (first | exact .refl | refine .keep ?_ | refine .drop ?_))
     refine XO_alloc zt_23 rfl rfl (fun b_17 => ?_)
     refine XO_nil ?_
     refine zD hD ?_
     refine XD_one 1 rfl (by kernel_rfl) ?_
     refine XO_makeSlice mkt_23 rfl rfl (by omega) (by decide) rfl rfl (fun b_127 => ?_)
     refine XO_nil ?_
     refine zD hD ?_
     refine XD_one 6 rfl (by kernel_rfl) ?_
     refine zS szt_23 ?_
     refine XO_nil ?_
     refine zD hD ?_
     refine XD_one 7 rfl (by kernel_rfl) ?_
     refine zS szt_23 ?_
     refine XO_nil ?_
     refine zD hD ?_
     refine XD_done (by kernel_rfl) ?_
     refine at_noP ?_
     rw [show ((loW xs : Nat) : Int).toNat = loW xs from rfl, cellsI_new, rngL_zero]
     refine at_freeze (b := b_16) (by repeat (first | exact Take.here | apply Take.there)) (fun I16 h16 e16 => ?_)
     refine at_freeze (b := b_17) (by repeat (first | exact Take.here | apply Take.there)) (fun I17 h17 e17 => ?_)
     exact at_metM rfl rfl rfl _ _ ⟨b_16, b_17, b_127, _, _, rfl, (hKc30.trans h16).trans h17, rfl, .imm (h17 _ _ e16) rfl, .imm e17 rfl, (hL30.mono h16).mono h17⟩ (.cons rfl (.cons rfl (.cons rfl (.cons rfl (.cons rfl (.cons rfl (.cons rfl (.cons rfl (.cons rfl (.cons rfl (.cons rfl (.cons rfl .nil)))))))))))) (by repeat (first | exact .refl | refine .keep ?_ | refine .drop ?_))
    refine XO_alloc zt_23 rfl rfl (fun b_17 => ?_)
    refine XO_nil ?_
    refine zD hD ?_
    refine XD_two 1 4 rfl rfl (by kernel_rfl) ?_ ?_
    ·
     refine XO_makeSlice mkt_23 rfl rfl (by omega) (by decide) rfl rfl (fun b_127 => ?_)
     refine XO_nil ?_
     refine zD hD ?_
     refine XD_one 4 rfl (by kernel_rfl) ?_
     refine XO_alloc zt_23 rfl rfl (fun b_16 => ?_)
     refine XO_nil ?_
     refine zD hD ?_
     refine XD_one 6 rfl (by kernel_rfl) ?_
     refine zS szt_23 ?_
     refine XO_nil ?_
     refine zD hD ?_
     refine XD_one 7 rfl (by kernel_rfl) ?_
     refine zS szt_23 ?_
     refine XO_nil ?_
     refine zD hD ?_
     refine XD_done (by kernel_rfl) ?_
     refine at_noP ?_
     rw [show ((loW xs : Nat) : Int).toNat = loW xs from rfl, cellsI_new, rngL_zero]
     refine at_freeze (b := b_16) (by repeat (first | exact Take.here | apply Take.there)) (fun I16 h16 e16 => ?_)
     refine at_freeze (b := b_17) (by repeat (first | exact Take.here | apply Take.there)) (fun I17 h17 e17 => ?_)
     exact at_metM rfl rfl rfl _ _ ⟨b_16, b_17, b_127, _, _, rfl, (hKc30.trans h16).trans h17, rfl, .imm (h17 _ _ e16) rfl, .imm e17 rfl, (hL30.mono h16).mono h17⟩ (.cons rfl (.cons rfl (.cons rfl (.cons rfl (.cons rfl (.cons rfl (.cons rfl (.cons rfl (.cons rfl (.cons rfl (.cons rfl (.cons rfl .nil)))))))))))) (by repeat (first | exact .refl | refine .keep ?_ | refine .drop ?_))
    refine XO_alloc zt_23 rfl rfl (fun b_16 => ?_)
    refine XO_nil ?_
    refine zD hD ?_
    refine XD_one 1 rfl (by kernel_rfl) ?_
    refine XO_makeSlice mkt_23 rfl rfl (by omega) (by decide) rfl rfl (fun b_127 => ?_)
    refine XO_nil ?_
    refine zD hD ?_
    refine XD_one 6 rfl (by kernel_rfl) ?_
    refine zS szt_23 ?_
    refine XO_nil ?_
    refine zD hD ?_
    refine XD_one 7 rfl (by kernel_rfl) ?_
    refine zS szt_23 ?_
    refine XO_nil ?_
    refine zD hD ?_
    refine XD_done (by kernel_rfl) ?_
    refine at_noP ?_
    rw [show ((loW xs : Nat) : Int).toNat = loW xs from rfl, cellsI_new, rngL_zero]
    refine at_freeze (b := b_16) (by repeat (first | exact Take.here | apply Take.there)) (fun I16 h16 e16 => ?_)
    refine at_freeze (b := b_17) (by repeat (first | exact Take.here | apply Take.there)) (fun I17 h17 e17 => ?_)
    exact at_metM rfl rfl rfl _ _ ⟨b_16, b_17, b_127, _, _, rfl, (hKc30.trans h16).trans h17, rfl, .imm (h17 _ _ e16) rfl, .imm e17 rfl, (hL30.mono h16).mono h17⟩ (.cons rfl (.cons rfl (.cons rfl (.cons rfl (.cons rfl (.cons rfl (.cons rfl (.cons rfl (.cons rfl (.cons rfl (.cons rfl (.cons rfl .nil)))))))))))) (by repeat (first | exact .refl | refine .keep ?_ | refine .drop ?_))
   ·
    refine XO_alloc zt_23 rfl rfl (fun b_16 => ?_)
    refine XO_nil ?_
    refine zD hD ?_
    refine XD_three 1 3 5 rfl rfl rfl (by kernel_rfl) ?_ ?_ ?_
    ·
     refine XO_makeSlice mkt_23 rfl rfl (by omega) (by decide) rfl rfl (fun b_127 => ?_)
     refine XO_nil ?_
     refine zD hD ?_
     refine XD_two 3 5 rfl rfl (by kernel_rfl) ?_ ?_
     ·
      refine XO_callM (cap := []) (vs := [_]) rfl rfl fun_42 .nil (w_codes hR (by omega) _ _) rfl rfl ?_
      rintro vv18 I18 L18 hI18 ⟨rfl, av30, c30, rfl, hL30⟩
      have hW0 := hW0.mono hI18; have hW := hW.mono hI18; have hH := hH.mono hI18; have hT := hT.mono hI18; have hC6 := hC6.mono hI18; have hPr := hPr.mono hI18; have hC10 := hC10.mono hI18; have hAt := hAt.mono hI18; have hWd := hWd.mono hI18; have hPs := hPs.mono hI18; have hre := hre.mono hI18; have hR := hR.mono hI18
      have hPf := hPf.mono hI18; have hIc := hIc.trans hI18; have hB0 := hB0.trans hI18; have hB6 := hB6.trans hI18; have hKc30 := hKc30.trans hI18; have hD := hD.trans hI18
      rw [hcsi] at hL30 ⊢
      refine XO_nil ?_
      refine zD hD ?_
      refine XD_one 5 rfl (by kernel_rfl) ?_
      refine XO_alloc zt_23 rfl rfl (fun b_17 => ?_)
      refine XO_nil ?_
      refine zD hD ?_
      refine XD_one 6 rfl (by kernel_rfl) ?_
      refine zS szt_23 ?_
      refine XO_nil ?_
      refine zD hD ?_
      refine XD_one 7 rfl (by kernel_rfl) ?_
      refine zS szt_23 ?_
      refine XO_nil ?_
      refine zD hD ?_
      refine XD_done (by kernel_rfl) ?_
      refine at_noP ?_
      rw [show ((loW xs : Nat) : Int).toNat = loW xs from rfl, cellsI_new, rngL_zero]
      refine at_freeze (b := b_16) (by repeat (first | exact Take.here | apply Take.there)) (fun I16 h16 e16 => ?_)
      refine at_freeze (b := b_17) (by repeat (first | exact Take.here | apply Take.there)) (fun I17 h17 e17 => ?_)
      exact at_metM rfl rfl rfl _ _ ⟨b_16, b_17, b_127, _, _, rfl, (hKc30.trans h16).trans h17, rfl, .imm (h17 _ _ e16) rfl, .imm e17 rfl, (hL30.mono h16).mono h17⟩ (.cons rfl (.cons rfl (.cons rfl (.cons rfl (.cons rfl (.cons rfl (.cons rfl (.cons rfl (.cons rfl (.cons rfl (.cons rfl (.cons rfl .nil)))))))))))) (by repeat (first | exact .refl | refine .keep ?_ | refine .drop ?_))
     refine XO_alloc zt_23 rfl rfl (fun b_17 => ?_)
     refine XO_nil ?_
     refine zD hD ?_
     refine XD_one 3 rfl (by kernel_rfl) ?_
     refine XO_callM (cap := []) (vs := [_]) rfl rfl fun_42 .nil (w_codes hR (by omega) _ _) rfl rfl ?_
     rintro vv19 I19 L19 hI19 ⟨rfl, av30, c30, rfl, hL30⟩
     have hW0 := hW0.mono hI19; have hW := hW.mono hI19; have hH := hH.mono hI19; have hT := hT.mono hI19; have hC6 := hC6.mono hI19; have hPr := hPr.mono hI19; have hC10 := hC10.mono hI19; have hAt := hAt.mono hI19; have hWd := hWd.mono hI19; have hPs := hPs.mono hI19; have hre := hre.mono hI19; have hR := hR.mono hI19
     have hPf := hPf.mono hI19; have hIc := hIc.trans hI19; have hB0 := hB0.trans hI19; have hB6 := hB6.trans hI19; have hKc30 := hKc30.trans hI19; have hD := hD.trans hI19
     rw [hcsi] at hL30 ⊢
     refine XO_nil ?_
     refine zD hD ?_
     refine XD_one 6 rfl (by kernel_rfl) ?_
     refine zS szt_23 ?_
     refine XO_nil ?_
     refine zD hD ?_
     refine XD_one 7 rfl (by kernel_rfl) ?_
     refine zS szt_23 ?_
     refine XO_nil ?_
     refine zD hD ?_
     refine XD_done (by kernel_rfl) ?_
     refine at_noP ?_
     rw [show ((loW xs : Nat) : Int).toNat = loW xs from rfl, cellsI_new, rngL_zero]
     refine at_freeze (b := b_16) (by repeat (first | exact Take.here | apply Take.there)) (fun I16 h16 e16 => ?_)
     refine at_freeze (b := b_17) (by repeat (first | exact Take.here | apply Take.there)) (fun I17 h17 e17 => ?_)
     exact at_metM rfl rfl rfl _ _ ⟨b_16, b_17, b_127, _, _, rfl, (hKc30.trans h16).trans h17, rfl, .imm (h17 _ _ e16) rfl, .imm e17 rfl, (hL30.mono h16).mono h17⟩ (.cons rfl (.cons rfl (.cons rfl (.cons rfl (.cons rfl (.cons rfl (.cons rfl (.cons rfl (.cons rfl (.cons rfl (.cons rfl (.cons rfl .nil)))))))))))) (by repeat (first | exact .refl | refine .keep ?_ | refine .drop ?_))
    ·
     refine XO_callM (cap := []) (vs := [_]) rfl rfl fun_42 .nil (w_codes hR (by omega) _ _) rfl rfl ?_
     rintro vv20 I20 L20 hI20 ⟨rfl, av30, c30, rfl, hL30⟩
     have hW0 := hW0.mono hI20; have hW := hW.mono hI20; have hH := hH.mono hI20; have hT := hT.mono hI20; have hC6 := hC6.mono hI20; have hPr := hPr.mono hI20; have hC10 := hC10.mono hI20; have hAt := hAt.mono hI20; have hWd := hWd.mono hI20; have hPs := hPs.mono hI20; have hre := hre.mono hI20; have hR := hR.mono hI20
     have hPf := hPf.mono hI20; have hIc := hIc.trans hI20; have hB0 := hB0.trans hI20; have hB6 := hB6.trans hI20; have hKc30 := hKc30.trans hI20; have hD := hD.trans hI20
     rw [hcsi] at hL30 ⊢
     refine XO_nil ?_
     refine zD hD ?_
     refine XD_two 1 5 rfl rfl (by kernel_rfl) ?_ ?_
     ·
      refine XO_makeSlice mkt_23 rfl rfl (by omega) (by decide) rfl rfl (fun b_127 => ?_)
      refine XO_nil ?_
      refine zD hD ?_
      refine XD_one 5 rfl (by kernel_rfl) ?_
      refine XO_alloc zt_23 rfl rfl (fun b_17 => ?_)
      refine XO_nil ?_
      refine zD hD ?_
      refine XD_one 6 rfl (by kernel_rfl) ?_
      refine zS szt_23 ?_
      refine XO_nil ?_
      refine zD hD ?_
      refine XD_one 7 rfl (by kernel_rfl) ?_
      refine zS szt_23 ?_
      refine XO_nil ?_
      refine zD hD ?_
      refine XD_done (by kernel_rfl) ?_
      refine at_noP ?_
      rw [show ((loW xs : Nat) : Int).toNat = loW xs from rfl, cellsI_new, rngL_zero]
      refine at_freeze (b := b_16) (by repeat (first | exact Take.here | apply Take.there)) (fun I16 h16 e16 => ?_)
      refine at_freeze (b := b_17) (by repeat (first | exact Take.here | apply Take.there)) (fun I17 h17 e17 => ?_)
      exact at_metM rfl rfl rfl _ _ ⟨b_16, b_17, b_127, _, _, rfl, (hKc30.trans h16).trans h17, rfl, .imm (h17 _ _ e16) rfl, .imm e17 rfl, (hL30.mono h16).mono h17⟩ (.cons rfl (.cons rfl (.cons rfl (.cons rfl (.cons rfl (.cons rfl (.cons rfl (.cons rfl (.cons rfl (.cons rfl (.cons rfl (.cons rfl .nil)))))))))))) (by repeat (first | exact .refl | refine .keep ?_ | refine .drop ?_))
     refine XO_alloc zt_23 rfl rfl (fun b_17 => ?_)
     refine XO_nil ?_
     refine zD hD ?_
     refine XD_one 1 rfl (by kernel_rfl) ?_
     refine XO_makeSlice mkt_23 rfl rfl (by omega) (by decide) rfl rfl (fun b_127 => ?_)
     refine XO_nil ?_
     refine zD hD ?_
     refine XD_one 6 rfl (by kernel_rfl) ?_
     refine zS szt_23 ?_
     refine XO_nil ?_
     refine zD hD ?_
     refine XD_one 7 rfl (by kernel_rfl) ?_
     refine zS szt_23 ?_
     refine XO_nil ?_
     refine zD hD ?_
     refine XD_done (by kernel_rfl) ?_
     refine at_noP ?_
     rw [show ((loW xs : Nat) : Int).toNat = loW xs from rfl, cellsI_new, rngL_zero]
     refine at_freeze (b := b_16) (by repeat (first | exact Take.here | apply Take.there)) (fun I16 h16 e16 => ?_)
     refine at_freeze (b := b_17) (by repeat (first | exact Take.here | apply Take.there)) (fun I17 h17 e17 => ?_)
     exact at_metM rfl rfl rfl _ _ ⟨b_16, b_17, b_127, _, _, rfl, (hKc30.trans h16).trans h17, rfl, .imm (h17 _ _ e16) rfl, .imm e17 rfl, (hL30.mono h16).mono h17⟩ (.cons rfl (.cons rfl (.cons rfl (.cons rfl (.cons rfl (.cons rfl (.cons rfl (.cons rfl (.cons rfl (.cons rfl (.cons rfl (.cons rfl .nil)))))))))))) (by repeat (first | exact .refl | refine .keep ?_ | refine .drop ?_))
    refine XO_alloc zt_23 rfl rfl (fun b_17 => ?_)
    refine XO_nil ?_
    refine zD hD ?_
    refine XD_two 1 3 rfl rfl (by kernel_rfl) ?_ ?_
    ·
     refine XO_makeSlice mkt_23 rfl rfl (by omega) (by decide) rfl rfl (fun b_127 => ?_)
     refine XO_nil ?_
     refine zD hD ?_
     refine XD_one 3 rfl (by kernel_rfl) ?_
     refine XO_callM (cap := []) (vs := [_]) rfl rfl fun_42 .nil (w_codes hR (by omega) _ _) rfl rfl ?_
     rintro vv21 I21 L21 hI21 ⟨rfl, av30, c30, rfl, hL30⟩
     have hW0 := hW0.mono hI21; have hW := hW.mono hI21; have hH := hH.mono hI21; have hT := hT.mono hI21; have hC6 := hC6.mono hI21; have hPr := hPr.mono hI21; have hC10 := hC10.mono hI21; have hAt := hAt.mono hI21; have hWd := hWd.mono hI21; have hPs := hPs.mono hI21; have hre := hre.mono hI21; have hR := hR.mono hI21
     have hPf := hPf.mono hI21; have hIc := hIc.trans hI21; have hB0 := hB0.trans hI21; have hB6 := hB6.trans hI21; have hKc30 := hKc30.trans hI21; have hD := hD.trans hI21
     rw [hcsi] at hL30 ⊢
     refine XO_nil ?_
     refine zD hD ?_
     refine XD_one 6 rfl (by kernel_rfl) ?_
     refine zS szt_23 ?_
     refine XO_nil ?_
     refine zD hD ?_
     refine XD_one 7 rfl (by kernel_rfl) ?_
     refine zS szt_23 ?_
     refine XO_nil ?_
     refine zD hD ?_
     refine XD_done (by kernel_rfl) ?_
     refine at_noP ?_
     rw [show ((loW xs : Nat) : Int).toNat = loW xs from rfl, cellsI_new, rngL_zero]
     refine at_freeze (b := b_16) (by repeat (first | exact Take.here | apply Take.there)) (fun I16 h16 e16 => ?_)
     refine at_freeze (b := b_17) (by repeat (first | exact Take.here | apply Take.there)) (fun I17 h17 e17 => ?_)
     exact at_metM rfl rfl rfl _ _ ⟨b_16, b_17, b_127, _, _, rfl, (hKc30.trans h16).trans h17, rfl, .imm (h17 _ _ e16) rfl, .imm e17 rfl, (hL30.mono h16).mono h17⟩ (.cons rfl (.cons rfl (.cons rfl (.cons rfl (.cons rfl (.cons rfl (.cons rfl (.cons rfl (.cons rfl (.cons rfl (.cons rfl (.cons rfl .nil)))))))))))) (by repeat (first | exact .refl | refine .keep ?_ | refine .drop ?_))
    refine XO_callM (cap := []) (vs := [_]) rfl rfl fun_42 .nil (w_codes hR (by omega) _ _) rfl rfl ?_
    rintro vv22 I22 L22 hI22 ⟨rfl, av30, c30, rfl, hL30⟩
    have hW0 := hW0.mono hI22; have hW := hW.mono hI22; have hH := hH.mono hI22; have hT := hT.mono hI22; have hC6 := hC6.mono hI22; have hPr := hPr.mono hI22; have hC10 := hC10.mono hI22; have hAt := hAt.mono hI22; have hWd := hWd.mono hI22; have hPs := hPs.mono hI22; have hre := hre.mono hI22; have hR := hR.mono hI22
    have hPf := hPf.mono hI22; have hIc := hIc.trans hI22; have hB0 := hB0.trans hI22; have hB6 := hB6.trans hI22; have hKc30 := hKc30.trans hI22; have hD := hD.trans hI22
    rw [hcsi] at hL30 ⊢
    refine XO_nil ?_
    refine zD hD ?_
    refine XD_one 1 rfl (by kernel_rfl) ?_
    refine XO_makeSlice mkt_23 rfl rfl (by omega) (by decide) rfl rfl (fun b_127 => ?_)
    refine XO_nil ?_
    refine zD hD ?_
    refine XD_one 6 rfl (by kernel_rfl) ?_
    refine zS szt_23 ?_
    refine XO_nil ?_
    refine zD hD ?_
    refine XD_one 7 rfl (by kernel_rfl) ?_
    refine zS szt_23 ?_
    refine XO_nil ?_
    refine zD hD ?_
    refine XD_done (by kernel_rfl) ?_
    refine at_noP ?_
    rw [show ((loW xs : Nat) : Int).toNat = loW xs from rfl, cellsI_new, rngL_zero]
    refine at_freeze (b := b_16) (by repeat (first | exact Take.here | apply Take.there)) (fun I16 h16 e16 => ?_)
    refine at_freeze (b := b_17) (by repeat (first | exact Take.here | apply Take.there)) (fun I17 h17 e17 => ?_)
    exact at_metM rfl rfl rfl _ _ ⟨b_16, b_17, b_127, _, _, rfl, (hKc30.trans h16).trans h17, rfl, .imm (h17 _ _ e16) rfl, .imm e17 rfl, (hL30.mono h16).mono h17⟩ (.cons rfl (.cons rfl (.cons rfl (.cons rfl (.cons rfl (.cons rfl (.cons rfl (.cons rfl (.cons rfl (.cons rfl (.cons rfl (.cons rfl .nil)))))))))))) (by repeat (first | exact .refl | refine .keep ?_ | refine .drop ?_))
   refine XO_alloc zt_23 rfl rfl (fun b_17 => ?_)
   refine XO_nil ?_
   refine zD hD ?_
   refine XD_three 1 3 4 rfl rfl rfl (by kernel_rfl) ?_ ?_ ?_
   ·
    refine XO_makeSlice mkt_23 rfl rfl (by omega) (by decide) rfl rfl (fun b_127 => ?_)
    refine XO_nil ?_
    refine zD hD ?_
    refine XD_two 3 4 rfl rfl (by kernel_rfl) ?_ ?_
    ·
     refine XO_callM (cap := []) (vs := [_]) rfl rfl fun_42 .nil (w_codes hR (by omega) _ _) rfl rfl ?_
     rintro vv23 I23 L23 hI23 ⟨rfl, av30, c30, rfl, hL30⟩
     have hW0 := hW0.mono hI23; have hW := hW.mono hI23; have hH := hH.mono hI23; have hT := hT.mono hI23; have hC6 := hC6.mono hI23; have hPr := hPr.mono hI23; have hC10 := hC10.mono hI23; have hAt := hAt.mono hI23; have hWd := hWd.mono hI23; have hPs := hPs.mono hI23; have hre := hre.mono hI23; have hR := hR.mono hI23
     have hPf := hPf.mono hI23; have hIc := hIc.trans hI23; have hB0 := hB0.trans hI23; have hB6 := hB6.trans hI23; have hKc30 := hKc30.trans hI23; have hD := hD.trans hI23
     rw [hcsi] at hL30 ⊢
     refine XO_nil ?_
     refine zD hD ?_
     refine XD_one 4 rfl (by kernel_rfl) ?_
     refine XO_alloc zt_23 rfl rfl (fun b_16 => ?_)
     refine XO_nil ?_
     refine zD hD ?_
     refine XD_one 6 rfl (by kernel_rfl) ?_
     refine zS szt_23 ?_
     refine XO_nil ?_
     refine zD hD ?_
     refine XD_one 7 rfl (by kernel_rfl) ?_
     refine zS szt_23 ?_
     refine XO_nil ?_
     refine zD hD ?_
     refine XD_done (by kernel_rfl) ?_
     refine at_noP ?_
     rw [show ((loW xs : Nat) : Int).toNat = loW xs from rfl, cellsI_new, rngL_zero]
     refine at_freeze (b := b_16) (by repeat (first | exact Take.here | apply Take.there)) (fun I16 h16 e16 => ?_)
     refine at_freeze (b := b_17) (by repeat (first | exact Take.here | apply Take.there)) (fun I17 h17 e17 => ?_)
     exact at_metM rfl rfl rfl _ _ ⟨b_16, b_17, b_127, _, _, rfl, (hKc30.trans h16).trans h17, rfl, .imm (h17 _ _ e16) rfl, .imm e17 rfl, (hL30.mono h16).mono h17⟩ (.cons rfl (.cons rfl (.cons rfl (.cons rfl (.cons rfl (.cons rfl (.cons rfl (.cons rfl (.cons rfl (.cons rfl (.cons rfl (.cons rfl .nil)))))))))))) (by repeat (first | exact .refl | refine .keep ?_ | refine .drop ?_))
    refine XO_alloc zt_23 rfl rfl (fun b_16 => ?_)
    refine XO_nil ?_
    refine zD hD ?_
    refine XD_one 3 rfl (by kernel_rfl) ?_
    refine XO_callM (cap := []) (vs := [_]) rfl rfl fun_42 .nil (w_codes hR (by omega) _ _) rfl rfl ?_
    rintro vv24 I24 L24 hI24 ⟨rfl, av30, c30, rfl, hL30⟩
    have hW0 := hW0.mono hI24; have hW := hW.mono hI24; have hH := hH.mono hI24; have hT := hT.mono hI24; have hC6 := hC6.mono hI24; have hPr := hPr.mono hI24; have hC10 := hC10.mono hI24; have hAt := hAt.mono hI24; have hWd := hWd.mono hI24; have hPs := hPs.mono hI24; have hre := hre.mono hI24; have hR := hR.mono hI24
    have hPf := hPf.mono hI24; have hIc := hIc.trans hI24; have hB0 := hB0.trans hI24; have hB6 := hB6.trans hI24; have hKc30 := hKc30.trans hI24; have hD := hD.trans hI24
    rw [hcsi] at hL30 ⊢
    refine XO_nil ?_
    refine zD hD ?_
    refine XD_one 6 rfl (by kernel_rfl) ?_
    refine zS szt_23 ?_
    refine XO_nil ?_
    refine zD hD ?_
    refine XD_one 7 rfl (by kernel_rfl) ?_
    refine zS szt_23 ?_
    refine XO_nil ?_
    refine zD hD ?_
    refine XD_done (by kernel_rfl) ?_
    refine at_noP ?_
    rw [show ((loW xs : Nat) : Int).toNat = loW xs from rfl, cellsI_new, rngL_zero]
    refine at_freeze (b := b_16) (by repeat (first | exact Take.here | apply Take.there)) (fun I16 h16 e16 => ?_)
    refine at_freeze (b := b_17) (by repeat (first | exact Take.here | apply Take.there)) (fun I17 h17 e17 => ?_)
    exact at_metM rfl rfl rfl _ _ ⟨b_16, b_17, b_127, _, _, rfl, (hKc30.trans h16).trans h17, rfl, .imm (h17 _ _ e16) rfl, .imm e17 rfl, (hL30.mono h16).mono h17⟩ (.cons rfl (.cons rfl (.cons rfl (.cons rfl (.cons rfl (.cons rfl (.cons rfl (.cons rfl (.cons rfl (.cons rfl (.cons rfl (.cons rfl .nil)))))))))))) (by repeat (first | exact .refl | refine .keep ?_ | refine .drop ?_))
   ·
    refine XO_callM (cap := []) (vs := [_]) rfl rfl fun_42 .nil (w_codes hR (by omega) _ _) rfl rfl ?_
    rintro vv25 I25 L25 hI25 ⟨rfl, av30, c30, rfl, hL30⟩
    have hW0 := hW0.mono hI25; have hW := hW.mono hI25; have hH := hH.mono hI25; have hT := hT.mono hI25; have hC6 := hC6.mono hI25; have hPr := hPr.mono hI25; have hC10 := hC10.mono hI25; have hAt := hAt.mono hI25; have hWd := hWd.mono hI25; have hPs := hPs.mono hI25; have hre := hre.mono hI25; have hR := hR.mono hI25
    have hPf := hPf.mono hI25; have hIc := hIc.trans hI25; have hB0 := hB0.trans hI25; have hB6 := hB6.trans hI25; have hKc30 := hKc30.trans hI25; have hD := hD.trans hI25
    rw [hcsi] at hL30 ⊢
    refine XO_nil ?_
    refine zD hD ?_
    refine XD_two 1 4 rfl rfl (by kernel_rfl) ?_ ?_
    ·
     refine XO_makeSlice mkt_23 rfl rfl (by omega) (by decide) rfl rfl (fun b_127 => ?_)
     refine XO_nil ?_
     refine zD hD ?_
     refine XD_one 4 rfl (by kernel_rfl) ?_
     refine XO_alloc zt_23 rfl rfl (fun b_16 => ?_)
     refine XO_nil ?_
     refine zD hD ?_
     refine XD_one 6 rfl (by kernel_rfl) ?_
     refine zS szt_23 ?_
     refine XO_nil ?_
     refine zD hD ?_
     refine XD_one 7 rfl (by kernel_rfl) ?_
     refine zS szt_23 ?_
     refine XO_nil ?_
     refine zD hD ?_
     refine XD_done (by kernel_rfl) ?_
     refine at_noP ?_
     rw [show ((loW xs : Nat) : Int).toNat = loW xs from rfl, cellsI_new, rngL_zero]
     refine at_freeze (b := b_16) (by repeat (first | exact Take.here | apply Take.there)) (fun I16 h16 e16 => ?_)
     refine at_freeze (b := b_17) (by repeat (first | exact Take.here | apply Take.there)) (fun I17 h17 e17 => ?_)
     exact at_metM rfl rfl rfl _ _ ⟨b_16, b_17, b_127, _, _, rfl, (hKc30.trans h16).trans h17, rfl, .imm (h17 _ _ e16) rfl, .imm e17 rfl, (hL30.mono h16).mono h17⟩ (.cons rfl (.cons rfl (.cons rfl (.cons rfl (.cons rfl (.cons rfl (.cons rfl (.cons rfl (.cons rfl (.cons rfl (.cons rfl (.cons rfl .nil)))))))))))) (by repeat (first | exact .refl | refine .keep ?_ | refine .drop ?_))
    refine XO_alloc zt_23 rfl rfl (fun b_16 => ?_)
    refine XO_nil ?_
    refine zD hD ?_
    refine XD_one 1 rfl (by kernel_rfl) ?_
    refine XO_makeSlice mkt_23 rfl rfl (by omega) (by decide) rfl rfl (fun b_127 => ?_)
    refine XO_nil ?_
    refine zD hD ?_
    refine XD_one 6 rfl (by kernel_rfl) ?_
    refine zS szt_23 ?_
    refine XO_nil ?_
    refine zD hD ?_
    refine XD_one 7 rfl (by kernel_rfl) ?_
    refine zS szt_23 ?_
    refine XO_nil ?_
    refine zD hD ?_
    refine XD_done (by kernel_rfl) ?_
    refine at_noP ?_
    rw [show ((loW xs : Nat) : Int).toNat = loW xs from rfl, cellsI_new, rngL_zero]
    refine at_freeze (b := b_16) (by repeat (first | exact Take.here | apply Take.there)) (fun I16 h16 e16 => ?_)
    refine at_freeze (b := b_17) (by repeat (first | exact Take.here | apply Take.there)) (fun I17 h17 e17 => ?_)
    exact at_metM rfl rfl rfl _ _ ⟨b_16, b_17, b_127, _, _, rfl, (hKc30.trans h16).trans h17, rfl, .imm (h17 _ _ e16) rfl, .imm e17 rfl, (hL30.mono h16).mono h17⟩ (.cons rfl (.cons rfl (.cons rfl (.cons rfl (.cons rfl (.cons rfl (.cons rfl (.cons rfl (.cons rfl (.cons rfl (.cons rfl (.cons rfl .nil)))))))))))) (by repeat (first | exact .refl | refine .keep ?_ | refine .drop ?_))
   refine XO_alloc zt_23 rfl rfl (fun b_16 => ?_)
   refine XO_nil ?_
   refine zD hD ?_
   refine XD_two 1 3 rfl rfl (by kernel_rfl) ?_ ?_
   ·
    refine XO_makeSlice mkt_23 rfl rfl (by omega) (by decide) rfl rfl (fun b_127 => ?_)
    refine XO_nil ?_
    refine zD hD ?_
    refine XD_one 3 rfl (by kernel_rfl) ?_
    refine XO_callM (cap := []) (vs := [_]) rfl rfl fun_42 .nil (w_codes hR (by omega) _ _) rfl rfl ?_
    rintro vv26 I26 L26 hI26 ⟨rfl, av30, c30, rfl, hL30⟩
    have hW0 := hW0.mono hI26; have hW := hW.mono hI26; have hH := hH.mono hI26; have hT := hT.mono hI26; have hC6 := hC6.mono hI26; have hPr := hPr.mono hI26; have hC10 := hC10.mono hI26; have hAt := hAt.mono hI26; have hWd := hWd.mono hI26; have hPs := hPs.mono hI26; have hre := hre.mono hI26; have hR := hR.mono hI26
    have hPf := hPf.mono hI26; have hIc := hIc.trans hI26; have hB0 := hB0.trans hI26; have hB6 := hB6.trans hI26; have hKc30 := hKc30.trans hI26; have hD := hD.trans hI26
    rw [hcsi] at hL30 ⊢
    refine XO_nil ?_
    refine zD hD ?_
    refine XD_one 6 rfl (by kernel_rfl) ?_
    refine zS szt_23 ?_
    refine XO_nil ?_
    refine zD hD ?_
    refine XD_one 7 rfl (by kernel_rfl) ?_
    refine zS szt_23 ?_
    refine XO_nil ?_
    refine zD hD ?_
    refine XD_done (by kernel_rfl) ?_
    refine at_noP ?_
    rw [show ((loW xs : Nat) : Int).toNat = loW xs from rfl, cellsI_new, rngL_zero]
    refine at_freeze (b := b_16) (by repeat (first | exact Take.here | apply Take.there)) (fun I16 h16 e16 => ?_)
    refine at_freeze (b := b_17) (by repeat (first | exact Take.here | apply Take.there)) (fun I17 h17 e17 => ?_)
    exact at_metM rfl rfl rfl _ _ ⟨b_16, b_17, b_127, _, _, rfl, (hKc30.trans h16).trans h17, rfl, .imm (h17 _ _ e16) rfl, .imm e17 rfl, (hL30.mono h16).mono h17⟩ (.cons rfl (.cons rfl (.cons rfl (.cons rfl (.cons rfl (.cons rfl (.cons rfl (.cons rfl (.cons rfl (.cons rfl (.cons rfl (.cons rfl .nil)))))))))))) (by repeat (first | exact .refl | refine .keep ?_ | refine .drop ?_))
   refine XO_callM (cap := []) (vs := [_]) rfl rfl fun_42 .nil (w_codes hR (by omega) _ _) rfl rfl ?_
   rintro vv27 I27 L27 hI27 ⟨rfl, av30, c30, rfl, hL30⟩
   have hW0 := hW0.mono hI27; have hW := hW.mono hI27; have hH := hH.mono hI27; have hT := hT.mono hI27; have hC6 := hC6.mono hI27; have hPr := hPr.mono hI27; have hC10 := hC10.mono hI27; have hAt := hAt.mono hI27; have hWd := hWd.mono hI27; have hPs := hPs.mono hI27; have hre := hre.mono hI27; have hR := hR.mono hI27
   have hPf := hPf.mono hI27; have hIc := hIc.trans hI27; have hB0 := hB0.trans hI27; have hB6 := hB6.trans hI27; have hKc30 := hKc30.trans hI27; have hD := hD.trans hI27
   rw [hcsi] at hL30 ⊢
   refine XO_nil ?_
   refine zD hD ?_
   refine XD_one 1 rfl (by kernel_rfl) ?_
   refine XO_makeSlice mkt_23 rfl rfl (by omega) (by decide) rfl rfl (fun b_127 => ?_)
   refine XO_nil ?_
   refine zD hD ?_
   refine XD_one 6 rfl (by kernel_rfl) ?_
   refine zS szt_23 ?_
   refine XO_nil ?_
   refine zD hD ?_
   refine XD_one 7 rfl (by kernel_rfl) ?_
   refine zS szt_23 ?_
   refine XO_nil ?_
   refine zD hD ?_
   refine XD_done (by kernel_rfl) ?_
   refine at_noP ?_
   rw [show ((loW xs : Nat) : Int).toNat = loW xs from rfl, cellsI_new, rngL_zero]
   refine at_freeze (b := b_16) (by repeat (first | exact Take.here | apply Take.there)) (fun I16 h16 e16 => ?_)
   refine at_freeze (b := b_17) (by repeat (first | exact Take.here | apply Take.there)) (fun I17 h17 e17 => ?_)
   exact at_metM rfl rfl rfl _ _ ⟨b_16, b_17, b_127, _, _, rfl, (hKc30.trans h16).trans h17, rfl, .imm (h17 _ _ e16) rfl, .imm e17 rfl, (hL30.mono h16).mono h17⟩ (.cons rfl (.cons rfl (.cons rfl (.cons rfl (.cons rfl (.cons rfl (.cons rfl (.cons rfl (.cons rfl (.cons rfl (.cons rfl (.cons rfl .nil)))))))))))) (by repeat (first | exact .refl | refine .keep ?_ | refine .drop ?_))
  rintro ms E J28 loc' ⟨b16, b17, b127, av17, c17, rfl, hJ30, rfl, hC16, hC17, hL17⟩
  have hW0 := hW0.mono hJ30; have hW := hW.mono hJ30; have hH := hH.mono hJ30; have hT := hT.mono hJ30; have hC6 := hC6.mono hJ30; have hPr := hPr.mono hJ30; have hC10 := hC10.mono hJ30; have hAt := hAt.mono hJ30; have hWd := hWd.mono hJ30; have hPs := hPs.mono hJ30; have hre := hre.mono hJ30; have hR := hR.mono hJ30
  have hPf := hPf.mono hJ30; have hIc := hIc.trans hJ30; have hB0 := hB0.trans hJ30; have hB6 := hB6.trans hJ30
  refine X_cutM [(2, _), (4, _), (5, _), (6, _), (10, _), (11, _), (14, _), (16, _), (17, _), (119, _), (120, _), (121, _)] (.cons rfl (.cons rfl (.cons rfl (.cons rfl (.cons rfl (.cons rfl (.cons rfl (.cons rfl (.cons rfl (.cons rfl (.cons rfl (.cons rfl .nil)))))))))))) (fun T L0 ms E I' loc' => E = T ∧ HLe J28 I' ∧ (b127, .cells (cellsI (rngL (loW xs) ((if i = 0 then txF (wdW xs) (csW xs 0) (csW xs 0).length else fun _ => 0)))) 3 (0, 0)) :: (L ++ MB ms) = loc') ?_ ?_
  ·
   have hKc31 := HLe.refl J28
   refine zR (zM ?_)
   refine zC (zN ?_)
   refine zI ?_ ?_ <;> intro hc131
   ·
    have hi0 : i = 0 := by have h := hc131; simp at h; omega
    refine zR (zM ?_)
    refine zQ slt_23 ?_
    refine zM (zN (X_block ?_))
    refine X_loopM [(2, _), (4, _), (5, _), (6, _), (10, _), (11, _), (14, _), (16, _), (17, _), (119, _), (120, _), (121, _), (132, _), (133, _)] (.cons rfl (.cons rfl (.cons rfl (.cons rfl (.cons rfl (.cons rfl (.cons rfl (.cons rfl (.cons rfl (.cons rfl (.cons rfl (.cons rfl (.cons rfl (.cons rfl .nil)))))))))))))) (fun T L0 mz ms E I' loc' => ∃ (k : Nat), mz = (csW xs 0).length - k ∧ E = (134, .int .i64 k) :: T ∧ J28 = I' ∧ (b127, .cells (cellsI (rngL (loW xs) (txF (wdW xs) (csW xs 0) k))) 3 (0, 0)) :: (L ++ MB ms) = loc' ∧ k ≤ (csW xs 0).length) _ _ _ _ ⟨0, rfl, rfl, rfl, rfl, Nat.zero_le _⟩ (.cons rfl (.cons rfl (.cons rfl (.cons rfl (.cons rfl (.cons rfl (.cons rfl (.cons rfl (.cons rfl (.cons rfl (.cons rfl (.cons rfl (.cons rfl (.cons rfl (.cons rfl .nil))))))))))))))) (HLe.refl _) rfl ?_
    rintro mz ms E I' loc' ⟨k, rfl, rfl, rfl, rfl, hk⟩
    refine zR (zC (zN (X_seq ?_)))
    refine zI ?_ ?_ <;> intro hc135
    ·
     have hlt_k : k < (csW xs 0).length := by have h := hc135; simp at h; omega
     obtain ⟨tk, hTk⟩ := hT.at hlt_k
     have hps := pos_lt hlt_k
     have hf1 : natF (sumF (wdW xs)) k = (((sumF (wdW xs)) k : Nat) : Int) := rfl
     have hf2 : natF (wdW xs) k = (((wdW xs) k : Nat) : Int) := rfl
     refine X_skip (at_then (X_seq (X_block (zR (zM ?_)))))
     refine zV (zX slt_23 hT) ?_
     refine zV (ev_load rfl sct_3 (fun hg => by exact Sl.get0 hT hTk rfl)) ?_
     refine zA ?_
     refine zA (zN ?_)
     have hD := HLe.refl J28
     refine X_noP ?_
     refine X_drawS J28 [] mixed ?_
     refine zT 0 rfl (ev_load rfl sct_23 (fun hg => by exact hC16.any)) hD ?_
     refine zT 1 rfl (ev_load rfl sct_23 (fun hg => by exact hC10.any)) hD ?_
     refine zT 2 rfl (ev_move rfl) hD ?_
     refine zT 3 rfl (zX slt_23 hAt) hD ?_
     refine zT 4 rfl (ev_load rfl sct_3 (fun hg => by exact Sl.get0 (k := k) hAt (rngL_at (show k < _ by omega)) rfl)) hD ?_
     refine zT 5 rfl (ev_load rfl sct_23 (fun hg => by exact hC6.any)) hD ?_
     refine zT 6 rfl (ev_move rfl) hD ?_
     refine zT 7 rfl (zX slt_23 hWd) hD ?_
     refine zT 8 rfl (ev_load rfl sct_3 (fun hg => by exact Sl.get0 (k := k) hWd (rngL_at (show k < _ by omega)) rfl)) hD ?_
     refine zT 9 rfl (ev_arB rfl rfl rfl (fun hg => by omega)) hD ?_
     refine zT 10 rfl (ev_move rfl) hD ?_
     refine zT 11 rfl (ev_indexOwn rfl rfl slt_23 (fun hg => by omega)) hD ?_
     refine XD_one 12 rfl (by kernel_rfl) ?_
     refine XO_store rfl rfl szt_3 rfl rfl (by repeat (first | exact Upd.here | apply Upd.there | apply upd_app)) (by rw [show natF (sumF (wdW xs)) k + natF (wdW xs) k = ((sumF (wdW xs) k + wdW xs k : Nat) : Int) from rfl]; exact bltI (by rw [rngL_len]; omega)) ?_
     refine XO_nil ?_
     refine zD hD ?_
     refine XD_done (by kernel_rfl) ?_
     refine at_noP ?_
     rw [show natF (sumF (wdW xs)) k + natF (wdW xs) k = ((sumF (wdW xs) k + wdW xs k : Nat) : Int) from rfl, cellsI_set, rngL_set, ← getD_of (d := 0) hTk]
     refine at_block_n (at_then (X_region (zB ?_)))
     refine zM (XO_nil ?_)
     exact at_metM rfl rfl rfl _ _ ⟨(csW xs 0).length - (k + 1), by omega, k + 1, rfl, rfl, rfl, rfl, by omega⟩ (.cons rfl (.cons rfl (.cons rfl (.cons rfl (.cons rfl (.cons rfl (.cons rfl (.cons rfl (.cons rfl (.cons rfl (.cons rfl (.cons rfl (.cons rfl (.cons rfl (.cons rfl .nil))))))))))))))) (by repeat (first | exact .refl | exact subL_left | refine subL_app ?_ | refine .drop ?_ | refine subL_add ?_))
    have hge_k : (csW xs 0).length ≤ k := by have h := hc135; simp at h; omega
    obtain rfl : k = (csW xs 0).length := by omega
    refine X_exit (at_then_e (at_then_e (at_block_hit ?_)))
    exact at_metM rfl rfl rfl _ _ ⟨rfl, hKc31, by rw [if_pos hi0]⟩ (.cons rfl (.cons rfl (.cons rfl (.cons rfl (.cons rfl (.cons rfl (.cons rfl (.cons rfl (.cons rfl (.cons rfl (.cons rfl (.cons rfl .nil)))))))))))) .refl
   have hi0 : ¬ i = 0 := by have h := hc131; simp at h; omega
   refine X_skip ?_
   exact at_metM rfl rfl rfl _ _ ⟨rfl, hKc31, by rw [if_neg hi0]⟩ (.cons rfl (.cons rfl (.cons rfl (.cons rfl (.cons rfl (.cons rfl (.cons rfl (.cons rfl (.cons rfl (.cons rfl (.cons rfl (.cons rfl .nil)))))))))))) .refl
  rintro ms E J30 loc' ⟨rfl, hJ131, rfl⟩
  have hW0 := hW0.mono hJ131; have hW := hW.mono hJ131; have hH := hH.mono hJ131; have hT := hT.mono hJ131; have hC6 := hC6.mono hJ131; have hPr := hPr.mono hJ131; have hC10 := hC10.mono hJ131; have hAt := hAt.mono hJ131; have hWd := hWd.mono hJ131; have hPs := hPs.mono hJ131; have hre := hre.mono hJ131
  have hR := hR.mono hJ131; have hPf := hPf.mono hJ131; have hC16 := hC16.mono hJ131; have hC17 := hC17.mono hJ131; have hL17 := hL17.mono hJ131; have hIc := hIc.trans hJ131; have hB0 := hB0.trans hJ131; have hB6 := hB6.trans hJ131
  refine X_seq (zR (zM ?_))
  refine zM ?_
  refine zV (zX slt_87 hPs) ?_
  refine zV (ev_load rfl sct_88 (fun hg => by exact Sl.get0 hPs hhp rfl)) ?_
  refine zQ slt_88 ?_
  refine zM (zN (X_block ?_))
  refine X_loopM [(2, _), (4, _), (5, _), (6, _), (10, _), (11, _), (14, _), (16, _), (17, _), (119, _), (120, _), (121, _), (155, _), (156, _)] (.cons rfl (.cons rfl (.cons rfl (.cons rfl (.cons rfl (.cons rfl (.cons rfl (.cons rfl (.cons rfl (.cons rfl (.cons rfl (.cons rfl (.cons rfl (.cons rfl .nil)))))))))))))) (fun T L0 mz ms E I' loc' => ∃ (k : Nat), mz = (pfW xs i).length - k ∧ E = (157, .int .i64 k) :: T ∧ J30 = I' ∧ (b127, .cells (cellsI (rngL (loW xs) (((pfW xs i).take k).foldl (prF (wdW xs) (csW xs i)) (if i = 0 then txF (wdW xs) (csW xs 0) (csW xs 0).length else fun _ => 0)))) 3 (0, 0)) :: (L ++ MB ms) = loc' ∧ k ≤ (pfW xs i).length) _ _ _ _ ⟨0, rfl, rfl, rfl, rfl, Nat.zero_le _⟩ (.cons rfl (.cons rfl (.cons rfl (.cons rfl (.cons rfl (.cons rfl (.cons rfl (.cons rfl (.cons rfl (.cons rfl (.cons rfl (.cons rfl (.cons rfl (.cons rfl (.cons rfl .nil))))))))))))))) (HLe.refl _) rfl ?_
  rintro mz ms E I' loc' ⟨k, rfl, rfl, rfl, rfl, hk⟩
  refine zR (zC (zN (X_seq ?_)))
  refine zI ?_ ?_ <;> intro hc158
  ·
   have hlt_k : k < (pfW xs i).length := by have h := hc158; simp at h; omega
   obtain ⟨y, hy⟩ := hPf.at (show k < _ by omega)
   obtain ⟨y1, y2, y3, y4⟩ := pfW_in hy
   refine X_skip (at_then (X_seq (X_block (zR ?_))))
   refine zV (zX slt_88 hPf) ?_
   refine zV (ev_loadA rfl agt_94 (fun hg => by exact Sl.getA hPf hy) rfl) ?_
   refine XO_alloc zt_94 rfl rfl (fun b_21 => ?_)
   refine XO_storeA rfl rfl szt_94 rfl rfl rfl rfl (by repeat (first | exact Upd.here | apply Upd.there | apply upd_app)) ?_
   refine zN (zR ?_)
   refine zV (ev_indexArr rfl rfl art_94 (fun hg => by decide)) ?_
   refine zV (ev_load rfl sct_3 (fun hg => by exact Cell.h0 rfl)) ?_
   refine zC ?_
   refine zM ?_
   refine XO_pushT 3 rfl rfl rfl ?_
   refine zK (ev_indexArr rfl rfl art_94 (fun hg => by decide)) ?_
   refine zK (ev_load rfl sct_3 (fun hg => by exact Cell.h0 rfl)) ?_
   refine zK (ev_cmp rfl rfl rfl) ?_
   refine XO_and0 rfl rfl rfl rfl rfl ?_
   refine zN ?_
   refine zI ?_ ?_ <;> intro hc168
   ·
    have hy5 : y.1 > 0 ∧ y.2 > 0 := by have h := hc168; simp at h; exact h
    have hps := pos_lt (xs := xs) (k := (y.1 - 1).toNat) (by omega)
    have hf1 : natF (sumF (wdW xs)) (y.1 - 1).toNat = (((sumF (wdW xs)) (y.1 - 1).toNat : Nat) : Int) := rfl
    have hf2 : natF (wdW xs) (y.1 - 1).toNat = (((wdW xs) (y.1 - 1).toNat : Nat) : Int) := rfl
    have hD := HLe.refl J30
    refine X_noP ?_
    refine X_drawS J30 [(b_21, .cells (encQ y).toArray 94 (0, 0))] mixed ?_
    refine zT 0 rfl (ev_load rfl sct_23 (fun hg => by exact hC16.any)) hD ?_
    refine zT 1 rfl (ev_load rfl sct_23 (fun hg => by exact hC10.any)) hD ?_
    refine zT 2 rfl (ev_indexArr rfl rfl art_94 (fun hg => by decide)) hD ?_
    refine zT 3 rfl (ev_load rfl sct_3 (fun hg => by exact Cell.h0 rfl)) hD ?_
    refine zT 4 rfl (ev_arB rfl rfl rfl (fun hg => by omega)) hD ?_
    refine zT 5 rfl (zX slt_23 hAt) hD ?_
    refine zT 6 rfl (ev_load rfl sct_3 (fun hg => by exact Sl.get0 (k := (y.1 - 1).toNat) hAt (rngL_at (by omega)) rfl)) hD ?_
    refine zT 7 rfl (ev_load rfl sct_23 (fun hg => by exact hC6.any)) hD ?_
    refine zT 8 rfl (ev_indexArr rfl rfl art_94 (fun hg => by decide)) hD ?_
    refine zT 9 rfl (ev_load rfl sct_3 (fun hg => by exact Cell.h0 rfl)) hD ?_
    refine zT 10 rfl (ev_arB rfl rfl rfl (fun hg => by omega)) hD ?_
    refine zT 11 rfl (zX slt_23 hWd) hD ?_
    refine zT 12 rfl (ev_load rfl sct_3 (fun hg => by exact Sl.get0 (k := (y.1 - 1).toNat) hWd (rngL_at (by omega)) rfl)) hD ?_
    refine zT 13 rfl (ev_arB rfl rfl rfl (fun hg => by omega)) hD ?_
    refine zT 14 rfl (ev_load rfl sct_23 (fun hg => by exact hC17.any)) hD ?_
    refine zT 15 rfl (ev_indexArr rfl rfl art_94 (fun hg => by decide)) hD ?_
    refine zT 16 rfl (ev_load rfl sct_3 (fun hg => by exact Cell.h0 rfl)) hD ?_
    refine zT 17 rfl (ev_arB rfl rfl rfl (fun hg => by omega)) hD ?_
    refine zT 18 rfl (zX slt_23 hL17) hD ?_
    refine zT 19 rfl (ev_load rfl sct_3 (fun hg => by exact Sl.get0 (k := (y.2 - 1).toNat) hL17 (some_getD (d := 0) rfl (by omega)) rfl)) hD ?_
    refine zT 20 rfl (ev_indexOwn rfl rfl slt_23 (fun hg => by omega)) hD ?_
    refine XD_one 21 rfl (by kernel_rfl) ?_
    refine XO_store rfl rfl szt_3 rfl rfl (by repeat (first | exact Upd.here | apply Upd.there | apply upd_app)) (by rw [show natF (sumF (wdW xs)) (y.1 - 1).toNat + natF (wdW xs) (y.1 - 1).toNat = ((sumF (wdW xs) (y.1 - 1).toNat + wdW xs (y.1 - 1).toNat : Nat) : Int) from rfl]; exact bltI (by rw [rngL_len]; omega)) ?_
    refine XO_nil ?_
    refine zD hD ?_
    refine XD_done (by kernel_rfl) ?_
    refine at_noP ?_
    rw [show natF (sumF (wdW xs)) (y.1 - 1).toNat + natF (wdW xs) (y.1 - 1).toNat = ((sumF (wdW xs) (y.1 - 1).toNat + wdW xs (y.1 - 1).toNat : Nat) : Int) from rfl, cellsI_set, rngL_set]
    refine at_block_n (at_then (X_region (zB ?_)))
    refine zM (XO_nil ?_)
    exact at_metM rfl rfl rfl _ _ ⟨(pfW xs i).length - (k + 1), by omega, k + 1, rfl, rfl, rfl, by rw [prF_next hy, prF_yes hc168], by omega⟩ (.cons rfl (.cons rfl (.cons rfl (.cons rfl (.cons rfl (.cons rfl (.cons rfl (.cons rfl (.cons rfl (.cons rfl (.cons rfl (.cons rfl (.cons rfl (.cons rfl (.cons rfl .nil))))))))))))))) (by repeat (first | exact .refl | exact subL_left | refine subL_app ?_ | refine .drop ?_ | refine subL_add ?_))
   refine X_skip (at_block_n (at_then (X_region (zB ?_))))
   refine zM (XO_nil ?_)
   exact at_metM rfl rfl rfl _ _ ⟨(pfW xs i).length - (k + 1), by omega, k + 1, rfl, rfl, rfl, by rw [prF_next hy, prF_no hc168], by omega⟩ (.cons rfl (.cons rfl (.cons rfl (.cons rfl (.cons rfl (.cons rfl (.cons rfl (.cons rfl (.cons rfl (.cons rfl (.cons rfl (.cons rfl (.cons rfl (.cons rfl (.cons rfl .nil))))))))))))))) (by repeat (first | exact .refl | exact subL_left | refine subL_app ?_ | refine .drop ?_ | refine subL_add ?_))
  have hge_k : (pfW xs i).length ≤ k := by have h := hc158; simp at h; omega
  rw [List.take_of_length_le hge_k]
  refine X_exit (at_then_e (at_then_e (at_block_hit (at_then (zR (zM ?_))))))
  refine zQ slt_23 ?_
  refine zB ?_
  refine XO_makeSlice mkt_23 rfl rfl (by omega) (by decide) rfl rfl (fun b_194 => ?_)
  refine XO_alloc zt_23 rfl rfl (fun b_22 => ?_)
  refine zS szt_23 ?_
  refine XO_nil ?_
  have e1 : (((csW xs 0).length : Nat) : Int) + 1 = (((csW xs 0).length + 1 : Nat) : Int) := rfl
  rw [e1, show (((csW xs 0).length + 1 : Nat) : Int).toNat = (csW xs 0).length + 1 from rfl, cellsI_new, rngL_zero, nat_zero]
  refine X_freeze (b := b_22) (by repeat (first | exact Take.here | apply Take.there)) (fun I32 hI32 hb32 => ?_)
  have hW0 := hW0.mono hI32; have hW := hW.mono hI32; have hH := hH.mono hI32; have hT := hT.mono hI32; have hC6 := hC6.mono hI32; have hPr := hPr.mono hI32; have hC10 := hC10.mono hI32; have hAt := hAt.mono hI32; have hWd := hWd.mono hI32; have hPs := hPs.mono hI32; have hre := hre.mono hI32; have hR := hR.mono hI32
  have hPf := hPf.mono hI32; have hC16 := hC16.mono hI32; have hC17 := hC17.mono hI32; have hL17 := hL17.mono hI32; have hIc := hIc.trans hI32; have hB0 := hB0.trans hI32; have hB6 := hB6.trans hI32
  have hC22 : Cell I32 [] b_22 0 (.slice (some ⟨b_194, 0, none⟩) ((csW xs 0).length + 1) ((csW xs 0).length + 1)) := .imm hb32 rfl
  refine at_then (X_seq (zR (zM ?_)))
  refine zM ?_
  refine zV (zX slt_87 hPs) ?_
  refine zV (ev_load rfl sct_88 (fun hg => by exact Sl.get0 hPs hhp rfl)) ?_
  refine XO_callM (cap := []) (vs := [_]) rfl rfl fun_44 .nil (w_alone _ _ _ _) rfl rfl ?_
  rintro vv33 I33 L33 hI33 ⟨rfl, b1, rfl, hb1⟩
  have hW0 := hW0.mono hI33; have hW := hW.mono hI33; have hH := hH.mono hI33; have hT := hT.mono hI33; have hC6 := hC6.mono hI33; have hPr := hPr.mono hI33; have hC10 := hC10.mono hI33; have hAt := hAt.mono hI33; have hWd := hWd.mono hI33; have hPs := hPs.mono hI33; have hre := hre.mono hI33; have hR := hR.mono hI33
  have hPf := hPf.mono hI33; have hC16 := hC16.mono hI33; have hC17 := hC17.mono hI33; have hL17 := hL17.mono hI33; have hC22 := hC22.mono hI33; have hIc := hIc.trans hI33; have hB0 := hB0.trans hI33; have hB6 := hB6.trans hI33
  refine zN (X_block ?_)
  refine X_rangeFuncM2 (K := []) (L := (b_194, .cells (cellsI (rngL ((csW xs 0).length + 1) (natF (cnt [])))) 3 (0, 0)) :: (b127, .cells (cellsI (rngL (loW xs) ((alP (wdW xs) (csW xs i) ((pfW xs i).foldl (prF (wdW xs) (csW xs i)) (if i = 0 then txF (wdW xs) (csW xs 0) (csW xs 0).length else fun _ => 0)) []).1))) 3 (0, 0)) :: L) (en1 := en1Q) (en2 := en2Q) (xs := alW xs i) (fun pre I' loc' => loc' = (b_194, .cells (cellsI (rngL ((csW xs 0).length + 1) (natF (cnt pre)))) 3 (0, 0)) :: (b127, .cells (cellsI (rngL (loW xs) ((alP (wdW xs) (csW xs i) ((pfW xs i).foldl (prF (wdW xs) (csW xs i)) (if i = 0 then txF (wdW xs) (csW xs 0) (csW xs 0).length else fun _ => 0)) pre).1))) 3 (0, 0)) :: L) (fun _ _ _ _ => False) (fun pre x E2 I2 loc2 => E2 = [(10, capP b_10), (16, capP b16), (17, capP b17), (22, capP b_22), (23, .int .i64 x.1), (24, .int .i64 x.2)] ∧ loc2 = (b_194, .cells (cellsI (rngL ((csW xs 0).length + 1) (natF (cnt pre)))) 3 (0, 0)) :: (b127, .cells (cellsI (rngL (loW xs) ((alP (wdW xs) (csW xs i) ((pfW xs i).foldl (prF (wdW xs) (csW xs i)) (if i = 0 then txF (wdW xs) (csW xs 0) (csW xs 0).length else fun _ => 0)) pre).1))) 3 (0, 0)) :: L) rfl fun_78 (w_aloit hPf (by omega) (pfW_2 hrs i) hb1) rfl rfl rfl ?_ ?_ ?_ ?_
  ·
   rintro l9 pre x I1 loc1 H1 hpre hI1 rfl
   refine zR (zA (zN (X_region ?_)))
   refine zA (XO_nil ?_)
   exact at_met' _ ⟨HLe.refl _, rfl, rfl⟩ (.cons rfl (.cons rfl (.cons rfl (.cons rfl (.cons rfl (.cons rfl .nil))))))
  ·
   rintro l9 pre x E2 I2 loc2 H2 hpre hI2 ⟨rfl, rfl⟩
   have hW0 := hW0.mono hI2; have hW := hW.mono hI2; have hH := hH.mono hI2; have hT := hT.mono hI2; have hC6 := hC6.mono hI2; have hPr := hPr.mono hI2; have hC10 := hC10.mono hI2; have hAt := hAt.mono hI2; have hWd := hWd.mono hI2; have hPs := hPs.mono hI2; have hre := hre.mono hI2; have hR := hR.mono hI2
   have hPf := hPf.mono hI2; have hC16 := hC16.mono hI2; have hC17 := hC17.mono hI2; have hL17 := hL17.mono hI2; have hC22 := hC22.mono hI2; have hIc := hIc.trans hI2; have hB0 := hB0.trans hI2; have hB6 := hB6.trans hI2
   obtain ⟨x1, x2, x3, x4, x5⟩ := alW_in hpre
   have hcb := Nat.le_trans (@cnt_len (alW xs i) x.1.toNat) (alW_b hrs i)
   have hnc := natF_in (f := cnt pre) (a := x.1.toNat) (B := 128) (by omega)
   have hp2 := pos_lt2 x2 hlt_i x5
   have hf1 : natF (sumF (wdW xs)) x.1.toNat = (((sumF (wdW xs)) x.1.toNat : Nat) : Int) := rfl
   have hf2 : natF (cnt pre) x.1.toNat = (((cnt pre) x.1.toNat : Nat) : Int) := rfl
   refine X_block (X_seq ?_)
   have hD := HLe.refl I2
   refine X_noP ?_
   refine X_drawS I2 [(b_194, .cells (cellsI (rngL ((csW xs 0).length + 1) (natF (cnt pre)))) 3 (0, 0))] mixed ?_
   refine zT 0 rfl (ev_load rfl sct_23 (fun hg => by exact hC16.any)) hD ?_
   refine zT 1 rfl (ev_load rfl sct_23 (fun hg => by exact hC10.any)) hD ?_
   refine zT 2 rfl (ev_move rfl) hD ?_
   refine zT 3 rfl (zX slt_23 hAt) hD ?_
   refine zT 4 rfl (ev_load rfl sct_3 (fun hg => by exact Sl.get0 (k := x.1.toNat) hAt (rngL_at (by omega)) rfl)) hD ?_
   refine zT 5 rfl (ev_load rfl sct_23 (fun hg => by exact hC22.any)) hD ?_
   refine zT 6 rfl (ev_move rfl) hD ?_
   refine zT 7 rfl (ev_indexOwn rfl rfl slt_23 (fun hg => by omega)) hD ?_
   refine zT 8 rfl (ev_load rfl sct_3 (fun hg => by exact cellI_at (rngL_at (by omega)))) hD ?_
   refine zT 9 rfl (ev_arB rfl rfl rfl (fun hg => by omega)) hD ?_
   refine zT 10 rfl (ev_load rfl sct_23 (fun hg => by exact hC17.any)) hD ?_
   refine zT 11 rfl (ev_move rfl) hD ?_
   refine zT 12 rfl (zX slt_23 hL17) hD ?_
   refine zT 13 rfl (ev_load rfl sct_3 (fun hg => by exact Sl.get0 (k := x.2.toNat) hL17 (some_getD (d := 0) rfl (by omega)) rfl)) hD ?_
   refine zT 14 rfl (ev_indexOwn rfl rfl slt_23 (fun hg => by omega)) hD ?_
   refine XD_one 15 rfl (by kernel_rfl) ?_
   refine XO_store rfl rfl szt_3 rfl rfl (by repeat (first | exact Upd.here | apply Upd.there | apply upd_app)) (by rw [show natF (sumF (wdW xs)) x.1.toNat + natF (cnt pre) x.1.toNat = ((sumF (wdW xs) x.1.toNat + cnt pre x.1.toNat : Nat) : Int) from rfl]; exact bltI (by rw [rngL_len]; omega)) ?_
   refine XO_nil ?_
   refine zD hD ?_
   refine XD_done (by kernel_rfl) ?_
   refine at_noP ?_
   rw [show natF (sumF (wdW xs)) x.1.toNat + natF (cnt pre) x.1.toNat = ((sumF (wdW xs) x.1.toNat + cnt pre x.1.toNat : Nat) : Int) from rfl, cellsI_set, rngL_set, ← alP_snoc]
   refine at_then (X_region ?_)
   refine zV (ev_load rfl sct_23 (fun hg => by exact hC22.any)) ?_
   refine zM ?_
   refine zV (ev_indexOwn rfl rfl slt_23 (fun hg => by omega)) ?_
   refine zV (ev_load rfl sct_3 (fun hg => by exact cellI_at (rngL_at (by omega)))) ?_
   refine zB ?_
   refine zV (ev_indexOwn rfl rfl slt_23 (fun hg => by omega)) ?_
   refine XO_store rfl rfl szt_3 rfl rfl (by repeat (first | exact Upd.here | apply Upd.there | apply upd_app)) (bltN (by rw [rngL_len]; omega)) ?_
   refine XO_nil ?_
   rw [cellsI_setN, rngL_set, show natF (cnt pre) x.1.toNat + 1 = ((cnt pre x.1.toNat + 1 : Nat) : Int) from rfl, nat_upd, ← cnt_snoc]
   refine at_block_n ?_
   exact at_round2 ⟨HLe.refl _, rfl⟩ .refl
  ·
   rintro bd I1 loc1 hI1 rfl
   have hW0 := hW0.mono hI1; have hW := hW.mono hI1; have hH := hH.mono hI1; have hT := hT.mono hI1; have hC6 := hC6.mono hI1; have hPr := hPr.mono hI1; have hC10 := hC10.mono hI1; have hAt := hAt.mono hI1; have hWd := hWd.mono hI1; have hPs := hPs.mono hI1; have hre := hre.mono hI1; have hR := hR.mono hI1
   have hPf := hPf.mono hI1; have hC16 := hC16.mono hI1; have hC17 := hC17.mono hI1; have hL17 := hL17.mono hI1; have hC22 := hC22.mono hI1; have hIc := hIc.trans hI1; have hB0 := hB0.trans hI1; have hB6 := hB6.trans hI1
   refine at_block_n (at_then ?_)
   refine X_freeze (b := b127) (by repeat (first | exact Take.here | apply Take.there)) (fun I34 hI34 hb34 => ?_)
   have hW0 := hW0.mono hI34; have hW := hW.mono hI34; have hH := hH.mono hI34; have hT := hT.mono hI34; have hC6 := hC6.mono hI34; have hPr := hPr.mono hI34; have hC10 := hC10.mono hI34; have hAt := hAt.mono hI34; have hWd := hWd.mono hI34; have hPs := hPs.mono hI34; have hre := hre.mono hI34; have hR := hR.mono hI34
   have hPf := hPf.mono hI34; have hC16 := hC16.mono hI34; have hC17 := hC17.mono hI34; have hL17 := hL17.mono hI34; have hC22 := hC22.mono hI34; have hIc := hIc.trans hI34; have hB0 := hB0.trans hI34; have hB6 := hB6.trans hI34
   have hRow : Sl I34 1 encI (some ⟨b127, 0, none⟩) (loW xs) (loW xs) (rowW xs i) := Sl.lit (rowW xs i) rngL_len encI_len hb34
   refine X_region (zM ?_)
   refine zV (ev_load rfl sct_23 (fun hg => by exact hC16.any)) ?_
   refine XO_buildSlice (ps := [(0, _)]) (m := [encH ⟨some ⟨b127, 0, none⟩, loW xs, loW xs⟩]) elt_22 rfl (.cons rfl (.nil)) rfl (by simp [encH_len]) (by decide) (by decide) rfl rfl (fun b_225 => ?_)
   refine XO_append (v := _) (ys := [(⟨some ⟨b127, 0, none⟩, loW xs, loW xs⟩ : Hd)].flatMap encH) (L := L) rfl rfl elt_22 hO (by repeat (first | exact .cons .here .nil | exact split_all | exact split_app | apply split_cons | apply split_skip)) ⟨rfl, fun _ => rfl, by repeat (first | exact Cells.here | apply Cells.there | apply Cells.app)⟩ (one_H _) (by omega) rfl rfl ?_
   intro v9 L9 hO9 _; rw [← List.flatMap_append] at hO9
   refine zA (XO_nil (at_block_n (at_then (X_region ?_))))
   refine zB ?_
   refine zM (XO_nil ?_)
   exact at_metM rfl rfl rfl _ _ ⟨xs.length - (i + 1), by omega, i + 1, _, _, _, rfl, rfl, hB6, rfl, by omega, hO9, by rw [range_map]; exact hre.snoc (hd := ⟨some ⟨b127, 0, none⟩, loW xs, loW xs⟩) hRow⟩ (.cons rfl (.cons rfl (.cons rfl (.cons rfl (.cons rfl (.cons rfl (.cons rfl (.cons rfl (.cons rfl .nil))))))))) (by repeat (first | exact .refl | exact subL_left | refine subL_app ?_ | refine .drop ?_ | refine subL_add ?_))
  rintro c bd pre I1 loc1 hI1 hpre hF; exact hF.elim
 have hge_i : xs.length ≤ i := by have h := hc122; simp at h; omega
 obtain rfl : i = xs.length := by omega
 refine X_exit (at_then_e (at_then_e (at_block_hit (at_then (zR (zM ?_))))))
 refine zA ?_
 refine zA (zN (X_ret ?_))
 first
 | exact at_retMs (L := L) (fun a ha w hw => res2 rfl rfl rfl a ha w) (fun w hw => by obtain ⟨I9, av9, c9, h1', h2', e9, h4'⟩ := OwnS.freeze (R := []) hO encH_len (by decide) (by rw [List.append_nil]; exact hw); cases e9; exact ⟨_, I9, [], rfl, hIc.trans h1', h2', rfl, va2, vc2, by rw [t1, t2, List.length_map, List.length_range], by rw [t2, List.length_map, List.length_range]; exact ⟨os, h4', hre.mono h1'⟩⟩)
end
section
open Go Go.Kn Go.Proofs
structure Em where
 locus : Int
 code : Int
 reason : Int
def encEm (e : Em) : List Value := [.int .i64 e.locus, .int .i64 e.code, .int .i64 e.reason]
theorem encEm_len (e : Em) : (encEm e).length = 3 := rfl
theorem one_Em (xs : List Em) : allOne (xs.flatMap encEm) = true := allOne_flat (fun _ => rfl) xs
def r1F (code : Int) (b : Bool) : Bool := (b && code != 0) && code != 8589934592
def r2F (code : Int) (b : Bool) : Bool := (signE code == 0) && !b
def r3F (code : Int) (_ : Bool) : Bool := code == 0
def rsF (r code : Int) (b : Bool) : Bool := if r = 1 then r1F code b else if r = 2 then r2F code b else if r = 3 then r3F code b else false
def thereF (rows : List (List Int)) (e : Em) : Bool := rows.any fun r => r.getD e.locus.toNat 0 == e.code
def badE (rows : List (List Int)) (m : Nat) (l : Int) (e : Em) : Bool := decide (e.locus ≤ l) || (decide (e.locus ≥ (m : Int)) || !rsF e.reason e.code (thereF rows e))
def goodE (rows : List (List Int)) (m : Nat) : Int → List Em → Bool
 | _, [] => true
 | l, e :: es => !badE rows m l e && goodE rows m e.locus es
theorem goodE_bad {rows : List (List Int)} {m k : Nat} {l : Int} {es : List Em} {e : Em} (h : es[k]? = some e) (hb : badE rows m l e = true) : goodE rows m l (es.drop k) = false := by rw [drop_cons h]; unfold goodE; rw [hb]; rfl
theorem goodE_step {rows : List (List Int)} {m k : Nat} {l : Int} {es : List Em} {e : Em} (h : es[k]? = some e) (hb : badE rows m l e = false) : goodE rows m l (es.drop k) = goodE rows m e.locus (es.drop (k + 1)) := by
 rw [drop_cons h]
 show (!badE rows m l e && goodE rows m e.locus (es.drop (k + 1))) = _
 rw [hb]; rfl
theorem goodE_end {rows : List (List Int)} {m k : Nat} {l : Int} {es : List Em} (h : es.length ≤ k) : goodE rows m l (es.drop k) = true := by rw [List.drop_eq_nil_of_le h]; rfl
theorem badE_1 {rows : List (List Int)} {m : Nat} {l : Int} {e : Em} (h1 : e.reason ≠ 1) (h2 : e.reason ≠ 2) (h3 : e.reason ≠ 3) : badE rows m l e = true := by unfold badE rsF; rw [if_neg h1, if_neg h2, if_neg h3]; simp
theorem badE_2 {rows : List (List Int)} {m : Nat} {l : Int} {e : Em} (h : decide (e.locus ≤ l) = true) : badE rows m l e = true := by unfold badE; rw [h]; rfl
theorem badE_3 {rows : List (List Int)} {m : Nat} {l : Int} {e : Em} (h : decide (e.locus ≥ (m : Int)) = true) : badE rows m l e = true := by unfold badE; rw [h]; simp
theorem badE_4 {rows : List (List Int)} {m : Nat} {l : Int} {e : Em} {t : Bool} (h1 : decide (e.locus ≤ l) = false) (h2 : decide (e.locus ≥ (m : Int)) = false) (h3 : (!rsF e.reason e.code (thereF rows e)) = t) : badE rows m l e = t := by unfold badE; rw [h1, h2, h3]; rfl
theorem em_three (rows : List (List Int)) (m : Nat) (l : Int) (e : Em) : decide (e.locus ≤ l) = true ∨ (decide (e.locus ≤ l) = false ∧ decide (e.locus ≥ (m : Int)) = true) ∨ (decide (e.locus ≤ l) = false ∧ decide (e.locus ≥ (m : Int)) = false) := by
 cases decide (e.locus ≤ l) <;> cases decide (e.locus ≥ (m : Int)) <;> simp
/-! ### The readings -/
def lfK (es : List Em) : Nat → List Em
 | 0 => es
 | k + 1 => match lfK es k with
  | [] => []
  | e :: r => if e.locus = (k : Int) then r else e :: r
def baseK (rows : List (List Int)) (cl : List Int) (k : Nat) : Int := if (rootF rows cl k).any (fun y => (rows.getD 0 []).getD k 0 == y) = true then (rows.getD 0 []).getD k 0 else (rootF rows cl k).getD 0 0
def readK (rows : List (List Int)) (cl : List Int) (es : List Em) (k : Nat) : Int := match lfK es k with
 | [] => baseK rows cl k
 | e :: _ => if e.locus = (k : Int) then e.code else baseK rows cl k
def readsL (rows : List (List Int)) (cl : List Int) (es : List Em) : List Int := (List.range (rows.getD 0 []).length).map (readK rows cl es)
theorem lf_nil {es : List Em} {k : Nat} (h : lfK es k = []) : lfK es (k + 1) = [] := by show (match lfK es k with | [] => [] | e :: r => if e.locus = (k : Int) then r else e :: r) = _; rw [h]
theorem lf_yes {es : List Em} {k : Nat} {e : Em} {r : List Em} (h : lfK es k = e :: r) (he : e.locus = (k : Int)) : lfK es (k + 1) = r := by show (match lfK es k with | [] => [] | e :: r => if e.locus = (k : Int) then r else e :: r) = _; rw [h]; exact if_pos he
theorem lf_no {es : List Em} {k : Nat} {e : Em} {r : List Em} (h : lfK es k = e :: r) (he : ¬ e.locus = (k : Int)) : lfK es (k + 1) = e :: r := by show (match lfK es k with | [] => [] | e :: r => if e.locus = (k : Int) then r else e :: r) = _; rw [h]; exact if_neg he
theorem rd_nil {rows : List (List Int)} {cl : List Int} {es : List Em} {k : Nat} (h : lfK es k = []) : readK rows cl es k = baseK rows cl k := by unfold readK; rw [h]
theorem rd_yes {rows : List (List Int)} {cl : List Int} {es : List Em} {k : Nat} {e : Em} {r : List Em} (h : lfK es k = e :: r) (he : e.locus = (k : Int)) : readK rows cl es k = e.code := by unfold readK; rw [h]; exact if_pos he
theorem rd_no {rows : List (List Int)} {cl : List Int} {es : List Em} {k : Nat} {e : Em} {r : List Em} (h : lfK es k = e :: r) (he : ¬ e.locus = (k : Int)) : readK rows cl es k = baseK rows cl k := by unfold readK; rw [h]; exact if_neg he
def makE (rows : List (List Int)) (no : Int) (cl : List Int) (es : List Em) : Int :=
 if costE rows cl ≠ 0 then costE rows cl else if (decide (no < 0) || decide (no > 1048576)) = true then 430 else if goodE rows (rows.getD 0 []).length (-1) es = true then 0 else 430
theorem makE_1 {rows : List (List Int)} {no : Int} {cl : List Int} {es : List Em} (h : costE rows cl ≠ 0) : makE rows no cl es = costE rows cl := by unfold makE; rw [if_pos h]
theorem makE_2 {rows : List (List Int)} {no : Int} {cl : List Int} {es : List Em} (h : costE rows cl = 0) (h2 : (decide (no < 0) || decide (no > 1048576)) = true) : makE rows no cl es = 430 := by unfold makE; rw [if_neg (by omega), if_pos h2]
theorem makE_3 {rows : List (List Int)} {no : Int} {cl : List Int} {es : List Em} (h : costE rows cl = 0) (h2 : (decide (no < 0) || decide (no > 1048576)) = false) (h3 : goodE rows (rows.getD 0 []).length (-1) es = false) : makE rows no cl es = 430 := by unfold makE; rw [if_neg (by omega), if_neg (by rw [h2]; decide), if_neg (by rw [h3]; decide)]
theorem makE_4 {rows : List (List Int)} {no : Int} {cl : List Int} {es : List Em} (h : costE rows cl = 0) (h2 : (decide (no < 0) || decide (no > 1048576)) = false) (h3 : goodE rows (rows.getD 0 []).length (-1) es = true) : makE rows no cl es = 0 := by unfold makE; rw [if_neg (by omega), if_neg (by rw [h2]; decide), if_pos h3]
def encEd (no : Int) (a1 : Option Addr) (n1 c1 : Nat) (a2 : Option Addr) (n2 c2 : Nat) (a3 : Option Addr) (n3 c3 : Nat) : List Value := [.int .i64 no, .slice a1 n1 c1, .slice a2 n2 c2, .slice a3 n3 c3]
def SlEd (I : HMap) (vs : List Value) (no : Int) (cl : List Int) (es : List Em) (rd : List Int) : Prop := ∃ a1 n1 c1 a2 n2 c2 a3 n3 c3, vs = encEd no a1 n1 c1 a2 n2 c2 a3 n3 c3 ∧ Sl I 1 encI a1 n1 c1 cl ∧ Sl I 3 encEm a2 n2 c2 es ∧ Sl I 1 encI a3 n3 c3 rd
def MakQ (rows : List (List Int)) (no : Int) (cl : List Int) (es : List Em) : Value → HMap → Go.Kn.Loc → Prop := fun v I' L => L = [] ∧ ∃ vs, v = .tuple #[.agg vs.toArray, .int .i64 (makE rows no cl es)] ∧
 ((makE rows no cl es = 0 ∧ SlEd I' vs no cl es (readsL rows cl es)) ∨ (makE rows no cl es ≠ 0 ∧ SlEd I' vs 0 [] [] []))
theorem roots_at {rows : List (List Int)} {cl : List Int} {k : Nat} (h : costE rows cl = 0) (hk : k < (rows.getD 0 []).length) : (rootsL rows cl)[k]? = some (rootF rows cl k) := by rw [roots_ok h, List.getElem?_map, List.getElem?_range hk]; rfl
theorem roots_len {rows : List (List Int)} {cl : List Int} (h : costE rows cl = 0) : (rootsL rows cl).length = (rows.getD 0 []).length := by rw [roots_ok h, List.length_map, List.length_range]
end
section
open Go Go.Kn Go.Proofs
theorem elt_32 : ElT Tryz.prog 32 44 3 24 := .of (by kernel_rfl)
theorem fld_44_0 : FieldAt Tryz.prog 44 0 0 := .of (by kernel_rfl)
theorem fld_44_1 : FieldAt Tryz.prog 44 1 1 := .of (by kernel_rfl)
theorem fun_29 : Fun Tryz.prog 29 := .of Tryz.func29 (by kernel_rfl) (by kernel_rfl)
theorem fun_37 : Fun Tryz.prog 37 := .of Tryz.func37 (by kernel_rfl) (by kernel_rfl)
theorem fun_57 : Fun Tryz.prog 57 := .of Tryz.func57 (by kernel_rfl) (by kernel_rfl)
theorem mpt_75 : MpT Tryz.prog 75 3 79 (.agg #[.nilFunc]) := ⟨by kernel_rfl, .of (by kernel_rfl)⟩
theorem plt_46 : PlT Tryz.prog 46 #[(0, 1), (1, 1)] (.agg #[(.int .i64 0), (.int .i64 0)]) := ⟨.of (by kernel_rfl), by kernel_rfl, fun w => by kernel_rfl⟩
theorem plt_79 : PlT Tryz.prog 79 #[(0, 1)] (.agg #[.nilFunc]) := ⟨.of (by kernel_rfl), by kernel_rfl, fun w => by kernel_rfl⟩
theorem w_rs1 (I : HMap) (code : Int) (b : Bool) : RetV Tryz.prog 70 [.int .i64 code, .bool b] I (.bool (r1F code b)) := by
 intro g H w hw
 refine enter Tryz.func70 rfl Tryz.ntmps70 rfl hw ?_
 refine zR (zA ?_)
 refine zN (zR ?_)
 refine zM ?_
 refine zM ?_
 refine XO_pushT 1 rfl rfl rfl ?_
 refine zK (ev_move rfl) ?_
 refine zK (ev_cmp rfl rfl rfl) ?_
 refine XO_and0 rfl rfl rfl rfl rfl ?_
 refine zM ?_
 refine XO_pushT 5 rfl rfl rfl ?_
 refine zK (ev_move rfl) ?_
 refine zK (ev_cmp rfl rfl rfl) ?_
 refine XO_and0 rfl rfl rfl rfl rfl ?_
 refine zA (zN (X_ret ?_))
 exact at_ret1 rfl rfl (fun w hw => ⟨by rfl, hw.drop⟩)
theorem w_rs2 (I : HMap) (code : Int) (b : Bool) : RetV Tryz.prog 71 [.int .i64 code, .bool b] I (.bool (r2F code b)) := by
 intro g H w hw
 refine enter Tryz.func71 rfl Tryz.ntmps71 rfl hw ?_
 have hIc := HLe.refl I
 refine zR (zA ?_)
 refine zN (zR ?_)
 refine zM ?_
 refine XO_callV0 (cap := []) (vs := [_]) rfl rfl fun_30 (w_Sign _ _) rfl rfl ?_
 refine zM ?_
 refine zE ?_
 refine zE ?_
 refine XO_alloc zt_48 rfl rfl (fun b_5 => ?_)
 refine XO_storeA rfl rfl szt_48 rfl rfl rfl rfl (by repeat (first | exact Upd.here | apply Upd.there | apply upd_app)) ?_
 refine zA ?_
 refine zN (zR ?_)
 refine zM ?_
 refine zC ?_
 refine zM ?_
 refine XO_pushT 2 rfl rfl rfl ?_
 refine zK (ev_move rfl) ?_
 refine zK (ev_not rfl) ?_
 refine XO_and0 rfl rfl rfl rfl rfl ?_
 refine zA (zN (X_ret ?_))
 exact at_ret1 rfl rfl (fun w hw => ⟨by rfl, (hw.mono hIc).drop⟩)
theorem w_rs3 (I : HMap) (code : Int) (b : Bool) : RetV Tryz.prog 72 [.int .i64 code, .bool b] I (.bool (r3F code b)) := by
 intro g H w hw
 refine enter Tryz.func72 rfl Tryz.ntmps72 rfl hw ?_
 refine zR (zA ?_)
 refine zN (zR ?_)
 refine zM ?_
 refine zC ?_
 refine zA (zN (X_ret ?_))
 exact at_ret1 rfl rfl (fun w hw => ⟨by rfl, hw.drop⟩)
def rsV (f : Nat) : Value := .agg #[.func (.func f) #[] #[]]
def rsM : List (Int × Nat) := [(1, 70), (2, 71), (3, 72)]
theorem w_reasons (I : HMap) : RetM Tryz.prog 35 [] I [] (fun v I' L => L = [] ∧ ∃ r, v = .map (some r) ∧ I' r = some (mapO (Value.int .i64) rsV rsM)) := by
 intro g H w hw
 refine enter Tryz.func35 rfl Tryz.ntmps35 rfl hw ?_
 have hIc := HLe.refl I
 refine zR (zA ?_)
 refine zN (zR ?_)
 refine XO_makeMap rfl rfl (fun r_1 => ?_)
 refine zV (ev_buildL (ps := [(0, _)]) [_] plt_79 rfl rfl) ?_
 refine XO_insert (m := []) (ek := Value.int .i64) (ev := rsV) 70 mpt_75 key_3 rfl rfl rfl rfl (by repeat (first | exact Upd.here | apply Upd.there | apply upd_app)) ?_
 refine zV (ev_buildL (ps := [(0, _)]) [_] plt_79 rfl rfl) ?_
 refine XO_insert (m := [(1, 70)]) (ek := Value.int .i64) (ev := rsV) 71 mpt_75 key_3 rfl rfl rfl rfl (by repeat (first | exact Upd.here | apply Upd.there | apply upd_app)) ?_
 refine zV (ev_buildL (ps := [(0, _)]) [_] plt_79 rfl rfl) ?_
 refine XO_insert (m := [(1, 70), (2, 71)]) (ek := Value.int .i64) (ev := rsV) 72 mpt_75 key_3 rfl rfl rfl rfl (by repeat (first | exact Upd.here | apply Upd.there | apply upd_app)) ?_
 refine zM ?_
 refine zA (zN (X_ret ?_))
 refine at_freeze .here (fun I9 h9 e9 => ?_)
 exact at_ret1 rfl rfl (fun w hw => ⟨_, I9, [], rfl, hIc.trans h9, hw, rfl, r_1, rfl, e9⟩)
theorem w_mkc {I : HMap} {av : Option Addr} {n c : Nat} {v : List Int} (hQ : Sl I 1 encI av n c v) {b : Nat} {e : Em} (hb : I b = some (.cells (encEm e).toArray 44 (0, 0))) (h0 : 0 ≤ e.locus) (hl : e.locus.toNat < n) : RetV Tryz.prog 37 [.slice av n c, capP b] I (.bool (v.getD e.locus.toNat 0 == e.code)) := by
 intro g H w hw
 refine enter Tryz.func37 rfl Tryz.ntmps37 rfl hw ?_
 refine zR (zA (zN (X_seq ?_)))
 refine X_draw mixed (by kernel_rfl) ?_
 refine XQ_v0 (ev_move rfl) rfl rfl rfl ?_
 refine XQ_v0 (ev_fieldAddr rfl fld_44_0) rfl rfl rfl ?_
 refine XQ_v0 (ev_load rfl sct_3 (fun hg => by exact .imm hb rfl)) rfl rfl rfl ?_
 refine XQ_v0 (zX slt_23 hQ) rfl rfl rfl ?_
 refine XQ_v0 (ev_load rfl sct_3 (fun hg => by exact Sl.get0 (k := e.locus.toNat) hQ (some_getD (d := 0) hQ.len hl) rfl)) rfl rfl rfl ?_
 refine XQ_v0 (ev_fieldAddr rfl fld_44_1) rfl rfl rfl ?_
 refine XQ_v0 (ev_load rfl sct_3 (fun hg => by exact .imm hb rfl)) rfl rfl rfl ?_
 refine XQ_v0 (ev_cmp rfl rfl rfl) rfl rfl rfl ?_
 refine XQ_v0 (ev_assign rfl) rfl rfl rfl ?_
 refine XQ_nil ?_
 refine at_then (X_ret ?_)
 exact at_ret1 rfl rfl (fun w hw => ⟨by rfl, hw.drop⟩)
theorem w_indexM {I : HMap} {bv : Option Addr} {n2 c2 : Nat} {rows : List (List Int)} (hV : SlN I bv n2 c2 rows) (hn : n2 ≤ 100000) {b : Nat} {e : Em} (hb : I b = some (.cells (encEm e).toArray 44 (0, 0))) (h0 : 0 ≤ e.locus) (hl : ∀ r ∈ rows, e.locus.toNat < r.length) : RetV Tryz.prog 73 [.slice bv n2 c2, .func (.func 37) #[] [capP b].toArray] I (.int .i64 (idxF (fun r : List Int => r.getD e.locus.toNat 0 == e.code) rows)) := by
 intro g H w hw
 refine enter Tryz.func73 rfl Tryz.ntmps73 rfl hw ?_
 have hlV := hV.len
 obtain ⟨hs, hV⟩ := hV
 have hH := hV.1
 refine zR (zA (zN (X_seq (zR ?_))))
 refine zM ?_
 refine zQ slt_22 ?_
 refine zM (zN (X_block ?_))
 refine X_loopT [(0, _), (1, _), (7, _)] (.cons rfl (.cons rfl (.cons rfl .nil))) (fun T L0 mz E I' loc' => ∃ (k : Nat), mz = n2 - k ∧ E = (8, .int .i64 k) :: T ∧ I = I' ∧ L0 = loc' ∧ k ≤ n2 ∧ (rows.take k).any (fun r : List Int => r.getD e.locus.toNat 0 == e.code) = false) _ _ _ _ ⟨0, rfl, rfl, rfl, rfl, Nat.zero_le _, rfl⟩ (.cons rfl (.cons rfl (.cons rfl (.cons rfl .nil)))) (HLe.refl _) rfl ?_
 rintro mz E I' loc' ⟨k, rfl, rfl, rfl, rfl, hk, hno⟩
 refine zR (zC (zN (X_seq ?_)))
 refine zI ?_ ?_ <;> intro hc9
 ·
  have hlt_k : k < n2 := by have h := hc9; simp at h; omega
  obtain ⟨x, v, hx, hv, hQ⟩ := hV.at hlt_k
  refine X_skip (at_then (X_seq (X_block (zR (zM ?_)))))
  refine zA ?_
  refine zN (zR ?_)
  refine zM ?_
  refine zM ?_
  refine zM ?_
  refine zV (zX slt_22 hH) ?_
  refine zV (ev_load rfl sct_23 (fun hg => by exact Sl.get0 hH hx rfl)) ?_
  refine XO_callV0 (cap := [capP b]) (vs := [_]) rfl rfl fun_37 (w_mkc hQ hb h0 (by rw [← hQ.len]; exact hl _ (List.mem_of_getElem? hv))) rfl rfl ?_
  refine zN ?_
  refine zI ?_ ?_ <;> intro hc16
  ·
   refine zR (zM ?_)
   refine zA (zN (X_ret (at_block_r (at_then_r (at_then_r (at_block_r (at_then_r ?_)))))))
   exact at_ret1 rfl rfl (fun w hw => ⟨by rw [idx_hit hno hv hc16], hw.drop⟩)
  refine X_skip (at_block_n (at_then (X_region ?_)))
  refine zV (ev_arB rfl rfl rfl (fun _ => by omega)) ?_
  refine zM (XO_nil ?_)
  exact at_met2 _ _ ⟨n2 - (k + 1), by omega, k + 1, rfl, rfl, rfl, rfl, by omega, any_no hv hno hc16⟩ (.cons rfl (.cons rfl (.cons rfl (.cons rfl .nil)))) (by repeat (first | exact .refl | exact subL_left | refine subL_app ?_ | refine .drop ?_ | refine subL_add ?_))
 have hge_k : n2 ≤ k := by have h := hc9; simp at h; omega
 refine X_exit (at_then_e (at_then_e (at_block_hit (at_then (zR (zA (zN ?_)))))))
 refine X_ret ?_
 exact at_ret1 rfl rfl (fun w hw => ⟨by rw [idx_none hlV hge_k hno], hw.drop⟩)
theorem w_containsM {I : HMap} {bv : Option Addr} {n2 c2 : Nat} {rows : List (List Int)} (hV : SlN I bv n2 c2 rows) (hn : n2 ≤ 100000) {b : Nat} {e : Em} (hb : I b = some (.cells (encEm e).toArray 44 (0, 0))) (h0 : 0 ≤ e.locus) (hl : ∀ r ∈ rows, e.locus.toNat < r.length) : RetV Tryz.prog 36 [.slice bv n2 c2, .func (.func 37) #[] [capP b].toArray] I (.bool (thereF rows e)) := by
 intro g H w hw
 refine enter Tryz.func36 rfl Tryz.ntmps36 rfl hw ?_
 refine zR (zA ?_)
 refine zN (zR ?_)
 refine zM ?_
 refine zM ?_
 refine XO_callV0 (cap := []) (vs := [_, _]) rfl rfl fun_73 (w_indexM hV hn hb h0 hl) rfl rfl ?_
 refine zC ?_
 refine zA (zN (X_ret ?_))
 exact at_ret1 rfl rfl (fun w hw => ⟨by unfold thereF; rw [← idx_any], hw.drop⟩)
theorem w_cloneI {I : HMap} {av : Option Addr} {n c : Nat} {xs : List Int} (hS : Sl I 1 encI av n c xs) (hn : n ≤ 400000) : RetM Tryz.prog 38 [.slice av n c] I [] (fun v I' L => I' = I ∧ OwnS 3 1 v n (xs.flatMap encI) L) := by
 intro g H w hw
 refine enter Tryz.func38 rfl Tryz.ntmps38 rfl hw ?_
 refine zR (zA (zN (X_seq (zR ?_))))
 refine zM ?_
 refine zV (ev_eqNil rfl rfl slt_23) ?_
 refine zN ?_
 refine zI ?_ ?_ <;> intro hc4
 ·
  have hn0 : n = 0 := Decidable.byContradiction fun h => by have := hS.base h; rw [this] at hc4; cases hc4
  have hl := hS.len
  subst hn0
  have hx0 := List.eq_nil_of_length_eq_zero hl
  subst hx0
  refine zR (zA (zN (X_ret (at_then_r ?_))))
  exact at_ret1 rfl rfl (fun w hw => ⟨_, I, _, rfl, HLe.refl _, hw, rfl, OwnS.nil⟩)
 refine X_skip (at_then (zR ?_))
 refine XO_buildSlice (ps := []) (m := []) elt_23 rfl (.nil) rfl (by simp) (by decide) (by decide) rfl rfl (fun b_5 => ?_)
 refine zM ?_
 refine XO_append (v := _) (ys := xs.flatMap encI) (L := [(b_5, _)]) rfl rfl elt_23 OwnS.new (by repeat (first | exact .cons .here .nil | exact split_all | exact split_app | apply split_cons | apply split_skip)) (hS.src encI_len) (one_I _) (by omega) rfl rfl ?_
 intro v1 L1 hO1 _; rw [List.nil_append, Nat.zero_add] at hO1
 refine zA (zN (X_ret ?_))
 exact at_ret1 rfl rfl (fun w hw => ⟨_, I, _, rfl, HLe.refl _, hw.subL subL_left, rfl, hO1⟩)
theorem w_cloneE {I : HMap} {av : Option Addr} {n c : Nat} {xs : List Em} (hS : Sl I 3 encEm av n c xs) (hn : n ≤ 400000) : RetM Tryz.prog 39 [.slice av n c] I [] (fun v I' L => I' = I ∧ OwnS 44 3 v n (xs.flatMap encEm) L) := by
 intro g H w hw
 refine enter Tryz.func39 rfl Tryz.ntmps39 rfl hw ?_
 refine zR (zA (zN (X_seq (zR ?_))))
 refine zM ?_
 refine zV (ev_eqNil rfl rfl slt_32) ?_
 refine zN ?_
 refine zI ?_ ?_ <;> intro hc4
 ·
  have hn0 : n = 0 := Decidable.byContradiction fun h => by have := hS.base h; rw [this] at hc4; cases hc4
  have hl := hS.len
  subst hn0
  have hx0 := List.eq_nil_of_length_eq_zero hl
  subst hx0
  refine zR (zA (zN (X_ret (at_then_r ?_))))
  exact at_ret1 rfl rfl (fun w hw => ⟨_, I, _, rfl, HLe.refl _, hw, rfl, OwnS.nil⟩)
 refine X_skip (at_then (zR ?_))
 refine XO_buildSlice (ps := []) (m := []) elt_32 rfl (.nil) rfl (by simp) (by decide) (by decide) rfl rfl (fun b_5 => ?_)
 refine zM ?_
 refine XO_append (v := _) (ys := xs.flatMap encEm) (L := [(b_5, _)]) rfl rfl elt_32 OwnS.new (by repeat (first | exact .cons .here .nil | exact split_all | exact split_app | apply split_cons | apply split_skip)) (hS.src encEm_len) (one_Em _) (by omega) rfl rfl ?_
 intro v1 L1 hO1 _; rw [List.nil_append, Nat.zero_add] at hO1
 refine zA (zN (X_ret ?_))
 exact at_ret1 rfl rfl (fun w hw => ⟨_, I, _, rfl, HLe.refl _, hw.subL subL_left, rfl, hO1⟩)
theorem w_equalI {I : HMap} {av : Option Addr} {n c : Nat} {xs : List Int} (hS : Sl I 1 encI av n c xs) {bv : Option Addr} {n2 c2 : Nat} {ys : List Int} (hT : Sl I 1 encI bv n2 c2 ys) (hn : n ≤ 100000) : RetV Tryz.prog 57 [.slice av n c, .slice bv n2 c2] I (.bool (decide (xs = ys))) := by
 intro g H w hw
 refine enter Tryz.func57 rfl Tryz.ntmps57 rfl hw ?_
 have hl1 := hS.len
 have hl2 := hT.len
 refine zR (zA (zN (X_seq (zR ?_))))
 refine zM ?_
 refine zQ slt_23 ?_
 refine zM ?_
 refine zQ slt_23 ?_
 refine zC (zN ?_)
 refine zI ?_ ?_ <;> intro hc10
 ·
  have hne : xs ≠ ys := fun e => by have h := hc10; subst e; simp at h; omega
  refine zR (zA (zN (X_ret (at_then_r ?_))))
  exact at_ret1 rfl rfl (fun w hw => ⟨by rw [decide_eq_false hne], hw.drop⟩)
 have hnn : n = n2 := by have h := hc10; simp at h; omega
 refine X_skip (at_then (X_seq (zR (zM ?_))))
 refine zQ slt_23 ?_
 refine zM (zN (X_block ?_))
 refine X_loopT [(0, _), (1, _), (12, _)] (.cons rfl (.cons rfl (.cons rfl .nil))) (fun T L0 mz E I' loc' => ∃ (k : Nat), mz = n - k ∧ E = (13, .int .i64 k) :: T ∧ I = I' ∧ L0 = loc' ∧ k ≤ n ∧ xs.take k = ys.take k) _ _ _ _ ⟨0, rfl, rfl, rfl, rfl, Nat.zero_le _, rfl⟩ (.cons rfl (.cons rfl (.cons rfl (.cons rfl .nil)))) (HLe.refl _) rfl ?_
 rintro mz E I' loc' ⟨k, rfl, rfl, rfl, rfl, hk, hall⟩
 refine zR (zC (zN (X_seq ?_)))
 refine zI ?_ ?_ <;> intro hc14
 ·
  have hlt_k : k < n := by have h := hc14; simp at h; omega
  obtain ⟨x, hx⟩ := hS.at hlt_k
  obtain ⟨y, hy⟩ := hT.at (show k < n2 by omega)
  refine X_skip (at_then (X_seq (X_block (zR (zM ?_)))))
  refine zA (zN (X_seq ?_))
  refine X_draw mixed (by kernel_rfl) ?_
  refine XQ_v0 (ev_move rfl) rfl rfl rfl ?_
  refine XQ_v0 (ev_move rfl) rfl rfl rfl ?_
  refine XQ_v0 (zX slt_23 hS) rfl rfl rfl ?_
  refine XQ_v0 (ev_load rfl sct_3 (fun hg => by exact Sl.get0 hS hx rfl)) rfl rfl rfl ?_
  refine XQ_v0 (ev_move rfl) rfl rfl rfl ?_
  refine XQ_v0 (ev_move rfl) rfl rfl rfl ?_
  refine XQ_v0 (zX slt_23 hT) rfl rfl rfl ?_
  refine XQ_v0 (ev_load rfl sct_3 (fun hg => by exact Sl.get0 hT hy rfl)) rfl rfl rfl ?_
  refine XQ_v0 (ev_cmp rfl rfl rfl) rfl rfl rfl ?_
  refine XQ_nil ?_
  refine at_then ?_
  refine zI ?_ ?_ <;> intro hc24
  ·
   have hne : xs ≠ ys := fun e => by subst e; rw [hx] at hy; cases hy; simp at hc24
   refine zR (zA (zN (X_ret (at_block_r (at_then_r (at_then_r (at_block_r ?_)))))))
   refine at_then_r ?_
   exact at_ret1 rfl rfl (fun w hw => ⟨by rw [decide_eq_false hne], hw.drop⟩)
  have hxy : x = y := by simpa using hc24
  refine X_skip (at_block_n (at_then (X_region ?_)))
  refine zV (ev_arB rfl rfl rfl (fun _ => by omega)) ?_
  refine zM (XO_nil ?_)
  exact at_met2 _ _ ⟨n - (k + 1), by omega, k + 1, rfl, rfl, rfl, rfl, by omega, by rw [List.take_add_one, List.take_add_one, hall, hx, hy, hxy]⟩ (.cons rfl (.cons rfl (.cons rfl (.cons rfl .nil)))) (by repeat (first | exact .refl | exact subL_left | refine subL_app ?_ | refine .drop ?_ | refine subL_add ?_))
 have hge_k : n ≤ k := by have h := hc14; simp at h; omega
 have heq : xs = ys := by rw [List.take_of_length_le (by omega), List.take_of_length_le (by omega)] at hall; exact hall
 refine X_exit (at_then_e (at_then_e (at_block_hit (at_then (zR (zA (zN ?_)))))))
 refine X_ret ?_
 exact at_ret1 rfl rfl (fun w hw => ⟨by rw [decide_eq_true heq], hw.drop⟩)
theorem w_equal {I : HMap} {av : Option Addr} {n c : Nat} {xs : List Int} (hS : Sl I 1 encI av n c xs) {bv : Option Addr} {n2 c2 : Nat} {ys : List Int} (hT : Sl I 1 encI bv n2 c2 ys) (hn : n ≤ 100000) : RetV Tryz.prog 29 [.slice av n c, .slice bv n2 c2] I (.bool (decide (xs = ys))) := by
 intro g H w hw
 refine enter Tryz.func29 rfl Tryz.ntmps29 rfl hw ?_
 refine zR (zA ?_)
 refine zN (zR ?_)
 refine zM ?_
 refine zM ?_
 refine XO_callV0 (cap := []) (vs := [_, _]) rfl rfl fun_57 (w_equalI hS hT hn) rfl rfl ?_
 refine zA (zN (X_ret ?_))
 exact at_ret1 rfl rfl (fun w hw => ⟨by rfl, hw.drop⟩)
theorem w_equalN {I : HMap} {av : Option Addr} {n c : Nat} {xs : List (List Int)} (hS : SlN I av n c xs) {bv : Option Addr} {n2 c2 : Nat} {ys : List (List Int)} (hT : SlN I bv n2 c2 ys) (hn : n ≤ 100000) (hn3 : ∀ x ∈ xs, x.length ≤ 100000) : RetV Tryz.prog 28 [.slice av n c, .slice bv n2 c2, .func (.func 29) #[] #[]] I (.bool (decide (xs = ys))) := by
 intro g H w hw
 refine enter Tryz.func28 rfl Tryz.ntmps28 rfl hw ?_
 have hl1 := hS.len
 have hl2 := hT.len
 obtain ⟨hs, hS⟩ := hS
 have hH := hS.1
 obtain ⟨gs, hT⟩ := hT
 have hG := hT.1
 refine zR (zA (zN (X_seq (zR ?_))))
 refine zM ?_
 refine zQ slt_22 ?_
 refine zM ?_
 refine zQ slt_22 ?_
 refine zC (zN ?_)
 refine zI ?_ ?_ <;> intro hc14
 ·
  have hne : xs ≠ ys := fun e => by have h := hc14; subst e; simp at h; omega
  refine zR (zA (zN (X_ret (at_then_r ?_))))
  exact at_ret1 rfl rfl (fun w hw => ⟨by rw [decide_eq_false hne], hw.drop⟩)
 have hnn : n = n2 := by have h := hc14; simp at h; omega
 refine X_skip (at_then (X_seq (zR (zM ?_))))
 refine zQ slt_22 ?_
 refine zM (zN (X_block ?_))
 refine X_loopT [(1, _), (2, _), (15, _), (16, _)] (.cons rfl (.cons rfl (.cons rfl (.cons rfl .nil)))) (fun T L0 mz E I' loc' => ∃ (k : Nat), mz = n - k ∧ E = (17, .int .i64 k) :: T ∧ I = I' ∧ L0 = loc' ∧ k ≤ n ∧ xs.take k = ys.take k) _ _ _ _ ⟨0, rfl, rfl, rfl, rfl, Nat.zero_le _, rfl⟩ (.cons rfl (.cons rfl (.cons rfl (.cons rfl (.cons rfl .nil))))) (HLe.refl _) rfl ?_
 rintro mz E I' loc' ⟨k, rfl, rfl, rfl, rfl, hk, hall⟩
 refine zR (zC (zN (X_seq ?_)))
 refine zI ?_ ?_ <;> intro hc18
 ·
  have hlt_k : k < n := by have h := hc18; simp at h; omega
  obtain ⟨x, u, hx, hu, hP⟩ := hS.at hlt_k
  obtain ⟨y, v, hy, hv, hQ⟩ := hT.at (show k < n2 by omega)
  refine X_skip (at_then (X_seq (X_block (zR (zM ?_)))))
  refine zV (zX slt_22 hH) ?_
  refine zV (ev_load rfl sct_23 (fun hg => by exact Sl.get0 hH hx rfl)) ?_
  refine zA ?_
  refine zA ?_
  refine zN (zR ?_)
  refine zM ?_
  refine zM ?_
  refine zV (zX slt_22 hG) ?_
  refine zV (ev_load rfl sct_23 (fun hg => by exact Sl.get0 hG hy rfl)) ?_
  refine zA ?_
  refine zN (zR ?_)
  refine zM ?_
  refine zM ?_
  refine zM ?_
  refine XO_callV0 (cap := []) (vs := [_, _]) rfl rfl fun_29 (w_equal hP hQ (by rw [← hP.len]; exact hn3 _ (List.mem_of_getElem? hu))) rfl rfl ?_
  refine zO (zN ?_)
  refine zI ?_ ?_ <;> intro hc30
  ·
   have hne : xs ≠ ys := fun e => by subst e; rw [hu] at hv; cases hv; simp at hc30
   refine zR (zA (zN (X_ret (at_block_r (at_then_r (at_then_r (at_block_r ?_)))))))
   refine at_then_r ?_
   exact at_ret1 rfl rfl (fun w hw => ⟨by rw [decide_eq_false hne], hw.drop⟩)
  have huv : u = v := by simpa using hc30
  refine X_skip (at_block_n (at_then (X_region ?_)))
  refine zV (ev_arB rfl rfl rfl (fun _ => by omega)) ?_
  refine zM (XO_nil ?_)
  exact at_met2 _ _ ⟨n - (k + 1), by omega, k + 1, rfl, rfl, rfl, rfl, by omega, by rw [List.take_add_one, List.take_add_one, hall, hu, hv, huv]⟩ (.cons rfl (.cons rfl (.cons rfl (.cons rfl (.cons rfl .nil))))) (by repeat (first | exact .refl | exact subL_left | refine subL_app ?_ | refine .drop ?_ | refine subL_add ?_))
 have hge_k : n ≤ k := by have h := hc18; simp at h; omega
 have heq : xs = ys := by rw [List.take_of_length_le (by omega), List.take_of_length_le (by omega)] at hall; exact hall
 refine X_exit (at_then_e (at_then_e (at_block_hit (at_then (zR (zA (zN ?_)))))))
 refine X_ret ?_
 exact at_ret1 rfl rfl (fun w hw => ⟨by rw [decide_eq_true heq], hw.drop⟩)
theorem w_sameG {I : HMap} {av : Option Addr} {n c : Nat} {xs : List Sg} (hS : Sl I 14 encG av n c xs) {bv : Option Addr} {n2 c2 : Nat} {ys : List Sg} (hT : Sl I 14 encG bv n2 c2 ys) (hn : n ≤ 100000) : RetV Tryz.prog 13 [.slice av n c, .slice bv n2 c2] I (.bool (decide (xs = ys))) := by
 intro g H w hw
 refine enter Tryz.func13 rfl Tryz.ntmps13 rfl hw ?_
 have hl1 := hS.len
 have hl2 := hT.len
 refine zR (zA (zN (X_seq (zR ?_))))
 refine zM ?_
 refine zQ slt_36 ?_
 refine zM ?_
 refine zQ slt_36 ?_
 refine zC (zN ?_)
 refine zI ?_ ?_ <;> intro hc10
 ·
  have hne : xs ≠ ys := fun e => by have h := hc10; subst e; simp at h; omega
  refine zR (zA (zN (X_ret (at_then_r ?_))))
  exact at_ret1 rfl rfl (fun w hw => ⟨by rw [decide_eq_false hne], hw.drop⟩)
 have hnn : n = n2 := by have h := hc10; simp at h; omega
 refine X_skip (at_then (X_seq (zR (zA (zN (X_block ?_))))))
 refine X_loopT [(0, _), (1, _)] (.cons rfl (.cons rfl .nil)) (fun T L0 mz E I' loc' => ∃ (k : Nat), mz = n - k ∧ E = (5, .int .i64 k) :: T ∧ I = I' ∧ L0 = loc' ∧ k ≤ n ∧ xs.take k = ys.take k) _ _ _ _ ⟨0, rfl, rfl, rfl, rfl, Nat.zero_le _, rfl⟩ (.cons rfl (.cons rfl (.cons rfl .nil))) (HLe.refl _) rfl ?_
 rintro mz E I' loc' ⟨k, rfl, rfl, rfl, rfl, hk, hall⟩
 refine X_seq (zR (zM ?_))
 refine zM ?_
 refine zQ slt_36 ?_
 refine zC (zN ?_)
 refine zI ?_ ?_ <;> intro hc14
 ·
  have hlt_k : k < n := by have h := hc14; simp at h; omega
  obtain ⟨x, hx⟩ := hS.at hlt_k
  obtain ⟨y, hy⟩ := hT.at (show k < n2 by omega)
  refine X_skip (at_then (X_seq (X_block (X_seq ?_))))
  refine X_draw mixed (by kernel_rfl) ?_
  refine XQ_v0 (ev_move rfl) rfl rfl rfl ?_
  refine XQ_v0 (ev_move rfl) rfl rfl rfl ?_
  refine XQ_v0 (zX slt_36 hS) rfl rfl rfl ?_
  refine XQ_v0 (ev_loadA rfl agt_48 (fun hg => by exact Sl.getA hS hx) rfl) rfl rfl rfl ?_
  refine XQ_v0 (ev_move rfl) rfl rfl rfl ?_
  refine XQ_v0 (ev_move rfl) rfl rfl rfl ?_
  refine XQ_v0 (zX slt_36 hT) rfl rfl rfl ?_
  refine XQ_v0 (ev_loadA rfl agt_48 (fun hg => by exact Sl.getA hT hy) rfl) rfl rfl rfl ?_
  refine XQ_v0 (v := .bool (!sgEq x y)) (ev_neS2 rfl rfl eqt2_48 rfl) rfl rfl rfl ?_
  refine XQ_nil ?_
  refine at_then ?_
  refine zI ?_ ?_ <;> intro hc25
  ·
   have hxy : ¬ x = y := fun e => by rw [sgEq_iff.2 e] at hc25; cases hc25
   have hne : xs ≠ ys := fun e => by subst e; rw [hx] at hy; cases hy; exact hxy rfl
   refine zR (zA (zN (X_ret (at_block_r (at_then_r (at_then_r (at_block_r ?_)))))))
   refine at_then_r ?_
   exact at_ret1 rfl rfl (fun w hw => ⟨by rw [decide_eq_false hne], hw.drop⟩)
  have hxy : x = y := sgEq_iff.1 (by simpa using hc25)
  refine X_skip (at_block_n (at_then (X_region (zM ?_))))
  refine zV (ev_arB rfl rfl rfl (fun _ => by omega)) ?_
  refine zA (XO_nil ?_)
  exact at_met2 _ _ ⟨n - (k + 1), by omega, k + 1, rfl, rfl, rfl, rfl, by omega, by rw [List.take_add_one, List.take_add_one, hall, hx, hy, hxy]⟩ (.cons rfl (.cons rfl (.cons rfl .nil))) (by repeat (first | exact .refl | exact subL_left | refine subL_app ?_ | refine .drop ?_ | refine subL_add ?_))
 have hge_k : n ≤ k := by have h := hc14; simp at h; omega
 have heq : xs = ys := by rw [List.take_of_length_le (by omega), List.take_of_length_le (by omega)] at hall; exact hall
 refine X_exit (at_then_e (at_then_e (at_block_hit (at_then (zR (zA (zN ?_)))))))
 refine X_ret ?_
 exact at_ret1 rfl rfl (fun w hw => ⟨by rw [decide_eq_true heq], hw.drop⟩)
def stepG (size bar : Int) : Sg := ⟨0, 0, bar, 1, 1, 1, 1, 0, size, 0, 0, 1, 1, 1⟩
theorem w_lawstep (I : HMap) (size bar : Int) : RetV Tryz.prog 15 [.int .i64 size, .int .i64 bar] I (encGA (stepG size bar)) := by
 intro g H w hw
 refine enter Tryz.func15 rfl Tryz.ntmps15 rfl hw ?_
 refine zR ?_
 refine XO_alloc zt_48 rfl rfl (fun b_4 => ?_)
 refine zN (zR ?_)
 refine zM ?_
 refine zM ?_
 refine zV (ev_buildL (ps := [(1, _)]) [_, _] plt_46 rfl rfl) ?_
 refine zV (ev_buildL (ps := [(0, _), (1, _)]) [_, _] plt_46 rfl rfl) ?_
 refine zV (ev_buildL (ps := [(3, _), (4, _), (5, _), (6, _), (8, _), (2, _), (10, _), (11, _)]) [_, _, _, _, _, _, _, _, _, _, _, _, _, _] plt_48 rfl rfl) ?_
 refine XO_storeA rfl rfl szt_48 rfl rfl rfl rfl (by repeat (first | exact Upd.here | apply Upd.there | apply upd_app)) ?_
 refine zN (X_ret ?_)
 exact at_retA rfl rfl agt_48 Cells.g0 rfl (fun w hw => ⟨rfl, hw.drop⟩)
end
section
open Go Go.Kn Go.Proofs
theorem root_pos {rows : List (List Int)} {cl : List Int} {l : Nat} : 0 < (rootF rows cl l).length := by
 have hne : topF rows cl l ≠ [] := fun e => by
  have h1 := top_len (rows := rows) (cl := cl) (l := l)
  have h2 := stE_pos (rows := rows) (l := l)
  rw [e] at h1; simp at h1; omega
 obtain ⟨h1, _⟩ := least_in hne
 rw [top_map] at h1
 obtain ⟨x, hx, e⟩ := List.mem_map.1 h1
 refine List.length_pos_of_mem (a := x) ?_
 unfold rootF
 rw [List.mem_filter]
 exact ⟨hx, by rw [e, top_map]; simp⟩
theorem base_yes {rows : List (List Int)} {cl : List Int} {k : Nat} (h : (rootF rows cl k).any (fun y => (rows.getD 0 []).getD k 0 == y) = true) : (rows.getD 0 []).getD k 0 = baseK rows cl k := by unfold baseK; rw [if_pos h]
theorem base_no {rows : List (List Int)} {cl : List Int} {k : Nat} (h : (rootF rows cl k).any (fun y => (rows.getD 0 []).getD k 0 == y) = false) : (rootF rows cl k).getD 0 0 = baseK rows cl k := by unfold baseK; rw [if_neg (by rw [h]; decide)]
def zeroE : Em := ⟨0, 0, 0⟩
theorem left_yes {rows : List (List Int)} {cl : List Int} {es lf : List Em} {k : Nat} (hl : lf = lfK es k) (h : (decide ((lf.length : Int) > 0) && ((lf.getD 0 zeroE).locus == (k : Int))) = true) : (lf.getD 0 zeroE).code = readK rows cl es k ∧ lf.drop 1 = lfK es (k + 1) ∧ 0 < lf.length := by
 cases lf with
 | nil => simp at h
 | cons e r =>
  have he : e.locus = (k : Int) := by simpa using h
  exact ⟨(rd_yes hl.symm he).symm, (lf_yes hl.symm he).symm, by simp⟩
theorem left_no {rows : List (List Int)} {cl : List Int} {es lf : List Em} {k : Nat} (hl : lf = lfK es k) (h : (decide ((lf.length : Int) > 0) && ((lf.getD 0 zeroE).locus == (k : Int))) = false) : baseK rows cl k = readK rows cl es k ∧ lf = lfK es (k + 1) := by
 cases lf with
 | nil => exact ⟨(rd_nil hl.symm).symm, (lf_nil hl.symm).symm⟩
 | cons e r =>
  have he : ¬ e.locus = (k : Int) := by
   intro he
   have h3 : (e.locus == (k : Int)) = false := by simpa using h
   rw [he] at h3; simp at h3
  exact ⟨(rd_no hl.symm he).symm, (lf_no hl.symm he).symm⟩
theorem reads_len {rows : List (List Int)} {cl : List Int} {es : List Em} : (readsL rows cl es).length = (rows.getD 0 []).length := by unfold readsL; simp
end
end Go.Proofs.YthcffaheamikgaaGreatDoor
section
namespace Go
def Exit.straight (Q : Exit → Act → World → Prop) : Exit → Act → World → Prop
 | .goto _, _, _ => False
 | .normal, a, w => Q .normal a w
 | .exit i, a, w => Q (.exit i) a w
 | .ret, a, w => Q .ret a w
 | .panic c, a, w => Q (.panic c) a w
 | .outgrown, a, w => Q .outgrown a w
section
variable {P : Program} {F : Fence} {n : Nat} {b : Frame} {a : Act} {k : List Item} {cs : List Frame} {w : World} {Q : Exit → Act → World → Prop}
theorem stepR_scope {c : Code} : step P (lone (b.atR a (.code (.scope c) :: k)) cs w) = .next (lone (b.atR a (.code c :: .inScope c :: k)) cs w) :=
 step_lone_go (by simp [stepG, stepG.exec, Frame.atR])
theorem stepR_inScope {c : Code} : step P (lone (b.atR a (.inScope c :: k)) cs w) = .next (lone (b.atR a k) cs w) :=
 step_lone_go (by simp [stepG, stepG.exec, Frame.atR])
theorem wpIn_scope_straight {c : Code} (h : c.wpIn F n P (Exit.straight Q) a w) : (Code.scope c).wpIn F n P Q a w := by
 intro b k cs hro hb hr
 have h0 : (lone (b.atR a (.code (.scope c) :: k)) cs w).fenced P F := fenced_calm hb hr rfl
 obtain ⟨e, a₁, w₁, hq, harr⟩ := h b (.inScope c :: k) cs hro hb hr
 cases e with
 | normal => exact ⟨.normal, a₁, w₁, hq, .head h0 stepR_scope (StepsIn.trans harr (.one (fenced_calm hb hr rfl) stepR_inScope))⟩
 | exit id =>
  have hx : exitTo id (.inScope c :: k) = exitTo id k := by simp [exitTo]
  exact ⟨_, a₁, w₁, hq, fun k' hk => .head h0 stepR_scope (harr.1 k' (by rw [hx]; exact hk)),
   fun hr' hk => let ⟨k₁, h1, h2⟩ := harr.2 hr' (by rw [hx]; exact hk); ⟨k₁, h1, .head h0 stepR_scope h2⟩⟩
 | goto l => exact hq.elim
 | ret => exact ⟨_, a₁, w₁, hq, .of_steps (.one h0 stepR_scope) harr⟩
 | panic ch => exact ⟨_, a₁, w₁, hq, .of_steps (.one h0 stepR_scope) harr⟩
 | outgrown => exact ⟨_, a₁, w₁, hq, .of_steps (.one h0 stepR_scope) harr⟩
end
end Go
namespace Go.Kn
open Go
section
variable {C : Cx} {Q : Exit → Act → World → Prop} {E : Env} {I : HMap} {loc : Loc}
theorem X_scope {c : Code} (h : X C (Exit.straight Q) c E I loc) : X C Q (.scope c) E I loc := fun a w ha hw => wpIn_scope_straight (h a w ha hw)
theorem X_label {l : Nat} (h : At C Q .normal E I loc) : X C Q (.label l) E I loc := fun a w ha hw => wpIn_label (h a w ha hw)
theorem at_scope_r (h : At C Q .ret E I loc) : At C (Exit.straight Q) .ret E I loc := h
theorem at_locEq {e : Exit} {loc' : Loc} (h : loc = loc') (hx : At C Q e E I loc') : At C Q e E I loc := h ▸ hx
variable {S : GS} {dst : Option Nat} {ty : TypeId} {pos : String} {af : Array Edge} {gd : Option (Nat × Bool)} {x y : Operand}
theorem run_equalIn_ptrNil {P : Program} {w : World} {t e d : Nat} {q : Option Addr} (hT : P.underlying t = some (.pointer e)) : (Op.equalIn (d + 1) t (.pointer q) (.pointer none)).run P w = .ok q.isNone w := by
 unfold Op.equalIn
 rw [Sem.run_bind, run_underlying hT]
 cases q <;> rfl
theorem ev_ptrNil {t t' e : Nat} {q : Option Addr} (hx : evalS S E x = some (.pointer q)) (hy : evalS S E y = some (.pointer none)) (hT : C.P.underlying t = some (.pointer e)) : EvalOp C S E I loc ⟨dst, .binOp .eql t x y t', ty, pos, af, gd⟩ (.bool q.isNone) :=
 .of (by intro c e; cases e) fun a w ha hg hc _ => by
  have e1 : ∀ op x y t, (eqGuard op t x y (.pointer q) (.pointer none)).run C.P w = .ok () w := by intros; unfold eqGuard; rename_i op _ _ _; cases op <;> rfl
  have e2 : (Op.equal t (.pointer q) (.pointer none)).run C.P w = .ok q.isNone w := run_equalIn_ptrNil (d := 9999) hT
  simp only [execOp, evalS_sound ha hg hc hx, evalS_sound ha hg hc hy, Sem.run_bind, e1, Result.andThen, binOp, e2, Sem.run_pure]
end
end Go.Kn
end
namespace Go.Proofs.YthcffaheamikgaaGreatDoor
section
open Go Go.Kn Go.Proofs
theorem agt_34 : AgT Tryz.prog 34 4 := .of (by kernel_rfl)
theorem agt_44 : AgT Tryz.prog 44 3 := .of (by kernel_rfl)
theorem fld_34_3 : FieldAt Tryz.prog 34 3 3 := .of (by kernel_rfl)
theorem fld_44_2 : FieldAt Tryz.prog 44 2 2 := .of (by kernel_rfl)
theorem fld_79_0 : FieldAt Tryz.prog 79 0 0 := .of (by kernel_rfl)
theorem fun_35 : Fun Tryz.prog 35 := .of Tryz.func35 (by kernel_rfl) (by kernel_rfl)
theorem fun_38 : Fun Tryz.prog 38 := .of Tryz.func38 (by kernel_rfl) (by kernel_rfl)
theorem fun_39 : Fun Tryz.prog 39 := .of Tryz.func39 (by kernel_rfl) (by kernel_rfl)
theorem fun_7 : Fun Tryz.prog 7 := .of Tryz.func7 (by kernel_rfl) (by kernel_rfl)
theorem fun_70 : Fun Tryz.prog 70 := .of Tryz.func70 (by kernel_rfl) (by kernel_rfl)
theorem fun_71 : Fun Tryz.prog 71 := .of Tryz.func71 (by kernel_rfl) (by kernel_rfl)
theorem fun_72 : Fun Tryz.prog 72 := .of Tryz.func72 (by kernel_rfl) (by kernel_rfl)
theorem plt_34 : PlT Tryz.prog 34 #[(0, 1), (1, 1), (2, 1), (3, 1)] (.agg #[(.int .i64 0), (.slice none 0 0), (.slice none 0 0), (.slice none 0 0)]) := ⟨.of (by kernel_rfl), by kernel_rfl, fun w => by kernel_rfl⟩
theorem sct_77 : ScT Tryz.prog 77 := .of (by kernel_rfl)
theorem szt_34 : SzT Tryz.prog 34 4 := .of (by kernel_rfl)
theorem szt_44 : SzT Tryz.prog 44 3 := .of (by kernel_rfl)
theorem szt_79 : SzT Tryz.prog 79 1 := .of (by kernel_rfl)
theorem zt_34 : ZeroT Tryz.prog 34 (.agg #[(.int .i64 0), (.slice none 0 0), (.slice none 0 0), (.slice none 0 0)]) := .of (by kernel_rfl)
theorem zt_44 : ZeroT Tryz.prog 44 (.agg #[(.int .i64 0), (.int .i64 0), (.int .i64 0)]) := .of (by kernel_rfl)
theorem zt_79 : ZeroT Tryz.prog 79 (.agg #[.nilFunc]) := .of (by kernel_rfl)
def RmOK (I : HMap) (r : Nat) : Prop := I r = some (mapO (Value.int .i64) rsV rsM)
theorem RmOK.mono {I I' : HMap} {r : Nat} (h : RmOK I r) (hI : HLe I I') : RmOK I' r := hI _ _ h
theorem rs_cases (r : Int) : (r ≠ 1 ∧ r ≠ 2 ∧ r ≠ 3 ∧ mget rsM r = none) ∨ ∃ f, mget rsM r = some f ∧ Fun Tryz.prog f ∧ ∀ (I : HMap) (code : Int) (b : Bool), RetV Tryz.prog f [.int .i64 code, .bool b] I (.bool (rsF r code b)) := by
 by_cases h1 : r = 1
 ·
  subst h1; exact .inr ⟨_, rfl, fun_70, w_rs1⟩
 by_cases h2 : r = 2
 ·
  subst h2; exact .inr ⟨_, rfl, fun_71, w_rs2⟩
 by_cases h3 : r = 3
 ·
  subst h3; exact .inr ⟨_, rfl, fun_72, w_rs3⟩
 exact .inl ⟨h1, h2, h3, by unfold rsM; simp [mget, Ne.symm h1, Ne.symm h2, Ne.symm h3]⟩
set_option maxHeartbeats 40000000 in
theorem w_Make {I : HMap} {av : Option Addr} {n c : Nat} {xs : List Int} (hS : Sl I 1 encI av n c xs) {bv : Option Addr} {n2 c2 : Nat} {rows : List (List Int)} (hVn : SlN I bv n2 c2 rows) (hn2 : n2 ≤ 100000) {dv : Option Addr} {n3 c3 : Nat} {es : List Em} (hEs : Sl I 3 encEm dv n3 c3 es) (hn3 : n3 ≤ 100000) (hnx : n ≤ 100000) (hDb : DebOK I) (no : Int) : RetM Tryz.prog 14 [.slice bv n2 c2, .int .i64 no, .slice av n c, .slice dv n3 c3] I [] (MakQ rows no xs es) := by
 intro g H w hw
 refine enter Tryz.func14 rfl Tryz.ntmps14 rfl hw ?_
 have hIc := HLe.refl I
 have hlV := hVn.len
 subst hlV
 have hEl := hEs.len
 subst hEl
 have hVn9 := hVn
 obtain ⟨hs, hV⟩ := hVn9
 have hH := hV.1
 refine zR ?_
 refine XO_alloc zt_34 rfl rfl (fun b_8 => ?_)
 refine zA ?_
 refine zN (zR ?_)
 refine zM ?_
 refine zM ?_
 refine XO_callM (cap := []) (vs := [_, _]) rfl rfl fun_7 .nil (w_Roots hS hVn hn2 hDb) rfl rfl ?_
 rintro vv1 I1 L1 hI1 ⟨rfl, av4, c4, rfl, hRt⟩
 have hS := hS.mono hI1; have hVn := hVn.mono hI1; have hV := hV.mono hI1; have hH := hH.mono hI1; have hDb := hDb.mono hI1; have hEs := hEs.mono hI1; have hIc := hIc.trans hI1
 refine zM ?_
 refine zE ?_
 refine zE ?_
 refine zA ?_
 refine zA (zN (X_seq (zR ?_)))
 refine zM ?_
 refine zC (zN ?_)
 refine zI ?_ ?_ <;> intro hc28
 ·
  have hcE : costE rows xs ≠ 0 := by simpa using hc28
  refine zR ?_
  refine zV (ev_loadA rfl agt_34 (fun hg => by exact Cells.g0) rfl) ?_
  refine zM ?_
  refine XO_storeA rfl rfl szt_34 rfl rfl rfl rfl (by repeat (first | exact Upd.here | apply Upd.there | apply upd_app)) ?_
  refine zA (zN (X_ret (at_then_r ?_)))
  first
  | exact at_ret2A rfl rfl rfl agt_34 (vs := encEd 0 none 0 0 none 0 0 none 0 0) (by repeat (first | exact Cells.here | apply Cells.there)) rfl (fun w hw => ⟨_, _, [], rfl, hIc, hw.drop, rfl, _, by rw [makE_1 hcE] <;> rfl, .inr ⟨by rw [makE_1 hcE]; exact hcE, _, _, _, _, _, _, _, _, _, rfl, .nil, .nil, .nil⟩⟩)
 have hcE : costE rows xs = 0 := by simpa using hc28
 have hr0 : rowsN rows = 0 := by cases Decidable.em (rowsN rows = 0) with
  | inl h => exact h
  | inr h => exact absurd ((cost_1 h).1.symm.trans hcE) h
 obtain ⟨hr1, hr6, hr64, hrr⟩ := rows_ok hr0
 obtain ⟨x0, v0, hx0, hv0, hQ0⟩ := hV.at (k := 0) (by omega)
 have hg0 : rows.getD 0 [] = v0 := getD_of hv0
 have hQ0l := hQ0.len
 have hg1 : (rows.getD 0 []).length = v0.length := by rw [hg0]
 rw [roots_len hcE] at hRt ⊢
 refine X_skip (at_then (X_seq (zR (zM ?_))))
 refine zC ?_
 refine zM ?_
 refine XO_pushF 2 rfl rfl rfl ?_
 refine zJ (ev_move rfl) ?_
 refine zJ (ev_cmp rfl rfl rfl) ?_
 refine XO_or0 rfl rfl rfl rfl rfl ?_
 refine zN ?_
 refine zI ?_ ?_ <;> intro hc36
 ·
  refine zR ?_
  refine zV (ev_loadA rfl agt_34 (fun hg => by exact Cells.g0) rfl) ?_
  refine XO_storeA rfl rfl szt_34 rfl rfl rfl rfl (by repeat (first | exact Upd.here | apply Upd.there | apply upd_app)) ?_
  refine zA (zN (X_ret (at_then_r ?_)))
  first
  | exact at_ret2A rfl rfl rfl agt_34 (vs := encEd 0 none 0 0 none 0 0 none 0 0) (by repeat (first | exact Cells.here | apply Cells.there)) rfl (fun w hw => ⟨_, _, [], rfl, hIc, hw.drop, rfl, _, by rw [makE_2 hcE hc36] <;> rfl, .inr ⟨by rw [makE_2 hcE hc36]; decide, _, _, _, _, _, _, _, _, _, rfl, .nil, .nil, .nil⟩⟩)
 refine X_skip (at_then (zR ?_))
 refine XO_callM (cap := []) (vs := []) rfl rfl fun_35 .nil (w_reasons _) rfl rfl ?_
 rintro vv2 I2 L2 hI2 ⟨rfl, rm, rfl, hRm⟩
 have hS := hS.mono hI2; have hVn := hVn.mono hI2; have hV := hV.mono hI2; have hH := hH.mono hI2; have hDb := hDb.mono hI2; have hEs := hEs.mono hI2; have hRt := hRt.mono hI2; have hQ0 := hQ0.mono hI2; have hIc := hIc.trans hI2
 have hRm : RmOK I2 rm := hRm
 refine zA ?_
 refine zA (zN (X_seq (X_seq ?_)))
 refine X_locEq (loc' := (b_8, .cells (encEd 0 none 0 0 none 0 0 none 0 0).toArray 34 (0, 0)) :: []) rfl ?_
 refine X_region (zM ?_)
 refine zQ slt_32 ?_
 refine zM (zN (X_block ?_))
 refine X_loopT [(0, _), (1, _), (2, _), (3, _), (8, _), (10, _), (11, _), (39, _), (40, _)] (.cons rfl (.cons rfl (.cons rfl (.cons rfl (.cons rfl (.cons rfl (.cons rfl (.cons rfl (.cons rfl .nil))))))))) (fun T L0 mz E I' loc' => ∃ (k : Nat) (l : Int), mz = es.length - k ∧ E = (12, .int .i64 l) :: (41, .int .i64 k) :: T ∧ HLe I2 I' ∧ (b_8, .cells (encEd 0 none 0 0 none 0 0 none 0 0).toArray 34 (0, 0)) :: [] = loc' ∧ k ≤ es.length ∧ -1 ≤ l ∧ goodE rows (rows.getD 0 []).length (-1) es = goodE rows (rows.getD 0 []).length l (es.drop k)) _ _ _ _ ⟨0, (-1), rfl, rfl, HLe.refl _, rfl, Nat.zero_le _, Int.le_refl _, rfl⟩ (.cons rfl (.cons rfl (.cons rfl (.cons rfl (.cons rfl (.cons rfl (.cons rfl (.cons rfl (.cons rfl (.cons rfl (.cons rfl .nil))))))))))) (HLe.refl _) rfl ?_
 rintro mz E J3 loc' ⟨k, l, rfl, rfl, hJ, rfl, hk, hlm, hgo⟩
 have hS := hS.mono hJ; have hVn := hVn.mono hJ; have hV := hV.mono hJ; have hH := hH.mono hJ; have hDb := hDb.mono hJ; have hEs := hEs.mono hJ; have hRt := hRt.mono hJ; have hQ0 := hQ0.mono hJ; have hRm := hRm.mono hJ; have hIc := hIc.trans hJ
 have hB0 := hJ
 refine zR (zC (zN (X_seq ?_)))
 refine zI ?_ ?_ <;> intro hc42
 ·
  have hlt_k : k < es.length := by have h := hc42; simp at h; omega
  obtain ⟨e, he⟩ := hEs.at hlt_k
  refine X_skip (at_then (X_seq (X_block (zR ?_))))
  refine zV (zX slt_32 hEs) ?_
  refine zV (ev_loadA rfl agt_44 (fun hg => by exact Sl.getA hEs he) rfl) ?_
  refine XO_alloc zt_44 rfl rfl (fun b_14 => ?_)
  refine XO_storeA rfl rfl szt_44 rfl rfl rfl rfl (by repeat (first | exact Upd.here | apply Upd.there | apply upd_app)) ?_
  refine zN (X_seq ?_)
  obtain ⟨h1, h2, h3, hget⟩ | ⟨f, hget, hFf, hCf⟩ := rs_cases e.reason
  ·
   refine X_region (zM ?_)
   refine zF fld_44_2 ?_
   refine zV (ev_load rfl sct_3 (fun hg => by exact Cell.h0 rfl)) ?_
   refine zV (ev_lookupOkN hget (m := rsM) (ek := Value.int .i64) (ev := rsV) (a := e.reason) mpt_75 key_3 rfl rfl (fun _ => .inl hRm)) ?_
   refine zM ?_
   refine zE ?_
   refine zE ?_
   refine XO_alloc zt_79 rfl rfl (fun b_15 => ?_)
   refine XO_storeA rfl rfl szt_79 rfl rfl rfl rfl (by repeat (first | exact Upd.here | apply Upd.there | apply upd_app)) ?_
   refine zA (zN (X_seq (X_seq ?_)))
   refine X_freeze (b := b_14) (by repeat (first | exact Take.here | apply Take.there)) (fun I4 hI4 hE14 => ?_)
   have hS := hS.mono hI4; have hVn := hVn.mono hI4; have hV := hV.mono hI4; have hH := hH.mono hI4; have hDb := hDb.mono hI4; have hEs := hEs.mono hI4; have hRt := hRt.mono hI4; have hQ0 := hQ0.mono hI4; have hRm := hRm.mono hI4; have hIc := hIc.trans hI4; have hB0 := hB0.trans hI4
   have hD := HLe.refl I4
   refine X_drawC mixed ?_
   refine zT 0 rfl (ev_move rfl) hD ?_
   refine zT 1 rfl (ev_not rfl) hD ?_
   refine zT 2 rfl (ev_move rfl) hD ?_
   refine zW 3 54 hD ?_
   refine zW 4 54 hD ?_
   refine zW 5 54 hD ?_
   refine zW 6 54 hD ?_
   refine zT 7 rfl (ev_pick rfl rfl rfl) hD ?_
   refine zT 8 rfl (ev_move rfl) hD ?_
   refine zW 9 60 hD ?_
   refine zW 10 60 hD ?_
   refine zW 11 60 hD ?_
   refine zW 12 60 hD ?_
   refine zW 13 60 hD ?_
   refine zT 14 rfl (ev_pick rfl rfl rfl) hD ?_
   refine zT 15 rfl (ev_move rfl) hD ?_
   refine zW 16 67 hD ?_
   refine zW 17 67 hD ?_
   refine zW 18 67 hD ?_
   refine zW 19 67 hD ?_
   refine zW 20 67 hD ?_
   refine zW 21 67 hD ?_
   refine zW 22 67 hD ?_
   refine zW 23 67 hD ?_
   refine zW 24 67 hD ?_
   refine zT 25 rfl (ev_pick rfl rfl rfl) hD ?_
   refine XD_done (by kernel_rfl) ?_
   refine at_noP ?_
   refine at_then ?_
   refine zI ?_ ?_ <;> intro hc77
   ·
    have hbe := badE_1 (rows := rows) (m := (rows.getD 0 []).length) (l := l) h1 h2 h3
    refine zR ?_
    refine zV (ev_loadA rfl agt_34 (fun hg => by exact Cells.g1) rfl) ?_
    refine XO_storeA rfl rfl szt_34 rfl rfl rfl rfl (by repeat (first | exact Upd.here | apply Upd.there | apply upd_app)) ?_
    refine zA (zN (X_ret (at_then_r (at_block_r (at_then_r (at_then_r (at_block_r ?_)))))))
    refine at_then_r ?_
    first
    | exact at_ret2A rfl rfl rfl agt_34 (vs := encEd 0 none 0 0 none 0 0 none 0 0) (by repeat (first | exact Cells.here | apply Cells.there)) rfl (fun w hw => ⟨_, _, [], rfl, hIc, hw.drop, rfl, _, by rw [makE_3 hcE hc36 (hgo.trans (goodE_bad he hbe))] <;> rfl, .inr ⟨by rw [makE_3 hcE hc36 (hgo.trans (goodE_bad he hbe))]; decide, _, _, _, _, _, _, _, _, _, rfl, .nil, .nil, .nil⟩⟩)
   cases hc77
  refine X_region (zM ?_)
  refine zF fld_44_2 ?_
  refine zV (ev_load rfl sct_3 (fun hg => by exact Cell.h0 rfl)) ?_
  refine zV (ev_lookupOkS hget (m := rsM) (ek := Value.int .i64) (ev := rsV) (a := e.reason) mpt_75 key_3 rfl rfl (fun _ => .inl hRm)) ?_
  refine zM ?_
  refine zE ?_
  refine zE ?_
  refine XO_alloc zt_79 rfl rfl (fun b_15 => ?_)
  refine XO_storeA rfl rfl szt_79 rfl rfl rfl rfl (by repeat (first | exact Upd.here | apply Upd.there | apply upd_app)) ?_
  refine zA (zN (X_seq (X_seq ?_)))
  obtain q1 | ⟨q1, q2⟩ | ⟨q1, q2⟩ := em_three rows ((rows.getD 0 []).length) l e
  ·
   refine X_freeze (b := b_15) (by repeat (first | exact Take.here | apply Take.there)) (fun I5 hI5 hb5 => ?_)
   have hS := hS.mono hI5; have hVn := hVn.mono hI5; have hV := hV.mono hI5; have hH := hH.mono hI5; have hDb := hDb.mono hI5; have hEs := hEs.mono hI5; have hRt := hRt.mono hI5; have hQ0 := hQ0.mono hI5; have hRm := hRm.mono hI5; have hIc := hIc.trans hI5; have hB0 := hB0.trans hI5
   have hC15 : Cell I5 [] b_15 0 (.func (.func f) #[] #[]) := .imm hb5 rfl
   refine X_freeze (b := b_14) (by repeat (first | exact Take.here | apply Take.there)) (fun I6 hI6 hE14 => ?_)
   have hS := hS.mono hI6; have hVn := hVn.mono hI6; have hV := hV.mono hI6; have hH := hH.mono hI6; have hDb := hDb.mono hI6; have hEs := hEs.mono hI6; have hRt := hRt.mono hI6; have hQ0 := hQ0.mono hI6; have hRm := hRm.mono hI6; have hC15 := hC15.mono hI6; have hIc := hIc.trans hI6; have hB0 := hB0.trans hI6
   have hD := HLe.refl I6
   refine X_drawC mixed ?_
   refine zT 0 rfl (ev_move rfl) hD ?_
   refine zT 1 rfl (ev_not rfl) hD ?_
   refine zT 2 rfl (ev_move rfl) hD ?_
   refine XD_takeW 3 rfl rfl rfl (dj := 54) rfl (ev_fieldAddr rfl fld_44_0) rfl (by kernel_rfl) (by kernel_rfl) (by kernel_rfl) noP_ok hD (by repeat (first | exact .refl | exact subL_nil | refine .keep ?_ | refine .drop ?_ | refine subL_add ?_)) ?_
   refine XD_takeW 4 rfl rfl rfl (dj := 54) rfl (ev_load rfl sct_3 (fun hg => by exact .imm hE14 rfl)) rfl (by kernel_rfl) (by kernel_rfl) (by kernel_rfl) noP_ok hD (by repeat (first | exact .refl | exact subL_nil | refine .keep ?_ | refine .drop ?_ | refine subL_add ?_)) ?_
   refine XD_takeW 5 rfl rfl rfl (dj := 54) rfl (ev_move rfl) rfl (by kernel_rfl) (by kernel_rfl) (by kernel_rfl) noP_ok hD (by repeat (first | exact .refl | exact subL_nil | refine .keep ?_ | refine .drop ?_ | refine subL_add ?_)) ?_
   refine XD_takeW 6 rfl rfl rfl (dj := 54) rfl (ev_cmp rfl rfl rfl) rfl (by kernel_rfl) (by kernel_rfl) (by kernel_rfl) noP_ok hD (by repeat (first | exact .refl | exact subL_nil | refine .keep ?_ | refine .drop ?_ | refine subL_add ?_)) ?_
   rw [q1]
   refine zT 7 rfl (ev_pickb rfl rfl rfl) hD ?_
   refine zT 8 rfl (ev_move rfl) hD ?_
   refine zW 9 60 hD ?_
   refine zW 10 60 hD ?_
   refine zW 11 60 hD ?_
   refine zW 12 60 hD ?_
   refine zW 13 60 hD ?_
   refine zT 14 rfl (ev_pick rfl rfl rfl) hD ?_
   refine zT 15 rfl (ev_move rfl) hD ?_
   refine zW 16 67 hD ?_
   refine zW 17 67 hD ?_
   refine zW 18 67 hD ?_
   refine zW 19 67 hD ?_
   refine zW 20 67 hD ?_
   refine zW 21 67 hD ?_
   refine zW 22 67 hD ?_
   refine zW 23 67 hD ?_
   refine zW 24 67 hD ?_
   refine zT 25 rfl (ev_pick rfl rfl rfl) hD ?_
   refine XD_done (by kernel_rfl) ?_
   refine at_noP ?_
   refine at_then ?_
   refine zI ?_ ?_ <;> intro hc77
   ·
    have hbe := badE_2 (rows := rows) (m := (rows.getD 0 []).length) q1
    refine zR ?_
    refine zV (ev_loadA rfl agt_34 (fun hg => by exact Cells.g0) rfl) ?_
    refine XO_storeA rfl rfl szt_34 rfl rfl rfl rfl (by repeat (first | exact Upd.here | apply Upd.there | apply upd_app)) ?_
    refine zA (zN (X_ret (at_then_r (at_block_r (at_then_r (at_then_r (at_block_r ?_)))))))
    refine at_then_r ?_
    first
    | exact at_ret2A rfl rfl rfl agt_34 (vs := encEd 0 none 0 0 none 0 0 none 0 0) (by repeat (first | exact Cells.here | apply Cells.there)) rfl (fun w hw => ⟨_, _, [], rfl, hIc, hw.drop, rfl, _, by rw [makE_3 hcE hc36 (hgo.trans (goodE_bad he hbe))] <;> rfl, .inr ⟨by rw [makE_3 hcE hc36 (hgo.trans (goodE_bad he hbe))]; decide, _, _, _, _, _, _, _, _, _, rfl, .nil, .nil, .nil⟩⟩)
   cases hc77
  ·
   refine X_freeze (b := b_15) (by repeat (first | exact Take.here | apply Take.there)) (fun I7 hI7 hb7 => ?_)
   have hS := hS.mono hI7; have hVn := hVn.mono hI7; have hV := hV.mono hI7; have hH := hH.mono hI7; have hDb := hDb.mono hI7; have hEs := hEs.mono hI7; have hRt := hRt.mono hI7; have hQ0 := hQ0.mono hI7; have hRm := hRm.mono hI7; have hIc := hIc.trans hI7; have hB0 := hB0.trans hI7
   have hC15 : Cell I7 [] b_15 0 (.func (.func f) #[] #[]) := .imm hb7 rfl
   refine X_freeze (b := b_14) (by repeat (first | exact Take.here | apply Take.there)) (fun I8 hI8 hE14 => ?_)
   have hS := hS.mono hI8; have hVn := hVn.mono hI8; have hV := hV.mono hI8; have hH := hH.mono hI8; have hDb := hDb.mono hI8; have hEs := hEs.mono hI8; have hRt := hRt.mono hI8; have hQ0 := hQ0.mono hI8; have hRm := hRm.mono hI8; have hC15 := hC15.mono hI8; have hIc := hIc.trans hI8; have hB0 := hB0.trans hI8
   have hD := HLe.refl I8
   refine X_drawC mixed ?_
   refine zT 0 rfl (ev_move rfl) hD ?_
   refine zT 1 rfl (ev_not rfl) hD ?_
   refine zT 2 rfl (ev_move rfl) hD ?_
   refine XD_takeW 3 rfl rfl rfl (dj := 54) rfl (ev_fieldAddr rfl fld_44_0) rfl (by kernel_rfl) (by kernel_rfl) (by kernel_rfl) noP_ok hD (by repeat (first | exact .refl | exact subL_nil | refine .keep ?_ | refine .drop ?_ | refine subL_add ?_)) ?_
   refine XD_takeW 4 rfl rfl rfl (dj := 54) rfl (ev_load rfl sct_3 (fun hg => by exact .imm hE14 rfl)) rfl (by kernel_rfl) (by kernel_rfl) (by kernel_rfl) noP_ok hD (by repeat (first | exact .refl | exact subL_nil | refine .keep ?_ | refine .drop ?_ | refine subL_add ?_)) ?_
   refine XD_takeW 5 rfl rfl rfl (dj := 54) rfl (ev_move rfl) rfl (by kernel_rfl) (by kernel_rfl) (by kernel_rfl) noP_ok hD (by repeat (first | exact .refl | exact subL_nil | refine .keep ?_ | refine .drop ?_ | refine subL_add ?_)) ?_
   refine XD_takeW 6 rfl rfl rfl (dj := 54) rfl (ev_cmp rfl rfl rfl) rfl (by kernel_rfl) (by kernel_rfl) (by kernel_rfl) noP_ok hD (by repeat (first | exact .refl | exact subL_nil | refine .keep ?_ | refine .drop ?_ | refine subL_add ?_)) ?_
   rw [q1]
   refine zT 7 rfl (ev_pickb rfl rfl rfl) hD ?_
   refine zT 8 rfl (ev_move rfl) hD ?_
   refine XD_takeW 9 rfl rfl rfl (dj := 60) rfl (ev_fieldAddr rfl fld_44_0) rfl (by kernel_rfl) (by kernel_rfl) (by kernel_rfl) noP_ok hD (by repeat (first | exact .refl | exact subL_nil | refine .keep ?_ | refine .drop ?_ | refine subL_add ?_)) ?_
   refine XD_takeW 10 rfl rfl rfl (dj := 60) rfl (ev_load rfl sct_3 (fun hg => by exact .imm hE14 rfl)) rfl (by kernel_rfl) (by kernel_rfl) (by kernel_rfl) noP_ok hD (by repeat (first | exact .refl | exact subL_nil | refine .keep ?_ | refine .drop ?_ | refine subL_add ?_)) ?_
   refine XD_takeW 11 rfl rfl rfl (dj := 60) rfl (ev_move rfl) rfl (by kernel_rfl) (by kernel_rfl) (by kernel_rfl) noP_ok hD (by repeat (first | exact .refl | exact subL_nil | refine .keep ?_ | refine .drop ?_ | refine subL_add ?_)) ?_
   refine XD_takeW 12 rfl rfl rfl (dj := 60) rfl (ev_lenS rfl slt_22) rfl (by kernel_rfl) (by kernel_rfl) (by kernel_rfl) noP_ok hD (by repeat (first | exact .refl | exact subL_nil | refine .keep ?_ | refine .drop ?_ | refine subL_add ?_)) ?_
   refine XD_takeW 13 rfl rfl rfl (dj := 60) rfl (ev_cmp rfl rfl rfl) rfl (by kernel_rfl) (by kernel_rfl) (by kernel_rfl) noP_ok hD (by repeat (first | exact .refl | exact subL_nil | refine .keep ?_ | refine .drop ?_ | refine subL_add ?_)) ?_
   rw [q2]
   refine zT 14 rfl (ev_pickb rfl rfl rfl) hD ?_
   refine zT 15 rfl (ev_move rfl) hD ?_
   refine zW 16 67 hD ?_
   refine zW 17 67 hD ?_
   refine zW 18 67 hD ?_
   refine zW 19 67 hD ?_
   refine zW 20 67 hD ?_
   refine zW 21 67 hD ?_
   refine zW 22 67 hD ?_
   refine zW 23 67 hD ?_
   refine zW 24 67 hD ?_
   refine zT 25 rfl (ev_pick rfl rfl rfl) hD ?_
   refine XD_done (by kernel_rfl) ?_
   refine at_noP ?_
   refine at_then ?_
   refine zI ?_ ?_ <;> intro hc77
   ·
    have hbe := badE_3 (rows := rows) (l := l) q2
    refine zR ?_
    refine zV (ev_loadA rfl agt_34 (fun hg => by exact Cells.g0) rfl) ?_
    refine XO_storeA rfl rfl szt_34 rfl rfl rfl rfl (by repeat (first | exact Upd.here | apply Upd.there | apply upd_app)) ?_
    refine zA (zN (X_ret (at_then_r (at_block_r (at_then_r (at_then_r (at_block_r ?_)))))))
    refine at_then_r ?_
    first
    | exact at_ret2A rfl rfl rfl agt_34 (vs := encEd 0 none 0 0 none 0 0 none 0 0) (by repeat (first | exact Cells.here | apply Cells.there)) rfl (fun w hw => ⟨_, _, [], rfl, hIc, hw.drop, rfl, _, by rw [makE_3 hcE hc36 (hgo.trans (goodE_bad he hbe))] <;> rfl, .inr ⟨by rw [makE_3 hcE hc36 (hgo.trans (goodE_bad he hbe))]; decide, _, _, _, _, _, _, _, _, _, rfl, .nil, .nil, .nil⟩⟩)
   cases hc77
  have h0e : 0 ≤ e.locus := by have h := of_decide_eq_false q1; omega
  have hle : e.locus.toNat < (rows.getD 0 []).length := by have h := of_decide_eq_false q2; omega
  have hle2 : ∀ r ∈ rows, e.locus.toNat < r.length := fun r hr => by rw [(hrr r hr).1]; exact hle
  refine X_freeze (b := b_15) (by repeat (first | exact Take.here | apply Take.there)) (fun I9 hI9 hb9 => ?_)
  have hS := hS.mono hI9; have hVn := hVn.mono hI9; have hV := hV.mono hI9; have hH := hH.mono hI9; have hDb := hDb.mono hI9; have hEs := hEs.mono hI9; have hRt := hRt.mono hI9; have hQ0 := hQ0.mono hI9; have hRm := hRm.mono hI9; have hIc := hIc.trans hI9; have hB0 := hB0.trans hI9
  have hC15 : Cell I9 [] b_15 0 (.func (.func f) #[] #[]) := .imm hb9 rfl
  refine X_freeze (b := b_14) (by repeat (first | exact Take.here | apply Take.there)) (fun I10 hI10 hE14 => ?_)
  have hS := hS.mono hI10; have hVn := hVn.mono hI10; have hV := hV.mono hI10; have hH := hH.mono hI10; have hDb := hDb.mono hI10; have hEs := hEs.mono hI10; have hRt := hRt.mono hI10; have hQ0 := hQ0.mono hI10; have hRm := hRm.mono hI10; have hC15 := hC15.mono hI10; have hIc := hIc.trans hI10; have hB0 := hB0.trans hI10
  have hD := HLe.refl I10
  refine X_drawC mixed ?_
  refine zT 0 rfl (ev_move rfl) hD ?_
  refine zT 1 rfl (ev_not rfl) hD ?_
  refine zT 2 rfl (ev_move rfl) hD ?_
  refine XD_takeW 3 rfl rfl rfl (dj := 54) rfl (ev_fieldAddr rfl fld_44_0) rfl (by kernel_rfl) (by kernel_rfl) (by kernel_rfl) noP_ok hD (by repeat (first | exact .refl | exact subL_nil | refine .keep ?_ | refine .drop ?_ | refine subL_add ?_)) ?_
  refine XD_takeW 4 rfl rfl rfl (dj := 54) rfl (ev_load rfl sct_3 (fun hg => by exact .imm hE14 rfl)) rfl (by kernel_rfl) (by kernel_rfl) (by kernel_rfl) noP_ok hD (by repeat (first | exact .refl | exact subL_nil | refine .keep ?_ | refine .drop ?_ | refine subL_add ?_)) ?_
  refine XD_takeW 5 rfl rfl rfl (dj := 54) rfl (ev_move rfl) rfl (by kernel_rfl) (by kernel_rfl) (by kernel_rfl) noP_ok hD (by repeat (first | exact .refl | exact subL_nil | refine .keep ?_ | refine .drop ?_ | refine subL_add ?_)) ?_
  refine XD_takeW 6 rfl rfl rfl (dj := 54) rfl (ev_cmp rfl rfl rfl) rfl (by kernel_rfl) (by kernel_rfl) (by kernel_rfl) noP_ok hD (by repeat (first | exact .refl | exact subL_nil | refine .keep ?_ | refine .drop ?_ | refine subL_add ?_)) ?_
  rw [q1]
  refine zT 7 rfl (ev_pickb rfl rfl rfl) hD ?_
  refine zT 8 rfl (ev_move rfl) hD ?_
  refine XD_takeW 9 rfl rfl rfl (dj := 60) rfl (ev_fieldAddr rfl fld_44_0) rfl (by kernel_rfl) (by kernel_rfl) (by kernel_rfl) noP_ok hD (by repeat (first | exact .refl | exact subL_nil | refine .keep ?_ | refine .drop ?_ | refine subL_add ?_)) ?_
  refine XD_takeW 10 rfl rfl rfl (dj := 60) rfl (ev_load rfl sct_3 (fun hg => by exact .imm hE14 rfl)) rfl (by kernel_rfl) (by kernel_rfl) (by kernel_rfl) noP_ok hD (by repeat (first | exact .refl | exact subL_nil | refine .keep ?_ | refine .drop ?_ | refine subL_add ?_)) ?_
  refine XD_takeW 11 rfl rfl rfl (dj := 60) rfl (ev_move rfl) rfl (by kernel_rfl) (by kernel_rfl) (by kernel_rfl) noP_ok hD (by repeat (first | exact .refl | exact subL_nil | refine .keep ?_ | refine .drop ?_ | refine subL_add ?_)) ?_
  refine XD_takeW 12 rfl rfl rfl (dj := 60) rfl (ev_lenS rfl slt_22) rfl (by kernel_rfl) (by kernel_rfl) (by kernel_rfl) noP_ok hD (by repeat (first | exact .refl | exact subL_nil | refine .keep ?_ | refine .drop ?_ | refine subL_add ?_)) ?_
  refine XD_takeW 13 rfl rfl rfl (dj := 60) rfl (ev_cmp rfl rfl rfl) rfl (by kernel_rfl) (by kernel_rfl) (by kernel_rfl) noP_ok hD (by repeat (first | exact .refl | exact subL_nil | refine .keep ?_ | refine .drop ?_ | refine subL_add ?_)) ?_
  rw [q2]
  refine zT 14 rfl (ev_pickb rfl rfl rfl) hD ?_
  refine zT 15 rfl (ev_move rfl) hD ?_
  refine XD_takeW 16 rfl rfl rfl (dj := 67) rfl (ev_fieldAddr rfl fld_79_0) rfl (by kernel_rfl) (by kernel_rfl) (by kernel_rfl) noP_ok hD (by repeat (first | exact .refl | exact subL_nil | refine .keep ?_ | refine .drop ?_ | refine subL_add ?_)) ?_
  refine XD_takeW 17 rfl rfl rfl (dj := 67) rfl (ev_load rfl sct_77 (fun hg => by exact hC15.any)) rfl (by kernel_rfl) (by kernel_rfl) (by kernel_rfl) noP_ok hD (by repeat (first | exact .refl | exact subL_nil | refine .keep ?_ | refine .drop ?_ | refine subL_add ?_)) ?_
  refine XD_takeW 18 rfl rfl rfl (dj := 67) rfl (ev_fieldAddr rfl fld_44_1) rfl (by kernel_rfl) (by kernel_rfl) (by kernel_rfl) noP_ok hD (by repeat (first | exact .refl | exact subL_nil | refine .keep ?_ | refine .drop ?_ | refine subL_add ?_)) ?_
  refine XD_takeW 19 rfl rfl rfl (dj := 67) rfl (ev_load rfl sct_3 (fun hg => by exact .imm hE14 rfl)) rfl (by kernel_rfl) (by kernel_rfl) (by kernel_rfl) noP_ok hD (by repeat (first | exact .refl | exact subL_nil | refine .keep ?_ | refine .drop ?_ | refine subL_add ?_)) ?_
  refine XD_takeW 20 rfl rfl rfl (dj := 67) rfl (ev_move rfl) rfl (by kernel_rfl) (by kernel_rfl) (by kernel_rfl) noP_ok hD (by repeat (first | exact .refl | exact subL_nil | refine .keep ?_ | refine .drop ?_ | refine subL_add ?_)) ?_
  refine XD_takeW 21 rfl rfl rfl (dj := 67) rfl (ev_makeFunc (us := []) (vs := [_]) rfl rfl) rfl (by kernel_rfl) (by kernel_rfl) (by kernel_rfl) noP_ok hD (by repeat (first | exact .refl | exact subL_nil | refine .keep ?_ | refine .drop ?_ | refine subL_add ?_)) ?_
  refine XD_one 22 rfl (by kernel_rfl) ?_
  refine XO_want (dj := 67) rfl rfl rfl ?_
  refine XO_callV0 (cap := []) (vs := [_, _]) rfl rfl fun_36 (w_containsM hVn hn2 hE14 h0e hle2) rfl rfl ?_
  refine XO_nil ?_
  refine zD hD ?_
  refine XD_one 23 rfl (by kernel_rfl) ?_
  refine XO_want (dj := 67) rfl rfl rfl ?_
  refine XO_callV0 (cap := []) (vs := [_, _]) rfl rfl hFf (hCf _ _ _) rfl rfl ?_
  refine XO_nil ?_
  refine zD hD ?_
  refine XD_takeW 24 rfl rfl rfl (dj := 67) rfl (ev_not rfl) rfl (by kernel_rfl) (by kernel_rfl) (by kernel_rfl) noP_ok hD (by repeat (first | exact .refl | exact subL_nil | refine .keep ?_ | refine .drop ?_ | refine subL_add ?_)) ?_
  refine zT 25 rfl (ev_pickb rfl rfl rfl) hD ?_
  refine XD_done (by kernel_rfl) ?_
  refine at_noP ?_
  refine at_then ?_
  refine zI ?_ ?_ <;> intro hc77
  ·
   have hbe := badE_4 q1 q2 hc77
   refine zR ?_
   refine zV (ev_loadA rfl agt_34 (fun hg => by exact Cells.g0) rfl) ?_
   refine XO_storeA rfl rfl szt_34 rfl rfl rfl rfl (by repeat (first | exact Upd.here | apply Upd.there | apply upd_app)) ?_
   refine zA (zN (X_ret (at_then_r (at_block_r (at_then_r (at_then_r (at_block_r ?_)))))))
   refine at_then_r ?_
   first
   | exact at_ret2A rfl rfl rfl agt_34 (vs := encEd 0 none 0 0 none 0 0 none 0 0) (by repeat (first | exact Cells.here | apply Cells.there)) rfl (fun w hw => ⟨_, _, [], rfl, hIc, hw.drop, rfl, _, by rw [makE_3 hcE hc36 (hgo.trans (goodE_bad he hbe))] <;> rfl, .inr ⟨by rw [makE_3 hcE hc36 (hgo.trans (goodE_bad he hbe))]; decide, _, _, _, _, _, _, _, _, _, rfl, .nil, .nil, .nil⟩⟩)
  have hbe := badE_4 q1 q2 hc77
  refine X_skip (at_then (X_region ?_))
  refine zF fld_44_0 ?_
  refine zV (ev_load rfl sct_3 (fun hg => by exact .imm hE14 rfl)) ?_
  refine zA (XO_nil (at_block_n (at_then (X_region ?_))))
  refine zB ?_
  refine zM (XO_nil ?_)
  exact at_met2 _ _ ⟨es.length - (k + 1), by omega, k + 1, _, rfl, rfl, hB0, rfl, by omega, by omega, by rw [hgo, goodE_step he hbe]⟩ (.cons rfl (.cons rfl (.cons rfl (.cons rfl (.cons rfl (.cons rfl (.cons rfl (.cons rfl (.cons rfl (.cons rfl (.cons rfl .nil))))))))))) (by repeat (first | exact .refl | exact subL_left | refine subL_app ?_ | refine .drop ?_ | refine subL_add ?_))
 have hge_k : es.length ≤ k := by have h := hc42; simp at h; omega
 rw [goodE_end hge_k] at hgo
 refine X_exit (at_then_e (at_then_e (at_block_hit (at_then (zR (zM ?_))))))
 refine zM ?_
 refine XO_callM (cap := []) (vs := [_]) rfl rfl fun_38 .nil (w_cloneI hS (by omega)) rfl rfl ?_
 rintro vv11 I11 L11 hI11 ⟨rfl, hO1⟩
 have hS := hS.mono hI11; have hVn := hVn.mono hI11; have hV := hV.mono hI11; have hH := hH.mono hI11; have hDb := hDb.mono hI11; have hEs := hEs.mono hI11; have hRt := hRt.mono hI11; have hQ0 := hQ0.mono hI11; have hRm := hRm.mono hI11; have hIc := hIc.trans hI11; have hB0 := hB0.trans hI11
 obtain ⟨va1, vc1, rfl⟩ := valn hO1
 refine zM ?_
 refine XO_callM (cap := []) (vs := [_]) rfl rfl fun_39 .nil (w_cloneE hEs (by omega)) rfl rfl ?_
 rintro vv12 I12 L12 hI12 ⟨rfl, hO2⟩
 have hS := hS.mono hI12; have hVn := hVn.mono hI12; have hV := hV.mono hI12; have hH := hH.mono hI12; have hDb := hDb.mono hI12; have hEs := hEs.mono hI12; have hRt := hRt.mono hI12; have hQ0 := hQ0.mono hI12; have hRm := hRm.mono hI12; have hIc := hIc.trans hI12; have hB0 := hB0.trans hI12
 obtain ⟨va2, vc2, rfl⟩ := valn hO2
 refine zV (ev_buildL (ps := [(0, _), (1, _), (2, _)]) [_, _, _, _] plt_34 rfl rfl) ?_
 refine XO_storeA rfl rfl szt_34 rfl rfl rfl rfl (by repeat (first | exact Upd.here | apply Upd.there | apply upd_app)) ?_
 refine zN (X_seq ?_)
 refine X_freezeO hO2 encEm_len (by decide) (by repeat (first | exact .cons .here .nil | exact split_all | exact split_app | apply split_cons | apply split_skip)) (fun I13 hI13 af13 cf13 ef13 hEm2 => ?_)
 cases ef13
 have hS := hS.mono hI13; have hVn := hVn.mono hI13; have hV := hV.mono hI13; have hH := hH.mono hI13; have hDb := hDb.mono hI13; have hEs := hEs.mono hI13; have hRt := hRt.mono hI13; have hQ0 := hQ0.mono hI13; have hRm := hRm.mono hI13; have hIc := hIc.trans hI13; have hB0 := hB0.trans hI13
 refine X_freezeO hO1 encI_len (by decide) (by repeat (first | exact .cons .here .nil | exact split_all | exact split_app | apply split_cons | apply split_skip)) (fun I14 hI14 af14 cf14 ef14 hCl => ?_)
 cases ef14
 have hS := hS.mono hI14; have hVn := hVn.mono hI14; have hV := hV.mono hI14; have hH := hH.mono hI14; have hDb := hDb.mono hI14; have hEs := hEs.mono hI14; have hRt := hRt.mono hI14; have hQ0 := hQ0.mono hI14; have hRm := hRm.mono hI14; have hEm2 := hEm2.mono hI14; have hIc := hIc.trans hI14; have hB0 := hB0.trans hI14
 refine X_locEq (loc' := [] ++ [(b_8, .cells (encEd no va1 n vc1 va2 es.length vc2 none 0 0).toArray 34 (0, 0))]) rfl ?_
 refine X_region (zM ?_)
 refine zA (zN (X_seq (zR ?_)))
 refine zM ?_
 refine zQ slt_22 ?_
 refine zM (zN (X_block ?_))
 refine X_loopT [(0, _), (8, _), (89, _), (90, _)] (.cons rfl (.cons rfl (.cons rfl (.cons rfl .nil)))) (fun T L0 mz E I' loc' => ∃ (k : Nat) (lf : List Em) (dva : Option Addr) (dn : Nat) (dc : Nat) (va3 : Option Addr) (vc3 : Nat) (L : Go.Kn.Loc), mz = (rows.getD 0 []).length - k ∧ E = (17, .slice dva dn dc) :: (91, .int .i64 k) :: T ∧ HLe I14 I' ∧ L ++ [(b_8, .cells (encEd no va1 n vc1 va2 es.length vc2 va3 k vc3).toArray 34 (0, 0))] = loc' ∧ k ≤ (rows.getD 0 []).length ∧ lf = lfK es k ∧ Sl I' 3 encEm dva dn dc lf ∧ OwnS 3 1 (.slice va3 k vc3) k (((List.range k).map (readK rows xs es)).flatMap encI) L) _ _ _ _ ⟨0, es, _, _, _, none, 0, [], rfl, rfl, HLe.refl _, rfl, Nat.zero_le _, rfl, hEs, OwnS.nil⟩ (.cons rfl (.cons rfl (.cons rfl (.cons rfl (.cons rfl (.cons rfl .nil)))))) (HLe.refl _) rfl ?_
 rintro mz E J15 loc' ⟨k, lf, dva, dn, dc, va3, vc3, L, rfl, rfl, hJ, rfl, hk, hlf, hLf, hO⟩
 have hS := hS.mono hJ; have hVn := hVn.mono hJ; have hV := hV.mono hJ; have hH := hH.mono hJ; have hDb := hDb.mono hJ; have hEs := hEs.mono hJ; have hRt := hRt.mono hJ; have hQ0 := hQ0.mono hJ; have hRm := hRm.mono hJ; have hEm2 := hEm2.mono hJ; have hCl := hCl.mono hJ; have hIc := hIc.trans hJ; have hB0 := hB0.trans hJ
 have hB2 := hJ
 have hLfl := hLf.len
 subst hLfl
 refine zR (zC (zN (X_seq ?_)))
 refine zI ?_ ?_ <;> intro hc92
 ·
  have hlt_k : k < (rows.getD 0 []).length := by have h := of_decide_eq_true hc92; omega
  obtain ⟨rhs, hRh9⟩ := id hRt
  have hRh := hRh9.1
  obtain ⟨rx, rv, hrx, hrv, hQ⟩ := hRh9.at hlt_k
  have hrv2 := roots_at hcE hlt_k
  rw [hrv2] at hrv
  cases hrv
  have hrp := root_pos (rows := rows) (cl := xs) (l := k)
  have hQl := hQ.len
  have hq0 : (rootF rows xs k)[0]? = some ((rootF rows xs k).getD 0 0) := some_getD rfl hrp
  have hk0 : v0[k]? = some (v0.getD k 0) := some_getD rfl (by rw [← hg0]; exact hlt_k)
  have hstl := stE_len (rows := rows) (l := k)
  have hrl : (rootF rows xs k).length ≤ (stE rows k).length := List.length_filter_le _ _
  refine X_skip (at_then (X_seq (X_block (zR (zM ?_)))))
  refine zV (zX slt_22 hRh) ?_
  refine zV (ev_load rfl sct_23 (fun hg => by exact Sl.get0 hRh hrx rfl)) ?_
  refine zA ?_
  refine zA ?_
  refine zN (zR ?_)
  refine zM ?_
  refine zV (zX slt_23 hQ) ?_
  refine zV (ev_load rfl sct_3 (fun hg => by exact Sl.get0 hQ hq0 rfl)) ?_
  refine zA (zN ?_)
  refine X_cutT [(0, _), (8, _), (17, _), (18, _), (89, _), (90, _), (91, _)] (.cons rfl (.cons rfl (.cons rfl (.cons rfl (.cons rfl (.cons rfl (.cons rfl .nil))))))) (fun T L0 E I' loc' => ∃ (b9 : Int), E = (20, .int .i64 b9) :: T ∧ HLe J15 I' ∧ L ++ [(b_8, .cells (encEd no va1 n vc1 va2 es.length vc2 va3 k vc3).toArray 34 (0, 0))] = loc' ∧ b9 = baseK rows xs k) ?_ ?_
  ·
   have hKc21 := HLe.refl J15
   refine zR (zM ?_)
   refine zM ?_
   refine zV (zX slt_22 hH) ?_
   refine zV (ev_load rfl sct_23 (fun hg => by exact Sl.get0 hH hx0 rfl)) ?_
   refine zM ?_
   refine zV (zX slt_23 hQ0) ?_
   refine zV (ev_load rfl sct_3 (fun hg => by exact Sl.get0 hQ0 hk0 rfl)) ?_
   refine XO_callV0 (cap := []) (vs := [_, _]) rfl rfl fun_40 (w_contains hQ (by omega) _) rfl rfl ?_
   refine zN ?_
   refine zI ?_ ?_ <;> intro hc106
   ·
    refine X_region (zM ?_)
    refine zV (zX slt_22 hH) ?_
    refine zV (ev_load rfl sct_23 (fun hg => by exact Sl.get0 hH hx0 rfl)) ?_
    refine zM ?_
    refine zV (zX slt_23 hQ0) ?_
    refine zV (ev_load rfl sct_3 (fun hg => by exact Sl.get0 hQ0 hk0 rfl)) ?_
    refine zA (XO_nil ?_)
    first
    | exact at_met2 _ _ ⟨_, rfl, hKc21, rfl, by rw [← base_yes (rows := rows) (cl := xs) (k := k) (by rw [hg0]; exact hc106), hg0]⟩ (.cons rfl (.cons rfl (.cons rfl (.cons rfl (.cons rfl (.cons rfl (.cons rfl (.cons rfl .nil)))))))) .refl
   refine X_skip ?_
   first
   | exact at_met2 _ _ ⟨_, rfl, hKc21, rfl, base_no (by rw [hg0]; exact hc106)⟩ (.cons rfl (.cons rfl (.cons rfl (.cons rfl (.cons rfl (.cons rfl (.cons rfl (.cons rfl .nil)))))))) .refl
  rintro E J16 loc' ⟨b9, rfl, hJ106, rfl, hb9⟩
  have hS := hS.mono hJ106; have hVn := hVn.mono hJ106; have hV := hV.mono hJ106; have hH := hH.mono hJ106; have hDb := hDb.mono hJ106; have hEs := hEs.mono hJ106; have hRt := hRt.mono hJ106; have hQ0 := hQ0.mono hJ106; have hRm := hRm.mono hJ106; have hEm2 := hEm2.mono hJ106; have hCl := hCl.mono hJ106
  have hLf := hLf.mono hJ106; have hRh := hRh.mono hJ106; have hQ := hQ.mono hJ106; have hIc := hIc.trans hJ106; have hB0 := hB0.trans hJ106; have hB2 := hB2.trans hJ106
  refine X_cutT [(0, _), (8, _), (89, _), (90, _), (91, _)] (.cons rfl (.cons rfl (.cons rfl (.cons rfl (.cons rfl .nil))))) (fun T L0 E I' loc' => ∃ (r9 : Int) (lf2 : List Em) (ea : Option Addr) (en ec : Nat), E = (17, .slice ea en ec) :: (20, .int .i64 r9) :: T ∧ HLe J16 I' ∧ L ++ [(b_8, .cells (encEd no va1 n vc1 va2 es.length vc2 va3 k vc3).toArray 34 (0, 0))] = loc' ∧ r9 = readK rows xs es k ∧ lf2 = lfK es (k + 1) ∧ Sl I' 3 encEm ea en ec lf2) ?_ ?_
  ·
   have hKc23 := HLe.refl J16
   refine zR (zM ?_)
   refine zQ slt_32 ?_
   refine zC ?_
   refine zM ?_
   refine XO_pushT 3 rfl rfl rfl ?_
   refine zK (ev_move rfl) ?_
   refine zK (zX slt_32 hLf) ?_
   refine zK (ev_fieldAddr rfl fld_44_0) ?_
   refine zK (ev_load rfl sct_3 (fun hg => by exact Sl.get (k := 0) hLf (some_getD (d := zeroE) rfl (by (simp [conj] at hg; omega))) rfl)) ?_
   refine zK (ev_move rfl) ?_
   refine zK (ev_cmp rfl rfl rfl) ?_
   refine XO_and0 rfl rfl rfl rfl rfl ?_
   refine zN ?_
   refine zI ?_ ?_ <;> intro hc123
   ·
    have hlf0 := (left_yes (rows := rows) (cl := xs) hlf hc123).2.2
    refine X_draw mixed (by kernel_rfl) ?_
    refine XQ_v0 (ev_move rfl) rfl rfl rfl ?_
    refine XQ_v0 (zX slt_32 hLf) rfl rfl rfl ?_
    refine XQ_v0 (ev_fieldAddr rfl fld_44_1) rfl rfl rfl ?_
    refine XQ_v0 (ev_load rfl sct_3 (fun hg => by exact Sl.get (k := 0) hLf (some_getD (d := zeroE) rfl (by omega)) rfl)) rfl rfl rfl ?_
    refine XQ_v0 (ev_move rfl) rfl rfl rfl ?_
    refine XQ_v0 (ev_sliceLo rfl rfl slt_32 (fun hg => by omega)) rfl rfl rfl ?_
    refine XQ_v0 (ev_assign rfl) rfl rfl rfl ?_
    refine XQ_v0 (ev_assign rfl) rfl rfl rfl ?_
    refine XQ_nil ?_
    exact at_met2 _ _ ⟨_, lf.drop 1, _, _, _, rfl, hKc23, rfl, (left_yes (rows := rows) (cl := xs) hlf hc123).1, (left_yes (rows := rows) (cl := xs) hlf hc123).2.1, hLf.drop hlf0⟩ (.cons rfl (.cons rfl (.cons rfl (.cons rfl (.cons rfl (.cons rfl (.cons rfl .nil))))))) .refl
   refine X_skip ?_
   exact at_met2 _ _ ⟨_, lf, _, _, _, rfl, hKc23, rfl, hb9.trans (left_no (rows := rows) (cl := xs) hlf hc123).1, (left_no (rows := rows) (cl := xs) hlf hc123).2, hLf⟩ (.cons rfl (.cons rfl (.cons rfl (.cons rfl (.cons rfl (.cons rfl (.cons rfl .nil))))))) .refl
  rintro E J17 loc' ⟨r9, lf2, ea, en, ec, rfl, hJ123, rfl, hr9, hlf2, hLf2⟩
  have hS := hS.mono hJ123; have hVn := hVn.mono hJ123; have hV := hV.mono hJ123; have hH := hH.mono hJ123; have hDb := hDb.mono hJ123; have hEs := hEs.mono hJ123; have hRt := hRt.mono hJ123; have hQ0 := hQ0.mono hJ123; have hRm := hRm.mono hJ123; have hEm2 := hEm2.mono hJ123; have hCl := hCl.mono hJ123
  have hLf := hLf.mono hJ123; have hRh := hRh.mono hJ123; have hQ := hQ.mono hJ123; have hIc := hIc.trans hJ123; have hB0 := hB0.trans hJ123; have hB2 := hB2.trans hJ123
  refine X_region ?_
  refine zF fld_34_3 ?_
  refine zV (ev_load rfl sct_23 (fun hg => by (repeat (first | exact Cell.here rfl | apply Cell.there | apply Cell.app)))) ?_
  refine zM ?_
  refine XO_buildSlice (ps := [(0, _)]) (m := [encI r9]) elt_23 rfl (.cons rfl (.nil)) rfl (by simp [encI_len]) (by decide) (by decide) rfl rfl (fun b_133 => ?_)
  refine XO_append (v := _) (ys := [r9].flatMap encI) (L := L) rfl rfl elt_23 hO (by repeat (first | exact .cons .here .nil | exact split_all | exact split_app | apply split_cons | apply split_skip)) ⟨rfl, fun _ => rfl, by repeat (first | exact Cells.here | apply Cells.there | apply Cells.app)⟩ (one_I [r9]) (by omega) rfl rfl ?_
  intro v9 L9 hO9 _; rw [← List.flatMap_append] at hO9; obtain ⟨va9, vc9, rfl⟩ := valn hO9
  refine zF fld_34_3 ?_
  refine zS szt_23 ?_
  refine XO_nil (at_block_n (at_then (X_region (zB ?_))))
  refine zM (XO_nil ?_)
  exact at_met2 _ _ ⟨(rows.getD 0 []).length - (k + 1), by omega, k + 1, _, _, _, _, _, _, _, rfl, rfl, hB2, rfl, by omega, hlf2, hLf2, by rw [range_map, ← hr9]; exact hO9⟩ (.cons rfl (.cons rfl (.cons rfl (.cons rfl (.cons rfl (.cons rfl .nil)))))) (by repeat (first | exact .refl | exact subL_left | refine subL_app ?_ | refine .drop ?_ | refine subL_add ?_))
 have hge_k : (rows.getD 0 []).length ≤ k := by have h := of_decide_eq_false hc92; omega
 obtain rfl : k = (rows.getD 0 []).length := by omega
 refine X_exit (at_then_e (at_then_e (at_block_hit (at_then (zR ?_)))))
 refine zV (ev_loadA rfl agt_34 (fun hg => by (repeat (first | exact Cells.here | apply Cells.there | apply Cells.app))) rfl) ?_
 refine XO_storeA rfl rfl szt_34 rfl rfl rfl rfl (by repeat (first | exact Upd.here | apply Upd.there | apply upd_app)) ?_
 refine zA (zN (X_ret ?_))
 first
 | exact at_ret2A rfl rfl rfl agt_34 (vs := encEd no va1 n vc1 va2 es.length vc2 va3 (rows.getD 0 []).length vc3) (by repeat (first | exact Cells.here | apply Cells.there | apply Cells.app)) rfl (fun w hw => by obtain ⟨I9, av9, c9, h1', h2', e9, h4'⟩ := OwnS.freeze (R := [_]) hO encI_len (by decide) hw; cases e9; exact ⟨_, I9, [], rfl, hIc.trans h1', h2'.drop, rfl, _, by rw [makE_4 hcE hc36 hgo] <;> rfl, .inl ⟨makE_4 hcE hc36 hgo, va1, _, _, va2, _, _, va3, _, _, rfl, hCl.mono h1', hEm2.mono h1', h4'⟩⟩)
end
section
open Go Go.Kn Go.Proofs
def edcF (rows : List (List Int)) (no : Int) (cl : List Int) (es : List Em) (rd : List Int) : Int := if makE rows no cl es ≠ 0 then makE rows no cl es else if rd = readsL rows cl es then 0 else 430
theorem edc_1 {rows : List (List Int)} {no : Int} {cl : List Int} {es : List Em} {rd : List Int} (h : makE rows no cl es ≠ 0) : edcF rows no cl es rd = makE rows no cl es := by unfold edcF; rw [if_pos h]
theorem edc_2 {rows : List (List Int)} {no : Int} {cl : List Int} {es : List Em} {rd : List Int} (h : makE rows no cl es = 0) (h2 : rd ≠ readsL rows cl es) : edcF rows no cl es rd = 430 := by unfold edcF; rw [if_neg (by omega), if_neg h2]
theorem edc_3 {rows : List (List Int)} {no : Int} {cl : List Int} {es : List Em} {rd : List Int} (h : makE rows no cl es = 0) (h2 : rd = readsL rows cl es) : edcF rows no cl es rd = 0 := by unfold edcF; rw [if_neg (by omega), if_pos h2]
theorem edc_ok {rows : List (List Int)} {no : Int} {cl : List Int} {es : List Em} {rd : List Int} (h : edcF rows no cl es rd = 0) : makE rows no cl es = 0 ∧ rd = readsL rows cl es := by
 unfold edcF at h
 split at h
 ·
  rename_i h1; exact absurd h h1
 ·
  rename_i h1
  split at h
  ·
   rename_i h2; exact ⟨by omega, h2⟩
  ·
   cases h
theorem mak_ok {rows : List (List Int)} {no : Int} {cl : List Int} {es : List Em} (h : makE rows no cl es = 0) : costE rows cl = 0 := by
 unfold makE at h
 split at h
 ·
  rename_i h1; exact absurd h h1
 ·
  rename_i h1; omega
theorem cost_rows {rows : List (List Int)} {cl : List Int} (h : costE rows cl = 0) : rowsN rows = 0 := by
 cases Decidable.em (rowsN rows = 0) with
 | inl e => exact e
 | inr e => exact absurd ((cost_1 e).1.symm.trans h) e
theorem MakQ.opn {rows : List (List Int)} {no : Int} {cl : List Int} {es : List Em} {v : Value} {I' : HMap} {L : Go.Kn.Loc} (h : MakQ rows no cl es v I' L) : L = [] ∧ ∃ (no2 : Int) (cl2 : List Int) (es2 : List Em) (rd2 : List Int) (a1 : Option Addr) (n1 c1 : Nat) (a2 : Option Addr) (n2 c2 : Nat) (a3 : Option Addr) (n3 c3 : Nat),
  v = .tuple #[.agg (encEd no2 a1 n1 c1 a2 n2 c2 a3 n3 c3).toArray, .int .i64 (makE rows no cl es)] ∧ Sl I' 1 encI a1 n1 c1 cl2 ∧ Sl I' 3 encEm a2 n2 c2 es2 ∧ Sl I' 1 encI a3 n3 c3 rd2 ∧
  (makE rows no cl es = 0 → no2 = no ∧ cl2 = cl ∧ es2 = es ∧ rd2 = readsL rows cl es) ∧ (makE rows no cl es ≠ 0 → no2 = 0 ∧ cl2 = [] ∧ es2 = [] ∧ rd2 = []) := by
 obtain ⟨rfl, vs, rfl, h⟩ := h
 rcases h with ⟨h0, a1, n1, c1, a2, n2, c2, a3, n3, c3, rfl, h1, h2, h3⟩ | ⟨h0, a1, n1, c1, a2, n2, c2, a3, n3, c3, rfl, h1, h2, h3⟩
 ·
  exact ⟨rfl, no, cl, es, readsL rows cl es, a1, n1, c1, a2, n2, c2, a3, n3, c3, rfl, h1, h2, h3, fun _ => ⟨rfl, rfl, rfl, rfl⟩, fun h => absurd h0 h⟩
 ·
  exact ⟨rfl, 0, [], [], [], a1, n1, c1, a2, n2, c2, a3, n3, c3, rfl, h1, h2, h3, fun h => absurd h h0, fun _ => ⟨rfl, rfl, rfl, rfl⟩⟩
/-! ### Signs -/
def nzF (row : List Int) (k : Nat) : Nat := ((row.take k).filter fun c => c != 0).length
theorem nzF_yes {row : List Int} {k : Nat} {c : Int} (h : row[k]? = some c) (hc : (c == 0) = false) : nzF row (k + 1) = nzF row k + 1 := by
 unfold nzF; rw [List.take_add_one, h, List.filter_append, List.length_append]
 have h2 : (c != 0) = true := by simpa [bne] using hc
 simp [h2]
theorem nzF_no {row : List Int} {k : Nat} {c : Int} (h : row[k]? = some c) (hc : (c == 0) = true) : nzF row (k + 1) = nzF row k := by
 unfold nzF; rw [List.take_add_one, h, List.filter_append, List.length_append]
 have h2 : (c != 0) = false := by simpa [bne] using hc
 simp [h2]
def NzOK (ws : List Wr) (rows : List (List Int)) : Prop := ∀ (i : Nat) (x : Wr) (row : List Int), ws[i]? = some x → rows[i]? = some row → ∀ k, k < row.length → row.getD k 0 ≠ 0 → nzF row k < x.rs.length
structure SgS where
 ex : Option Sg
 so : Option Sg
 many : Nat
 lost : Bool
def orS (a : Option Sg) (b : Sg) : Option Sg := match a with | none => some b | some x => some x
def sgSt (code : Int) (s : SgS) (c : Int) (y : Rd) : SgS :=
 if (c == 0) = true then s else if y.lost = true then { s with lost := true } else
 ⟨if (s.ex.isNone && c == code) = true then some y.sg else s.ex, orS s.so y.sg, s.many + 1, s.lost⟩
def zeroRd : Rd := ⟨false, zeroS⟩
def ydF (ws : List Wr) (rows : List (List Int)) (i k : Nat) : Rd := ((ws[i]?).map (·.rs)).getD [] |>.getD (nzF (rows.getD i []) k) zeroRd
def sgK (ws : List Wr) (rows : List (List Int)) (k : Nat) (code : Int) : Nat → SgS
 | 0 => ⟨none, none, 0, false⟩
 | i + 1 => sgSt code (sgK ws rows k code i) ((rows.getD i []).getD k 0) (ydF ws rows i k)
inductive Out | err | skip | sg (x : Sg)
def putS (k : Nat) (code : Int) (y : Sg) (m : Bool) : Sg := { signF code with id := (k : Int), bar := y.bar, mark := if m = true then 3 else y.mark, fn := y.fn, fd := y.fd, tn := y.tn, td := y.td }
def outK (ws : List Wr) (rows : List (List Int)) (k : Nat) (code : Int) : Out :=
 if (code == 0) = true then .skip else
 match (sgK ws rows k code rows.length).ex.or (sgK ws rows k code rows.length).so with
 | none => .err
 | some y => if (signE code != 0) = true then .err else .sg (putS k code y ((decide ((ws.length : Int) > 1) && ((sgK ws rows k code rows.length).many : Int) == 1) && !(sgK ws rows k code rows.length).lost))
def sgnK (ws : List Wr) (rows : List (List Int)) (rd : List Int) : Nat → Option (List Sg)
 | 0 => some []
 | k + 1 => match sgnK ws rows rd k with
  | none => none
  | some l => match outK ws rows k (rd.getD k 0) with
   | .err => none
   | .skip => some l
   | .sg x => some (l ++ [x])
theorem sgn_none {ws : List Wr} {rows : List (List Int)} {rd : List Int} {k : Nat} (h : sgnK ws rows rd k = none) : ∀ j, k ≤ j → sgnK ws rows rd j = none
  | 0, hj => by obtain rfl : k = 0 := by omega
                cases h
  | j + 1, hj => by
    by_cases e : k = j + 1
    · subst e; exact h
    · show (match sgnK ws rows rd j with | none => none | some l => match outK ws rows j (rd.getD j 0) with | .err => none | .skip => some l | .sg x => some (l ++ [x])) = none
      rw [sgn_none h j (by omega)]
theorem sgn_err {ws : List Wr} {rows : List (List Int)} {rd : List Int} {k : Nat} {l : List Sg} (h : sgnK ws rows rd k = some l) (ho : outK ws rows k (rd.getD k 0) = .err) (hk : k < rd.length) : sgnK ws rows rd rd.length = none := by
 refine sgn_none (k := k + 1) ?_ _ hk
 show (match sgnK ws rows rd k with | none => none | some l => match outK ws rows k (rd.getD k 0) with | .err => none | .skip => some l | .sg x => some (l ++ [x])) = none
 rw [h]; simp only; rw [ho]
theorem sgn_skip {ws : List Wr} {rows : List (List Int)} {rd : List Int} {k : Nat} {l : List Sg} (h : sgnK ws rows rd k = some l) (ho : outK ws rows k (rd.getD k 0) = .skip) : sgnK ws rows rd (k + 1) = some l := by
 show (match sgnK ws rows rd k with | none => none | some l => match outK ws rows k (rd.getD k 0) with | .err => none | .skip => some l | .sg x => some (l ++ [x])) = _
 rw [h]; simp only; rw [ho]
theorem sgn_sg {ws : List Wr} {rows : List (List Int)} {rd : List Int} {k : Nat} {l : List Sg} {x : Sg} (h : sgnK ws rows rd k = some l) (ho : outK ws rows k (rd.getD k 0) = .sg x) : sgnK ws rows rd (k + 1) = some (l ++ [x]) := by
 show (match sgnK ws rows rd k with | none => none | some l => match outK ws rows k (rd.getD k 0) with | .err => none | .skip => some l | .sg x => some (l ++ [x])) = _
 rw [h]; simp only; rw [ho]
def sigE (ws : List Wr) (rows : List (List Int)) (no : Int) (cl : List Int) (es : List Em) (rd : List Int) : Int :=
 if tabE ws ≠ 0 then tabE ws else if tabR ws ≠ rows then 430 else if edcF rows no cl es rd ≠ 0 then edcF rows no cl es rd else if (sgnK ws rows rd rd.length).isNone = true then 430 else 0
def sigL (ws : List Wr) (rows : List (List Int)) (no : Int) (cl : List Int) (es : List Em) (rd : List Int) : List Sg :=
 if sigE ws rows no cl es rd ≠ 0 then [] else (sgnK ws rows rd rd.length).getD []
theorem sig_bad {ws : List Wr} {rows : List (List Int)} {no : Int} {cl : List Int} {es : List Em} {rd : List Int} (h : sigE ws rows no cl es rd ≠ 0) : sigL ws rows no cl es rd = [] := by unfold sigL; rw [if_pos h]
theorem sig_1 {ws : List Wr} {rows : List (List Int)} {no : Int} {cl : List Int} {es : List Em} {rd : List Int} (h : tabE ws ≠ 0) : sigE ws rows no cl es rd = tabE ws := by unfold sigE; rw [if_pos h]
theorem sig_2 {ws : List Wr} {rows : List (List Int)} {no : Int} {cl : List Int} {es : List Em} {rd : List Int} (h : tabE ws = 0) (h2 : tabR ws ≠ rows) : sigE ws rows no cl es rd = 430 := by unfold sigE; rw [if_neg (by omega), if_pos h2]
theorem sig_3 {ws : List Wr} {rows : List (List Int)} {no : Int} {cl : List Int} {es : List Em} {rd : List Int} (h : tabE ws = 0) (h2 : tabR ws = rows) (h3 : edcF rows no cl es rd ≠ 0) : sigE ws rows no cl es rd = edcF rows no cl es rd := by unfold sigE; rw [if_neg (by omega), if_neg (fun e => e h2), if_pos h3]
theorem sig_4 {ws : List Wr} {rows : List (List Int)} {no : Int} {cl : List Int} {es : List Em} {rd : List Int} (h : tabE ws = 0) (h2 : tabR ws = rows) (h3 : edcF rows no cl es rd = 0) (h4 : sgnK ws rows rd rd.length = none) : sigE ws rows no cl es rd = 430 := by unfold sigE; rw [if_neg (by omega), if_neg (fun e => e h2), if_neg (by omega), h4]; rfl
theorem sig_5 {ws : List Wr} {rows : List (List Int)} {no : Int} {cl : List Int} {es : List Em} {rd : List Int} {l : List Sg} (h : tabE ws = 0) (h2 : tabR ws = rows) (h3 : edcF rows no cl es rd = 0) (h4 : sgnK ws rows rd rd.length = some l) : sigE ws rows no cl es rd = 0 ∧ sigL ws rows no cl es rd = l := by
 have e : sigE ws rows no cl es rd = 0 := by unfold sigE; rw [if_neg (by omega), if_neg (fun e => e h2), if_neg (by omega), h4]; rfl
 exact ⟨e, by unfold sigL; rw [if_neg (by omega), h4]; rfl⟩
theorem tab_len {ws : List Wr} (h : tabE ws = 0) : (chkW ws != 0 || ws.length == 0) = false ∨ tabR ws = [] := by
 cases e : (chkW ws != 0 || ws.length == 0) with
 | false => exact .inl rfl
 | true => exact .inr (tab_1 e).2
end
section
open Go Go.Kn Go.Proofs
theorem fld_34_0 : FieldAt Tryz.prog 34 0 0 := .of (by kernel_rfl)
theorem fld_34_1 : FieldAt Tryz.prog 34 1 1 := .of (by kernel_rfl)
theorem fld_34_2 : FieldAt Tryz.prog 34 2 2 := .of (by kernel_rfl)
theorem fun_14 : Fun Tryz.prog 14 := .of Tryz.func14 (by kernel_rfl) (by kernel_rfl)
theorem sct_32 : ScT Tryz.prog 32 := .of (by kernel_rfl)
theorem w_edChk {I : HMap} {bv : Option Addr} {n2 c2 : Nat} {rows : List (List Int)} (hVn : SlN I bv n2 c2 rows) (hn2 : n2 ≤ 100000) {ea1 : Option Addr} {en1 ec1 : Nat} {ea2 : Option Addr} {en2 ec2 : Nat} {ea3 : Option Addr} {en3 ec3 : Nat} {xs : List Int} {es : List Em} {rd : List Int} (hX1 : Sl I 1 encI ea1 en1 ec1 xs) (hX2 : Sl I 3 encEm ea2 en2 ec2 es) (hX3 : Sl I 1 encI ea3 en3 ec3 rd) (hm1 : en1 ≤ 100000) (hm2 : en2 ≤ 100000) (hm3 : en3 ≤ 100000) (no : Int) (hDb : DebOK I) : RetV Tryz.prog 17 [.slice bv n2 c2, .agg (encEd no ea1 en1 ec1 ea2 en2 ec2 ea3 en3 ec3).toArray] I (.int .i64 (edcF rows no xs es rd)) := by
 intro g H w hw
 refine enter Tryz.func17 rfl Tryz.ntmps17 rfl hw ?_
 have hIc := HLe.refl I
 refine zR ?_
 refine XO_box rfl rfl rfl (fun b_3 => ?_)
 refine zA ?_
 refine zN (zR ?_)
 refine zM ?_
 refine zF fld_34_0 ?_
 refine zV (ev_load rfl sct_3 (fun hg => by exact Cell.h0 rfl)) ?_
 refine zF fld_34_1 ?_
 refine zV (ev_load rfl sct_23 (fun hg => by exact Cell.h0 rfl)) ?_
 refine zF fld_34_2 ?_
 refine zV (ev_load rfl sct_32 (fun hg => by exact Cell.h0 rfl)) ?_
 refine XO_callM (cap := []) (vs := [_, _, _, _]) rfl rfl fun_14 .nil (w_Make hX1 hVn hn2 hX2 hm2 hm1 hDb no) rfl rfl ?_
 rintro vv1 I1 L1 hI1 hMQ
 have hVn := hVn.mono hI1; have hX1 := hX1.mono hI1; have hX2 := hX2.mono hI1; have hX3 := hX3.mono hI1; have hDb := hDb.mono hI1; have hIc := hIc.trans hI1
 obtain ⟨rfl, no2, cl2, es2, rd2, a1, q1, c1, a2, q2, c9, a3, q3, c3, rfl, hM1, hM2, hM3, hMy, hMn⟩ := hMQ.opn
 refine zM ?_
 refine zE ?_
 refine zE ?_
 refine XO_alloc zt_34 rfl rfl (fun b_5 => ?_)
 refine XO_storeA rfl rfl szt_34 rfl rfl rfl rfl (by repeat (first | exact Upd.here | apply Upd.there | apply upd_app)) ?_
 refine zA (zN (X_seq (zR ?_)))
 refine zM ?_
 refine zC (zN ?_)
 refine zI ?_ ?_ <;> intro hc18
 ·
  have hE0 : makE rows no xs es ≠ 0 := by have h := hc18; simpa using h
  refine zR (zM ?_)
  refine zA (zN (X_ret (at_then_r ?_)))
  first
  | exact at_ret1 rfl rfl (fun w hw => ⟨by rw [edc_1 hE0] <;> rfl, (hw.mono hIc).drop⟩)
 have hE0 : makE rows no xs es = 0 := by have h := hc18; simpa using h
 obtain ⟨-, -, -, rfl⟩ := hMy hE0
 refine X_skip (at_then (X_seq (zR ?_)))
 refine zF fld_34_3 ?_
 refine zV (ev_load rfl sct_23 (fun hg => by exact Cell.h1 rfl)) ?_
 refine zF fld_34_3 ?_
 refine zV (ev_load rfl sct_23 (fun hg => by exact Cell.h0 rfl)) ?_
 refine XO_callV0 (cap := []) (vs := [_, _]) rfl rfl fun_29 (w_equal hX3 hM3 hm3) rfl rfl ?_
 refine zO (zN ?_)
 refine zI ?_ ?_ <;> intro hc25
 ·
  have hrd : rd ≠ readsL rows xs es := fun e => by have h := hc25; rw [decide_eq_true e] at h; cases h
  refine zR (zA (zN (X_ret (at_then_r ?_))))
  first
  | exact at_ret1 rfl rfl (fun w hw => ⟨by rw [edc_2 hE0 hrd] <;> rfl, (hw.mono hIc).drop⟩)
 have hrd : rd = readsL rows xs es := Decidable.byContradiction fun e => by have h := hc25; rw [decide_eq_false e] at h; cases h
 refine X_skip (at_then (zR (zA (zN (X_ret ?_)))))
 first
 | exact at_ret1 rfl rfl (fun w hw => ⟨by rw [edc_3 hE0 hrd] <;> rfl, (hw.mono hIc).drop⟩)
end
section
open Go Go.Kn Go.Proofs
theorem tabR_in {ws : List Wr} : (tabR ws).length ≤ ws.length ∧ ∀ x ∈ tabR ws, x.length ≤ 256 := by
 unfold tabR
 split
 ·
  exact ⟨Nat.zero_le _, fun x hx => by cases hx⟩
 ·
  rename_i h
  refine ⟨by simp, fun x hx => ?_⟩
  obtain ⟨i, _, rfl⟩ := List.mem_map.1 hx
  unfold rowW
  rw [rngL_len]
  exact Nat.le_of_not_gt fun h2 => h (.inr h2)
theorem tab_rows {ws : List Wr} {rows : List (List Int)} (h : tabR ws = rows) (h0 : 0 < rows.length) : rows.length = ws.length := by
 subst h
 unfold tabR at h0 ⊢
 split
 ·
  rename_i h; rw [if_pos h] at h0; simp at h0
 ·
  simp
theorem nz_le {row : List Int} {k : Nat} : nzF row k ≤ k := by
 unfold nzF
 have h1 := List.length_filter_le (fun c : Int => c != 0) (row.take k)
 have h2 := List.length_take_le k row
 omega
theorem one_G (xs : List Sg) : allOne (xs.flatMap encG) = true := allOne_flat (fun _ => rfl) xs
/-! ### What has been passed -/
def atN (rows : List (List Int)) (k i : Nat) : Nat → Nat := fun j => if j < i then nzF (rows.getD j []) (k + 1) else nzF (rows.getD j []) k
theorem atN_self {rows : List (List Int)} {k i : Nat} : natF (atN rows k i) i = ((nzF (rows.getD i []) k : Nat) : Int) := by unfold natF atN; rw [if_neg (by omega)]
theorem atN_zero {rows : List (List Int)} : (fun _ => 0) = atN rows 0 0 := by funext j; unfold atN; rw [if_neg (by omega)]; rfl
theorem atN_yes {rows : List (List Int)} {k i : Nat} {v : Nat} (h : nzF (rows.getD i []) (k + 1) = v) : updF (atN rows k i) i v = atN rows k (i + 1) := by
 funext j
 by_cases e : j = i
 ·
  subst e; rw [updF_same]; unfold atN; rw [if_pos (by omega), h]
 ·
  rw [updF_ne e]; unfold atN
  by_cases h2 : j < i
  ·
   rw [if_pos h2, if_pos (by omega)]
  ·
   rw [if_neg h2, if_neg (by omega)]
theorem atN_no {rows : List (List Int)} {k i : Nat} (h : nzF (rows.getD i []) (k + 1) = nzF (rows.getD i []) k) : atN rows k i = atN rows k (i + 1) := by
 funext j
 unfold atN
 by_cases e : j = i
 ·
  subst e; rw [if_neg (by omega), if_pos (by omega), h]
 ·
  by_cases h2 : j < i
  ·
   rw [if_pos h2, if_pos (by omega)]
  ·
   rw [if_neg h2, if_neg (by omega)]
theorem atN_next {rows : List (List Int)} {k n : Nat} : rngL n (natF (atN rows k n)) = rngL n (natF (atN rows (k + 1) 0)) := by
 unfold rngL
 refine List.map_congr_left fun j hj => ?_
 unfold natF atN
 rw [if_pos (List.mem_range.1 hj), if_neg (by omega)]
/-! ### The steps -/
theorem sg_zero {ws : List Wr} {rows : List (List Int)} {k i : Nat} {code : Int} (h : ((rows.getD i []).getD k 0 == 0) = true) : sgK ws rows k code i = sgK ws rows k code (i + 1) := by
 show _ = sgSt code (sgK ws rows k code i) ((rows.getD i []).getD k 0) (ydF ws rows i k)
 unfold sgSt; rw [if_pos h]
theorem sg_lost {ws : List Wr} {rows : List (List Int)} {k i : Nat} {code : Int} {s : SgS} (hs : s = sgK ws rows k code i) (h : ((rows.getD i []).getD k 0 == 0) = false) (hl : (ydF ws rows i k).lost = true) : { s with lost := true } = sgK ws rows k code (i + 1) := by
 show _ = sgSt code (sgK ws rows k code i) ((rows.getD i []).getD k 0) (ydF ws rows i k)
 unfold sgSt; rw [if_neg (by rw [h]; decide), if_pos hl, hs]
theorem sg_yes {ws : List Wr} {rows : List (List Int)} {k i : Nat} {code : Int} {s : SgS} {y : Rd} (hs : s = sgK ws rows k code i) (h : ((rows.getD i []).getD k 0 == 0) = false) (hy : ydF ws rows i k = y) (hl : y.lost = false) (he : (s.ex.isNone && (rows.getD i []).getD k 0 == code) = true) :
  (⟨some y.sg, orS s.so y.sg, s.many + 1, s.lost⟩ : SgS) = sgK ws rows k code (i + 1) := by
 show _ = sgSt code (sgK ws rows k code i) ((rows.getD i []).getD k 0) (ydF ws rows i k)
 unfold sgSt; rw [if_neg (by rw [h]; decide), hy, if_neg (by rw [hl]; decide), ← hs, if_pos he]
theorem sg_no {ws : List Wr} {rows : List (List Int)} {k i : Nat} {code : Int} {s : SgS} {y : Rd} (hs : s = sgK ws rows k code i) (h : ((rows.getD i []).getD k 0 == 0) = false) (hy : ydF ws rows i k = y) (hl : y.lost = false) (he : (s.ex.isNone && (rows.getD i []).getD k 0 == code) = false) :
  (⟨s.ex, orS s.so y.sg, s.many + 1, s.lost⟩ : SgS) = sgK ws rows k code (i + 1) := by
 show _ = sgSt code (sgK ws rows k code i) ((rows.getD i []).getD k 0) (ydF ws rows i k)
 unfold sgSt; rw [if_neg (by rw [h]; decide), hy, if_neg (by rw [hl]; decide), ← hs, if_neg (by rw [he]; decide)]
theorem sg_many {ws : List Wr} {rows : List (List Int)} {k : Nat} {code : Int} : ∀ i, (sgK ws rows k code i).many ≤ i
 | 0 => Nat.le_refl _
 | i + 1 => by
  have ih := sg_many (ws := ws) (rows := rows) (k := k) (code := code) i
  show (sgSt code (sgK ws rows k code i) ((rows.getD i []).getD k 0) (ydF ws rows i k)).many ≤ i + 1
  unfold sgSt
  split
  ·
   omega
  ·
   split
   ·
    show (sgK ws rows k code i).many ≤ i + 1; omega
   ·
    show (sgK ws rows k code i).many + 1 ≤ i + 1; omega
theorem out_skip {ws : List Wr} {rows : List (List Int)} {k : Nat} {code : Int} (h : (code == 0) = true) : outK ws rows k code = .skip := by unfold outK; rw [if_pos h]
theorem out_none {ws : List Wr} {rows : List (List Int)} {k : Nat} {code : Int} {s : SgS} (h : (code == 0) = false) (hs : s = sgK ws rows k code rows.length) (hn : s.ex.or s.so = none) : outK ws rows k code = .err := by
 subst hs; unfold outK; rw [if_neg (by rw [h]; decide), hn]
theorem out_bad {ws : List Wr} {rows : List (List Int)} {k : Nat} {code : Int} {s : SgS} {y : Sg} (h : (code == 0) = false) (hs : s = sgK ws rows k code rows.length) (hn : s.ex.or s.so = some y) (he : (signE code != 0) = true) : outK ws rows k code = .err := by
 subst hs; unfold outK; rw [if_neg (by rw [h]; decide), hn]; simp only; rw [if_pos he]
theorem out_sg {ws : List Wr} {rows : List (List Int)} {k : Nat} {code : Int} {s : SgS} {y : Sg} (h : (code == 0) = false) (hs : s = sgK ws rows k code rows.length) (hn : s.ex.or s.so = some y) (he : (signE code != 0) = false) :
  outK ws rows k code = .sg (putS k code y ((decide ((ws.length : Int) > 1) && (s.many : Int) == 1) && !s.lost)) := by
 subst hs; unfold outK; rw [if_neg (by rw [h]; decide), hn]; simp only; rw [if_neg (by rw [he]; decide)]
theorem ydF_at {ws : List Wr} {rows : List (List Int)} {i k : Nat} {x : Wr} {y : Rd} (hx : ws[i]? = some x) (hy : x.rs[nzF (rows.getD i []) k]? = some y) : ydF ws rows i k = y := by
 unfold ydF; rw [hx]; exact getD_of hy
theorem Cells.two {I : HMap} {b t off : Nat} {vs : List Value} {u u' : Value} {fz : Nat × Nat} {l : Go.Kn.Loc} (h : I b = some (.cells vs.toArray t fz)) (h0 : vs[off]? = some u) (h1 : vs[off + 1]? = some u') : Cells I l b off [u, u'] := fun j v hj => by
 rcases j with _ | _ | j
 ·
  cases hj; exact .imm h (by rw [lget_eq]; simpa using h0)
 ·
  cases hj; exact .imm h (by rw [lget_eq]; simpa using h1)
 ·
  simp at hj
def PtrOK (t : Nat) (I : HMap) (p : Option Addr) (s : Option Sg) : Prop := match s with
 | none => p = none
 | some x => ∃ b l, p = some ⟨b, 1, none⟩ ∧ I b = some (.cells (encRd ⟨l, x⟩).toArray t (0, 0))
theorem PtrOK.mono {t : Nat} {I I' : HMap} {p : Option Addr} {s : Option Sg} (h : PtrOK t I p s) (hI : HLe I I') : PtrOK t I' p s := by
 cases s with
 | none => exact h
 | some x => obtain ⟨b, l, h1, h2⟩ := h; exact ⟨b, l, h1, hI _ _ h2⟩
theorem PtrOK.isNone {t : Nat} {I : HMap} {p : Option Addr} {s : Option Sg} (h : PtrOK t I p s) : p.isNone = s.isNone := by
 cases s with
 | none => have h : p = none := h; subst h; rfl
 | some x => obtain ⟨b, l, rfl, h2⟩ := h; rfl
theorem PtrOK.new {t : Nat} {I : HMap} {b : Nat} {y : Rd} (h : I b = some (.cells (encRd y).toArray t (0, 0))) : PtrOK t I (some ⟨b, 0 + 1, none⟩) (some y.sg) := ⟨b, y.lost, rfl, h⟩
theorem PtrOK.orN {t : Nat} {I : HMap} {p q : Option Addr} {s : Option Sg} {y : Sg} (h : PtrOK t I p s) (hp : p.isNone = true) (hq : PtrOK t I q (some y)) : PtrOK t I q (orS s y) := by
 have := h.isNone
 rw [hp] at this
 cases s with
 | none => exact hq
 | some x => cases this
theorem PtrOK.orS {t : Nat} {I : HMap} {p : Option Addr} {s : Option Sg} {y : Sg} (h : PtrOK t I p s) (hp : p.isNone = false) : PtrOK t I p (orS s y) := by
 have := h.isNone
 rw [hp] at this
 cases s with
 | none => cases this
 | some x => exact h
theorem PtrOK.orY {t : Nat} {I : HMap} {p q : Option Addr} {s u : Option Sg} (h : PtrOK t I p s) (hp : p.isNone = true) (hq : PtrOK t I q u) : PtrOK t I q (s.or u) := by
 have := h.isNone
 rw [hp] at this
 cases s with
 | none => exact hq
 | some x => cases this
theorem PtrOK.orX {t : Nat} {I : HMap} {p : Option Addr} {s u : Option Sg} (h : PtrOK t I p s) (hp : p.isNone = false) : PtrOK t I p (s.or u) := by
 have := h.isNone
 rw [hp] at this
 cases s with
 | none => cases this
 | some x => exact h
theorem PtrOK.at {t : Nat} {I : HMap} {p : Option Addr} {s : Option Sg} (h : PtrOK t I p s) (hp : p.isNone = false) : ∃ x b l, s = some x ∧ p = some ⟨b, 1, none⟩ ∧ I b = some (.cells (encRd ⟨l, x⟩).toArray t (0, 0)) := by
 have := h.isNone
 rw [hp] at this
 cases s with
 | none => cases this
 | some x => obtain ⟨b, l, h1, h2⟩ := h; exact ⟨x, b, l, rfl, h1, h2⟩
theorem PtrOK.none {t : Nat} {I : HMap} {p : Option Addr} {s : Option Sg} (h : PtrOK t I p s) (hp : p.isNone = true) : s = Option.none := by
 have := h.isNone
 rw [hp] at this
 cases s with
 | none => rfl
 | some x => cases this
end
end Go.Proofs.YthcffaheamikgaaGreatDoor
