/- editionEmended_holds, part F of the proof: what its theorems say holds without further conditions. -/
import Derived.Test.YthcffaheamikgaaDoorEBE
section
namespace Go.Proofs.YthcffaheamikgaaDoor
open Go Go.Kn Go.Proofs
theorem fun_31 : Fun Tryd.prog 31 := .of Tryd.func31 (by kernel_rfl) (by kernel_rfl)
theorem fun_32 : Fun Tryd.prog 32 := .of Tryd.func32 (by kernel_rfl) (by kernel_rfl)
theorem fun_33 : Fun Tryd.prog 33 := .of Tryd.func33 (by kernel_rfl) (by kernel_rfl)
theorem fun_34 : Fun Tryd.prog 34 := .of Tryd.func34 (by kernel_rfl) (by kernel_rfl)
theorem mkt_76 : MkT Tryd.prog 76 77 24 (.slice none 0 0) := ⟨by kernel_rfl, by kernel_rfl, rfl⟩
theorem slt_76 : SlT Tryd.prog 76 77 1 := .of (by kernel_rfl)
theorem szt_77 : SzT Tryd.prog 77 1 := .of (by kernel_rfl)
set_option maxHeartbeats 40000000 in
theorem w_Table {I : HMap} {av : Option Addr} {n c : Nat} {xs : List Wr} (hW0 : SlW I av n c xs) (hn : n ≤ 100000) : RetM Tryd.prog 13 [.slice av n c] I [] (SlNTup (tabE xs) (tabR xs)) := by
 intro g H w hw
 refine enterMs Tryd.func13 rfl Tryd.ntmps13 rfl hw ?_
 have hIc := HLe.refl I
 obtain ⟨ws, hW⟩ := id hW0
 have hH := hW.1
 have hlW := hW.len
 subst hlW
 refine X_seq (X_region ?_)
 refine XO_v0 (ev_assign rfl) rfl rfl rfl ?_
 refine XO_v0 (ev_assign rfl) rfl rfl rfl ?_
 refine XO_nil (at_then ?_)
 refine X_seq ?_
 refine X_seq (X_region ?_)
 refine XO_v0 (ev_move rfl) rfl rfl rfl ?_
 refine XO_callV0 (cap := []) (vs := [_]) rfl rfl fun_31 (w_chkW hW0 hn) rfl rfl ?_
 refine XO_v0 (ev_assign rfl) rfl rfl rfl ?_
 refine XO_nil (at_then ?_)
 refine X_seq (X_region ?_)
 refine XO_v0 (ev_move rfl) rfl rfl rfl ?_
 refine XO_v0 (ev_cmp rfl rfl rfl) rfl rfl rfl ?_
 refine XO_v0 (ev_move rfl) rfl rfl rfl ?_
 refine XO_pushF 2 rfl rfl rfl ?_
 refine XO_v1 (ev_move rfl) (.some rfl rfl rfl rfl gbf) rfl rfl rfl ?_
 refine XO_v1 (ev_lenS rfl slt_35) (.some rfl rfl rfl rfl gbf) rfl rfl rfl ?_
 refine XO_v1 (ev_cmp rfl rfl rfl) (.some rfl rfl rfl rfl gbf) rfl rfl rfl ?_
 refine XO_or0 rfl rfl rfl rfl rfl ?_
 refine XO_nil (at_then ?_)
 refine X_cond rfl (fun hc33 => ?_) (fun hc33 => ?_)
 ·
  rw [len_zero] at hc33
  refine X_seq (X_region ?_)
  refine XO_v0 (ev_move rfl) rfl rfl rfl ?_
  refine XO_v0 (ev_assign rfl) rfl rfl rfl ?_
  refine XO_v0 (ev_assign rfl) rfl rfl rfl ?_
  refine XO_nil (at_then ?_)
  refine X_ret ?_
  refine at_then_r ?_
  first
  | exact at_retMs (L := []) (fun a ha w hw => res2 rfl rfl rfl a ha w) (fun w hw => ⟨_, I, [], rfl, hIc, hw.drop, by rw [(tab_1 hc33).1]; exact SlNTup.empty (tab_1 hc33).2⟩)
 ·
  rw [len_zero] at hc33
  obtain ⟨hck, hx1, hx24, hrs⟩ := chkW_ok hc33
  obtain ⟨w0, x0, hx0, hv0, e01, e02, hR0⟩ := hW.at (k := 0) (by omega)
  have hcs0 : x0.rs.map codeR = csW xs 0 := (csW_at hv0).symm
  have hM64 := csW_len (i := 0) hrs
  have hR0l := hR0.len
  have hx0b := hrs x0 (List.mem_of_getElem? hv0)
  refine X_skip ?_
  refine at_then ?_
  refine X_seq (X_region ?_)
  refine XO_v0 (ev_move rfl) rfl rfl rfl ?_
  refine XO_v0 (ev_indexSl rfl rfl slt_35 hH (fun hg => by first | omega | (simp [conj] at hg; omega))) rfl rfl rfl ?_
  refine XO_v0 (ev_loadA rfl agt_34 (fun hg => by exact Sl.getA hH hx0) rfl) rfl rfl rfl ?_
  refine XO_callM (cap := []) (vs := [_]) rfl rfl fun_32 .nil (w_codes hR0 (by omega) _ _) rfl rfl ?_
  rintro vv1 I1 L1 hI1 ⟨rfl, av4, c4, rfl, hT⟩
  have hW0 := hW0.mono hI1
  have hW := hW.mono hI1
  have hH := hH.mono hI1
  have hIc := hIc.trans hI1
  rw [hcs0] at hT ⊢
  refine XO_v0 (ev_assign rfl) rfl rfl rfl ?_
  refine XO_nil (at_then ?_)
  refine X_seq (X_region ?_)
  refine XO_v0 (ev_move rfl) rfl rfl rfl ?_
  refine XO_v0 (ev_lenS rfl slt_35) rfl rfl rfl ?_
  refine XO_makeSlice mkt_76 rfl rfl (by first | omega | (simp; omega)) (by decide) rfl rfl (fun b_41 => ?_)
  refine XO_v0 (ev_assign rfl) rfl rfl rfl ?_
  refine XO_nil ?_
  rw [show ((xs.length : Nat) : Int).toNat = xs.length from rfl, cellsH_new]
  refine at_then ?_
  refine X_seq (X_region ?_)
  refine XO_v0 (ev_move rfl) rfl rfl rfl ?_
  refine XO_v0 (ev_lenS rfl slt_23) rfl rfl rfl ?_
  refine XO_v0 (ev_arB rfl rfl rfl (fun hg => by first | omega | (simp [conj] at hg; omega))) rfl rfl rfl ?_
  refine XO_makeSlice mkt_23 rfl rfl (by first | omega | (simp; omega)) (by decide) rfl rfl (fun b_45 => ?_)
  refine XO_alloc zt_23 rfl rfl (fun b_6 => ?_)
  refine XO_store rfl rfl szt_23 rfl rfl (by repeat (first | exact Upd.here | apply Upd.there | apply upd_app)) rfl ?_
  refine XO_nil ?_
  have e1 : (((csW xs 0).length : Nat) : Int) + 1 = (((csW xs 0).length + 1 : Nat) : Int) := rfl
  rw [e1, show (((csW xs 0).length + 1 : Nat) : Int).toNat = (csW xs 0).length + 1 from rfl, cellsI_new, rngL_zero, nat_zero]
  refine X_freeze (b := b_6) (by repeat (first | exact Take.here | apply Take.there)) (fun I2 hI2 hb2 => ?_)
  have hW0 := hW0.mono hI2
  have hW := hW.mono hI2
  have hH := hH.mono hI2
  have hT := hT.mono hI2
  have hIc := hIc.trans hI2
  have hC6 : Cell I2 [] b_6 0 (.slice (some ⟨b_45, 0, none⟩) ((csW xs 0).length + 1) ((csW xs 0).length + 1)) := .imm hb2 rfl
  refine at_then ?_
  refine X_seq ?_
  refine X_seq ?_
  have hw1 := wdF_one (al := alW xs) alW_zero
  refine X_locEq (loc' := (b_45, .cells (cellsI (rngL ((csW xs 0).length + 1) (natF (wdF (alW xs) 1)))) 3 (0, 0)) :: (b_41, .cells (cellsH (List.replicate xs.length ⟨none, 0, 0⟩)) 77 (0, 0)) :: MB []) (by rw [hw1]; rfl) ?_
  refine X_region ?_
  refine XO_v0 (ev_assign rfl) rfl rfl rfl ?_
  refine XO_nil (at_then ?_)
  refine X_block ?_
  refine X_loopM [(0, _), (2, _), (4, _), (5, _), (6, _)] (.cons rfl (.cons rfl (.cons rfl (.cons rfl (.cons rfl .nil))))) (fun T L0 mz ms E I' loc' => ∃ (i : Nat) (hs : List Hd), mz = xs.length - i ∧ E = (7, .int .i64 i) :: T ∧ HLe I2 I' ∧ (b_45, .cells (cellsI (rngL ((csW xs 0).length + 1) (natF (wdF (alW xs) i)))) 3 (0, 0)) :: (b_41, .cells (cellsH hs) 77 (0, 0)) :: MB ms = loc' ∧ i ≤ xs.length ∧ 1 ≤ i ∧ hs.length = xs.length ∧ PrQ I' xs hs i) _ _ _ _ ⟨1, _, rfl, rfl, HLe.refl _, rfl, hx1, Nat.le_refl _, by rw [List.length_replicate], PrQ.start hx1⟩ (.cons rfl (.cons rfl (.cons rfl (.cons rfl (.cons rfl (.cons rfl .nil)))))) (HLe.refl _) rfl ?_
  rintro mz ms E J3 loc' ⟨i, hs, rfl, rfl, hJ, rfl, hi, hi1, hhl, hPr⟩
  have hW0 := hW0.mono hJ
  have hW := hW.mono hJ
  have hH := hH.mono hJ
  have hT := hT.mono hJ
  have hC6 := hC6.mono hJ
  have hIc := hIc.trans hJ
  have hB0 := hJ
  refine X_seq ?_
  refine X_seq (X_region ?_)
  refine XO_v0 (ev_move rfl) rfl rfl rfl ?_
  refine XO_v0 (ev_move rfl) rfl rfl rfl ?_
  refine XO_v0 (ev_lenS rfl slt_35) rfl rfl rfl ?_
  refine XO_v0 (ev_cmp rfl rfl rfl) rfl rfl rfl ?_
  refine XO_nil (at_then ?_)
  refine X_cond rfl (fun hc49 => ?_) (fun hc49 => ?_)
  ·
   have hlt_i : i < xs.length := by have h := hc49; simp at h; omega
   obtain ⟨w, x, hx, hv, e1, e2, hR⟩ := hW.at hlt_i
   have hcsi : x.rs.map codeR = csW xs i := (csW_at hv).symm
   have hMi := csW_len (i := i) hrs
   have hRl := hR.len
   have hxb := hrs x (List.mem_of_getElem? hv)
   refine X_skip ?_
   refine at_then ?_
   refine X_seq ?_
   refine X_block ?_
   refine X_seq (X_region ?_)
   refine XO_v0 (ev_move rfl) rfl rfl rfl ?_
   refine XO_v0 (ev_move rfl) rfl rfl rfl ?_
   refine XO_v0 (ev_move rfl) rfl rfl rfl ?_
   refine XO_v0 (ev_move rfl) rfl rfl rfl ?_
   refine XO_v0 (ev_move rfl) rfl rfl rfl ?_
   refine XO_v0 (ev_indexSl rfl rfl slt_35 hH (fun hg => by first | omega | (simp [conj] at hg; omega))) rfl rfl rfl ?_
   refine XO_v0 (ev_loadA rfl agt_34 (fun hg => by exact Sl.getA hH hx) rfl) rfl rfl rfl ?_
   refine XO_callM (cap := []) (vs := [_]) rfl rfl fun_32 .nil (w_codes hR (by omega) _ _) rfl rfl ?_
   rintro vv4 I4 L4 hI4 ⟨rfl, av7, c7, rfl, hT7⟩
   have hW0 := hW0.mono hI4
   have hW := hW.mono hI4
   have hH := hH.mono hI4
   have hT := hT.mono hI4
   have hC6 := hC6.mono hI4
   have hPr := hPr.mono hI4
   have hR := hR.mono hI4
   have hIc := hIc.trans hI4
   have hB0 := hB0.trans hI4
   rw [hcsi] at hT7 ⊢
   refine XO_callM (cap := []) (vs := [_, _]) rfl rfl fun_33 .nil (w_Pair hT hT7 (by omega) (by omega)) rfl rfl ?_
   rintro vv5 I5 L5 hI5 ⟨rfl, z8, av8, c8, rfl, hP8⟩
   have hW0 := hW0.mono hI5
   have hW := hW.mono hI5
   have hH := hH.mono hI5
   have hT := hT.mono hI5
   have hC6 := hC6.mono hI5
   have hPr := hPr.mono hI5
   have hR := hR.mono hI5
   have hT7 := hT7.mono hI5
   have hIc := hIc.trans hI5
   have hB0 := hB0.trans hI5
   refine XO_v0 (ev_move rfl) rfl rfl rfl ?_
   refine XO_v0 (ev_extract rfl rfl) rfl rfl rfl ?_
   refine XO_v0 (ev_extract rfl rfl) rfl rfl rfl ?_
   refine XO_v0 (ev_extract rfl rfl) rfl rfl rfl ?_
   refine XO_v0 (ev_indexOwn rfl rfl slt_76 (fun hg => by first | omega | (simp [conj] at hg; omega))) rfl rfl rfl ?_
   refine XO_store rfl rfl szt_77 rfl rfl (by repeat (first | exact Upd.here | apply Upd.there | apply upd_app)) (bltH (by omega)) ?_
   refine XO_nil ?_
   rw [show (#[Value.int .i64 z8, Value.slice av8 (pairR (csW xs 0) (csW xs i)).length c8, Value.int .i64 (pairE (csW xs 0) (csW xs i))] : Array Value)[1] = Value.slice av8 (pairR (csW xs 0) (csW xs i)).length c8 from rfl, cellsH_set]
   have hPr2 := hPr.put (by omega) (by omega) hP8
   have hs2_at : (hs.set i ⟨av8, (pairR (csW xs 0) (csW xs i)).length, c8⟩)[i]? = some ⟨av8, (pairR (csW xs 0) (csW xs i)).length, c8⟩ := List.getElem?_set_self (by omega)
   have hpfe : pfW xs i = pairR (csW xs 0) (csW xs i) := by unfold pfW; rw [if_neg (by omega)]
   have hPi : Sl I5 2 encQ av8 (pairR (csW xs 0) (csW xs i)).length c8 (pfW xs i) := by rw [hpfe]; exact hP8
   have hpl := (pfW_ok (xs := xs) (i := i)).2
   have hpr := (pairR_okQ (a := (csW xs 0)) (b := (csW xs i))).2
   refine at_then ?_
   refine X_seq (X_region ?_)
   refine XO_v0 (ev_move rfl) rfl rfl rfl ?_
   refine XO_v0 (ev_lenS rfl slt_23) rfl rfl rfl ?_
   refine XO_v0 (ev_arB rfl rfl rfl (fun hg => by first | omega | (simp [conj] at hg; omega))) rfl rfl rfl ?_
   refine XO_makeSlice mkt_23 rfl rfl (by first | omega | (simp; omega)) (by decide) rfl rfl (fun b_69 => ?_)
   refine XO_alloc zt_23 rfl rfl (fun b_8 => ?_)
   refine XO_store rfl rfl szt_23 rfl rfl (by repeat (first | exact Upd.here | apply Upd.there | apply upd_app)) rfl ?_
   refine XO_nil ?_
   have e1 : (((csW xs 0).length : Nat) : Int) + 1 = (((csW xs 0).length + 1 : Nat) : Int) := rfl
   rw [e1, show (((csW xs 0).length + 1 : Nat) : Int).toNat = (csW xs 0).length + 1 from rfl, cellsI_new, rngL_zero, nat_zero]
   refine X_freeze (b := b_8) (by repeat (first | exact Take.here | apply Take.there)) (fun I6 hI6 hb6 => ?_)
   have hW0 := hW0.mono hI6
   have hW := hW.mono hI6
   have hH := hH.mono hI6
   have hT := hT.mono hI6
   have hC6 := hC6.mono hI6
   have hPr := hPr.mono hI6
   have hR := hR.mono hI6
   have hT7 := hT7.mono hI6
   have hP8 := hP8.mono hI6
   have hPr2 := hPr2.mono hI6
   have hPi := hPi.mono hI6
   have hIc := hIc.trans hI6
   have hB0 := hB0.trans hI6
   have hC8 : Cell I6 [] b_8 0 (.slice (some ⟨b_69, 0, none⟩) ((csW xs 0).length + 1) ((csW xs 0).length + 1)) := .imm hb6 rfl
   refine at_then ?_
   refine X_seq (X_region ?_)
   refine XO_v0 (ev_move rfl) rfl rfl rfl ?_
   refine XO_v0 (ev_move rfl) rfl rfl rfl ?_
   refine XO_v0 (ev_indexOwn rfl rfl slt_76 (fun hg => by first | omega | (simp [conj] at hg; omega))) rfl rfl rfl ?_
   refine XO_v0 (ev_load rfl sct_77 (fun hg => by exact Cell.there (Cell.there (cellH_at hs2_at)))) rfl rfl rfl ?_
   refine XO_callM (cap := []) (vs := [_]) rfl rfl fun_34 .nil (w_alone _ _ _ _) rfl rfl ?_
   rintro vv7 I7 L7 hI7 ⟨rfl, b1, rfl, hb1⟩
   have hW0 := hW0.mono hI7
   have hW := hW.mono hI7
   have hH := hH.mono hI7
   have hT := hT.mono hI7
   have hC6 := hC6.mono hI7
   have hPr := hPr.mono hI7
   have hR := hR.mono hI7
   have hT7 := hT7.mono hI7
   have hP8 := hP8.mono hI7
   have hPr2 := hPr2.mono hI7
   have hPi := hPi.mono hI7
   have hC8 := hC8.mono hI7
   have hIc := hIc.trans hI7
   have hB0 := hB0.trans hI7
   refine XO_nil (at_then ?_)
   refine X_block ?_
   refine X_locEq (loc' := [] ++ (((b_69, .cells (cellsI (rngL ((csW xs 0).length + 1) (natF (cnt [])))) 3 (0, 0)) :: (b_45, .cells (cellsI (rngL ((csW xs 0).length + 1) (natF (wmx (wdF (alW xs) i) [])))) 3 (0, 0)) :: (b_41, .cells (cellsH (hs.set i ⟨av8, (pairR (csW xs 0) (csW xs i)).length, c8⟩)) 77 (0, 0)) :: []) ++ MB ms)) (by rw [wmx_nil]; rfl) ?_
   refine X_rangeFuncM2 (K := []) (L := (b_69, .cells (cellsI (rngL ((csW xs 0).length + 1) (natF (cnt [])))) 3 (0, 0)) :: (b_45, .cells (cellsI (rngL ((csW xs 0).length + 1) (natF (wmx (wdF (alW xs) i) [])))) 3 (0, 0)) :: (b_41, .cells (cellsH (hs.set i ⟨av8, (pairR (csW xs 0) (csW xs i)).length, c8⟩)) 77 (0, 0)) :: []) (en1 := en1Q) (en2 := en2Q) (xs := alW xs i) (fun pre I' loc' => loc' = (b_69, .cells (cellsI (rngL ((csW xs 0).length + 1) (natF (cnt pre)))) 3 (0, 0)) :: (b_45, .cells (cellsI (rngL ((csW xs 0).length + 1) (natF (wmx (wdF (alW xs) i) pre)))) 3 (0, 0)) :: (b_41, .cells (cellsH (hs.set i ⟨av8, (pairR (csW xs 0) (csW xs i)).length, c8⟩)) 77 (0, 0)) :: []) (fun _ _ _ _ => False) (fun pre x E2 I2 loc2 => E2 = [(6, capP b_6), (8, capP b_8), (9, .int .i64 x.1)] ∧ loc2 = (b_69, .cells (cellsI (rngL ((csW xs 0).length + 1) (natF (cnt pre)))) 3 (0, 0)) :: (b_45, .cells (cellsI (rngL ((csW xs 0).length + 1) (natF (wmx (wdF (alW xs) i) pre)))) 3 (0, 0)) :: (b_41, .cells (cellsH (hs.set i ⟨av8, (pairR (csW xs 0) (csW xs i)).length, c8⟩)) 77 (0, 0)) :: []) rfl fun_55 (w_aloit hPi (by omega) (pfW_2 hrs i) hb1) rfl rfl rfl ?_ ?_ ?_ ?_
   ·
    rintro l9 pre x I1 loc1 H1 hpre hI1 rfl
    refine X_region ?_
    refine XO_v0 (ev_assign rfl) rfl rfl rfl ?_
    refine XO_nil ?_
    exact at_met' _ ⟨HLe.refl _, rfl, rfl⟩ (.cons rfl (.cons rfl (.cons rfl .nil)))
   ·
    rintro l9 pre x E2 I2 loc2 H2 hpre hI2 ⟨rfl, rfl⟩
    have hW0 := hW0.mono hI2
    have hW := hW.mono hI2
    have hH := hH.mono hI2
    have hT := hT.mono hI2
    have hC6 := hC6.mono hI2
    have hPr := hPr.mono hI2
    have hR := hR.mono hI2
    have hT7 := hT7.mono hI2
    have hP8 := hP8.mono hI2
    have hPr2 := hPr2.mono hI2
    have hPi := hPi.mono hI2
    have hC8 := hC8.mono hI2
    have hIc := hIc.trans hI2
    have hB0 := hB0.trans hI2
    obtain ⟨x1, x2, x3, x4, x5⟩ := alW_in hpre
    have hcb := Nat.le_trans (@cnt_len (alW xs i) x.1.toNat) (alW_b hrs i)
    have hnc := natF_in (f := cnt pre) (a := x.1.toNat) (B := 128) (by omega)
    refine X_block ?_
    refine X_seq (X_region ?_)
    refine XO_v0 (ev_load rfl sct_23 (fun hg => by exact hC8.any)) rfl rfl rfl ?_
    refine XO_v0 (ev_move rfl) rfl rfl rfl ?_
    refine XO_v0 (ev_indexOwn rfl rfl slt_23 (fun hg => by first | omega | (simp [conj] at hg; omega))) rfl rfl rfl ?_
    refine XO_v0 (ev_load rfl sct_3 (fun hg => by exact cellI_at (rngL_at (by omega)))) rfl rfl rfl ?_
    refine XO_v0 (ev_arB rfl rfl rfl (fun hg => by first | omega | (simp [conj] at hg; omega))) rfl rfl rfl ?_
    refine XO_v0 (ev_indexOwn rfl rfl slt_23 (fun hg => by first | omega | (simp [conj] at hg; omega))) rfl rfl rfl ?_
    refine XO_store rfl rfl szt_3 rfl rfl (by repeat (first | exact Upd.here | apply Upd.there | apply upd_app)) (bltN (by rw [rngL_len]; omega)) ?_
    refine XO_nil ?_
    rw [cellsI_setN, rngL_set, show natF (cnt pre) x.1.toNat + 1 = ((cnt pre x.1.toNat + 1 : Nat) : Int) from rfl, nat_upd, ← cnt_snoc]
    refine at_then ?_
    have hD := HLe.refl I2
    refine X_noP ?_
    refine X_drawS I2 [(b_69, .cells (cellsI (rngL ((csW xs 0).length + 1) (natF (cnt (pre ++ [x]))))) 3 (0, 0))] mixed ?_
    refine XD_take 0 rfl (ev_load rfl sct_23 (fun hg => by exact hC6.any)) (.none rfl) rfl rfl rfl (by kernel_rfl) (by kernel_rfl) (by kernel_rfl) noP_ok hD (by repeat (first | exact .refl | exact subL_nil | refine .keep ?_ | refine .drop ?_ | refine subL_add ?_)) ?_
    refine XD_take 1 rfl (ev_move rfl) (.none rfl) rfl rfl rfl (by kernel_rfl) (by kernel_rfl) (by kernel_rfl) noP_ok hD (by repeat (first | exact .refl | exact subL_nil | refine .keep ?_ | refine .drop ?_ | refine subL_add ?_)) ?_
    refine XD_take 2 rfl (ev_load rfl sct_23 (fun hg => by exact hC6.any)) (.none rfl) rfl rfl rfl (by kernel_rfl) (by kernel_rfl) (by kernel_rfl) noP_ok hD (by repeat (first | exact .refl | exact subL_nil | refine .keep ?_ | refine .drop ?_ | refine subL_add ?_)) ?_
    refine XD_take 3 rfl (ev_move rfl) (.none rfl) rfl rfl rfl (by kernel_rfl) (by kernel_rfl) (by kernel_rfl) noP_ok hD (by repeat (first | exact .refl | exact subL_nil | refine .keep ?_ | refine .drop ?_ | refine subL_add ?_)) ?_
    refine XD_take 4 rfl (ev_indexOwn rfl rfl slt_23 (fun hg => by first | omega | (simp [conj] at hg; omega))) (.none rfl) rfl rfl rfl (by kernel_rfl) (by kernel_rfl) (by kernel_rfl) noP_ok hD (by repeat (first | exact .refl | exact subL_nil | refine .keep ?_ | refine .drop ?_ | refine subL_add ?_)) ?_
    refine XD_take 6 rfl (ev_load rfl sct_23 (fun hg => by exact hC8.any)) (.none rfl) rfl rfl rfl (by kernel_rfl) (by kernel_rfl) (by kernel_rfl) noP_ok hD (by repeat (first | exact .refl | exact subL_nil | refine .keep ?_ | refine .drop ?_ | refine subL_add ?_)) ?_
    refine XD_take 7 rfl (ev_move rfl) (.none rfl) rfl rfl rfl (by kernel_rfl) (by kernel_rfl) (by kernel_rfl) noP_ok hD (by repeat (first | exact .refl | exact subL_nil | refine .keep ?_ | refine .drop ?_ | refine subL_add ?_)) ?_
    refine XD_take 8 rfl (ev_indexOwn rfl rfl slt_23 (fun hg => by first | omega | (simp [conj] at hg; omega))) (.none rfl) rfl rfl rfl (by kernel_rfl) (by kernel_rfl) (by kernel_rfl) noP_ok hD (by repeat (first | exact .refl | exact subL_nil | refine .keep ?_ | refine .drop ?_ | refine subL_add ?_)) ?_
    refine XD_take 9 rfl (ev_load rfl sct_3 (fun hg => by exact cellI_at (rngL_at (by omega)))) (.none rfl) rfl rfl rfl (by kernel_rfl) (by kernel_rfl) (by kernel_rfl) noP_ok hD (by repeat (first | exact .refl | exact subL_nil | refine .keep ?_ | refine .drop ?_ | refine subL_add ?_)) ?_
    refine XD_one 5 rfl (by kernel_rfl) ?_
    refine XO_v0 (ev_load rfl sct_3 (fun hg => by exact Cell.there (cellI_at (rngL_at (by omega))))) rfl rfl rfl ?_
    refine XO_nil ?_
    refine at_D hD (by repeat (first | exact .refl | exact subL_nil | refine .keep ?_ | refine .drop ?_ | refine subL_add ?_)) ?_
    refine XD_take 10 rfl (ev_max rfl rfl) (.none rfl) rfl rfl rfl (by kernel_rfl) (by kernel_rfl) (by kernel_rfl) noP_ok hD (by repeat (first | exact .refl | exact subL_nil | refine .keep ?_ | refine .drop ?_ | refine subL_add ?_)) ?_
    refine XD_take 11 rfl (ev_indexOwn rfl rfl slt_23 (fun hg => by first | omega | (simp [conj] at hg; omega))) (.none rfl) rfl rfl rfl (by kernel_rfl) (by kernel_rfl) (by kernel_rfl) noP_ok hD (by repeat (first | exact .refl | exact subL_nil | refine .keep ?_ | refine .drop ?_ | refine subL_add ?_)) ?_
    refine XD_one 12 rfl (by kernel_rfl) ?_
    refine XO_store rfl rfl szt_3 rfl rfl (by repeat (first | exact Upd.here | apply Upd.there | apply upd_app)) (bltN (by rw [rngL_len]; omega)) ?_
    refine XO_nil ?_
    refine at_D hD (by repeat (first | exact .refl | exact subL_nil | refine .keep ?_ | refine .drop ?_ | refine subL_add ?_)) ?_
    refine XD_done (by kernel_rfl) ?_
    refine at_noP ?_
    rw [natF_max, cellsI_setN, rngL_set, nat_upd, wmx_snoc rfl]
    refine at_block_n ?_
    exact at_round2 ⟨HLe.refl _, rfl⟩ .refl
   ·
    rintro bd I1 loc1 hI1 rfl
    have hW0 := hW0.mono hI1
    have hW := hW.mono hI1
    have hH := hH.mono hI1
    have hT := hT.mono hI1
    have hC6 := hC6.mono hI1
    have hPr := hPr.mono hI1
    have hR := hR.mono hI1
    have hT7 := hT7.mono hI1
    have hP8 := hP8.mono hI1
    have hPr2 := hPr2.mono hI1
    have hPi := hPi.mono hI1
    have hC8 := hC8.mono hI1
    have hIc := hIc.trans hI1
    have hB0 := hB0.trans hI1
    refine at_block_n ?_
    refine at_block_n ?_
    refine at_then ?_
    refine X_region ?_
    refine XO_v0 (ev_move rfl) rfl rfl rfl ?_
    refine XO_v0 (ev_arB rfl rfl rfl (fun hg => by first | omega | (simp [conj] at hg; omega))) rfl rfl rfl ?_
    refine XO_v0 (ev_assign rfl) rfl rfl rfl ?_
    refine XO_nil ?_
    exact at_metM rfl rfl rfl _ _ ⟨xs.length - (i + 1), by omega, i + 1, _, rfl, rfl, hB0, rfl, by omega, by omega, by rw [List.length_set]; exact hhl, hPr2⟩ (.cons rfl (.cons rfl (.cons rfl (.cons rfl (.cons rfl (.cons rfl .nil)))))) (by repeat (first | exact .refl | exact subL_left | refine subL_app ?_ | refine .drop ?_ | refine subL_add ?_))
   ·
    rintro c bd pre I1 loc1 hI1 hpre hF; exact hF.elim
  ·
   have hge_i : xs.length ≤ i := by have h := hc49; simp at h; omega
   obtain rfl : i = xs.length := by omega
   refine X_exit ?_
   refine at_then_e ?_
   refine at_then_e ?_
   refine at_block_hit ?_
   refine at_then ?_
   refine X_seq (X_region ?_)
   refine XO_v0 (ev_move rfl) rfl rfl rfl ?_
   refine XO_v0 (ev_lenS rfl slt_23) rfl rfl rfl ?_
   refine XO_v0 (ev_arB rfl rfl rfl (fun hg => by first | omega | (simp [conj] at hg; omega))) rfl rfl rfl ?_
   refine XO_makeSlice mkt_23 rfl rfl (by first | omega | (simp; omega)) (by decide) rfl rfl (fun b_98 => ?_)
   refine XO_alloc zt_23 rfl rfl (fun b_10 => ?_)
   refine XO_store rfl rfl szt_23 rfl rfl (by repeat (first | exact Upd.here | apply Upd.there | apply upd_app)) rfl ?_
   refine XO_nil ?_
   have e1 : (((csW xs 0).length : Nat) : Int) + 1 = (((csW xs 0).length + 1 : Nat) : Int) := rfl
   rw [e1, show (((csW xs 0).length + 1 : Nat) : Int).toNat = (csW xs 0).length + 1 from rfl, cellsI_new, rngL_zero, nat_zero, ← atK_zero (w := (wdW xs))]
   refine X_freeze (b := b_10) (by repeat (first | exact Take.here | apply Take.there)) (fun I8 hI8 hb8 => ?_)
   have hW0 := hW0.mono hI8
   have hW := hW.mono hI8
   have hH := hH.mono hI8
   have hT := hT.mono hI8
   have hC6 := hC6.mono hI8
   have hPr := hPr.mono hI8
   have hIc := hIc.trans hI8
   have hB0 := hB0.trans hI8
   have hC10 : Cell I8 [] b_10 0 (.slice (some ⟨b_98, 0, none⟩) ((csW xs 0).length + 1) ((csW xs 0).length + 1)) := .imm hb8 rfl
   refine at_then ?_
   refine X_seq (X_region ?_)
   refine XO_v0 (ev_assign rfl) rfl rfl rfl ?_
   refine XO_nil (at_then ?_)
   refine X_seq ?_
   refine X_seq (X_region ?_)
   refine XO_v0 (ev_load rfl sct_23 (fun hg => by exact hC6.any)) rfl rfl rfl ?_
   refine XO_v0 (ev_lenS rfl slt_23) rfl rfl rfl ?_
   refine XO_v0 (ev_move rfl) rfl rfl rfl ?_
   refine XO_nil (at_then ?_)
   refine X_block ?_
   refine X_loopM [(0, _), (2, _), (4, _), (5, _), (6, _), (10, _), (99, _), (100, _)] (.cons rfl (.cons rfl (.cons rfl (.cons rfl (.cons rfl (.cons rfl (.cons rfl (.cons rfl .nil)))))))) (fun T L0 mz ms E I' loc' => ∃ (k : Nat), mz = ((csW xs 0).length + 1) - k ∧ E = (11, .int .i64 ((sumF (wdW xs) k : Nat) : Int)) :: (101, .int .i64 k) :: T ∧ I8 = I' ∧ (b_98, .cells (cellsI (rngL ((csW xs 0).length + 1) (natF (atK (wdW xs) k)))) 3 (0, 0)) :: (b_45, .cells (cellsI (rngL ((csW xs 0).length + 1) (natF (wdW xs)))) 3 (0, 0)) :: (b_41, .cells (cellsH hs) 77 (0, 0)) :: MB ms = loc' ∧ k ≤ ((csW xs 0).length + 1)) _ _ _ _ ⟨0, rfl, rfl, rfl, rfl, Nat.zero_le _⟩ (.cons rfl (.cons rfl (.cons rfl (.cons rfl (.cons rfl (.cons rfl (.cons rfl (.cons rfl (.cons rfl (.cons rfl .nil)))))))))) (HLe.refl _) rfl ?_
   rintro mz ms E I' loc' ⟨k, rfl, rfl, rfl, rfl, hk⟩
   refine X_seq (X_region ?_)
   refine XO_v0 (ev_cmp rfl rfl rfl) rfl rfl rfl ?_
   refine XO_nil (at_then ?_)
   refine X_seq ?_
   refine X_cond rfl (fun hc102 => ?_) (fun hc102 => ?_)
   ·
    have hlt_k : k < ((csW xs 0).length + 1) := by have h := hc102; simp at h; omega
    have hns := natF_in (f := sumF (wdW xs)) (a := k) (B := 20000) (Nat.le_trans (sumF_le (wdF_le (alW_b hrs) _) k) (Nat.le_trans (Nat.mul_le_mul_right 129 (show k ≤ 65 by omega)) (by decide)))
    have hnw := natF_in (f := (wdW xs)) (a := k) (B := 128) (wdF_le (alW_b hrs) _ _)
    have e9 : natF (sumF (wdW xs)) k = ((sumF (wdW xs) k : Nat) : Int) := rfl
    refine X_skip ?_
    refine at_then ?_
    refine X_seq ?_
    refine X_block ?_
    refine X_seq (X_region ?_)
    refine XO_v0 (ev_move rfl) rfl rfl rfl ?_
    refine XO_v0 (ev_indexOwn rfl rfl slt_23 (fun hg => by first | omega | (simp [conj] at hg; omega))) rfl rfl rfl ?_
    refine XO_v0 (ev_load rfl sct_3 (fun hg => by exact Cell.there (cellI_at (k := k) (rngL_at (show k < _ by omega))))) rfl rfl rfl ?_
    refine XO_v0 (ev_assign rfl) rfl rfl rfl ?_
    refine XO_v0 (ev_assign rfl) rfl rfl rfl ?_
    refine XO_nil (at_then ?_)
    refine X_seq (X_region ?_)
    refine XO_v0 (ev_load rfl sct_23 (fun hg => by exact hC10.any)) rfl rfl rfl ?_
    refine XO_v0 (ev_move rfl) rfl rfl rfl ?_
    refine XO_v0 (ev_move rfl) rfl rfl rfl ?_
    refine XO_v0 (ev_indexOwn rfl rfl slt_23 (fun hg => by first | omega | (simp [conj] at hg; omega))) rfl rfl rfl ?_
    refine XO_store rfl rfl szt_3 rfl rfl (by repeat (first | exact Upd.here | apply Upd.there | apply upd_app)) (bltN (by rw [rngL_len]; omega)) ?_
    refine XO_nil ?_
    rw [cellsI_set, rngL_set, nat_upd, atK_next]
    refine at_then ?_
    refine X_region ?_
    refine XO_v0 (ev_move rfl) rfl rfl rfl ?_
    refine XO_v0 (ev_move rfl) rfl rfl rfl ?_
    refine XO_v0 (ev_arB rfl rfl rfl (fun hg => by first | omega | (simp [conj] at hg; omega))) rfl rfl rfl ?_
    refine XO_v0 (ev_arB rfl rfl rfl (fun hg => by first | omega | (simp [conj] at hg; omega))) rfl rfl rfl ?_
    refine XO_v0 (ev_assign rfl) rfl rfl rfl ?_
    refine XO_nil ?_
    refine at_block_n ?_
    refine at_then ?_
    refine X_region ?_
    refine XO_v0 (ev_arB rfl rfl rfl (fun hg => by first | omega | (simp [conj] at hg; omega))) rfl rfl rfl ?_
    refine XO_v0 (ev_move rfl) rfl rfl rfl ?_
    refine XO_nil ?_
    exact at_metM rfl rfl rfl _ _ ⟨((csW xs 0).length + 1) - (k + 1), by omega, k + 1, rfl, rfl, rfl, rfl, by omega⟩ (.cons rfl (.cons rfl (.cons rfl (.cons rfl (.cons rfl (.cons rfl (.cons rfl (.cons rfl (.cons rfl (.cons rfl .nil)))))))))) (by repeat (first | exact .refl | exact subL_left | refine subL_app ?_ | refine .drop ?_ | refine subL_add ?_))
   ·
    have hge_k : ((csW xs 0).length + 1) ≤ k := by have h := hc102; simp at h; omega
    obtain rfl : k = (csW xs 0).length + 1 := by omega
    have hsE := Nat.le_trans (sumF_le (w := wdW xs) (wdF_le (alW_b hrs) _) ((csW xs 0).length + 1)) (Nat.mul_le_mul_right 129 (show (csW xs 0).length + 1 ≤ 65 by omega))
    refine X_exit ?_
    refine at_then_e ?_
    refine at_then_e ?_
    refine at_block_hit ?_
    refine at_then ?_
    refine X_seq ?_
    refine X_seq (X_region ?_)
    refine XO_v0 (ev_move rfl) rfl rfl rfl ?_
    refine XO_v0 (ev_arB rfl rfl rfl (fun hg => by first | omega | (simp [conj] at hg; omega))) rfl rfl rfl ?_
    refine XO_v0 (ev_assign rfl) rfl rfl rfl ?_
    refine XO_nil ?_
    rw [lo_eq]
    refine at_then ?_
    refine X_seq (X_region ?_)
    refine XO_v0 (ev_move rfl) rfl rfl rfl ?_
    refine XO_v0 (ev_cmp rfl rfl rfl) rfl rfl rfl ?_
    refine XO_nil (at_then ?_)
    refine X_cond rfl (fun hc118 => ?_) (fun hc118 => ?_)
    ·
     have hbig : loW xs > 256 := by have h := hc118; simp at h; omega
     obtain ⟨t1, t2⟩ := tab_2 hc33 hbig
     refine X_seq (X_region ?_)
     refine XO_v0 (ev_assign rfl) rfl rfl rfl ?_
     refine XO_v0 (ev_assign rfl) rfl rfl rfl ?_
     refine XO_nil (at_then ?_)
     refine X_ret ?_
     refine at_then_r ?_
     first
     | exact at_retMs (L := _ :: _ :: _ :: []) (fun a ha w hw => res2 rfl rfl rfl a ha w) (fun w hw => ⟨_, I8, [], rfl, hIc, hw.drop, by rw [t1]; exact SlNTup.empty t2⟩)
    ·
     have hbig : ¬ loW xs > 256 := by have h := hc118; simp at h; omega
     obtain ⟨t1, t2⟩ := tab_3 hc33 hbig
     refine X_locEq (by rw [atK_all]) ?_
     refine X_freezeL (L := (b_98, .cells (cellsI (rngL ((csW xs 0).length + 1) (natF (sumF (wdW xs))))) 3 (0, 0)) :: (b_45, .cells (cellsI (rngL ((csW xs 0).length + 1) (natF (wdW xs)))) 3 (0, 0)) :: (b_41, .cells (cellsH hs) 77 (0, 0)) :: []) (R := MB ms) (.cons .here (.cons .here (.cons .here .nil))) (fun I10 hI10 hall => ?_)
     have hW0 := hW0.mono hI10
     have hW := hW.mono hI10
     have hH := hH.mono hI10
     have hT := hT.mono hI10
     have hC6 := hC6.mono hI10
     have hPr := hPr.mono hI10
     have hC10 := hC10.mono hI10
     have hIc := hIc.trans hI10
     have hB0 := hB0.trans hI10
     have hAt : Sl I10 1 encI (some ⟨b_98, 0, none⟩) ((csW xs 0).length + 1) ((csW xs 0).length + 1) (rngL ((csW xs 0).length + 1) (natF (sumF (wdW xs)))) := Sl.lit _ rngL_len encI_len (hall _ _ (by repeat (first | exact List.mem_cons_self .. | apply List.mem_cons_of_mem)))
     have hWd : Sl I10 1 encI (some ⟨b_45, 0, none⟩) ((csW xs 0).length + 1) ((csW xs 0).length + 1) (rngL ((csW xs 0).length + 1) (natF (wdW xs))) := Sl.lit _ rngL_len encI_len (hall _ _ (by repeat (first | exact List.mem_cons_self .. | apply List.mem_cons_of_mem)))
     have hPs : Sl I10 1 encH (some ⟨b_41, 0, none⟩) xs.length xs.length hs := Sl.lit _ hhl encH_len (hall _ _ (by repeat (first | exact List.mem_cons_self .. | apply List.mem_cons_of_mem)))
     refine X_locEq (loc' := [] ++ MB ms) rfl ?_
     refine X_skip ?_
     refine at_then ?_
     refine X_seq ?_
     refine X_seq (X_region ?_)
     refine XO_v0 (ev_move rfl) rfl rfl rfl ?_
     refine XO_v0 (ev_lenS rfl slt_35) rfl rfl rfl ?_
     refine XO_v0 (ev_move rfl) rfl rfl rfl ?_
     refine XO_nil (at_then ?_)
     refine X_block ?_
     refine X_loopM [(4, _), (5, _), (6, _), (10, _), (11, _), (119, _), (120, _)] (.cons rfl (.cons rfl (.cons rfl (.cons rfl (.cons rfl (.cons rfl (.cons rfl .nil))))))) (fun T L0 mz ms E I' loc' => ∃ (i : Nat) (v2 : Value) (os : List Hd) (L : Go.Kn.Loc), mz = xs.length - i ∧ E = (2, v2) :: (121, .int .i64 i) :: T ∧ HLe I10 I' ∧ L ++ MB ms = loc' ∧ i ≤ xs.length ∧ OwnS 23 1 v2 i (os.flatMap encH) L ∧ RelH I' os ((List.range i).map (rowW xs))) _ _ _ _ ⟨0, _, [], [], rfl, rfl, HLe.refl _, rfl, Nat.zero_le _, OwnS.nil, RelH.nil⟩ (.cons rfl (.cons rfl (.cons rfl (.cons rfl (.cons rfl (.cons rfl (.cons rfl (.cons rfl (.cons rfl .nil))))))))) (HLe.refl _) rfl ?_
     rintro mz ms E J11 loc' ⟨i, v2, os, L, rfl, rfl, hJ, rfl, hi, hO, hre⟩
     have hW0 := hW0.mono hJ
     have hW := hW.mono hJ
     have hH := hH.mono hJ
     have hT := hT.mono hJ
     have hC6 := hC6.mono hJ
     have hPr := hPr.mono hJ
     have hC10 := hC10.mono hJ
     have hAt := hAt.mono hJ
     have hWd := hWd.mono hJ
     have hPs := hPs.mono hJ
     have hIc := hIc.trans hJ
     have hB0 := hB0.trans hJ
     have hB6 := hJ
     obtain ⟨va2, vc2, rfl⟩ := valn hO
     refine X_seq (X_region ?_)
     refine XO_v0 (ev_cmp rfl rfl rfl) rfl rfl rfl ?_
     refine XO_nil (at_then ?_)
     refine X_seq ?_
     refine X_cond rfl (fun hc122 => ?_) (fun hc122 => ?_)
     ·
      have hlt_i : i < xs.length := by have h := hc122; simp at h; omega
      obtain ⟨w, x, hx, hv, e1, e2, hR⟩ := hW.at hlt_i
      have hcsi : x.rs.map codeR = csW xs i := (csW_at hv).symm
      have hMi := csW_len (i := i) hrs
      have hRl := hR.len
      have hxb := hrs x (List.mem_of_getElem? hv)
      obtain ⟨hp, hhp, hhn, hPf⟩ := hPr i hlt_i
      have hpl := (pfW_ok (xs := xs) (i := i)).2
      refine X_skip ?_
      refine at_then ?_
      refine X_seq ?_
      refine X_block ?_
      refine X_seq (X_region ?_)
      refine XO_v0 (ev_move rfl) rfl rfl rfl ?_
      refine XO_v0 (ev_indexSl rfl rfl slt_35 hH (fun hg => by first | omega | (simp [conj] at hg; omega))) rfl rfl rfl ?_
      refine XO_v0 (ev_loadA rfl agt_34 (fun hg => by exact Sl.getA hH hx) rfl) rfl rfl rfl ?_
      refine XO_alloc zt_34 rfl rfl (fun b_15 => ?_)
      refine XO_v0 (ev_assign rfl) rfl rfl rfl ?_
      refine XO_storeA rfl rfl szt_34 rfl rfl rfl rfl (by repeat (first | exact Upd.here | apply Upd.there | apply upd_app)) ?_
      refine XO_nil (at_then ?_)
      refine X_cutM [(2, _), (4, _), (5, _), (6, _), (10, _), (11, _), (14, _), (119, _), (120, _), (121, _)] (.cons rfl (.cons rfl (.cons rfl (.cons rfl (.cons rfl (.cons rfl (.cons rfl (.cons rfl (.cons rfl (.cons rfl .nil)))))))))) (fun T L0 ms E I' loc' => ∃ (b16 b17 b127 : Nat) (av17 : Option Addr) (c17 : Nat), E = (16, capP b16) :: (17, capP b17) :: T ∧ HLe J11 I' ∧ (b127, .cells (cellsI (rngL (loW xs) (fun _ => 0))) 3 (0, 0)) :: (L ++ MB ms) = loc' ∧ Cell I' [] b16 0 (.slice (some ⟨b127, 0, none⟩) (loW xs) (loW xs)) ∧ Cell I' [] b17 0 (.slice av17 (csW xs i).length c17) ∧ Sl I' 1 encI av17 (csW xs i).length c17 (csW xs i)) ?_ ?_
      ·
       have hKc30 := HLe.refl J11
       have hD := HLe.refl J11
       refine X_noP ?_
       refine X_drawS J11 [(b_15, .cells (encW w).toArray 34 (0, 0))] mixed ?_
       refine XD_take 0 rfl (ev_move rfl) (.none rfl) rfl rfl rfl (by kernel_rfl) (by kernel_rfl) (by kernel_rfl) noP_ok hD (by repeat (first | exact .refl | exact subL_nil | refine .keep ?_ | refine .drop ?_ | refine subL_add ?_)) ?_
       refine XD_take 2 rfl (ev_loadA rfl agt_34 (fun hg => by exact Cells.g0) rfl) (.none rfl) rfl rfl rfl (by kernel_rfl) (by kernel_rfl) (by kernel_rfl) noP_ok hD (by repeat (first | exact .refl | exact subL_nil | refine .keep ?_ | refine .drop ?_ | refine subL_add ?_)) ?_
       refine XD_four 1 3 4 5 rfl rfl rfl rfl (by kernel_rfl) ?_ ?_ ?_ ?_
       ·
        refine XO_makeSlice mkt_23 rfl rfl (by first | omega | (simp; omega)) (by decide) rfl rfl (fun b_127 => ?_)
        refine XO_nil ?_
        refine at_D hD (by repeat (first | exact .refl | exact subL_nil | refine .keep ?_ | refine .drop ?_ | refine subL_add ?_)) ?_
        refine XD_three 3 4 5 rfl rfl rfl (by kernel_rfl) ?_ ?_ ?_
        ·
         refine XO_callM (cap := []) (vs := [_]) rfl rfl fun_32 .nil (w_codes hR (by omega) _ _) rfl rfl ?_
         rintro vv12 I12 L12 hI12 ⟨rfl, av30, c30, rfl, hL30⟩
         have hW0 := hW0.mono hI12
         have hW := hW.mono hI12
         have hH := hH.mono hI12
         have hT := hT.mono hI12
         have hC6 := hC6.mono hI12
         have hPr := hPr.mono hI12
         have hC10 := hC10.mono hI12
         have hAt := hAt.mono hI12
         have hWd := hWd.mono hI12
         have hPs := hPs.mono hI12
         have hre := hre.mono hI12
         have hR := hR.mono hI12
         have hPf := hPf.mono hI12
         have hIc := hIc.trans hI12
         have hB0 := hB0.trans hI12
         have hB6 := hB6.trans hI12
         have hKc30 := hKc30.trans hI12
         have hD := hD.trans hI12
         rw [hcsi] at hL30 ⊢
         refine XO_nil ?_
         refine at_D hD (by repeat (first | exact .refl | exact subL_nil | refine .keep ?_ | refine .drop ?_ | refine subL_add ?_)) ?_
         refine XD_two 4 5 rfl rfl (by kernel_rfl) ?_ ?_
         ·
          refine XO_alloc zt_23 rfl rfl (fun b_16 => ?_)
          refine XO_nil ?_
          refine at_D hD (by repeat (first | exact .refl | exact subL_nil | refine .keep ?_ | refine .drop ?_ | refine subL_add ?_)) ?_
          refine XD_one 5 rfl (by kernel_rfl) ?_
          refine XO_alloc zt_23 rfl rfl (fun b_17 => ?_)
          refine XO_nil ?_
          refine at_D hD (by repeat (first | exact .refl | exact subL_nil | refine .keep ?_ | refine .drop ?_ | refine subL_add ?_)) ?_
          refine XD_one 6 rfl (by kernel_rfl) ?_
          refine XO_store rfl rfl szt_23 rfl rfl (by repeat (first | exact Upd.here | apply Upd.there | apply upd_app)) rfl ?_
          refine XO_nil ?_
          refine at_D hD (by repeat (first | exact .refl | exact subL_nil | refine .keep ?_ | refine .drop ?_ | refine subL_add ?_)) ?_
          refine XD_one 7 rfl (by kernel_rfl) ?_
          refine XO_store rfl rfl szt_23 rfl rfl (by repeat (first | exact Upd.here | apply Upd.there | apply upd_app)) rfl ?_
          refine XO_nil ?_
          refine at_D hD (by repeat (first | exact .refl | exact subL_nil | refine .keep ?_ | refine .drop ?_ | refine subL_add ?_)) ?_
          refine XD_done (by kernel_rfl) ?_
          refine at_noP ?_
          rw [show ((loW xs : Nat) : Int).toNat = loW xs from rfl, cellsI_new, rngL_zero]
          refine at_freeze (b := b_16) (by repeat (first | exact Take.here | apply Take.there)) (fun I16 h16 e16 => ?_)
          refine at_freeze (b := b_17) (by repeat (first | exact Take.here | apply Take.there)) (fun I17 h17 e17 => ?_)
          exact at_metM rfl rfl rfl _ _ ⟨b_16, b_17, b_127, _, _, rfl, (hKc30.trans h16).trans h17, rfl, .imm (h17 _ _ e16) rfl, .imm e17 rfl, (hL30.mono h16).mono h17⟩ (.cons rfl (.cons rfl (.cons rfl (.cons rfl (.cons rfl (.cons rfl (.cons rfl (.cons rfl (.cons rfl (.cons rfl (.cons rfl (.cons rfl .nil)))))))))))) (by repeat (first | exact .refl | refine .keep ?_ | refine .drop ?_))
         ·
          refine XO_alloc zt_23 rfl rfl (fun b_17 => ?_)
          refine XO_nil ?_
          refine at_D hD (by repeat (first | exact .refl | exact subL_nil | refine .keep ?_ | refine .drop ?_ | refine subL_add ?_)) ?_
          refine XD_one 4 rfl (by kernel_rfl) ?_
          refine XO_alloc zt_23 rfl rfl (fun b_16 => ?_)
          refine XO_nil ?_
          refine at_D hD (by repeat (first | exact .refl | exact subL_nil | refine .keep ?_ | refine .drop ?_ | refine subL_add ?_)) ?_
          refine XD_one 6 rfl (by kernel_rfl) ?_
          refine XO_store rfl rfl szt_23 rfl rfl (by repeat (first | exact Upd.here | apply Upd.there | apply upd_app)) rfl ?_
          refine XO_nil ?_
          refine at_D hD (by repeat (first | exact .refl | exact subL_nil | refine .keep ?_ | refine .drop ?_ | refine subL_add ?_)) ?_
          refine XD_one 7 rfl (by kernel_rfl) ?_
          refine XO_store rfl rfl szt_23 rfl rfl (by repeat (first | exact Upd.here | apply Upd.there | apply upd_app)) rfl ?_
          refine XO_nil ?_
          refine at_D hD (by repeat (first | exact .refl | exact subL_nil | refine .keep ?_ | refine .drop ?_ | refine subL_add ?_)) ?_
          refine XD_done (by kernel_rfl) ?_
          refine at_noP ?_
          rw [show ((loW xs : Nat) : Int).toNat = loW xs from rfl, cellsI_new, rngL_zero]
          refine at_freeze (b := b_16) (by repeat (first | exact Take.here | apply Take.there)) (fun I16 h16 e16 => ?_)
          refine at_freeze (b := b_17) (by repeat (first | exact Take.here | apply Take.there)) (fun I17 h17 e17 => ?_)
          exact at_metM rfl rfl rfl _ _ ⟨b_16, b_17, b_127, _, _, rfl, (hKc30.trans h16).trans h17, rfl, .imm (h17 _ _ e16) rfl, .imm e17 rfl, (hL30.mono h16).mono h17⟩ (.cons rfl (.cons rfl (.cons rfl (.cons rfl (.cons rfl (.cons rfl (.cons rfl (.cons rfl (.cons rfl (.cons rfl (.cons rfl (.cons rfl .nil)))))))))))) (by repeat (first | exact .refl | refine .keep ?_ | refine .drop ?_))
        ·
         refine XO_alloc zt_23 rfl rfl (fun b_16 => ?_)
         refine XO_nil ?_
         refine at_D hD (by repeat (first | exact .refl | exact subL_nil | refine .keep ?_ | refine .drop ?_ | refine subL_add ?_)) ?_
         refine XD_two 3 5 rfl rfl (by kernel_rfl) ?_ ?_
         ·
          refine XO_callM (cap := []) (vs := [_]) rfl rfl fun_32 .nil (w_codes hR (by omega) _ _) rfl rfl ?_
          rintro vv13 I13 L13 hI13 ⟨rfl, av30, c30, rfl, hL30⟩
          have hW0 := hW0.mono hI13
          have hW := hW.mono hI13
          have hH := hH.mono hI13
          have hT := hT.mono hI13
          have hC6 := hC6.mono hI13
          have hPr := hPr.mono hI13
          have hC10 := hC10.mono hI13
          have hAt := hAt.mono hI13
          have hWd := hWd.mono hI13
          have hPs := hPs.mono hI13
          have hre := hre.mono hI13
          have hR := hR.mono hI13
          have hPf := hPf.mono hI13
          have hIc := hIc.trans hI13
          have hB0 := hB0.trans hI13
          have hB6 := hB6.trans hI13
          have hKc30 := hKc30.trans hI13
          have hD := hD.trans hI13
          rw [hcsi] at hL30 ⊢
          refine XO_nil ?_
          refine at_D hD (by repeat (first | exact .refl | exact subL_nil | refine .keep ?_ | refine .drop ?_ | refine subL_add ?_)) ?_
          refine XD_one 5 rfl (by kernel_rfl) ?_
          refine XO_alloc zt_23 rfl rfl (fun b_17 => ?_)
          refine XO_nil ?_
          refine at_D hD (by repeat (first | exact .refl | exact subL_nil | refine .keep ?_ | refine .drop ?_ | refine subL_add ?_)) ?_
          refine XD_one 6 rfl (by kernel_rfl) ?_
          refine XO_store rfl rfl szt_23 rfl rfl (by repeat (first | exact Upd.here | apply Upd.there | apply upd_app)) rfl ?_
          refine XO_nil ?_
          refine at_D hD (by repeat (first | exact .refl | exact subL_nil | refine .keep ?_ | refine .drop ?_ | refine subL_add ?_)) ?_
          refine XD_one 7 rfl (by kernel_rfl) ?_
          refine XO_store rfl rfl szt_23 rfl rfl (by repeat (first | exact Upd.here | apply Upd.there | apply upd_app)) rfl ?_
          refine XO_nil ?_
          refine at_D hD (by repeat (first | exact .refl | exact subL_nil | refine .keep ?_ | refine .drop ?_ | refine subL_add ?_)) ?_
          refine XD_done (by kernel_rfl) ?_
          refine at_noP ?_
          rw [show ((loW xs : Nat) : Int).toNat = loW xs from rfl, cellsI_new, rngL_zero]
          refine at_freeze (b := b_16) (by repeat (first | exact Take.here | apply Take.there)) (fun I16 h16 e16 => ?_)
          refine at_freeze (b := b_17) (by repeat (first | exact Take.here | apply Take.there)) (fun I17 h17 e17 => ?_)
          exact at_metM rfl rfl rfl _ _ ⟨b_16, b_17, b_127, _, _, rfl, (hKc30.trans h16).trans h17, rfl, .imm (h17 _ _ e16) rfl, .imm e17 rfl, (hL30.mono h16).mono h17⟩ (.cons rfl (.cons rfl (.cons rfl (.cons rfl (.cons rfl (.cons rfl (.cons rfl (.cons rfl (.cons rfl (.cons rfl (.cons rfl (.cons rfl .nil)))))))))))) (by repeat (first | exact .refl | refine .keep ?_ | refine .drop ?_))
         ·
          refine XO_alloc zt_23 rfl rfl (fun b_17 => ?_)
          refine XO_nil ?_
          refine at_D hD (by repeat (first | exact .refl | exact subL_nil | refine .keep ?_ | refine .drop ?_ | refine subL_add ?_)) ?_
          refine XD_one 3 rfl (by kernel_rfl) ?_
          refine XO_callM (cap := []) (vs := [_]) rfl rfl fun_32 .nil (w_codes hR (by omega) _ _) rfl rfl ?_
          rintro vv14 I14 L14 hI14 ⟨rfl, av30, c30, rfl, hL30⟩
          have hW0 := hW0.mono hI14
          have hW := hW.mono hI14
          have hH := hH.mono hI14
          have hT := hT.mono hI14
          have hC6 := hC6.mono hI14
          have hPr := hPr.mono hI14
          have hC10 := hC10.mono hI14
          have hAt := hAt.mono hI14
          have hWd := hWd.mono hI14
          have hPs := hPs.mono hI14
          have hre := hre.mono hI14
          have hR := hR.mono hI14
          have hPf := hPf.mono hI14
          have hIc := hIc.trans hI14
          have hB0 := hB0.trans hI14
          have hB6 := hB6.trans hI14
          have hKc30 := hKc30.trans hI14
          have hD := hD.trans hI14
          rw [hcsi] at hL30 ⊢
          refine XO_nil ?_
          refine at_D hD (by repeat (first | exact .refl | exact subL_nil | refine .keep ?_ | refine .drop ?_ | refine subL_add ?_)) ?_
          refine XD_one 6 rfl (by kernel_rfl) ?_
          refine XO_store rfl rfl szt_23 rfl rfl (by repeat (first | exact Upd.here | apply Upd.there | apply upd_app)) rfl ?_
          refine XO_nil ?_
          refine at_D hD (by repeat (first | exact .refl | exact subL_nil | refine .keep ?_ | refine .drop ?_ | refine subL_add ?_)) ?_
          refine XD_one 7 rfl (by kernel_rfl) ?_
          refine XO_store rfl rfl szt_23 rfl rfl (by repeat (first | exact Upd.here | apply Upd.there | apply upd_app)) rfl ?_
          refine XO_nil ?_
          refine at_D hD (by repeat (first | exact .refl | exact subL_nil | refine .keep ?_ | refine .drop ?_ | refine subL_add ?_)) ?_
          refine XD_done (by kernel_rfl) ?_
          refine at_noP ?_
          rw [show ((loW xs : Nat) : Int).toNat = loW xs from rfl, cellsI_new, rngL_zero]
          refine at_freeze (b := b_16) (by repeat (first | exact Take.here | apply Take.there)) (fun I16 h16 e16 => ?_)
          refine at_freeze (b := b_17) (by repeat (first | exact Take.here | apply Take.there)) (fun I17 h17 e17 => ?_)
          exact at_metM rfl rfl rfl _ _ ⟨b_16, b_17, b_127, _, _, rfl, (hKc30.trans h16).trans h17, rfl, .imm (h17 _ _ e16) rfl, .imm e17 rfl, (hL30.mono h16).mono h17⟩ (.cons rfl (.cons rfl (.cons rfl (.cons rfl (.cons rfl (.cons rfl (.cons rfl (.cons rfl (.cons rfl (.cons rfl (.cons rfl (.cons rfl .nil)))))))))))) (by repeat (first | exact .refl | refine .keep ?_ | refine .drop ?_))
        ·
         refine XO_alloc zt_23 rfl rfl (fun b_17 => ?_)
         refine XO_nil ?_
         refine at_D hD (by repeat (first | exact .refl | exact subL_nil | refine .keep ?_ | refine .drop ?_ | refine subL_add ?_)) ?_
         refine XD_two 3 4 rfl rfl (by kernel_rfl) ?_ ?_
         ·
          refine XO_callM (cap := []) (vs := [_]) rfl rfl fun_32 .nil (w_codes hR (by omega) _ _) rfl rfl ?_
          rintro vv15 I15 L15 hI15 ⟨rfl, av30, c30, rfl, hL30⟩
          have hW0 := hW0.mono hI15
          have hW := hW.mono hI15
          have hH := hH.mono hI15
          have hT := hT.mono hI15
          have hC6 := hC6.mono hI15
          have hPr := hPr.mono hI15
          have hC10 := hC10.mono hI15
          have hAt := hAt.mono hI15
          have hWd := hWd.mono hI15
          have hPs := hPs.mono hI15
          have hre := hre.mono hI15
          have hR := hR.mono hI15
          have hPf := hPf.mono hI15
          have hIc := hIc.trans hI15
          have hB0 := hB0.trans hI15
          have hB6 := hB6.trans hI15
          have hKc30 := hKc30.trans hI15
          have hD := hD.trans hI15
          rw [hcsi] at hL30 ⊢
          refine XO_nil ?_
          refine at_D hD (by repeat (first | exact .refl | exact subL_nil | refine .keep ?_ | refine .drop ?_ | refine subL_add ?_)) ?_
          refine XD_one 4 rfl (by kernel_rfl) ?_
          refine XO_alloc zt_23 rfl rfl (fun b_16 => ?_)
          refine XO_nil ?_
          refine at_D hD (by repeat (first | exact .refl | exact subL_nil | refine .keep ?_ | refine .drop ?_ | refine subL_add ?_)) ?_
          refine XD_one 6 rfl (by kernel_rfl) ?_
          refine XO_store rfl rfl szt_23 rfl rfl (by repeat (first | exact Upd.here | apply Upd.there | apply upd_app)) rfl ?_
          refine XO_nil ?_
          refine at_D hD (by repeat (first | exact .refl | exact subL_nil | refine .keep ?_ | refine .drop ?_ | refine subL_add ?_)) ?_
          refine XD_one 7 rfl (by kernel_rfl) ?_
          refine XO_store rfl rfl szt_23 rfl rfl (by repeat (first | exact Upd.here | apply Upd.there | apply upd_app)) rfl ?_
          refine XO_nil ?_
          refine at_D hD (by repeat (first | exact .refl | exact subL_nil | refine .keep ?_ | refine .drop ?_ | refine subL_add ?_)) ?_
          refine XD_done (by kernel_rfl) ?_
          refine at_noP ?_
          rw [show ((loW xs : Nat) : Int).toNat = loW xs from rfl, cellsI_new, rngL_zero]
          refine at_freeze (b := b_16) (by repeat (first | exact Take.here | apply Take.there)) (fun I16 h16 e16 => ?_)
          refine at_freeze (b := b_17) (by repeat (first | exact Take.here | apply Take.there)) (fun I17 h17 e17 => ?_)
          exact at_metM rfl rfl rfl _ _ ⟨b_16, b_17, b_127, _, _, rfl, (hKc30.trans h16).trans h17, rfl, .imm (h17 _ _ e16) rfl, .imm e17 rfl, (hL30.mono h16).mono h17⟩ (.cons rfl (.cons rfl (.cons rfl (.cons rfl (.cons rfl (.cons rfl (.cons rfl (.cons rfl (.cons rfl (.cons rfl (.cons rfl (.cons rfl .nil)))))))))))) (by repeat (first | exact .refl | refine .keep ?_ | refine .drop ?_))
         ·
          refine XO_alloc zt_23 rfl rfl (fun b_16 => ?_)
          refine XO_nil ?_
          refine at_D hD (by repeat (first | exact .refl | exact subL_nil | refine .keep ?_ | refine .drop ?_ | refine subL_add ?_)) ?_
          refine XD_one 3 rfl (by kernel_rfl) ?_
          refine XO_callM (cap := []) (vs := [_]) rfl rfl fun_32 .nil (w_codes hR (by omega) _ _) rfl rfl ?_
          rintro vv16 I16 L16 hI16 ⟨rfl, av30, c30, rfl, hL30⟩
          have hW0 := hW0.mono hI16
          have hW := hW.mono hI16
          have hH := hH.mono hI16
          have hT := hT.mono hI16
          have hC6 := hC6.mono hI16
          have hPr := hPr.mono hI16
          have hC10 := hC10.mono hI16
          have hAt := hAt.mono hI16
          have hWd := hWd.mono hI16
          have hPs := hPs.mono hI16
          have hre := hre.mono hI16
          have hR := hR.mono hI16
          have hPf := hPf.mono hI16
          have hIc := hIc.trans hI16
          have hB0 := hB0.trans hI16
          have hB6 := hB6.trans hI16
          have hKc30 := hKc30.trans hI16
          have hD := hD.trans hI16
          rw [hcsi] at hL30 ⊢
          refine XO_nil ?_
          refine at_D hD (by repeat (first | exact .refl | exact subL_nil | refine .keep ?_ | refine .drop ?_ | refine subL_add ?_)) ?_
          refine XD_one 6 rfl (by kernel_rfl) ?_
          refine XO_store rfl rfl szt_23 rfl rfl (by repeat (first | exact Upd.here | apply Upd.there | apply upd_app)) rfl ?_
          refine XO_nil ?_
          refine at_D hD (by repeat (first | exact .refl | exact subL_nil | refine .keep ?_ | refine .drop ?_ | refine subL_add ?_)) ?_
          refine XD_one 7 rfl (by kernel_rfl) ?_
          refine XO_store rfl rfl szt_23 rfl rfl (by repeat (first | exact Upd.here | apply Upd.there | apply upd_app)) rfl ?_
          refine XO_nil ?_
          refine at_D hD (by repeat (first | exact .refl | exact subL_nil | refine .keep ?_ | refine .drop ?_ | refine subL_add ?_)) ?_
          refine XD_done (by kernel_rfl) ?_
          refine at_noP ?_
          rw [show ((loW xs : Nat) : Int).toNat = loW xs from rfl, cellsI_new, rngL_zero]
          refine at_freeze (b := b_16) (by repeat (first | exact Take.here | apply Take.there)) (fun I16 h16 e16 => ?_)
          refine at_freeze (b := b_17) (by repeat (first | exact Take.here | apply Take.there)) (fun I17 h17 e17 => ?_)
          exact at_metM rfl rfl rfl _ _ ⟨b_16, b_17, b_127, _, _, rfl, (hKc30.trans h16).trans h17, rfl, .imm (h17 _ _ e16) rfl, .imm e17 rfl, (hL30.mono h16).mono h17⟩ (.cons rfl (.cons rfl (.cons rfl (.cons rfl (.cons rfl (.cons rfl (.cons rfl (.cons rfl (.cons rfl (.cons rfl (.cons rfl (.cons rfl .nil)))))))))))) (by repeat (first | exact .refl | refine .keep ?_ | refine .drop ?_))
       ·
        refine XO_callM (cap := []) (vs := [_]) rfl rfl fun_32 .nil (w_codes hR (by omega) _ _) rfl rfl ?_
        rintro vv17 I17 L17 hI17 ⟨rfl, av30, c30, rfl, hL30⟩
        have hW0 := hW0.mono hI17
        have hW := hW.mono hI17
        have hH := hH.mono hI17
        have hT := hT.mono hI17
        have hC6 := hC6.mono hI17
        have hPr := hPr.mono hI17
        have hC10 := hC10.mono hI17
        have hAt := hAt.mono hI17
        have hWd := hWd.mono hI17
        have hPs := hPs.mono hI17
        have hre := hre.mono hI17
        have hR := hR.mono hI17
        have hPf := hPf.mono hI17
        have hIc := hIc.trans hI17
        have hB0 := hB0.trans hI17
        have hB6 := hB6.trans hI17
        have hKc30 := hKc30.trans hI17
        have hD := hD.trans hI17
        rw [hcsi] at hL30 ⊢
        refine XO_nil ?_
        refine at_D hD (by repeat (first | exact .refl | exact subL_nil | refine .keep ?_ | refine .drop ?_ | refine subL_add ?_)) ?_
        refine XD_three 1 4 5 rfl rfl rfl (by kernel_rfl) ?_ ?_ ?_
        ·
         refine XO_makeSlice mkt_23 rfl rfl (by first | omega | (simp; omega)) (by decide) rfl rfl (fun b_127 => ?_)
         refine XO_nil ?_
         refine at_D hD (by repeat (first | exact .refl | exact subL_nil | refine .keep ?_ | refine .drop ?_ | refine subL_add ?_)) ?_
         refine XD_two 4 5 rfl rfl (by kernel_rfl) ?_ ?_
         ·
          refine XO_alloc zt_23 rfl rfl (fun b_16 => ?_)
          refine XO_nil ?_
          refine at_D hD (by repeat (first | exact .refl | exact subL_nil | refine .keep ?_ | refine .drop ?_ | refine subL_add ?_)) ?_
          refine XD_one 5 rfl (by kernel_rfl) ?_
          refine XO_alloc zt_23 rfl rfl (fun b_17 => ?_)
          refine XO_nil ?_
          refine at_D hD (by repeat (first | exact .refl | exact subL_nil | refine .keep ?_ | refine .drop ?_ | refine subL_add ?_)) ?_
          refine XD_one 6 rfl (by kernel_rfl) ?_
          refine XO_store rfl rfl szt_23 rfl rfl (by repeat (first | exact Upd.here | apply Upd.there | apply upd_app)) rfl ?_
          refine XO_nil ?_
          refine at_D hD (by repeat (first | exact .refl | exact subL_nil | refine .keep ?_ | refine .drop ?_ | refine subL_add ?_)) ?_
          refine XD_one 7 rfl (by kernel_rfl) ?_
          refine XO_store rfl rfl szt_23 rfl rfl (by repeat (first | exact Upd.here | apply Upd.there | apply upd_app)) rfl ?_
          refine XO_nil ?_
          refine at_D hD (by repeat (first | exact .refl | exact subL_nil | refine .keep ?_ | refine .drop ?_ | refine subL_add ?_)) ?_
          refine XD_done (by kernel_rfl) ?_
          refine at_noP ?_
          rw [show ((loW xs : Nat) : Int).toNat = loW xs from rfl, cellsI_new, rngL_zero]
          refine at_freeze (b := b_16) (by repeat (first | exact Take.here | apply Take.there)) (fun I16 h16 e16 => ?_)
          refine at_freeze (b := b_17) (by repeat (first | exact Take.here | apply Take.there)) (fun I17 h17 e17 => ?_)
          exact at_metM rfl rfl rfl _ _ ⟨b_16, b_17, b_127, _, _, rfl, (hKc30.trans h16).trans h17, rfl, .imm (h17 _ _ e16) rfl, .imm e17 rfl, (hL30.mono h16).mono h17⟩ (.cons rfl (.cons rfl (.cons rfl (.cons rfl (.cons rfl (.cons rfl (.cons rfl (.cons rfl (.cons rfl (.cons rfl (.cons rfl (.cons rfl .nil)))))))))))) (by repeat (first | exact .refl | refine .keep ?_ | refine .drop ?_))
         ·
          refine XO_alloc zt_23 rfl rfl (fun b_17 => ?_)
          refine XO_nil ?_
          refine at_D hD (by repeat (first | exact .refl | exact subL_nil | refine .keep ?_ | refine .drop ?_ | refine subL_add ?_)) ?_
          refine XD_one 4 rfl (by kernel_rfl) ?_
          refine XO_alloc zt_23 rfl rfl (fun b_16 => ?_)
          refine XO_nil ?_
          refine at_D hD (by repeat (first | exact .refl | exact subL_nil | refine .keep ?_ | refine .drop ?_ | refine subL_add ?_)) ?_
          refine XD_one 6 rfl (by kernel_rfl) ?_
          refine XO_store rfl rfl szt_23 rfl rfl (by repeat (first | exact Upd.here | apply Upd.there | apply upd_app)) rfl ?_
          refine XO_nil ?_
          refine at_D hD (by repeat (first | exact .refl | exact subL_nil | refine .keep ?_ | refine .drop ?_ | refine subL_add ?_)) ?_
          refine XD_one 7 rfl (by kernel_rfl) ?_
          refine XO_store rfl rfl szt_23 rfl rfl (by repeat (first | exact Upd.here | apply Upd.there | apply upd_app)) rfl ?_
          refine XO_nil ?_
          refine at_D hD (by repeat (first | exact .refl | exact subL_nil | refine .keep ?_ | refine .drop ?_ | refine subL_add ?_)) ?_
          refine XD_done (by kernel_rfl) ?_
          refine at_noP ?_
          rw [show ((loW xs : Nat) : Int).toNat = loW xs from rfl, cellsI_new, rngL_zero]
          refine at_freeze (b := b_16) (by repeat (first | exact Take.here | apply Take.there)) (fun I16 h16 e16 => ?_)
          refine at_freeze (b := b_17) (by repeat (first | exact Take.here | apply Take.there)) (fun I17 h17 e17 => ?_)
          exact at_metM rfl rfl rfl _ _ ⟨b_16, b_17, b_127, _, _, rfl, (hKc30.trans h16).trans h17, rfl, .imm (h17 _ _ e16) rfl, .imm e17 rfl, (hL30.mono h16).mono h17⟩ (.cons rfl (.cons rfl (.cons rfl (.cons rfl (.cons rfl (.cons rfl (.cons rfl (.cons rfl (.cons rfl (.cons rfl (.cons rfl (.cons rfl .nil)))))))))))) (by repeat (first | exact .refl | refine .keep ?_ | refine .drop ?_))
        ·
         refine XO_alloc zt_23 rfl rfl (fun b_16 => ?_)
         refine XO_nil ?_
         refine at_D hD (by repeat (first | exact .refl | exact subL_nil | refine .keep ?_ | refine .drop ?_ | refine subL_add ?_)) ?_
         refine XD_two 1 5 rfl rfl (by kernel_rfl) ?_ ?_
         ·
          refine XO_makeSlice mkt_23 rfl rfl (by first | omega | (simp; omega)) (by decide) rfl rfl (fun b_127 => ?_)
          refine XO_nil ?_
          refine at_D hD (by repeat (first | exact .refl | exact subL_nil | refine .keep ?_ | refine .drop ?_ | refine subL_add ?_)) ?_
          refine XD_one 5 rfl (by kernel_rfl) ?_
          refine XO_alloc zt_23 rfl rfl (fun b_17 => ?_)
          refine XO_nil ?_
          refine at_D hD (by repeat (first | exact .refl | exact subL_nil | refine .keep ?_ | refine .drop ?_ | refine subL_add ?_)) ?_
          refine XD_one 6 rfl (by kernel_rfl) ?_
          refine XO_store rfl rfl szt_23 rfl rfl (by repeat (first | exact Upd.here | apply Upd.there | apply upd_app)) rfl ?_
          refine XO_nil ?_
          refine at_D hD (by repeat (first | exact .refl | exact subL_nil | refine .keep ?_ | refine .drop ?_ | refine subL_add ?_)) ?_
          refine XD_one 7 rfl (by kernel_rfl) ?_
          refine XO_store rfl rfl szt_23 rfl rfl (by repeat (first | exact Upd.here | apply Upd.there | apply upd_app)) rfl ?_
          refine XO_nil ?_
          refine at_D hD (by repeat (first | exact .refl | exact subL_nil | refine .keep ?_ | refine .drop ?_ | refine subL_add ?_)) ?_
          refine XD_done (by kernel_rfl) ?_
          refine at_noP ?_
          rw [show ((loW xs : Nat) : Int).toNat = loW xs from rfl, cellsI_new, rngL_zero]
          refine at_freeze (b := b_16) (by repeat (first | exact Take.here | apply Take.there)) (fun I16 h16 e16 => ?_)
          refine at_freeze (b := b_17) (by repeat (first | exact Take.here | apply Take.there)) (fun I17 h17 e17 => ?_)
          exact at_metM rfl rfl rfl _ _ ⟨b_16, b_17, b_127, _, _, rfl, (hKc30.trans h16).trans h17, rfl, .imm (h17 _ _ e16) rfl, .imm e17 rfl, (hL30.mono h16).mono h17⟩ (.cons rfl (.cons rfl (.cons rfl (.cons rfl (.cons rfl (.cons rfl (.cons rfl (.cons rfl (.cons rfl (.cons rfl (.cons rfl (.cons rfl .nil)))))))))))) (by repeat (first | exact .refl | refine .keep ?_ | refine .drop ?_))
         ·
          refine XO_alloc zt_23 rfl rfl (fun b_17 => ?_)
          refine XO_nil ?_
          refine at_D hD (by repeat (first | exact .refl | exact subL_nil | refine .keep ?_ | refine .drop ?_ | refine subL_add ?_)) ?_
          refine XD_one 1 rfl (by kernel_rfl) ?_
          refine XO_makeSlice mkt_23 rfl rfl (by first | omega | (simp; omega)) (by decide) rfl rfl (fun b_127 => ?_)
          refine XO_nil ?_
          refine at_D hD (by repeat (first | exact .refl | exact subL_nil | refine .keep ?_ | refine .drop ?_ | refine subL_add ?_)) ?_
          refine XD_one 6 rfl (by kernel_rfl) ?_
          refine XO_store rfl rfl szt_23 rfl rfl (by repeat (first | exact Upd.here | apply Upd.there | apply upd_app)) rfl ?_
          refine XO_nil ?_
          refine at_D hD (by repeat (first | exact .refl | exact subL_nil | refine .keep ?_ | refine .drop ?_ | refine subL_add ?_)) ?_
          refine XD_one 7 rfl (by kernel_rfl) ?_
          refine XO_store rfl rfl szt_23 rfl rfl (by repeat (first | exact Upd.here | apply Upd.there | apply upd_app)) rfl ?_
          refine XO_nil ?_
          refine at_D hD (by repeat (first | exact .refl | exact subL_nil | refine .keep ?_ | refine .drop ?_ | refine subL_add ?_)) ?_
          refine XD_done (by kernel_rfl) ?_
          refine at_noP ?_
          rw [show ((loW xs : Nat) : Int).toNat = loW xs from rfl, cellsI_new, rngL_zero]
          refine at_freeze (b := b_16) (by repeat (first | exact Take.here | apply Take.there)) (fun I16 h16 e16 => ?_)
          refine at_freeze (b := b_17) (by repeat (first | exact Take.here | apply Take.there)) (fun I17 h17 e17 => ?_)
          exact at_metM rfl rfl rfl _ _ ⟨b_16, b_17, b_127, _, _, rfl, (hKc30.trans h16).trans h17, rfl, .imm (h17 _ _ e16) rfl, .imm e17 rfl, (hL30.mono h16).mono h17⟩ (.cons rfl (.cons rfl (.cons rfl (.cons rfl (.cons rfl (.cons rfl (.cons rfl (.cons rfl (.cons rfl (.cons rfl (.cons rfl (.cons rfl .nil)))))))))))) (by repeat (first | exact .refl | refine .keep ?_ | refine .drop ?_))
        ·
         refine XO_alloc zt_23 rfl rfl (fun b_17 => ?_)
         refine XO_nil ?_
         refine at_D hD (by repeat (first | exact .refl | exact subL_nil | refine .keep ?_ | refine .drop ?_ | refine subL_add ?_)) ?_
         refine XD_two 1 4 rfl rfl (by kernel_rfl) ?_ ?_
         ·
          refine XO_makeSlice mkt_23 rfl rfl (by first | omega | (simp; omega)) (by decide) rfl rfl (fun b_127 => ?_)
          refine XO_nil ?_
          refine at_D hD (by repeat (first | exact .refl | exact subL_nil | refine .keep ?_ | refine .drop ?_ | refine subL_add ?_)) ?_
          refine XD_one 4 rfl (by kernel_rfl) ?_
          refine XO_alloc zt_23 rfl rfl (fun b_16 => ?_)
          refine XO_nil ?_
          refine at_D hD (by repeat (first | exact .refl | exact subL_nil | refine .keep ?_ | refine .drop ?_ | refine subL_add ?_)) ?_
          refine XD_one 6 rfl (by kernel_rfl) ?_
          refine XO_store rfl rfl szt_23 rfl rfl (by repeat (first | exact Upd.here | apply Upd.there | apply upd_app)) rfl ?_
          refine XO_nil ?_
          refine at_D hD (by repeat (first | exact .refl | exact subL_nil | refine .keep ?_ | refine .drop ?_ | refine subL_add ?_)) ?_
          refine XD_one 7 rfl (by kernel_rfl) ?_
          refine XO_store rfl rfl szt_23 rfl rfl (by repeat (first | exact Upd.here | apply Upd.there | apply upd_app)) rfl ?_
          refine XO_nil ?_
          refine at_D hD (by repeat (first | exact .refl | exact subL_nil | refine .keep ?_ | refine .drop ?_ | refine subL_add ?_)) ?_
          refine XD_done (by kernel_rfl) ?_
          refine at_noP ?_
          rw [show ((loW xs : Nat) : Int).toNat = loW xs from rfl, cellsI_new, rngL_zero]
          refine at_freeze (b := b_16) (by repeat (first | exact Take.here | apply Take.there)) (fun I16 h16 e16 => ?_)
          refine at_freeze (b := b_17) (by repeat (first | exact Take.here | apply Take.there)) (fun I17 h17 e17 => ?_)
          exact at_metM rfl rfl rfl _ _ ⟨b_16, b_17, b_127, _, _, rfl, (hKc30.trans h16).trans h17, rfl, .imm (h17 _ _ e16) rfl, .imm e17 rfl, (hL30.mono h16).mono h17⟩ (.cons rfl (.cons rfl (.cons rfl (.cons rfl (.cons rfl (.cons rfl (.cons rfl (.cons rfl (.cons rfl (.cons rfl (.cons rfl (.cons rfl .nil)))))))))))) (by repeat (first | exact .refl | refine .keep ?_ | refine .drop ?_))
         ·
          refine XO_alloc zt_23 rfl rfl (fun b_16 => ?_)
          refine XO_nil ?_
          refine at_D hD (by repeat (first | exact .refl | exact subL_nil | refine .keep ?_ | refine .drop ?_ | refine subL_add ?_)) ?_
          refine XD_one 1 rfl (by kernel_rfl) ?_
          refine XO_makeSlice mkt_23 rfl rfl (by first | omega | (simp; omega)) (by decide) rfl rfl (fun b_127 => ?_)
          refine XO_nil ?_
          refine at_D hD (by repeat (first | exact .refl | exact subL_nil | refine .keep ?_ | refine .drop ?_ | refine subL_add ?_)) ?_
          refine XD_one 6 rfl (by kernel_rfl) ?_
          refine XO_store rfl rfl szt_23 rfl rfl (by repeat (first | exact Upd.here | apply Upd.there | apply upd_app)) rfl ?_
          refine XO_nil ?_
          refine at_D hD (by repeat (first | exact .refl | exact subL_nil | refine .keep ?_ | refine .drop ?_ | refine subL_add ?_)) ?_
          refine XD_one 7 rfl (by kernel_rfl) ?_
          refine XO_store rfl rfl szt_23 rfl rfl (by repeat (first | exact Upd.here | apply Upd.there | apply upd_app)) rfl ?_
          refine XO_nil ?_
          refine at_D hD (by repeat (first | exact .refl | exact subL_nil | refine .keep ?_ | refine .drop ?_ | refine subL_add ?_)) ?_
          refine XD_done (by kernel_rfl) ?_
          refine at_noP ?_
          rw [show ((loW xs : Nat) : Int).toNat = loW xs from rfl, cellsI_new, rngL_zero]
          refine at_freeze (b := b_16) (by repeat (first | exact Take.here | apply Take.there)) (fun I16 h16 e16 => ?_)
          refine at_freeze (b := b_17) (by repeat (first | exact Take.here | apply Take.there)) (fun I17 h17 e17 => ?_)
          exact at_metM rfl rfl rfl _ _ ⟨b_16, b_17, b_127, _, _, rfl, (hKc30.trans h16).trans h17, rfl, .imm (h17 _ _ e16) rfl, .imm e17 rfl, (hL30.mono h16).mono h17⟩ (.cons rfl (.cons rfl (.cons rfl (.cons rfl (.cons rfl (.cons rfl (.cons rfl (.cons rfl (.cons rfl (.cons rfl (.cons rfl (.cons rfl .nil)))))))))))) (by repeat (first | exact .refl | refine .keep ?_ | refine .drop ?_))
       ·
        refine XO_alloc zt_23 rfl rfl (fun b_16 => ?_)
        refine XO_nil ?_
        refine at_D hD (by repeat (first | exact .refl | exact subL_nil | refine .keep ?_ | refine .drop ?_ | refine subL_add ?_)) ?_
        refine XD_three 1 3 5 rfl rfl rfl (by kernel_rfl) ?_ ?_ ?_
        ·
         refine XO_makeSlice mkt_23 rfl rfl (by first | omega | (simp; omega)) (by decide) rfl rfl (fun b_127 => ?_)
         refine XO_nil ?_
         refine at_D hD (by repeat (first | exact .refl | exact subL_nil | refine .keep ?_ | refine .drop ?_ | refine subL_add ?_)) ?_
         refine XD_two 3 5 rfl rfl (by kernel_rfl) ?_ ?_
         ·
          refine XO_callM (cap := []) (vs := [_]) rfl rfl fun_32 .nil (w_codes hR (by omega) _ _) rfl rfl ?_
          rintro vv18 I18 L18 hI18 ⟨rfl, av30, c30, rfl, hL30⟩
          have hW0 := hW0.mono hI18
          have hW := hW.mono hI18
          have hH := hH.mono hI18
          have hT := hT.mono hI18
          have hC6 := hC6.mono hI18
          have hPr := hPr.mono hI18
          have hC10 := hC10.mono hI18
          have hAt := hAt.mono hI18
          have hWd := hWd.mono hI18
          have hPs := hPs.mono hI18
          have hre := hre.mono hI18
          have hR := hR.mono hI18
          have hPf := hPf.mono hI18
          have hIc := hIc.trans hI18
          have hB0 := hB0.trans hI18
          have hB6 := hB6.trans hI18
          have hKc30 := hKc30.trans hI18
          have hD := hD.trans hI18
          rw [hcsi] at hL30 ⊢
          refine XO_nil ?_
          refine at_D hD (by repeat (first | exact .refl | exact subL_nil | refine .keep ?_ | refine .drop ?_ | refine subL_add ?_)) ?_
          refine XD_one 5 rfl (by kernel_rfl) ?_
          refine XO_alloc zt_23 rfl rfl (fun b_17 => ?_)
          refine XO_nil ?_
          refine at_D hD (by repeat (first | exact .refl | exact subL_nil | refine .keep ?_ | refine .drop ?_ | refine subL_add ?_)) ?_
          refine XD_one 6 rfl (by kernel_rfl) ?_
          refine XO_store rfl rfl szt_23 rfl rfl (by repeat (first | exact Upd.here | apply Upd.there | apply upd_app)) rfl ?_
          refine XO_nil ?_
          refine at_D hD (by repeat (first | exact .refl | exact subL_nil | refine .keep ?_ | refine .drop ?_ | refine subL_add ?_)) ?_
          refine XD_one 7 rfl (by kernel_rfl) ?_
          refine XO_store rfl rfl szt_23 rfl rfl (by repeat (first | exact Upd.here | apply Upd.there | apply upd_app)) rfl ?_
          refine XO_nil ?_
          refine at_D hD (by repeat (first | exact .refl | exact subL_nil | refine .keep ?_ | refine .drop ?_ | refine subL_add ?_)) ?_
          refine XD_done (by kernel_rfl) ?_
          refine at_noP ?_
          rw [show ((loW xs : Nat) : Int).toNat = loW xs from rfl, cellsI_new, rngL_zero]
          refine at_freeze (b := b_16) (by repeat (first | exact Take.here | apply Take.there)) (fun I16 h16 e16 => ?_)
          refine at_freeze (b := b_17) (by repeat (first | exact Take.here | apply Take.there)) (fun I17 h17 e17 => ?_)
          exact at_metM rfl rfl rfl _ _ ⟨b_16, b_17, b_127, _, _, rfl, (hKc30.trans h16).trans h17, rfl, .imm (h17 _ _ e16) rfl, .imm e17 rfl, (hL30.mono h16).mono h17⟩ (.cons rfl (.cons rfl (.cons rfl (.cons rfl (.cons rfl (.cons rfl (.cons rfl (.cons rfl (.cons rfl (.cons rfl (.cons rfl (.cons rfl .nil)))))))))))) (by repeat (first | exact .refl | refine .keep ?_ | refine .drop ?_))
         ·
          refine XO_alloc zt_23 rfl rfl (fun b_17 => ?_)
          refine XO_nil ?_
          refine at_D hD (by repeat (first | exact .refl | exact subL_nil | refine .keep ?_ | refine .drop ?_ | refine subL_add ?_)) ?_
          refine XD_one 3 rfl (by kernel_rfl) ?_
          refine XO_callM (cap := []) (vs := [_]) rfl rfl fun_32 .nil (w_codes hR (by omega) _ _) rfl rfl ?_
          rintro vv19 I19 L19 hI19 ⟨rfl, av30, c30, rfl, hL30⟩
          have hW0 := hW0.mono hI19
          have hW := hW.mono hI19
          have hH := hH.mono hI19
          have hT := hT.mono hI19
          have hC6 := hC6.mono hI19
          have hPr := hPr.mono hI19
          have hC10 := hC10.mono hI19
          have hAt := hAt.mono hI19
          have hWd := hWd.mono hI19
          have hPs := hPs.mono hI19
          have hre := hre.mono hI19
          have hR := hR.mono hI19
          have hPf := hPf.mono hI19
          have hIc := hIc.trans hI19
          have hB0 := hB0.trans hI19
          have hB6 := hB6.trans hI19
          have hKc30 := hKc30.trans hI19
          have hD := hD.trans hI19
          rw [hcsi] at hL30 ⊢
          refine XO_nil ?_
          refine at_D hD (by repeat (first | exact .refl | exact subL_nil | refine .keep ?_ | refine .drop ?_ | refine subL_add ?_)) ?_
          refine XD_one 6 rfl (by kernel_rfl) ?_
          refine XO_store rfl rfl szt_23 rfl rfl (by repeat (first | exact Upd.here | apply Upd.there | apply upd_app)) rfl ?_
          refine XO_nil ?_
          refine at_D hD (by repeat (first | exact .refl | exact subL_nil | refine .keep ?_ | refine .drop ?_ | refine subL_add ?_)) ?_
          refine XD_one 7 rfl (by kernel_rfl) ?_
          refine XO_store rfl rfl szt_23 rfl rfl (by repeat (first | exact Upd.here | apply Upd.there | apply upd_app)) rfl ?_
          refine XO_nil ?_
          refine at_D hD (by repeat (first | exact .refl | exact subL_nil | refine .keep ?_ | refine .drop ?_ | refine subL_add ?_)) ?_
          refine XD_done (by kernel_rfl) ?_
          refine at_noP ?_
          rw [show ((loW xs : Nat) : Int).toNat = loW xs from rfl, cellsI_new, rngL_zero]
          refine at_freeze (b := b_16) (by repeat (first | exact Take.here | apply Take.there)) (fun I16 h16 e16 => ?_)
          refine at_freeze (b := b_17) (by repeat (first | exact Take.here | apply Take.there)) (fun I17 h17 e17 => ?_)
          exact at_metM rfl rfl rfl _ _ ⟨b_16, b_17, b_127, _, _, rfl, (hKc30.trans h16).trans h17, rfl, .imm (h17 _ _ e16) rfl, .imm e17 rfl, (hL30.mono h16).mono h17⟩ (.cons rfl (.cons rfl (.cons rfl (.cons rfl (.cons rfl (.cons rfl (.cons rfl (.cons rfl (.cons rfl (.cons rfl (.cons rfl (.cons rfl .nil)))))))))))) (by repeat (first | exact .refl | refine .keep ?_ | refine .drop ?_))
        ·
         refine XO_callM (cap := []) (vs := [_]) rfl rfl fun_32 .nil (w_codes hR (by omega) _ _) rfl rfl ?_
         rintro vv20 I20 L20 hI20 ⟨rfl, av30, c30, rfl, hL30⟩
         have hW0 := hW0.mono hI20
         have hW := hW.mono hI20
         have hH := hH.mono hI20
         have hT := hT.mono hI20
         have hC6 := hC6.mono hI20
         have hPr := hPr.mono hI20
         have hC10 := hC10.mono hI20
         have hAt := hAt.mono hI20
         have hWd := hWd.mono hI20
         have hPs := hPs.mono hI20
         have hre := hre.mono hI20
         have hR := hR.mono hI20
         have hPf := hPf.mono hI20
         have hIc := hIc.trans hI20
         have hB0 := hB0.trans hI20
         have hB6 := hB6.trans hI20
         have hKc30 := hKc30.trans hI20
         have hD := hD.trans hI20
         rw [hcsi] at hL30 ⊢
         refine XO_nil ?_
         refine at_D hD (by repeat (first | exact .refl | exact subL_nil | refine .keep ?_ | refine .drop ?_ | refine subL_add ?_)) ?_
         refine XD_two 1 5 rfl rfl (by kernel_rfl) ?_ ?_
         ·
          refine XO_makeSlice mkt_23 rfl rfl (by first | omega | (simp; omega)) (by decide) rfl rfl (fun b_127 => ?_)
          refine XO_nil ?_
          refine at_D hD (by repeat (first | exact .refl | exact subL_nil | refine .keep ?_ | refine .drop ?_ | refine subL_add ?_)) ?_
          refine XD_one 5 rfl (by kernel_rfl) ?_
          refine XO_alloc zt_23 rfl rfl (fun b_17 => ?_)
          refine XO_nil ?_
          refine at_D hD (by repeat (first | exact .refl | exact subL_nil | refine .keep ?_ | refine .drop ?_ | refine subL_add ?_)) ?_
          refine XD_one 6 rfl (by kernel_rfl) ?_
          refine XO_store rfl rfl szt_23 rfl rfl (by repeat (first | exact Upd.here | apply Upd.there | apply upd_app)) rfl ?_
          refine XO_nil ?_
          refine at_D hD (by repeat (first | exact .refl | exact subL_nil | refine .keep ?_ | refine .drop ?_ | refine subL_add ?_)) ?_
          refine XD_one 7 rfl (by kernel_rfl) ?_
          refine XO_store rfl rfl szt_23 rfl rfl (by repeat (first | exact Upd.here | apply Upd.there | apply upd_app)) rfl ?_
          refine XO_nil ?_
          refine at_D hD (by repeat (first | exact .refl | exact subL_nil | refine .keep ?_ | refine .drop ?_ | refine subL_add ?_)) ?_
          refine XD_done (by kernel_rfl) ?_
          refine at_noP ?_
          rw [show ((loW xs : Nat) : Int).toNat = loW xs from rfl, cellsI_new, rngL_zero]
          refine at_freeze (b := b_16) (by repeat (first | exact Take.here | apply Take.there)) (fun I16 h16 e16 => ?_)
          refine at_freeze (b := b_17) (by repeat (first | exact Take.here | apply Take.there)) (fun I17 h17 e17 => ?_)
          exact at_metM rfl rfl rfl _ _ ⟨b_16, b_17, b_127, _, _, rfl, (hKc30.trans h16).trans h17, rfl, .imm (h17 _ _ e16) rfl, .imm e17 rfl, (hL30.mono h16).mono h17⟩ (.cons rfl (.cons rfl (.cons rfl (.cons rfl (.cons rfl (.cons rfl (.cons rfl (.cons rfl (.cons rfl (.cons rfl (.cons rfl (.cons rfl .nil)))))))))))) (by repeat (first | exact .refl | refine .keep ?_ | refine .drop ?_))
         ·
          refine XO_alloc zt_23 rfl rfl (fun b_17 => ?_)
          refine XO_nil ?_
          refine at_D hD (by repeat (first | exact .refl | exact subL_nil | refine .keep ?_ | refine .drop ?_ | refine subL_add ?_)) ?_
          refine XD_one 1 rfl (by kernel_rfl) ?_
          refine XO_makeSlice mkt_23 rfl rfl (by first | omega | (simp; omega)) (by decide) rfl rfl (fun b_127 => ?_)
          refine XO_nil ?_
          refine at_D hD (by repeat (first | exact .refl | exact subL_nil | refine .keep ?_ | refine .drop ?_ | refine subL_add ?_)) ?_
          refine XD_one 6 rfl (by kernel_rfl) ?_
          refine XO_store rfl rfl szt_23 rfl rfl (by repeat (first | exact Upd.here | apply Upd.there | apply upd_app)) rfl ?_
          refine XO_nil ?_
          refine at_D hD (by repeat (first | exact .refl | exact subL_nil | refine .keep ?_ | refine .drop ?_ | refine subL_add ?_)) ?_
          refine XD_one 7 rfl (by kernel_rfl) ?_
          refine XO_store rfl rfl szt_23 rfl rfl (by repeat (first | exact Upd.here | apply Upd.there | apply upd_app)) rfl ?_
          refine XO_nil ?_
          refine at_D hD (by repeat (first | exact .refl | exact subL_nil | refine .keep ?_ | refine .drop ?_ | refine subL_add ?_)) ?_
          refine XD_done (by kernel_rfl) ?_
          refine at_noP ?_
          rw [show ((loW xs : Nat) : Int).toNat = loW xs from rfl, cellsI_new, rngL_zero]
          refine at_freeze (b := b_16) (by repeat (first | exact Take.here | apply Take.there)) (fun I16 h16 e16 => ?_)
          refine at_freeze (b := b_17) (by repeat (first | exact Take.here | apply Take.there)) (fun I17 h17 e17 => ?_)
          exact at_metM rfl rfl rfl _ _ ⟨b_16, b_17, b_127, _, _, rfl, (hKc30.trans h16).trans h17, rfl, .imm (h17 _ _ e16) rfl, .imm e17 rfl, (hL30.mono h16).mono h17⟩ (.cons rfl (.cons rfl (.cons rfl (.cons rfl (.cons rfl (.cons rfl (.cons rfl (.cons rfl (.cons rfl (.cons rfl (.cons rfl (.cons rfl .nil)))))))))))) (by repeat (first | exact .refl | refine .keep ?_ | refine .drop ?_))
        ·
         refine XO_alloc zt_23 rfl rfl (fun b_17 => ?_)
         refine XO_nil ?_
         refine at_D hD (by repeat (first | exact .refl | exact subL_nil | refine .keep ?_ | refine .drop ?_ | refine subL_add ?_)) ?_
         refine XD_two 1 3 rfl rfl (by kernel_rfl) ?_ ?_
         ·
          refine XO_makeSlice mkt_23 rfl rfl (by first | omega | (simp; omega)) (by decide) rfl rfl (fun b_127 => ?_)
          refine XO_nil ?_
          refine at_D hD (by repeat (first | exact .refl | exact subL_nil | refine .keep ?_ | refine .drop ?_ | refine subL_add ?_)) ?_
          refine XD_one 3 rfl (by kernel_rfl) ?_
          refine XO_callM (cap := []) (vs := [_]) rfl rfl fun_32 .nil (w_codes hR (by omega) _ _) rfl rfl ?_
          rintro vv21 I21 L21 hI21 ⟨rfl, av30, c30, rfl, hL30⟩
          have hW0 := hW0.mono hI21
          have hW := hW.mono hI21
          have hH := hH.mono hI21
          have hT := hT.mono hI21
          have hC6 := hC6.mono hI21
          have hPr := hPr.mono hI21
          have hC10 := hC10.mono hI21
          have hAt := hAt.mono hI21
          have hWd := hWd.mono hI21
          have hPs := hPs.mono hI21
          have hre := hre.mono hI21
          have hR := hR.mono hI21
          have hPf := hPf.mono hI21
          have hIc := hIc.trans hI21
          have hB0 := hB0.trans hI21
          have hB6 := hB6.trans hI21
          have hKc30 := hKc30.trans hI21
          have hD := hD.trans hI21
          rw [hcsi] at hL30 ⊢
          refine XO_nil ?_
          refine at_D hD (by repeat (first | exact .refl | exact subL_nil | refine .keep ?_ | refine .drop ?_ | refine subL_add ?_)) ?_
          refine XD_one 6 rfl (by kernel_rfl) ?_
          refine XO_store rfl rfl szt_23 rfl rfl (by repeat (first | exact Upd.here | apply Upd.there | apply upd_app)) rfl ?_
          refine XO_nil ?_
          refine at_D hD (by repeat (first | exact .refl | exact subL_nil | refine .keep ?_ | refine .drop ?_ | refine subL_add ?_)) ?_
          refine XD_one 7 rfl (by kernel_rfl) ?_
          refine XO_store rfl rfl szt_23 rfl rfl (by repeat (first | exact Upd.here | apply Upd.there | apply upd_app)) rfl ?_
          refine XO_nil ?_
          refine at_D hD (by repeat (first | exact .refl | exact subL_nil | refine .keep ?_ | refine .drop ?_ | refine subL_add ?_)) ?_
          refine XD_done (by kernel_rfl) ?_
          refine at_noP ?_
          rw [show ((loW xs : Nat) : Int).toNat = loW xs from rfl, cellsI_new, rngL_zero]
          refine at_freeze (b := b_16) (by repeat (first | exact Take.here | apply Take.there)) (fun I16 h16 e16 => ?_)
          refine at_freeze (b := b_17) (by repeat (first | exact Take.here | apply Take.there)) (fun I17 h17 e17 => ?_)
          exact at_metM rfl rfl rfl _ _ ⟨b_16, b_17, b_127, _, _, rfl, (hKc30.trans h16).trans h17, rfl, .imm (h17 _ _ e16) rfl, .imm e17 rfl, (hL30.mono h16).mono h17⟩ (.cons rfl (.cons rfl (.cons rfl (.cons rfl (.cons rfl (.cons rfl (.cons rfl (.cons rfl (.cons rfl (.cons rfl (.cons rfl (.cons rfl .nil)))))))))))) (by repeat (first | exact .refl | refine .keep ?_ | refine .drop ?_))
         ·
          refine XO_callM (cap := []) (vs := [_]) rfl rfl fun_32 .nil (w_codes hR (by omega) _ _) rfl rfl ?_
          rintro vv22 I22 L22 hI22 ⟨rfl, av30, c30, rfl, hL30⟩
          have hW0 := hW0.mono hI22
          have hW := hW.mono hI22
          have hH := hH.mono hI22
          have hT := hT.mono hI22
          have hC6 := hC6.mono hI22
          have hPr := hPr.mono hI22
          have hC10 := hC10.mono hI22
          have hAt := hAt.mono hI22
          have hWd := hWd.mono hI22
          have hPs := hPs.mono hI22
          have hre := hre.mono hI22
          have hR := hR.mono hI22
          have hPf := hPf.mono hI22
          have hIc := hIc.trans hI22
          have hB0 := hB0.trans hI22
          have hB6 := hB6.trans hI22
          have hKc30 := hKc30.trans hI22
          have hD := hD.trans hI22
          rw [hcsi] at hL30 ⊢
          refine XO_nil ?_
          refine at_D hD (by repeat (first | exact .refl | exact subL_nil | refine .keep ?_ | refine .drop ?_ | refine subL_add ?_)) ?_
          refine XD_one 1 rfl (by kernel_rfl) ?_
          refine XO_makeSlice mkt_23 rfl rfl (by first | omega | (simp; omega)) (by decide) rfl rfl (fun b_127 => ?_)
          refine XO_nil ?_
          refine at_D hD (by repeat (first | exact .refl | exact subL_nil | refine .keep ?_ | refine .drop ?_ | refine subL_add ?_)) ?_
          refine XD_one 6 rfl (by kernel_rfl) ?_
          refine XO_store rfl rfl szt_23 rfl rfl (by repeat (first | exact Upd.here | apply Upd.there | apply upd_app)) rfl ?_
          refine XO_nil ?_
          refine at_D hD (by repeat (first | exact .refl | exact subL_nil | refine .keep ?_ | refine .drop ?_ | refine subL_add ?_)) ?_
          refine XD_one 7 rfl (by kernel_rfl) ?_
          refine XO_store rfl rfl szt_23 rfl rfl (by repeat (first | exact Upd.here | apply Upd.there | apply upd_app)) rfl ?_
          refine XO_nil ?_
          refine at_D hD (by repeat (first | exact .refl | exact subL_nil | refine .keep ?_ | refine .drop ?_ | refine subL_add ?_)) ?_
          refine XD_done (by kernel_rfl) ?_
          refine at_noP ?_
          rw [show ((loW xs : Nat) : Int).toNat = loW xs from rfl, cellsI_new, rngL_zero]
          refine at_freeze (b := b_16) (by repeat (first | exact Take.here | apply Take.there)) (fun I16 h16 e16 => ?_)
          refine at_freeze (b := b_17) (by repeat (first | exact Take.here | apply Take.there)) (fun I17 h17 e17 => ?_)
          exact at_metM rfl rfl rfl _ _ ⟨b_16, b_17, b_127, _, _, rfl, (hKc30.trans h16).trans h17, rfl, .imm (h17 _ _ e16) rfl, .imm e17 rfl, (hL30.mono h16).mono h17⟩ (.cons rfl (.cons rfl (.cons rfl (.cons rfl (.cons rfl (.cons rfl (.cons rfl (.cons rfl (.cons rfl (.cons rfl (.cons rfl (.cons rfl .nil)))))))))))) (by repeat (first | exact .refl | refine .keep ?_ | refine .drop ?_))
       ·
        refine XO_alloc zt_23 rfl rfl (fun b_17 => ?_)
        refine XO_nil ?_
        refine at_D hD (by repeat (first | exact .refl | exact subL_nil | refine .keep ?_ | refine .drop ?_ | refine subL_add ?_)) ?_
        refine XD_three 1 3 4 rfl rfl rfl (by kernel_rfl) ?_ ?_ ?_
        ·
         refine XO_makeSlice mkt_23 rfl rfl (by first | omega | (simp; omega)) (by decide) rfl rfl (fun b_127 => ?_)
         refine XO_nil ?_
         refine at_D hD (by repeat (first | exact .refl | exact subL_nil | refine .keep ?_ | refine .drop ?_ | refine subL_add ?_)) ?_
         refine XD_two 3 4 rfl rfl (by kernel_rfl) ?_ ?_
         ·
          refine XO_callM (cap := []) (vs := [_]) rfl rfl fun_32 .nil (w_codes hR (by omega) _ _) rfl rfl ?_
          rintro vv23 I23 L23 hI23 ⟨rfl, av30, c30, rfl, hL30⟩
          have hW0 := hW0.mono hI23
          have hW := hW.mono hI23
          have hH := hH.mono hI23
          have hT := hT.mono hI23
          have hC6 := hC6.mono hI23
          have hPr := hPr.mono hI23
          have hC10 := hC10.mono hI23
          have hAt := hAt.mono hI23
          have hWd := hWd.mono hI23
          have hPs := hPs.mono hI23
          have hre := hre.mono hI23
          have hR := hR.mono hI23
          have hPf := hPf.mono hI23
          have hIc := hIc.trans hI23
          have hB0 := hB0.trans hI23
          have hB6 := hB6.trans hI23
          have hKc30 := hKc30.trans hI23
          have hD := hD.trans hI23
          rw [hcsi] at hL30 ⊢
          refine XO_nil ?_
          refine at_D hD (by repeat (first | exact .refl | exact subL_nil | refine .keep ?_ | refine .drop ?_ | refine subL_add ?_)) ?_
          refine XD_one 4 rfl (by kernel_rfl) ?_
          refine XO_alloc zt_23 rfl rfl (fun b_16 => ?_)
          refine XO_nil ?_
          refine at_D hD (by repeat (first | exact .refl | exact subL_nil | refine .keep ?_ | refine .drop ?_ | refine subL_add ?_)) ?_
          refine XD_one 6 rfl (by kernel_rfl) ?_
          refine XO_store rfl rfl szt_23 rfl rfl (by repeat (first | exact Upd.here | apply Upd.there | apply upd_app)) rfl ?_
          refine XO_nil ?_
          refine at_D hD (by repeat (first | exact .refl | exact subL_nil | refine .keep ?_ | refine .drop ?_ | refine subL_add ?_)) ?_
          refine XD_one 7 rfl (by kernel_rfl) ?_
          refine XO_store rfl rfl szt_23 rfl rfl (by repeat (first | exact Upd.here | apply Upd.there | apply upd_app)) rfl ?_
          refine XO_nil ?_
          refine at_D hD (by repeat (first | exact .refl | exact subL_nil | refine .keep ?_ | refine .drop ?_ | refine subL_add ?_)) ?_
          refine XD_done (by kernel_rfl) ?_
          refine at_noP ?_
          rw [show ((loW xs : Nat) : Int).toNat = loW xs from rfl, cellsI_new, rngL_zero]
          refine at_freeze (b := b_16) (by repeat (first | exact Take.here | apply Take.there)) (fun I16 h16 e16 => ?_)
          refine at_freeze (b := b_17) (by repeat (first | exact Take.here | apply Take.there)) (fun I17 h17 e17 => ?_)
          exact at_metM rfl rfl rfl _ _ ⟨b_16, b_17, b_127, _, _, rfl, (hKc30.trans h16).trans h17, rfl, .imm (h17 _ _ e16) rfl, .imm e17 rfl, (hL30.mono h16).mono h17⟩ (.cons rfl (.cons rfl (.cons rfl (.cons rfl (.cons rfl (.cons rfl (.cons rfl (.cons rfl (.cons rfl (.cons rfl (.cons rfl (.cons rfl .nil)))))))))))) (by repeat (first | exact .refl | refine .keep ?_ | refine .drop ?_))
         ·
          refine XO_alloc zt_23 rfl rfl (fun b_16 => ?_)
          refine XO_nil ?_
          refine at_D hD (by repeat (first | exact .refl | exact subL_nil | refine .keep ?_ | refine .drop ?_ | refine subL_add ?_)) ?_
          refine XD_one 3 rfl (by kernel_rfl) ?_
          refine XO_callM (cap := []) (vs := [_]) rfl rfl fun_32 .nil (w_codes hR (by omega) _ _) rfl rfl ?_
          rintro vv24 I24 L24 hI24 ⟨rfl, av30, c30, rfl, hL30⟩
          have hW0 := hW0.mono hI24
          have hW := hW.mono hI24
          have hH := hH.mono hI24
          have hT := hT.mono hI24
          have hC6 := hC6.mono hI24
          have hPr := hPr.mono hI24
          have hC10 := hC10.mono hI24
          have hAt := hAt.mono hI24
          have hWd := hWd.mono hI24
          have hPs := hPs.mono hI24
          have hre := hre.mono hI24
          have hR := hR.mono hI24
          have hPf := hPf.mono hI24
          have hIc := hIc.trans hI24
          have hB0 := hB0.trans hI24
          have hB6 := hB6.trans hI24
          have hKc30 := hKc30.trans hI24
          have hD := hD.trans hI24
          rw [hcsi] at hL30 ⊢
          refine XO_nil ?_
          refine at_D hD (by repeat (first | exact .refl | exact subL_nil | refine .keep ?_ | refine .drop ?_ | refine subL_add ?_)) ?_
          refine XD_one 6 rfl (by kernel_rfl) ?_
          refine XO_store rfl rfl szt_23 rfl rfl (by repeat (first | exact Upd.here | apply Upd.there | apply upd_app)) rfl ?_
          refine XO_nil ?_
          refine at_D hD (by repeat (first | exact .refl | exact subL_nil | refine .keep ?_ | refine .drop ?_ | refine subL_add ?_)) ?_
          refine XD_one 7 rfl (by kernel_rfl) ?_
          refine XO_store rfl rfl szt_23 rfl rfl (by repeat (first | exact Upd.here | apply Upd.there | apply upd_app)) rfl ?_
          refine XO_nil ?_
          refine at_D hD (by repeat (first | exact .refl | exact subL_nil | refine .keep ?_ | refine .drop ?_ | refine subL_add ?_)) ?_
          refine XD_done (by kernel_rfl) ?_
          refine at_noP ?_
          rw [show ((loW xs : Nat) : Int).toNat = loW xs from rfl, cellsI_new, rngL_zero]
          refine at_freeze (b := b_16) (by repeat (first | exact Take.here | apply Take.there)) (fun I16 h16 e16 => ?_)
          refine at_freeze (b := b_17) (by repeat (first | exact Take.here | apply Take.there)) (fun I17 h17 e17 => ?_)
          exact at_metM rfl rfl rfl _ _ ⟨b_16, b_17, b_127, _, _, rfl, (hKc30.trans h16).trans h17, rfl, .imm (h17 _ _ e16) rfl, .imm e17 rfl, (hL30.mono h16).mono h17⟩ (.cons rfl (.cons rfl (.cons rfl (.cons rfl (.cons rfl (.cons rfl (.cons rfl (.cons rfl (.cons rfl (.cons rfl (.cons rfl (.cons rfl .nil)))))))))))) (by repeat (first | exact .refl | refine .keep ?_ | refine .drop ?_))
        ·
         refine XO_callM (cap := []) (vs := [_]) rfl rfl fun_32 .nil (w_codes hR (by omega) _ _) rfl rfl ?_
         rintro vv25 I25 L25 hI25 ⟨rfl, av30, c30, rfl, hL30⟩
         have hW0 := hW0.mono hI25
         have hW := hW.mono hI25
         have hH := hH.mono hI25
         have hT := hT.mono hI25
         have hC6 := hC6.mono hI25
         have hPr := hPr.mono hI25
         have hC10 := hC10.mono hI25
         have hAt := hAt.mono hI25
         have hWd := hWd.mono hI25
         have hPs := hPs.mono hI25
         have hre := hre.mono hI25
         have hR := hR.mono hI25
         have hPf := hPf.mono hI25
         have hIc := hIc.trans hI25
         have hB0 := hB0.trans hI25
         have hB6 := hB6.trans hI25
         have hKc30 := hKc30.trans hI25
         have hD := hD.trans hI25
         rw [hcsi] at hL30 ⊢
         refine XO_nil ?_
         refine at_D hD (by repeat (first | exact .refl | exact subL_nil | refine .keep ?_ | refine .drop ?_ | refine subL_add ?_)) ?_
         refine XD_two 1 4 rfl rfl (by kernel_rfl) ?_ ?_
         ·
          refine XO_makeSlice mkt_23 rfl rfl (by first | omega | (simp; omega)) (by decide) rfl rfl (fun b_127 => ?_)
          refine XO_nil ?_
          refine at_D hD (by repeat (first | exact .refl | exact subL_nil | refine .keep ?_ | refine .drop ?_ | refine subL_add ?_)) ?_
          refine XD_one 4 rfl (by kernel_rfl) ?_
          refine XO_alloc zt_23 rfl rfl (fun b_16 => ?_)
          refine XO_nil ?_
          refine at_D hD (by repeat (first | exact .refl | exact subL_nil | refine .keep ?_ | refine .drop ?_ | refine subL_add ?_)) ?_
          refine XD_one 6 rfl (by kernel_rfl) ?_
          refine XO_store rfl rfl szt_23 rfl rfl (by repeat (first | exact Upd.here | apply Upd.there | apply upd_app)) rfl ?_
          refine XO_nil ?_
          refine at_D hD (by repeat (first | exact .refl | exact subL_nil | refine .keep ?_ | refine .drop ?_ | refine subL_add ?_)) ?_
          refine XD_one 7 rfl (by kernel_rfl) ?_
          refine XO_store rfl rfl szt_23 rfl rfl (by repeat (first | exact Upd.here | apply Upd.there | apply upd_app)) rfl ?_
          refine XO_nil ?_
          refine at_D hD (by repeat (first | exact .refl | exact subL_nil | refine .keep ?_ | refine .drop ?_ | refine subL_add ?_)) ?_
          refine XD_done (by kernel_rfl) ?_
          refine at_noP ?_
          rw [show ((loW xs : Nat) : Int).toNat = loW xs from rfl, cellsI_new, rngL_zero]
          refine at_freeze (b := b_16) (by repeat (first | exact Take.here | apply Take.there)) (fun I16 h16 e16 => ?_)
          refine at_freeze (b := b_17) (by repeat (first | exact Take.here | apply Take.there)) (fun I17 h17 e17 => ?_)
          exact at_metM rfl rfl rfl _ _ ⟨b_16, b_17, b_127, _, _, rfl, (hKc30.trans h16).trans h17, rfl, .imm (h17 _ _ e16) rfl, .imm e17 rfl, (hL30.mono h16).mono h17⟩ (.cons rfl (.cons rfl (.cons rfl (.cons rfl (.cons rfl (.cons rfl (.cons rfl (.cons rfl (.cons rfl (.cons rfl (.cons rfl (.cons rfl .nil)))))))))))) (by repeat (first | exact .refl | refine .keep ?_ | refine .drop ?_))
         ·
          refine XO_alloc zt_23 rfl rfl (fun b_16 => ?_)
          refine XO_nil ?_
          refine at_D hD (by repeat (first | exact .refl | exact subL_nil | refine .keep ?_ | refine .drop ?_ | refine subL_add ?_)) ?_
          refine XD_one 1 rfl (by kernel_rfl) ?_
          refine XO_makeSlice mkt_23 rfl rfl (by first | omega | (simp; omega)) (by decide) rfl rfl (fun b_127 => ?_)
          refine XO_nil ?_
          refine at_D hD (by repeat (first | exact .refl | exact subL_nil | refine .keep ?_ | refine .drop ?_ | refine subL_add ?_)) ?_
          refine XD_one 6 rfl (by kernel_rfl) ?_
          refine XO_store rfl rfl szt_23 rfl rfl (by repeat (first | exact Upd.here | apply Upd.there | apply upd_app)) rfl ?_
          refine XO_nil ?_
          refine at_D hD (by repeat (first | exact .refl | exact subL_nil | refine .keep ?_ | refine .drop ?_ | refine subL_add ?_)) ?_
          refine XD_one 7 rfl (by kernel_rfl) ?_
          refine XO_store rfl rfl szt_23 rfl rfl (by repeat (first | exact Upd.here | apply Upd.there | apply upd_app)) rfl ?_
          refine XO_nil ?_
          refine at_D hD (by repeat (first | exact .refl | exact subL_nil | refine .keep ?_ | refine .drop ?_ | refine subL_add ?_)) ?_
          refine XD_done (by kernel_rfl) ?_
          refine at_noP ?_
          rw [show ((loW xs : Nat) : Int).toNat = loW xs from rfl, cellsI_new, rngL_zero]
          refine at_freeze (b := b_16) (by repeat (first | exact Take.here | apply Take.there)) (fun I16 h16 e16 => ?_)
          refine at_freeze (b := b_17) (by repeat (first | exact Take.here | apply Take.there)) (fun I17 h17 e17 => ?_)
          exact at_metM rfl rfl rfl _ _ ⟨b_16, b_17, b_127, _, _, rfl, (hKc30.trans h16).trans h17, rfl, .imm (h17 _ _ e16) rfl, .imm e17 rfl, (hL30.mono h16).mono h17⟩ (.cons rfl (.cons rfl (.cons rfl (.cons rfl (.cons rfl (.cons rfl (.cons rfl (.cons rfl (.cons rfl (.cons rfl (.cons rfl (.cons rfl .nil)))))))))))) (by repeat (first | exact .refl | refine .keep ?_ | refine .drop ?_))
        ·
         refine XO_alloc zt_23 rfl rfl (fun b_16 => ?_)
         refine XO_nil ?_
         refine at_D hD (by repeat (first | exact .refl | exact subL_nil | refine .keep ?_ | refine .drop ?_ | refine subL_add ?_)) ?_
         refine XD_two 1 3 rfl rfl (by kernel_rfl) ?_ ?_
         ·
          refine XO_makeSlice mkt_23 rfl rfl (by first | omega | (simp; omega)) (by decide) rfl rfl (fun b_127 => ?_)
          refine XO_nil ?_
          refine at_D hD (by repeat (first | exact .refl | exact subL_nil | refine .keep ?_ | refine .drop ?_ | refine subL_add ?_)) ?_
          refine XD_one 3 rfl (by kernel_rfl) ?_
          refine XO_callM (cap := []) (vs := [_]) rfl rfl fun_32 .nil (w_codes hR (by omega) _ _) rfl rfl ?_
          rintro vv26 I26 L26 hI26 ⟨rfl, av30, c30, rfl, hL30⟩
          have hW0 := hW0.mono hI26
          have hW := hW.mono hI26
          have hH := hH.mono hI26
          have hT := hT.mono hI26
          have hC6 := hC6.mono hI26
          have hPr := hPr.mono hI26
          have hC10 := hC10.mono hI26
          have hAt := hAt.mono hI26
          have hWd := hWd.mono hI26
          have hPs := hPs.mono hI26
          have hre := hre.mono hI26
          have hR := hR.mono hI26
          have hPf := hPf.mono hI26
          have hIc := hIc.trans hI26
          have hB0 := hB0.trans hI26
          have hB6 := hB6.trans hI26
          have hKc30 := hKc30.trans hI26
          have hD := hD.trans hI26
          rw [hcsi] at hL30 ⊢
          refine XO_nil ?_
          refine at_D hD (by repeat (first | exact .refl | exact subL_nil | refine .keep ?_ | refine .drop ?_ | refine subL_add ?_)) ?_
          refine XD_one 6 rfl (by kernel_rfl) ?_
          refine XO_store rfl rfl szt_23 rfl rfl (by repeat (first | exact Upd.here | apply Upd.there | apply upd_app)) rfl ?_
          refine XO_nil ?_
          refine at_D hD (by repeat (first | exact .refl | exact subL_nil | refine .keep ?_ | refine .drop ?_ | refine subL_add ?_)) ?_
          refine XD_one 7 rfl (by kernel_rfl) ?_
          refine XO_store rfl rfl szt_23 rfl rfl (by repeat (first | exact Upd.here | apply Upd.there | apply upd_app)) rfl ?_
          refine XO_nil ?_
          refine at_D hD (by repeat (first | exact .refl | exact subL_nil | refine .keep ?_ | refine .drop ?_ | refine subL_add ?_)) ?_
          refine XD_done (by kernel_rfl) ?_
          refine at_noP ?_
          rw [show ((loW xs : Nat) : Int).toNat = loW xs from rfl, cellsI_new, rngL_zero]
          refine at_freeze (b := b_16) (by repeat (first | exact Take.here | apply Take.there)) (fun I16 h16 e16 => ?_)
          refine at_freeze (b := b_17) (by repeat (first | exact Take.here | apply Take.there)) (fun I17 h17 e17 => ?_)
          exact at_metM rfl rfl rfl _ _ ⟨b_16, b_17, b_127, _, _, rfl, (hKc30.trans h16).trans h17, rfl, .imm (h17 _ _ e16) rfl, .imm e17 rfl, (hL30.mono h16).mono h17⟩ (.cons rfl (.cons rfl (.cons rfl (.cons rfl (.cons rfl (.cons rfl (.cons rfl (.cons rfl (.cons rfl (.cons rfl (.cons rfl (.cons rfl .nil)))))))))))) (by repeat (first | exact .refl | refine .keep ?_ | refine .drop ?_))
         ·
          refine XO_callM (cap := []) (vs := [_]) rfl rfl fun_32 .nil (w_codes hR (by omega) _ _) rfl rfl ?_
          rintro vv27 I27 L27 hI27 ⟨rfl, av30, c30, rfl, hL30⟩
          have hW0 := hW0.mono hI27
          have hW := hW.mono hI27
          have hH := hH.mono hI27
          have hT := hT.mono hI27
          have hC6 := hC6.mono hI27
          have hPr := hPr.mono hI27
          have hC10 := hC10.mono hI27
          have hAt := hAt.mono hI27
          have hWd := hWd.mono hI27
          have hPs := hPs.mono hI27
          have hre := hre.mono hI27
          have hR := hR.mono hI27
          have hPf := hPf.mono hI27
          have hIc := hIc.trans hI27
          have hB0 := hB0.trans hI27
          have hB6 := hB6.trans hI27
          have hKc30 := hKc30.trans hI27
          have hD := hD.trans hI27
          rw [hcsi] at hL30 ⊢
          refine XO_nil ?_
          refine at_D hD (by repeat (first | exact .refl | exact subL_nil | refine .keep ?_ | refine .drop ?_ | refine subL_add ?_)) ?_
          refine XD_one 1 rfl (by kernel_rfl) ?_
          refine XO_makeSlice mkt_23 rfl rfl (by first | omega | (simp; omega)) (by decide) rfl rfl (fun b_127 => ?_)
          refine XO_nil ?_
          refine at_D hD (by repeat (first | exact .refl | exact subL_nil | refine .keep ?_ | refine .drop ?_ | refine subL_add ?_)) ?_
          refine XD_one 6 rfl (by kernel_rfl) ?_
          refine XO_store rfl rfl szt_23 rfl rfl (by repeat (first | exact Upd.here | apply Upd.there | apply upd_app)) rfl ?_
          refine XO_nil ?_
          refine at_D hD (by repeat (first | exact .refl | exact subL_nil | refine .keep ?_ | refine .drop ?_ | refine subL_add ?_)) ?_
          refine XD_one 7 rfl (by kernel_rfl) ?_
          refine XO_store rfl rfl szt_23 rfl rfl (by repeat (first | exact Upd.here | apply Upd.there | apply upd_app)) rfl ?_
          refine XO_nil ?_
          refine at_D hD (by repeat (first | exact .refl | exact subL_nil | refine .keep ?_ | refine .drop ?_ | refine subL_add ?_)) ?_
          refine XD_done (by kernel_rfl) ?_
          refine at_noP ?_
          rw [show ((loW xs : Nat) : Int).toNat = loW xs from rfl, cellsI_new, rngL_zero]
          refine at_freeze (b := b_16) (by repeat (first | exact Take.here | apply Take.there)) (fun I16 h16 e16 => ?_)
          refine at_freeze (b := b_17) (by repeat (first | exact Take.here | apply Take.there)) (fun I17 h17 e17 => ?_)
          exact at_metM rfl rfl rfl _ _ ⟨b_16, b_17, b_127, _, _, rfl, (hKc30.trans h16).trans h17, rfl, .imm (h17 _ _ e16) rfl, .imm e17 rfl, (hL30.mono h16).mono h17⟩ (.cons rfl (.cons rfl (.cons rfl (.cons rfl (.cons rfl (.cons rfl (.cons rfl (.cons rfl (.cons rfl (.cons rfl (.cons rfl (.cons rfl .nil)))))))))))) (by repeat (first | exact .refl | refine .keep ?_ | refine .drop ?_))
      ·
       rintro ms E J28 loc' ⟨b16, b17, b127, av17, c17, rfl, hJ30, rfl, hC16, hC17, hL17⟩
       have hW0 := hW0.mono hJ30
       have hW := hW.mono hJ30
       have hH := hH.mono hJ30
       have hT := hT.mono hJ30
       have hC6 := hC6.mono hJ30
       have hPr := hPr.mono hJ30
       have hC10 := hC10.mono hJ30
       have hAt := hAt.mono hJ30
       have hWd := hWd.mono hJ30
       have hPs := hPs.mono hJ30
       have hre := hre.mono hJ30
       have hR := hR.mono hJ30
       have hPf := hPf.mono hJ30
       have hIc := hIc.trans hJ30
       have hB0 := hB0.trans hJ30
       have hB6 := hB6.trans hJ30
       refine X_cutM [(2, _), (4, _), (5, _), (6, _), (10, _), (11, _), (14, _), (16, _), (17, _), (119, _), (120, _), (121, _)] (.cons rfl (.cons rfl (.cons rfl (.cons rfl (.cons rfl (.cons rfl (.cons rfl (.cons rfl (.cons rfl (.cons rfl (.cons rfl (.cons rfl .nil)))))))))))) (fun T L0 ms E I' loc' => E = T ∧ HLe J28 I' ∧ (b127, .cells (cellsI (rngL (loW xs) ((if i = 0 then txF (wdW xs) (csW xs 0) (csW xs 0).length else fun _ => 0)))) 3 (0, 0)) :: (L ++ MB ms) = loc') ?_ ?_
       ·
        have hKc31 := HLe.refl J28
        refine X_seq (X_region ?_)
        refine XO_v0 (ev_move rfl) rfl rfl rfl ?_
        refine XO_v0 (ev_cmp rfl rfl rfl) rfl rfl rfl ?_
        refine XO_nil (at_then ?_)
        refine X_cond rfl (fun hc131 => ?_) (fun hc131 => ?_)
        ·
         have hi0 : i = 0 := by have h := hc131; simp at h; omega
         refine X_seq (X_region ?_)
         refine XO_v0 (ev_move rfl) rfl rfl rfl ?_
         refine XO_v0 (ev_lenS rfl slt_23) rfl rfl rfl ?_
         refine XO_v0 (ev_move rfl) rfl rfl rfl ?_
         refine XO_nil (at_then ?_)
         refine X_block ?_
         refine X_loopM [(2, _), (4, _), (5, _), (6, _), (10, _), (11, _), (14, _), (16, _), (17, _), (119, _), (120, _), (121, _), (132, _), (133, _)] (.cons rfl (.cons rfl (.cons rfl (.cons rfl (.cons rfl (.cons rfl (.cons rfl (.cons rfl (.cons rfl (.cons rfl (.cons rfl (.cons rfl (.cons rfl (.cons rfl .nil)))))))))))))) (fun T L0 mz ms E I' loc' => ∃ (k : Nat), mz = (csW xs 0).length - k ∧ E = (134, .int .i64 k) :: T ∧ J28 = I' ∧ (b127, .cells (cellsI (rngL (loW xs) (txF (wdW xs) (csW xs 0) k))) 3 (0, 0)) :: (L ++ MB ms) = loc' ∧ k ≤ (csW xs 0).length) _ _ _ _ ⟨0, rfl, rfl, rfl, rfl, Nat.zero_le _⟩ (.cons rfl (.cons rfl (.cons rfl (.cons rfl (.cons rfl (.cons rfl (.cons rfl (.cons rfl (.cons rfl (.cons rfl (.cons rfl (.cons rfl (.cons rfl (.cons rfl (.cons rfl .nil))))))))))))))) (HLe.refl _) rfl ?_
         rintro mz ms E I' loc' ⟨k, rfl, rfl, rfl, rfl, hk⟩
         refine X_seq (X_region ?_)
         refine XO_v0 (ev_cmp rfl rfl rfl) rfl rfl rfl ?_
         refine XO_nil (at_then ?_)
         refine X_seq ?_
         refine X_cond rfl (fun hc135 => ?_) (fun hc135 => ?_)
         ·
          have hlt_k : k < (csW xs 0).length := by have h := hc135; simp at h; omega
          obtain ⟨tk, hTk⟩ := hT.at hlt_k
          have hps := pos_lt hlt_k
          have hf1 : natF (sumF (wdW xs)) k = (((sumF (wdW xs)) k : Nat) : Int) := rfl
          have hf2 : natF (wdW xs) k = (((wdW xs) k : Nat) : Int) := rfl
          refine X_skip ?_
          refine at_then ?_
          refine X_seq ?_
          refine X_block ?_
          refine X_seq (X_region ?_)
          refine XO_v0 (ev_move rfl) rfl rfl rfl ?_
          refine XO_v0 (ev_indexSl rfl rfl slt_23 hT (fun hg => by first | omega | (simp [conj] at hg; omega))) rfl rfl rfl ?_
          refine XO_v0 (ev_load rfl sct_3 (fun hg => by exact Sl.get0 hT hTk rfl)) rfl rfl rfl ?_
          refine XO_v0 (ev_assign rfl) rfl rfl rfl ?_
          refine XO_v0 (ev_assign rfl) rfl rfl rfl ?_
          refine XO_nil (at_then ?_)
          have hD := HLe.refl J28
          refine X_noP ?_
          refine X_drawS J28 [] mixed ?_
          refine XD_take 0 rfl (ev_load rfl sct_23 (fun hg => by exact hC16.any)) (.none rfl) rfl rfl rfl (by kernel_rfl) (by kernel_rfl) (by kernel_rfl) noP_ok hD (by repeat (first | exact .refl | exact subL_nil | refine .keep ?_ | refine .drop ?_ | refine subL_add ?_)) ?_
          refine XD_take 1 rfl (ev_load rfl sct_23 (fun hg => by exact hC10.any)) (.none rfl) rfl rfl rfl (by kernel_rfl) (by kernel_rfl) (by kernel_rfl) noP_ok hD (by repeat (first | exact .refl | exact subL_nil | refine .keep ?_ | refine .drop ?_ | refine subL_add ?_)) ?_
          refine XD_take 2 rfl (ev_move rfl) (.none rfl) rfl rfl rfl (by kernel_rfl) (by kernel_rfl) (by kernel_rfl) noP_ok hD (by repeat (first | exact .refl | exact subL_nil | refine .keep ?_ | refine .drop ?_ | refine subL_add ?_)) ?_
          refine XD_take 3 rfl (ev_indexSl rfl rfl slt_23 hAt (fun hg => by first | omega | (simp [conj] at hg; omega))) (.none rfl) rfl rfl rfl (by kernel_rfl) (by kernel_rfl) (by kernel_rfl) noP_ok hD (by repeat (first | exact .refl | exact subL_nil | refine .keep ?_ | refine .drop ?_ | refine subL_add ?_)) ?_
          refine XD_take 4 rfl (ev_load rfl sct_3 (fun hg => by exact Sl.get0 (k := k) hAt (rngL_at (show k < _ by omega)) rfl)) (.none rfl) rfl rfl rfl (by kernel_rfl) (by kernel_rfl) (by kernel_rfl) noP_ok hD (by repeat (first | exact .refl | exact subL_nil | refine .keep ?_ | refine .drop ?_ | refine subL_add ?_)) ?_
          refine XD_take 5 rfl (ev_load rfl sct_23 (fun hg => by exact hC6.any)) (.none rfl) rfl rfl rfl (by kernel_rfl) (by kernel_rfl) (by kernel_rfl) noP_ok hD (by repeat (first | exact .refl | exact subL_nil | refine .keep ?_ | refine .drop ?_ | refine subL_add ?_)) ?_
          refine XD_take 6 rfl (ev_move rfl) (.none rfl) rfl rfl rfl (by kernel_rfl) (by kernel_rfl) (by kernel_rfl) noP_ok hD (by repeat (first | exact .refl | exact subL_nil | refine .keep ?_ | refine .drop ?_ | refine subL_add ?_)) ?_
          refine XD_take 7 rfl (ev_indexSl rfl rfl slt_23 hWd (fun hg => by first | omega | (simp [conj] at hg; omega))) (.none rfl) rfl rfl rfl (by kernel_rfl) (by kernel_rfl) (by kernel_rfl) noP_ok hD (by repeat (first | exact .refl | exact subL_nil | refine .keep ?_ | refine .drop ?_ | refine subL_add ?_)) ?_
          refine XD_take 8 rfl (ev_load rfl sct_3 (fun hg => by exact Sl.get0 (k := k) hWd (rngL_at (show k < _ by omega)) rfl)) (.none rfl) rfl rfl rfl (by kernel_rfl) (by kernel_rfl) (by kernel_rfl) noP_ok hD (by repeat (first | exact .refl | exact subL_nil | refine .keep ?_ | refine .drop ?_ | refine subL_add ?_)) ?_
          refine XD_take 9 rfl (ev_arB rfl rfl rfl (fun hg => by first | omega | (simp [conj] at hg; omega))) (.none rfl) rfl rfl rfl (by kernel_rfl) (by kernel_rfl) (by kernel_rfl) noP_ok hD (by repeat (first | exact .refl | exact subL_nil | refine .keep ?_ | refine .drop ?_ | refine subL_add ?_)) ?_
          refine XD_take 10 rfl (ev_move rfl) (.none rfl) rfl rfl rfl (by kernel_rfl) (by kernel_rfl) (by kernel_rfl) noP_ok hD (by repeat (first | exact .refl | exact subL_nil | refine .keep ?_ | refine .drop ?_ | refine subL_add ?_)) ?_
          refine XD_take 11 rfl (ev_indexOwn rfl rfl slt_23 (fun hg => by first | omega | (simp [conj] at hg; omega))) (.none rfl) rfl rfl rfl (by kernel_rfl) (by kernel_rfl) (by kernel_rfl) noP_ok hD (by repeat (first | exact .refl | exact subL_nil | refine .keep ?_ | refine .drop ?_ | refine subL_add ?_)) ?_
          refine XD_one 12 rfl (by kernel_rfl) ?_
          refine XO_store rfl rfl szt_3 rfl rfl (by repeat (first | exact Upd.here | apply Upd.there | apply upd_app)) (by rw [show natF (sumF (wdW xs)) k + natF (wdW xs) k = ((sumF (wdW xs) k + wdW xs k : Nat) : Int) from rfl]; exact bltI (by rw [rngL_len]; omega)) ?_
          refine XO_nil ?_
          refine at_D hD (by repeat (first | exact .refl | exact subL_nil | refine .keep ?_ | refine .drop ?_ | refine subL_add ?_)) ?_
          refine XD_done (by kernel_rfl) ?_
          refine at_noP ?_
          rw [show natF (sumF (wdW xs)) k + natF (wdW xs) k = ((sumF (wdW xs) k + wdW xs k : Nat) : Int) from rfl, cellsI_set, rngL_set, ← getD_of (d := 0) hTk]
          refine at_block_n ?_
          refine at_then ?_
          refine X_region ?_
          refine XO_v0 (ev_arB rfl rfl rfl (fun hg => by first | omega | (simp [conj] at hg; omega))) rfl rfl rfl ?_
          refine XO_v0 (ev_move rfl) rfl rfl rfl ?_
          refine XO_nil ?_
          exact at_metM rfl rfl rfl _ _ ⟨(csW xs 0).length - (k + 1), by omega, k + 1, rfl, rfl, rfl, rfl, by omega⟩ (.cons rfl (.cons rfl (.cons rfl (.cons rfl (.cons rfl (.cons rfl (.cons rfl (.cons rfl (.cons rfl (.cons rfl (.cons rfl (.cons rfl (.cons rfl (.cons rfl (.cons rfl .nil))))))))))))))) (by repeat (first | exact .refl | exact subL_left | refine subL_app ?_ | refine .drop ?_ | refine subL_add ?_))
         ·
          have hge_k : (csW xs 0).length ≤ k := by have h := hc135; simp at h; omega
          obtain rfl : k = (csW xs 0).length := by omega
          refine X_exit ?_
          refine at_then_e ?_
          refine at_then_e ?_
          refine at_block_hit ?_
          exact at_metM rfl rfl rfl _ _ ⟨rfl, hKc31, by rw [if_pos hi0]⟩ (.cons rfl (.cons rfl (.cons rfl (.cons rfl (.cons rfl (.cons rfl (.cons rfl (.cons rfl (.cons rfl (.cons rfl (.cons rfl (.cons rfl .nil)))))))))))) .refl
        ·
         have hi0 : ¬ i = 0 := by have h := hc131; simp at h; omega
         refine X_skip ?_
         exact at_metM rfl rfl rfl _ _ ⟨rfl, hKc31, by rw [if_neg hi0]⟩ (.cons rfl (.cons rfl (.cons rfl (.cons rfl (.cons rfl (.cons rfl (.cons rfl (.cons rfl (.cons rfl (.cons rfl (.cons rfl (.cons rfl .nil)))))))))))) .refl
       ·
        rintro ms E J30 loc' ⟨rfl, hJ131, rfl⟩
        have hW0 := hW0.mono hJ131
        have hW := hW.mono hJ131
        have hH := hH.mono hJ131
        have hT := hT.mono hJ131
        have hC6 := hC6.mono hJ131
        have hPr := hPr.mono hJ131
        have hC10 := hC10.mono hJ131
        have hAt := hAt.mono hJ131
        have hWd := hWd.mono hJ131
        have hPs := hPs.mono hJ131
        have hre := hre.mono hJ131
        have hR := hR.mono hJ131
        have hPf := hPf.mono hJ131
        have hC16 := hC16.mono hJ131
        have hC17 := hC17.mono hJ131
        have hL17 := hL17.mono hJ131
        have hIc := hIc.trans hJ131
        have hB0 := hB0.trans hJ131
        have hB6 := hB6.trans hJ131
        refine X_seq ?_
        refine X_seq (X_region ?_)
        refine XO_v0 (ev_move rfl) rfl rfl rfl ?_
        refine XO_v0 (ev_move rfl) rfl rfl rfl ?_
        refine XO_v0 (ev_indexSl rfl rfl slt_76 hPs (fun hg => by first | omega | (simp [conj] at hg; omega))) rfl rfl rfl ?_
        refine XO_v0 (ev_load rfl sct_77 (fun hg => by exact Sl.get0 hPs hhp rfl)) rfl rfl rfl ?_
        refine XO_v0 (ev_lenS rfl slt_77) rfl rfl rfl ?_
        refine XO_v0 (ev_move rfl) rfl rfl rfl ?_
        refine XO_nil (at_then ?_)
        refine X_block ?_
        refine X_loopM [(2, _), (4, _), (5, _), (6, _), (10, _), (11, _), (14, _), (16, _), (17, _), (119, _), (120, _), (121, _), (155, _), (156, _)] (.cons rfl (.cons rfl (.cons rfl (.cons rfl (.cons rfl (.cons rfl (.cons rfl (.cons rfl (.cons rfl (.cons rfl (.cons rfl (.cons rfl (.cons rfl (.cons rfl .nil)))))))))))))) (fun T L0 mz ms E I' loc' => ∃ (k : Nat), mz = (pfW xs i).length - k ∧ E = (157, .int .i64 k) :: T ∧ J30 = I' ∧ (b127, .cells (cellsI (rngL (loW xs) (((pfW xs i).take k).foldl (prF (wdW xs) (csW xs i)) (if i = 0 then txF (wdW xs) (csW xs 0) (csW xs 0).length else fun _ => 0)))) 3 (0, 0)) :: (L ++ MB ms) = loc' ∧ k ≤ (pfW xs i).length) _ _ _ _ ⟨0, rfl, rfl, rfl, rfl, Nat.zero_le _⟩ (.cons rfl (.cons rfl (.cons rfl (.cons rfl (.cons rfl (.cons rfl (.cons rfl (.cons rfl (.cons rfl (.cons rfl (.cons rfl (.cons rfl (.cons rfl (.cons rfl (.cons rfl .nil))))))))))))))) (HLe.refl _) rfl ?_
        rintro mz ms E I' loc' ⟨k, rfl, rfl, rfl, rfl, hk⟩
        refine X_seq (X_region ?_)
        refine XO_v0 (ev_cmp rfl rfl rfl) rfl rfl rfl ?_
        refine XO_nil (at_then ?_)
        refine X_seq ?_
        refine X_cond rfl (fun hc158 => ?_) (fun hc158 => ?_)
        ·
         have hlt_k : k < (pfW xs i).length := by have h := hc158; simp at h; omega
         obtain ⟨y, hy⟩ := hPf.at (show k < _ by omega)
         obtain ⟨y1, y2, y3, y4⟩ := pfW_in hy
         refine X_skip ?_
         refine at_then ?_
         refine X_seq ?_
         refine X_block ?_
         refine X_seq (X_region ?_)
         refine XO_v0 (ev_indexSl rfl rfl slt_77 hPf (fun hg => by first | omega | (simp [conj] at hg; omega))) rfl rfl rfl ?_
         refine XO_v0 (ev_loadA rfl agt_83 (fun hg => by exact Sl.getA hPf hy) rfl) rfl rfl rfl ?_
         refine XO_alloc zt_83 rfl rfl (fun b_21 => ?_)
         refine XO_storeA rfl rfl szt_83 rfl rfl rfl rfl (by repeat (first | exact Upd.here | apply Upd.there | apply upd_app)) ?_
         refine XO_nil (at_then ?_)
         refine X_seq (X_region ?_)
         refine XO_v0 (ev_indexArr rfl rfl art_83 (fun hg => by first | decide | omega)) rfl rfl rfl ?_
         refine XO_v0 (ev_load rfl sct_3 (fun hg => by exact Cell.h0 rfl)) rfl rfl rfl ?_
         refine XO_v0 (ev_cmp rfl rfl rfl) rfl rfl rfl ?_
         refine XO_v0 (ev_move rfl) rfl rfl rfl ?_
         refine XO_pushT 3 rfl rfl rfl ?_
         refine XO_v1 (ev_indexArr rfl rfl art_83 (fun hg => by first | decide | omega)) (.some rfl rfl rfl rfl gbt) rfl rfl rfl ?_
         refine XO_v1 (ev_load rfl sct_3 (fun hg => by exact Cell.h0 rfl)) (.some rfl rfl rfl rfl gbt) rfl rfl rfl ?_
         refine XO_v1 (ev_cmp rfl rfl rfl) (.some rfl rfl rfl rfl gbt) rfl rfl rfl ?_
         refine XO_and0 rfl rfl rfl rfl rfl ?_
         refine XO_nil (at_then ?_)
         refine X_cond rfl (fun hc168 => ?_) (fun hc168 => ?_)
         ·
          have hy5 : y.1 > 0 ∧ y.2 > 0 := by have h := hc168; simp at h; exact h
          have hps := pos_lt (xs := xs) (k := (y.1 - 1).toNat) (by omega)
          have hf1 : natF (sumF (wdW xs)) (y.1 - 1).toNat = (((sumF (wdW xs)) (y.1 - 1).toNat : Nat) : Int) := rfl
          have hf2 : natF (wdW xs) (y.1 - 1).toNat = (((wdW xs) (y.1 - 1).toNat : Nat) : Int) := rfl
          have hD := HLe.refl J30
          refine X_noP ?_
          refine X_drawS J30 [(b_21, .cells (encQ y).toArray 83 (0, 0))] mixed ?_
          refine XD_take 0 rfl (ev_load rfl sct_23 (fun hg => by exact hC16.any)) (.none rfl) rfl rfl rfl (by kernel_rfl) (by kernel_rfl) (by kernel_rfl) noP_ok hD (by repeat (first | exact .refl | exact subL_nil | refine .keep ?_ | refine .drop ?_ | refine subL_add ?_)) ?_
          refine XD_take 1 rfl (ev_load rfl sct_23 (fun hg => by exact hC10.any)) (.none rfl) rfl rfl rfl (by kernel_rfl) (by kernel_rfl) (by kernel_rfl) noP_ok hD (by repeat (first | exact .refl | exact subL_nil | refine .keep ?_ | refine .drop ?_ | refine subL_add ?_)) ?_
          refine XD_take 2 rfl (ev_indexArr rfl rfl art_83 (fun hg => by first | decide | omega)) (.none rfl) rfl rfl rfl (by kernel_rfl) (by kernel_rfl) (by kernel_rfl) noP_ok hD (by repeat (first | exact .refl | exact subL_nil | refine .keep ?_ | refine .drop ?_ | refine subL_add ?_)) ?_
          refine XD_take 3 rfl (ev_load rfl sct_3 (fun hg => by exact Cell.h0 rfl)) (.none rfl) rfl rfl rfl (by kernel_rfl) (by kernel_rfl) (by kernel_rfl) noP_ok hD (by repeat (first | exact .refl | exact subL_nil | refine .keep ?_ | refine .drop ?_ | refine subL_add ?_)) ?_
          refine XD_take 4 rfl (ev_arB rfl rfl rfl (fun hg => by first | omega | (simp [conj] at hg; omega))) (.none rfl) rfl rfl rfl (by kernel_rfl) (by kernel_rfl) (by kernel_rfl) noP_ok hD (by repeat (first | exact .refl | exact subL_nil | refine .keep ?_ | refine .drop ?_ | refine subL_add ?_)) ?_
          refine XD_take 5 rfl (ev_indexSl rfl rfl slt_23 hAt (fun hg => by first | omega | (simp [conj] at hg; omega))) (.none rfl) rfl rfl rfl (by kernel_rfl) (by kernel_rfl) (by kernel_rfl) noP_ok hD (by repeat (first | exact .refl | exact subL_nil | refine .keep ?_ | refine .drop ?_ | refine subL_add ?_)) ?_
          refine XD_take 6 rfl (ev_load rfl sct_3 (fun hg => by exact Sl.get0 (k := (y.1 - 1).toNat) hAt (rngL_at (by omega)) rfl)) (.none rfl) rfl rfl rfl (by kernel_rfl) (by kernel_rfl) (by kernel_rfl) noP_ok hD (by repeat (first | exact .refl | exact subL_nil | refine .keep ?_ | refine .drop ?_ | refine subL_add ?_)) ?_
          refine XD_take 7 rfl (ev_load rfl sct_23 (fun hg => by exact hC6.any)) (.none rfl) rfl rfl rfl (by kernel_rfl) (by kernel_rfl) (by kernel_rfl) noP_ok hD (by repeat (first | exact .refl | exact subL_nil | refine .keep ?_ | refine .drop ?_ | refine subL_add ?_)) ?_
          refine XD_take 8 rfl (ev_indexArr rfl rfl art_83 (fun hg => by first | decide | omega)) (.none rfl) rfl rfl rfl (by kernel_rfl) (by kernel_rfl) (by kernel_rfl) noP_ok hD (by repeat (first | exact .refl | exact subL_nil | refine .keep ?_ | refine .drop ?_ | refine subL_add ?_)) ?_
          refine XD_take 9 rfl (ev_load rfl sct_3 (fun hg => by exact Cell.h0 rfl)) (.none rfl) rfl rfl rfl (by kernel_rfl) (by kernel_rfl) (by kernel_rfl) noP_ok hD (by repeat (first | exact .refl | exact subL_nil | refine .keep ?_ | refine .drop ?_ | refine subL_add ?_)) ?_
          refine XD_take 10 rfl (ev_arB rfl rfl rfl (fun hg => by first | omega | (simp [conj] at hg; omega))) (.none rfl) rfl rfl rfl (by kernel_rfl) (by kernel_rfl) (by kernel_rfl) noP_ok hD (by repeat (first | exact .refl | exact subL_nil | refine .keep ?_ | refine .drop ?_ | refine subL_add ?_)) ?_
          refine XD_take 11 rfl (ev_indexSl rfl rfl slt_23 hWd (fun hg => by first | omega | (simp [conj] at hg; omega))) (.none rfl) rfl rfl rfl (by kernel_rfl) (by kernel_rfl) (by kernel_rfl) noP_ok hD (by repeat (first | exact .refl | exact subL_nil | refine .keep ?_ | refine .drop ?_ | refine subL_add ?_)) ?_
          refine XD_take 12 rfl (ev_load rfl sct_3 (fun hg => by exact Sl.get0 (k := (y.1 - 1).toNat) hWd (rngL_at (by omega)) rfl)) (.none rfl) rfl rfl rfl (by kernel_rfl) (by kernel_rfl) (by kernel_rfl) noP_ok hD (by repeat (first | exact .refl | exact subL_nil | refine .keep ?_ | refine .drop ?_ | refine subL_add ?_)) ?_
          refine XD_take 13 rfl (ev_arB rfl rfl rfl (fun hg => by first | omega | (simp [conj] at hg; omega))) (.none rfl) rfl rfl rfl (by kernel_rfl) (by kernel_rfl) (by kernel_rfl) noP_ok hD (by repeat (first | exact .refl | exact subL_nil | refine .keep ?_ | refine .drop ?_ | refine subL_add ?_)) ?_
          refine XD_take 14 rfl (ev_load rfl sct_23 (fun hg => by exact hC17.any)) (.none rfl) rfl rfl rfl (by kernel_rfl) (by kernel_rfl) (by kernel_rfl) noP_ok hD (by repeat (first | exact .refl | exact subL_nil | refine .keep ?_ | refine .drop ?_ | refine subL_add ?_)) ?_
          refine XD_take 15 rfl (ev_indexArr rfl rfl art_83 (fun hg => by first | decide | omega)) (.none rfl) rfl rfl rfl (by kernel_rfl) (by kernel_rfl) (by kernel_rfl) noP_ok hD (by repeat (first | exact .refl | exact subL_nil | refine .keep ?_ | refine .drop ?_ | refine subL_add ?_)) ?_
          refine XD_take 16 rfl (ev_load rfl sct_3 (fun hg => by exact Cell.h0 rfl)) (.none rfl) rfl rfl rfl (by kernel_rfl) (by kernel_rfl) (by kernel_rfl) noP_ok hD (by repeat (first | exact .refl | exact subL_nil | refine .keep ?_ | refine .drop ?_ | refine subL_add ?_)) ?_
          refine XD_take 17 rfl (ev_arB rfl rfl rfl (fun hg => by first | omega | (simp [conj] at hg; omega))) (.none rfl) rfl rfl rfl (by kernel_rfl) (by kernel_rfl) (by kernel_rfl) noP_ok hD (by repeat (first | exact .refl | exact subL_nil | refine .keep ?_ | refine .drop ?_ | refine subL_add ?_)) ?_
          refine XD_take 18 rfl (ev_indexSl rfl rfl slt_23 hL17 (fun hg => by first | omega | (simp [conj] at hg; omega))) (.none rfl) rfl rfl rfl (by kernel_rfl) (by kernel_rfl) (by kernel_rfl) noP_ok hD (by repeat (first | exact .refl | exact subL_nil | refine .keep ?_ | refine .drop ?_ | refine subL_add ?_)) ?_
          refine XD_take 19 rfl (ev_load rfl sct_3 (fun hg => by exact Sl.get0 (k := (y.2 - 1).toNat) hL17 (some_getD (d := 0) rfl (by omega)) rfl)) (.none rfl) rfl rfl rfl (by kernel_rfl) (by kernel_rfl) (by kernel_rfl) noP_ok hD (by repeat (first | exact .refl | exact subL_nil | refine .keep ?_ | refine .drop ?_ | refine subL_add ?_)) ?_
          refine XD_take 20 rfl (ev_indexOwn rfl rfl slt_23 (fun hg => by first | omega | (simp [conj] at hg; omega))) (.none rfl) rfl rfl rfl (by kernel_rfl) (by kernel_rfl) (by kernel_rfl) noP_ok hD (by repeat (first | exact .refl | exact subL_nil | refine .keep ?_ | refine .drop ?_ | refine subL_add ?_)) ?_
          refine XD_one 21 rfl (by kernel_rfl) ?_
          refine XO_store rfl rfl szt_3 rfl rfl (by repeat (first | exact Upd.here | apply Upd.there | apply upd_app)) (by rw [show natF (sumF (wdW xs)) (y.1 - 1).toNat + natF (wdW xs) (y.1 - 1).toNat = ((sumF (wdW xs) (y.1 - 1).toNat + wdW xs (y.1 - 1).toNat : Nat) : Int) from rfl]; exact bltI (by rw [rngL_len]; omega)) ?_
          refine XO_nil ?_
          refine at_D hD (by repeat (first | exact .refl | exact subL_nil | refine .keep ?_ | refine .drop ?_ | refine subL_add ?_)) ?_
          refine XD_done (by kernel_rfl) ?_
          refine at_noP ?_
          rw [show natF (sumF (wdW xs)) (y.1 - 1).toNat + natF (wdW xs) (y.1 - 1).toNat = ((sumF (wdW xs) (y.1 - 1).toNat + wdW xs (y.1 - 1).toNat : Nat) : Int) from rfl, cellsI_set, rngL_set]
          refine at_block_n ?_
          refine at_then ?_
          refine X_region ?_
          refine XO_v0 (ev_arB rfl rfl rfl (fun hg => by first | omega | (simp [conj] at hg; omega))) rfl rfl rfl ?_
          refine XO_v0 (ev_move rfl) rfl rfl rfl ?_
          refine XO_nil ?_
          exact at_metM rfl rfl rfl _ _ ⟨(pfW xs i).length - (k + 1), by omega, k + 1, rfl, rfl, rfl, by rw [prF_next hy, prF_yes hc168], by omega⟩ (.cons rfl (.cons rfl (.cons rfl (.cons rfl (.cons rfl (.cons rfl (.cons rfl (.cons rfl (.cons rfl (.cons rfl (.cons rfl (.cons rfl (.cons rfl (.cons rfl (.cons rfl .nil))))))))))))))) (by repeat (first | exact .refl | exact subL_left | refine subL_app ?_ | refine .drop ?_ | refine subL_add ?_))
         ·
          refine X_skip ?_
          refine at_block_n ?_
          refine at_then ?_
          refine X_region ?_
          refine XO_v0 (ev_arB rfl rfl rfl (fun hg => by first | omega | (simp [conj] at hg; omega))) rfl rfl rfl ?_
          refine XO_v0 (ev_move rfl) rfl rfl rfl ?_
          refine XO_nil ?_
          exact at_metM rfl rfl rfl _ _ ⟨(pfW xs i).length - (k + 1), by omega, k + 1, rfl, rfl, rfl, by rw [prF_next hy, prF_no hc168], by omega⟩ (.cons rfl (.cons rfl (.cons rfl (.cons rfl (.cons rfl (.cons rfl (.cons rfl (.cons rfl (.cons rfl (.cons rfl (.cons rfl (.cons rfl (.cons rfl (.cons rfl (.cons rfl .nil))))))))))))))) (by repeat (first | exact .refl | exact subL_left | refine subL_app ?_ | refine .drop ?_ | refine subL_add ?_))
        ·
         have hge_k : (pfW xs i).length ≤ k := by have h := hc158; simp at h; omega
         rw [List.take_of_length_le hge_k]
         refine X_exit ?_
         refine at_then_e ?_
         refine at_then_e ?_
         refine at_block_hit ?_
         refine at_then ?_
         refine X_seq (X_region ?_)
         refine XO_v0 (ev_move rfl) rfl rfl rfl ?_
         refine XO_v0 (ev_lenS rfl slt_23) rfl rfl rfl ?_
         refine XO_v0 (ev_arB rfl rfl rfl (fun hg => by first | omega | (simp [conj] at hg; omega))) rfl rfl rfl ?_
         refine XO_makeSlice mkt_23 rfl rfl (by first | omega | (simp; omega)) (by decide) rfl rfl (fun b_194 => ?_)
         refine XO_alloc zt_23 rfl rfl (fun b_22 => ?_)
         refine XO_store rfl rfl szt_23 rfl rfl (by repeat (first | exact Upd.here | apply Upd.there | apply upd_app)) rfl ?_
         refine XO_nil ?_
         have e1 : (((csW xs 0).length : Nat) : Int) + 1 = (((csW xs 0).length + 1 : Nat) : Int) := rfl
         rw [e1, show (((csW xs 0).length + 1 : Nat) : Int).toNat = (csW xs 0).length + 1 from rfl, cellsI_new, rngL_zero, nat_zero]
         refine X_freeze (b := b_22) (by repeat (first | exact Take.here | apply Take.there)) (fun I32 hI32 hb32 => ?_)
         have hW0 := hW0.mono hI32
         have hW := hW.mono hI32
         have hH := hH.mono hI32
         have hT := hT.mono hI32
         have hC6 := hC6.mono hI32
         have hPr := hPr.mono hI32
         have hC10 := hC10.mono hI32
         have hAt := hAt.mono hI32
         have hWd := hWd.mono hI32
         have hPs := hPs.mono hI32
         have hre := hre.mono hI32
         have hR := hR.mono hI32
         have hPf := hPf.mono hI32
         have hC16 := hC16.mono hI32
         have hC17 := hC17.mono hI32
         have hL17 := hL17.mono hI32
         have hIc := hIc.trans hI32
         have hB0 := hB0.trans hI32
         have hB6 := hB6.trans hI32
         have hC22 : Cell I32 [] b_22 0 (.slice (some ⟨b_194, 0, none⟩) ((csW xs 0).length + 1) ((csW xs 0).length + 1)) := .imm hb32 rfl
         refine at_then ?_
         refine X_seq ?_
         refine X_seq (X_region ?_)
         refine XO_v0 (ev_move rfl) rfl rfl rfl ?_
         refine XO_v0 (ev_move rfl) rfl rfl rfl ?_
         refine XO_v0 (ev_indexSl rfl rfl slt_76 hPs (fun hg => by first | omega | (simp [conj] at hg; omega))) rfl rfl rfl ?_
         refine XO_v0 (ev_load rfl sct_77 (fun hg => by exact Sl.get0 hPs hhp rfl)) rfl rfl rfl ?_
         refine XO_callM (cap := []) (vs := [_]) rfl rfl fun_34 .nil (w_alone _ _ _ _) rfl rfl ?_
         rintro vv33 I33 L33 hI33 ⟨rfl, b1, rfl, hb1⟩
         have hW0 := hW0.mono hI33
         have hW := hW.mono hI33
         have hH := hH.mono hI33
         have hT := hT.mono hI33
         have hC6 := hC6.mono hI33
         have hPr := hPr.mono hI33
         have hC10 := hC10.mono hI33
         have hAt := hAt.mono hI33
         have hWd := hWd.mono hI33
         have hPs := hPs.mono hI33
         have hre := hre.mono hI33
         have hR := hR.mono hI33
         have hPf := hPf.mono hI33
         have hC16 := hC16.mono hI33
         have hC17 := hC17.mono hI33
         have hL17 := hL17.mono hI33
         have hC22 := hC22.mono hI33
         have hIc := hIc.trans hI33
         have hB0 := hB0.trans hI33
         have hB6 := hB6.trans hI33
         refine XO_nil (at_then ?_)
         refine X_block ?_
         refine X_rangeFuncM2 (K := []) (L := (b_194, .cells (cellsI (rngL ((csW xs 0).length + 1) (natF (cnt [])))) 3 (0, 0)) :: (b127, .cells (cellsI (rngL (loW xs) ((alP (wdW xs) (csW xs i) ((pfW xs i).foldl (prF (wdW xs) (csW xs i)) (if i = 0 then txF (wdW xs) (csW xs 0) (csW xs 0).length else fun _ => 0)) []).1))) 3 (0, 0)) :: L) (en1 := en1Q) (en2 := en2Q) (xs := alW xs i) (fun pre I' loc' => loc' = (b_194, .cells (cellsI (rngL ((csW xs 0).length + 1) (natF (cnt pre)))) 3 (0, 0)) :: (b127, .cells (cellsI (rngL (loW xs) ((alP (wdW xs) (csW xs i) ((pfW xs i).foldl (prF (wdW xs) (csW xs i)) (if i = 0 then txF (wdW xs) (csW xs 0) (csW xs 0).length else fun _ => 0)) pre).1))) 3 (0, 0)) :: L) (fun _ _ _ _ => False) (fun pre x E2 I2 loc2 => E2 = [(10, capP b_10), (16, capP b16), (17, capP b17), (22, capP b_22), (23, .int .i64 x.1), (24, .int .i64 x.2)] ∧ loc2 = (b_194, .cells (cellsI (rngL ((csW xs 0).length + 1) (natF (cnt pre)))) 3 (0, 0)) :: (b127, .cells (cellsI (rngL (loW xs) ((alP (wdW xs) (csW xs i) ((pfW xs i).foldl (prF (wdW xs) (csW xs i)) (if i = 0 then txF (wdW xs) (csW xs 0) (csW xs 0).length else fun _ => 0)) pre).1))) 3 (0, 0)) :: L) rfl fun_55 (w_aloit hPf (by omega) (pfW_2 hrs i) hb1) rfl rfl rfl ?_ ?_ ?_ ?_
         ·
          rintro l9 pre x I1 loc1 H1 hpre hI1 rfl
          refine X_seq (X_region ?_)
          refine XO_v0 (ev_assign rfl) rfl rfl rfl ?_
          refine XO_nil (at_then ?_)
          refine X_region ?_
          refine XO_v0 (ev_assign rfl) rfl rfl rfl ?_
          refine XO_nil ?_
          exact at_met' _ ⟨HLe.refl _, rfl, rfl⟩ (.cons rfl (.cons rfl (.cons rfl (.cons rfl (.cons rfl (.cons rfl .nil))))))
         ·
          rintro l9 pre x E2 I2 loc2 H2 hpre hI2 ⟨rfl, rfl⟩
          have hW0 := hW0.mono hI2
          have hW := hW.mono hI2
          have hH := hH.mono hI2
          have hT := hT.mono hI2
          have hC6 := hC6.mono hI2
          have hPr := hPr.mono hI2
          have hC10 := hC10.mono hI2
          have hAt := hAt.mono hI2
          have hWd := hWd.mono hI2
          have hPs := hPs.mono hI2
          have hre := hre.mono hI2
          have hR := hR.mono hI2
          have hPf := hPf.mono hI2
          have hC16 := hC16.mono hI2
          have hC17 := hC17.mono hI2
          have hL17 := hL17.mono hI2
          have hC22 := hC22.mono hI2
          have hIc := hIc.trans hI2
          have hB0 := hB0.trans hI2
          have hB6 := hB6.trans hI2
          obtain ⟨x1, x2, x3, x4, x5⟩ := alW_in hpre
          have hcb := Nat.le_trans (@cnt_len (alW xs i) x.1.toNat) (alW_b hrs i)
          have hnc := natF_in (f := cnt pre) (a := x.1.toNat) (B := 128) (by omega)
          have hp2 := pos_lt2 x2 hlt_i x5
          have hf1 : natF (sumF (wdW xs)) x.1.toNat = (((sumF (wdW xs)) x.1.toNat : Nat) : Int) := rfl
          have hf2 : natF (cnt pre) x.1.toNat = (((cnt pre) x.1.toNat : Nat) : Int) := rfl
          refine X_block ?_
          refine X_seq ?_
          have hD := HLe.refl I2
          refine X_noP ?_
          refine X_drawS I2 [(b_194, .cells (cellsI (rngL ((csW xs 0).length + 1) (natF (cnt pre)))) 3 (0, 0))] mixed ?_
          refine XD_take 0 rfl (ev_load rfl sct_23 (fun hg => by exact hC16.any)) (.none rfl) rfl rfl rfl (by kernel_rfl) (by kernel_rfl) (by kernel_rfl) noP_ok hD (by repeat (first | exact .refl | exact subL_nil | refine .keep ?_ | refine .drop ?_ | refine subL_add ?_)) ?_
          refine XD_take 1 rfl (ev_load rfl sct_23 (fun hg => by exact hC10.any)) (.none rfl) rfl rfl rfl (by kernel_rfl) (by kernel_rfl) (by kernel_rfl) noP_ok hD (by repeat (first | exact .refl | exact subL_nil | refine .keep ?_ | refine .drop ?_ | refine subL_add ?_)) ?_
          refine XD_take 2 rfl (ev_move rfl) (.none rfl) rfl rfl rfl (by kernel_rfl) (by kernel_rfl) (by kernel_rfl) noP_ok hD (by repeat (first | exact .refl | exact subL_nil | refine .keep ?_ | refine .drop ?_ | refine subL_add ?_)) ?_
          refine XD_take 3 rfl (ev_indexSl rfl rfl slt_23 hAt (fun hg => by first | omega | (simp [conj] at hg; omega))) (.none rfl) rfl rfl rfl (by kernel_rfl) (by kernel_rfl) (by kernel_rfl) noP_ok hD (by repeat (first | exact .refl | exact subL_nil | refine .keep ?_ | refine .drop ?_ | refine subL_add ?_)) ?_
          refine XD_take 4 rfl (ev_load rfl sct_3 (fun hg => by exact Sl.get0 (k := x.1.toNat) hAt (rngL_at (by omega)) rfl)) (.none rfl) rfl rfl rfl (by kernel_rfl) (by kernel_rfl) (by kernel_rfl) noP_ok hD (by repeat (first | exact .refl | exact subL_nil | refine .keep ?_ | refine .drop ?_ | refine subL_add ?_)) ?_
          refine XD_take 5 rfl (ev_load rfl sct_23 (fun hg => by exact hC22.any)) (.none rfl) rfl rfl rfl (by kernel_rfl) (by kernel_rfl) (by kernel_rfl) noP_ok hD (by repeat (first | exact .refl | exact subL_nil | refine .keep ?_ | refine .drop ?_ | refine subL_add ?_)) ?_
          refine XD_take 6 rfl (ev_move rfl) (.none rfl) rfl rfl rfl (by kernel_rfl) (by kernel_rfl) (by kernel_rfl) noP_ok hD (by repeat (first | exact .refl | exact subL_nil | refine .keep ?_ | refine .drop ?_ | refine subL_add ?_)) ?_
          refine XD_take 7 rfl (ev_indexOwn rfl rfl slt_23 (fun hg => by first | omega | (simp [conj] at hg; omega))) (.none rfl) rfl rfl rfl (by kernel_rfl) (by kernel_rfl) (by kernel_rfl) noP_ok hD (by repeat (first | exact .refl | exact subL_nil | refine .keep ?_ | refine .drop ?_ | refine subL_add ?_)) ?_
          refine XD_take 8 rfl (ev_load rfl sct_3 (fun hg => by exact cellI_at (rngL_at (by omega)))) (.none rfl) rfl rfl rfl (by kernel_rfl) (by kernel_rfl) (by kernel_rfl) noP_ok hD (by repeat (first | exact .refl | exact subL_nil | refine .keep ?_ | refine .drop ?_ | refine subL_add ?_)) ?_
          refine XD_take 9 rfl (ev_arB rfl rfl rfl (fun hg => by first | omega | (simp [conj] at hg; omega))) (.none rfl) rfl rfl rfl (by kernel_rfl) (by kernel_rfl) (by kernel_rfl) noP_ok hD (by repeat (first | exact .refl | exact subL_nil | refine .keep ?_ | refine .drop ?_ | refine subL_add ?_)) ?_
          refine XD_take 10 rfl (ev_load rfl sct_23 (fun hg => by exact hC17.any)) (.none rfl) rfl rfl rfl (by kernel_rfl) (by kernel_rfl) (by kernel_rfl) noP_ok hD (by repeat (first | exact .refl | exact subL_nil | refine .keep ?_ | refine .drop ?_ | refine subL_add ?_)) ?_
          refine XD_take 11 rfl (ev_move rfl) (.none rfl) rfl rfl rfl (by kernel_rfl) (by kernel_rfl) (by kernel_rfl) noP_ok hD (by repeat (first | exact .refl | exact subL_nil | refine .keep ?_ | refine .drop ?_ | refine subL_add ?_)) ?_
          refine XD_take 12 rfl (ev_indexSl rfl rfl slt_23 hL17 (fun hg => by first | omega | (simp [conj] at hg; omega))) (.none rfl) rfl rfl rfl (by kernel_rfl) (by kernel_rfl) (by kernel_rfl) noP_ok hD (by repeat (first | exact .refl | exact subL_nil | refine .keep ?_ | refine .drop ?_ | refine subL_add ?_)) ?_
          refine XD_take 13 rfl (ev_load rfl sct_3 (fun hg => by exact Sl.get0 (k := x.2.toNat) hL17 (some_getD (d := 0) rfl (by omega)) rfl)) (.none rfl) rfl rfl rfl (by kernel_rfl) (by kernel_rfl) (by kernel_rfl) noP_ok hD (by repeat (first | exact .refl | exact subL_nil | refine .keep ?_ | refine .drop ?_ | refine subL_add ?_)) ?_
          refine XD_take 14 rfl (ev_indexOwn rfl rfl slt_23 (fun hg => by first | omega | (simp [conj] at hg; omega))) (.none rfl) rfl rfl rfl (by kernel_rfl) (by kernel_rfl) (by kernel_rfl) noP_ok hD (by repeat (first | exact .refl | exact subL_nil | refine .keep ?_ | refine .drop ?_ | refine subL_add ?_)) ?_
          refine XD_one 15 rfl (by kernel_rfl) ?_
          refine XO_store rfl rfl szt_3 rfl rfl (by repeat (first | exact Upd.here | apply Upd.there | apply upd_app)) (by rw [show natF (sumF (wdW xs)) x.1.toNat + natF (cnt pre) x.1.toNat = ((sumF (wdW xs) x.1.toNat + cnt pre x.1.toNat : Nat) : Int) from rfl]; exact bltI (by rw [rngL_len]; omega)) ?_
          refine XO_nil ?_
          refine at_D hD (by repeat (first | exact .refl | exact subL_nil | refine .keep ?_ | refine .drop ?_ | refine subL_add ?_)) ?_
          refine XD_done (by kernel_rfl) ?_
          refine at_noP ?_
          rw [show natF (sumF (wdW xs)) x.1.toNat + natF (cnt pre) x.1.toNat = ((sumF (wdW xs) x.1.toNat + cnt pre x.1.toNat : Nat) : Int) from rfl, cellsI_set, rngL_set, ← alP_snoc]
          refine at_then ?_
          refine X_region ?_
          refine XO_v0 (ev_load rfl sct_23 (fun hg => by exact hC22.any)) rfl rfl rfl ?_
          refine XO_v0 (ev_move rfl) rfl rfl rfl ?_
          refine XO_v0 (ev_indexOwn rfl rfl slt_23 (fun hg => by first | omega | (simp [conj] at hg; omega))) rfl rfl rfl ?_
          refine XO_v0 (ev_load rfl sct_3 (fun hg => by exact cellI_at (rngL_at (by omega)))) rfl rfl rfl ?_
          refine XO_v0 (ev_arB rfl rfl rfl (fun hg => by first | omega | (simp [conj] at hg; omega))) rfl rfl rfl ?_
          refine XO_v0 (ev_indexOwn rfl rfl slt_23 (fun hg => by first | omega | (simp [conj] at hg; omega))) rfl rfl rfl ?_
          refine XO_store rfl rfl szt_3 rfl rfl (by repeat (first | exact Upd.here | apply Upd.there | apply upd_app)) (bltN (by rw [rngL_len]; omega)) ?_
          refine XO_nil ?_
          rw [cellsI_setN, rngL_set, show natF (cnt pre) x.1.toNat + 1 = ((cnt pre x.1.toNat + 1 : Nat) : Int) from rfl, nat_upd, ← cnt_snoc]
          refine at_block_n ?_
          exact at_round2 ⟨HLe.refl _, rfl⟩ .refl
         ·
          rintro bd I1 loc1 hI1 rfl
          have hW0 := hW0.mono hI1
          have hW := hW.mono hI1
          have hH := hH.mono hI1
          have hT := hT.mono hI1
          have hC6 := hC6.mono hI1
          have hPr := hPr.mono hI1
          have hC10 := hC10.mono hI1
          have hAt := hAt.mono hI1
          have hWd := hWd.mono hI1
          have hPs := hPs.mono hI1
          have hre := hre.mono hI1
          have hR := hR.mono hI1
          have hPf := hPf.mono hI1
          have hC16 := hC16.mono hI1
          have hC17 := hC17.mono hI1
          have hL17 := hL17.mono hI1
          have hC22 := hC22.mono hI1
          have hIc := hIc.trans hI1
          have hB0 := hB0.trans hI1
          have hB6 := hB6.trans hI1
          refine at_block_n ?_
          refine at_then ?_
          refine X_freeze (b := b127) (by repeat (first | exact Take.here | apply Take.there)) (fun I34 hI34 hb34 => ?_)
          have hW0 := hW0.mono hI34
          have hW := hW.mono hI34
          have hH := hH.mono hI34
          have hT := hT.mono hI34
          have hC6 := hC6.mono hI34
          have hPr := hPr.mono hI34
          have hC10 := hC10.mono hI34
          have hAt := hAt.mono hI34
          have hWd := hWd.mono hI34
          have hPs := hPs.mono hI34
          have hre := hre.mono hI34
          have hR := hR.mono hI34
          have hPf := hPf.mono hI34
          have hC16 := hC16.mono hI34
          have hC17 := hC17.mono hI34
          have hL17 := hL17.mono hI34
          have hC22 := hC22.mono hI34
          have hIc := hIc.trans hI34
          have hB0 := hB0.trans hI34
          have hB6 := hB6.trans hI34
          have hRow : Sl I34 1 encI (some ⟨b127, 0, none⟩) (loW xs) (loW xs) (rowW xs i) := Sl.lit (rowW xs i) rngL_len encI_len hb34
          refine X_region ?_
          refine XO_v0 (ev_move rfl) rfl rfl rfl ?_
          refine XO_v0 (ev_load rfl sct_23 (fun hg => by exact hC16.any)) rfl rfl rfl ?_
          refine XO_buildSlice (ps := [(0, _)]) (m := [encH ⟨some ⟨b127, 0, none⟩, loW xs, loW xs⟩]) elt_22 rfl (.cons rfl (.nil)) rfl (by simp [encH_len, encI_len]) (by decide) (by decide) rfl rfl (fun b_225 => ?_)
          refine XO_append (v := _) (ys := [(⟨some ⟨b127, 0, none⟩, loW xs, loW xs⟩ : Hd)].flatMap encH) (L := L) rfl rfl elt_22 hO (by repeat (first | exact .cons .here .nil | exact split_all | exact split_app | apply split_cons | apply split_skip)) ⟨rfl, fun _ => rfl, by repeat (first | exact Cells.here | apply Cells.there | apply Cells.app)⟩ (one_H _) (by omega) rfl rfl ?_
          intro v9 L9 hO9 _; rw [← List.flatMap_append] at hO9
          refine XO_v0 (ev_assign rfl) rfl rfl rfl ?_
          refine XO_nil ?_
          refine at_block_n ?_
          refine at_then ?_
          refine X_region ?_
          refine XO_v0 (ev_arB rfl rfl rfl (fun hg => by first | omega | (simp [conj] at hg; omega))) rfl rfl rfl ?_
          refine XO_v0 (ev_move rfl) rfl rfl rfl ?_
          refine XO_nil ?_
          exact at_metM rfl rfl rfl _ _ ⟨xs.length - (i + 1), by omega, i + 1, _, _, _, rfl, rfl, hB6, rfl, by omega, hO9, by rw [range_map]; exact hre.snoc (hd := ⟨some ⟨b127, 0, none⟩, loW xs, loW xs⟩) hRow⟩ (.cons rfl (.cons rfl (.cons rfl (.cons rfl (.cons rfl (.cons rfl (.cons rfl (.cons rfl (.cons rfl .nil))))))))) (by repeat (first | exact .refl | exact subL_left | refine subL_app ?_ | refine .drop ?_ | refine subL_add ?_))
         ·
          rintro c bd pre I1 loc1 hI1 hpre hF; exact hF.elim
     ·
      have hge_i : xs.length ≤ i := by have h := hc122; simp at h; omega
      obtain rfl : i = xs.length := by omega
      refine X_exit ?_
      refine at_then_e ?_
      refine at_then_e ?_
      refine at_block_hit ?_
      refine at_then ?_
      refine X_seq (X_region ?_)
      refine XO_v0 (ev_move rfl) rfl rfl rfl ?_
      refine XO_v0 (ev_assign rfl) rfl rfl rfl ?_
      refine XO_v0 (ev_assign rfl) rfl rfl rfl ?_
      refine XO_nil (at_then ?_)
      refine X_ret ?_
      first
      | exact at_retMs (L := L) (fun a ha w hw => res2 rfl rfl rfl a ha w) (fun w hw => by obtain ⟨I9, av9, c9, h1', h2', e9, h4'⟩ := OwnS.freeze (R := []) hO encH_len (by decide) (by rw [List.append_nil]; exact hw); cases e9; exact ⟨_, I9, [], rfl, hIc.trans h1', h2', rfl, va2, vc2, by rw [t1, t2, List.length_map, List.length_range], by rw [t2, List.length_map, List.length_range]; exact ⟨os, h4', hre.mono h1'⟩⟩)
end Go.Proofs.YthcffaheamikgaaDoor
end
section
namespace Go.Proofs.YthcffaheamikgaaDoor
open Go Go.Kn Go.Proofs
structure Em where
  locus : Int
  code : Int
  reason : Int
def encEm (e : Em) : List Value := [.int .i64 e.locus, .int .i64 e.code, .int .i64 e.reason]
theorem encEm_len (e : Em) : (encEm e).length = 3 := rfl
theorem one_Em (xs : List Em) : allOne (xs.flatMap encEm) = true := allOne_flat (fun _ => rfl) xs
def r1F (code : Int) (b : Bool) : Bool := (b && code != 0) && code != 8589934592
def r2F (code : Int) (b : Bool) : Bool := (signE code == 0) && !b
def r3F (code : Int) (_ : Bool) : Bool := code == 0
def rsF (r code : Int) (b : Bool) : Bool := if r = 1 then r1F code b else if r = 2 then r2F code b else if r = 3 then r3F code b else false
def thereF (rows : List (List Int)) (e : Em) : Bool := rows.any fun r => r.getD e.locus.toNat 0 == e.code
/-- Is an emendation wrong, behind the locus l, of so many loci? -/
def badE (rows : List (List Int)) (m : Nat) (l : Int) (e : Em) : Bool := decide (e.locus ≤ l) || (decide (e.locus ≥ (m : Int)) || !rsF e.reason e.code (thereF rows e))
def goodE (rows : List (List Int)) (m : Nat) : Int → List Em → Bool
  | _, [] => true
  | l, e :: es => !badE rows m l e && goodE rows m e.locus es
theorem goodE_bad {rows : List (List Int)} {m k : Nat} {l : Int} {es : List Em} {e : Em} (h : es[k]? = some e) (hb : badE rows m l e = true) : goodE rows m l (es.drop k) = false := by rw [drop_cons h]; unfold goodE; rw [hb]; rfl
theorem goodE_step {rows : List (List Int)} {m k : Nat} {l : Int} {es : List Em} {e : Em} (h : es[k]? = some e) (hb : badE rows m l e = false) : goodE rows m l (es.drop k) = goodE rows m e.locus (es.drop (k + 1)) := by
  rw [drop_cons h]
  show (!badE rows m l e && goodE rows m e.locus (es.drop (k + 1))) = _
  rw [hb]; rfl
theorem goodE_end {rows : List (List Int)} {m k : Nat} {l : Int} {es : List Em} (h : es.length ≤ k) : goodE rows m l (es.drop k) = true := by rw [List.drop_eq_nil_of_le h]; rfl
theorem badE_1 {rows : List (List Int)} {m : Nat} {l : Int} {e : Em} (h1 : e.reason ≠ 1) (h2 : e.reason ≠ 2) (h3 : e.reason ≠ 3) : badE rows m l e = true := by unfold badE rsF; rw [if_neg h1, if_neg h2, if_neg h3]; simp
theorem badE_2 {rows : List (List Int)} {m : Nat} {l : Int} {e : Em} (h : decide (e.locus ≤ l) = true) : badE rows m l e = true := by unfold badE; rw [h]; rfl
theorem badE_3 {rows : List (List Int)} {m : Nat} {l : Int} {e : Em} (h : decide (e.locus ≥ (m : Int)) = true) : badE rows m l e = true := by unfold badE; rw [h]; simp
theorem badE_4 {rows : List (List Int)} {m : Nat} {l : Int} {e : Em} {t : Bool} (h1 : decide (e.locus ≤ l) = false) (h2 : decide (e.locus ≥ (m : Int)) = false) (h3 : (!rsF e.reason e.code (thereF rows e)) = t) : badE rows m l e = t := by unfold badE; rw [h1, h2, h3]; rfl
theorem em_three (rows : List (List Int)) (m : Nat) (l : Int) (e : Em) : decide (e.locus ≤ l) = true ∨ (decide (e.locus ≤ l) = false ∧ decide (e.locus ≥ (m : Int)) = true) ∨ (decide (e.locus ≤ l) = false ∧ decide (e.locus ≥ (m : Int)) = false) := by
  cases decide (e.locus ≤ l) <;> cases decide (e.locus ≥ (m : Int)) <;> simp
/-! ### The readings -/
/-- What is left of the emendations at a locus. -/
def lfK (es : List Em) : Nat → List Em
  | 0 => es
  | k + 1 => match lfK es k with
    | [] => []
    | e :: r => if e.locus = (k : Int) then r else e :: r
def baseK (rows : List (List Int)) (cl : List Int) (k : Nat) : Int := if (rootF rows cl k).any (fun y => (rows.getD 0 []).getD k 0 == y) = true then (rows.getD 0 []).getD k 0 else (rootF rows cl k).getD 0 0
def readK (rows : List (List Int)) (cl : List Int) (es : List Em) (k : Nat) : Int := match lfK es k with
  | [] => baseK rows cl k
  | e :: _ => if e.locus = (k : Int) then e.code else baseK rows cl k
def readsL (rows : List (List Int)) (cl : List Int) (es : List Em) : List Int := (List.range (rows.getD 0 []).length).map (readK rows cl es)
theorem lf_nil {es : List Em} {k : Nat} (h : lfK es k = []) : lfK es (k + 1) = [] := by show (match lfK es k with | [] => [] | e :: r => if e.locus = (k : Int) then r else e :: r) = _; rw [h]
theorem lf_yes {es : List Em} {k : Nat} {e : Em} {r : List Em} (h : lfK es k = e :: r) (he : e.locus = (k : Int)) : lfK es (k + 1) = r := by show (match lfK es k with | [] => [] | e :: r => if e.locus = (k : Int) then r else e :: r) = _; rw [h]; exact if_pos he
theorem lf_no {es : List Em} {k : Nat} {e : Em} {r : List Em} (h : lfK es k = e :: r) (he : ¬ e.locus = (k : Int)) : lfK es (k + 1) = e :: r := by show (match lfK es k with | [] => [] | e :: r => if e.locus = (k : Int) then r else e :: r) = _; rw [h]; exact if_neg he
theorem rd_nil {rows : List (List Int)} {cl : List Int} {es : List Em} {k : Nat} (h : lfK es k = []) : readK rows cl es k = baseK rows cl k := by unfold readK; rw [h]
theorem rd_yes {rows : List (List Int)} {cl : List Int} {es : List Em} {k : Nat} {e : Em} {r : List Em} (h : lfK es k = e :: r) (he : e.locus = (k : Int)) : readK rows cl es k = e.code := by unfold readK; rw [h]; exact if_pos he
theorem rd_no {rows : List (List Int)} {cl : List Int} {es : List Em} {k : Nat} {e : Em} {r : List Em} (h : lfK es k = e :: r) (he : ¬ e.locus = (k : Int)) : readK rows cl es k = baseK rows cl k := by unfold readK; rw [h]; exact if_neg he
def makE (rows : List (List Int)) (no : Int) (cl : List Int) (es : List Em) : Int :=
  if costE rows cl ≠ 0 then costE rows cl else if (decide (no < 0) || decide (no > 1048576)) = true then 430 else if goodE rows (rows.getD 0 []).length (-1) es = true then 0 else 430
theorem makE_1 {rows : List (List Int)} {no : Int} {cl : List Int} {es : List Em} (h : costE rows cl ≠ 0) : makE rows no cl es = costE rows cl := by unfold makE; rw [if_pos h]
theorem makE_2 {rows : List (List Int)} {no : Int} {cl : List Int} {es : List Em} (h : costE rows cl = 0) (h2 : (decide (no < 0) || decide (no > 1048576)) = true) : makE rows no cl es = 430 := by unfold makE; rw [if_neg (by omega), if_pos h2]
theorem makE_3 {rows : List (List Int)} {no : Int} {cl : List Int} {es : List Em} (h : costE rows cl = 0) (h2 : (decide (no < 0) || decide (no > 1048576)) = false) (h3 : goodE rows (rows.getD 0 []).length (-1) es = false) : makE rows no cl es = 430 := by unfold makE; rw [if_neg (by omega), if_neg (by rw [h2]; decide), if_neg (by rw [h3]; decide)]
theorem makE_4 {rows : List (List Int)} {no : Int} {cl : List Int} {es : List Em} (h : costE rows cl = 0) (h2 : (decide (no < 0) || decide (no > 1048576)) = false) (h3 : goodE rows (rows.getD 0 []).length (-1) es = true) : makE rows no cl es = 0 := by unfold makE; rw [if_neg (by omega), if_neg (by rw [h2]; decide), if_pos h3]
/-- An edition: its number and the three lists, with their heads. -/
def encEd (no : Int) (a1 : Option Addr) (n1 c1 : Nat) (a2 : Option Addr) (n2 c2 : Nat) (a3 : Option Addr) (n3 c3 : Nat) : List Value := [.int .i64 no, .slice a1 n1 c1, .slice a2 n2 c2, .slice a3 n3 c3]
def SlEd (I : HMap) (vs : List Value) (no : Int) (cl : List Int) (es : List Em) (rd : List Int) : Prop := ∃ a1 n1 c1 a2 n2 c2 a3 n3 c3, vs = encEd no a1 n1 c1 a2 n2 c2 a3 n3 c3 ∧ Sl I 1 encI a1 n1 c1 cl ∧ Sl I 3 encEm a2 n2 c2 es ∧ Sl I 1 encI a3 n3 c3 rd
def MakQ (rows : List (List Int)) (no : Int) (cl : List Int) (es : List Em) : Value → HMap → Go.Kn.Loc → Prop := fun v I' L => L = [] ∧ ∃ vs, v = .tuple #[.agg vs.toArray, .int .i64 (makE rows no cl es)] ∧
  ((makE rows no cl es = 0 ∧ SlEd I' vs no cl es (readsL rows cl es)) ∨ (makE rows no cl es ≠ 0 ∧ SlEd I' vs 0 [] [] []))
theorem roots_at {rows : List (List Int)} {cl : List Int} {k : Nat} (h : costE rows cl = 0) (hk : k < (rows.getD 0 []).length) : (rootsL rows cl)[k]? = some (rootF rows cl k) := by rw [roots_ok h, List.getElem?_map, List.getElem?_range hk]; rfl
theorem roots_len {rows : List (List Int)} {cl : List Int} (h : costE rows cl = 0) : (rootsL rows cl).length = (rows.getD 0 []).length := by rw [roots_ok h, List.length_map, List.length_range]
end Go.Proofs.YthcffaheamikgaaDoor
end
section
namespace Go.Proofs.YthcffaheamikgaaDoor
open Go Go.Kn Go.Proofs
theorem elt_38 : ElT Tryd.prog 38 57 3 24 := .of (by kernel_rfl)
theorem fld_57_0 : FieldAt Tryd.prog 57 0 0 := .of (by kernel_rfl)
theorem fld_57_1 : FieldAt Tryd.prog 57 1 1 := .of (by kernel_rfl)
theorem fun_37 : Fun Tryd.prog 37 := .of Tryd.func37 (by kernel_rfl) (by kernel_rfl)
theorem fun_42 : Fun Tryd.prog 42 := .of Tryd.func42 (by kernel_rfl) (by kernel_rfl)
theorem fun_61 : Fun Tryd.prog 61 := .of Tryd.func61 (by kernel_rfl) (by kernel_rfl)
theorem mpt_84 : MpT Tryd.prog 84 3 88 (.agg #[.nilFunc]) := ⟨by kernel_rfl, .of (by kernel_rfl)⟩
theorem plt_47 : PlT Tryd.prog 47 #[(0, 1), (1, 1)] (.agg #[(.int .i64 0), (.int .i64 0)]) := ⟨.of (by kernel_rfl), by kernel_rfl, fun w => by kernel_rfl⟩
theorem plt_88 : PlT Tryd.prog 88 #[(0, 1)] (.agg #[.nilFunc]) := ⟨.of (by kernel_rfl), by kernel_rfl, fun w => by kernel_rfl⟩
theorem w_rs1 (I : HMap) (code : Int) (b : Bool) : RetV Tryd.prog 56 [.int .i64 code, .bool b] I (.bool (r1F code b)) := by
 intro g H w hw
 refine enter Tryd.func56 rfl Tryd.ntmps56 rfl hw ?_
 refine X_seq (X_region ?_)
 refine XO_v0 (ev_assign rfl) rfl rfl rfl ?_
 refine XO_nil (at_then ?_)
 refine X_seq (X_region ?_)
 refine XO_v0 (ev_move rfl) rfl rfl rfl ?_
 refine XO_v0 (ev_move rfl) rfl rfl rfl ?_
 refine XO_pushT 1 rfl rfl rfl ?_
 refine XO_v1 (ev_move rfl) (.some rfl rfl rfl rfl gbt) rfl rfl rfl ?_
 refine XO_v1 (ev_cmp rfl rfl rfl) (.some rfl rfl rfl rfl gbt) rfl rfl rfl ?_
 refine XO_and0 rfl rfl rfl rfl rfl ?_
 refine XO_v0 (ev_move rfl) rfl rfl rfl ?_
 refine XO_pushT 5 rfl rfl rfl ?_
 refine XO_v1 (ev_move rfl) (.some rfl rfl rfl rfl gbt) rfl rfl rfl ?_
 refine XO_v1 (ev_cmp rfl rfl rfl) (.some rfl rfl rfl rfl gbt) rfl rfl rfl ?_
 refine XO_and0 rfl rfl rfl rfl rfl ?_
 refine XO_v0 (ev_assign rfl) rfl rfl rfl ?_
 refine XO_nil (at_then ?_)
 refine X_ret ?_
 exact at_ret1 rfl rfl (fun w hw => ⟨by rfl, hw.drop⟩)
theorem w_rs2 (I : HMap) (code : Int) (b : Bool) : RetV Tryd.prog 57 [.int .i64 code, .bool b] I (.bool (r2F code b)) := by
 intro g H w hw
 refine enter Tryd.func57 rfl Tryd.ntmps57 rfl hw ?_
 have hIc := HLe.refl I
 refine X_seq (X_region ?_)
 refine XO_v0 (ev_assign rfl) rfl rfl rfl ?_
 refine XO_nil (at_then ?_)
 refine X_seq (X_region ?_)
 refine XO_v0 (ev_move rfl) rfl rfl rfl ?_
 refine XO_callV0 (cap := []) (vs := [_]) rfl rfl fun_43 (w_Sign _ _) rfl rfl ?_
 refine XO_v0 (ev_move rfl) rfl rfl rfl ?_
 refine XO_v0 (ev_extract rfl rfl) rfl rfl rfl ?_
 refine XO_v0 (ev_extract rfl rfl) rfl rfl rfl ?_
 refine XO_alloc zt_49 rfl rfl (fun b_5 => ?_)
 refine XO_storeA rfl rfl szt_49 rfl rfl rfl rfl (by repeat (first | exact Upd.here | apply Upd.there | apply upd_app)) ?_
 refine XO_v0 (ev_assign rfl) rfl rfl rfl ?_
 refine XO_nil (at_then ?_)
 refine X_seq (X_region ?_)
 refine XO_v0 (ev_move rfl) rfl rfl rfl ?_
 refine XO_v0 (ev_cmp rfl rfl rfl) rfl rfl rfl ?_
 refine XO_v0 (ev_move rfl) rfl rfl rfl ?_
 refine XO_pushT 2 rfl rfl rfl ?_
 refine XO_v1 (ev_move rfl) (.some rfl rfl rfl rfl gbt) rfl rfl rfl ?_
 refine XO_v1 (ev_not rfl) (.some rfl rfl rfl rfl gbt) rfl rfl rfl ?_
 refine XO_and0 rfl rfl rfl rfl rfl ?_
 refine XO_v0 (ev_assign rfl) rfl rfl rfl ?_
 refine XO_nil (at_then ?_)
 refine X_ret ?_
 exact at_ret1 rfl rfl (fun w hw => ⟨by rfl, (hw.mono hIc).drop⟩)
theorem w_rs3 (I : HMap) (code : Int) (b : Bool) : RetV Tryd.prog 58 [.int .i64 code, .bool b] I (.bool (r3F code b)) := by
 intro g H w hw
 refine enter Tryd.func58 rfl Tryd.ntmps58 rfl hw ?_
 refine X_seq (X_region ?_)
 refine XO_v0 (ev_assign rfl) rfl rfl rfl ?_
 refine XO_nil (at_then ?_)
 refine X_seq (X_region ?_)
 refine XO_v0 (ev_move rfl) rfl rfl rfl ?_
 refine XO_v0 (ev_cmp rfl rfl rfl) rfl rfl rfl ?_
 refine XO_v0 (ev_assign rfl) rfl rfl rfl ?_
 refine XO_nil (at_then ?_)
 refine X_ret ?_
 exact at_ret1 rfl rfl (fun w hw => ⟨by rfl, hw.drop⟩)
def rsV (f : Nat) : Value := .agg #[.func (.func f) #[] #[]]
def rsM : List (Int × Nat) := [(1, 56), (2, 57), (3, 58)]
theorem w_reasons (I : HMap) : RetM Tryd.prog 35 [] I [] (fun v I' L => L = [] ∧ ∃ r, v = .map (some r) ∧ I' r = some (mapO (Value.int .i64) rsV rsM)) := by
 intro g H w hw
 refine enter Tryd.func35 rfl Tryd.ntmps35 rfl hw ?_
 have hIc := HLe.refl I
 refine X_seq (X_region ?_)
 refine XO_v0 (ev_assign rfl) rfl rfl rfl ?_
 refine XO_nil (at_then ?_)
 refine X_seq (X_region ?_)
 refine XO_makeMap rfl rfl (fun r_1 => ?_)
 refine XO_v0 (ev_buildL (ps := [(0, _)]) [_] plt_88 rfl rfl) rfl rfl rfl ?_
 refine XO_insert (m := []) (ek := Value.int .i64) (ev := rsV) 56 mpt_84 key_3 rfl rfl rfl rfl (by repeat (first | exact Upd.here | apply Upd.there | apply upd_app)) ?_
 refine XO_v0 (ev_buildL (ps := [(0, _)]) [_] plt_88 rfl rfl) rfl rfl rfl ?_
 refine XO_insert (m := [(1, 56)]) (ek := Value.int .i64) (ev := rsV) 57 mpt_84 key_3 rfl rfl rfl rfl (by repeat (first | exact Upd.here | apply Upd.there | apply upd_app)) ?_
 refine XO_v0 (ev_buildL (ps := [(0, _)]) [_] plt_88 rfl rfl) rfl rfl rfl ?_
 refine XO_insert (m := [(1, 56), (2, 57)]) (ek := Value.int .i64) (ev := rsV) 58 mpt_84 key_3 rfl rfl rfl rfl (by repeat (first | exact Upd.here | apply Upd.there | apply upd_app)) ?_
 refine XO_v0 (ev_move rfl) rfl rfl rfl ?_
 refine XO_v0 (ev_assign rfl) rfl rfl rfl ?_
 refine XO_nil (at_then ?_)
 refine X_ret ?_
 refine at_freeze .here (fun I9 h9 e9 => ?_)
 exact at_ret1 rfl rfl (fun w hw => ⟨_, I9, [], rfl, hIc.trans h9, hw, rfl, r_1, rfl, e9⟩)
theorem w_mkc {I : HMap} {av : Option Addr} {n c : Nat} {v : List Int} (hQ : Sl I 1 encI av n c v) {b : Nat} {e : Em} (hb : I b = some (.cells (encEm e).toArray 57 (0, 0))) (h0 : 0 ≤ e.locus) (hl : e.locus.toNat < n) : RetV Tryd.prog 37 [.slice av n c, capP b] I (.bool (v.getD e.locus.toNat 0 == e.code)) := by
 intro g H w hw
 refine enter Tryd.func37 rfl Tryd.ntmps37 rfl hw ?_
 refine X_seq (X_region ?_)
 refine XO_v0 (ev_assign rfl) rfl rfl rfl ?_
 refine XO_nil (at_then ?_)
 refine X_seq ?_
 refine X_draw mixed (by kernel_rfl) ?_
 refine XQ_v0 (ev_move rfl) rfl rfl rfl ?_
 refine XQ_v0 (ev_fieldAddr rfl fld_57_0) rfl rfl rfl ?_
 refine XQ_v0 (ev_load rfl sct_3 (fun hg => by exact .imm hb rfl)) rfl rfl rfl ?_
 refine XQ_v0 (ev_indexSl rfl rfl slt_23 hQ (fun hg => by first | omega | (simp [conj] at hg; omega))) rfl rfl rfl ?_
 refine XQ_v0 (ev_load rfl sct_3 (fun hg => by exact Sl.get0 (k := e.locus.toNat) hQ (some_getD (d := 0) hQ.len hl) rfl)) rfl rfl rfl ?_
 refine XQ_v0 (ev_fieldAddr rfl fld_57_1) rfl rfl rfl ?_
 refine XQ_v0 (ev_load rfl sct_3 (fun hg => by exact .imm hb rfl)) rfl rfl rfl ?_
 refine XQ_v0 (ev_cmp rfl rfl rfl) rfl rfl rfl ?_
 refine XQ_v0 (ev_assign rfl) rfl rfl rfl ?_
 refine XQ_nil ?_
 refine at_then ?_
 refine X_ret ?_
 exact at_ret1 rfl rfl (fun w hw => ⟨by rfl, hw.drop⟩)
theorem w_indexM {I : HMap} {bv : Option Addr} {n2 c2 : Nat} {rows : List (List Int)} (hV : SlN I bv n2 c2 rows) (hn : n2 ≤ 100000) {b : Nat} {e : Em} (hb : I b = some (.cells (encEm e).toArray 57 (0, 0))) (h0 : 0 ≤ e.locus) (hl : ∀ r ∈ rows, e.locus.toNat < r.length) : RetV Tryd.prog 59 [.slice bv n2 c2, .func (.func 37) #[] [capP b].toArray] I (.int .i64 (idxF (fun r : List Int => r.getD e.locus.toNat 0 == e.code) rows)) := by
 intro g H w hw
 refine enter Tryd.func59 rfl Tryd.ntmps59 rfl hw ?_
 have hlV := hV.len
 obtain ⟨hs, hV⟩ := hV
 have hH := hV.1
 refine X_seq (X_region ?_)
 refine XO_v0 (ev_assign rfl) rfl rfl rfl ?_
 refine XO_nil (at_then ?_)
 refine X_seq ?_
 refine X_seq (X_region ?_)
 refine XO_v0 (ev_move rfl) rfl rfl rfl ?_
 refine XO_v0 (ev_lenS rfl slt_22) rfl rfl rfl ?_
 refine XO_v0 (ev_move rfl) rfl rfl rfl ?_
 refine XO_nil (at_then ?_)
 refine X_block ?_
 refine X_loopT [(0, _), (1, _), (7, _)] (.cons rfl (.cons rfl (.cons rfl .nil))) (fun T L0 mz E I' loc' => ∃ (k : Nat), mz = n2 - k ∧ E = (8, .int .i64 k) :: T ∧ I = I' ∧ L0 = loc' ∧ k ≤ n2 ∧ (rows.take k).any (fun r : List Int => r.getD e.locus.toNat 0 == e.code) = false) _ _ _ _ ⟨0, rfl, rfl, rfl, rfl, Nat.zero_le _, rfl⟩ (.cons rfl (.cons rfl (.cons rfl (.cons rfl .nil)))) (HLe.refl _) rfl ?_
 rintro mz E I' loc' ⟨k, rfl, rfl, rfl, rfl, hk, hno⟩
 refine X_seq (X_region ?_)
 refine XO_v0 (ev_cmp rfl rfl rfl) rfl rfl rfl ?_
 refine XO_nil (at_then ?_)
 refine X_seq ?_
 refine X_cond rfl (fun hc9 => ?_) (fun hc9 => ?_)
 ·
  have hlt_k : k < n2 := by have h := hc9; simp at h; omega
  obtain ⟨x, v, hx, hv, hQ⟩ := hV.at hlt_k
  refine X_skip ?_
  refine at_then ?_
  refine X_seq ?_
  refine X_block ?_
  refine X_seq (X_region ?_)
  refine XO_v0 (ev_move rfl) rfl rfl rfl ?_
  refine XO_v0 (ev_assign rfl) rfl rfl rfl ?_
  refine XO_nil (at_then ?_)
  refine X_seq (X_region ?_)
  refine XO_v0 (ev_move rfl) rfl rfl rfl ?_
  refine XO_v0 (ev_move rfl) rfl rfl rfl ?_
  refine XO_v0 (ev_move rfl) rfl rfl rfl ?_
  refine XO_v0 (ev_indexSl rfl rfl slt_22 hH (fun hg => by first | omega | (simp [conj] at hg; omega))) rfl rfl rfl ?_
  refine XO_v0 (ev_load rfl sct_23 (fun hg => by exact Sl.get0 hH hx rfl)) rfl rfl rfl ?_
  refine XO_callV0 (cap := [capP b]) (vs := [_]) rfl rfl fun_37 (w_mkc hQ hb h0 (by rw [← hQ.len]; exact hl _ (List.mem_of_getElem? hv))) rfl rfl ?_
  refine XO_nil (at_then ?_)
  refine X_cond rfl (fun hc16 => ?_) (fun hc16 => ?_)
  ·
   refine X_seq (X_region ?_)
   refine XO_v0 (ev_move rfl) rfl rfl rfl ?_
   refine XO_v0 (ev_assign rfl) rfl rfl rfl ?_
   refine XO_nil (at_then ?_)
   refine X_ret ?_
   refine at_block_r ?_
   refine at_then_r ?_
   refine at_then_r ?_
   refine at_block_r ?_
   refine at_then_r ?_
   exact at_ret1 rfl rfl (fun w hw => ⟨by rw [idx_hit hno hv hc16], hw.drop⟩)
  ·
   refine X_skip ?_
   refine at_block_n ?_
   refine at_then ?_
   refine X_region ?_
   refine XO_v0 (ev_arB rfl rfl rfl (fun _ => by omega)) rfl rfl rfl ?_
   refine XO_v0 (ev_move rfl) rfl rfl rfl ?_
   refine XO_nil ?_
   exact at_met2 _ _ ⟨n2 - (k + 1), by omega, k + 1, rfl, rfl, rfl, rfl, by omega, any_no hv hno hc16⟩ (.cons rfl (.cons rfl (.cons rfl (.cons rfl .nil)))) (by repeat (first | exact .refl | exact subL_left | refine subL_app ?_ | refine .drop ?_ | refine subL_add ?_))
 ·
  have hge_k : n2 ≤ k := by have h := hc9; simp at h; omega
  refine X_exit ?_
  refine at_then_e ?_
  refine at_then_e ?_
  refine at_block_hit ?_
  refine at_then ?_
  refine X_seq (X_region ?_)
  refine XO_v0 (ev_assign rfl) rfl rfl rfl ?_
  refine XO_nil (at_then ?_)
  refine X_ret ?_
  exact at_ret1 rfl rfl (fun w hw => ⟨by rw [idx_none hlV hge_k hno], hw.drop⟩)
theorem w_containsM {I : HMap} {bv : Option Addr} {n2 c2 : Nat} {rows : List (List Int)} (hV : SlN I bv n2 c2 rows) (hn : n2 ≤ 100000) {b : Nat} {e : Em} (hb : I b = some (.cells (encEm e).toArray 57 (0, 0))) (h0 : 0 ≤ e.locus) (hl : ∀ r ∈ rows, e.locus.toNat < r.length) : RetV Tryd.prog 36 [.slice bv n2 c2, .func (.func 37) #[] [capP b].toArray] I (.bool (thereF rows e)) := by
 intro g H w hw
 refine enter Tryd.func36 rfl Tryd.ntmps36 rfl hw ?_
 refine X_seq (X_region ?_)
 refine XO_v0 (ev_assign rfl) rfl rfl rfl ?_
 refine XO_nil (at_then ?_)
 refine X_seq (X_region ?_)
 refine XO_v0 (ev_move rfl) rfl rfl rfl ?_
 refine XO_v0 (ev_move rfl) rfl rfl rfl ?_
 refine XO_callV0 (cap := []) (vs := [_, _]) rfl rfl fun_59 (w_indexM hV hn hb h0 hl) rfl rfl ?_
 refine XO_v0 (ev_cmp rfl rfl rfl) rfl rfl rfl ?_
 refine XO_v0 (ev_assign rfl) rfl rfl rfl ?_
 refine XO_nil (at_then ?_)
 refine X_ret ?_
 exact at_ret1 rfl rfl (fun w hw => ⟨by unfold thereF; rw [← idx_any], hw.drop⟩)
theorem w_cloneI {I : HMap} {av : Option Addr} {n c : Nat} {xs : List Int} (hS : Sl I 1 encI av n c xs) (hn : n ≤ 400000) : RetM Tryd.prog 38 [.slice av n c] I [] (fun v I' L => I' = I ∧ OwnS 3 1 v n (xs.flatMap encI) L) := by
 intro g H w hw
 refine enter Tryd.func38 rfl Tryd.ntmps38 rfl hw ?_
 refine X_seq (X_region ?_)
 refine XO_v0 (ev_assign rfl) rfl rfl rfl ?_
 refine XO_nil (at_then ?_)
 refine X_seq ?_
 refine X_seq (X_region ?_)
 refine XO_v0 (ev_move rfl) rfl rfl rfl ?_
 refine XO_v0 (ev_eqNil rfl rfl slt_23) rfl rfl rfl ?_
 refine XO_nil (at_then ?_)
 refine X_cond rfl (fun hc4 => ?_) (fun hc4 => ?_)
 ·
  have hn0 : n = 0 := Decidable.byContradiction fun h => by have := hS.base h; rw [this] at hc4; cases hc4
  have hl := hS.len
  subst hn0
  have hx0 := List.eq_nil_of_length_eq_zero hl
  subst hx0
  refine X_seq (X_region ?_)
  refine XO_v0 (ev_assign rfl) rfl rfl rfl ?_
  refine XO_nil (at_then ?_)
  refine X_ret ?_
  refine at_then_r ?_
  exact at_ret1 rfl rfl (fun w hw => ⟨_, I, _, rfl, HLe.refl _, hw, rfl, OwnS.nil⟩)
 ·
  refine X_skip ?_
  refine at_then ?_
  refine X_seq (X_region ?_)
  refine XO_buildSlice (ps := []) (m := []) elt_23 rfl (.nil) rfl (by simp) (by decide) (by decide) rfl rfl (fun b_5 => ?_)
  refine XO_v0 (ev_move rfl) rfl rfl rfl ?_
  refine XO_append (v := _) (ys := xs.flatMap encI) (L := [(b_5, _)]) rfl rfl elt_23 OwnS.new (by repeat (first | exact .cons .here .nil | exact split_all | exact split_app | apply split_cons | apply split_skip)) (hS.src encI_len) (one_I _) (by omega) rfl rfl ?_
  intro v1 L1 hO1 _; rw [List.nil_append, Nat.zero_add] at hO1
  refine XO_v0 (ev_assign rfl) rfl rfl rfl ?_
  refine XO_nil (at_then ?_)
  refine X_ret ?_
  exact at_ret1 rfl rfl (fun w hw => ⟨_, I, _, rfl, HLe.refl _, hw.subL subL_left, rfl, hO1⟩)
theorem w_cloneE {I : HMap} {av : Option Addr} {n c : Nat} {xs : List Em} (hS : Sl I 3 encEm av n c xs) (hn : n ≤ 400000) : RetM Tryd.prog 39 [.slice av n c] I [] (fun v I' L => I' = I ∧ OwnS 57 3 v n (xs.flatMap encEm) L) := by
 intro g H w hw
 refine enter Tryd.func39 rfl Tryd.ntmps39 rfl hw ?_
 refine X_seq (X_region ?_)
 refine XO_v0 (ev_assign rfl) rfl rfl rfl ?_
 refine XO_nil (at_then ?_)
 refine X_seq ?_
 refine X_seq (X_region ?_)
 refine XO_v0 (ev_move rfl) rfl rfl rfl ?_
 refine XO_v0 (ev_eqNil rfl rfl slt_38) rfl rfl rfl ?_
 refine XO_nil (at_then ?_)
 refine X_cond rfl (fun hc4 => ?_) (fun hc4 => ?_)
 ·
  have hn0 : n = 0 := Decidable.byContradiction fun h => by have := hS.base h; rw [this] at hc4; cases hc4
  have hl := hS.len
  subst hn0
  have hx0 := List.eq_nil_of_length_eq_zero hl
  subst hx0
  refine X_seq (X_region ?_)
  refine XO_v0 (ev_assign rfl) rfl rfl rfl ?_
  refine XO_nil (at_then ?_)
  refine X_ret ?_
  refine at_then_r ?_
  exact at_ret1 rfl rfl (fun w hw => ⟨_, I, _, rfl, HLe.refl _, hw, rfl, OwnS.nil⟩)
 ·
  refine X_skip ?_
  refine at_then ?_
  refine X_seq (X_region ?_)
  refine XO_buildSlice (ps := []) (m := []) elt_38 rfl (.nil) rfl (by simp) (by decide) (by decide) rfl rfl (fun b_5 => ?_)
  refine XO_v0 (ev_move rfl) rfl rfl rfl ?_
  refine XO_append (v := _) (ys := xs.flatMap encEm) (L := [(b_5, _)]) rfl rfl elt_38 OwnS.new (by repeat (first | exact .cons .here .nil | exact split_all | exact split_app | apply split_cons | apply split_skip)) (hS.src encEm_len) (one_Em _) (by omega) rfl rfl ?_
  intro v1 L1 hO1 _; rw [List.nil_append, Nat.zero_add] at hO1
  refine XO_v0 (ev_assign rfl) rfl rfl rfl ?_
  refine XO_nil (at_then ?_)
  refine X_ret ?_
  exact at_ret1 rfl rfl (fun w hw => ⟨_, I, _, rfl, HLe.refl _, hw.subL subL_left, rfl, hO1⟩)
theorem w_equalI {I : HMap} {av : Option Addr} {n c : Nat} {xs : List Int} (hS : Sl I 1 encI av n c xs) {bv : Option Addr} {n2 c2 : Nat} {ys : List Int} (hT : Sl I 1 encI bv n2 c2 ys) (hn : n ≤ 100000) : RetV Tryd.prog 61 [.slice av n c, .slice bv n2 c2] I (.bool (decide (xs = ys))) := by
 intro g H w hw
 refine enter Tryd.func61 rfl Tryd.ntmps61 rfl hw ?_
 have hl1 := hS.len
 have hl2 := hT.len
 refine X_seq (X_region ?_)
 refine XO_v0 (ev_assign rfl) rfl rfl rfl ?_
 refine XO_nil (at_then ?_)
 refine X_seq ?_
 refine X_seq (X_region ?_)
 refine XO_v0 (ev_move rfl) rfl rfl rfl ?_
 refine XO_v0 (ev_lenS rfl slt_23) rfl rfl rfl ?_
 refine XO_v0 (ev_move rfl) rfl rfl rfl ?_
 refine XO_v0 (ev_lenS rfl slt_23) rfl rfl rfl ?_
 refine XO_v0 (ev_cmp rfl rfl rfl) rfl rfl rfl ?_
 refine XO_nil (at_then ?_)
 refine X_cond rfl (fun hc10 => ?_) (fun hc10 => ?_)
 ·
  have hne : xs ≠ ys := fun e => by have h := hc10; subst e; simp at h; omega
  refine X_seq (X_region ?_)
  refine XO_v0 (ev_assign rfl) rfl rfl rfl ?_
  refine XO_nil (at_then ?_)
  refine X_ret ?_
  refine at_then_r ?_
  exact at_ret1 rfl rfl (fun w hw => ⟨by rw [decide_eq_false hne], hw.drop⟩)
 ·
  have hnn : n = n2 := by have h := hc10; simp at h; omega
  refine X_skip ?_
  refine at_then ?_
  refine X_seq ?_
  refine X_seq (X_region ?_)
  refine XO_v0 (ev_move rfl) rfl rfl rfl ?_
  refine XO_v0 (ev_lenS rfl slt_23) rfl rfl rfl ?_
  refine XO_v0 (ev_move rfl) rfl rfl rfl ?_
  refine XO_nil (at_then ?_)
  refine X_block ?_
  refine X_loopT [(0, _), (1, _), (12, _)] (.cons rfl (.cons rfl (.cons rfl .nil))) (fun T L0 mz E I' loc' => ∃ (k : Nat), mz = n - k ∧ E = (13, .int .i64 k) :: T ∧ I = I' ∧ L0 = loc' ∧ k ≤ n ∧ xs.take k = ys.take k) _ _ _ _ ⟨0, rfl, rfl, rfl, rfl, Nat.zero_le _, rfl⟩ (.cons rfl (.cons rfl (.cons rfl (.cons rfl .nil)))) (HLe.refl _) rfl ?_
  rintro mz E I' loc' ⟨k, rfl, rfl, rfl, rfl, hk, hall⟩
  refine X_seq (X_region ?_)
  refine XO_v0 (ev_cmp rfl rfl rfl) rfl rfl rfl ?_
  refine XO_nil (at_then ?_)
  refine X_seq ?_
  refine X_cond rfl (fun hc14 => ?_) (fun hc14 => ?_)
  ·
   have hlt_k : k < n := by have h := hc14; simp at h; omega
   obtain ⟨x, hx⟩ := hS.at hlt_k
   obtain ⟨y, hy⟩ := hT.at (show k < n2 by omega)
   refine X_skip ?_
   refine at_then ?_
   refine X_seq ?_
   refine X_block ?_
   refine X_seq (X_region ?_)
   refine XO_v0 (ev_move rfl) rfl rfl rfl ?_
   refine XO_v0 (ev_assign rfl) rfl rfl rfl ?_
   refine XO_nil (at_then ?_)
   refine X_seq ?_
   refine X_draw mixed (by kernel_rfl) ?_
   refine XQ_v0 (ev_move rfl) rfl rfl rfl ?_
   refine XQ_v0 (ev_move rfl) rfl rfl rfl ?_
   refine XQ_v0 (ev_indexSl rfl rfl slt_23 hS (fun hg => by first | omega | (simp [conj] at hg; omega))) rfl rfl rfl ?_
   refine XQ_v0 (ev_load rfl sct_3 (fun hg => by exact Sl.get0 hS hx rfl)) rfl rfl rfl ?_
   refine XQ_v0 (ev_move rfl) rfl rfl rfl ?_
   refine XQ_v0 (ev_move rfl) rfl rfl rfl ?_
   refine XQ_v0 (ev_indexSl rfl rfl slt_23 hT (fun hg => by first | omega | (simp [conj] at hg; omega))) rfl rfl rfl ?_
   refine XQ_v0 (ev_load rfl sct_3 (fun hg => by exact Sl.get0 hT hy rfl)) rfl rfl rfl ?_
   refine XQ_v0 (ev_cmp rfl rfl rfl) rfl rfl rfl ?_
   refine XQ_nil ?_
   refine at_then ?_
   refine X_cond rfl (fun hc24 => ?_) (fun hc24 => ?_)
   ·
    have hne : xs ≠ ys := fun e => by subst e; rw [hx] at hy; cases hy; simp at hc24
    refine X_seq (X_region ?_)
    refine XO_v0 (ev_assign rfl) rfl rfl rfl ?_
    refine XO_nil (at_then ?_)
    refine X_ret ?_
    refine at_block_r ?_
    refine at_then_r ?_
    refine at_then_r ?_
    refine at_block_r ?_
    refine at_then_r ?_
    exact at_ret1 rfl rfl (fun w hw => ⟨by rw [decide_eq_false hne], hw.drop⟩)
   ·
    have hxy : x = y := by simpa using hc24
    refine X_skip ?_
    refine at_block_n ?_
    refine at_then ?_
    refine X_region ?_
    refine XO_v0 (ev_arB rfl rfl rfl (fun _ => by omega)) rfl rfl rfl ?_
    refine XO_v0 (ev_move rfl) rfl rfl rfl ?_
    refine XO_nil ?_
    exact at_met2 _ _ ⟨n - (k + 1), by omega, k + 1, rfl, rfl, rfl, rfl, by omega, by rw [List.take_add_one, List.take_add_one, hall, hx, hy, hxy]⟩ (.cons rfl (.cons rfl (.cons rfl (.cons rfl .nil)))) (by repeat (first | exact .refl | exact subL_left | refine subL_app ?_ | refine .drop ?_ | refine subL_add ?_))
  ·
   have hge_k : n ≤ k := by have h := hc14; simp at h; omega
   have heq : xs = ys := by rw [List.take_of_length_le (by omega), List.take_of_length_le (by omega)] at hall; exact hall
   refine X_exit ?_
   refine at_then_e ?_
   refine at_then_e ?_
   refine at_block_hit ?_
   refine at_then ?_
   refine X_seq (X_region ?_)
   refine XO_v0 (ev_assign rfl) rfl rfl rfl ?_
   refine XO_nil (at_then ?_)
   refine X_ret ?_
   exact at_ret1 rfl rfl (fun w hw => ⟨by rw [decide_eq_true heq], hw.drop⟩)
theorem w_equal {I : HMap} {av : Option Addr} {n c : Nat} {xs : List Int} (hS : Sl I 1 encI av n c xs) {bv : Option Addr} {n2 c2 : Nat} {ys : List Int} (hT : Sl I 1 encI bv n2 c2 ys) (hn : n ≤ 100000) : RetV Tryd.prog 42 [.slice av n c, .slice bv n2 c2] I (.bool (decide (xs = ys))) := by
 intro g H w hw
 refine enter Tryd.func42 rfl Tryd.ntmps42 rfl hw ?_
 refine X_seq (X_region ?_)
 refine XO_v0 (ev_assign rfl) rfl rfl rfl ?_
 refine XO_nil (at_then ?_)
 refine X_seq (X_region ?_)
 refine XO_v0 (ev_move rfl) rfl rfl rfl ?_
 refine XO_v0 (ev_move rfl) rfl rfl rfl ?_
 refine XO_callV0 (cap := []) (vs := [_, _]) rfl rfl fun_61 (w_equalI hS hT hn) rfl rfl ?_
 refine XO_v0 (ev_assign rfl) rfl rfl rfl ?_
 refine XO_nil (at_then ?_)
 refine X_ret ?_
 exact at_ret1 rfl rfl (fun w hw => ⟨by rfl, hw.drop⟩)
theorem w_equalN {I : HMap} {av : Option Addr} {n c : Nat} {xs : List (List Int)} (hS : SlN I av n c xs) {bv : Option Addr} {n2 c2 : Nat} {ys : List (List Int)} (hT : SlN I bv n2 c2 ys) (hn : n ≤ 100000) (hn3 : ∀ x ∈ xs, x.length ≤ 100000) : RetV Tryd.prog 41 [.slice av n c, .slice bv n2 c2, .func (.func 42) #[] #[]] I (.bool (decide (xs = ys))) := by
 intro g H w hw
 refine enter Tryd.func41 rfl Tryd.ntmps41 rfl hw ?_
 have hl1 := hS.len
 have hl2 := hT.len
 obtain ⟨hs, hS⟩ := hS
 have hH := hS.1
 obtain ⟨gs, hT⟩ := hT
 have hG := hT.1
 refine X_seq (X_region ?_)
 refine XO_v0 (ev_assign rfl) rfl rfl rfl ?_
 refine XO_nil (at_then ?_)
 refine X_seq ?_
 refine X_seq (X_region ?_)
 refine XO_v0 (ev_move rfl) rfl rfl rfl ?_
 refine XO_v0 (ev_lenS rfl slt_22) rfl rfl rfl ?_
 refine XO_v0 (ev_move rfl) rfl rfl rfl ?_
 refine XO_v0 (ev_lenS rfl slt_22) rfl rfl rfl ?_
 refine XO_v0 (ev_cmp rfl rfl rfl) rfl rfl rfl ?_
 refine XO_nil (at_then ?_)
 refine X_cond rfl (fun hc14 => ?_) (fun hc14 => ?_)
 ·
  have hne : xs ≠ ys := fun e => by have h := hc14; subst e; simp at h; omega
  refine X_seq (X_region ?_)
  refine XO_v0 (ev_assign rfl) rfl rfl rfl ?_
  refine XO_nil (at_then ?_)
  refine X_ret ?_
  refine at_then_r ?_
  exact at_ret1 rfl rfl (fun w hw => ⟨by rw [decide_eq_false hne], hw.drop⟩)
 ·
  have hnn : n = n2 := by have h := hc14; simp at h; omega
  refine X_skip ?_
  refine at_then ?_
  refine X_seq ?_
  refine X_seq (X_region ?_)
  refine XO_v0 (ev_move rfl) rfl rfl rfl ?_
  refine XO_v0 (ev_lenS rfl slt_22) rfl rfl rfl ?_
  refine XO_v0 (ev_move rfl) rfl rfl rfl ?_
  refine XO_nil (at_then ?_)
  refine X_block ?_
  refine X_loopT [(1, _), (2, _), (15, _), (16, _)] (.cons rfl (.cons rfl (.cons rfl (.cons rfl .nil)))) (fun T L0 mz E I' loc' => ∃ (k : Nat), mz = n - k ∧ E = (17, .int .i64 k) :: T ∧ I = I' ∧ L0 = loc' ∧ k ≤ n ∧ xs.take k = ys.take k) _ _ _ _ ⟨0, rfl, rfl, rfl, rfl, Nat.zero_le _, rfl⟩ (.cons rfl (.cons rfl (.cons rfl (.cons rfl (.cons rfl .nil))))) (HLe.refl _) rfl ?_
  rintro mz E I' loc' ⟨k, rfl, rfl, rfl, rfl, hk, hall⟩
  refine X_seq (X_region ?_)
  refine XO_v0 (ev_cmp rfl rfl rfl) rfl rfl rfl ?_
  refine XO_nil (at_then ?_)
  refine X_seq ?_
  refine X_cond rfl (fun hc18 => ?_) (fun hc18 => ?_)
  ·
   have hlt_k : k < n := by have h := hc18; simp at h; omega
   obtain ⟨x, u, hx, hu, hP⟩ := hS.at hlt_k
   obtain ⟨y, v, hy, hv, hQ⟩ := hT.at (show k < n2 by omega)
   refine X_skip ?_
   refine at_then ?_
   refine X_seq ?_
   refine X_block ?_
   refine X_seq (X_region ?_)
   refine XO_v0 (ev_move rfl) rfl rfl rfl ?_
   refine XO_v0 (ev_indexSl rfl rfl slt_22 hH (fun hg => by first | omega | (simp [conj] at hg; omega))) rfl rfl rfl ?_
   refine XO_v0 (ev_load rfl sct_23 (fun hg => by exact Sl.get0 hH hx rfl)) rfl rfl rfl ?_
   refine XO_v0 (ev_assign rfl) rfl rfl rfl ?_
   refine XO_v0 (ev_assign rfl) rfl rfl rfl ?_
   refine XO_nil (at_then ?_)
   refine X_seq (X_region ?_)
   refine XO_v0 (ev_move rfl) rfl rfl rfl ?_
   refine XO_v0 (ev_move rfl) rfl rfl rfl ?_
   refine XO_v0 (ev_indexSl rfl rfl slt_22 hG (fun hg => by first | omega | (simp [conj] at hg; omega))) rfl rfl rfl ?_
   refine XO_v0 (ev_load rfl sct_23 (fun hg => by exact Sl.get0 hG hy rfl)) rfl rfl rfl ?_
   refine XO_v0 (ev_assign rfl) rfl rfl rfl ?_
   refine XO_nil (at_then ?_)
   refine X_seq (X_region ?_)
   refine XO_v0 (ev_move rfl) rfl rfl rfl ?_
   refine XO_v0 (ev_move rfl) rfl rfl rfl ?_
   refine XO_v0 (ev_move rfl) rfl rfl rfl ?_
   refine XO_callV0 (cap := []) (vs := [_, _]) rfl rfl fun_42 (w_equal hP hQ (by rw [← hP.len]; exact hn3 _ (List.mem_of_getElem? hu))) rfl rfl ?_
   refine XO_v0 (ev_not rfl) rfl rfl rfl ?_
   refine XO_nil (at_then ?_)
   refine X_cond rfl (fun hc30 => ?_) (fun hc30 => ?_)
   ·
    have hne : xs ≠ ys := fun e => by subst e; rw [hu] at hv; cases hv; simp at hc30
    refine X_seq (X_region ?_)
    refine XO_v0 (ev_assign rfl) rfl rfl rfl ?_
    refine XO_nil (at_then ?_)
    refine X_ret ?_
    refine at_block_r ?_
    refine at_then_r ?_
    refine at_then_r ?_
    refine at_block_r ?_
    refine at_then_r ?_
    exact at_ret1 rfl rfl (fun w hw => ⟨by rw [decide_eq_false hne], hw.drop⟩)
   ·
    have huv : u = v := by simpa using hc30
    refine X_skip ?_
    refine at_block_n ?_
    refine at_then ?_
    refine X_region ?_
    refine XO_v0 (ev_arB rfl rfl rfl (fun _ => by omega)) rfl rfl rfl ?_
    refine XO_v0 (ev_move rfl) rfl rfl rfl ?_
    refine XO_nil ?_
    exact at_met2 _ _ ⟨n - (k + 1), by omega, k + 1, rfl, rfl, rfl, rfl, by omega, by rw [List.take_add_one, List.take_add_one, hall, hu, hv, huv]⟩ (.cons rfl (.cons rfl (.cons rfl (.cons rfl (.cons rfl .nil))))) (by repeat (first | exact .refl | exact subL_left | refine subL_app ?_ | refine .drop ?_ | refine subL_add ?_))
  ·
   have hge_k : n ≤ k := by have h := hc18; simp at h; omega
   have heq : xs = ys := by rw [List.take_of_length_le (by omega), List.take_of_length_le (by omega)] at hall; exact hall
   refine X_exit ?_
   refine at_then_e ?_
   refine at_then_e ?_
   refine at_block_hit ?_
   refine at_then ?_
   refine X_seq (X_region ?_)
   refine XO_v0 (ev_assign rfl) rfl rfl rfl ?_
   refine XO_nil (at_then ?_)
   refine X_ret ?_
   exact at_ret1 rfl rfl (fun w hw => ⟨by rw [decide_eq_true heq], hw.drop⟩)
theorem w_sameG {I : HMap} {av : Option Addr} {n c : Nat} {xs : List Sg} (hS : Sl I 14 encG av n c xs) {bv : Option Addr} {n2 c2 : Nat} {ys : List Sg} (hT : Sl I 14 encG bv n2 c2 ys) (hn : n ≤ 100000) : RetV Tryd.prog 16 [.slice av n c, .slice bv n2 c2] I (.bool (decide (xs = ys))) := by
 intro g H w hw
 refine enter Tryd.func16 rfl Tryd.ntmps16 rfl hw ?_
 have hl1 := hS.len
 have hl2 := hT.len
 refine X_seq (X_region ?_)
 refine XO_v0 (ev_assign rfl) rfl rfl rfl ?_
 refine XO_nil (at_then ?_)
 refine X_seq ?_
 refine X_seq (X_region ?_)
 refine XO_v0 (ev_move rfl) rfl rfl rfl ?_
 refine XO_v0 (ev_lenS rfl slt_43) rfl rfl rfl ?_
 refine XO_v0 (ev_move rfl) rfl rfl rfl ?_
 refine XO_v0 (ev_lenS rfl slt_43) rfl rfl rfl ?_
 refine XO_v0 (ev_cmp rfl rfl rfl) rfl rfl rfl ?_
 refine XO_nil (at_then ?_)
 refine X_cond rfl (fun hc10 => ?_) (fun hc10 => ?_)
 ·
  have hne : xs ≠ ys := fun e => by have h := hc10; subst e; simp at h; omega
  refine X_seq (X_region ?_)
  refine XO_v0 (ev_assign rfl) rfl rfl rfl ?_
  refine XO_nil (at_then ?_)
  refine X_ret ?_
  refine at_then_r ?_
  exact at_ret1 rfl rfl (fun w hw => ⟨by rw [decide_eq_false hne], hw.drop⟩)
 ·
  have hnn : n = n2 := by have h := hc10; simp at h; omega
  refine X_skip ?_
  refine at_then ?_
  refine X_seq ?_
  refine X_seq (X_region ?_)
  refine XO_v0 (ev_assign rfl) rfl rfl rfl ?_
  refine XO_nil (at_then ?_)
  refine X_block ?_
  refine X_loopT [(0, _), (1, _)] (.cons rfl (.cons rfl .nil)) (fun T L0 mz E I' loc' => ∃ (k : Nat), mz = n - k ∧ E = (5, .int .i64 k) :: T ∧ I = I' ∧ L0 = loc' ∧ k ≤ n ∧ xs.take k = ys.take k) _ _ _ _ ⟨0, rfl, rfl, rfl, rfl, Nat.zero_le _, rfl⟩ (.cons rfl (.cons rfl (.cons rfl .nil))) (HLe.refl _) rfl ?_
  rintro mz E I' loc' ⟨k, rfl, rfl, rfl, rfl, hk, hall⟩
  refine X_seq ?_
  refine X_seq (X_region ?_)
  refine XO_v0 (ev_move rfl) rfl rfl rfl ?_
  refine XO_v0 (ev_move rfl) rfl rfl rfl ?_
  refine XO_v0 (ev_lenS rfl slt_43) rfl rfl rfl ?_
  refine XO_v0 (ev_cmp rfl rfl rfl) rfl rfl rfl ?_
  refine XO_nil (at_then ?_)
  refine X_cond rfl (fun hc14 => ?_) (fun hc14 => ?_)
  ·
   have hlt_k : k < n := by have h := hc14; simp at h; omega
   obtain ⟨x, hx⟩ := hS.at hlt_k
   obtain ⟨y, hy⟩ := hT.at (show k < n2 by omega)
   refine X_skip ?_
   refine at_then ?_
   refine X_seq ?_
   refine X_block ?_
   refine X_seq ?_
   refine X_draw mixed (by kernel_rfl) ?_
   refine XQ_v0 (ev_move rfl) rfl rfl rfl ?_
   refine XQ_v0 (ev_move rfl) rfl rfl rfl ?_
   refine XQ_v0 (ev_indexSl rfl rfl slt_43 hS (fun hg => by first | omega | (simp [conj] at hg; omega))) rfl rfl rfl ?_
   refine XQ_v0 (ev_loadA rfl agt_49 (fun hg => by exact Sl.getA hS hx) rfl) rfl rfl rfl ?_
   refine XQ_v0 (ev_move rfl) rfl rfl rfl ?_
   refine XQ_v0 (ev_move rfl) rfl rfl rfl ?_
   refine XQ_v0 (ev_indexSl rfl rfl slt_43 hT (fun hg => by first | omega | (simp [conj] at hg; omega))) rfl rfl rfl ?_
   refine XQ_v0 (ev_loadA rfl agt_49 (fun hg => by exact Sl.getA hT hy) rfl) rfl rfl rfl ?_
   refine XQ_v0 (v := .bool (!sgEq x y)) (ev_neS2 rfl rfl eqt2_49 rfl) rfl rfl rfl ?_
   refine XQ_nil ?_
   refine at_then ?_
   refine X_cond rfl (fun hc25 => ?_) (fun hc25 => ?_)
   ·
    have hxy : ¬ x = y := fun e => by rw [sgEq_iff.2 e] at hc25; cases hc25
    have hne : xs ≠ ys := fun e => by subst e; rw [hx] at hy; cases hy; exact hxy rfl
    refine X_seq (X_region ?_)
    refine XO_v0 (ev_assign rfl) rfl rfl rfl ?_
    refine XO_nil (at_then ?_)
    refine X_ret ?_
    refine at_block_r ?_
    refine at_then_r ?_
    refine at_then_r ?_
    refine at_block_r ?_
    refine at_then_r ?_
    exact at_ret1 rfl rfl (fun w hw => ⟨by rw [decide_eq_false hne], hw.drop⟩)
   ·
    have hxy : x = y := sgEq_iff.1 (by simpa using hc25)
    refine X_skip ?_
    refine at_block_n ?_
    refine at_then ?_
    refine X_region ?_
    refine XO_v0 (ev_move rfl) rfl rfl rfl ?_
    refine XO_v0 (ev_arB rfl rfl rfl (fun _ => by omega)) rfl rfl rfl ?_
    refine XO_v0 (ev_assign rfl) rfl rfl rfl ?_
    refine XO_nil ?_
    exact at_met2 _ _ ⟨n - (k + 1), by omega, k + 1, rfl, rfl, rfl, rfl, by omega, by rw [List.take_add_one, List.take_add_one, hall, hx, hy, hxy]⟩ (.cons rfl (.cons rfl (.cons rfl .nil))) (by repeat (first | exact .refl | exact subL_left | refine subL_app ?_ | refine .drop ?_ | refine subL_add ?_))
  ·
   have hge_k : n ≤ k := by have h := hc14; simp at h; omega
   have heq : xs = ys := by rw [List.take_of_length_le (by omega), List.take_of_length_le (by omega)] at hall; exact hall
   refine X_exit ?_
   refine at_then_e ?_
   refine at_then_e ?_
   refine at_block_hit ?_
   refine at_then ?_
   refine X_seq (X_region ?_)
   refine XO_v0 (ev_assign rfl) rfl rfl rfl ?_
   refine XO_nil (at_then ?_)
   refine X_ret ?_
   exact at_ret1 rfl rfl (fun w hw => ⟨by rw [decide_eq_true heq], hw.drop⟩)
def stepG (size bar : Int) : Sg := ⟨0, 0, bar, 1, 1, 1, 1, 0, size, 0, 0, 1, 1, 1⟩
theorem w_lawstep (I : HMap) (size bar : Int) : RetV Tryd.prog 20 [.int .i64 size, .int .i64 bar] I (encGA (stepG size bar)) := by
 intro g H w hw
 refine enter Tryd.func20 rfl Tryd.ntmps20 rfl hw ?_
 refine X_seq (X_region ?_)
 refine XO_alloc zt_49 rfl rfl (fun b_4 => ?_)
 refine XO_nil (at_then ?_)
 refine X_seq (X_region ?_)
 refine XO_v0 (ev_move rfl) rfl rfl rfl ?_
 refine XO_v0 (ev_move rfl) rfl rfl rfl ?_
 refine XO_v0 (ev_buildL (ps := [(1, _)]) [_, _] plt_47 rfl rfl) rfl rfl rfl ?_
 refine XO_v0 (ev_buildL (ps := [(0, _), (1, _)]) [_, _] plt_47 rfl rfl) rfl rfl rfl ?_
 refine XO_v0 (ev_buildL (ps := [(3, _), (4, _), (5, _), (6, _), (8, _), (2, _), (10, _), (11, _)]) [_, _, _, _, _, _, _, _, _, _, _, _, _, _] plt_49 rfl rfl) rfl rfl rfl ?_
 refine XO_storeA rfl rfl szt_49 rfl rfl rfl rfl (by repeat (first | exact Upd.here | apply Upd.there | apply upd_app)) ?_
 refine XO_nil (at_then ?_)
 refine X_ret ?_
 exact at_retA rfl rfl agt_49 Cells.g0 rfl (fun w hw => ⟨rfl, hw.drop⟩)
end Go.Proofs.YthcffaheamikgaaDoor
end
section
namespace Go.Proofs.YthcffaheamikgaaDoor
open Go Go.Kn Go.Proofs
theorem root_pos {rows : List (List Int)} {cl : List Int} {l : Nat} : 0 < (rootF rows cl l).length := by
  have hne : topF rows cl l ≠ [] := fun e => by
    have h1 := top_len (rows := rows) (cl := cl) (l := l)
    have h2 := stE_pos (rows := rows) (l := l)
    rw [e] at h1; simp at h1; omega
  obtain ⟨h1, _⟩ := least_in hne
  rw [top_map] at h1
  obtain ⟨x, hx, e⟩ := List.mem_map.1 h1
  refine List.length_pos_of_mem (a := x) ?_
  unfold rootF
  rw [List.mem_filter]
  exact ⟨hx, by rw [e, top_map]; simp⟩
theorem base_yes {rows : List (List Int)} {cl : List Int} {k : Nat} (h : (rootF rows cl k).any (fun y => (rows.getD 0 []).getD k 0 == y) = true) : (rows.getD 0 []).getD k 0 = baseK rows cl k := by unfold baseK; rw [if_pos h]
theorem base_no {rows : List (List Int)} {cl : List Int} {k : Nat} (h : (rootF rows cl k).any (fun y => (rows.getD 0 []).getD k 0 == y) = false) : (rootF rows cl k).getD 0 0 = baseK rows cl k := by unfold baseK; rw [if_neg (by rw [h]; decide)]
def zeroE : Em := ⟨0, 0, 0⟩
/-- What a locus takes of the emendations that are left. -/
theorem left_yes {rows : List (List Int)} {cl : List Int} {es lf : List Em} {k : Nat} (hl : lf = lfK es k) (h : (decide ((lf.length : Int) > 0) && ((lf.getD 0 zeroE).locus == (k : Int))) = true) : (lf.getD 0 zeroE).code = readK rows cl es k ∧ lf.drop 1 = lfK es (k + 1) ∧ 0 < lf.length := by
  cases lf with
  | nil => simp at h
  | cons e r =>
    have he : e.locus = (k : Int) := by simpa using h
    exact ⟨(rd_yes hl.symm he).symm, (lf_yes hl.symm he).symm, by simp⟩
theorem left_no {rows : List (List Int)} {cl : List Int} {es lf : List Em} {k : Nat} (hl : lf = lfK es k) (h : (decide ((lf.length : Int) > 0) && ((lf.getD 0 zeroE).locus == (k : Int))) = false) : baseK rows cl k = readK rows cl es k ∧ lf = lfK es (k + 1) := by
  cases lf with
  | nil => exact ⟨(rd_nil hl.symm).symm, (lf_nil hl.symm).symm⟩
  | cons e r =>
    have he : ¬ e.locus = (k : Int) := by
      intro he
      have h3 : (e.locus == (k : Int)) = false := by simpa using h
      rw [he] at h3; simp at h3
    exact ⟨(rd_no hl.symm he).symm, (lf_no hl.symm he).symm⟩
theorem reads_len {rows : List (List Int)} {cl : List Int} {es : List Em} : (readsL rows cl es).length = (rows.getD 0 []).length := by unfold readsL; simp
end Go.Proofs.YthcffaheamikgaaDoor
end
section
namespace Go
def Exit.straight (Q : Exit → Act → World → Prop) : Exit → Act → World → Prop
  | .goto _, _, _ => False
  | .normal, a, w => Q .normal a w
  | .exit i, a, w => Q (.exit i) a w
  | .ret, a, w => Q .ret a w
  | .panic c, a, w => Q (.panic c) a w
  | .outgrown, a, w => Q .outgrown a w
section
variable {P : Program} {F : Fence} {n : Nat} {b : Frame} {a : Act} {k : List Item} {cs : List Frame} {w : World} {Q : Exit → Act → World → Prop}
theorem stepR_scope {c : Code} : step P (lone (b.atR a (.code (.scope c) :: k)) cs w) = .next (lone (b.atR a (.code c :: .inScope c :: k)) cs w) :=
  step_lone_go (by simp [stepG, stepG.exec, Frame.atR])
theorem stepR_inScope {c : Code} : step P (lone (b.atR a (.inScope c :: k)) cs w) = .next (lone (b.atR a k) cs w) :=
  step_lone_go (by simp [stepG, stepG.exec, Frame.atR])
theorem wpIn_scope_straight {c : Code} (h : c.wpIn F n P (Exit.straight Q) a w) : (Code.scope c).wpIn F n P Q a w := by
  intro b k cs hro hb hr
  have h0 : (lone (b.atR a (.code (.scope c) :: k)) cs w).fenced P F := fenced_calm hb hr rfl
  obtain ⟨e, a₁, w₁, hq, harr⟩ := h b (.inScope c :: k) cs hro hb hr
  cases e with
  | normal => exact ⟨.normal, a₁, w₁, hq, .head h0 stepR_scope (StepsIn.trans harr (.one (fenced_calm hb hr rfl) stepR_inScope))⟩
  | exit id =>
    have hx : exitTo id (.inScope c :: k) = exitTo id k := by simp [exitTo]
    exact ⟨_, a₁, w₁, hq, fun k' hk => .head h0 stepR_scope (harr.1 k' (by rw [hx]; exact hk)),
      fun hr' hk => let ⟨k₁, h1, h2⟩ := harr.2 hr' (by rw [hx]; exact hk); ⟨k₁, h1, .head h0 stepR_scope h2⟩⟩
  | goto l => exact hq.elim
  | ret => exact ⟨_, a₁, w₁, hq, .of_steps (.one h0 stepR_scope) harr⟩
  | panic ch => exact ⟨_, a₁, w₁, hq, .of_steps (.one h0 stepR_scope) harr⟩
  | outgrown => exact ⟨_, a₁, w₁, hq, .of_steps (.one h0 stepR_scope) harr⟩
end
end Go
namespace Go.Kn
open Go
section
variable {C : Cx} {Q : Exit → Act → World → Prop} {E : Env} {I : HMap} {loc : Loc}
theorem X_scope {c : Code} (h : X C (Exit.straight Q) c E I loc) : X C Q (.scope c) E I loc := fun a w ha hw => wpIn_scope_straight (h a w ha hw)
theorem X_label {l : Nat} (h : At C Q .normal E I loc) : X C Q (.label l) E I loc := fun a w ha hw => wpIn_label (h a w ha hw)
theorem at_scope_r (h : At C Q .ret E I loc) : At C (Exit.straight Q) .ret E I loc := h
theorem at_locEq {e : Exit} {loc' : Loc} (h : loc = loc') (hx : At C Q e E I loc') : At C Q e E I loc := h ▸ hx
variable {S : GS} {dst : Option Nat} {ty : TypeId} {pos : String} {af : Array Edge} {gd : Option (Nat × Bool)} {x y : Operand}
theorem run_equalIn_ptrNil {P : Program} {w : World} {t e d : Nat} {q : Option Addr} (hT : P.underlying t = some (.pointer e)) : (Op.equalIn (d + 1) t (.pointer q) (.pointer none)).run P w = .ok q.isNone w := by
  unfold Op.equalIn
  rw [Sem.run_bind, run_underlying hT]
  cases q <;> rfl
/-- Is a pointer nil? -/
theorem ev_ptrNil {t t' e : Nat} {q : Option Addr} (hx : evalS S E x = some (.pointer q)) (hy : evalS S E y = some (.pointer none)) (hT : C.P.underlying t = some (.pointer e)) : EvalOp C S E I loc ⟨dst, .binOp .eql t x y t', ty, pos, af, gd⟩ (.bool q.isNone) :=
  .of (by intro c e; cases e) fun a w ha hg hc _ => by
    have e1 : ∀ op x y t, (eqGuard op t x y (.pointer q) (.pointer none)).run C.P w = .ok () w := by intros; unfold eqGuard; rename_i op _ _ _; cases op <;> rfl
    have e2 : (Op.equal t (.pointer q) (.pointer none)).run C.P w = .ok q.isNone w := run_equalIn_ptrNil (d := 9999) hT
    simp only [execOp, evalS_sound ha hg hc hx, evalS_sound ha hg hc hy, Sem.run_bind, e1, Result.andThen, binOp, e2, Sem.run_pure]
end
end Go.Kn
end
