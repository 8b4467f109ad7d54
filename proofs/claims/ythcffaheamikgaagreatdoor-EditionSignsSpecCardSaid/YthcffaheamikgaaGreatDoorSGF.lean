/- editionSignsSpec_holds, part F of the proof: what its theorems say holds without further conditions. -/
import Derived.Test.YthcffaheamikgaaGreatDoorSGE
namespace Go.Proofs.YthcffaheamikgaaGreatDoor
section
open Go Go.Kn Go.Proofs
theorem fun_16 : Fun Tryz.prog 16 := .of Tryz.func16 (by kernel_rfl) (by kernel_rfl)
theorem fun_17 : Fun Tryz.prog 17 := .of Tryz.func17 (by kernel_rfl) (by kernel_rfl)
theorem fun_28 : Fun Tryz.prog 28 := .of Tryz.func28 (by kernel_rfl) (by kernel_rfl)
theorem szt_46 : SzT Tryz.prog 46 2 := .of (by kernel_rfl)
theorem und_70 : Tryz.prog.underlying 70 = some (.pointer 48) := by kernel_rfl
def SgnQ (ws : List Wr) (rows : List (List Int)) (no : Int) (cl : List Int) (es : List Em) (rd : List Int) : Value → HMap → Go.Kn.Loc → Prop := fun v I' L => L = [] ∧ ∃ av c, v = .tuple #[.slice av (sigL ws rows no cl es rd).length c, .int .i64 (sigE ws rows no cl es rd)] ∧ Sl I' 14 encG av (sigL ws rows no cl es rd).length c (sigL ws rows no cl es rd)
theorem SgnQ.bad {ws : List Wr} {rows : List (List Int)} {no : Int} {cl : List Int} {es : List Em} {rd : List Int} {I' : HMap} {e : Int} (h : sigE ws rows no cl es rd = e) (he : e ≠ 0) : SgnQ ws rows no cl es rd (.tuple #[.slice none 0 0, .int .i64 e]) I' [] := by
 have h0 := sig_bad (show sigE ws rows no cl es rd ≠ 0 by rw [h]; exact he)
 exact ⟨rfl, none, 0, by rw [h0, h]; rfl, by rw [h0]; exact .nil⟩
set_option maxHeartbeats 40000000 in
theorem w_Signs {I : HMap} {av : Option Addr} {n c : Nat} {ws : List Wr} (hW0 : SlW I av n c ws) (hn : n ≤ 100000) {bv : Option Addr} {n2 c2 : Nat} {rows : List (List Int)} (hVn : SlN I bv n2 c2 rows) (hn2 : n2 ≤ 100000) {ea1 : Option Addr} {en1 ec1 : Nat} {ea2 : Option Addr} {en2 ec2 : Nat} {ea3 : Option Addr} {en3 ec3 : Nat} {xs : List Int} {es : List Em} {rd : List Int} (hX1 : Sl I 1 encI ea1 en1 ec1 xs) (hX2 : Sl I 3 encEm ea2 en2 ec2 es) (hX3 : Sl I 1 encI ea3 en3 ec3 rd) (hm1 : en1 ≤ 100000) (hm2 : en2 ≤ 100000) (hm3 : en3 ≤ 100000) (no : Int) (hDb : DebOK I) (hnz : tabR ws = rows → NzOK ws rows) : RetM Tryz.prog 11 [.slice av n c, .slice bv n2 c2, .agg (encEd no ea1 en1 ec1 ea2 en2 ec2 ea3 en3 ec3).toArray] I [] (SgnQ ws rows no xs es rd) := by
 intro g H w hw
 refine enter Tryz.func11 rfl Tryz.ntmps11 rfl hw ?_
 have hIc := HLe.refl I
 obtain ⟨hds, hW⟩ := id hW0
 have hH := hW.1
 have hlW := hW.len
 subst hlW
 have hlV := hVn.len
 subst hlV
 have hlX3 := hX3.len
 subst hlX3
 refine zR ?_
 refine XO_box rfl rfl rfl (fun b_5 => ?_)
 refine zA ?_
 refine zA (zN ?_)
 refine X_scope ?_
 refine zR (zM ?_)
 refine XO_callM (cap := []) (vs := [_]) rfl rfl fun_16 .nil (w_Table hW0 hn) rfl rfl ?_
 rintro vv1 I1 L1 hI1 ⟨rfl, av8, c8, rfl, hTb⟩
 have hW0 := hW0.mono hI1; have hW := hW.mono hI1; have hH := hH.mono hI1; have hVn := hVn.mono hI1; have hX1 := hX1.mono hI1; have hX2 := hX2.mono hI1; have hX3 := hX3.mono hI1; have hDb := hDb.mono hI1; have hIc := hIc.trans hI1
 refine zM ?_
 refine zE ?_
 refine zE ?_
 refine zA ?_
 refine zA (zN (X_seq (zR ?_)))
 refine zM ?_
 refine zC (zN ?_)
 refine zI ?_ ?_ <;> intro hc28
 ·
  have hcT : tabE ws ≠ 0 := by have h := hc28; simpa using h
  refine zR (zM ?_)
  refine zA ?_
  refine zA (zN (X_ret (at_then_r ?_)))
  refine at_scope_r ?_
  exact at_ret2 rfl rfl rfl (fun w hw => ⟨_, _, [], rfl, hIc, hw.drop, SgnQ.bad (sig_1 hcT) hcT⟩)
 have hcT : tabE ws = 0 := by have h := hc28; simpa using h
 refine X_skip (at_then (X_seq (zR (zM ?_))))
 refine zM ?_
 refine XO_callV0 (cap := []) (vs := [_, _, _]) rfl rfl fun_28 (w_equalN hTb hVn (by have := (tabR_in (ws := ws)).1; omega) (fun x hx => Nat.le_trans (tabR_in.2 x hx) (by decide))) rfl rfl ?_
 refine zO (zN ?_)
 refine zI ?_ ?_ <;> intro hc33
 ·
  have hne : tabR ws ≠ rows := fun e => by have h := hc33; rw [decide_eq_true e] at h; cases h
  refine zR (zA ?_)
  refine zA (zN (X_ret (at_then_r ?_)))
  refine at_scope_r ?_
  exact at_ret2 rfl rfl rfl (fun w hw => ⟨_, _, [], rfl, hIc, hw.drop, SgnQ.bad (sig_2 hcT hne) (by decide)⟩)
 have heq : tabR ws = rows := Decidable.byContradiction fun e => by have h := hc33; rw [decide_eq_false e] at h; cases h
 refine X_skip (at_then (X_seq (zR (zM ?_))))
 refine zV (ev_loadA rfl agt_34 (fun hg => by exact Cells.g0) rfl) ?_
 refine XO_callV0 (cap := []) (vs := [_, _]) rfl rfl fun_17 (w_edChk hVn hn2 hX1 hX2 hX3 hm1 hm2 hm3 no hDb) rfl rfl ?_
 refine zA ?_
 refine zN (zR ?_)
 refine zM ?_
 refine zC (zN ?_)
 refine zI ?_ ?_ <;> intro hc38
 ·
  have hcE : edcF rows no xs es rd ≠ 0 := by have h := hc38; simpa using h
  refine zR (zM ?_)
  refine zA ?_
  refine zA (zN (X_ret (at_then_r ?_)))
  refine at_scope_r ?_
  exact at_ret2 rfl rfl rfl (fun w hw => ⟨_, _, [], rfl, hIc, hw.drop, SgnQ.bad (sig_3 hcT heq hcE) hcE⟩)
 have hcE : edcF rows no xs es rd = 0 := by have h := hc38; simpa using h
 obtain ⟨hm0, hrd⟩ := edc_ok hcE
 have hco := mak_ok hm0
 obtain ⟨hr1, hr6, hr64, hrr⟩ := rows_ok (cost_rows hco)
 have hlen := tab_rows heq (by omega)
 have hrdl : rd.length = (rows.getD 0 []).length := by rw [hrd]; exact reads_len
 have hnz := hnz heq
 obtain ⟨vhs, hV⟩ := id hVn
 have hVh := hV.1
 refine X_skip (at_then (X_seq ?_))
 refine X_freeze (b := b_5) (by repeat (first | exact Take.here | apply Take.there)) (fun I2 hI2 hb2 => ?_)
 have hW0 := hW0.mono hI2; have hW := hW.mono hI2; have hH := hH.mono hI2; have hVn := hVn.mono hI2; have hX1 := hX1.mono hI2; have hX2 := hX2.mono hI2; have hX3 := hX3.mono hI2; have hDb := hDb.mono hI2; have hTb := hTb.mono hI2; have hV := hV.mono hI2; have hVh := hVh.mono hI2; have hIc := hIc.trans hI2
 have hC5 : Cell I2 [] b_5 3 (.slice ea3 rd.length ec3) := .imm hb2 rfl
 refine X_region (zM ?_)
 refine zQ slt_31 ?_
 refine XO_makeSlice mkt_23 rfl rfl (by omega) (by decide) rfl rfl (fun b_42 => ?_)
 refine zA (XO_nil ?_)
 rw [show ((ws.length : Nat) : Int).toNat = ws.length from rfl, cellsI_new, rngL_zero, nat_zero, atN_zero (rows := rows)]
 refine at_then (X_seq ?_)
 refine X_label ?_
 refine at_then (X_seq (X_seq ?_))
 refine X_locEq (loc' := [] ++ [(b_42, .cells (cellsI (rngL ws.length (natF (atN rows 0 0)))) 3 (0, 0))]) rfl ?_
 refine X_region ?_
 refine zF fld_34_3 ?_
 refine zV (ev_load rfl sct_23 (fun hg => by exact hC5.any)) ?_
 refine zQ slt_23 ?_
 refine zM (zN (X_block ?_))
 refine X_loopT [(0, _), (1, _), (10, _), (44, _), (45, _)] (.cons rfl (.cons rfl (.cons rfl (.cons rfl (.cons rfl .nil))))) (fun T L0 mz E I' loc' => ∃ (k : Nat) (l : List Sg) (v6 : Value) (L : Go.Kn.Loc), mz = rd.length - k ∧ E = (6, v6) :: (46, .int .i64 k) :: T ∧ HLe I2 I' ∧ L ++ [(b_42, .cells (cellsI (rngL ws.length (natF (atN rows k 0)))) 3 (0, 0))] = loc' ∧ k ≤ rd.length ∧ sgnK ws rows rd k = some l ∧ OwnS 48 14 v6 l.length (l.flatMap encG) L ∧ l.length ≤ k) _ _ _ _ ⟨0, [], _, [], rfl, rfl, HLe.refl _, rfl, Nat.zero_le _, rfl, OwnS.nil, Nat.le_refl _⟩ (.cons rfl (.cons rfl (.cons rfl (.cons rfl (.cons rfl (.cons rfl (.cons rfl .nil))))))) (HLe.refl _) rfl ?_
 rintro mz E J3 loc' ⟨k, l, v6, L, rfl, rfl, hJ, rfl, hk, hsg, hO, hlk⟩
 have hW0 := hW0.mono hJ; have hW := hW.mono hJ; have hH := hH.mono hJ; have hVn := hVn.mono hJ; have hX1 := hX1.mono hJ; have hX2 := hX2.mono hJ; have hX3 := hX3.mono hJ; have hDb := hDb.mono hJ; have hTb := hTb.mono hJ; have hV := hV.mono hJ; have hVh := hVh.mono hJ; have hC5 := hC5.mono hJ; have hIc := hIc.trans hJ
 have hB0 := hJ
 refine zR (zC (zN (X_seq ?_)))
 refine zI ?_ ?_ <;> intro hc47
 ·
  have hlt_k : k < rd.length := by have h := hc47; simp at h; omega
  obtain ⟨code, hk⟩ := hX3.at hlt_k
  refine X_skip (at_then (X_seq (X_block (zR (zM ?_)))))
  refine zV (zX slt_23 hX3) ?_
  refine zV (ev_load rfl sct_3 (fun hg => by exact Sl.get0 hX3 hk rfl)) ?_
  refine zA ?_
  refine zA ?_
  refine zN (zR ?_)
  refine zA ?_
  refine zA ?_
  refine zN (zR ?_)
  refine zA ?_
  refine zA (zN (X_seq (zR ?_)))
  refine zM ?_
  refine zQ slt_22 ?_
  refine zM (zN (X_block ?_))
  refine X_loopT [(0, _), (1, _), (6, _), (10, _), (11, _), (12, _), (44, _), (45, _), (46, _), (51, _), (52, _)] (.cons rfl (.cons rfl (.cons rfl (.cons rfl (.cons rfl (.cons rfl (.cons rfl (.cons rfl (.cons rfl (.cons rfl (.cons rfl .nil))))))))))) (fun T L0 mz E I' loc' => ∃ (i : Nat) (s : SgS) (p13 : Option Addr) (p14 : Option Addr), mz = rows.length - i ∧ E = (13, .pointer p13) :: (14, .pointer p14) :: (15, .int .i64 ((s.many : Nat) : Int)) :: (16, .bool s.lost) :: (53, .int .i64 i) :: T ∧ HLe J3 I' ∧ L ++ [(b_42, .cells (cellsI (rngL ws.length (natF (atN rows k i)))) 3 (0, 0))] = loc' ∧ i ≤ rows.length ∧ s = sgK ws rows k code i ∧ PtrOK 51 I' p13 s.ex ∧ PtrOK 51 I' p14 s.so) _ _ _ _ ⟨0, ⟨none, none, 0, false⟩, none, none, rfl, rfl, HLe.refl _, rfl, Nat.zero_le _, rfl, rfl, rfl⟩ (.cons rfl (.cons rfl (.cons rfl (.cons rfl (.cons rfl (.cons rfl (.cons rfl (.cons rfl (.cons rfl (.cons rfl (.cons rfl (.cons rfl (.cons rfl (.cons rfl (.cons rfl (.cons rfl .nil)))))))))))))))) (HLe.refl _) rfl ?_
  rintro mz E J4 loc' ⟨i, s, p13, p14, rfl, rfl, hJ, rfl, hi, hs, hp13, hp14⟩
  have hW0 := hW0.mono hJ; have hW := hW.mono hJ; have hH := hH.mono hJ; have hVn := hVn.mono hJ; have hX1 := hX1.mono hJ; have hX2 := hX2.mono hJ; have hX3 := hX3.mono hJ; have hDb := hDb.mono hJ; have hTb := hTb.mono hJ; have hV := hV.mono hJ; have hVh := hVh.mono hJ; have hC5 := hC5.mono hJ; have hIc := hIc.trans hJ
  have hB0 := hB0.trans hJ
  have hB2 := hJ
  refine zR (zC (zN (X_seq ?_)))
  refine zI ?_ ?_ <;> intro hc54
  ·
   have hlt_i : i < rows.length := by have h := hc54; simp at h; omega
   obtain ⟨vx, row, hvx, hvr, hQ⟩ := hV.at hlt_i
   obtain ⟨wx, xw, hwx, hxw, e1, e2, hR⟩ := hW.at (show i < ws.length by omega)
   have hrl := (hrr row (List.mem_of_getElem? hvr)).1
   have hQl := hQ.len
   have hRl := hR.len
   have hrk : row[k]? = some (row.getD k 0) := some_getD rfl (by omega)
   have hrk0 := hrk
   have hrg2 : rows.getD i [] = row := getD_of hvr
   have hrg : (rows.getD i []).getD k 0 = row.getD k 0 := by rw [hrg2]
   have hnzk := nz_le (row := rows.getD i []) (k := k)
   have hms := sg_many (ws := ws) (rows := rows) (k := k) (code := code) i
   rw [← hs] at hms
   refine X_skip (at_then (X_seq (X_block (zR (zM ?_)))))
   refine zV (zX slt_22 hVh) ?_
   refine zV (ev_load rfl sct_23 (fun hg => by exact Sl.get0 hVh hvx rfl)) ?_
   refine zA ?_
   refine zA (zN (X_seq (zR ?_)))
   refine zM ?_
   refine zM ?_
   refine zV (zX slt_23 hQ) ?_
   refine zV (ev_load rfl sct_3 (fun hg => by exact Sl.get0 hQ hrk0 rfl)) ?_
   refine zC (zN ?_)
   refine zI ?_ ?_ <;> intro hc62
   ·
    have hc62 : (row.getD k 0 == 0) = true := hc62
    refine X_locEq (loc' := L ++ [(b_42, .cells (cellsI (rngL ws.length (natF (atN rows k (i + 1))))) 3 (0, 0))]) (by rw [atN_no (by rw [hrg2]; exact nzF_no hrk hc62)]) ?_
    refine X_exit (at_then_e (at_block_hit (at_then (X_region (zB ?_)))))
    refine zM (XO_nil ?_)
    first
    | exact at_met2 _ _ ⟨rows.length - (i + 1), by omega, i + 1, s, p13, p14, rfl, rfl, hB2, rfl, by omega, by rw [hs]; exact sg_zero (by rw [hrg]; exact hc62), hp13, hp14⟩ (.cons rfl (.cons rfl (.cons rfl (.cons rfl (.cons rfl (.cons rfl (.cons rfl (.cons rfl (.cons rfl (.cons rfl (.cons rfl (.cons rfl (.cons rfl (.cons rfl (.cons rfl (.cons rfl .nil)))))))))))))))) (by repeat (first | exact .refl | exact subL_left | refine subL_app ?_ | refine .drop ?_ | refine subL_add ?_))
   have hc62 : (row.getD k 0 == 0) = false := hc62
   have hnzi := hnz i xw row hxw hvr k (by omega) (by have h := hc62; simpa using h)
   obtain ⟨y, hy⟩ : ∃ y, xw.rs[nzF (rows.getD i []) k]? = some y := ⟨_, List.getElem?_eq_getElem (by rw [hrg2]; exact hnzi)⟩
   have hyd : ydF ws rows i k = y := ydF_at hxw hy
   have hnzi2 : nzF (rows.getD i []) k < xw.rs.length := by rw [hrg2]; exact hnzi
   refine X_skip (at_then (X_seq ?_))
   have hD := HLe.refl J4
   refine X_drawC mixed ?_
   refine zT 0 rfl (ev_move rfl) hD ?_
   refine zT 1 rfl (ev_move rfl) hD ?_
   refine zT 2 rfl (zX slt_31 hH) hD ?_
   refine zT 3 rfl (ev_fieldAddr rfl fld_54_2) hD ?_
   refine zT 4 rfl (ev_load rfl sct_52 (fun hg => by exact Sl.get hH hwx rfl)) hD ?_
   refine zT 5 rfl (ev_move rfl) hD ?_
   refine zT 6 rfl (ev_move rfl) hD ?_
   refine zT 7 rfl (ev_indexOwn rfl rfl slt_23 (fun hg => by omega)) hD ?_
   refine zT 8 rfl (ev_load rfl sct_3 (fun hg => by exact Cell.app (cellI_at (k := i) (rngL_at (show i < _ by omega))))) hD ?_
   rw [atN_self]
   refine zT 9 rfl (zX slt_52 hR) hD ?_
   refine zT 10 rfl (ev_loadA rfl agt_51 (fun hg => by exact Sl.getA hR hy) rfl) hD ?_
   refine XD_one 11 rfl (by kernel_rfl) ?_
   refine XO_alloc zt_51 rfl rfl (fun b_19 => ?_)
   refine XO_nil ?_
   refine zD hD ?_
   refine XD_one 12 rfl (by kernel_rfl) ?_
   refine XO_storeA rfl rfl szt_51 rfl rfl rfl rfl (by repeat (first | exact Upd.here | apply Upd.there | apply upd_app)) ?_
   refine XO_nil ?_
   refine zD hD ?_
   refine XD_done (by kernel_rfl) ?_
   refine at_noP ?_
   refine at_then (zR (zM ?_))
   refine zM ?_
   refine zV (ev_indexOwn rfl rfl slt_23 (fun hg => by omega)) ?_
   refine zV (ev_load rfl sct_3 (fun hg => by exact Cell.there (Cell.app (cellI_at (k := i) (rngL_at (show i < _ by omega)))))) ?_
   rw [atN_self]
   refine zB ?_
   refine zV (ev_indexOwn rfl rfl slt_23 (fun hg => by omega)) ?_
   refine XO_store rfl rfl szt_3 rfl rfl (by repeat (first | exact Upd.here | apply Upd.there | apply upd_app)) (bltN (by rw [rngL_len]; omega)) ?_
   refine XO_nil ?_
   rw [cellsI_set, rngL_set, show ((nzF (rows.getD i []) k : Nat) : Int) + 1 = ((nzF (rows.getD i []) k + 1 : Nat) : Int) from rfl, nat_upd, atN_yes (by rw [hrg2]; exact nzF_yes hrk hc62)]
   refine at_then (X_seq (X_seq ?_))
   refine X_freeze (b := b_19) (by repeat (first | exact Take.here | apply Take.there)) (fun I5 hI5 hb19 => ?_)
   have hW0 := hW0.mono hI5; have hW := hW.mono hI5; have hH := hH.mono hI5; have hVn := hVn.mono hI5; have hX1 := hX1.mono hI5; have hX2 := hX2.mono hI5; have hX3 := hX3.mono hI5; have hDb := hDb.mono hI5; have hTb := hTb.mono hI5; have hV := hV.mono hI5; have hVh := hVh.mono hI5; have hC5 := hC5.mono hI5
   have hp13 := hp13.mono hI5; have hp14 := hp14.mono hI5; have hQ := hQ.mono hI5; have hR := hR.mono hI5; have hIc := hIc.trans hI5; have hB0 := hB0.trans hI5; have hB2 := hB2.trans hI5
   have hp19 := PtrOK.new hb19
   refine X_region ?_
   refine zF fld_51_0 ?_
   refine zV (ev_load rfl sct_4 (fun hg => by exact .imm hb19 rfl)) ?_
   refine zN ?_
   refine zI ?_ ?_ <;> intro hc81
   ·
    refine zR (zA (zN (X_exit (at_then_e (at_block_hit (at_then (X_region ?_)))))))
    refine zB ?_
    refine zM (XO_nil ?_)
    first
    | exact at_met2 _ _ ⟨rows.length - (i + 1), by omega, i + 1, { s with lost := true }, p13, p14, rfl, rfl, hB2, rfl, by omega, sg_lost hs (by rw [hrg]; exact hc62) (by rw [hyd]; exact hc81), hp13, hp14⟩ (.cons rfl (.cons rfl (.cons rfl (.cons rfl (.cons rfl (.cons rfl (.cons rfl (.cons rfl (.cons rfl (.cons rfl (.cons rfl (.cons rfl (.cons rfl (.cons rfl (.cons rfl (.cons rfl .nil)))))))))))))))) (by repeat (first | exact .refl | exact subL_left | refine subL_app ?_ | refine .drop ?_ | refine subL_add ?_))
   refine X_skip (at_then (zR (zM ?_)))
   refine zB ?_
   refine zA (zN ?_)
   refine X_cutT [(0, _), (1, _), (6, _), (10, _), (11, _), (12, _), (13, _), (15, _), (16, _), (18, _), (19, _), (44, _), (45, _), (46, _), (51, _), (52, _), (53, _)] (.cons rfl (.cons rfl (.cons rfl (.cons rfl (.cons rfl (.cons rfl (.cons rfl (.cons rfl (.cons rfl (.cons rfl (.cons rfl (.cons rfl (.cons rfl (.cons rfl (.cons rfl (.cons rfl (.cons rfl .nil))))))))))))))))) (fun T L0 E I' loc' => ∃ (q14 : Option Addr), E = (14, .pointer q14) :: T ∧ HLe I5 I' ∧ L ++ [(b_42, .cells (cellsI (rngL ws.length (natF (atN rows k (i + 1))))) 3 (0, 0))] = loc' ∧ PtrOK 51 I' q14 (orS s.so y.sg)) ?_ ?_
   ·
    have hKc24 := HLe.refl I5
    refine zR (zM ?_)
    refine zV (ev_ptrNil rfl rfl und_70) ?_
    refine zN ?_
    refine zI ?_ ?_ <;> intro hc85
    ·
     refine X_region ?_
     refine zF fld_51_1 ?_
     refine zA (XO_nil ?_)
     exact at_met2 _ _ ⟨_, rfl, hKc24, rfl, hp14.orN hc85 hp19⟩ (.cons rfl (.cons rfl (.cons rfl (.cons rfl (.cons rfl (.cons rfl (.cons rfl (.cons rfl (.cons rfl (.cons rfl (.cons rfl (.cons rfl (.cons rfl (.cons rfl (.cons rfl (.cons rfl (.cons rfl (.cons rfl .nil)))))))))))))))))) .refl
    refine X_skip ?_
    exact at_met2 _ _ ⟨_, rfl, hKc24, rfl, hp14.orS hc85⟩ (.cons rfl (.cons rfl (.cons rfl (.cons rfl (.cons rfl (.cons rfl (.cons rfl (.cons rfl (.cons rfl (.cons rfl (.cons rfl (.cons rfl (.cons rfl (.cons rfl (.cons rfl (.cons rfl (.cons rfl (.cons rfl .nil)))))))))))))))))) .refl
   rintro E J6 loc' ⟨q14, rfl, hJ85, rfl, hq14⟩
   have hW0 := hW0.mono hJ85; have hW := hW.mono hJ85; have hH := hH.mono hJ85; have hVn := hVn.mono hJ85; have hX1 := hX1.mono hJ85; have hX2 := hX2.mono hJ85; have hX3 := hX3.mono hJ85; have hDb := hDb.mono hJ85; have hTb := hTb.mono hJ85; have hV := hV.mono hJ85; have hVh := hVh.mono hJ85; have hC5 := hC5.mono hJ85
   have hp13 := hp13.mono hJ85; have hp14 := hp14.mono hJ85; have hQ := hQ.mono hJ85; have hR := hR.mono hJ85; have hp19 := hp19.mono hJ85; have hIc := hIc.trans hJ85; have hB0 := hB0.trans hJ85; have hB2 := hB2.trans hJ85
   refine zR (zM ?_)
   refine zV (ev_ptrNil rfl rfl und_70) ?_
   refine zM ?_
   refine XO_pushT 2 rfl rfl rfl ?_
   refine zK (ev_move rfl) ?_
   refine zK (ev_move rfl) ?_
   refine zK (zX slt_23 hQ) ?_
   refine zK (ev_load rfl sct_3 (fun hg => by exact Sl.get0 hQ hrk0 rfl)) ?_
   refine zK (ev_move rfl) ?_
   refine zK (ev_cmp rfl rfl rfl) ?_
   refine XO_and0 rfl rfl rfl rfl rfl ?_
   refine zN ?_
   refine zI ?_ ?_ <;> intro hc96
   ·
    refine X_region ?_
    refine zF fld_51_1 ?_
    refine zA (XO_nil (at_block_n (at_then (X_region ?_))))
    refine zB ?_
    refine zM (XO_nil ?_)
    first
    | exact at_met2 _ _ ⟨rows.length - (i + 1), by omega, i + 1, ⟨some y.sg, orS s.so y.sg, s.many + 1, s.lost⟩, _, q14, rfl, rfl, hB2, rfl, by omega, sg_yes hs (by rw [hrg]; exact hc62) hyd hc81 (by rw [hrg, ← hp13.isNone]; exact hc96), hp19, hq14⟩ (.cons rfl (.cons rfl (.cons rfl (.cons rfl (.cons rfl (.cons rfl (.cons rfl (.cons rfl (.cons rfl (.cons rfl (.cons rfl (.cons rfl (.cons rfl (.cons rfl (.cons rfl (.cons rfl .nil)))))))))))))))) (by repeat (first | exact .refl | exact subL_left | refine subL_app ?_ | refine .drop ?_ | refine subL_add ?_))
   refine X_skip (at_block_n (at_then (X_region (zB ?_))))
   refine zM (XO_nil ?_)
   first
   | exact at_met2 _ _ ⟨rows.length - (i + 1), by omega, i + 1, ⟨s.ex, orS s.so y.sg, s.many + 1, s.lost⟩, p13, q14, rfl, rfl, hB2, rfl, by omega, sg_no hs (by rw [hrg]; exact hc62) hyd hc81 (by rw [hrg, ← hp13.isNone]; exact hc96), hp13, hq14⟩ (.cons rfl (.cons rfl (.cons rfl (.cons rfl (.cons rfl (.cons rfl (.cons rfl (.cons rfl (.cons rfl (.cons rfl (.cons rfl (.cons rfl (.cons rfl (.cons rfl (.cons rfl (.cons rfl .nil)))))))))))))))) (by repeat (first | exact .refl | exact subL_left | refine subL_app ?_ | refine .drop ?_ | refine subL_add ?_))
  have hge_i : rows.length ≤ i := by have h := hc54; simp at h; omega
  obtain rfl : i = rows.length := by omega
  refine X_exit (at_then_e (at_then_e (at_block_hit (at_then (X_seq (X_seq ?_))))))
  refine X_locEq (loc' := L ++ [(b_42, .cells (cellsI (rngL ws.length (natF (atN rows (k + 1) 0)))) 3 (0, 0))]) (by rw [hlen, atN_next]) ?_
  refine X_region (zM ?_)
  refine zC (zN ?_)
  refine zI ?_ ?_ <;> intro hc100
  ·
   refine X_exit (at_then_e (at_block_hit (at_then (X_region (zB ?_)))))
   refine zM (XO_nil ?_)
   first
   | exact at_met2 _ _ ⟨rd.length - (k + 1), by omega, k + 1, _, _, _, rfl, rfl, hB0, rfl, by omega, sgn_skip hsg (by rw [getD_of hk]; exact out_skip hc100), hO, by omega⟩ (.cons rfl (.cons rfl (.cons rfl (.cons rfl (.cons rfl (.cons rfl (.cons rfl .nil))))))) (by repeat (first | exact .refl | exact subL_left | refine subL_app ?_ | refine .drop ?_ | refine subL_add ?_))
  refine X_skip (at_then ?_)
  refine X_cutT [(0, _), (1, _), (6, _), (10, _), (11, _), (12, _), (15, _), (16, _), (44, _), (45, _), (46, _)] (.cons rfl (.cons rfl (.cons rfl (.cons rfl (.cons rfl (.cons rfl (.cons rfl (.cons rfl (.cons rfl (.cons rfl (.cons rfl .nil))))))))))) (fun T L0 E I' loc' => ∃ (q13 : Option Addr), E = (13, .pointer q13) :: T ∧ HLe J4 I' ∧ L ++ [(b_42, .cells (cellsI (rngL ws.length (natF (atN rows (k + 1) 0)))) 3 (0, 0))] = loc' ∧ PtrOK 51 I' q13 (s.ex.or s.so)) ?_ ?_
  ·
   have hKc30 := HLe.refl J4
   refine zR (zM ?_)
   refine zV (ev_ptrNil rfl rfl und_70) ?_
   refine zN ?_
   refine zI ?_ ?_ <;> intro hc102
   ·
    refine X_region (zM ?_)
    refine zA (XO_nil ?_)
    exact at_met2 _ _ ⟨_, rfl, hKc30, rfl, hp13.orY hc102 hp14⟩ (.cons rfl (.cons rfl (.cons rfl (.cons rfl (.cons rfl (.cons rfl (.cons rfl (.cons rfl (.cons rfl (.cons rfl (.cons rfl (.cons rfl .nil)))))))))))) .refl
   refine X_skip ?_
   exact at_met2 _ _ ⟨_, rfl, hKc30, rfl, hp13.orX hc102⟩ (.cons rfl (.cons rfl (.cons rfl (.cons rfl (.cons rfl (.cons rfl (.cons rfl (.cons rfl (.cons rfl (.cons rfl (.cons rfl (.cons rfl .nil)))))))))))) .refl
  rintro E J7 loc' ⟨q13, rfl, hJ102, rfl, hq13⟩
  have hW0 := hW0.mono hJ102; have hW := hW.mono hJ102; have hH := hH.mono hJ102; have hVn := hVn.mono hJ102; have hX1 := hX1.mono hJ102; have hX2 := hX2.mono hJ102; have hX3 := hX3.mono hJ102; have hDb := hDb.mono hJ102; have hTb := hTb.mono hJ102; have hV := hV.mono hJ102; have hVh := hVh.mono hJ102
  have hC5 := hC5.mono hJ102; have hp13 := hp13.mono hJ102; have hp14 := hp14.mono hJ102; have hIc := hIc.trans hJ102; have hB0 := hB0.trans hJ102; have hB2 := hB2.trans hJ102
  refine X_seq (zR (zM ?_))
  refine zV (ev_ptrNil rfl rfl und_70) ?_
  refine zN ?_
  refine zI ?_ ?_ <;> intro hc105
  ·
   have hso := hq13.none hc105
   refine zR (zA ?_)
   refine zA (zN (X_ret (at_then_r (at_block_r (at_then_r (at_then_r (at_block_r ?_)))))))
   refine at_then_r ?_
   refine at_scope_r ?_
   first
   | exact at_ret2 rfl rfl rfl (fun w hw => ⟨_, _, [], rfl, hIc, hw.drop, SgnQ.bad (sig_4 hcT heq hcE (sgn_err hsg (by rw [getD_of hk]; exact out_none hc100 hs hso) hlt_k)) (by decide)⟩)
  obtain ⟨sy, spb, spl, hso, rfl, hsp⟩ := hq13.at hc105
  refine X_skip (at_then (zR (zM ?_)))
  refine XO_callV0 (cap := []) (vs := [_]) rfl rfl fun_30 (w_Sign _ _) rfl rfl ?_
  refine zM ?_
  refine zE ?_
  refine zE ?_
  refine XO_alloc zt_48 rfl rfl (fun b_20 => ?_)
  refine XO_storeA rfl rfl szt_48 rfl rfl rfl rfl (by repeat (first | exact Upd.here | apply Upd.there | apply upd_app)) ?_
  refine zA (zN (X_seq (zR ?_)))
  refine zM ?_
  refine zC (zN ?_)
  refine zI ?_ ?_ <;> intro hc112
  ·
   have he1 : (signE code != 0) = true := hc112
   refine zR (zA ?_)
   refine zA (zN (X_ret (at_then_r (at_block_r (at_then_r (at_then_r (at_block_r ?_)))))))
   refine at_then_r ?_
   refine at_scope_r ?_
   first
   | exact at_ret2 rfl rfl rfl (fun w hw => ⟨_, _, [], rfl, hIc, hw.drop, SgnQ.bad (sig_4 hcT heq hcE (sgn_err hsg (by rw [getD_of hk]; exact out_bad hc100 hs hso he1) hlt_k)) (by decide)⟩)
  have he0 : (signE code != 0) = false := hc112
  refine X_skip (at_then (X_seq ?_))
  have hD := HLe.refl J7
  refine X_noP ?_
  refine X_drawS J7 [] mixed ?_
  refine zT 0 rfl (ev_move rfl) hD ?_
  refine zT 1 rfl (ev_move rfl) hD ?_
  refine zT 2 rfl (ev_nilCheck rfl) hD ?_
  refine zT 3 rfl (ev_fieldAddr rfl fld_48_2) hD ?_
  refine zT 4 rfl (ev_load rfl sct_3 (fun hg => by exact .imm hsp rfl)) hD ?_
  refine zT 5 rfl (ev_move rfl) hD ?_
  refine zT 6 rfl (ev_nilCheck rfl) hD ?_
  refine zT 7 rfl (ev_fieldAddr rfl fld_48_3) hD ?_
  refine zT 8 rfl (ev_load rfl sct_3 (fun hg => by exact .imm hsp rfl)) hD ?_
  refine zT 9 rfl (ev_move rfl) hD ?_
  refine zT 10 rfl (ev_nilCheck rfl) hD ?_
  refine zT 11 rfl (ev_fieldAddr rfl fld_48_10) hD ?_
  refine zT 12 rfl (ev_loadA rfl agt_46 (fun hg => by exact Cells.two hsp rfl rfl) rfl) hD ?_
  refine zT 13 rfl (ev_move rfl) hD ?_
  refine zT 14 rfl (ev_nilCheck rfl) hD ?_
  refine zT 15 rfl (ev_fieldAddr rfl fld_48_11) hD ?_
  refine zT 16 rfl (ev_loadA rfl agt_46 (fun hg => by exact Cells.two hsp rfl rfl) rfl) hD ?_
  refine zT 17 rfl (ev_fieldAddr rfl fld_48_0) hD ?_
  refine XD_one 18 rfl (by kernel_rfl) ?_
  refine zS szt_3 ?_
  refine XO_nil ?_
  refine zD hD ?_
  refine zT 19 rfl (ev_fieldAddr rfl fld_48_2) hD ?_
  refine XD_one 20 rfl (by kernel_rfl) ?_
  refine zS szt_3 ?_
  refine XO_nil ?_
  refine zD hD ?_
  refine zT 21 rfl (ev_fieldAddr rfl fld_48_3) hD ?_
  refine XD_one 22 rfl (by kernel_rfl) ?_
  refine zS szt_3 ?_
  refine XO_nil ?_
  refine zD hD ?_
  refine zT 23 rfl (ev_fieldAddr rfl fld_48_10) hD ?_
  refine XD_one 24 rfl (by kernel_rfl) ?_
  refine XO_storeP rfl rfl szt_46 rfl rfl rfl rfl (by repeat (first | exact Upd.here | apply Upd.there | apply upd_app)) ?_
  refine XO_nil ?_
  refine zD hD ?_
  refine zT 25 rfl (ev_fieldAddr rfl fld_48_11) hD ?_
  refine XD_one 26 rfl (by kernel_rfl) ?_
  refine XO_storeP rfl rfl szt_46 rfl rfl rfl rfl (by repeat (first | exact Upd.here | apply Upd.there | apply upd_app)) ?_
  refine XO_nil ?_
  refine zD hD ?_
  refine XD_done (by kernel_rfl) ?_
  refine at_noP ?_
  refine at_locEq (loc' := (b_20, .cells (encG ({ signF code with id := (k : Int), bar := sy.bar, mark := sy.mark, fn := sy.fn, fd := sy.fd, tn := sy.tn, td := sy.td } : Sg)).toArray 48 (0, 0)) :: (L ++ [(b_42, .cells (cellsI (rngL ws.length (natF (atN rows (k + 1) 0)))) 3 (0, 0))])) rfl ?_
  refine at_then ?_
  refine X_cutT [(0, _), (1, _), (6, _), (10, _), (20, _), (44, _), (45, _), (46, _)] (.cons rfl (.cons rfl (.cons rfl (.cons rfl (.cons rfl (.cons rfl (.cons rfl (.cons rfl .nil)))))))) (fun T L0 E I' loc' => E = T ∧ HLe J7 I' ∧ (b_20, .cells (encG (putS k code sy ((decide ((ws.length : Int) > 1) && (s.many : Int) == 1) && !s.lost))).toArray 48 (0, 0)) :: (L ++ [(b_42, .cells (cellsI (rngL ws.length (natF (atN rows (k + 1) 0)))) 3 (0, 0))]) = loc') ?_ ?_
  ·
   have hKc38 := HLe.refl J7
   refine zR (zM ?_)
   refine zQ slt_31 ?_
   refine zC ?_
   refine zM ?_
   refine XO_pushT 3 rfl rfl rfl ?_
   refine zK (ev_move rfl) ?_
   refine zK (ev_cmp rfl rfl rfl) ?_
   refine XO_and0 rfl rfl rfl rfl rfl ?_
   refine zM ?_
   refine XO_pushT 7 rfl rfl rfl ?_
   refine zK (ev_move rfl) ?_
   refine zK (ev_not rfl) ?_
   refine XO_and0 rfl rfl rfl rfl rfl ?_
   refine zN ?_
   refine zI ?_ ?_ <;> intro hc145
   ·
    refine X_region ?_
    refine zF fld_48_3 ?_
    refine zS szt_3 ?_
    refine XO_nil ?_
    refine at_locEq (loc' := (b_20, .cells (encG (putS k code sy ((decide ((ws.length : Int) > 1) && (s.many : Int) == 1) && !s.lost))).toArray 48 (0, 0)) :: (L ++ [(b_42, .cells (cellsI (rngL ws.length (natF (atN rows (k + 1) 0)))) 3 (0, 0))])) (by rw [hc145]; rfl) ?_
    exact at_met2 _ _ ⟨rfl, hKc38, rfl⟩ (.cons rfl (.cons rfl (.cons rfl (.cons rfl (.cons rfl (.cons rfl (.cons rfl (.cons rfl .nil)))))))) .refl
   refine X_locEq (loc' := (b_20, .cells (encG (putS k code sy ((decide ((ws.length : Int) > 1) && (s.many : Int) == 1) && !s.lost))).toArray 48 (0, 0)) :: (L ++ [(b_42, .cells (cellsI (rngL ws.length (natF (atN rows (k + 1) 0)))) 3 (0, 0))])) (by rw [hc145]; rfl) ?_
   refine X_skip ?_
   exact at_met2 _ _ ⟨rfl, hKc38, rfl⟩ (.cons rfl (.cons rfl (.cons rfl (.cons rfl (.cons rfl (.cons rfl (.cons rfl (.cons rfl .nil)))))))) .refl
  rintro E J8 loc' ⟨rfl, hJ145, rfl⟩
  have hW0 := hW0.mono hJ145; have hW := hW.mono hJ145; have hH := hH.mono hJ145; have hVn := hVn.mono hJ145; have hX1 := hX1.mono hJ145; have hX2 := hX2.mono hJ145; have hX3 := hX3.mono hJ145; have hDb := hDb.mono hJ145; have hTb := hTb.mono hJ145; have hV := hV.mono hJ145; have hVh := hVh.mono hJ145
  have hC5 := hC5.mono hJ145; have hp13 := hp13.mono hJ145; have hp14 := hp14.mono hJ145; have hq13 := hq13.mono hJ145; have hIc := hIc.trans hJ145; have hB0 := hB0.trans hJ145; have hB2 := hB2.trans hJ145
  refine X_region (zM ?_)
  refine zV (ev_loadA rfl agt_48 (fun hg => by exact Cells.g0) rfl) ?_
  refine XO_buildSlice (ps := [(0, _)]) (m := [encG (putS k code sy ((decide ((ws.length : Int) > 1) && (s.many : Int) == 1) && !s.lost))]) elt_36 rfl (.cons rfl (.nil)) rfl (by simp [encG_len]) (by decide) (by decide) rfl rfl (fun b_149 => ?_)
  refine XO_append (v := _) (ys := [putS k code sy ((decide ((ws.length : Int) > 1) && (s.many : Int) == 1) && !s.lost)].flatMap encG) (L := L) rfl rfl elt_36 hO (by repeat (first | exact .cons .here .nil | exact split_all | exact split_app | apply split_cons | apply split_skip)) ⟨rfl, fun _ => rfl, by repeat (first | exact Cells.here | apply Cells.there | apply Cells.app)⟩ (one_G [putS k code sy ((decide ((ws.length : Int) > 1) && (s.many : Int) == 1) && !s.lost)]) (by omega) rfl rfl ?_
  intro v9 L9 hO9 _; rw [← List.flatMap_append] at hO9
  refine zA (XO_nil (at_block_n (at_then (X_region ?_))))
  refine zB ?_
  refine zM (XO_nil ?_)
  first
  | exact at_met2 _ _ ⟨rd.length - (k + 1), by omega, k + 1, _, _, _, rfl, rfl, hB0, rfl, by omega, sgn_sg hsg (by rw [getD_of hk]; exact out_sg hc100 hs hso he0), by rw [List.length_append]; exact hO9, by rw [List.length_append, List.length_singleton]; omega⟩ (.cons rfl (.cons rfl (.cons rfl (.cons rfl (.cons rfl (.cons rfl (.cons rfl .nil))))))) (by repeat (first | exact .refl | exact subL_left | refine subL_app ?_ | refine .drop ?_ | refine subL_add ?_))
 have hge_k : rd.length ≤ k := by have h := hc47; simp at h; omega
 obtain rfl : k = rd.length := by omega
 obtain ⟨t1, t2⟩ := sig_5 hcT heq hcE hsg
 refine X_exit (at_then_e (at_then_e (at_block_hit (at_then (zR (zM ?_))))))
 refine zA ?_
 refine zA (zN (X_ret ?_))
 refine at_scope_r ?_
 first
 | exact at_ret2 rfl rfl rfl (fun w hw => by obtain ⟨I9, av9, c9, h1', h2', e9, h4'⟩ := OwnS.freeze (R := [_]) hO encG_len (by decide) hw; subst e9; exact ⟨_, I9, [], rfl, hIc.trans h1', h2'.drop, rfl, av9, c9, by rw [t1, t2], by rw [t2]; exact h4'⟩)
end
section
open Go Go.Kn Go.Proofs
def insU (x : Int) : List Int → List Int
 | [] => [x]
 | y :: ys => if x < y then x :: y :: ys else if x = y then y :: ys else y :: insU x ys
theorem insU_mem {x z : Int} : ∀ {l : List Int}, z ∈ insU x l ↔ z = x ∨ z ∈ l
 | [] => by simp [insU]
 | y :: ys => by
  unfold insU
  split
  ·
   simp
  ·
   split
   ·
    rename_i h; subst h; simp
   ·
    rw [List.mem_cons, insU_mem, List.mem_cons]
    constructor
    ·
     rintro (h | h | h)
     ·
      exact .inr (.inl h)
     ·
      exact .inl h
     ·
      exact .inr (.inr h)
    ·
     rintro (h | h | h)
     ·
      exact .inr (.inl h)
     ·
      exact .inl h
     ·
      exact .inr (.inr h)
theorem insU_up {x : Int} : ∀ {l : List Int}, l.Pairwise (· < ·) → (insU x l).Pairwise (· < ·)
 | [], _ => by simp [insU]
 | y :: ys, h => by
  rw [List.pairwise_cons] at h
  unfold insU
  split
  ·
   rename_i hxy
   rw [List.pairwise_cons, List.pairwise_cons]
   refine ⟨fun z hz => ?_, h⟩
   rcases List.mem_cons.1 hz with e | hz
   ·
    rw [e]; exact hxy
   ·
    exact Int.lt_trans hxy (h.1 z hz)
  ·
   split
   ·
    rw [List.pairwise_cons]; exact h
   ·
    rw [List.pairwise_cons]
    refine ⟨fun z hz => ?_, insU_up h.2⟩
    rcases insU_mem.1 hz with rfl | hz
    ·
     omega
    ·
     exact h.1 z hz
def stU (rows : List (List Int)) (l : Nat) : List Int := (stL rows l rows.length).foldr insU []
theorem foldU (xs : List Int) : (xs.foldr insU []).Pairwise (· < ·) ∧ ∀ z, z ∈ xs.foldr insU [] ↔ z ∈ xs := by
 induction xs with
 | nil => simp
 | cons x xs ih =>
  rw [List.foldr_cons]
  exact ⟨insU_up ih.1, fun z => by rw [insU_mem, ih.2, List.mem_cons]⟩
theorem up_eq {a b : List Int} (ha : a.Pairwise (· < ·)) (hb : b.Pairwise (· < ·)) (h : ∀ z, z ∈ a ↔ z ∈ b) : a = b := by
 have hp : a.Perm b := (List.perm_ext_iff_of_nodup (ha.imp (by intro x y h e; omega)) (hb.imp (by intro x y h e; omega))).2 h
 exact hp.eq_of_pairwise (le := (· < ·)) (by intro x y _ _ h1 h2; omega) ha hb
theorem stE_S {rows : List (List Int)} {l : Nat} : stE rows l = stU rows l := by
 refine up_eq stE_up (foldU _).1 fun z => ?_
 unfold stU
 rw [(foldU _).2]
 unfold stE; rw [(comp_sort _).2]
def rootC (rows : List (List Int)) (cl : List Int) (l : Nat) : List Int := (stU rows l).filter fun x => rcV (stU rows l) (uF rows l) cl 63 (allS rows.length) x == leastF (rcF (stU rows l) (uF rows l) cl 64 (allS rows.length))
theorem rootC_eq : rootF = rootC := by
 funext rows cl l
 unfold rootF rootC topF topV
 rw [stE_S]
theorem rootsL_C {rows : List (List Int)} {cl : List Int} : rootsL rows cl = if costE rows cl ≠ 0 then [] else (List.range (rows.getD 0 []).length).map (rootC rows cl) := by unfold rootsL; rw [rootC_eq]
def baseC (rows : List (List Int)) (cl : List Int) (k : Nat) : Int := if (rootC rows cl k).any (fun y => (rows.getD 0 []).getD k 0 == y) = true then (rows.getD 0 []).getD k 0 else (rootC rows cl k).getD 0 0
def readC (rows : List (List Int)) (cl : List Int) (es : List Em) (k : Nat) : Int := match lfK es k with
 | [] => baseC rows cl k
 | e :: _ => if e.locus = (k : Int) then e.code else baseC rows cl k
theorem readC_eq : readK = readC := by
 funext rows cl es k
 have hb : baseK rows cl k = baseC rows cl k := by unfold baseK baseC; rw [rootC_eq]
 unfold readK readC
 rw [hb]
 cases lfK es k <;> rfl
theorem readsL_C {rows : List (List Int)} {cl : List Int} {es : List Em} : readsL rows cl es = (List.range (rows.getD 0 []).length).map (readC rows cl es) := by unfold readsL; rw [readC_eq]
def nzB (ws : List Wr) (rows : List (List Int)) : Bool := (List.range ws.length).all fun i => (List.range (rows.getD i []).length).all fun k => ((rows.getD i []).getD k 0 == 0) || decide (nzF (rows.getD i []) k < ((ws[i]?).map (·.rs.length)).getD 0)
theorem nzB_ok {ws : List Wr} {rows : List (List Int)} (h : nzB ws rows = true) : NzOK ws rows := by
 intro i x row hx hr k hk h0
 have hi := (List.getElem?_eq_some_iff.1 hx).1
 have h1 := List.all_eq_true.1 h i (List.mem_range.2 hi)
 rw [getD_of hr, hx] at h1
 have h2 := List.all_eq_true.1 h1 k (List.mem_range.2 hk)
 simp only [Bool.or_eq_true, beq_iff_eq, decide_eq_true_eq, Option.map_some, Option.getD_some] at h2
 rcases h2 with h2 | h2
 ·
  exact absurd h2 h0
 ·
  exact h2
end
section
open Go Go.Kn Go.Proofs
theorem lit_rows {I : HMap} {b t n : Nat} (hs : List Hd) {vss : List (List Int)} (hn : hs.length = n) (h : I b = some (.cells (hs.flatMap encH).toArray t (0, 0))) (r : RelH I hs vss) : SlN I (some ⟨b, 0, none⟩) n n vss := ⟨hs, Sl.lit hs hn encH_len h, r⟩
theorem s_makeOK {I : HMap} {bv av dv : Option Addr} {n2 c2 n c n3 c3 : Nat} {rows : List (List Int)} {cl : List Int} {es : List Em} {no : Int} (hV : SlN I bv n2 c2 rows) (hS : Sl I 1 encI av n c cl) (hE : Sl I 3 encEm dv n3 c3 es) (hDb : DebOK I) (hn2 : n2 ≤ 100000) (hn : n ≤ 100000) (hn3 : n3 ≤ 100000) {rd : List Int} {k : Nat}
  (he : makE rows no cl es = 0) (hr : readsL rows cl es = rd) (hk : rd.length = k) : RetM Tryz.prog 14 [.slice bv n2 c2, .int .i64 no, .slice av n c, .slice dv n3 c3] I [] (fun v I' L => L = [] ∧ ∃ a1 c1 a2 c2 a3 c3, v = .tuple #[.agg (encEd no a1 n c1 a2 n3 c2 a3 k c3).toArray, .int .i64 0] ∧ Sl I' 1 encI a1 n c1 cl ∧ Sl I' 3 encEm a2 n3 c2 es ∧ Sl I' 1 encI a3 k c3 rd) := by
 intro g H w hw
 refine (w_Make hS hV hn2 hE hn3 hn hDb no g H w hw).mono ?_
 rintro ed w' ⟨v, I', L', hed, hI, hs, hMQ⟩
 obtain ⟨rfl, no2, cl2, es2, rd2, a1, q1, c1, a2, q2, c9, a3, q3, c3, rfl, hM1, hM2, hM3, hMy, -⟩ := hMQ.opn
 obtain ⟨rfl, rfl, rfl, rfl⟩ := hMy he
 have l1 := hM1.len.symm.trans hS.len; have l2 := hM2.len.symm.trans hE.len
 subst l1; subst l2; subst hk
 rw [hr] at hM3
 have l3 := hM3.len
 subst l3
 exact ⟨_, I', [], hed, hI, hs, rfl, a1, c1, a2, c9, a3, c3, by rw [he], hM1, hM2, hM3⟩
theorem s_makeNo {I : HMap} {bv av dv : Option Addr} {n2 c2 n c n3 c3 : Nat} {rows : List (List Int)} {cl : List Int} {es : List Em} {no : Int} (hV : SlN I bv n2 c2 rows) (hS : Sl I 1 encI av n c cl) (hE : Sl I 3 encEm dv n3 c3 es) (hDb : DebOK I) (hn2 : n2 ≤ 100000) (hn : n ≤ 100000) (hn3 : n3 ≤ 100000) {e : Int}
  (he : makE rows no cl es = e) : RetM Tryz.prog 14 [.slice bv n2 c2, .int .i64 no, .slice av n c, .slice dv n3 c3] I [] (fun v I' L => L = [] ∧ ∃ no2 a1 n1 c1 a2 n2 c2 a3 n3 c3, v = .tuple #[.agg (encEd no2 a1 n1 c1 a2 n2 c2 a3 n3 c3).toArray, .int .i64 e]) := by
 intro g H w hw
 refine (w_Make hS hV hn2 hE hn3 hn hDb no g H w hw).mono ?_
 rintro ed w' ⟨v, I', L', hed, hI, hs, hMQ⟩
 obtain ⟨rfl, no2, cl2, es2, rd2, a1, q1, c1, a2, q2, c9, a3, q3, c3, rfl, -⟩ := hMQ.opn
 exact ⟨_, I', [], hed, hI, hs, rfl, no2, a1, q1, c1, a2, q2, c9, a3, q3, c3, by rw [he]⟩
def w3 : List Wr := [⟨1, 0, [⟨false, stepG 1 0⟩, ⟨false, stepG 2 5⟩]⟩, ⟨2, 0, [⟨false, stepG 1 3⟩]⟩, ⟨3, 0, [⟨false, stepG 1 4⟩]⟩]
def sg2 : Sg := ⟨1, 0, 5, 3, 1, 1, 1, 0, 2, 0, 0, 1, 1, 1⟩
theorem t_tabR : tabR w3 = [[10616960, 10617088], [10616960, 0], [10616960, 0]] := by kernel_rfl
theorem t_rz : readsL [[10616960, 10617088], [10616960, 0], [10616960, 0]] [6, 7] [] = [10616960, 10617088] := by rw [readsL_C]; kernel_rfl
theorem t_mk : makE [[10616960, 10617088], [10616960, 0], [10616960, 0]] 0 [6, 7] [] = 0 := by kernel_rfl
theorem t_edc : edcF [[10616960, 10617088], [10616960, 0], [10616960, 0]] 0 [6, 7] [] [10616960, 10617088] = 0 := edc_3 t_mk t_rz.symm
theorem s_table {I : HMap} {av : Option Addr} {c : Nat} (hW : SlW I av 3 c w3) : RetM Tryz.prog 16 [.slice av 3 c] I [] (fun v I' L => L = [] ∧ ∃ a c, v = .tuple #[.slice a 3 c, .int .i64 0] ∧ SlN I' a 3 c [[10616960, 10617088], [10616960, 0], [10616960, 0]]) := by
 intro g H w hw
 refine (w_Table hW (by decide) g H w hw).mono ?_
 rintro ed w' ⟨v, I', L', he, hI, hs, rfl, a, c', hv, hN⟩
 have e2 : tabE w3 = 0 := by kernel_rfl
 rw [t_tabR] at hv hN
 rw [e2] at hv
 exact ⟨_, I', [], he, hI, hs, rfl, a, c', hv, hN⟩
theorem s_signs {I : HMap} {av bv a1 a2 a3 : Option Addr} {c c2 c1 c9 c3 : Nat} (hW : SlW I av 3 c w3) (hV : SlN I bv 3 c2 [[10616960, 10617088], [10616960, 0], [10616960, 0]]) (h1 : Sl I 1 encI a1 2 c1 [6, 7]) (h2 : Sl I 3 encEm a2 0 c9 []) (h3 : Sl I 1 encI a3 2 c3 [10616960, 10617088]) (hDb : DebOK I) : RetM Tryz.prog 11 [.slice av 3 c, .slice bv 3 c2, .agg (encEd 0 a1 2 c1 a2 0 c9 a3 2 c3).toArray] I [] (fun v I' L => L = [] ∧ ∃ a c, v = .tuple #[.slice a 2 c, .int .i64 0] ∧ Sl I' 14 encG a 2 c [stepG 1 0, sg2]) := by
 intro g H w hw
 refine (w_Signs hW (by decide) hV (by decide) h1 h2 h3 (by decide) (by decide) (by decide) 0 hDb (fun _ => nzB_ok (by kernel_rfl)) g H w hw).mono ?_
 rintro ed w' ⟨v, I', L', he, hI, hs, rfl, a, c', hv, hN⟩
 obtain ⟨e1, e2⟩ := sig_5 (ws := w3) (rows := [[10616960, 10617088], [10616960, 0], [10616960, 0]]) (no := 0) (cl := [6, 7]) (es := []) (rd := [10616960, 10617088]) (l := [stepG 1 0, sg2]) (by kernel_rfl) t_tabR t_edc (by kernel_rfl)
 rw [e2] at hv hN
 rw [e1] at hv
 exact ⟨_, I', [], he, hI, hs, rfl, a, c', hv, hN⟩
theorem s_signs0 {I : HMap} (hDb : DebOK I) : RetM Tryz.prog 11 [.slice none 0 0, .slice none 0 0, .agg (encEd 0 none 0 0 none 0 0 none 0 0).toArray] I [] (fun v I' L => L = [] ∧ ∃ v9, v = .tuple #[v9, .int .i64 420]) := by
 intro g H w hw
 refine (w_Signs (ws := []) ⟨[], .nil, rfl, fun k w x h => by simp at h⟩ (by decide) SlN.none (by decide) (xs := []) (es := []) (rd := []) .nil .nil .nil (by decide) (by decide) (by decide) 0 hDb (fun _ i x row h => by simp at h) g H w hw).mono ?_
 rintro ed w' ⟨v, I', L', he, hI, hs, rfl, a, c', hv, hN⟩
 have e1 : sigE [] [] 0 [] [] [] = 420 := by kernel_rfl
 rw [e1] at hv
 exact ⟨_, I', [], he, hI, hs, rfl, _, hv⟩
theorem s_chk {I : HMap} {bv a1 a2 a3 : Option Addr} {c2 c1 c9 c3 : Nat} (hV : SlN I bv 3 c2 [[10616960, 10617088], [10616960, 0], [10616960, 0]]) (h1 : Sl I 1 encI a1 2 c1 [6, 7]) (h2 : Sl I 3 encEm a2 0 c9 []) (h3 : Sl I 1 encI a3 2 c3 [10616960, 10617088]) (hDb : DebOK I) : RetV Tryz.prog 17 [.slice bv 3 c2, .agg (encEd 0 a1 2 c1 a2 0 c9 a3 2 c3).toArray] I (.int .i64 0) := by
 have h := w_edChk hV (by decide) h1 h2 h3 (by decide) (by decide) (by decide) 0 hDb
 rw [t_edc] at h; exact h
theorem s_chk2 {I : HMap} {bv a1 a2 a3 : Option Addr} {c2 c1 c9 c3 : Nat} (hV : SlN I bv 3 c2 [[10616960, 10617088], [10616960, 0], [10616960, 0]]) (h1 : Sl I 1 encI a1 2 c1 [6, 7]) (h2 : Sl I 3 encEm a2 0 c9 []) (h3 : Sl I 1 encI a3 2 c3 [10616960, 10617088]) (hDb : DebOK I) : RetV Tryz.prog 17 [.slice bv 3 c2, .agg (encEd (-1) a1 2 c1 a2 0 c9 a3 2 c3).toArray] I (.int .i64 430) := by
 have h := w_edChk hV (by decide) h1 h2 h3 (by decide) (by decide) (by decide) (-1) hDb
 have e : makE [[10616960, 10617088], [10616960, 0], [10616960, 0]] (-1) [6, 7] [] = 430 := by kernel_rfl
 rw [edc_1 (by rw [e]; decide), e] at h; exact h
theorem s_same {I : HMap} {av bv : Option Addr} {c c2 : Nat} (hS : Sl I 14 encG av 2 c [stepG 1 0, sg2]) (hT : Sl I 14 encG bv 2 c2 [stepG 1 0, sg2]) : RetV Tryz.prog 13 [.slice av 2 c, .slice bv 2 c2] I (.bool true) := by
 have h := w_sameG hS hT (by decide)
 rw [decide_eq_true rfl] at h; exact h
theorem s_roots1 {I : HMap} {av bv : Option Addr} {c c2 : Nat} (hV : SlN I av 3 c [[5, 7], [5, 0], [9, 8589934592]]) (hS : Sl I 1 encI bv 2 c2 [3, 7]) (hDb : DebOK I) : RetM Tryz.prog 7 [.slice av 3 c, .slice bv 2 c2] I [] (fun v I' L => L = [] ∧ ∃ a c, v = .tuple #[.slice a 2 c, .int .i64 0] ∧ SlN I' a 2 c [[5, 9], [7]]) := by
 intro g H w hw
 refine (w_Roots hS hV (by decide) hDb g H w hw).mono ?_
 rintro ed w' ⟨v, I', L', he, hI, hs, rfl, a, c', hv, hN⟩
 have e1 : rootsL [[5, 7], [5, 0], [9, 8589934592]] [3, 7] = [[5, 9], [7]] := by rw [rootsL_C]; kernel_rfl
 have e2 : costE [[5, 7], [5, 0], [9, 8589934592]] [3, 7] = 0 := by kernel_rfl
 rw [e1] at hv hN
 rw [e2] at hv
 exact ⟨_, I', [], he, hI, hs, rfl, a, c', hv, hN⟩
theorem s_roots2 {I : HMap} {av bv : Option Addr} {c c2 : Nat} (hV : SlN I av 0 c []) (hS : Sl I 1 encI bv 0 c2 []) (hDb : DebOK I) : RetM Tryz.prog 7 [.slice av 0 c, .slice bv 0 c2] I [] (fun v I' L => L = [] ∧ ∃ a c, v = .tuple #[.slice a 0 c, .int .i64 420] ∧ SlN I' a 0 c []) := by
 intro g H w hw
 refine (w_Roots hS hV (by decide) hDb g H w hw).mono ?_
 rintro ed w' ⟨v, I', L', he, hI, hs, rfl, a, c', hv, hN⟩
 have e1 : rootsL [] [] = [] := by rw [rootsL_C]; kernel_rfl
 have e2 : costE [] [] = 420 := by kernel_rfl
 rw [e1] at hv hN
 rw [e2] at hv
 exact ⟨_, I', [], he, hI, hs, rfl, a, c', hv, hN⟩
end
section
open Go Go.Kn Go.Proofs
theorem elt_31 : ElT Tryz.prog 31 54 3 40 := .of (by kernel_rfl)
theorem elt_52 : ElT Tryz.prog 52 51 15 120 := .of (by kernel_rfl)
theorem fun_11 : Fun Tryz.prog 11 := .of Tryz.func11 (by kernel_rfl) (by kernel_rfl)
theorem fun_13 : Fun Tryz.prog 13 := .of Tryz.func13 (by kernel_rfl) (by kernel_rfl)
theorem fun_15 : Fun Tryz.prog 15 := .of Tryz.func15 (by kernel_rfl) (by kernel_rfl)
theorem plt_44 : PlT Tryz.prog 44 #[(0, 1), (1, 1), (2, 1)] (.agg #[(.int .i64 0), (.int .i64 0), (.int .i64 0)]) := ⟨.of (by kernel_rfl), by kernel_rfl, fun w => by kernel_rfl⟩
theorem plt_51 : PlT Tryz.prog 51 #[(0, 1), (1, 14)] (.agg #[(.bool false), (.int .i64 0), (.int .i64 0), (.int .i64 0), (.int .i64 0), (.int .i64 0), (.int .i64 0), (.int .i64 0), (.int .i64 0), (.int .i64 0), (.int .i64 0), (.int .i64 0), (.int .i64 0), (.int .i64 0), (.int .i64 0)]) := ⟨.of (by kernel_rfl), by kernel_rfl, fun w => by kernel_rfl⟩
theorem plt_54 : PlT Tryz.prog 54 #[(0, 1), (1, 1), (2, 1)] (.agg #[(.int .i64 0), (.int .i64 0), (.slice none 0 0)]) := ⟨.of (by kernel_rfl), by kernel_rfl, fun w => by kernel_rfl⟩
theorem t_rd5 : readsL [[7]] [] [] = [7] := by rw [readsL_C]; kernel_rfl
theorem t_rd6 : readsL [[5, 7], [5, 0], [9, 8589934592]] [3, 7] [⟨0, 9, 1⟩] = [9, 7] := by rw [readsL_C]; kernel_rfl
set_option maxHeartbeats 40000000 in
set_option maxRecDepth 100000 in
theorem w_sane {I : HMap} (hDb : DebOK I) : RetV Tryz.prog 5 [] I (.bool true) := by
 intro g H w hw
 refine enter Tryz.func5 rfl Tryz.ntmps5 rfl hw ?_
 have hIc := HLe.refl I
 refine zR (zA ?_)
 refine zN (zR ?_)
 refine XO_buildSlice (ps := [(0, _), (1, _)]) (m := [encI 5, encI 7]) elt_23 rfl (.cons rfl (.cons rfl (.nil))) rfl (by simp [encI_len]) (by decide) (by decide) rfl rfl (fun b_17 => ?_)
 refine XO_buildSlice (ps := [(0, _), (1, _)]) (m := [encI 5, encI 0]) elt_23 rfl (.cons rfl (.cons rfl (.nil))) rfl (by simp [encI_len]) (by decide) (by decide) rfl rfl (fun b_18 => ?_)
 refine XO_buildSlice (ps := [(0, _), (1, _)]) (m := [encI 9, encI 8589934592]) elt_23 rfl (.cons rfl (.cons rfl (.nil))) rfl (by simp [encI_len]) (by decide) (by decide) rfl rfl (fun b_19 => ?_)
 refine XO_buildSlice (ps := [(0, _), (1, _), (2, _)]) (m := [encH ⟨some ⟨b_17, 0, none⟩, 2, 2⟩, encH ⟨some ⟨b_18, 0, none⟩, 2, 2⟩, encH ⟨some ⟨b_19, 0, none⟩, 2, 2⟩]) elt_22 rfl (.cons rfl (.cons rfl (.cons rfl (.nil)))) rfl (by simp [encH_len]) (by decide) (by decide) rfl rfl (fun b_20 => ?_)
 refine zA ?_
 refine zN (zR ?_)
 refine zM ?_
 refine XO_buildSlice (ps := [(0, _), (1, _)]) (m := [encI 3, encI 7]) elt_23 rfl (.cons rfl (.cons rfl (.nil))) rfl (by simp [encI_len]) (by decide) (by decide) rfl rfl (fun b_23 => ?_)
 refine XO_freezeAll (fun I1 hI1 hall1 => ?_)
 have hDb := hDb.mono hI1; have hIc := hIc.trans hI1
 have hR3 : SlN I1 (some ⟨b_20, 0, none⟩) 3 3 [[5, 7], [5, 0], [9, 8589934592]] := lit_rows (vss := [[5, 7], [5, 0], [9, 8589934592]]) ([⟨some ⟨b_17, 0, none⟩, 2, 2⟩, ⟨some ⟨b_18, 0, none⟩, 2, 2⟩, ⟨some ⟨b_19, 0, none⟩, 2, 2⟩] : List Hd) rfl (show _ = some (Obj.cells (([⟨some ⟨b_17, 0, none⟩, 2, 2⟩, ⟨some ⟨b_18, 0, none⟩, 2, 2⟩, ⟨some ⟨b_19, 0, none⟩, 2, 2⟩] : List Hd).flatMap encH).toArray 23 (0, 0)) from hall1 _ _ (by repeat (first | exact List.mem_cons_self .. | apply List.mem_cons_of_mem))) (((RelH.nil.snoc (hd := ⟨some ⟨b_17, 0, none⟩, 2, 2⟩) (Sl.lit ([5, 7] : List Int) rfl encI_len (show _ = some (Obj.cells (([5, 7] : List Int).flatMap encI).toArray 3 (0, 0)) from hall1 _ _ (by repeat (first | exact List.mem_cons_self .. | apply List.mem_cons_of_mem))))).snoc (hd := ⟨some ⟨b_18, 0, none⟩, 2, 2⟩) (Sl.lit ([5, 0] : List Int) rfl encI_len (show _ = some (Obj.cells (([5, 0] : List Int).flatMap encI).toArray 3 (0, 0)) from hall1 _ _ (by repeat (first | exact List.mem_cons_self .. | apply List.mem_cons_of_mem))))).snoc (hd := ⟨some ⟨b_19, 0, none⟩, 2, 2⟩) (Sl.lit ([9, 8589934592] : List Int) rfl encI_len (show _ = some (Obj.cells (([9, 8589934592] : List Int).flatMap encI).toArray 3 (0, 0)) from hall1 _ _ (by repeat (first | exact List.mem_cons_self .. | apply List.mem_cons_of_mem)))))
 have hC3 : Sl I1 1 encI (some ⟨b_23, 0, none⟩) 2 2 [3, 7] := (Sl.lit ([3, 7] : List Int) rfl encI_len (show _ = some (Obj.cells (([3, 7] : List Int).flatMap encI).toArray 3 (0, 0)) from hall1 _ _ (by repeat (first | exact List.mem_cons_self .. | apply List.mem_cons_of_mem))))
 refine XO_callM (cap := []) (vs := [_, _]) rfl rfl fun_7 .nil (s_roots1 hR3 hC3 hDb) rfl rfl ?_
 rintro vv2 I2 L2 hI2 ⟨rfl, la, lc, rfl, hL⟩
 have hDb := hDb.mono hI2; have hR3 := hR3.mono hI2; have hIc := hIc.trans hI2
 refine zM ?_
 refine zE ?_
 refine zE ?_
 refine zA ?_
 refine zA ?_
 refine zN (zR ?_)
 refine XO_callM (cap := []) (vs := [_, _]) rfl rfl fun_7 .nil (s_roots2 SlN.none .nil hDb) rfl rfl ?_
 rintro vv3 I3 L3 hI3 ⟨rfl, a3, c3, rfl, _⟩
 have hDb := hDb.mono hI3; have hR3 := hR3.mono hI3; have hL := hL.mono hI3; have hIc := hIc.trans hI3
 refine zM ?_
 refine zE ?_
 refine zE ?_
 refine zA ?_
 refine zA ?_
 refine zN (zR ?_)
 refine XO_buildSlice (ps := [(0, _)]) (m := [encI 7]) elt_23 rfl (.cons rfl (.nil)) rfl (by simp [encI_len]) (by decide) (by decide) rfl rfl (fun b_32 => ?_)
 refine XO_buildSlice (ps := [(0, _)]) (m := [encH ⟨some ⟨b_32, 0, none⟩, 1, 1⟩]) elt_22 rfl (.cons rfl (.nil)) rfl (by simp [encH_len]) (by decide) (by decide) rfl rfl (fun b_33 => ?_)
 refine XO_freezeAll (fun I4 hI4 hall4 => ?_)
 have hDb := hDb.mono hI4; have hR3 := hR3.mono hI4; have hL := hL.mono hI4; have hIc := hIc.trans hI4
 have h71 : SlN I4 (some ⟨b_33, 0, none⟩) 1 1 [[7]] := lit_rows (vss := [[7]]) ([⟨some ⟨b_32, 0, none⟩, 1, 1⟩] : List Hd) rfl (show _ = some (Obj.cells (([⟨some ⟨b_32, 0, none⟩, 1, 1⟩] : List Hd).flatMap encH).toArray 23 (0, 0)) from hall4 _ _ (by repeat (first | exact List.mem_cons_self .. | apply List.mem_cons_of_mem))) (RelH.nil.snoc (hd := ⟨some ⟨b_32, 0, none⟩, 1, 1⟩) (Sl.lit ([7] : List Int) rfl encI_len (show _ = some (Obj.cells (([7] : List Int).flatMap encI).toArray 3 (0, 0)) from hall4 _ _ (by repeat (first | exact List.mem_cons_self .. | apply List.mem_cons_of_mem)))))
 refine XO_callM (cap := []) (vs := [_, _, _, _]) rfl rfl fun_14 .nil (s_makeNo (no := -1) (cl := []) (es := []) (e := 430) h71 .nil .nil hDb (by decide) (by decide) (by decide) (by kernel_rfl)) rfl rfl ?_
 rintro vv5 I5 L5 hI5 ⟨rfl, m0, m1, m2, m3, m4, m5, m6, m7, m8, m9, rfl⟩
 have hDb := hDb.mono hI5; have hR3 := hR3.mono hI5; have hL := hL.mono hI5; have hIc := hIc.trans hI5
 refine zM ?_
 refine zE ?_
 refine zE ?_
 refine XO_alloc zt_34 rfl rfl (fun b_6 => ?_)
 refine XO_storeA rfl rfl szt_34 rfl rfl rfl rfl (by repeat (first | exact Upd.here | apply Upd.there | apply upd_app)) ?_
 refine zA ?_
 refine zN (zR ?_)
 refine XO_buildSlice (ps := [(0, _)]) (m := [encI 7]) elt_23 rfl (.cons rfl (.nil)) rfl (by simp [encI_len]) (by decide) (by decide) rfl rfl (fun b_38 => ?_)
 refine XO_buildSlice (ps := [(0, _)]) (m := [encH ⟨some ⟨b_38, 0, none⟩, 1, 1⟩]) elt_22 rfl (.cons rfl (.nil)) rfl (by simp [encH_len]) (by decide) (by decide) rfl rfl (fun b_39 => ?_)
 refine XO_freezeAll (fun I6 hI6 hall6 => ?_)
 have hDb := hDb.mono hI6; have hR3 := hR3.mono hI6; have hL := hL.mono hI6; have hIc := hIc.trans hI6
 have h72 : SlN I6 (some ⟨b_39, 0, none⟩) 1 1 [[7]] := lit_rows (vss := [[7]]) ([⟨some ⟨b_38, 0, none⟩, 1, 1⟩] : List Hd) rfl (show _ = some (Obj.cells (([⟨some ⟨b_38, 0, none⟩, 1, 1⟩] : List Hd).flatMap encH).toArray 23 (0, 0)) from hall6 _ _ (by repeat (first | exact List.mem_cons_self .. | apply List.mem_cons_of_mem))) (RelH.nil.snoc (hd := ⟨some ⟨b_38, 0, none⟩, 1, 1⟩) (Sl.lit ([7] : List Int) rfl encI_len (show _ = some (Obj.cells (([7] : List Int).flatMap encI).toArray 3 (0, 0)) from hall6 _ _ (by repeat (first | exact List.mem_cons_self .. | apply List.mem_cons_of_mem)))))
 refine XO_callM (cap := []) (vs := [_, _, _, _]) rfl rfl fun_14 .nil (s_makeOK (no := 3) (cl := []) (es := []) (rd := [7]) (k := 1) h72 .nil .nil hDb (by decide) (by decide) (by decide) (by kernel_rfl) t_rd5 rfl) rfl rfl ?_
 rintro vv7 I7 L7 hI7 ⟨rfl, p1, p2, p3, p4, p5, p6, rfl, _, _, hX5⟩
 have hDb := hDb.mono hI7; have hR3 := hR3.mono hI7; have hL := hL.mono hI7; have hIc := hIc.trans hI7
 refine zM ?_
 refine zE ?_
 refine zE ?_
 refine XO_alloc zt_34 rfl rfl (fun b_8 => ?_)
 refine XO_storeA rfl rfl szt_34 rfl rfl rfl rfl (by repeat (first | exact Upd.here | apply Upd.there | apply upd_app)) ?_
 refine zA ?_
 refine zN (zR ?_)
 refine zM ?_
 refine XO_buildSlice (ps := [(0, _), (1, _)]) (m := [encI 3, encI 7]) elt_23 rfl (.cons rfl (.cons rfl (.nil))) rfl (by simp [encI_len]) (by decide) (by decide) rfl rfl (fun b_45 => ?_)
 refine zV (ev_buildL (ps := [(0, _), (1, _), (2, _)]) [_, _, _] plt_44 rfl rfl) ?_
 refine XO_buildSlice (ps := [(0, _)]) (m := [encEm ⟨0, 9, 1⟩]) elt_32 rfl (.cons rfl (.nil)) rfl (by simp [encEm_len]) (by decide) (by decide) rfl rfl (fun b_47 => ?_)
 refine XO_freezeAll (fun I8 hI8 hall8 => ?_)
 have hDb := hDb.mono hI8; have hR3 := hR3.mono hI8; have hL := hL.mono hI8; have hX5 := hX5.mono hI8; have hIc := hIc.trans hI8
 have hC6 : Sl I8 1 encI (some ⟨b_45, 0, none⟩) 2 2 [3, 7] := (Sl.lit ([3, 7] : List Int) rfl encI_len (show _ = some (Obj.cells (([3, 7] : List Int).flatMap encI).toArray 3 (0, 0)) from hall8 _ _ (by repeat (first | exact List.mem_cons_self .. | apply List.mem_cons_of_mem))))
 have hE6 : Sl I8 3 encEm (some ⟨b_47, 0, none⟩) 1 1 [⟨0, 9, 1⟩] := Sl.lit ([⟨0, 9, 1⟩] : List Em) rfl encEm_len (show _ = some (Obj.cells (([⟨0, 9, 1⟩] : List Em).flatMap encEm).toArray 44 (0, 0)) from hall8 _ _ (by repeat (first | exact List.mem_cons_self .. | apply List.mem_cons_of_mem)))
 have hC8 : Cell I8 [] b_8 3 (.slice p5 1 p6) := .imm (hall8 _ _ (by repeat (first | exact List.mem_cons_self .. | apply List.mem_cons_of_mem))) rfl
 refine XO_callM (cap := []) (vs := [_, _, _, _]) rfl rfl fun_14 .nil (s_makeOK (no := 4) (rd := [9, 7]) (k := 2) hR3 hC6 hE6 hDb (by decide) (by decide) (by decide) (by kernel_rfl) t_rd6 rfl) rfl rfl ?_
 rintro vv9 I9 L9 hI9 ⟨rfl, q1, q2, q3, q4, q5, q6, rfl, _, _, hX6⟩
 have hDb := hDb.mono hI9; have hR3 := hR3.mono hI9; have hL := hL.mono hI9; have hX5 := hX5.mono hI9; have hC8 := hC8.mono hI9; have hIc := hIc.trans hI9
 refine zM ?_
 refine zE ?_
 refine zE ?_
 refine XO_alloc zt_34 rfl rfl (fun b_10 => ?_)
 refine XO_storeA rfl rfl szt_34 rfl rfl rfl rfl (by repeat (first | exact Upd.here | apply Upd.there | apply upd_app)) ?_
 refine zA (zN (X_seq (zR ?_)))
 refine zM ?_
 refine zC ?_
 refine zM ?_
 refine XO_want (dj := 53) rfl rfl rfl ?_
 refine zM ?_
 refine XO_want (dj := 53) rfl rfl rfl ?_
 refine zC ?_
 refine zV (ev_pickb rfl rfl rfl) ?_
 refine zM ?_
 refine XO_want (dj := 57) rfl rfl rfl ?_
 refine zM ?_
 refine XO_want (dj := 57) rfl rfl rfl ?_
 refine zC ?_
 refine zV (ev_pickb rfl rfl rfl) ?_
 refine zM ?_
 refine XO_want (dj := 61) rfl rfl rfl ?_
 refine zM ?_
 refine XO_want (dj := 61) rfl rfl rfl ?_
 refine zC ?_
 refine zV (ev_pickb rfl rfl rfl) ?_
 refine zM ?_
 refine XO_want (dj := 65) rfl rfl rfl ?_
 refine zM ?_
 refine XO_want (dj := 65) rfl rfl rfl ?_
 refine zC ?_
 refine zV (ev_pickb rfl rfl rfl) ?_
 refine zM ?_
 refine XO_want (dj := 69) rfl rfl rfl ?_
 refine zM ?_
 refine XO_want (dj := 69) rfl rfl rfl ?_
 refine zQ slt_22 ?_
 refine XO_want (dj := 69) rfl rfl rfl ?_
 refine zC ?_
 refine zV (ev_pickb rfl rfl rfl) ?_
 refine zN ?_
 refine zI ?_ ?_ <;> intro hc73
 ·
  exact absurd hc73 (by decide)
 refine X_skip (at_then (X_seq (X_seq ?_)))
 obtain ⟨lhs, hL9⟩ := id hL
 have hLh := hL9.1
 obtain ⟨y0, u0, hy0, hu0, hU0⟩ := hL9.at (k := 0) (by decide)
 obtain ⟨y1, u1, hy1, hu1, hU1⟩ := hL9.at (k := 1) (by decide)
 cases hu0
 cases hu1
 obtain ⟨ya0, yn0, yc0⟩ := y0
 obtain ⟨ya1, yn1, yc1⟩ := y1
 obtain rfl : yn0 = 2 := hU0.len.symm
 obtain rfl : yn1 = 1 := hU1.len.symm
 refine X_region ?_
 simp only [List.append_eq, List.cons_append, List.nil_append]
 refine zM ?_
 refine zV (ev_indexSl rfl rfl slt_22 hLh (fun hg => by decide)) ?_
 refine zV (ev_load rfl sct_23 (fun hg => by exact Sl.get0 (k := 0) hLh hy0 rfl)) ?_
 refine zQ slt_23 ?_
 refine zC ?_
 refine zM ?_
 refine XO_want (dj := 79) rfl rfl rfl ?_
 refine zM ?_
 refine XO_want (dj := 79) rfl rfl rfl ?_
 refine zV (ev_indexSl rfl rfl slt_22 hLh (fun hg => by decide)) ?_
 refine XO_want (dj := 79) rfl rfl rfl ?_
 refine zV (ev_load rfl sct_23 (fun hg => by exact Sl.get0 (k := 0) hLh hy0 rfl)) ?_
 refine XO_want (dj := 79) rfl rfl rfl ?_
 refine zV (ev_indexSl rfl rfl slt_23 hU0 (fun hg => by (dsimp only; decide))) ?_
 refine XO_want (dj := 79) rfl rfl rfl ?_
 refine zV (ev_load rfl sct_3 (fun hg => by exact Sl.get0 (k := 0) hU0 (show ([5, 9] : List Int)[0]? = some 5 from rfl) rfl)) ?_
 refine XO_want (dj := 79) rfl rfl rfl ?_
 refine zC ?_
 refine zV (ev_pickb rfl rfl rfl) ?_
 refine zM ?_
 refine XO_want (dj := 87) rfl rfl rfl ?_
 refine zM ?_
 refine XO_want (dj := 87) rfl rfl rfl ?_
 refine zV (ev_indexSl rfl rfl slt_22 hLh (fun hg => by decide)) ?_
 refine XO_want (dj := 87) rfl rfl rfl ?_
 refine zV (ev_load rfl sct_23 (fun hg => by exact Sl.get0 (k := 0) hLh hy0 rfl)) ?_
 refine XO_want (dj := 87) rfl rfl rfl ?_
 refine zV (ev_indexSl rfl rfl slt_23 hU0 (fun hg => by (dsimp only; decide))) ?_
 refine XO_want (dj := 87) rfl rfl rfl ?_
 refine zV (ev_load rfl sct_3 (fun hg => by exact Sl.get0 (k := 1) hU0 (show ([5, 9] : List Int)[1]? = some 9 from rfl) rfl)) ?_
 refine XO_want (dj := 87) rfl rfl rfl ?_
 refine zC ?_
 refine zV (ev_pickb rfl rfl rfl) ?_
 refine zM ?_
 refine XO_want (dj := 95) rfl rfl rfl ?_
 refine zM ?_
 refine XO_want (dj := 95) rfl rfl rfl ?_
 refine zV (ev_indexSl rfl rfl slt_22 hLh (fun hg => by decide)) ?_
 refine XO_want (dj := 95) rfl rfl rfl ?_
 refine zV (ev_load rfl sct_23 (fun hg => by exact Sl.get0 (k := 1) hLh hy1 rfl)) ?_
 refine XO_want (dj := 95) rfl rfl rfl ?_
 refine zQ slt_23 ?_
 refine XO_want (dj := 95) rfl rfl rfl ?_
 refine zC ?_
 refine zV (ev_pickb rfl rfl rfl) ?_
 refine zM ?_
 refine XO_want (dj := 102) rfl rfl rfl ?_
 refine zM ?_
 refine XO_want (dj := 102) rfl rfl rfl ?_
 refine zV (ev_indexSl rfl rfl slt_22 hLh (fun hg => by decide)) ?_
 refine XO_want (dj := 102) rfl rfl rfl ?_
 refine zV (ev_load rfl sct_23 (fun hg => by exact Sl.get0 (k := 1) hLh hy1 rfl)) ?_
 refine XO_want (dj := 102) rfl rfl rfl ?_
 refine zV (ev_indexSl rfl rfl slt_23 hU1 (fun hg => by (dsimp only; decide))) ?_
 refine XO_want (dj := 102) rfl rfl rfl ?_
 refine zV (ev_load rfl sct_3 (fun hg => by exact Sl.get0 (k := 0) hU1 (show ([7] : List Int)[0]? = some 7 from rfl) rfl)) ?_
 refine XO_want (dj := 102) rfl rfl rfl ?_
 refine zC ?_
 refine zV (ev_pickb rfl rfl rfl) ?_
 refine zM ?_
 refine XO_want (dj := 110) rfl rfl rfl ?_
 refine zF fld_34_3 ?_
 refine XO_want (dj := 110) rfl rfl rfl ?_
 refine zV (ev_load rfl sct_23 (fun hg => by exact hC8.any)) ?_
 refine XO_want (dj := 110) rfl rfl rfl ?_
 refine zQ slt_23 ?_
 refine XO_want (dj := 110) rfl rfl rfl ?_
 refine zC ?_
 refine zV (ev_pickb rfl rfl rfl) ?_
 refine zM ?_
 refine XO_want (dj := 116) rfl rfl rfl ?_
 refine zF fld_34_3 ?_
 refine XO_want (dj := 116) rfl rfl rfl ?_
 refine zV (ev_load rfl sct_23 (fun hg => by exact hC8.any)) ?_
 refine XO_want (dj := 116) rfl rfl rfl ?_
 refine zV (ev_indexSl rfl rfl slt_23 hX5 (fun hg => by decide)) ?_
 refine XO_want (dj := 116) rfl rfl rfl ?_
 refine zV (ev_load rfl sct_3 (fun hg => by exact Sl.get0 (k := 0) hX5 (show ([7] : List Int)[0]? = some 7 from rfl) rfl)) ?_
 refine XO_want (dj := 116) rfl rfl rfl ?_
 refine zC ?_
 refine zV (ev_pickb rfl rfl rfl) ?_
 refine zM ?_
 refine XO_want (dj := 123) rfl rfl rfl ?_
 refine zF fld_34_3 ?_
 refine XO_want (dj := 123) rfl rfl rfl ?_
 refine zV (ev_load rfl sct_23 (fun hg => by exact Cell.h0 rfl)) ?_
 refine XO_want (dj := 123) rfl rfl rfl ?_
 refine zQ slt_23 ?_
 refine XO_want (dj := 123) rfl rfl rfl ?_
 refine zC ?_
 refine zV (ev_pickb rfl rfl rfl) ?_
 refine zM ?_
 refine XO_want (dj := 129) rfl rfl rfl ?_
 refine zF fld_34_3 ?_
 refine XO_want (dj := 129) rfl rfl rfl ?_
 refine zV (ev_load rfl sct_23 (fun hg => by exact Cell.h0 rfl)) ?_
 refine XO_want (dj := 129) rfl rfl rfl ?_
 refine zV (ev_indexSl rfl rfl slt_23 hX6 (fun hg => by decide)) ?_
 refine XO_want (dj := 129) rfl rfl rfl ?_
 refine zV (ev_load rfl sct_3 (fun hg => by exact Sl.get0 (k := 0) hX6 (show ([9, 7] : List Int)[0]? = some 9 from rfl) rfl)) ?_
 refine XO_want (dj := 129) rfl rfl rfl ?_
 refine zC ?_
 refine zV (ev_pickb rfl rfl rfl) ?_
 refine zM ?_
 refine XO_want (dj := 136) rfl rfl rfl ?_
 refine zF fld_34_3 ?_
 refine XO_want (dj := 136) rfl rfl rfl ?_
 refine zV (ev_load rfl sct_23 (fun hg => by exact Cell.h0 rfl)) ?_
 refine XO_want (dj := 136) rfl rfl rfl ?_
 refine zV (ev_indexSl rfl rfl slt_23 hX6 (fun hg => by decide)) ?_
 refine XO_want (dj := 136) rfl rfl rfl ?_
 refine zV (ev_load rfl sct_3 (fun hg => by exact Sl.get0 (k := 1) hX6 (show ([9, 7] : List Int)[1]? = some 7 from rfl) rfl)) ?_
 refine XO_want (dj := 136) rfl rfl rfl ?_
 refine zC ?_
 refine zV (ev_pickb rfl rfl rfl) ?_
 refine zN ?_
 refine zI ?_ ?_ <;> intro hc142
 ·
  simp at hc142
 refine X_skip (at_then (zR ?_))
 refine XO_callV0 (cap := []) (vs := [_, _]) rfl rfl fun_15 (w_lawstep _ _ _) rfl rfl ?_
 refine zV (ev_buildL (ps := [(1, _)]) [_, _, _, _, _, _, _, _, _, _, _, _, _, _, _] plt_51 rfl rfl) ?_
 refine XO_callV0 (cap := []) (vs := [_, _]) rfl rfl fun_15 (w_lawstep _ _ _) rfl rfl ?_
 refine zV (ev_buildL (ps := [(1, _)]) [_, _, _, _, _, _, _, _, _, _, _, _, _, _, _] plt_51 rfl rfl) ?_
 refine XO_buildSlice (ps := [(0, _), (1, _)]) (m := [encRd ⟨false, stepG 1 0⟩, encRd ⟨false, stepG 2 5⟩]) elt_52 rfl (.cons rfl (.cons rfl (.nil))) rfl (by simp [encRd_len]) (by decide) (by decide) rfl rfl (fun b_147 => ?_)
 refine zV (ev_buildL (ps := [(0, _), (2, _)]) [_, _, _] plt_54 rfl rfl) ?_
 refine XO_callV0 (cap := []) (vs := [_, _]) rfl rfl fun_15 (w_lawstep _ _ _) rfl rfl ?_
 refine zV (ev_buildL (ps := [(1, _)]) [_, _, _, _, _, _, _, _, _, _, _, _, _, _, _] plt_51 rfl rfl) ?_
 refine XO_buildSlice (ps := [(0, _)]) (m := [encRd ⟨false, stepG 1 3⟩]) elt_52 rfl (.cons rfl (.nil)) rfl (by simp [encRd_len]) (by decide) (by decide) rfl rfl (fun b_151 => ?_)
 refine zV (ev_buildL (ps := [(0, _), (2, _)]) [_, _, _] plt_54 rfl rfl) ?_
 refine XO_callV0 (cap := []) (vs := [_, _]) rfl rfl fun_15 (w_lawstep _ _ _) rfl rfl ?_
 refine zV (ev_buildL (ps := [(1, _)]) [_, _, _, _, _, _, _, _, _, _, _, _, _, _, _] plt_51 rfl rfl) ?_
 refine XO_buildSlice (ps := [(0, _)]) (m := [encRd ⟨false, stepG 1 4⟩]) elt_52 rfl (.cons rfl (.nil)) rfl (by simp [encRd_len]) (by decide) (by decide) rfl rfl (fun b_155 => ?_)
 refine zV (ev_buildL (ps := [(0, _), (2, _)]) [_, _, _] plt_54 rfl rfl) ?_
 refine XO_buildSlice (ps := [(0, _), (1, _), (2, _)]) (m := [encW ⟨1, 0, some ⟨b_147, 0, none⟩, 2, 2⟩, encW ⟨2, 0, some ⟨b_151, 0, none⟩, 1, 1⟩, encW ⟨3, 0, some ⟨b_155, 0, none⟩, 1, 1⟩]) elt_31 rfl (.cons rfl (.cons rfl (.cons rfl (.nil)))) rfl (by simp [encW_len]) (by decide) (by decide) rfl rfl (fun b_157 => ?_)
 refine zA ?_
 refine zN (zR ?_)
 refine zM ?_
 refine XO_freezeAll (fun I10 hI10 hall10 => ?_)
 have hDb := hDb.mono hI10; have hR3 := hR3.mono hI10; have hL := hL.mono hI10; have hX5 := hX5.mono hI10; have hC8 := hC8.mono hI10; have hX6 := hX6.mono hI10; have hIc := hIc.trans hI10
 have hq1 : Sl I10 15 encRd (some ⟨b_147, 0, none⟩) 2 2 [⟨false, stepG 1 0⟩, ⟨false, stepG 2 5⟩] := Sl.lit ([⟨false, stepG 1 0⟩, ⟨false, stepG 2 5⟩] : List Rd) rfl encRd_len (show _ = some (Obj.cells (([⟨false, stepG 1 0⟩, ⟨false, stepG 2 5⟩] : List Rd).flatMap encRd).toArray 51 (0, 0)) from hall10 _ _ (by repeat (first | exact List.mem_cons_self .. | apply List.mem_cons_of_mem)))
 have hq2 : Sl I10 15 encRd (some ⟨b_151, 0, none⟩) 1 1 [⟨false, stepG 1 3⟩] := Sl.lit ([⟨false, stepG 1 3⟩] : List Rd) rfl encRd_len (show _ = some (Obj.cells (([⟨false, stepG 1 3⟩] : List Rd).flatMap encRd).toArray 51 (0, 0)) from hall10 _ _ (by repeat (first | exact List.mem_cons_self .. | apply List.mem_cons_of_mem)))
 have hq3 : Sl I10 15 encRd (some ⟨b_155, 0, none⟩) 1 1 [⟨false, stepG 1 4⟩] := Sl.lit ([⟨false, stepG 1 4⟩] : List Rd) rfl encRd_len (show _ = some (Obj.cells (([⟨false, stepG 1 4⟩] : List Rd).flatMap encRd).toArray 51 (0, 0)) from hall10 _ _ (by repeat (first | exact List.mem_cons_self .. | apply List.mem_cons_of_mem)))
 have hW9 : SlW I10 (some ⟨b_157, 0, none⟩) 3 3 w3 := ⟨[⟨1, 0, some ⟨b_147, 0, none⟩, 2, 2⟩, ⟨2, 0, some ⟨b_151, 0, none⟩, 1, 1⟩, ⟨3, 0, some ⟨b_155, 0, none⟩, 1, 1⟩], Sl.lit ([⟨1, 0, some ⟨b_147, 0, none⟩, 2, 2⟩, ⟨2, 0, some ⟨b_151, 0, none⟩, 1, 1⟩, ⟨3, 0, some ⟨b_155, 0, none⟩, 1, 1⟩] : List Wt) rfl encW_len (show _ = some (Obj.cells (([⟨1, 0, some ⟨b_147, 0, none⟩, 2, 2⟩, ⟨2, 0, some ⟨b_151, 0, none⟩, 1, 1⟩, ⟨3, 0, some ⟨b_155, 0, none⟩, 1, 1⟩] : List Wt).flatMap encW).toArray 54 (0, 0)) from hall10 _ _ (by repeat (first | exact List.mem_cons_self .. | apply List.mem_cons_of_mem))), rfl, fun k w x h1 h2 => by
  rcases k with _ | _ | _ | k
  ·
   cases h1; cases h2; exact ⟨rfl, rfl, hq1⟩
  ·
   cases h1; cases h2; exact ⟨rfl, rfl, hq2⟩
  ·
   cases h1; cases h2; exact ⟨rfl, rfl, hq3⟩
  simp at h1⟩
 refine XO_callM (cap := []) (vs := [_]) rfl rfl fun_16 .nil (s_table hW9) rfl rfl ?_
 rintro vv11 I11 L11 hI11 ⟨rfl, ta, tc, rfl, hT⟩
 have hDb := hDb.mono hI11; have hR3 := hR3.mono hI11; have hL := hL.mono hI11; have hX5 := hX5.mono hI11; have hC8 := hC8.mono hI11; have hX6 := hX6.mono hI11; have hW9 := hW9.mono hI11; have hIc := hIc.trans hI11
 refine zM ?_
 refine zE ?_
 refine zE ?_
 refine zA ?_
 refine zA ?_
 refine zN (zR ?_)
 refine zM ?_
 refine XO_buildSlice (ps := [(0, _), (1, _)]) (m := [encI 6, encI 7]) elt_23 rfl (.cons rfl (.cons rfl (.nil))) rfl (by simp [encI_len]) (by decide) (by decide) rfl rfl (fun b_165 => ?_)
 refine XO_freezeAll (fun I12 hI12 hall12 => ?_)
 have hDb := hDb.mono hI12; have hR3 := hR3.mono hI12; have hL := hL.mono hI12; have hX5 := hX5.mono hI12; have hC8 := hC8.mono hI12; have hX6 := hX6.mono hI12; have hW9 := hW9.mono hI12; have hT := hT.mono hI12; have hIc := hIc.trans hI12
 have hC13 : Sl I12 1 encI (some ⟨b_165, 0, none⟩) 2 2 [6, 7] := (Sl.lit ([6, 7] : List Int) rfl encI_len (show _ = some (Obj.cells (([6, 7] : List Int).flatMap encI).toArray 3 (0, 0)) from hall12 _ _ (by repeat (first | exact List.mem_cons_self .. | apply List.mem_cons_of_mem))))
 refine XO_callM (cap := []) (vs := [_, _, _, _]) rfl rfl fun_14 .nil (s_makeOK (no := 0) (es := []) (k := 2) hT hC13 .nil hDb (by decide) (by decide) (by decide) t_mk t_rz rfl) rfl rfl ?_
 rintro vv13 I13 L13 hI13 ⟨rfl, z1, z2, z3, z4, z5, z6, rfl, hZ1, hZ2, hZ3⟩
 have hDb := hDb.mono hI13; have hR3 := hR3.mono hI13; have hL := hL.mono hI13; have hX5 := hX5.mono hI13; have hC8 := hC8.mono hI13; have hX6 := hX6.mono hI13; have hW9 := hW9.mono hI13; have hT := hT.mono hI13; have hIc := hIc.trans hI13
 refine zM ?_
 refine zE ?_
 refine zE ?_
 refine XO_alloc zt_34 rfl rfl (fun b_14 => ?_)
 refine XO_storeA rfl rfl szt_34 rfl rfl rfl rfl (by repeat (first | exact Upd.here | apply Upd.there | apply upd_app)) ?_
 refine zA ?_
 refine zN (zR ?_)
 refine zM ?_
 refine zM ?_
 refine zV (ev_loadA rfl agt_34 (fun hg => by exact Cells.g0) rfl) ?_
 refine XO_callM (cap := []) (vs := [_, _, _]) rfl rfl fun_11 .nil (s_signs hW9 hT hZ1 hZ2 hZ3 hDb) rfl rfl ?_
 rintro vv14 I14 L14 hI14 ⟨rfl, sa, sc, rfl, hSg⟩
 have hDb := hDb.mono hI14; have hR3 := hR3.mono hI14; have hL := hL.mono hI14; have hX5 := hX5.mono hI14; have hC8 := hC8.mono hI14; have hX6 := hX6.mono hI14; have hW9 := hW9.mono hI14; have hT := hT.mono hI14; have hZ1 := hZ1.mono hI14; have hZ2 := hZ2.mono hI14; have hZ3 := hZ3.mono hI14; have hIc := hIc.trans hI14
 refine zM ?_
 refine zE ?_
 refine zE ?_
 refine zA ?_
 refine zA ?_
 refine zN (zR ?_)
 refine zV (ev_buildL (ps := []) [_, _, _, _] plt_34 rfl rfl) ?_
 refine XO_callM (cap := []) (vs := [_, _, _]) rfl rfl fun_11 .nil (s_signs0 hDb) rfl rfl ?_
 rintro vv15 I15 L15 hI15 ⟨rfl, v9, rfl⟩
 have hDb := hDb.mono hI15; have hR3 := hR3.mono hI15; have hL := hL.mono hI15; have hX5 := hX5.mono hI15; have hC8 := hC8.mono hI15; have hX6 := hX6.mono hI15; have hW9 := hW9.mono hI15; have hT := hT.mono hI15; have hZ1 := hZ1.mono hI15; have hZ2 := hZ2.mono hI15; have hZ3 := hZ3.mono hI15; have hSg := hSg.mono hI15
 have hIc := hIc.trans hI15
 refine zM ?_
 refine zE ?_
 refine zE ?_
 refine zA (zN (X_seq (zR ?_)))
 refine zM ?_
 refine zC ?_
 refine zM ?_
 refine XO_want (dj := 183) rfl rfl rfl ?_
 refine zM ?_
 refine XO_want (dj := 183) rfl rfl rfl ?_
 refine zC ?_
 refine zV (ev_pickb rfl rfl rfl) ?_
 refine zM ?_
 refine XO_want (dj := 187) rfl rfl rfl ?_
 refine zM ?_
 refine XO_want (dj := 187) rfl rfl rfl ?_
 refine zC ?_
 refine zV (ev_pickb rfl rfl rfl) ?_
 refine zM ?_
 refine XO_want (dj := 191) rfl rfl rfl ?_
 refine zM ?_
 refine XO_want (dj := 191) rfl rfl rfl ?_
 refine zC ?_
 refine zV (ev_pickb rfl rfl rfl) ?_
 refine zM ?_
 refine XO_want (dj := 195) rfl rfl rfl ?_
 refine zM ?_
 refine XO_want (dj := 195) rfl rfl rfl ?_
 refine zV (ev_loadA rfl agt_34 (fun hg => by exact Cells.g0) rfl) ?_
 refine XO_want (dj := 195) rfl rfl rfl ?_
 refine XO_callV0 (cap := []) (vs := [_, _]) rfl rfl fun_17 (s_chk hT hZ1 hZ2 hZ3 hDb) rfl rfl ?_
 refine XO_want (dj := 195) rfl rfl rfl ?_
 refine zC ?_
 refine zV (ev_pickb rfl rfl rfl) ?_
 refine zN ?_
 refine zI ?_ ?_ <;> intro hc200
 ·
  exact absurd hc200 (by decide)
 refine X_skip (at_then (zR ?_))
 refine zF fld_34_0 ?_
 refine zS szt_3 ?_
 refine zN (zR ?_)
 refine XO_callV0 (cap := []) (vs := [_, _]) rfl rfl fun_15 (w_lawstep _ _ _) rfl rfl ?_
 refine XO_alloc zt_48 rfl rfl (fun b_16 => ?_)
 refine XO_storeA rfl rfl szt_48 rfl rfl rfl rfl (by repeat (first | exact Upd.here | apply Upd.there | apply upd_app)) ?_
 refine zN (zR ?_)
 refine zF fld_48_0 ?_
 refine zS szt_3 ?_
 refine zF fld_48_3 ?_
 refine zS szt_3 ?_
 refine zN (X_seq ?_)
 have hD := HLe.refl I15
 refine X_drawC mixed ?_
 refine zT 0 rfl (ev_move rfl) hD ?_
 refine zT 1 rfl (ev_loadA rfl agt_34 (fun hg => by exact Cells.g1) rfl) hD ?_
 refine XD_one 2 rfl (by kernel_rfl) ?_
 refine XO_callV0 (cap := []) (vs := [_, _]) rfl rfl fun_17 (s_chk2 hT hZ1 hZ2 hZ3 hDb) rfl rfl ?_
 refine XO_nil ?_
 refine zD hD ?_
 refine zT 3 rfl (ev_cmp rfl rfl rfl) hD ?_
 refine zT 4 rfl (ev_move rfl) hD ?_
 refine XD_takeW 5 rfl rfl rfl (dj := 209) rfl (ev_move rfl) rfl (by kernel_rfl) (by kernel_rfl) (by kernel_rfl) noP_ok hD (by repeat (first | exact .refl | exact subL_nil | refine .keep ?_ | refine .drop ?_ | refine subL_add ?_)) ?_
 refine XD_takeW 7 rfl rfl rfl (dj := 209) rfl (ev_loadA rfl agt_48 (fun hg => by exact Cells.g0) rfl) rfl (by kernel_rfl) (by kernel_rfl) (by kernel_rfl) noP_ok hD (by repeat (first | exact .refl | exact subL_nil | refine .keep ?_ | refine .drop ?_ | refine subL_add ?_)) ?_
 refine XD_one 6 rfl (by kernel_rfl) ?_
 refine XO_want (dj := 209) rfl rfl rfl ?_
 refine XO_callV0 (cap := []) (vs := [_, _]) rfl rfl fun_15 (w_lawstep _ _ _) rfl rfl ?_
 refine XO_nil ?_
 refine zD hD ?_
 refine XD_one 8 rfl (by kernel_rfl) ?_
 refine XO_want (dj := 209) rfl rfl rfl ?_
 refine XO_buildSlice (ps := [(0, _), (1, _)]) (m := [encG (stepG 1 0), encG sg2]) elt_36 rfl (.cons rfl (.cons rfl (.nil))) rfl (by simp [encG_len]) (by decide) (by decide) rfl rfl (fun b_213 => ?_)
 refine XO_nil ?_
 refine zD hD ?_
 refine XD_one 9 rfl (by kernel_rfl) ?_
 refine XO_freeze (b := b_213) (by repeat (first | exact Take.here | apply Take.there)) (fun I16 hI16 hb16 => ?_)
 have hDb := hDb.mono hI16; have hR3 := hR3.mono hI16; have hL := hL.mono hI16; have hX5 := hX5.mono hI16; have hC8 := hC8.mono hI16; have hX6 := hX6.mono hI16; have hW9 := hW9.mono hI16; have hT := hT.mono hI16; have hZ1 := hZ1.mono hI16; have hZ2 := hZ2.mono hI16; have hZ3 := hZ3.mono hI16; have hSg := hSg.mono hI16
 have hIc := hIc.trans hI16; have hD := hD.trans hI16
 have hS2 : Sl I16 14 encG (some ⟨b_213, 0, none⟩) 2 2 [stepG 1 0, sg2] := Sl.lit ([stepG 1 0, sg2] : List Sg) rfl encG_len (show _ = some (Obj.cells (([stepG 1 0, sg2] : List Sg).flatMap encG).toArray 48 (0, 0)) from hb16)
 refine XO_want (dj := 209) rfl rfl rfl ?_
 refine XO_callV0 (cap := []) (vs := [_, _]) rfl rfl fun_13 (s_same hSg hS2) rfl rfl ?_
 refine XO_nil ?_
 refine zD hD ?_
 refine zT 10 rfl (ev_pickb rfl rfl rfl) hD ?_
 refine zT 11 rfl (ev_assign rfl) hD ?_
 refine XD_done (by kernel_rfl) ?_
 refine at_noP ?_
 refine at_then (X_ret ?_)
 exact at_ret1 rfl rfl (fun w hw => ⟨by rfl, (hw.mono hIc).drop⟩)
end
section
open Go Go.Kn Go.Proofs
def IncE (m : Nat) : Int → List Em → Prop
 | _, [] => True
 | l, e :: es => l < e.locus ∧ e.locus < (m : Int) ∧ IncE m e.locus es
theorem good_inc {rows : List (List Int)} {m : Nat} : ∀ {l : Int} {es : List Em}, goodE rows m l es = true → IncE m l es
 | _, [], _ => trivial
 | l, e :: es, h => by
  have h : (!badE rows m l e && goodE rows m e.locus es) = true := h
  rw [Bool.and_eq_true] at h
  obtain ⟨h1, h2⟩ := h
  unfold badE at h1
  simp only [Bool.not_or, Bool.and_eq_true, Bool.not_eq_true', decide_eq_false_iff_not] at h1
  exact ⟨by omega, by omega, good_inc h2⟩
theorem inc_mem {m : Nat} : ∀ {l : Int} {es : List Em}, IncE m l es → ∀ e ∈ es, l < e.locus ∧ e.locus < (m : Int)
 | _, [], _, e, h => by cases h
 | l, x :: es, hi, e, h => by
  rcases List.mem_cons.1 h with rfl | h
  ·
   exact ⟨hi.1, hi.2.1⟩
  ·
   have := inc_mem hi.2.2 e h
   have := hi.1
   exact ⟨by omega, by omega⟩
theorem lf_left {m : Nat} : ∀ (k : Nat) {es : List Em}, IncE m (-1) es → ∃ pre, es = pre ++ lfK es k ∧ (∀ e ∈ pre, e.locus < (k : Int)) ∧ (∀ e ∈ lfK es k, (k : Int) ≤ e.locus) ∧ IncE m ((k : Int) - 1) (lfK es k)
 | 0, es, h => ⟨[], rfl, (fun e he => by cases he), (fun e he => by have := (inc_mem h e he).1; omega), by simpa [lfK] using h⟩
 | k + 1, es, h => by
  obtain ⟨pre, h1, h2, h3, h4⟩ := lf_left k h
  cases hl : lfK es k with
  | nil =>
   rw [lf_nil hl]
   rw [hl] at h1
   exact ⟨pre, h1, (fun e he => by have := h2 e he; omega), (fun e he => by cases he), trivial⟩
  | cons x r =>
   rw [hl] at h1 h3 h4
   obtain ⟨i1, i2, i3⟩ := h4
   by_cases hx : x.locus = (k : Int)
   ·
    rw [lf_yes hl hx]
    refine ⟨pre ++ [x], by rw [List.append_assoc]; exact h1, fun e he => ?_, fun e he => ?_, ?_⟩
    ·
     rcases List.mem_append.1 he with he | he
     ·
      have := h2 e he; omega
     ·
      rw [List.mem_singleton.1 he, hx]; omega
    ·
     have := (inc_mem i3 e he).1; omega
    ·
     rw [hx] at i3
     rw [show ((k + 1 : Nat) : Int) - 1 = (k : Int) by omega]; exact i3
   ·
    rw [lf_no hl hx]
    have h3x := h3 x (List.mem_cons_self ..)
    refine ⟨pre, h1, (fun e he => by have := h2 e he; omega), fun e he => ?_, ⟨by omega, i2, i3⟩⟩
    rcases List.mem_cons.1 he with rfl | he
    ·
     omega
    ·
     have := (inc_mem i3 e he).1; omega
theorem mak_good {rows : List (List Int)} {no : Int} {cl : List Int} {es : List Em} (h : makE rows no cl es = 0) : goodE rows (rows.getD 0 []).length (-1) es = true := by
 unfold makE at h
 split at h
 ·
  rename_i h1; exact absurd h h1
 ·
  split at h
  ·
   cases h
  ·
   split at h
   ·
    rename_i h3; exact h3
   ·
    cases h
end
section
open Go Go.Kn Go.Proofs
theorem wrap_id {n : Int} (h : 0 ≤ n ∧ n ≤ 9223372036854775807) : IntKind.i64.wrap n = n := by
 unfold IntKind.wrap IntKind.signed IntKind.bits; simp; omega
theorem bv_nat {a : Nat} (h : a < 18446744073709551616) : (BitVec.ofInt 64 (a : Int)).toNat = a := by
 rw [BitVec.toNat_ofInt]
 omega
theorem orI_nat {a b : Nat} (ha : a < 9223372036854775808) (hb : b < 9223372036854775808) : orI (a : Int) (b : Int) = ((a ||| b : Nat) : Int) := by
 unfold orI
 rw [BitVec.toNat_or, bv_nat (by omega), bv_nat (by omega)]
 have : a ||| b < 2 ^ 63 := Nat.or_lt_two_pow (by omega) (by omega)
 exact wrap_id (by omega)
theorem andI_nat {a b : Nat} (ha : a < 9223372036854775808) (hb : b < 9223372036854775808) : andI (a : Int) (b : Int) = ((a &&& b : Nat) : Int) := by
 unfold andI
 rw [BitVec.toNat_and, bv_nat (by omega), bv_nat (by omega)]
 have : a &&& b ≤ a := Nat.and_le_left
 exact wrap_id (by omega)
theorem putN {c n b : Nat} (hb : b ≤ 8) (hn : n < 2 ^ b) (hc : c < 2 ^ 40) : orI (IntKind.i64.wrap ((c : Int) * 2 ^ (min (b : Int).toNat IntKind.i64.bits))) (n : Int) = ((c * 2 ^ b + n : Nat) : Int) := by
 have e1 : min (b : Int).toNat IntKind.i64.bits = b := by
  show min b 64 = b
  omega
 have h2 : 2 ^ b ≤ 2 ^ 8 := Nat.pow_le_pow_right (by decide) hb
 have h3 : c * 2 ^ b < 2 ^ 40 * 2 ^ 8 := Nat.mul_lt_mul_of_lt_of_le hc h2 (by decide)
 have e2 : (c : Int) * 2 ^ b = ((c * 2 ^ b : Nat) : Int) := by simp
 rw [e1, e2, wrap_id (by omega), orI_nat (by omega) (by omega)]
 have := Nat.two_pow_add_eq_or_of_lt hn c
 rw [Nat.mul_comm c]
 rw [this]
theorem maskN {b : Nat} (hb : b ≤ 8) : IntKind.i64.wrap (1 * 2 ^ (min (b : Int).toNat IntKind.i64.bits)) - 1 = ((2 ^ b - 1 : Nat) : Int) := by
 have e1 : min (b : Int).toNat IntKind.i64.bits = b := by
  show min b 64 = b
  omega
 have h1 : 0 < 2 ^ b := Nat.pow_pos (by decide)
 have h2 : 2 ^ b ≤ 2 ^ 8 := Nat.pow_le_pow_right (by decide) hb
 have e2 : (1 : Int) * 2 ^ b = ((2 ^ b : Nat) : Int) := by simp
 rw [e1, e2, wrap_id (by omega)]
 omega
theorem lbN_nat {b c : Nat} (hb : b ≤ 8) (hc : c < 2 ^ 62) : lbN b (c : Int) = ((c % 2 ^ b : Nat) : Int) := by
 unfold lbN
 have h2 : 2 ^ b ≤ 2 ^ 8 := Nat.pow_le_pow_right (by decide) hb
 rw [maskN hb, andI_nat (by omega) (by omega), Nat.and_two_pow_sub_one_eq_mod]
theorem shN_nat {b c : Nat} (hb : b ≤ 8) : shN b (c : Int) = ((c / 2 ^ b : Nat) : Int) := by
 unfold shN
 have e1 : min (b : Int).toNat IntKind.i64.bits = b := by
  show min b 64 = b
  omega
 rw [e1]
 have e2 : (2 : Int) ^ b = ((2 ^ b : Nat) : Int) := by simp
 rw [e2]
 rw [Int.fdiv_eq_ediv_of_nonneg _ (Int.natCast_nonneg _)]
 first | exact (Int.natCast_ediv _ _).symm | exact (Int.ofNat_ediv _ _).symm | rfl
structure DigOK (r k s d l z w : Nat) : Prop where
 r : r ≤ 63
 k1 : 1 ≤ k
 k : k ≤ 9
 s : s ≤ 2
 d : d ≤ 8
 l : l ≤ 3
 z : z ≤ 255
 w : w ≤ 64
def codeN (r k s d l z w : Nat) : Nat := (((((r * 16 + k) * 4 + s) * 16 + d) * 4 + l) * 256 + z) * 128 + w
theorem packN {r k s d l z w : Nat} (h : DigOK r k s d l z w) : packG 0 [⟨r, 0, 63, 6⟩, ⟨k, 1, 9, 4⟩, ⟨s, 0, 2, 2⟩, ⟨d, 0, 8, 4⟩, ⟨l, 0, 3, 2⟩, ⟨z, 0, 255, 8⟩, ⟨w, 0, 64, 7⟩] = some ((codeN r k s d l z w : Nat) : Int) := by
 obtain ⟨h1, h2, h3, h4, h5, h6, h7, h8⟩ := h
 have g : ∀ {c : Int} {x : Dg} {ds : List Dg}, badD x = false → packG c (x :: ds) = packG (putD c x) ds := fun {c x ds} hb => by
  show (if badD x = true then none else packG (putD c x) ds) = _
  rw [if_neg (by rw [hb]; decide)]
 have q : ∀ {c n b : Nat} {lo hi : Int}, b ≤ 8 → n < 2 ^ b → c < 2 ^ 40 → putD (c : Int) ⟨(n : Int), lo, hi, (b : Int)⟩ = ((c * 2 ^ b + n : Nat) : Int) := fun hb hn hc => putN hb hn hc
 have bd : ∀ {n lo hi b : Int}, lo ≤ n → n ≤ hi → badD ⟨n, lo, hi, b⟩ = false := fun a b => by unfold badD; simp; omega
 rw [g (bd (by omega) (by omega)), show (0 : Int) = ((0 : Nat) : Int) from rfl, show (6 : Int) = ((6 : Nat) : Int) from rfl, q (by decide) (by omega) (by decide)]
 rw [g (bd (by omega) (by omega)), show (4 : Int) = ((4 : Nat) : Int) from rfl, q (b := 4) (by decide) (by omega) (by omega)]
 rw [g (bd (by omega) (by omega)), show (2 : Int) = ((2 : Nat) : Int) from rfl, q (b := 2) (by decide) (by omega) (by omega)]
 rw [g (bd (by omega) (by omega)), q (b := 4) (by decide) (by omega) (by omega)]
 rw [g (bd (by omega) (by omega)), q (b := 2) (by decide) (by omega) (by omega)]
 rw [g (bd (by omega) (by omega)), show (8 : Int) = ((8 : Nat) : Int) from rfl, q (b := 8) (by decide) (by omega) (by omega)]
 rw [g (bd (by omega) (by omega)), show (7 : Int) = ((7 : Nat) : Int) from rfl, q (b := 7) (by decide) (by omega) (by omega)]
 show some _ = some _
 unfold codeN
 simp
theorem rawS_nat (c : Nat) (hc : c < 2 ^ 33) : rawS (c : Int) = ⟨0, ((c / 128 / 256 / 4 / 16 / 4 / 16 : Nat) : Int), 0, 0, ((c / 128 / 256 / 4 / 16 / 4 % 16 : Nat) : Int), ((c / 128 / 256 / 4 / 16 % 4 : Nat) : Int), ((c / 128 / 256 / 4 % 16 : Nat) : Int), ((c / 128 / 256 % 4 : Nat) : Int), ((c / 128 % 256 : Nat) : Int), ((c % 128 : Nat) : Int), 0, 0, 0, 0⟩ := by
 have s7 : shN 7 (c : Int) = ((c / 128 : Nat) : Int) := shN_nat (by decide)
 have s8 : shN 8 ((c / 128 : Nat) : Int) = ((c / 128 / 256 : Nat) : Int) := shN_nat (by decide)
 have s2 : shN 2 ((c / 128 / 256 : Nat) : Int) = ((c / 128 / 256 / 4 : Nat) : Int) := shN_nat (by decide)
 have s4 : shN 4 ((c / 128 / 256 / 4 : Nat) : Int) = ((c / 128 / 256 / 4 / 16 : Nat) : Int) := shN_nat (by decide)
 have t2 : shN 2 ((c / 128 / 256 / 4 / 16 : Nat) : Int) = ((c / 128 / 256 / 4 / 16 / 4 : Nat) : Int) := shN_nat (by decide)
 have t4 : shN 4 ((c / 128 / 256 / 4 / 16 / 4 : Nat) : Int) = ((c / 128 / 256 / 4 / 16 / 4 / 16 : Nat) : Int) := shN_nat (by decide)
 unfold rawS
 rw [s7, s8, s2, s4, t2, t4]
 rw [lbN_nat (b := 4) (c := c / 128 / 256 / 4 / 16 / 4) (by decide) (by omega), lbN_nat (b := 2) (c := c / 128 / 256 / 4 / 16) (by decide) (by omega), lbN_nat (b := 4) (c := c / 128 / 256 / 4) (by decide) (by omega), lbN_nat (b := 2) (c := c / 128 / 256) (by decide) (by omega), lbN_nat (b := 8) (c := c / 128) (by decide) (by omega), lbN_nat (b := 7) (c := c) (by decide) (by omega)]
theorem rawS_code {r k s d l z w : Nat} (h : DigOK r k s d l z w) : rawS ((codeN r k s d l z w : Nat) : Int) = ⟨0, r, 0, 0, k, s, d, l, z, w, 0, 0, 0, 0⟩ := by
 obtain ⟨h1, h2, h3, h4, h5, h6, h7, h8⟩ := h
 rw [rawS_nat _ (by unfold codeN; omega)]
 unfold codeN
 congr 1 <;> (congr 1; omega)
end
section
open Go Go.Kn Go.Proofs
theorem dig_of {x : Sg} (h : (packG 0 (dgs x)).isSome = true) : ∃ r k s d l z w : Nat, DigOK r k s d l z w ∧ x.role = r ∧ x.kind = k ∧ x.side = s ∧ x.dir = d ∧ x.level = l ∧ x.size = z ∧ x.wth = w := by
 have g : ∀ {c : Int} {y : Dg} {ds : List Dg}, (packG c (y :: ds)).isSome = true → badD y = false ∧ (packG (putD c y) ds).isSome = true := fun {c y ds} hs => by
  have hs : (if badD y = true then none else packG (putD c y) ds).isSome = true := hs
  cases hb : badD y with
  | true => rw [hb] at hs; cases hs
  | false => rw [hb] at hs; exact ⟨rfl, hs⟩
 have u : ∀ {n lo hi b : Int}, badD ⟨n, lo, hi, b⟩ = false → lo ≤ n ∧ n ≤ hi := fun hb => by unfold badD at hb; simp at hb; omega
 unfold dgs at h
 obtain ⟨b1, h⟩ := g h
 obtain ⟨b2, h⟩ := g h
 obtain ⟨b3, h⟩ := g h
 obtain ⟨b4, h⟩ := g h
 obtain ⟨b5, h⟩ := g h
 obtain ⟨b6, h⟩ := g h
 obtain ⟨b7, _⟩ := g h
 have b1 := u b1; have b2 := u b2; have b3 := u b3; have b4 := u b4; have b5 := u b5; have b6 := u b6; have b7 := u b7
 exact ⟨x.role.toNat, x.kind.toNat, x.side.toNat, x.dir.toNat, x.level.toNat, x.size.toNat, x.wth.toNat, ⟨by omega, by omega, by omega, by omega, by omega, by omega, by omega, by omega⟩, by omega, by omega, by omega, by omega, by omega, by omega, by omega⟩
theorem dig_code {x : Sg} {r k s d l z w : Nat} (h : DigOK r k s d l z w) (e : x.role = r ∧ x.kind = k ∧ x.side = s ∧ x.dir = d ∧ x.level = l ∧ x.size = z ∧ x.wth = w) : codeF x = ((codeN r k s d l z w : Nat) : Int) ∧ codeE x = 0 := by
 obtain ⟨e1, e2, e3, e4, e5, e6, e7⟩ := e
 have hp : packG 0 (dgs x) = some ((codeN r k s d l z w : Nat) : Int) := by
  unfold dgs
  rw [e1, e2, e3, e4, e5, e6, e7]
  exact packN h
 unfold codeF codeE
 rw [hp]; exact ⟨rfl, rfl⟩
theorem codeE_ok {x : Sg} (h : codeE x = 0) : (packG 0 (dgs x)).isSome = true := by
 unfold codeE at h
 split at h
 ·
  assumption
 ·
  cases h
theorem sign_code {x : Sg} (h : codeE x = 0) : signE (codeF x) = 0 ∧ signF (codeF x) = ⟨0, x.role, 0, 0, x.kind, x.side, x.dir, x.level, x.size, x.wth, 0, 0, 0, 0⟩ ∧ 0 < codeF x ∧ codeF x < 8589934592 := by
 obtain ⟨r, k, s, d, l, z, w, hd, e⟩ := dig_of (codeE_ok h)
 obtain ⟨c1, _⟩ := dig_code hd e
 have hr := rawS_code hd
 have he : signE ((codeN r k s d l z w : Nat) : Int) = 0 := by
  unfold signE
  rw [hr]
  exact (dig_code hd ⟨rfl, rfl, rfl, rfl, rfl, rfl, rfl⟩).2
 rw [c1]
 obtain ⟨e1, e2, e3, e4, e5, e6, e7⟩ := e
 obtain ⟨h1, h2, h3, h4, h5, h6, h7, h8⟩ := hd
 refine ⟨he, ?_, by unfold codeN; omega, by unfold codeN; omega⟩
 unfold signF
 rw [if_neg (by omega), hr, e1, e2, e3, e4, e5, e6, e7]
theorem code_sign {c : Int} (h : signE c = 0) : codeF (signF c) = c ∧ codeE (signF c) = 0 ∧ 0 < c ∧ c < 8589934592 := by
 have hs : signF c = rawS c := by unfold signF; rw [if_neg (by omega)]
 have hraw : codeE (rawS c) = 0 := h
 obtain ⟨r, k, s, d, l, z, w, hd, e⟩ := dig_of (codeE_ok hraw)
 have hrole : (rawS c).role = shN 4 (shN 2 (shN 4 (shN 2 (shN 8 (shN 7 c))))) := rfl
 have hc : 0 ≤ c ∧ c < 2 ^ 33 := by
  have e1 := e.1
  rw [hrole] at e1
  have hr := hd.r
  have u : ∀ (b : Nat) (x : Int), b ≤ 8 → shN b x = x.fdiv (2 ^ b) := fun b x hb => by
   unfold shN
   have : min (b : Int).toNat IntKind.i64.bits = b := by
    show min b 64 = b
    omega
   rw [this]
  rw [u 4 _ (by decide), u 2 _ (by decide), u 4 _ (by decide), u 2 _ (by decide), u 8 _ (by decide), u 7 _ (by decide)] at e1
  have v : ∀ (x : Int) (m : Int), 0 < m → x.fdiv m = x / m := fun x m hm => Int.fdiv_eq_ediv_of_nonneg _ (by omega)
  rw [v _ _ (by decide), v _ _ (by decide), v _ _ (by decide), v _ _ (by decide), v _ _ (by decide), v _ _ (by decide)] at e1
  have e1 : c / 128 / 256 / 4 / 16 / 4 / 16 = (r : Int) := e1
  omega
 obtain ⟨n, rfl⟩ : ∃ n : Nat, c = (n : Int) := ⟨c.toNat, by omega⟩
 have hn := rawS_nat n (by omega)
 obtain ⟨c1, c2⟩ := dig_code hd e
 rw [hs]
 refine ⟨?_, c2, ?_, by omega⟩
 ·
  rw [c1]
  rw [hn] at e
  obtain ⟨e1, e2, e3, e4, e5, e6, e7⟩ := e
  simp only at e1 e2 e3 e4 e5 e6 e7
  unfold codeN
  omega
 ·
  rw [hn] at e
  have e2 : ((n / 128 / 256 / 4 / 16 / 4 % 16 : Nat) : Int) = (k : Int) := e.2.1
  have := hd.k1
  omega
end
section
open Go Go.Kn Go.Proofs
def cz : Nat → (Nat → Int) → Nat
 | 0, _ => 0
 | n + 1, f => cz n f + (if f n = 0 then 0 else 1)
theorem cz_zero : ∀ n, cz n (fun _ => 0) = 0
 | 0 => rfl
 | n + 1 => by unfold cz; rw [cz_zero n]; rfl
theorem cz_upd {f : Nat → Int} {a : Nat} {v : Int} : ∀ n, cz n (updF f a v) ≤ cz n f + (if a < n then 1 else 0)
 | 0 => Nat.zero_le _
 | n + 1 => by
  have ih := cz_upd (f := f) (a := a) (v := v) n
  unfold cz
  by_cases e : n = a
  ·
   subst e
   rw [updF_same, if_pos (show n < n + 1 by omega)]
   rw [if_neg (show ¬ n < n by omega)] at ih
   split <;> split <;> omega
  ·
   rw [updF_ne e]
   by_cases h : a < n
   ·
    rw [if_pos h] at ih
    rw [if_pos (show a < n + 1 by omega)]
    split <;> omega
   ·
    rw [if_neg h] at ih
    rw [if_neg (show ¬ a < n + 1 by omega)]
    split <;> omega
theorem cz_one {f : Nat → Int} {a n : Nat} {v : Int} : cz n (updF f a v) ≤ cz n f + 1 := by
 have := cz_upd (f := f) (a := a) (v := v) n
 split at this <;> omega
theorem cz_tx {w : Nat → Nat} {T : List Int} {n : Nat} : ∀ k, cz n (txF w T k) ≤ k
 | 0 => by show cz n (fun _ => 0) ≤ 0; rw [cz_zero]; exact Nat.le_refl _
 | k + 1 => by
  have ih := cz_tx (w := w) (T := T) (n := n) k
  have := cz_one (f := txF w T k) (a := sumF w k + w k) (n := n) (v := T.getD k 0)
  show cz n (updF (txF w T k) (sumF w k + w k) (T.getD k 0)) ≤ k + 1
  omega
def both (y : Int × Int) : Bool := decide (y.1 > 0) && decide (y.2 > 0)
theorem cz_pr {w : Nat → Nat} {l : List Int} {n : Nat} (ps : List (Int × Int)) : ∀ (f : Nat → Int), cz n (ps.foldl (prF w l) f) ≤ cz n f + (ps.filter both).length := by
 induction ps with
 | nil => intro f; exact Nat.le_refl _
 | cons y ps ih =>
  intro f
  rw [List.foldl_cons]
  have h := ih (prF w l f y)
  cases hb : (decide (y.1 > 0) && decide (y.2 > 0)) with
  | true =>
   rw [prF_yes hb] at h ⊢
   have h2 := cz_one (f := f) (a := sumF w (y.1 - 1).toNat + w (y.1 - 1).toNat) (n := n) (v := l.getD (y.2 - 1).toNat 0)
   rw [List.filter_cons_of_pos (show both y = true from hb), List.length_cons]; omega
  | false =>
   rw [prF_no hb] at h ⊢
   rw [List.filter_cons_of_neg (show ¬ both y = true by unfold both; rw [hb]; decide)]; exact h
theorem cz_al {w : Nat → Nat} {l : List Int} {n : Nat} (qs : List (Int × Int)) : ∀ (s : (Nat → Int) × (Nat → Nat)), cz n (qs.foldl (alS w l) s).1 ≤ cz n s.1 + qs.length := by
 induction qs with
 | nil => intro s; exact Nat.le_refl _
 | cons q qs ih =>
  intro s
  rw [List.foldl_cons]
  have h := ih (alS w l s q)
  have h2 := cz_one (f := s.1) (a := sumF w q.1.toNat + s.2 q.1.toNat) (n := n) (v := l.getD q.2.toNat 0)
  have h3 : cz n (alS w l s q).1 ≤ cz n s.1 + 1 := h2
  rw [List.length_cons]; omega
def sec (y : Int × Int) : Bool := decide (y.2 > 0)
theorem alo_cnt {m n : Nat} : ∀ (ps : List (Int × Int)) (a : Int), (∀ p ∈ ps, QOK m n p) → (ps.filter both).length + (aloF a ps).length ≤ (ps.filter sec).length
 | [], _, _ => Nat.le_refl _
 | p :: ps, a, h => by
  obtain ⟨i, k, rfl, _, _, h0⟩ := h p (List.mem_cons_self ..)
  have hr := fun q hq => h q (List.mem_cons_of_mem _ hq)
  unfold aloF
  split
  ·
   rename_i hi
   have ih := alo_cnt ps (i : Int) hr
   by_cases hk : 0 < k
   ·
    rw [List.filter_cons_of_pos (show both ((i : Int), (k : Int)) = true by unfold both; simp at hi ⊢; omega), List.filter_cons_of_pos (show sec ((i : Int), (k : Int)) = true by unfold sec; simp; omega), List.length_cons, List.length_cons]
    have ih : (ps.filter both).length + (aloF ((i : Int), (k : Int)).1 ps).length ≤ (ps.filter sec).length := ih
    omega
   ·
    rw [List.filter_cons_of_neg (show ¬ both ((i : Int), (k : Int)) = true by unfold both; simp; omega), List.filter_cons_of_neg (show ¬ sec ((i : Int), (k : Int)) = true by unfold sec; simp; omega)]
    exact ih
  ·
   rename_i hi
   have ih := alo_cnt ps a hr
   have hi0 : i = 0 := by simp at hi; omega
   rw [List.filter_cons_of_neg (show ¬ both ((i : Int), (k : Int)) = true by unfold both; simp; omega), List.filter_cons_of_pos (show sec ((i : Int), (k : Int)) = true by unfold sec; simp; omega), List.length_cons, List.length_cons]
   omega
theorem pa_cnt {a b : List Int} : ∀ (f i k : Nat), i ≤ a.length → k ≤ b.length → ((paF a b f i k).filter sec).length + k ≤ b.length
 | 0, _, k, _, hk => by show 0 + k ≤ _; omega
 | f + 1, i, k, hi, hk => by
  unfold paF
  split
  ·
   rename_i hg
   split
   ·
    rename_i hb
    have h1 : i < a.length ∧ k < b.length := by unfold bothP at hb; simp at hb; omega
    have ih := pa_cnt f (i + 1) (k + 1) h1.1 h1.2
    rw [List.filter_cons_of_pos (show sec (((i + 1 : Nat) : Int), ((k + 1 : Nat) : Int)) = true by unfold sec; simp <;> omega), List.length_cons]; omega
   ·
    rename_i hb
    split
    ·
     rename_i ho
     have h1 : i < a.length := by unfold oneP at ho; simp at ho; omega
     have ih := pa_cnt f (i + 1) k h1 hk
     rw [List.filter_cons_of_neg (show ¬ sec (((i + 1 : Nat) : Int), (0 : Int)) = true by unfold sec; simp)]; exact ih
    ·
     rename_i ho
     have h1 : k < b.length := two_lt hi hk (by simp at hg; omega) (by simpa using hb) (by simpa using ho)
     have ih := pa_cnt f i (k + 1) hi h1
     rw [List.filter_cons_of_pos (show sec ((0 : Int), ((k + 1 : Nat) : Int)) = true by unfold sec; simp <;> omega), List.length_cons]; omega
  ·
   show 0 + k ≤ _; omega
theorem pfW_cnt {xs : List Wr} {i : Nat} : ((pfW xs i).filter both).length + (alW xs i).length ≤ (csW xs i).length := by
 have h1 := alo_cnt (pfW xs i) 0 (pfW_ok (xs := xs) (i := i)).1
 have h2 : ((pfW xs i).filter sec).length ≤ (csW xs i).length := by
  unfold pfW
  split
  ·
   exact Nat.zero_le _
  ·
   unfold pairR
   split
   ·
    exact Nat.zero_le _
   ·
    have := pa_cnt (a := csW xs 0) (b := csW xs i) ((csW xs 0).length + (csW xs i).length) 0 0 (Nat.zero_le _) (Nat.zero_le _)
    unfold pairL; omega
 exact Nat.le_trans h1 h2
theorem row_cz {xs : List Wr} {i n : Nat} : cz n (rowF (wdW xs) (csW xs 0) (csW xs i) i (pfW xs i)) ≤ (csW xs i).length := by
 unfold rowF alP
 have h1 := cz_al (w := wdW xs) (l := csW xs i) (n := n) (aloL (pfW xs i)) ((pfW xs i).foldl (prF (wdW xs) (csW xs i)) (if i = 0 then txF (wdW xs) (csW xs 0) (csW xs 0).length else fun _ => 0), fun _ => 0)
 have h2 := cz_pr (w := wdW xs) (l := csW xs i) (n := n) (pfW xs i) (if i = 0 then txF (wdW xs) (csW xs 0) (csW xs 0).length else fun _ => 0)
 have h3 := pfW_cnt (xs := xs) (i := i)
 by_cases h0 : i = 0
 ·
  subst h0
  have h4 := cz_tx (w := wdW xs) (T := csW xs 0) (n := n) (csW xs 0).length
  have e1 : pfW xs 0 = [] := rfl
  rw [e1] at h1 h2 ⊢
  simp only [if_true] at h1 h2 ⊢
  have e2 : aloL [] = [] := rfl
  rw [e2] at h1 ⊢
  simp only [List.filter_nil, List.length_nil, Nat.add_zero] at h1 h2
  omega
 ·
  rw [if_neg h0] at h1 h2 ⊢
  rw [cz_zero] at h2
  have e3 : (alW xs i).length = (aloL (pfW xs i)).length := rfl
  simp only at h1
  omega
theorem nzF_cz {n : Nat} {f : Nat → Int} : ∀ k, k ≤ n → nzF (rngL n f) k = cz k f
 | 0, _ => rfl
 | k + 1, hk => by
  have ih := nzF_cz (n := n) (f := f) k (by omega)
  have hx : (rngL n f)[k]? = some (f k) := rngL_at (by omega)
  unfold cz
  by_cases h : f k = 0
  ·
   rw [nzF_no hx (by simp [h]), ih, if_pos h]; rfl
  ·
   rw [nzF_yes hx (by simp [h]), ih, if_neg h]
theorem tab_nz {xs : List Wr} : NzOK xs (tabR xs) := by
 intro i x row hx hr k hk h0
 have hil : (tabR xs).length ≤ xs.length := tabR_in.1
 unfold tabR at hr
 split at hr
 ·
  simp at hr
 ·
  rw [List.getElem?_map] at hr
  have hi := (List.getElem?_eq_some_iff.1 hx).1
  rw [List.getElem?_range hi, Option.map_some] at hr
  have hr := (Option.some.inj hr).symm
  subst hr
  unfold rowW at hk h0 ⊢
  rw [rngL_len] at hk
  have hg := getD_of (d := 0) (rngL_at (f := rowF (wdW xs) (csW xs 0) (csW xs i) i (pfW xs i)) hk)
  rw [hg] at h0
  rw [nzF_cz k (by omega)]
  have h1 := row_cz (xs := xs) (i := i) (n := k + 1)
  have h2 : cz (k + 1) (rowF (wdW xs) (csW xs 0) (csW xs i) i (pfW xs i)) = cz k (rowF (wdW xs) (csW xs 0) (csW xs i) i (pfW xs i)) + 1 := by
   show _ + (if _ then 0 else 1) = _
   rw [if_neg h0]
  have h3 : (csW xs i).length = x.rs.length := by rw [csW_at hx, List.length_map]
  omega
end
section
open Go Go.Kn Go.Proofs
theorem chk_frm {y : Sg} (h : chkG [y] = 0) : frm y = true := by
 unfold chkG at h
 rw [if_neg (show ¬ [y].length > 4096 from by simp)] at h
 split at h
 ·
  rename_i h2
  unfold skB at h2
  have h3 := List.all_eq_true.1 h2 0 (by simp)
  unfold skP at h3
  simp at h3
  exact h3
 ·
  cases h
theorem good_rd {xs : List Wr} : ∀ {l : Int}, goodW l xs = true → ∀ x ∈ xs, ∀ r ∈ x.rs, badR r = false := by
 induction xs with
 | nil => intro l _ x hx; cases hx
 | cons z xs ih =>
  intro l h x hx r hr
  have h : (!badW l z && (!z.rs.any badR && goodW z.no xs)) = true := h
  simp only [Bool.and_eq_true, Bool.not_eq_true'] at h
  rcases List.mem_cons.1 hx with rfl | hx
  ·
   have := List.any_eq_false.1 h.2.1 r hr
   simpa using this
  ·
   exact ih h.2.2 x hx r hr
theorem wit_frm {xs : List Wr} (h : chkW xs = 0) {x : Wr} (hx : x ∈ xs) {r : Rd} (hr : r ∈ x.rs) : badR r = false ∧ (r.lost = false → frm r.sg = true ∧ r.sg.id = 0) ∧ (r.lost = true → r.sg = zeroG) := by
 have hg : goodW 0 xs = true := by
  unfold chkW at h
  split at h
  ·
   cases h
  ·
   split at h
   ·
    cases h
   ·
    split at h
    ·
     assumption
    ·
     cases h
 have hb := good_rd hg x hx r hr
 refine ⟨hb, fun hl => ?_, fun hl => ?_⟩
 ·
  unfold badR at hb
  rw [hl] at hb
  simp only [Bool.false_and, Bool.not_false, Bool.true_and, Bool.false_or, Bool.or_eq_false_iff, bne_eq_false_iff_eq] at hb
  exact ⟨chk_frm hb.2, hb.1⟩
 ·
  unfold badR at hb
  rw [hl] at hb
  simp only [Bool.true_and, Bool.not_true, Bool.false_and, Bool.or_false, Bool.not_eq_false'] at hb
  exact sgEq_iff.1 hb
end
section
open Go Go.Kn Go.Proofs
theorem tab_chk {ws : List Wr} (h : tabE ws = 0) (h0 : 0 < (tabR ws).length) : chkW ws = 0 ∧ (tabR ws).length = ws.length := by
 rcases tab_len h with h1 | h1
 ·
  exact ⟨(chkW_ok h1).1, tab_rows rfl h0⟩
 ·
  rw [h1] at h0; simp at h0
end
section
open Go Go.Kn Go.Proofs
theorem frm_code {x : Sg} (h : frm x = true) : codeE x = 0 := by
 unfold frm frmL at h
 simp only [Bool.and_eq_true] at h
 obtain ⟨⟨⟨⟨⟨⟨⟨⟨⟨⟨_, y2⟩, _⟩, y4⟩, _⟩, y6⟩, y7⟩, y8⟩, y9⟩, y10⟩, _⟩ := h
 have u : ∀ {n lo hi : Int}, within n lo hi = true → lo ≤ n ∧ n ≤ hi := fun h => by unfold within at h; simp at h; omega
 have y2 := u y2; have y4 := u y4; have y6 := u y6; have y7 := u y7; have y8 := u y8; have y9 := u y9; have y10 := u y10
 exact (dig_code (r := x.role.toNat) (k := x.kind.toNat) (s := x.side.toNat) (d := x.dir.toNat) (l := x.level.toNat) (z := x.size.toNat) (w := x.wth.toNat) ⟨by omega, by omega, by omega, by omega, by omega, by omega, by omega, by omega⟩ ⟨by omega, by omega, by omega, by omega, by omega, by omega, by omega⟩).2
def RdsOK (rs : List Rd) : Prop := ∀ r ∈ rs, (r.lost = true ∧ codeR r = 8589934592) ∨ (r.lost = false ∧ codeR r = codeF r.sg ∧ codeE r.sg = 0)
theorem code_in {rs : List Rd} (h : RdsOK rs) {r : Rd} (hr : r ∈ rs) : 0 < codeR r ∧ codeR r ≤ 8589934592 := by
 rcases h r hr with ⟨_, e⟩ | ⟨_, e, e2⟩
 ·
  omega
 ·
  have := sign_code e2; omega
end
section
open Go Go.Kn Go.Proofs
def insP (l : List Int) (n : Int) : Nat → Nat
 | 0 => 0
 | k + 1 => if n < l.getD k 0 then insP l n k else k + 1
theorem insP_yes {l : List Int} {n : Int} {k : Nat} (h : (decide ((k : Int) > 0) && decide (l.getD ((k : Int) - 1).toNat 0 > n)) = true) : ∃ j, k = j + 1 ∧ insP l n k = insP l n j := by
 simp only [Bool.and_eq_true, decide_eq_true_eq] at h
 cases k with
 | zero => omega
 | succ j =>
  refine ⟨j, rfl, ?_⟩
  have e : (((j + 1 : Nat) : Int) - 1).toNat = j := by omega
  rw [e] at h
  show (if n < l.getD j 0 then insP l n j else j + 1) = _
  rw [if_pos h.2]
theorem insP_no {l : List Int} {n : Int} {k : Nat} (h : (decide ((k : Int) > 0) && decide (l.getD ((k : Int) - 1).toNat 0 > n)) = false) : insP l n k = k := by
 cases k with
 | zero => rfl
 | succ j =>
  have e : (((j + 1 : Nat) : Int) - 1).toNat = j := by omega
  rw [e] at h
  simp only [Bool.and_eq_false_iff, decide_eq_false_iff_not] at h
  show (if n < l.getD j 0 then insP l n j else j + 1) = _
  rw [if_neg (by omega)]
def insF (l : List Int) (n : Int) : List Int := l.take (insP l n l.length) ++ [n] ++ l.drop (insP l n l.length)
theorem insP_le {l : List Int} {n : Int} : ∀ k, insP l n k ≤ k
 | 0 => Nat.le_refl _
 | k + 1 => by
  show (if n < l.getD k 0 then insP l n k else k + 1) ≤ _
  have := insP_le (l := l) (n := n) k
  split <;> omega
theorem insP_hi {l : List Int} {n : Int} : ∀ k, ∀ j, insP l n k ≤ j → j < k → n < l.getD j 0
 | 0, j, _, h => by omega
 | k + 1, j, h1, h2 => by
  have h1 : (if n < l.getD k 0 then insP l n k else k + 1) ≤ j := h1
  split at h1
  ·
   rename_i h
   by_cases e : j = k
   ·
    subst e; exact h
   ·
    exact insP_hi k j h1 (by omega)
  ·
   omega
theorem insP_lo {l : List Int} {n : Int} : ∀ k, 0 < insP l n k → ¬ n < l.getD (insP l n k - 1) 0
 | 0, h => by cases h
 | k + 1, h => by
  have e : insP l n (k + 1) = if n < l.getD k 0 then insP l n k else k + 1 := rfl
  rw [e] at h ⊢
  by_cases hc : n < l.getD k 0
  ·
   rw [if_pos hc] at h ⊢; exact insP_lo k h
  ·
   rw [if_neg hc]; exact hc
theorem insF_len {l : List Int} {n : Int} : (insF l n).length = l.length + 1 := by
 unfold insF
 have := insP_le (l := l) (n := n) l.length
 simp; omega
theorem insF_mem {l : List Int} {n z : Int} : z ∈ insF l n ↔ z = n ∨ z ∈ l := by
 unfold insF
 rw [List.mem_append, List.mem_append, List.mem_singleton]
 have h := List.take_append_drop (insP l n l.length) l
 constructor
 ·
  rintro ((h1 | h1) | h1)
  ·
   exact .inr (List.mem_of_mem_take h1)
  ·
   exact .inl h1
  ·
   exact .inr (List.mem_of_mem_drop h1)
 ·
  rintro (h1 | h1)
  ·
   exact .inl (.inr h1)
  ·
   rw [← h] at h1
   rcases List.mem_append.1 h1 with h1 | h1
   ·
    exact .inl (.inl h1)
   ·
    exact .inr h1
theorem insF_up {l : List Int} {n : Int} (h : l.Pairwise (· < ·)) (hn : n ∉ l) : (insF l n).Pairwise (· < ·) := by
 have hp := insP_le (l := l) (n := n) l.length
 have hlo := insP_lo (l := l) (n := n) l.length
 have hhi := insP_hi (l := l) (n := n) l.length
 have a1 : ∀ y ∈ l.take (insP l n l.length), y < n := fun y hy => by
  obtain ⟨i, hi⟩ := List.getElem?_of_mem hy
  rw [List.getElem?_take] at hi
  split at hi
  ·
   rename_i hip
   have hl := hlo (by omega)
   have hil : i < l.length := by omega
   have hne : y ≠ n := fun e => hn (by rw [← e]; exact List.mem_of_getElem? hi)
   have hge : l.getD (insP l n l.length - 1) 0 ≤ n := by omega
   by_cases e : i = insP l n l.length - 1
   ·
    rw [← e, getD_of hi] at hge; omega
   ·
    have hx : l[insP l n l.length - 1]? = some (l.getD (insP l n l.length - 1) 0) := some_getD rfl (by omega)
    have h1 := List.pairwise_iff_getElem.1 h i (insP l n l.length - 1) hil (by omega) (by omega)
    have e1 := (List.getElem?_eq_some_iff.1 hi).2
    have e2 := (List.getElem?_eq_some_iff.1 hx).2
    rw [e1, e2] at h1
    omega
  ·
   cases hi
 have a2 : ∀ y ∈ l.drop (insP l n l.length), n < y := fun y hy => by
  obtain ⟨i, hi⟩ := List.getElem?_of_mem hy
  rw [List.getElem?_drop] at hi
  have hil := (List.getElem?_eq_some_iff.1 hi).1
  have := hhi (insP l n l.length + i) (by omega) hil
  rw [getD_of hi] at this; exact this
 unfold insF
 rw [List.append_assoc, List.pairwise_append]
 refine ⟨h.sublist (List.take_sublist _ _), ?_, fun a ha b hb => ?_⟩
 ·
  rw [List.singleton_append, List.pairwise_cons]
  exact ⟨a2, h.sublist (List.drop_sublist _ _)⟩
 ·
  rw [List.singleton_append] at hb
  rcases List.mem_cons.1 hb with rfl | hb
  ·
   exact a1 a ha
  ·
   have := a1 a ha; have := a2 b hb; omega
def refK (st cs : List Int) (b : Int) : Nat → List Int
 | 0 => []
 | k + 1 => if cs.getD k 0 = b then insF (refK st cs b k) (st.getD k 0) else refK st cs b k
theorem refK_yes {st cs : List Int} {b x y : Int} {k : Nat} (hx : st[k]? = some x) (hy : cs[k]? = some y) (h : y = b) : refK st cs b (k + 1) = insF (refK st cs b k) x := by
 show (if cs.getD k 0 = b then insF (refK st cs b k) (st.getD k 0) else refK st cs b k) = _
 rw [getD_of hy, if_pos h, getD_of hx]
theorem refK_no {st cs : List Int} {b y : Int} {k : Nat} (hy : cs[k]? = some y) (h : y ≠ b) : refK st cs b (k + 1) = refK st cs b k := by
 show (if cs.getD k 0 = b then insF (refK st cs b k) (st.getD k 0) else refK st cs b k) = _
 rw [getD_of hy, if_neg h]
theorem refK_len {st cs : List Int} {b : Int} : ∀ k, (refK st cs b k).length ≤ k
 | 0 => Nat.le_refl _
 | k + 1 => by
  show (if cs.getD k 0 = b then insF (refK st cs b k) (st.getD k 0) else refK st cs b k).length ≤ _
  have := refK_len (st := st) (cs := cs) (b := b) k
  split
  ·
   rw [insF_len]; omega
  ·
   omega
theorem refK_mem {st cs : List Int} {b z : Int} : ∀ k, z ∈ refK st cs b k ↔ ∃ i, i < k ∧ st.getD i 0 = z ∧ cs.getD i 0 = b
 | 0 => by
  constructor
  ·
   intro h; cases h
  ·
   rintro ⟨i, h, _⟩; omega
 | k + 1 => by
  have ih := refK_mem (st := st) (cs := cs) (b := b) (z := z) k
  have e : refK st cs b (k + 1) = if cs.getD k 0 = b then insF (refK st cs b k) (st.getD k 0) else refK st cs b k := rfl
  rw [e]
  split
  ·
   rename_i hc
   rw [insF_mem, ih]
   constructor
   ·
    rintro (rfl | ⟨i, h1, h2⟩)
    ·
     exact ⟨k, by omega, rfl, hc⟩
    ·
     exact ⟨i, by omega, h2⟩
   ·
    rintro ⟨i, h1, h2, h3⟩
    by_cases e : i = k
    ·
     subst e; exact .inl h2.symm
    ·
     exact .inr ⟨i, by omega, h2, h3⟩
  ·
   rename_i hc
   rw [ih]
   constructor
   ·
    rintro ⟨i, h1, h2⟩; exact ⟨i, by omega, h2⟩
   ·
    rintro ⟨i, h1, h2, h3⟩
    by_cases e : i = k
    ·
     subst e; exact absurd h3 hc
    ·
     exact ⟨i, by omega, h2, h3⟩
theorem refK_up {st cs : List Int} {b : Int} (hd : st.Nodup) : ∀ k, k ≤ st.length → (refK st cs b k).Pairwise (· < ·)
 | 0, _ => List.Pairwise.nil
 | k + 1, hk => by
  have ih := refK_up (cs := cs) (b := b) hd k (by omega)
  have e : refK st cs b (k + 1) = if cs.getD k 0 = b then insF (refK st cs b k) (st.getD k 0) else refK st cs b k := rfl
  rw [e]
  split
  ·
   refine insF_up ih fun h => ?_
   obtain ⟨i, h1, h2, _⟩ := (refK_mem k).1 h
   have hx : st[i]? = some (st.getD i 0) := some_getD rfl (by omega)
   have hy : st[k]? = some (st.getD k 0) := some_getD rfl (by omega)
   have e1 := (List.getElem?_eq_some_iff.1 hx).2
   have e2 := (List.getElem?_eq_some_iff.1 hy).2
   exact List.pairwise_iff_getElem.1 hd i k (by omega) (by omega) h1 (by rw [e1, e2, h2])
  ·
   exact ih
def refRt (rows : List (List Int)) (cl : List Int) (l : Nat) : List Int := refK (statesF rows l) (costsF rows cl l 64 (allS rows.length)) (leastF (costsF rows cl l 64 (allS rows.length))) (costsF rows cl l 64 (allS rows.length)).length
theorem refRt_eq {rows : List (List Int)} {cl : List Int} {l : Nat} (hr : rowsN rows = 0) (hc : chkN rows.length cl = 0) : refRt rows cl l = rootF rows cl l := by
 have hn := chkN_ok hc
 have hal := all_in (n := (rows.length : Int)) ⟨hn.1, hn.2.1⟩
 have hcs := costs_tree (l := l) (rows := rows) hc 64 (allS rows.length) (by omega) (ok_all hc)
 have hlen : (costsF rows cl l 64 (allS rows.length)).length = (statesF rows l).length := costs_len
 unfold refRt
 refine up_eq (refK_up (st_nd rows l) _ (by omega)) root_up fun z => ?_
 rw [refK_mem, root_iff hr hc, hcs, List.length_map]
 have hg : ∀ i, i < (statesF rows l).length → ((statesF rows l).map (cT (statesF rows l) (uF rows l) (treeT cl 64 (allS rows.length)))).getD i 0 = cT (statesF rows l) (uF rows l) (treeT cl 64 (allS rows.length)) ((statesF rows l).getD i 0) := fun i hi =>
  getD_of (by rw [List.getElem?_map, some_getD (d := (0 : Int)) rfl hi]; rfl)
 constructor
 ·
  rintro ⟨i, hi, e1, e2⟩
  rw [hg i hi, e1] at e2
  exact ⟨by rw [← e1]; exact List.mem_of_getElem? (some_getD (d := (0 : Int)) rfl hi), e2⟩
 ·
  rintro ⟨hz, e⟩
  obtain ⟨i, hi⟩ := List.getElem?_of_mem hz
  have hil := (List.getElem?_eq_some_iff.1 hi).1
  refine ⟨i, hil, getD_of hi, ?_⟩
  rw [hg i hil, getD_of hi]; exact e
end
section
open Go Go.Kn Go.Proofs
theorem fun_56 : Fun Tryz.prog 56 := .of Tryz.func56 (by kernel_rfl) (by kernel_rfl)
theorem w_ins {I : HMap} {av : Option Addr} {n c : Nat} {xs : List Int} (hS : Sl I 1 encI av n c xs) (hn : n ≤ 100000) (x : Int) : RetM Tryz.prog 56 [.slice av n c, .int .i64 x] I [] (SlRes 1 encI (insF xs x)) := by
 intro g H w hw
 refine enter Tryz.func56 rfl Tryz.ntmps56 rfl hw ?_
 have hIc := HLe.refl I
 have hlS := hS.len
 subst hlS
 have hcap := hS.cap
 refine zR (zA ?_)
 refine zN (zR ?_)
 refine zM ?_
 refine zQ slt_23 ?_
 refine zA (zN (X_seq (X_block ?_)))
 refine X_loopT [(0, _), (1, _)] (.cons rfl (.cons rfl .nil)) (fun T L0 mz E I' loc' => ∃ (k : Nat), mz = 0 + k ∧ E = (5, .int .i64 k) :: T ∧ I = I' ∧ L0 = loc' ∧ k ≤ xs.length ∧ insP xs x xs.length = insP xs x k) _ _ _ _ ⟨xs.length, rfl, rfl, rfl, rfl, Nat.le_refl _, rfl⟩ (.cons rfl (.cons rfl (.cons rfl .nil))) (HLe.refl _) rfl ?_
 rintro mz E I' loc' ⟨k, rfl, rfl, rfl, rfl, hk, hp⟩
 refine X_seq (zR (zM ?_))
 refine zC ?_
 refine zM ?_
 refine XO_pushT 2 rfl rfl rfl ?_
 refine zK (ev_move rfl) ?_
 refine zK (ev_move rfl) ?_
 refine zK (ev_arB rfl rfl rfl (fun hg => by omega)) ?_
 refine zK (ev_indexSl rfl rfl slt_23 (by assumption) (fun hg => by (simp [conj] at hg; omega))) ?_
 refine zK (ev_load rfl sct_3 (fun hg => by exact Sl.get0 (k := ((k : Int) - 1).toNat) hS (some_getD (d := 0) rfl (by simp [conj] at hg; omega)) rfl)) ?_
 refine zK (ev_move rfl) ?_
 refine zK (ev_cmp rfl rfl rfl) ?_
 refine XO_and0 rfl rfl rfl rfl rfl ?_
 refine zN ?_
 refine zI ?_ ?_ <;> intro hc19
 ·
  obtain ⟨j, rfl, hpj⟩ := insP_yes hc19
  refine X_skip (at_then (X_block (X_region (zM ?_))))
  refine zB ?_
  refine zA (XO_nil ?_)
  rw [show (((j + 1 : Nat) : Int) - 1) = ((j : Nat) : Int) by omega]
  refine at_block_n ?_
  exact at_met2 _ _ ⟨0 + j, by omega, j, rfl, rfl, rfl, rfl, by omega, by rw [hp, hpj]⟩ (.cons rfl (.cons rfl (.cons rfl .nil))) (by repeat (first | exact .refl | exact subL_left | refine subL_app ?_ | refine .drop ?_ | refine subL_add ?_))
 rw [insP_no hc19] at hp
 refine X_exit (at_then_e (at_then_e (at_block_hit (at_then (zR ?_)))))
 refine XO_buildSlice (ps := []) (m := []) elt_23 rfl (.nil) rfl (by simp) (by decide) (by decide) rfl rfl (fun b_22 => ?_)
 refine zM ?_
 refine zM ?_
 refine zV (ev_sliceHi rfl rfl slt_23 (fun hg => by omega)) ?_
 refine XO_append (v := _) (ys := (xs.take k).flatMap encI) (L := [(b_22, _)]) rfl rfl elt_23 OwnS.new (by repeat (first | exact .cons .here .nil | exact split_all | exact split_app | apply split_cons | apply split_skip)) ((hS.take hk).src encI_len) (one_I _) (by omega) rfl rfl ?_
 intro v7 L7 hO7 _; rw [List.nil_append, Nat.zero_add] at hO7
 refine zA ?_
 refine zN (zR ?_)
 refine zM ?_
 refine zM ?_
 refine XO_buildSlice (ps := [(0, _)]) (m := [encI x]) elt_23 rfl (.cons rfl (.nil)) rfl (by simp [encI_len]) (by decide) (by decide) rfl rfl (fun b_29 => ?_)
 refine XO_append (v := _) (ys := [x].flatMap encI) (L := L7) rfl rfl elt_23 hO7 (by repeat (first | exact .cons .here .nil | exact split_all | exact split_app | apply split_cons | apply split_skip)) ⟨rfl, fun _ => rfl, by repeat (first | exact Cells.here | apply Cells.there | apply Cells.app)⟩ (one_I [x]) (by omega) rfl rfl ?_
 intro v8 L8 hO8 _; rw [← List.flatMap_append] at hO8
 refine zA ?_
 refine zN (zR ?_)
 refine zM ?_
 refine zM ?_
 refine zM ?_
 refine zV (ev_sliceLo rfl rfl slt_23 (fun hg => by omega)) ?_
 refine XO_append (v := _) (ys := (xs.drop k).flatMap encI) (L := L8) rfl rfl elt_23 hO8 (by repeat (first | exact .cons .here .nil | exact split_all | exact split_app | apply split_cons | apply split_skip)) ((hS.drop hk).src encI_len) (one_I _) (by omega) rfl rfl ?_
 intro v9 L9 hO9 _; rw [← List.flatMap_append] at hO9
 refine zA (zN (X_ret ?_))
 exact at_ret1 rfl rfl (fun w hw => by obtain ⟨I9, h91, h92, h93⟩ := OwnS.res hO9 encI_len (by decide) (hw.subL (by repeat (first | exact .refl | exact subL_left))); rw [show xs.take k ++ [x] ++ xs.drop k = insF xs x by unfold insF; rw [hp]] at h93; exact ⟨_, I9, [], rfl, hIc.trans h91, h92, h93⟩)
theorem w_rroots {I : HMap} {av : Option Addr} {n c : Nat} {xs : List Int} (hS : Sl I 1 encI av n c xs) (hn : n ≤ 100000) {bv : Option Addr} {n2 c2 : Nat} {rows : List (List Int)} (hV : SlN I bv n2 c2 rows) (hn2 : n2 ≤ 100000) (l : Nat) (hl : ∀ r ∈ rows, l < r.length) (hc : chkN rows.length xs = 0) : RetM Tryz.prog 27 [.slice bv n2 c2, .slice av n c, .int .i64 l] I [] (SlRes 1 encI (refRt rows xs l)) := by
 intro g H w hw
 refine enter Tryz.func27 rfl Tryz.ntmps27 rfl hw ?_
 have hIc := HLe.refl I
 have hlV := hV.len
 subst hlV
 have hck := chkN_ok hc
 have hsh := shl_in (n := (rows.length : Int)) ⟨by omega, by omega⟩
 have hal9 := all_in (n := (rows.length : Int)) ⟨by omega, by omega⟩
 have hcl : (costsF rows xs l 64 (allS rows.length)).length = (statesF rows l).length := costs_len
 have hsl := st_len (rows := rows) (l := l)
 have hsp := st_pos (rows := rows) (l := l)
 refine zR (zA ?_)
 refine zN (zR ?_)
 refine zM ?_
 refine zM ?_
 refine XO_callM (cap := []) (vs := [_, _]) rfl rfl fun_54 .nil (w_States hV hn2 l hl) rfl rfl ?_
 rintro vv1 I1 L1 hI1 ⟨rfl, a9, c9, rfl, hSt⟩
 have hS := hS.mono hI1; have hV := hV.mono hI1; have hIc := hIc.trans hI1
 refine zA ?_
 refine zN (zR ?_)
 refine zM ?_
 refine zM ?_
 refine zM ?_
 refine zM ?_
 refine zQ slt_22 ?_
 refine zV (ev_shl rfl rfl (fun hg => by omega)) ?_
 refine zB ?_
 refine XO_callM (cap := []) (vs := [_, _, _, _]) rfl rfl fun_55 .nil (w_costsA hS hn hV hn2 l hl hc) rfl rfl ?_
 rintro vv2 I2 L2 hI2 ⟨rfl, aC, cC, rfl, hC⟩
 have hS := hS.mono hI2; have hV := hV.mono hI2; have hSt := hSt.mono hI2; have hIc := hIc.trans hI2
 refine zA ?_
 refine zN (zR ?_)
 refine zM ?_
 refine zV (ev_indexSl rfl rfl slt_23 (by assumption) (fun hg => by omega)) ?_
 refine zV (ev_load rfl sct_3 (fun hg => by exact Sl.get0 (k := 0) hC (some_getD (d := 0) rfl (by omega)) rfl)) ?_
 refine zA (zN (X_seq (zR ?_)))
 refine zA (zN (X_block ?_))
 refine X_loopT [(7, _), (8, _)] (.cons rfl (.cons rfl .nil)) (fun T L0 mz E I' loc' => ∃ (i : Nat) (b : Int), mz = (costsF rows xs l 64 (allS rows.length)).length - i ∧ E = (9, .int .i64 b) :: (10, .int .i64 i) :: T ∧ I2 = I' ∧ L0 = loc' ∧ i ≤ (costsF rows xs l 64 (allS rows.length)).length ∧ b = minK (costsF rows xs l 64 (allS rows.length)) i) _ _ _ _ ⟨0, _, rfl, rfl, rfl, rfl, Nat.zero_le _, by simp [minK]⟩ (.cons rfl (.cons rfl (.cons rfl (.cons rfl .nil)))) (HLe.refl _) rfl ?_
 rintro mz E I' loc' ⟨i, b, rfl, rfl, rfl, rfl, hi, hb⟩
 refine X_seq (zR (zM ?_))
 refine zM ?_
 refine zQ slt_23 ?_
 refine zC (zN ?_)
 refine zI ?_ ?_ <;> intro hc30
 ·
  have hlt_i : i < (costsF rows xs l 64 (allS rows.length)).length := by have h := hc30; simp at h; omega
  obtain ⟨y, hy⟩ := hC.at hlt_i
  refine X_skip (at_then (X_seq (X_block (X_region (zM ?_)))))
  refine zM ?_
  refine zM ?_
  refine zV (ev_indexSl rfl rfl slt_23 (by assumption) (fun hg => by omega)) ?_
  refine zV (ev_load rfl sct_3 (fun hg => by exact Sl.get0 hC hy rfl)) ?_
  refine zV (ev_min rfl rfl) ?_
  refine zA (XO_nil (at_block_n (at_then (X_region ?_))))
  refine zM ?_
  refine zB ?_
  refine zA (XO_nil ?_)
  exact at_met2 _ _ ⟨(costsF rows xs l 64 (allS rows.length)).length - (i + 1), by omega, i + 1, _, rfl, rfl, rfl, rfl, by omega, by rw [minK_step hy, hb]⟩ (.cons rfl (.cons rfl (.cons rfl (.cons rfl .nil)))) (by repeat (first | exact .refl | exact subL_left | refine subL_app ?_ | refine .drop ?_ | refine subL_add ?_))
 have hge_i : (costsF rows xs l 64 (allS rows.length)).length ≤ i := by have h := hc30; simp at h; omega
 have hie : i = (costsF rows xs l 64 (allS rows.length)).length := by omega
 rw [hie] at hb
 have hb : b = leastF (costsF rows xs l 64 (allS rows.length)) := hb
 subst hb
 refine X_exit (at_then_e (at_then_e (at_block_hit (at_then (zR ?_)))))
 refine XO_buildSlice (ps := []) (m := []) elt_23 rfl (.nil) rfl (by simp) (by decide) (by decide) rfl rfl (fun b_39 => ?_)
 refine zA (XO_nil ?_)
 refine X_dropTo [] subL_nil ?_
 refine at_then (X_seq (zR (zA (zN (X_block ?_)))))
 refine X_loopT [(7, _), (8, _), (9, _)] (.cons rfl (.cons rfl (.cons rfl .nil))) (fun T L0 mz E I' loc' => ∃ (i : Nat) (a11 : Option Addr) (n11 : Nat) (c11 : Nat), mz = (costsF rows xs l 64 (allS rows.length)).length - i ∧ E = (11, .slice a11 n11 c11) :: (12, .int .i64 i) :: T ∧ HLe I2 I' ∧ L0 = loc' ∧ i ≤ (costsF rows xs l 64 (allS rows.length)).length ∧ Sl I' 1 encI a11 n11 c11 (refK (statesF rows l) (costsF rows xs l 64 (allS rows.length)) (leastF (costsF rows xs l 64 (allS rows.length))) i)) _ _ _ _ ⟨0, _, 0, _, rfl, rfl, HLe.refl _, rfl, Nat.zero_le _, Sl.nil⟩ (.cons rfl (.cons rfl (.cons rfl (.cons rfl (.cons rfl .nil))))) (HLe.refl _) rfl ?_
 rintro mz E J4 loc' ⟨i, a11, n11, c11, rfl, rfl, hJ, rfl, hi, h11⟩
 have hS := hS.mono hJ; have hV := hV.mono hJ; have hSt := hSt.mono hJ; have hC := hC.mono hJ; have hIc := hIc.trans hJ
 have hB2 := hJ
 refine X_seq (zR (zM ?_))
 refine zM ?_
 refine zQ slt_23 ?_
 refine zC (zN ?_)
 refine zI ?_ ?_ <;> intro hc43
 ·
  have hlt_i : i < (costsF rows xs l 64 (allS rows.length)).length := by have h := hc43; simp at h; omega
  obtain ⟨y, hy⟩ := hC.at hlt_i
  obtain ⟨x, hx⟩ := hSt.at (show i < _ by omega)
  have h11l := h11.len
  have hrk := refK_len (st := (statesF rows l)) (cs := (costsF rows xs l 64 (allS rows.length))) (b := leastF (costsF rows xs l 64 (allS rows.length))) i
  refine X_skip (at_then (X_seq (X_block (zR (zM ?_)))))
  refine zM ?_
  refine zV (ev_indexSl rfl rfl slt_23 (by assumption) (fun hg => by omega)) ?_
  refine zV (ev_load rfl sct_3 (fun hg => by exact Sl.get0 hC hy rfl)) ?_
  refine zM ?_
  refine zC (zN ?_)
  refine zI ?_ ?_ <;> intro hc51
  ·
   have heq : y = leastF (costsF rows xs l 64 (allS rows.length)) := by simpa using hc51
   refine X_region (zM ?_)
   refine zM ?_
   refine zM ?_
   refine zV (ev_indexSl rfl rfl slt_23 (by assumption) (fun hg => by omega)) ?_
   refine zV (ev_load rfl sct_3 (fun hg => by exact Sl.get0 hSt hx rfl)) ?_
   refine XO_callM (cap := []) (vs := [_, _]) rfl rfl fun_56 .nil (w_ins h11 (by omega) x) rfl rfl ?_
   rintro vv5 I5 L5 hI5 ⟨rfl, aN, cN, rfl, hN⟩
   have hS := hS.mono hI5; have hV := hV.mono hI5; have hSt := hSt.mono hI5; have hC := hC.mono hI5; have h11 := h11.mono hI5; have hIc := hIc.trans hI5; have hB2 := hB2.trans hI5
   refine zA (XO_nil (at_block_n (at_then (X_region ?_))))
   refine zM ?_
   refine zB ?_
   refine zA (XO_nil ?_)
   first
   | exact at_met2 _ _ ⟨(costsF rows xs l 64 (allS rows.length)).length - (i + 1), by omega, i + 1, _, _, _, rfl, rfl, hB2, rfl, by omega, by rw [refK_yes hx hy heq]; exact hN⟩ (.cons rfl (.cons rfl (.cons rfl (.cons rfl (.cons rfl .nil))))) (by repeat (first | exact .refl | exact subL_left | refine subL_app ?_ | refine .drop ?_ | refine subL_add ?_))
  have hne : y ≠ leastF (costsF rows xs l 64 (allS rows.length)) := by simpa using hc51
  refine X_skip (at_block_n (at_then (X_region (zM ?_))))
  refine zB ?_
  refine zA (XO_nil ?_)
  first
  | exact at_met2 _ _ ⟨(costsF rows xs l 64 (allS rows.length)).length - (i + 1), by omega, i + 1, _, _, _, rfl, rfl, hB2, rfl, by omega, by rw [refK_no hy hne]; exact h11⟩ (.cons rfl (.cons rfl (.cons rfl (.cons rfl (.cons rfl .nil))))) (by repeat (first | exact .refl | exact subL_left | refine subL_app ?_ | refine .drop ?_ | refine subL_add ?_))
 have hge_i : (costsF rows xs l 64 (allS rows.length)).length ≤ i := by have h := hc43; simp at h; omega
 obtain rfl : i = (costsF rows xs l 64 (allS rows.length)).length := by omega
 have h11l := h11.len
 subst h11l
 refine X_exit (at_then_e (at_then_e (at_block_hit (at_then (zR (zM ?_))))))
 refine zA (zN (X_ret ?_))
 exact at_ret1 rfl rfl (fun w hw => ⟨_, _, [], rfl, hIc, hw.drop, rfl, a11, c11, rfl, h11⟩)
end
section
open Go Go.Kn Go.Proofs
theorem fun_26 : Fun Tryz.prog 26 := .of Tryz.func26 (by kernel_rfl) (by kernel_rfl)
theorem fun_27 : Fun Tryz.prog 27 := .of Tryz.func27 (by kernel_rfl) (by kernel_rfl)
theorem w_rRoots {I : HMap} {av : Option Addr} {n c : Nat} {xs : List Int} (hS : Sl I 1 encI av n c xs) (hn : n ≤ 100000) {bv : Option Addr} {n2 c2 : Nat} {rows : List (List Int)} (hVn : SlN I bv n2 c2 rows) (hn2 : n2 ≤ 100000) : RetM Tryz.prog 8 [.slice bv n2 c2, .slice av n c] I [] (RootsQ rows xs) := by
 intro g H w hw
 refine enter Tryz.func8 rfl Tryz.ntmps8 rfl hw ?_
 have hIc := HLe.refl I
 have hlV := hVn.len
 subst hlV
 obtain ⟨hs, hV⟩ := id hVn
 have hH := hV.1
 refine zR (zA ?_)
 refine zA ?_
 refine zN (zR ?_)
 refine zM ?_
 refine zM ?_
 refine XO_callV0 (cap := []) (vs := [_, _]) rfl rfl fun_26 (w_rcost hS hn hVn hn2) rfl rfl ?_
 refine zM ?_
 refine zE ?_
 refine zE ?_
 refine zA ?_
 refine zA (zN (X_seq (zR ?_)))
 refine zM ?_
 refine zC (zN ?_)
 refine zI ?_ ?_ <;> intro hc17
 ·
  have hcE : costE rows xs ≠ 0 := by simpa using hc17
  refine zR (zM ?_)
  refine zA ?_
  refine zA (zN (X_ret (at_then_r ?_)))
  first
  | exact at_ret2 rfl rfl rfl (fun w hw => ⟨_, _, [], rfl, hIc, hw.drop, rfl, none, 0, by rw [roots_bad hcE]; rfl, by rw [roots_bad hcE]; exact .none⟩)
 have hcE : costE rows xs = 0 := by simpa using hc17
 have hr0 := cost_rows hcE
 have hc0 : chkN rows.length xs = 0 := by have h := hcE; unfold costE at h; rw [if_neg (by omega)] at h; exact h
 obtain ⟨hr1, hr6, hr64, hrr⟩ := rows_ok hr0
 obtain ⟨x0, v0, hx0, hv0, hQ0⟩ := hV.at (k := 0) (by omega)
 have hx0l := hQ0.len
 have hg0 : rows.getD 0 [] = v0 := getD_of hv0
 rw [hg0] at hr64 hrr
 refine X_skip (at_then (zR ?_))
 refine XO_buildSlice (ps := []) (m := []) elt_22 rfl (.nil) rfl (by simp) (by decide) (by decide) rfl rfl (fun b_19 => ?_)
 refine zA (zN (X_seq (zR ?_)))
 refine zA (zN (X_block ?_))
 refine X_loopT [(0, _), (1, _)] (.cons rfl (.cons rfl .nil)) (fun T L0 mz E I' loc' => ∃ (k : Nat) (v8 : Value) (os : List Hd) (L : Go.Kn.Loc), mz = x0.n - k ∧ E = (8, v8) :: (9, .int .i64 k) :: T ∧ HLe I I' ∧ L = loc' ∧ k ≤ x0.n ∧ OwnS 23 1 v8 k (os.flatMap encH) L ∧ RelH I' os ((List.range k).map (rootF rows xs))) _ _ _ _ ⟨0, _, [], [(b_19, _)], rfl, rfl, HLe.refl _, rfl, Nat.zero_le _, OwnS.new, RelH.nil⟩ (.cons rfl (.cons rfl (.cons rfl (.cons rfl .nil)))) (HLe.refl _) rfl ?_
 rintro mz E J1 loc' ⟨k, v8, os, L, rfl, rfl, hJ, rfl, hk, hO8, hre⟩
 have hS := hS.mono hJ; have hVn := hVn.mono hJ; have hV := hV.mono hJ; have hH := hH.mono hJ; have hIc := hIc.trans hJ
 have hB0 := hJ
 obtain ⟨va8, vc8, rfl⟩ := valn hO8
 refine X_seq (zR (zM ?_))
 refine zM ?_
 refine zV (zX slt_22 hH) ?_
 refine zV (ev_load rfl sct_23 (fun hg => by exact Sl.get0 (k := 0) hH hx0 rfl)) ?_
 refine zQ slt_23 ?_
 refine zC (zN ?_)
 refine zI ?_ ?_ <;> intro hc25
 ·
  have hlt_k : k < x0.n := by have h := hc25; simp at h; omega
  refine X_skip (at_then (X_seq (X_block (X_region (zM ?_)))))
  refine zM ?_
  refine zM ?_
  refine zM ?_
  refine XO_callM (cap := []) (vs := [_, _, _]) rfl rfl fun_27 .nil (w_rroots hS hn hVn hn2 k (fun r hr => by rw [(hrr r hr).1]; omega) hc0) rfl rfl ?_
  rintro vv2 I2 L2 hI2 ⟨rfl, aR, cR, rfl, hR⟩
  have hS := hS.mono hI2; have hVn := hVn.mono hI2; have hV := hV.mono hI2; have hH := hH.mono hI2; have hre := hre.mono hI2; have hIc := hIc.trans hI2; have hB0 := hB0.trans hI2
  rw [refRt_eq hr0 hc0] at hR ⊢
  refine XO_buildSlice (ps := [(0, _)]) (m := [encH ⟨aR, (rootF rows xs k).length, cR⟩]) elt_22 rfl (.cons rfl (.nil)) rfl (by simp [encH_len]) (by decide) (by decide) rfl rfl (fun b_33 => ?_)
  refine XO_append (v := _) (ys := [(⟨aR, (rootF rows xs k).length, cR⟩ : Hd)].flatMap encH) (L := L) rfl rfl elt_22 hO8 (by repeat (first | exact .cons .here .nil | exact split_all | exact split_app | apply split_cons | apply split_skip)) ⟨rfl, fun _ => rfl, by repeat (first | exact Cells.here | apply Cells.there | apply Cells.app)⟩ (one_H _) (by omega) rfl rfl ?_
  intro v9 L9 hO9 _; rw [← List.flatMap_append] at hO9
  refine zA (XO_nil (at_block_n (at_then (X_region ?_))))
  refine zM ?_
  refine zB ?_
  refine zA (XO_nil ?_)
  exact at_met2 _ _ ⟨x0.n - (k + 1), by omega, k + 1, _, _, _, rfl, rfl, hB0, rfl, by omega, hO9, by rw [range_map]; exact hre.snoc (hd := ⟨aR, (rootF rows xs k).length, cR⟩) hR⟩ (.cons rfl (.cons rfl (.cons rfl (.cons rfl .nil)))) (by repeat (first | exact .refl | exact subL_left | refine subL_app ?_ | refine .drop ?_ | refine subL_add ?_))
 have hge_k : x0.n ≤ k := by have h := hc25; simp at h; omega
 obtain rfl : k = x0.n := by omega
 refine X_exit (at_then_e (at_then_e (at_block_hit (at_then (zR (zM ?_))))))
 refine zA ?_
 refine zA (zN (X_ret ?_))
 first
 | exact at_ret2 rfl rfl rfl (fun w hw => by obtain ⟨I9, av9, c9, h1', h2', e9, h4'⟩ := OwnS.freeze (R := []) hO8 encH_len (by decide) (by rw [List.append_nil]; exact hw); cases e9; exact ⟨_, I9, [], rfl, hIc.trans h1', h2', rfl, va8, vc8, by rw [roots_ok hcE, List.length_map, List.length_range, hg0, hx0l, hcE], by rw [roots_ok hcE, List.length_map, List.length_range, hg0, hx0l]; exact ⟨os, h4', hre.mono h1'⟩⟩)
end
section
open Go Go.Kn Go.Proofs
theorem pack_all : ∀ (ds : List Dg) (c : Int), (packG c ds).isSome = ds.all fun d => !badD d
 | [], _ => rfl
 | d :: ds, c => by
  rw [List.all_cons]
  show (if badD d = true then none else packG (putD c d) ds).isSome = _
  cases h : badD d
  ·
   rw [if_neg (by simp), pack_all ds]; rfl
  ·
   rw [if_pos rfl]; rfl
def inR (x : Sg) : Bool := !((((((!within x.role 0 63 || !within x.kind 1 9) || !within x.side 0 2) || !within x.dir 0 8) || !within x.level 0 3) || !within x.size 0 255) || !within x.wth 0 64)
theorem bad_within (n lo hi b : Int) : (!badD ⟨n, lo, hi, b⟩) = within n lo hi := by
 unfold badD within
 rw [Bool.eq_iff_iff]; simp
theorem code_inR (x : Sg) : (packG 0 (dgs x)).isSome = inR x := by
 rw [pack_all]
 unfold dgs inR
 simp only [List.all_cons, List.all_nil, bad_within]
 cases within x.role 0 63 <;> cases within x.kind 1 9 <;> cases within x.side 0 2 <;> cases within x.dir 0 8 <;> cases within x.level 0 3 <;> cases within x.size 0 255 <;> cases within x.wth 0 64 <;> rfl
def rcodeV (x : Sg) : Int := (((((x.role * 16 + x.kind) * 4 + x.side) * 16 + x.dir) * 4 + x.level) * 256 + x.size) * 128 + x.wth
theorem rcode_yes {x : Sg} (h : inR x = true) : codeF x = rcodeV x ∧ codeE x = 0 := by
 obtain ⟨r, k, s, d, l, z, w, hd, e⟩ := dig_of (by rw [code_inR]; exact h)
 obtain ⟨h1, h2⟩ := dig_code hd e
 refine ⟨?_, h2⟩
 obtain ⟨e1, e2, e3, e4, e5, e6, e7⟩ := e
 rw [h1]; unfold rcodeV codeN
 rw [e1, e2, e3, e4, e5, e6, e7]
 omega
theorem rcode_no {x : Sg} (h : inR x = false) : codeF x = 0 ∧ codeE x = 410 := code_no (by rw [code_inR]; exact h)
theorem inR_in {x : Sg} (h : inR x = true) : (0 ≤ x.role ∧ x.role ≤ 63) ∧ (1 ≤ x.kind ∧ x.kind ≤ 9) ∧ (0 ≤ x.side ∧ x.side ≤ 2) ∧ (0 ≤ x.dir ∧ x.dir ≤ 8) ∧ (0 ≤ x.level ∧ x.level ≤ 3) ∧ (0 ≤ x.size ∧ x.size ≤ 255) ∧ (0 ≤ x.wth ∧ x.wth ≤ 64) := by
 unfold inR within at h
 simp only [Bool.not_eq_true', Bool.or_eq_false_iff, Bool.not_eq_false', Bool.and_eq_true, decide_eq_true_eq] at h
 omega
def rawT (c : Int) : Sg := ⟨0, IntKind.i64.wrap (c.tdiv 134217728), 0, 0, (IntKind.i64.wrap (c.tdiv 8388608)).tmod 16, (IntKind.i64.wrap (c.tdiv 2097152)).tmod 4, (IntKind.i64.wrap (c.tdiv 131072)).tmod 16, (IntKind.i64.wrap (c.tdiv 32768)).tmod 4, (IntKind.i64.wrap (c.tdiv 128)).tmod 256, c.tmod 128, 0, 0, 0, 0⟩
theorem quo_nat {c d : Nat} (hc : c < 8589934592) : IntKind.i64.wrap ((c : Int).tdiv (d : Int)) = ((c / d : Nat) : Int) := by
 have h : (c : Int).tdiv (d : Int) = ((c / d : Nat) : Int) := by rw [Int.tdiv_eq_ediv_of_nonneg (by omega)]; rfl
 rw [h, wrap_id]
 have := Nat.div_le_self c d
 generalize c / d = q at *
 omega
theorem rem_nat {c d : Nat} : ((c : Int).tmod (d : Int)) = ((c % d : Nat) : Int) := by rw [Int.tmod_eq_emod_of_nonneg (by omega)]; rfl
theorem rawT_eq {c : Int} (h0 : 0 ≤ c) (h : c < 8589934592) : rawT c = rawS c := by
 obtain ⟨n, rfl⟩ : ∃ n : Nat, c = n := ⟨c.toNat, by omega⟩
 have hn : n < 8589934592 := by omega
 rw [rawS_nat n (by omega)]
 unfold rawT
 have q := fun d : Nat => quo_nat (d := d) hn
 have g := fun d m : Nat => show (IntKind.i64.wrap ((n : Int).tdiv (d : Int))).tmod (m : Int) = ((n / d % m : Nat) : Int) by rw [q d, rem_nat]
 rw [show IntKind.i64.wrap ((n : Int).tdiv 134217728) = _ from q 134217728, show (IntKind.i64.wrap ((n : Int).tdiv 8388608)).tmod 16 = _ from g 8388608 16, show (IntKind.i64.wrap ((n : Int).tdiv 2097152)).tmod 4 = _ from g 2097152 4,
  show (IntKind.i64.wrap ((n : Int).tdiv 131072)).tmod 16 = _ from g 131072 16, show (IntKind.i64.wrap ((n : Int).tdiv 32768)).tmod 4 = _ from g 32768 4, show (IntKind.i64.wrap ((n : Int).tdiv 128)).tmod 256 = _ from g 128 256, show (n : Int).tmod 128 = _ from rem_nat (c := n) (d := 128)]
 simp only [Nat.div_div_eq_div_mul]
theorem rsign_out {c : Int} (h : c < 0 ∨ 8589934592 ≤ c) : signE c = 410 ∧ signF c = zeroS := by
 have hne : signE c ≠ 0 := fun e => by have := code_sign e; omega
 refine ⟨?_, by unfold signF; rw [if_pos hne]⟩
 unfold signE codeE at *
 split
 ·
  rename_i h2; rw [if_pos h2] at hne; exact absurd rfl hne
 ·
  rfl
theorem rsign_bad {c : Int} (h0 : 0 ≤ c) (h : c < 8589934592) (hb : codeE (rawT c) ≠ 0) : signE c = codeE (rawT c) ∧ signF c = zeroS := by
 rw [rawT_eq h0 h] at hb ⊢
 exact ⟨rfl, by unfold signF; rw [if_pos (show signE c ≠ 0 from hb)]⟩
theorem rsign_ok {c : Int} (h0 : 0 ≤ c) (h : c < 8589934592) (hb : codeE (rawT c) = 0) : signE c = 0 ∧ signF c = rawT c := by
 rw [rawT_eq h0 h] at hb ⊢
 exact ⟨hb, by unfold signF; rw [if_neg (by rw [show signE c = 0 from hb]; decide)]⟩
theorem Cells.tl {I : HMap} {loc : Go.Kn.Loc} {b off : Nat} {u : Value} {vs : List Value} (h : Cells I loc b off (u :: vs)) : Cells I loc b (off + 1) vs := fun j v hv => by
 have := h (j + 1) v hv
 rwa [show off + (j + 1) = off + 1 + j by omega] at this
theorem rbad {no yr l pv : Int} {k : Nat} (h : k = 0 ∧ l = 0 ∨ 0 < k ∧ 1 ≤ l ∧ pv = l) : ((!within no 1 1048576 || (decide ((k : Int) > 0) && decide (no ≤ pv))) || !within yr 0 3000) = (((decide (no ≤ l) || decide (no > 1048576)) || decide (yr < 0)) || decide (yr > 3000)) := by
 unfold within
 rw [Bool.eq_iff_iff]
 simp only [Bool.or_eq_true, Bool.not_eq_true', Bool.and_eq_true, Bool.and_eq_false_iff, decide_eq_true_eq, decide_eq_false_iff_not]
 omega
theorem chkG_one (x : Sg) : (chkG [x] != 0) = !frm x := by
 unfold chkG skB skP
 cases h : frm x <;> simp [h]
theorem rrd_l {r : Rd} (h : r.lost = true) : sgEq r.sg zeroG = !badR r := by rw [badR_l h _ rfl]; simp
theorem rrd_f {r : Rd} (h : r.lost = false) : (frm r.sg && (r.sg.id == 0)) = !badR r := by
 cases hi : (r.sg.id != 0)
 ·
  rw [badR_c h hi, chkG_one]
  have : (r.sg.id == 0) = true := by simpa using hi
  rw [this]; cases frm r.sg <;> rfl
 ·
  rw [badR_i h hi]
  have : (r.sg.id == 0) = false := by simpa using hi
  rw [this]; cases frm r.sg <;> rfl
theorem badW_lt {l : Int} {x : Wr} (h : badW l x = false) : l < x.no := by
 unfold badW at h; simp only [Bool.or_eq_false_iff, decide_eq_false_iff_not] at h; omega
def zWt : Wt := ⟨0, 0, none, 0, 0⟩
end
section
open Go Go.Kn Go.Proofs
theorem gcd_step {a b a0 b0 : Nat} (h : Nat.gcd a b = Nat.gcd a0 b0) : Nat.gcd b (a % b) = Nat.gcd a0 b0 :=
 (Nat.gcd_comm b (a % b)).trans ((Nat.gcd_rec b a).symm.trans ((Nat.gcd_comm b a).trans h))
theorem gcdI_nat {a b : Int} (ha : 0 ≤ a) (hb : 0 ≤ b) : ((Nat.gcd a.toNat b.toNat : Nat) : Int) = gcdI a b := by
 unfold gcdI Int.gcd
 congr 2 <;> omega
theorem gcdI_mag (n d : Int) : gcdI (magI n) d = gcdI n d := by
 unfold gcdI Int.gcd
 have : (magI n).natAbs = n.natAbs := by unfold magI; split <;> omega
 rw [this]
theorem magI_in {n : Int} (h : -1073741824 ≤ n ∧ n ≤ 1073741824) : 0 ≤ magI n ∧ magI n ≤ 1073741824 := by unfold magI; split <;> omega
theorem valid_eq (n d : Int) : (((((decide (d ≥ 1) && decide (d ≤ 1073741824)) && decide (n ≥ -1073741824)) && decide (n ≤ 1073741824)) && (gcdI (magI n) d == 1))) = ratF n d := by
 unfold ratF
 rw [gcdI_mag, Bool.eq_iff_iff]
 simp only [Bool.and_eq_true, decide_eq_true_eq, beq_iff_eq, Bool.not_eq_true', Bool.or_eq_false_iff, decide_eq_false_iff_not, bne_eq_false_iff_eq]
 omega
theorem spanR_eq (fn fd tn td : Int) : ((((ratF fn fd && ratF tn td) && decide (fn ≥ 0)) && decide (fn * td < tn * fd)) && decide (tn ≤ td)) = spanF fn fd tn td := by
 unfold spanF
 generalize (ratF fn fd && ratF tn td) = a
 generalize decide (fn ≥ 0) = b
 generalize decide (fn * td < tn * fd) = c
 generalize decide (tn ≤ td) = d
 cases a <;> cases b <;> cases c <;> cases d <;> rfl
def frA (x : Sg) : Bool := (((!within x.id 0 1048576 || !within x.role 0 63) || !within x.bar 0 4095) || !within x.kind 1 9) || !within x.mark 1 3
def frB (x : Sg) : Bool := (((!within x.side 0 2 || !within x.dir 0 8) || !within x.level 0 3) || !within x.size 0 255) || !within x.wth 0 64
theorem frm_ab (x : Sg) : frm x = ((!frA x && !frB x) && spanF x.fn x.fd x.tn x.td) := by
 unfold frm frmL frA frB
 generalize within x.id 0 1048576 = b1
 generalize within x.role 0 63 = b2
 generalize within x.bar 0 4095 = b3
 generalize within x.kind 1 9 = b4
 generalize within x.mark 1 3 = b5
 generalize within x.side 0 2 = b6
 generalize within x.dir 0 8 = b7
 generalize within x.level 0 3 = b8
 generalize within x.size 0 255 = b9
 generalize within x.wth 0 64 = b10
 cases b1 <;> cases b2 <;> cases b3 <;> cases b4 <;> cases b5 <;> first | rfl | (cases b6 <;> cases b7 <;> cases b8 <;> cases b9 <;> cases b10 <;> rfl)
theorem frm_a {x : Sg} (h : frA x = true) : frm x = false := by rw [frm_ab, h]; rfl
theorem frm_b {x : Sg} (h : frB x = true) : frm x = false := by rw [frm_ab, h]; simp
theorem frm_c {x : Sg} (h : frA x = false) (h2 : frB x = false) : frm x = spanF x.fn x.fd x.tn x.td := by rw [frm_ab, h, h2]; rfl
end
section
open Go Go.Kn Go.Proofs
theorem fun_101 : Fun Tryz.prog 101 := .of Tryz.func101 (by kernel_rfl) (by kernel_rfl)
theorem fun_121 : Fun Tryz.prog 121 := .of Tryz.func121 (by kernel_rfl) (by kernel_rfl)
theorem fun_122 : Fun Tryz.prog 122 := .of Tryz.func122 (by kernel_rfl) (by kernel_rfl)
theorem fun_131 : Fun Tryz.prog 131 := .of Tryz.func131 (by kernel_rfl) (by kernel_rfl)
theorem fun_132 : Fun Tryz.prog 132 := .of Tryz.func132 (by kernel_rfl) (by kernel_rfl)
theorem fun_135 : Fun Tryz.prog 135 := .of Tryz.func135 (by kernel_rfl) (by kernel_rfl)
theorem fun_136 : Fun Tryz.prog 136 := .of Tryz.func136 (by kernel_rfl) (by kernel_rfl)
theorem fun_139 : Fun Tryz.prog 139 := .of Tryz.func139 (by kernel_rfl) (by kernel_rfl)
theorem fun_142 : Fun Tryz.prog 142 := .of Tryz.func142 (by kernel_rfl) (by kernel_rfl)
theorem fun_143 : Fun Tryz.prog 143 := .of Tryz.func143 (by kernel_rfl) (by kernel_rfl)
theorem fun_69 : Fun Tryz.prog 69 := .of Tryz.func69 (by kernel_rfl) (by kernel_rfl)
theorem fun_99 : Fun Tryz.prog 99 := .of Tryz.func99 (by kernel_rfl) (by kernel_rfl)
theorem r_div (I : HMap) (a0 b0 : Nat) (ha : a0 ≤ 1073741824) (hb : b0 ≤ 1073741824) : RetV Tryz.prog 142 [.int .i64 a0, .int .i64 b0] I (.int .i64 (Nat.gcd a0 b0 : Nat)) := by
 intro g H w hw
 refine enter Tryz.func142 rfl Tryz.ntmps142 rfl hw ?_
 refine zR (zA (zN (X_seq (X_block ?_))))
 refine X_loopT [] .nil (fun T L0 mz E I' loc' => ∃ (a b : Nat), mz = (b + 1) ∧ E = (0, .int .i64 a) :: (1, .int .i64 b) :: T ∧ I = I' ∧ L0 = loc' ∧ Nat.gcd a b = Nat.gcd a0 b0) _ _ _ _ ⟨a0, b0, rfl, rfl, rfl, rfl, rfl⟩ (.cons rfl (.cons rfl .nil)) (HLe.refl _) rfl ?_
 rintro mz E I' loc' ⟨a, b, rfl, rfl, rfl, rfl, hgc⟩
 refine X_seq (zR (zM ?_))
 refine zC (zN ?_)
 refine zI ?_ ?_ <;> intro hc7
 ·
  have hbp : 0 < b := by have h := hc7; simp at h; omega
  refine X_skip (at_then (X_block (zR (zM ?_))))
  refine zM ?_
  refine zV (ev_rem rfl rfl (fun hg => by omega)) ?_
  rw [tmod_nat]
  refine zA ?_
  refine zN (zR ?_)
  refine zM ?_
  refine zA (zN (X_region ?_))
  refine zM ?_
  refine zA (XO_nil (at_block_n ?_))
  exact at_met2 _ _ ⟨a % b + 1, Nat.succ_lt_succ (Nat.mod_lt _ hbp), b, a % b, rfl, rfl, rfl, rfl, gcd_step hgc⟩ (.cons rfl (.cons rfl .nil)) (by repeat (first | exact .refl | exact subL_left | refine subL_app ?_ | refine .drop ?_ | refine subL_add ?_))
 have hb0 : b = 0 := by have h := hc7; simp at h; omega
 refine X_exit (at_then_e (at_then_e (at_block_hit (at_then (zR (zM ?_))))))
 refine zA (zN (X_ret ?_))
 exact at_ret1 rfl rfl (fun w hw => ⟨by rw [← hgc, hb0, Nat.gcd_zero_right], hw.drop⟩)
theorem r_divI (I : HMap) (a b : Int) (ha : 0 ≤ a ∧ a ≤ 1073741824) (hb : 0 ≤ b ∧ b ≤ 1073741824) : RetV Tryz.prog 142 [.int .i64 a, .int .i64 b] I (.int .i64 (gcdI a b)) := by
 have h := r_div I a.toNat b.toNat (by omega) (by omega)
 rw [Int.toNat_of_nonneg ha.1, Int.toNat_of_nonneg hb.1, gcdI_nat ha.1 hb.1] at h
 exact h
theorem r_size (I : HMap) (n : Int) (hn : -1073741824 ≤ n ∧ n ≤ 1073741824) : RetV Tryz.prog 143 [.int .i64 n] I (.int .i64 (magI n)) := by
 intro g H w hw
 refine enter Tryz.func143 rfl Tryz.ntmps143 rfl hw ?_
 refine zR (zA (zN (X_seq (zR ?_))))
 refine zM ?_
 refine zC (zN ?_)
 refine zI ?_ ?_ <;> intro hc4
 ·
  refine zR (zM ?_)
  refine zV (ev_neg rfl) ?_
  refine zA (zN (X_ret (at_then_r ?_)))
  first
  | exact at_ret1 rfl rfl (fun w hw => ⟨by unfold magI; rw [if_pos (by simpa using hc4), wrap_in (by omega)], hw.drop⟩)
 refine X_skip (at_then (zR (zM ?_)))
 refine zA (zN (X_ret ?_))
 first
 | exact at_ret1 rfl rfl (fun w hw => ⟨by unfold magI; rw [if_neg (by simpa using hc4)], hw.drop⟩)
theorem r_valid (I : HMap) (n d : Int) : RetV Tryz.prog 139 [encRA (n) (d)] I (.bool (ratF n d)) := by
 intro g H w hw
 refine enter Tryz.func139 rfl Tryz.ntmps139 rfl hw ?_
 refine zR ?_
 refine XO_box rfl rfl rfl (fun b_1 => ?_)
 refine zA (zN (X_seq ?_))
 refine X_draw mixed (by kernel_rfl) ?_
 refine XQ_v0 (ev_fieldAddr rfl fld_46_1) rfl rfl rfl ?_
 refine XQ_v0 (ev_load rfl sct_3 (fun hg => by exact Cell.h0 rfl)) rfl rfl rfl ?_
 refine XQ_v0 (ev_cmp rfl rfl rfl) rfl rfl rfl ?_
 refine XQ_v0 (ev_move rfl) rfl rfl rfl ?_
 refine XQ_pushT 3 rfl rfl rfl ?_
 refine XQ_v1 (ev_fieldAddr rfl fld_46_1) (.some rfl rfl rfl rfl gbt) rfl rfl rfl ?_
 refine XQ_v1 (ev_load rfl sct_3 (fun hg => by exact Cell.h0 rfl)) (.some rfl rfl rfl rfl gbt) rfl rfl rfl ?_
 refine XQ_v1 (ev_cmp rfl rfl rfl) (.some rfl rfl rfl rfl gbt) rfl rfl rfl ?_
 refine XQ_and0 rfl rfl rfl rfl rfl ?_
 refine XQ_v0 (ev_move rfl) rfl rfl rfl ?_
 refine XQ_pushT 8 rfl rfl rfl ?_
 refine XQ_v1 (ev_fieldAddr rfl fld_46_0) (.some rfl rfl rfl rfl gbt) rfl rfl rfl ?_
 refine XQ_v1 (ev_load rfl sct_3 (fun hg => by exact Cell.h0 rfl)) (.some rfl rfl rfl rfl gbt) rfl rfl rfl ?_
 refine XQ_v1 (ev_cmp rfl rfl rfl) (.some rfl rfl rfl rfl gbt) rfl rfl rfl ?_
 refine XQ_and0 rfl rfl rfl rfl rfl ?_
 refine XQ_v0 (ev_move rfl) rfl rfl rfl ?_
 refine XQ_pushT 13 rfl rfl rfl ?_
 refine XQ_v1 (ev_fieldAddr rfl fld_46_0) (.some rfl rfl rfl rfl gbt) rfl rfl rfl ?_
 refine XQ_v1 (ev_load rfl sct_3 (fun hg => by exact Cell.h0 rfl)) (.some rfl rfl rfl rfl gbt) rfl rfl rfl ?_
 refine XQ_v1 (ev_cmp rfl rfl rfl) (.some rfl rfl rfl rfl gbt) rfl rfl rfl ?_
 refine XQ_and0 rfl rfl rfl rfl rfl ?_
 refine XQ_v0 (ev_move rfl) rfl rfl rfl ?_
 refine XQ_pushT 18 rfl rfl rfl ?_
 refine XQ_v1 (ev_fieldAddr rfl fld_46_0) (.some rfl rfl rfl rfl gbt) rfl rfl rfl ?_
 refine XQ_v1 (ev_load rfl sct_3 (fun hg => by exact Cell.h0 rfl)) (.some rfl rfl rfl rfl gbt) rfl rfl rfl ?_
 refine XQ_callV1 (cap := []) (vs := [_]) rfl rfl fun_143 (fun hg => r_size I n (by simp [conj] at hg; omega)) (.some rfl rfl rfl rfl gbt) rfl rfl ?_
 refine XQ_v1 (ev_fieldAddr rfl fld_46_1) (.some rfl rfl rfl rfl gbt) rfl rfl rfl ?_
 refine XQ_v1 (ev_load rfl sct_3 (fun hg => by exact Cell.h0 rfl)) (.some rfl rfl rfl rfl gbt) rfl rfl rfl ?_
 refine XQ_callV1 (cap := []) (vs := [_, _]) rfl rfl fun_142 (fun hg => r_divI I _ d (magI_in (by simp [conj] at hg; omega)) (by simp [conj] at hg; omega)) (.some rfl rfl rfl rfl gbt) rfl rfl ?_
 refine XQ_v1 (ev_cmp rfl rfl rfl) (.some rfl rfl rfl rfl gbt) rfl rfl rfl ?_
 refine XQ_and0 rfl rfl rfl rfl rfl ?_
 refine XQ_v0 (ev_assign rfl) rfl rfl rfl ?_
 refine XQ_nil ?_
 refine at_then (X_ret ?_)
 exact at_ret1 rfl rfl (fun w hw => ⟨by rw [← valid_eq], hw.drop⟩)
theorem r_both (I : HMap) (an ad bn bd : Int) : RetV Tryz.prog 135 [encRA (an) (ad), encRA (bn) (bd)] I (.bool (ratF an ad && ratF bn bd)) := by
 intro g H w hw
 refine enter Tryz.func135 rfl Tryz.ntmps135 rfl hw ?_
 refine zR ?_
 refine XO_box rfl rfl rfl (fun b_2 => ?_)
 refine XO_box rfl rfl rfl (fun b_3 => ?_)
 refine zA ?_
 refine zN (zR ?_)
 refine zV (ev_loadA rfl agt_46 (fun hg => by exact Cells.g1) rfl) ?_
 refine XO_callV0 (cap := []) (vs := [_]) rfl rfl fun_139 (r_valid I _ _) rfl rfl ?_
 refine zM ?_
 refine XO_pushT 2 rfl rfl rfl ?_
 refine zK (ev_loadA rfl agt_46 (fun hg => by exact Cells.g0) rfl) ?_
 refine XO_callV1 (cap := []) (vs := [_]) rfl rfl fun_139 (fun hg => r_valid I _ _) (.some rfl rfl rfl rfl gbt) rfl rfl ?_
 refine XO_and0 rfl rfl rfl rfl rfl ?_
 refine zA (zN (X_ret ?_))
 exact at_ret1 rfl rfl (fun w hw => ⟨by rfl, hw.drop⟩)
theorem r_less (I : HMap) (an ad bn bd : Int) (ha : ratF an ad = true) (hb : ratF bn bd = true) : RetV Tryz.prog 136 [encRA (an) (ad), encRA (bn) (bd)] I (.bool (decide (an * bd < bn * ad))) := by
 intro g H w hw
 refine enter Tryz.func136 rfl Tryz.ntmps136 rfl hw ?_
 have ⟨ha1, ha2⟩ := ratF_in ha
 have ⟨hb1, hb2⟩ := ratF_in hb
 refine zR ?_
 refine XO_box rfl rfl rfl (fun b_2 => ?_)
 refine XO_box rfl rfl rfl (fun b_3 => ?_)
 refine zA ?_
 refine zN (zR ?_)
 refine zF fld_46_0 ?_
 refine zV (ev_load rfl sct_3 (fun hg => by exact Cell.h1 rfl)) ?_
 refine zF fld_46_1 ?_
 refine zV (ev_load rfl sct_3 (fun hg => by exact Cell.h0 rfl)) ?_
 refine zV (ev_arB rfl rfl rfl (fun _ => by exact mul_b (by omega) (by omega))) ?_
 refine zF fld_46_0 ?_
 refine zV (ev_load rfl sct_3 (fun hg => by exact Cell.h0 rfl)) ?_
 refine zF fld_46_1 ?_
 refine zV (ev_load rfl sct_3 (fun hg => by exact Cell.h1 rfl)) ?_
 refine zV (ev_arB rfl rfl rfl (fun _ => by exact mul_b (by omega) (by omega))) ?_
 refine zC ?_
 refine zA (zN (X_ret ?_))
 exact at_ret1 rfl rfl (fun w hw => ⟨by rfl, hw.drop⟩)
theorem r_within (I : HMap) (n lo hi : Int) : RetV Tryz.prog 131 [.int .i64 n, .int .i64 lo, .int .i64 hi] I (.bool (within n lo hi)) := by
 intro g H w hw
 refine enter Tryz.func131 rfl Tryz.ntmps131 rfl hw ?_
 refine zR (zA ?_)
 refine zN (zR ?_)
 refine zM ?_
 refine zM ?_
 refine zC ?_
 refine zM ?_
 refine XO_pushT 3 rfl rfl rfl ?_
 refine zK (ev_move rfl) ?_
 refine zK (ev_move rfl) ?_
 refine zK (ev_cmp rfl rfl rfl) ?_
 refine XO_and0 rfl rfl rfl rfl rfl ?_
 refine zA (zN (X_ret ?_))
 exact at_ret1 rfl rfl (fun w hw => ⟨by rfl, hw.drop⟩)
theorem r_span (I : HMap) (an ad bn bd : Int) : RetV Tryz.prog 132 [encRA (an) (ad), encRA (bn) (bd)] I (.bool (spanF an ad bn bd)) := by
 intro g H w hw
 refine enter Tryz.func132 rfl Tryz.ntmps132 rfl hw ?_
 refine zR ?_
 refine XO_box rfl rfl rfl (fun b_2 => ?_)
 refine XO_box rfl rfl rfl (fun b_3 => ?_)
 refine zA ?_
 refine zN (zR ?_)
 refine zV (ev_loadA rfl agt_46 (fun hg => by exact Cells.g1) rfl) ?_
 refine zV (ev_loadA rfl agt_46 (fun hg => by exact Cells.g0) rfl) ?_
 refine XO_callV0 (cap := []) (vs := [_, _]) rfl rfl fun_135 (r_both I _ _ _ _) rfl rfl ?_
 refine zA ?_
 refine zN (zR ?_)
 refine zM ?_
 refine zM ?_
 refine XO_pushT 1 rfl rfl rfl ?_
 refine zK (ev_fieldAddr rfl fld_46_0) ?_
 refine zK (ev_load rfl sct_3 (fun hg => by exact Cell.h1 rfl)) ?_
 refine zK (ev_cmp rfl rfl rfl) ?_
 refine XO_and0 rfl rfl rfl rfl rfl ?_
 refine zM ?_
 refine XO_pushT 6 rfl rfl rfl ?_
 refine zK (ev_loadA rfl agt_46 (fun hg => by exact Cells.g1) rfl) ?_
 refine zK (ev_loadA rfl agt_46 (fun hg => by exact Cells.g0) rfl) ?_
 refine XO_callV1 (cap := []) (vs := [_, _]) rfl rfl fun_136 (fun hg => r_less I _ _ _ _ (by simp [conj] at hg; exact hg.1.1) (by simp [conj] at hg; exact hg.1.2)) (.some rfl rfl rfl rfl gbt) rfl rfl ?_
 refine XO_and0 rfl rfl rfl rfl rfl ?_
 refine zM ?_
 refine XO_pushT 11 rfl rfl rfl ?_
 refine zK (ev_fieldAddr rfl fld_46_0) ?_
 refine zK (ev_load rfl sct_3 (fun hg => by exact Cell.h0 rfl)) ?_
 refine zK (ev_fieldAddr rfl fld_46_1) ?_
 refine zK (ev_load rfl sct_3 (fun hg => by exact Cell.h0 rfl)) ?_
 refine zK (ev_cmp rfl rfl rfl) ?_
 refine XO_and0 rfl rfl rfl rfl rfl ?_
 refine zA (zN (X_ret ?_))
 exact at_ret1 rfl rfl (fun w hw => ⟨by rw [← spanR_eq], hw.drop⟩)
theorem r_frm (I : HMap) (x : Sg) : RetV Tryz.prog 121 [encGA x] I (.bool (frm x)) := by
 intro g H w hw
 refine enter Tryz.func121 rfl Tryz.ntmps121 rfl hw ?_
 refine zR ?_
 refine XO_box rfl rfl rfl (fun b_1 => ?_)
 refine zA (zN (X_seq (zR ?_)))
 refine zF fld_48_0 ?_
 refine zV (ev_load rfl sct_3 (fun hg => by exact Cell.h0 rfl)) ?_
 refine XO_callV0 (cap := []) (vs := [_, _, _]) rfl rfl fun_131 (r_within I _ _ _) rfl rfl ?_
 refine zO ?_
 refine zM ?_
 refine XO_pushF 4 rfl rfl rfl ?_
 refine zJ (ev_fieldAddr rfl fld_48_1) ?_
 refine zJ (ev_load rfl sct_3 (fun hg => by exact Cell.h0 rfl)) ?_
 refine XO_callV1 (cap := []) (vs := [_, _, _]) rfl rfl fun_131 (fun hg => r_within I _ _ _) (.some rfl rfl rfl rfl gbf) rfl rfl ?_
 refine zJ (ev_not rfl) ?_
 refine XO_or0 rfl rfl rfl rfl rfl ?_
 refine zM ?_
 refine XO_pushF 10 rfl rfl rfl ?_
 refine zJ (ev_fieldAddr rfl fld_48_2) ?_
 refine zJ (ev_load rfl sct_3 (fun hg => by exact Cell.h0 rfl)) ?_
 refine XO_callV1 (cap := []) (vs := [_, _, _]) rfl rfl fun_131 (fun hg => r_within I _ _ _) (.some rfl rfl rfl rfl gbf) rfl rfl ?_
 refine zJ (ev_not rfl) ?_
 refine XO_or0 rfl rfl rfl rfl rfl ?_
 refine zM ?_
 refine XO_pushF 16 rfl rfl rfl ?_
 refine zJ (ev_fieldAddr rfl fld_48_4) ?_
 refine zJ (ev_load rfl sct_3 (fun hg => by exact Cell.h0 rfl)) ?_
 refine XO_callV1 (cap := []) (vs := [_, _, _]) rfl rfl fun_131 (fun hg => r_within I _ _ _) (.some rfl rfl rfl rfl gbf) rfl rfl ?_
 refine zJ (ev_not rfl) ?_
 refine XO_or0 rfl rfl rfl rfl rfl ?_
 refine zM ?_
 refine XO_pushF 22 rfl rfl rfl ?_
 refine zJ (ev_fieldAddr rfl fld_48_3) ?_
 refine zJ (ev_load rfl sct_3 (fun hg => by exact Cell.h0 rfl)) ?_
 refine XO_callV1 (cap := []) (vs := [_, _, _]) rfl rfl fun_131 (fun hg => r_within I _ _ _) (.some rfl rfl rfl rfl gbf) rfl rfl ?_
 refine zJ (ev_not rfl) ?_
 refine XO_or0 rfl rfl rfl rfl rfl ?_
 refine zN ?_
 refine zI ?_ ?_ <;> intro hc30
 ·
  refine zR (zA (zN (X_ret (at_then_r ?_))))
  exact at_ret1 rfl rfl (fun w hw => ⟨by exact congrArg (fun b => Ending.returned (Value.bool b)) (frm_a hc30).symm, hw.drop⟩)
 refine X_skip (at_then (X_seq (zR ?_)))
 refine zF fld_48_5 ?_
 refine zV (ev_load rfl sct_3 (fun hg => by exact Cell.h0 rfl)) ?_
 refine XO_callV0 (cap := []) (vs := [_, _, _]) rfl rfl fun_131 (r_within I _ _ _) rfl rfl ?_
 refine zO ?_
 refine zM ?_
 refine XO_pushF 4 rfl rfl rfl ?_
 refine zJ (ev_fieldAddr rfl fld_48_6) ?_
 refine zJ (ev_load rfl sct_3 (fun hg => by exact Cell.h0 rfl)) ?_
 refine XO_callV1 (cap := []) (vs := [_, _, _]) rfl rfl fun_131 (fun hg => r_within I _ _ _) (.some rfl rfl rfl rfl gbf) rfl rfl ?_
 refine zJ (ev_not rfl) ?_
 refine XO_or0 rfl rfl rfl rfl rfl ?_
 refine zM ?_
 refine XO_pushF 10 rfl rfl rfl ?_
 refine zJ (ev_fieldAddr rfl fld_48_7) ?_
 refine zJ (ev_load rfl sct_3 (fun hg => by exact Cell.h0 rfl)) ?_
 refine XO_callV1 (cap := []) (vs := [_, _, _]) rfl rfl fun_131 (fun hg => r_within I _ _ _) (.some rfl rfl rfl rfl gbf) rfl rfl ?_
 refine zJ (ev_not rfl) ?_
 refine XO_or0 rfl rfl rfl rfl rfl ?_
 refine zM ?_
 refine XO_pushF 16 rfl rfl rfl ?_
 refine zJ (ev_fieldAddr rfl fld_48_8) ?_
 refine zJ (ev_load rfl sct_3 (fun hg => by exact Cell.h0 rfl)) ?_
 refine XO_callV1 (cap := []) (vs := [_, _, _]) rfl rfl fun_131 (fun hg => r_within I _ _ _) (.some rfl rfl rfl rfl gbf) rfl rfl ?_
 refine zJ (ev_not rfl) ?_
 refine XO_or0 rfl rfl rfl rfl rfl ?_
 refine zM ?_
 refine XO_pushF 22 rfl rfl rfl ?_
 refine zJ (ev_fieldAddr rfl fld_48_9) ?_
 refine zJ (ev_load rfl sct_3 (fun hg => by exact Cell.h0 rfl)) ?_
 refine XO_callV1 (cap := []) (vs := [_, _, _]) rfl rfl fun_131 (fun hg => r_within I _ _ _) (.some rfl rfl rfl rfl gbf) rfl rfl ?_
 refine zJ (ev_not rfl) ?_
 refine XO_or0 rfl rfl rfl rfl rfl ?_
 refine zN ?_
 refine zI ?_ ?_ <;> intro hc58
 ·
  refine zR (zA (zN (X_ret (at_then_r ?_))))
  exact at_ret1 rfl rfl (fun w hw => ⟨by exact congrArg (fun b => Ending.returned (Value.bool b)) (frm_b hc58).symm, hw.drop⟩)
 refine X_skip (at_then (zR ?_))
 refine zF fld_48_10 ?_
 refine zV (ev_loadA rfl agt_46 (fun hg => by exact Cells.s0 (vs := [_, _]) rfl) rfl) ?_
 refine zF fld_48_11 ?_
 refine zV (ev_loadA rfl agt_46 (fun hg => by exact Cells.s0 (vs := [_, _]) rfl) rfl) ?_
 refine XO_callV0 (cap := []) (vs := [_, _]) rfl rfl fun_132 (r_span I _ _ _ _) rfl rfl ?_
 refine zA (zN (X_ret ?_))
 exact at_ret1 rfl rfl (fun w hw => ⟨by exact congrArg (fun b => Ending.returned (Value.bool b)) (frm_c hc30 hc58).symm, hw.drop⟩)
theorem q_within (I : HMap) (n lo hi : Int) : RetV Tryz.prog 99 [.int .i64 n, .int .i64 lo, .int .i64 hi] I (.bool (within n lo hi)) := by
 intro g H w hw
 refine enter Tryz.func99 rfl Tryz.ntmps99 rfl hw ?_
 refine zR (zA ?_)
 refine zN (zR ?_)
 refine zM ?_
 refine zM ?_
 refine zC ?_
 refine zM ?_
 refine XO_pushT 3 rfl rfl rfl ?_
 refine zK (ev_move rfl) ?_
 refine zK (ev_move rfl) ?_
 refine zK (ev_cmp rfl rfl rfl) ?_
 refine XO_and0 rfl rfl rfl rfl rfl ?_
 refine zA (zN (X_ret ?_))
 exact at_ret1 rfl rfl (fun w hw => ⟨by rfl, hw.drop⟩)
theorem q_code (I : HMap) (x : Sg) : RetV Tryz.prog 101 [encGA x] I (.tuple #[.int .i64 (codeF x), .int .i64 (codeE x)]) := by
 intro g H w hw
 refine enter Tryz.func101 rfl Tryz.ntmps101 rfl hw ?_
 refine zR ?_
 refine XO_box rfl rfl rfl (fun b_1 => ?_)
 refine zA ?_
 refine zA (zN (X_seq (zR ?_)))
 refine zF fld_48_1 ?_
 refine zV (ev_load rfl sct_3 (fun hg => by exact Cell.h0 rfl)) ?_
 refine XO_callV0 (cap := []) (vs := [_, _, _]) rfl rfl fun_99 (q_within I _ _ _) rfl rfl ?_
 refine zO ?_
 refine zM ?_
 refine XO_pushF 4 rfl rfl rfl ?_
 refine zJ (ev_fieldAddr rfl fld_48_4) ?_
 refine zJ (ev_load rfl sct_3 (fun hg => by exact Cell.h0 rfl)) ?_
 refine XO_callV1 (cap := []) (vs := [_, _, _]) rfl rfl fun_99 (fun hg => q_within I _ _ _) (.some rfl rfl rfl rfl gbf) rfl rfl ?_
 refine zJ (ev_not rfl) ?_
 refine XO_or0 rfl rfl rfl rfl rfl ?_
 refine zM ?_
 refine XO_pushF 10 rfl rfl rfl ?_
 refine zJ (ev_fieldAddr rfl fld_48_5) ?_
 refine zJ (ev_load rfl sct_3 (fun hg => by exact Cell.h0 rfl)) ?_
 refine XO_callV1 (cap := []) (vs := [_, _, _]) rfl rfl fun_99 (fun hg => q_within I _ _ _) (.some rfl rfl rfl rfl gbf) rfl rfl ?_
 refine zJ (ev_not rfl) ?_
 refine XO_or0 rfl rfl rfl rfl rfl ?_
 refine zM ?_
 refine XO_pushF 16 rfl rfl rfl ?_
 refine zJ (ev_fieldAddr rfl fld_48_6) ?_
 refine zJ (ev_load rfl sct_3 (fun hg => by exact Cell.h0 rfl)) ?_
 refine XO_callV1 (cap := []) (vs := [_, _, _]) rfl rfl fun_99 (fun hg => q_within I _ _ _) (.some rfl rfl rfl rfl gbf) rfl rfl ?_
 refine zJ (ev_not rfl) ?_
 refine XO_or0 rfl rfl rfl rfl rfl ?_
 refine zM ?_
 refine XO_pushF 22 rfl rfl rfl ?_
 refine zJ (ev_fieldAddr rfl fld_48_7) ?_
 refine zJ (ev_load rfl sct_3 (fun hg => by exact Cell.h0 rfl)) ?_
 refine XO_callV1 (cap := []) (vs := [_, _, _]) rfl rfl fun_99 (fun hg => q_within I _ _ _) (.some rfl rfl rfl rfl gbf) rfl rfl ?_
 refine zJ (ev_not rfl) ?_
 refine XO_or0 rfl rfl rfl rfl rfl ?_
 refine zM ?_
 refine XO_pushF 28 rfl rfl rfl ?_
 refine zJ (ev_fieldAddr rfl fld_48_8) ?_
 refine zJ (ev_load rfl sct_3 (fun hg => by exact Cell.h0 rfl)) ?_
 refine XO_callV1 (cap := []) (vs := [_, _, _]) rfl rfl fun_99 (fun hg => q_within I _ _ _) (.some rfl rfl rfl rfl gbf) rfl rfl ?_
 refine zJ (ev_not rfl) ?_
 refine XO_or0 rfl rfl rfl rfl rfl ?_
 refine zM ?_
 refine XO_pushF 34 rfl rfl rfl ?_
 refine zJ (ev_fieldAddr rfl fld_48_9) ?_
 refine zJ (ev_load rfl sct_3 (fun hg => by exact Cell.h0 rfl)) ?_
 refine XO_callV1 (cap := []) (vs := [_, _, _]) rfl rfl fun_99 (fun hg => q_within I _ _ _) (.some rfl rfl rfl rfl gbf) rfl rfl ?_
 refine zJ (ev_not rfl) ?_
 refine XO_or0 rfl rfl rfl rfl rfl ?_
 refine zN ?_
 refine zI ?_ ?_ <;> intro hc43
 ·
  have hb : inR x = false := by unfold inR; exact congrArg (! ·) hc43
  refine zR (zA ?_)
  refine zA (zN (X_ret (at_then_r ?_)))
  exact at_ret2 rfl rfl rfl (fun w hw => ⟨by rw [(rcode_no hb).1, (rcode_no hb).2], hw.drop⟩)
 have hb : inR x = true := by unfold inR; exact congrArg (! ·) hc43
 obtain ⟨hn1, hn2, hn3, hn4, hn5, hn6, hn7⟩ := inR_in hb
 refine X_skip (at_then (zR ?_))
 refine zF fld_48_1 ?_
 refine zV (ev_load rfl sct_3 (fun hg => by exact Cell.h0 rfl)) ?_
 refine zB ?_
 refine zF fld_48_4 ?_
 refine zV (ev_load rfl sct_3 (fun hg => by exact Cell.h0 rfl)) ?_
 refine zB ?_
 refine zB ?_
 refine zF fld_48_5 ?_
 refine zV (ev_load rfl sct_3 (fun hg => by exact Cell.h0 rfl)) ?_
 refine zB ?_
 refine zB ?_
 refine zF fld_48_6 ?_
 refine zV (ev_load rfl sct_3 (fun hg => by exact Cell.h0 rfl)) ?_
 refine zB ?_
 refine zB ?_
 refine zF fld_48_7 ?_
 refine zV (ev_load rfl sct_3 (fun hg => by exact Cell.h0 rfl)) ?_
 refine zB ?_
 refine zB ?_
 refine zF fld_48_8 ?_
 refine zV (ev_load rfl sct_3 (fun hg => by exact Cell.h0 rfl)) ?_
 refine zB ?_
 refine zB ?_
 refine zF fld_48_9 ?_
 refine zV (ev_load rfl sct_3 (fun hg => by exact Cell.h0 rfl)) ?_
 refine zB ?_
 refine zA ?_
 refine zA (zN (X_ret ?_))
 first
 | exact at_ret2 rfl rfl rfl (fun w hw => ⟨by rw [(rcode_yes hb).1, (rcode_yes hb).2]; rfl, hw.drop⟩)
theorem q_sign (I : HMap) (c : Int) : RetV Tryz.prog 69 [.int .i64 c] I (.tuple #[encGA (signF c), .int .i64 (signE c)]) := by
 intro g H w hw
 refine enter Tryz.func69 rfl Tryz.ntmps69 rfl hw ?_
 refine zR ?_
 refine XO_alloc zt_48 rfl rfl (fun b_2 => ?_)
 refine zA (zN (X_seq (zR ?_)))
 refine zM ?_
 refine zC ?_
 refine zM ?_
 refine XO_pushF 2 rfl rfl rfl ?_
 refine zJ (ev_move rfl) ?_
 refine zJ (ev_cmp rfl rfl rfl) ?_
 refine XO_or0 rfl rfl rfl rfl rfl ?_
 refine zN ?_
 refine zI ?_ ?_ <;> intro hc12
 ·
  have ho : c < 0 ∨ 8589934592 ≤ c := by simpa using hc12
  have k1 := (rsign_out ho).2
  have he9 := (rsign_out ho).1
  refine zR ?_
  refine zV (ev_buildL (ps := []) [_, _, _, _, _, _, _, _, _, _, _, _, _, _] plt_48 rfl rfl) ?_
  refine XO_storeA rfl rfl szt_48 rfl rfl rfl rfl (by repeat (first | exact Upd.here | apply Upd.there | apply upd_app)) ?_
  refine zA (zN (X_ret (at_then_r ?_)))
  exact at_ret2A rfl rfl rfl agt_48 (by repeat (first | exact Cells.here | apply Cells.there)) rfl (fun w hw => ⟨by rw [k1, he9]; rfl, hw.drop⟩)
 have hci : 0 ≤ c ∧ c < 8589934592 := by have h := hc12; simp at h; omega
 refine X_skip (at_then (zR (zM ?_)))
 refine zV (ev_rem rfl rfl (fun hg => by decide)) ?_
 refine zM ?_
 refine zV (ev_quo rfl rfl (fun hg => by decide)) ?_
 refine zV (ev_rem rfl rfl (fun hg => by decide)) ?_
 refine zM ?_
 refine zV (ev_quo rfl rfl (fun hg => by decide)) ?_
 refine zV (ev_rem rfl rfl (fun hg => by decide)) ?_
 refine zM ?_
 refine zV (ev_quo rfl rfl (fun hg => by decide)) ?_
 refine zV (ev_rem rfl rfl (fun hg => by decide)) ?_
 refine zM ?_
 refine zV (ev_quo rfl rfl (fun hg => by decide)) ?_
 refine zV (ev_rem rfl rfl (fun hg => by decide)) ?_
 refine zM ?_
 refine zV (ev_quo rfl rfl (fun hg => by decide)) ?_
 refine zV (ev_rem rfl rfl (fun hg => by decide)) ?_
 refine zM ?_
 refine zV (ev_quo rfl rfl (fun hg => by decide)) ?_
 refine zV (ev_buildL (ps := [(9, _), (8, _), (7, _), (6, _), (5, _), (4, _), (1, _)]) [_, _, _, _, _, _, _, _, _, _, _, _, _, _] plt_48 rfl rfl) ?_
 refine XO_alloc zt_48 rfl rfl (fun b_4 => ?_)
 refine XO_storeA rfl rfl szt_48 rfl rfl rfl rfl (by repeat (first | exact Upd.here | apply Upd.there | apply upd_app)) ?_
 refine zN (zR ?_)
 refine zV (ev_loadA rfl agt_48 (fun hg => by exact Cells.g0) rfl) ?_
 refine XO_callV0 (cap := []) (vs := [_]) rfl rfl fun_101 (q_code I (rawT c)) rfl rfl ?_
 refine zM ?_
 refine zE ?_
 refine zE ?_
 refine zA ?_
 refine zA (zN (X_seq (zR ?_)))
 refine zM ?_
 refine zC (zN ?_)
 refine zI ?_ ?_ <;> intro hc40
 ·
  have he : codeE (rawT c) ≠ 0 := by simpa using hc40
  have k1 := (rsign_bad hci.1 hci.2 he).2
  have he9 := (rsign_bad hci.1 hci.2 he).1
  refine zR ?_
  refine zV (ev_buildL (ps := []) [_, _, _, _, _, _, _, _, _, _, _, _, _, _] plt_48 rfl rfl) ?_
  refine zM ?_
  refine XO_storeA rfl rfl szt_48 rfl rfl rfl rfl (by repeat (first | exact Upd.here | apply Upd.there | apply upd_app)) ?_
  refine zA (zN (X_ret (at_then_r ?_)))
  exact at_ret2A rfl rfl rfl agt_48 (by repeat (first | exact Cells.here | apply Cells.there)) rfl (fun w hw => ⟨by rw [k1, he9]; rfl, hw.drop⟩)
 have he : codeE (rawT c) = 0 := by simpa using hc40
 have k1 := (rsign_ok hci.1 hci.2 he).2
 have he9 := (rsign_ok hci.1 hci.2 he).1
 refine X_skip (at_then (zR ?_))
 refine zV (ev_loadA rfl agt_48 (fun hg => by exact Cells.g0) rfl) ?_
 refine XO_storeA rfl rfl szt_48 rfl rfl rfl rfl (by repeat (first | exact Upd.here | apply Upd.there | apply upd_app)) ?_
 refine zA (zN (X_ret ?_))
 exact at_ret2A rfl rfl rfl agt_48 (by repeat (first | exact Cells.here | apply Cells.there)) rfl (fun w hw => ⟨by rw [k1, he9]; rfl, hw.drop⟩)
theorem q_isCode (I : HMap) (c : Int) : RetV Tryz.prog 122 [.int .i64 c] I (.bool (!badC c)) := by
 intro g H w hw
 refine enter Tryz.func122 rfl Tryz.ntmps122 rfl hw ?_
 refine zR (zA ?_)
 refine zN (zR ?_)
 refine zM ?_
 refine XO_callV0 (cap := []) (vs := [_]) rfl rfl fun_69 (q_sign I _) rfl rfl ?_
 refine zM ?_
 refine zE ?_
 refine zE ?_
 refine XO_alloc zt_48 rfl rfl (fun b_3 => ?_)
 refine XO_storeA rfl rfl szt_48 rfl rfl rfl rfl (by repeat (first | exact Upd.here | apply Upd.there | apply upd_app)) ?_
 refine zA ?_
 refine zN (zR ?_)
 refine zM ?_
 refine zC ?_
 refine zM ?_
 refine XO_pushF 2 rfl rfl rfl ?_
 refine zJ (ev_move rfl) ?_
 refine zJ (ev_cmp rfl rfl rfl) ?_
 refine XO_or0 rfl rfl rfl rfl rfl ?_
 refine zA (zN (X_ret ?_))
 exact at_ret1 rfl rfl (fun w hw => ⟨by unfold badC; rw [show (!((signE c != 0) && (c != 8589934592))) = ((signE c == 0) || (c == 8589934592)) by cases h1 : (signE c == 0) <;> cases h2 : (c == 8589934592) <;> simp [bne, h1, h2]], hw.drop⟩)
theorem q_all {I : HMap} {av : Option Addr} {n c : Nat} {xs : List Int} (hS : Sl I 1 encI av n c xs) (hn : n ≤ 100000) : RetV Tryz.prog 102 [.slice av n c] I (.bool (!xs.any badC)) := by
 intro g H w hw
 refine enter Tryz.func102 rfl Tryz.ntmps102 rfl hw ?_
 refine zR (zA (zN (X_seq (zR ?_))))
 refine zA (zN (X_block ?_))
 refine X_loopT [(0, _)] (.cons rfl .nil) (fun T L0 mz E I' loc' => ∃ (k : Nat), mz = n - k ∧ E = (3, .int .i64 k) :: T ∧ I = I' ∧ L0 = loc' ∧ k ≤ n ∧ (xs.take k).any badC = false) _ _ _ _ ⟨0, rfl, rfl, rfl, rfl, Nat.zero_le _, rfl⟩ (.cons rfl (.cons rfl .nil)) (HLe.refl _) rfl ?_
 rintro mz E I' loc' ⟨k, rfl, rfl, rfl, rfl, hk, hno⟩
 refine X_seq (zR (zM ?_))
 refine zM ?_
 refine zQ slt_23 ?_
 refine zC (zN ?_)
 refine zI ?_ ?_ <;> intro hc8
 ·
  have hlt_k : k < n := by have h := hc8; simp at h; omega
  obtain ⟨x, hx⟩ := hS.at hlt_k
  refine X_skip (at_then (X_seq (X_block (zR (zM ?_)))))
  refine zM ?_
  refine zV (ev_indexSl rfl rfl slt_23 (by assumption) (fun hg => by omega)) ?_
  refine zV (ev_load rfl sct_3 (fun hg => by exact Sl.get0 hS hx rfl)) ?_
  refine XO_callV0 (cap := []) (vs := [_]) rfl rfl fun_122 (q_isCode I _) rfl rfl ?_
  refine zA ?_
  refine zN (zR ?_)
  refine zM ?_
  refine zO (zN ?_)
  refine zI ?_ ?_ <;> intro hc17
  ·
   have hyb : badC x = true := by simpa using hc17
   refine zR (zA (zN (X_ret (at_block_r (at_then_r (at_then_r (at_block_r ?_)))))))
   refine at_then_r ?_
   first
   | exact at_ret1 rfl rfl (fun w hw => ⟨by rw [any_yes hx hyb]; rfl, hw.drop⟩)
  refine X_skip (at_block_n (at_then (X_region (zM ?_))))
  refine zB ?_
  refine zA (XO_nil ?_)
  exact at_met2 _ _ ⟨n - (k + 1), by omega, k + 1, rfl, rfl, rfl, rfl, by omega, any_no hx hno (by simpa using hc17)⟩ (.cons rfl (.cons rfl .nil)) (by repeat (first | exact .refl | exact subL_left | refine subL_app ?_ | refine .drop ?_ | refine subL_add ?_))
 have hge_k : n ≤ k := by have h := hc8; simp at h; omega
 rw [take_all hS.len hge_k] at hno
 refine X_exit (at_then_e (at_then_e (at_block_hit (at_then (zR (zA (zN ?_)))))))
 refine X_ret ?_
 first
 | exact at_ret1 rfl rfl (fun w hw => ⟨by rw [hno]; rfl, hw.drop⟩)
theorem q_beside (I : HMap) (x y : Int) : RetV Tryz.prog 104 [.int .i64 x, .int .i64 y] I (.int .i64 (besN x y)) := by
 intro g H w hw
 refine enter Tryz.func104 rfl Tryz.ntmps104 rfl hw ?_
 refine zR (zA (zN (X_seq (zR ?_))))
 refine zM ?_
 refine zM ?_
 refine zC ?_
 refine zM ?_
 refine XO_pushF 3 rfl rfl rfl ?_
 refine zJ (ev_move rfl) ?_
 refine zJ (ev_cmp rfl rfl rfl) ?_
 refine XO_or0 rfl rfl rfl rfl rfl ?_
 refine zM ?_
 refine XO_pushF 7 rfl rfl rfl ?_
 refine zJ (ev_move rfl) ?_
 refine zJ (ev_cmp rfl rfl rfl) ?_
 refine XO_or0 rfl rfl rfl rfl rfl ?_
 refine zN ?_
 refine zI ?_ ?_ <;> intro hc15
 ·
  refine zR (zA (zN (X_ret (at_then_r ?_))))
  first
  | exact at_ret1 rfl rfl (fun w hw => ⟨by unfold besN; rw [if_neg (by have h := hc15; simp only [Bool.or_eq_true, beq_iff_eq] at h; simp only [Bool.and_eq_true, bne_iff_ne, ne_eq]; omega)], hw.drop⟩)
 refine X_skip (at_then (zR (zA (zN (X_ret ?_)))))
 first
 | exact at_ret1 rfl rfl (fun w hw => ⟨by unfold besN; rw [if_pos (by have h := hc15; simp only [Bool.or_eq_false_iff, beq_eq_false_iff_ne, ne_eq] at h; simp only [Bool.and_eq_true, bne_iff_ne, ne_eq]; omega)], hw.drop⟩)
theorem q_reading (I : HMap) (r : Rd) : RetV Tryz.prog 100 [.agg (encRd r).toArray] I (.bool (!badR r)) := by
 intro g H w hw
 refine enter Tryz.func100 rfl Tryz.ntmps100 rfl hw ?_
 refine zR ?_
 refine XO_box rfl rfl rfl (fun b_1 => ?_)
 refine zA (zN (X_seq (zR ?_)))
 refine zF fld_51_0 ?_
 refine zV (ev_load rfl sct_4 (fun hg => by exact Cell.h0 rfl)) ?_
 refine zN ?_
 refine zI ?_ ?_ <;> intro hc5
 ·
  have hlo : r.lost = true := by simpa using hc5
  refine zR ?_
  refine zF fld_51_1 ?_
  refine zV (ev_loadA rfl agt_48 (fun hg => by exact Cells.s0 (vs := [_, _, _, _, _, _, _, _, _, _, _, _, _, _]) rfl) rfl) ?_
  refine zV (ev_buildL (ps := []) [_, _, _, _, _, _, _, _, _, _, _, _, _, _] plt_48 rfl rfl) ?_
  refine zV (ev_eqS2 rfl rfl eqt2_48 rfl) ?_
  refine zA (zN (X_ret (at_then_r ?_)))
  first
  | exact at_ret1 rfl rfl (fun w hw => ⟨by rw [← rrd_l hlo]; rfl, hw.drop⟩)
 have hlo : r.lost = false := by simpa using hc5
 refine X_skip (at_then (zR ?_))
 refine zF fld_51_1 ?_
 refine zV (ev_loadA rfl agt_48 (fun hg => by exact Cells.s0 (vs := [_, _, _, _, _, _, _, _, _, _, _, _, _, _]) rfl) rfl) ?_
 refine XO_callV0 (cap := []) (vs := [_]) rfl rfl fun_121 (r_frm I r.sg) rfl rfl ?_
 refine zA ?_
 refine zN (zR ?_)
 refine zM ?_
 refine zM ?_
 refine XO_pushT 1 rfl rfl rfl ?_
 refine zK (ev_fieldAddr rfl fld_51_1) ?_
 refine zK (ev_fieldAddr rfl fld_48_0) ?_
 refine zK (ev_load rfl sct_3 (fun hg => by exact Cell.h0 rfl)) ?_
 refine zK (ev_cmp rfl rfl rfl) ?_
 refine XO_and0 rfl rfl rfl rfl rfl ?_
 refine zA (zN (X_ret ?_))
 exact at_ret1 rfl rfl (fun w hw => ⟨by rw [← rrd_f hlo], hw.drop⟩)
end
section
open Go Go.Kn Go.Proofs
theorem fun_100 : Fun Tryz.prog 100 := .of Tryz.func100 (by kernel_rfl) (by kernel_rfl)
theorem q_chkW {I : HMap} {av : Option Addr} {n c : Nat} {xs : List Wr} (hW : SlW I av n c xs) (hn : n ≤ 100000) : RetV Tryz.prog 60 [.slice av n c] I (.int .i64 (chkW xs)) := by
 intro g H w hw
 refine enter Tryz.func60 rfl Tryz.ntmps60 rfl hw ?_
 obtain ⟨ws, hW⟩ := hW
 have hH := hW.1
 have hlW := hW.len
 refine zR (zA (zN (X_seq (zR ?_))))
 refine zM ?_
 refine zQ slt_31 ?_
 refine zC (zN ?_)
 refine zI ?_ ?_ <;> intro hc8
 ·
  have h1 : xs.length > 24 := by rw [hlW]; simp at hc8; omega
  refine zR (zA (zN (X_ret (at_then_r ?_))))
  exact at_ret1 rfl rfl (fun w hw => ⟨by rw [chkW_1 h1], hw.drop⟩)
 have h1 : ¬ xs.length > 24 := by rw [hlW]; simp at hc8; omega
 refine X_skip (at_then (X_seq (zR (zA (zN (X_block ?_))))))
 refine X_loopT [(0, _)] (.cons rfl .nil) (fun T L0 mz E I' loc' => ∃ (k : Nat), mz = n - k ∧ E = (3, .int .i64 k) :: T ∧ I = I' ∧ L0 = loc' ∧ k ≤ n ∧ (xs.take k).any (fun x => decide (x.rs.length > 64)) = false) _ _ _ _ ⟨0, rfl, rfl, rfl, rfl, Nat.zero_le _, rfl⟩ (.cons rfl (.cons rfl .nil)) (HLe.refl _) rfl ?_
 rintro mz E I' loc' ⟨k, rfl, rfl, rfl, rfl, hk, hno⟩
 refine X_seq (zR (zM ?_))
 refine zM ?_
 refine zQ slt_31 ?_
 refine zC (zN ?_)
 refine zI ?_ ?_ <;> intro hc12
 ·
  have hlt_k : k < n := by have h := hc12; simp at h; omega
  obtain ⟨w, x, hx, hv, e1, e2, hR⟩ := hW.at hlt_k
  refine X_skip (at_then (X_seq (X_block (zR (zM ?_)))))
  refine zM ?_
  refine zV (zX slt_31 hH) ?_
  refine zF fld_54_2 ?_
  refine zV (ev_load rfl sct_52 (fun hg => by exact Sl.get (j := 2) hH hx rfl)) ?_
  refine zQ slt_52 ?_
  refine zC (zN ?_)
  refine zI ?_ ?_ <;> intro hc21
  ·
   have h2 : xs.any (fun x => decide (x.rs.length > 64)) = true := any_yes hv (by rw [hR.len]; have h := hc21; simp at h ⊢; omega)
   refine zR (zA (zN (X_ret (at_block_r (at_then_r (at_then_r (at_block_r ?_)))))))
   refine at_then_r ?_
   exact at_ret1 rfl rfl (fun w hw => ⟨by rw [chkW_2 h1 h2], hw.drop⟩)
  refine X_skip (at_block_n (at_then (X_region (zM ?_))))
  refine zB ?_
  refine zA (XO_nil ?_)
  exact at_met2 _ _ ⟨n - (k + 1), by omega, k + 1, rfl, rfl, rfl, rfl, by omega, any_no hv hno (by rw [hR.len]; have h := hc21; simp at h ⊢; omega)⟩ (.cons rfl (.cons rfl .nil)) (by repeat (first | exact .refl | exact subL_left | refine subL_app ?_ | refine .drop ?_ | refine subL_add ?_))
 have hge_k : n ≤ k := by have h := hc12; simp at h; omega
 rw [take_all hlW hge_k] at hno
 refine X_exit (at_then_e (at_then_e (at_block_hit (at_then (X_seq (zR (zA ?_)))))))
 refine zN (X_block ?_)
 refine X_loopT [(0, _)] (.cons rfl .nil) (fun T L0 mz E I' loc' => ∃ (k : Nat) (l : Int), mz = n - k ∧ E = (4, .int .i64 k) :: T ∧ I = I' ∧ L0 = loc' ∧ k ≤ n ∧ goodW 0 xs = goodW l (xs.drop k) ∧ (k = 0 ∧ l = 0 ∨ 0 < k ∧ 1 ≤ l ∧ (ws.getD (k - 1) zWt).no = l)) _ _ _ _ ⟨0, 0, rfl, rfl, rfl, rfl, Nat.zero_le _, rfl, .inl ⟨rfl, rfl⟩⟩ (.cons rfl (.cons rfl .nil)) (HLe.refl _) rfl ?_
 rintro mz E I' loc' ⟨k, l, rfl, rfl, rfl, rfl, hk, hgo, hpv⟩
 refine X_seq (zR (zM ?_))
 refine zM ?_
 refine zQ slt_31 ?_
 refine zC (zN ?_)
 refine zI ?_ ?_ <;> intro hc25
 ·
  have hlt_k : k < n := by have h := hc25; simp at h; omega
  obtain ⟨w, x, hx, hv, e1, e2, hR⟩ := hW.at hlt_k
  have hrn := hR.len
  have hR64 : w.n ≤ 64 := by have := List.any_eq_false.1 hno x (List.mem_of_getElem? hv); simp at this; omega
  have ek : ((k : Int) - 1).toNat = k - 1 := by omega
  refine X_skip (at_then (X_seq (X_block (X_seq (X_seq ?_)))))
  refine X_draw mixed (by kernel_rfl) ?_
  refine XQ_v0 (ev_move rfl) rfl rfl rfl ?_
  refine XQ_v0 (ev_move rfl) rfl rfl rfl ?_
  refine XQ_v0 (zX slt_31 hH) rfl rfl rfl ?_
  refine XQ_v0 (ev_fieldAddr rfl fld_54_0) rfl rfl rfl ?_
  refine XQ_v0 (ev_load rfl sct_3 (fun hg => by exact Sl.get0 hH hx rfl)) rfl rfl rfl ?_
  refine XQ_callV0 (cap := []) (vs := [_, _, _]) rfl rfl fun_99 (q_within I _ _ _) rfl rfl ?_
  refine XQ_v0 (ev_not rfl) rfl rfl rfl ?_
  refine XQ_v0 (ev_move rfl) rfl rfl rfl ?_
  refine XQ_pushF 7 rfl rfl rfl ?_
  refine XQ_v1 (ev_move rfl) (.some rfl rfl rfl rfl gbf) rfl rfl rfl ?_
  refine XQ_v1 (ev_cmp rfl rfl rfl) (.some rfl rfl rfl rfl gbf) rfl rfl rfl ?_
  refine XQ_v1 (ev_move rfl) (.some rfl rfl rfl rfl gbf) rfl rfl rfl ?_
  refine XQ_pushT 10 rfl rfl rfl ?_
  refine XQ_v1 (ev_move rfl) (.some rfl rfl rfl rfl gbt) rfl rfl rfl ?_
  refine XQ_v1 (ev_move rfl) (.some rfl rfl rfl rfl gbt) rfl rfl rfl ?_
  refine XQ_v1 (zX slt_31 hH) (.some rfl rfl rfl rfl gbt) rfl rfl rfl ?_
  refine XQ_v1 (ev_fieldAddr rfl fld_54_0) (.some rfl rfl rfl rfl gbt) rfl rfl rfl ?_
  refine XQ_v1 (ev_load rfl sct_3 (fun hg => by exact Sl.get0 hH hx rfl)) (.some rfl rfl rfl rfl gbt) rfl rfl rfl ?_
  refine XQ_v1 (ev_move rfl) (.some rfl rfl rfl rfl gbt) rfl rfl rfl ?_
  refine XQ_v1 (ev_move rfl) (.some rfl rfl rfl rfl gbt) rfl rfl rfl ?_
  refine XQ_v1 (ev_arB rfl rfl rfl (fun hg => by omega)) (.some rfl rfl rfl rfl gbt) rfl rfl rfl ?_
  refine XQ_v1 (zX slt_31 hH) (.some rfl rfl rfl rfl gbt) rfl rfl rfl ?_
  refine XQ_v1 (ev_fieldAddr rfl fld_54_0) (.some rfl rfl rfl rfl gbt) rfl rfl rfl ?_
  refine XQ_v1 (ev_load rfl sct_3 (fun hg => by exact Sl.get0 (k := ((k : Int) - 1).toNat) hH (some_getD (d := zWt) hH.len (by simp [conj] at hg; omega)) rfl)) (.some rfl rfl rfl rfl gbt) rfl rfl rfl ?_
  refine XQ_v1 (ev_cmp rfl rfl rfl) (.some rfl rfl rfl rfl gbt) rfl rfl rfl ?_
  refine XQ_and1 rfl rfl rfl (.some rfl rfl rfl rfl gbf) rfl rfl ?_
  refine XQ_or0 rfl rfl rfl rfl rfl ?_
  refine XQ_v0 (ev_move rfl) rfl rfl rfl ?_
  refine XQ_pushF 25 rfl rfl rfl ?_
  refine XQ_v1 (ev_move rfl) (.some rfl rfl rfl rfl gbf) rfl rfl rfl ?_
  refine XQ_v1 (ev_move rfl) (.some rfl rfl rfl rfl gbf) rfl rfl rfl ?_
  refine XQ_v1 (zX slt_31 hH) (.some rfl rfl rfl rfl gbf) rfl rfl rfl ?_
  refine XQ_v1 (ev_fieldAddr rfl fld_54_1) (.some rfl rfl rfl rfl gbf) rfl rfl rfl ?_
  refine XQ_v1 (ev_load rfl sct_3 (fun hg => by exact Sl.get (j := 1) hH hx rfl)) (.some rfl rfl rfl rfl gbf) rfl rfl rfl ?_
  refine XQ_callV1 (cap := []) (vs := [_, _, _]) rfl rfl fun_99 (fun hg => q_within I _ _ _) (.some rfl rfl rfl rfl gbf) rfl rfl ?_
  refine XQ_v1 (ev_not rfl) (.some rfl rfl rfl rfl gbf) rfl rfl rfl ?_
  refine XQ_or0 rfl rfl rfl rfl rfl ?_
  refine XQ_nil ?_
  refine at_then ?_
  refine zI ?_ ?_ <;> intro hc61
  ·
   rw [ek] at hc61
   have hbw : badW l x = true := by unfold badW; rw [← e1, ← e2, ← rbad hpv]; exact hc61
   refine zR (zA (zN (X_ret (at_then_r (at_block_r (at_then_r (at_then_r ?_)))))))
   refine at_block_r (at_then_r ?_)
   exact at_ret1 rfl rfl (fun w hw => ⟨by rw [chkW_3 h1 hno (hgo.trans (goodW_bad hv hbw))], hw.drop⟩)
  rw [ek] at hc61
  have hbw : badW l x = false := by unfold badW; rw [← e1, ← e2, ← rbad hpv]; exact hc61
  refine X_skip (at_then (zR (zA (zN (X_block ?_)))))
  refine X_loopT [(0, _), (4, _)] (.cons rfl (.cons rfl .nil)) (fun T L0 mz E I' loc' => ∃ (j : Nat), mz = w.n - j ∧ E = (5, .int .i64 j) :: T ∧ I = I' ∧ L0 = loc' ∧ j ≤ w.n ∧ (x.rs.take j).any badR = false) _ _ _ _ ⟨0, rfl, rfl, rfl, rfl, Nat.zero_le _, rfl⟩ (.cons rfl (.cons rfl (.cons rfl .nil))) (HLe.refl _) rfl ?_
  rintro mz E I' loc' ⟨j, rfl, rfl, rfl, rfl, hj, hnr⟩
  refine X_seq (zR (zM ?_))
  refine zM ?_
  refine zM ?_
  refine zV (zX slt_31 hH) ?_
  refine zF fld_54_2 ?_
  refine zV (ev_load rfl sct_52 (fun hg => by exact Sl.get (j := 2) hH hx rfl)) ?_
  refine zQ slt_52 ?_
  refine zC (zN ?_)
  refine zI ?_ ?_ <;> intro hc69
  ·
   have hlt_j : j < w.n := by have h := hc69; simp at h; omega
   obtain ⟨r, hr⟩ := hR.at hlt_j
   refine X_skip (at_then (X_seq (X_block (zR (zM ?_)))))
   refine zM ?_
   refine zV (zX slt_31 hH) ?_
   refine zF fld_54_2 ?_
   refine zV (ev_load rfl sct_52 (fun hg => by exact Sl.get (j := 2) hH hx rfl)) ?_
   refine zM ?_
   refine zV (zX slt_52 hR) ?_
   refine zV (ev_loadA rfl agt_51 (fun hg => by exact Sl.getA hR hr) rfl) ?_
   refine XO_callV0 (cap := []) (vs := [_]) rfl rfl fun_100 (q_reading I r) rfl rfl ?_
   refine zO (zN ?_)
   refine zI ?_ ?_ <;> intro hc81
   ·
    have hbr : badR r = true := by simpa using hc81
    refine zR (zA (zN (X_ret (at_block_r (at_then_r (at_then_r (at_block_r ?_)))))))
    refine at_block_r (at_then_r (at_then_r (at_block_r (at_then_r ?_))))
    exact at_ret1 rfl rfl (fun w hw => ⟨by rw [chkW_3 h1 hno (hgo.trans (goodW_rd hv hr hbr))], hw.drop⟩)
   refine X_skip (at_block_n (at_then (X_region (zM ?_))))
   refine zB ?_
   refine zA (XO_nil ?_)
   exact at_met2 _ _ ⟨w.n - (j + 1), by omega, j + 1, rfl, rfl, rfl, rfl, by omega, any_no hr hnr (by simpa using hc81)⟩ (.cons rfl (.cons rfl (.cons rfl .nil))) (by repeat (first | exact .refl | exact subL_left | refine subL_app ?_ | refine .drop ?_ | refine subL_add ?_))
  have hge_j : w.n ≤ j := by have h := hc69; simp at h; omega
  rw [take_all hrn hge_j] at hnr
  refine X_exit (at_then_e (at_then_e (at_block_hit (at_block_n (at_then (X_region (zM ?_)))))))
  refine zB ?_
  refine zA (XO_nil ?_)
  exact at_met2 _ _ ⟨n - (k + 1), by omega, k + 1, w.no, rfl, rfl, rfl, rfl, by omega, by rw [hgo, goodW_step hv hbw hnr, e1], .inr ⟨by omega, by have := badW_lt hbw; rw [← e1] at this; omega, by rw [Nat.add_sub_cancel, List.getD_eq_getElem?_getD, hx]; rfl⟩⟩ (.cons rfl (.cons rfl .nil)) (by repeat (first | exact .refl | exact subL_left | refine subL_app ?_ | refine .drop ?_ | refine subL_add ?_))
 have hge_k : n ≤ k := by have h := hc25; simp at h; omega
 rw [goodW_end (by omega)] at hgo
 refine X_exit (at_then_e (at_then_e (at_block_hit (at_then (zR (zA (zN ?_)))))))
 refine X_ret ?_
 exact at_ret1 rfl rfl (fun w hw => ⟨by rw [chkW_4 h1 hno hgo], hw.drop⟩)
theorem q_codes {I : HMap} {av : Option Addr} {n c : Nat} {rs : List Rd} (hR : Sl I 15 encRd av n c rs) (hn : n ≤ 100000) (no yr : Int) : RetM Tryz.prog 61 [.agg #[.int .i64 no, .int .i64 yr, .slice av n c]] I [] (SlRes 1 encI (rs.map codeR)) := by
 intro g H w hw
 refine enter Tryz.func61 rfl Tryz.ntmps61 rfl hw ?_
 have hIc := HLe.refl I
 refine zR ?_
 refine XO_box rfl rfl rfl (fun b_1 => ?_)
 refine zA (zN (X_seq ?_))
 refine X_freezeAll (fun I1 hI1 hall => ?_)
 have hR := hR.mono hI1; have hIc := hIc.trans hI1
 have hCw : Cell I1 [] b_1 2 (.slice av n c) := .imm (hall _ _ (by repeat (first | exact List.mem_cons_self .. | apply List.mem_cons_of_mem))) rfl
 refine X_region (zA (zN (X_seq (zR ?_))))
 refine zA (zN (X_block ?_))
 refine X_loopT [(1, _)] (.cons rfl .nil) (fun T L0 mz E I' loc' => ∃ (k : Nat) (v3 : Value) (L : Go.Kn.Loc), mz = n - k ∧ E = (3, v3) :: (4, .int .i64 k) :: T ∧ I1 = I' ∧ L = loc' ∧ k ≤ n ∧ OwnS 3 1 v3 k (((rs.take k).map codeR).flatMap encI) L) _ _ _ _ ⟨0, _, [], rfl, rfl, rfl, rfl, Nat.zero_le _, OwnS.nil⟩ (.cons rfl (.cons rfl (.cons rfl .nil))) (HLe.refl _) rfl ?_
 rintro mz E I' loc' ⟨k, v3, L, rfl, rfl, rfl, rfl, hk, hO⟩
 refine X_seq (zR (zM ?_))
 refine zF fld_54_2 ?_
 refine zV (ev_load rfl sct_52 (fun hg => by exact hCw.any)) ?_
 refine zQ slt_52 ?_
 refine zC (zN ?_)
 refine zI ?_ ?_ <;> intro hc10
 ·
  have hlt_k : k < n := by have h := hc10; simp at h; omega
  obtain ⟨r, hr⟩ := hR.at hlt_k
  refine X_skip (at_then (X_seq (X_block (zR (zA (zN (X_seq ?_)))))))
  refine zR ?_
  refine zF fld_54_2 ?_
  refine zV (ev_load rfl sct_52 (fun hg => by exact hCw.any)) ?_
  refine zM ?_
  refine zV (zX slt_52 hR) ?_
  refine zF fld_51_0 ?_
  refine zV (ev_load rfl sct_4 (fun hg => by exact Sl.get0 hR hr rfl)) ?_
  refine zO (zN ?_)
  refine zI ?_ ?_ <;> intro hc19
  ·
   have hlo : codeR r = codeF r.sg := by unfold codeR; rw [if_neg (by simpa using hc19)]
   refine X_region ?_
   refine zF fld_54_2 ?_
   refine zV (ev_load rfl sct_52 (fun hg => by exact hCw.any)) ?_
   refine zM ?_
   refine zV (zX slt_52 hR) ?_
   refine zF fld_51_1 ?_
   refine zV (ev_loadA rfl agt_48 (fun hg => by exact Cells.tl (u := .bool r.lost) (vs := encG r.sg) (Sl.getA hR hr)) rfl) ?_
   refine XO_callV0 (cap := []) (vs := [_]) rfl rfl fun_101 (q_code _ r.sg) rfl rfl ?_
   refine zM ?_
   refine zE ?_
   refine zE ?_
   refine zA (zN ?_)
   rw [← hlo]
   refine X_region (zM ?_)
   refine zM ?_
   refine XO_buildSlice (ps := [(0, _)]) (m := [encI (codeR r)]) elt_23 rfl (.cons rfl (.nil)) rfl (by simp [encI_len]) (by decide) (by decide) rfl rfl (fun b_32 => ?_)
   refine XO_append (v := _) (ys := [codeR r].flatMap encI) (L := L) rfl rfl elt_23 hO (by repeat (first | exact .cons .here .nil | exact split_all | exact split_app | apply split_cons | apply split_skip)) ⟨rfl, fun _ => rfl, by repeat (first | exact Cells.here | apply Cells.there | apply Cells.app)⟩ (one_I [codeR r]) (by omega) rfl rfl ?_
   intro v9 L9 hO9 _; rw [← List.flatMap_append] at hO9
   refine zA (XO_nil (at_block_n (at_then (X_region ?_))))
   refine zM ?_
   refine zV (ev_arB rfl rfl rfl (fun _ => by omega)) ?_
   refine zA (XO_nil ?_)
   exact at_met2 _ _ ⟨n - (k + 1), by omega, k + 1, _, _, rfl, rfl, rfl, rfl, by omega, by rw [map_next hr]; exact hO9⟩ (.cons rfl (.cons rfl (.cons rfl .nil))) (by repeat (first | exact .refl | exact subL_left | refine subL_app ?_ | refine .drop ?_ | refine subL_add ?_))
  have hlo : codeR r = 8589934592 := by unfold codeR; rw [if_pos (by simpa using hc19)]
  refine X_skip (at_then ?_)
  rw [← hlo]
  refine X_region (zM ?_)
  refine zM ?_
  refine XO_buildSlice (ps := [(0, _)]) (m := [encI (codeR r)]) elt_23 rfl (.cons rfl (.nil)) rfl (by simp [encI_len]) (by decide) (by decide) rfl rfl (fun b_32 => ?_)
  refine XO_append (v := _) (ys := [codeR r].flatMap encI) (L := L) rfl rfl elt_23 hO (by repeat (first | exact .cons .here .nil | exact split_all | exact split_app | apply split_cons | apply split_skip)) ⟨rfl, fun _ => rfl, by repeat (first | exact Cells.here | apply Cells.there | apply Cells.app)⟩ (one_I [codeR r]) (by omega) rfl rfl ?_
  intro v9 L9 hO9 _; rw [← List.flatMap_append] at hO9
  refine zA (XO_nil (at_block_n (at_then (X_region ?_))))
  refine zM ?_
  refine zV (ev_arB rfl rfl rfl (fun _ => by omega)) ?_
  refine zA (XO_nil ?_)
  exact at_met2 _ _ ⟨n - (k + 1), by omega, k + 1, _, _, rfl, rfl, rfl, rfl, by omega, by rw [map_next hr]; exact hO9⟩ (.cons rfl (.cons rfl (.cons rfl .nil))) (by repeat (first | exact .refl | exact subL_left | refine subL_app ?_ | refine .drop ?_ | refine subL_add ?_))
 have hge_k : n ≤ k := by have h := hc10; simp at h; omega
 rw [take_all hR.len hge_k, show k = n by omega] at hO
 refine X_exit (at_then_e (at_then_e (at_block_hit (at_then (zR (zM ?_))))))
 refine zA (zN (X_ret ?_))
 exact at_ret1 rfl rfl (fun w hw => by obtain ⟨I9, h91, h92, h93⟩ := OwnS.res hO encI_len (by decide) hw; exact ⟨_, I9, [], rfl, hIc.trans h91, h92, h93⟩)
end
section
open Go Go.Kn Go.Proofs
/-! ### Pairs go up -/
def Up (ps : List (Int × Int)) : Prop := ps.Pairwise fun p q => 0 < q.1 → p.1 < q.1
theorem pa_up {a b : List Int} : ∀ (f i k : Nat), (∀ p ∈ paF a b f i k, p.1 = 0 ∨ (i : Int) < p.1) ∧ Up (paF a b f i k)
 | 0, _, _ => ⟨(fun p hp => by cases hp), .nil⟩
 | f + 1, i, k => by
  unfold paF
  split
  ·
   split
   ·
    have ih := pa_up (a := a) (b := b) f (i + 1) (k + 1)
    refine ⟨fun p hp => ?_, List.pairwise_cons.2 ⟨fun q hq hq0 => ?_, ih.2⟩⟩
    ·
     rcases List.mem_cons.1 hp with rfl | hp
     ·
      exact .inr (by simp only; omega)
     ·
      rcases ih.1 p hp with h | h
      ·
       exact .inl h
      ·
       exact .inr (by omega)
    ·
     rcases ih.1 q hq with h | h
     ·
      omega
     ·
      simpa using h
   ·
    split
    ·
     have ih := pa_up (a := a) (b := b) f (i + 1) k
     refine ⟨fun p hp => ?_, List.pairwise_cons.2 ⟨fun q hq hq0 => ?_, ih.2⟩⟩
     ·
      rcases List.mem_cons.1 hp with rfl | hp
      ·
       exact .inr (by simp only; omega)
      ·
       rcases ih.1 p hp with h | h
       ·
        exact .inl h
       ·
        exact .inr (by omega)
     ·
      rcases ih.1 q hq with h | h
      ·
       omega
      ·
       simpa using h
    ·
     have ih := pa_up (a := a) (b := b) f i (k + 1)
     refine ⟨fun p hp => ?_, List.pairwise_cons.2 ⟨fun q hq hq0 => by simpa using hq0, ih.2⟩⟩
     rcases List.mem_cons.1 hp with rfl | hp
     ·
      exact .inl rfl
     ·
      exact ih.1 p hp
  ·
   exact ⟨(fun p hp => by cases hp), .nil⟩
theorem pfW_up {xs : List Wr} {i : Nat} : Up (pfW xs i) := by
 unfold pfW
 split
 ·
  exact .nil
 ·
  unfold pairR
  split
  ·
   exact .nil
  ·
   exact (pa_up _ 0 0).2
/-! ### The reading beside a place -/
def bsdF (ps : List (Int × Int)) (l : List Int) (k : Nat) : Int := match ps.find? (fun y => y.1 == (k : Int) + 1 && decide (y.2 > 0)) with
 | none => 0
 | some y => l.getD (y.2 - 1).toNat 0
theorem pos_inj {w : Nat → Nat} {a b c d : Nat} (hc : c ≤ w a) (hd : d ≤ w b) (h : sumF w a + c = sumF w b + d) : a = b ∧ c = d := by
 rcases Nat.lt_trichotomy a b with g | g | g
 ·
  have := sumF_lt (w := w) g; omega
 ·
  subst g; omega
 ·
  have := sumF_lt (w := w) g; omega
theorem pr_at {w : Nat → Nat} {l : List Int} {m n : Nat} : ∀ (qs pre : List (Int × Int)) (f : Nat → Int), Up (pre ++ qs) → (∀ p ∈ pre ++ qs, QOK m n p) → (∀ k, f (sumF w k + w k) = bsdF pre l k) → (∀ k c, c < w k → f (sumF w k + c) = 0) →
  (∀ k, (qs.foldl (prF w l) f) (sumF w k + w k) = bsdF (pre ++ qs) l k) ∧ ∀ k c, c < w k → (qs.foldl (prF w l) f) (sumF w k + c) = 0
 | [], pre, f, _, _, h1, h2 => by rw [List.append_nil]; exact ⟨h1, h2⟩
 | y :: qs, pre, f, hu, hq, h1, h2 => by
  have e : pre ++ y :: qs = (pre ++ [y]) ++ qs := by simp
  rw [e] at hu hq ⊢
  rw [List.foldl_cons]
  obtain ⟨i, j, rfl, hi, hj, h0⟩ := hq y (by simp)
  have hno : ∀ p ∈ pre, 0 < (i : Int) → p.1 < (i : Int) := fun p hp hi0 => by
   have := (List.pairwise_append.1 (List.pairwise_append.1 hu).1).2.2 p hp ((i : Int), (j : Int)) (by simp)
   exact this hi0
  have hfind : ∀ k : Nat, bsdF (pre ++ [((i : Int), (j : Int))]) l k = if (0 < i ∧ 0 < j) ∧ i = k + 1 then l.getD ((j : Int) - 1).toNat 0 else bsdF pre l k := fun k => by
   unfold bsdF
   rw [List.find?_append]
   by_cases hm : (0 < i ∧ 0 < j) ∧ i = k + 1
   ·
    rw [if_pos hm]
    have hnone : pre.find? (fun y => y.1 == (k : Int) + 1 && decide (y.2 > 0)) = none := by
     rw [List.find?_eq_none]
     intro p hp hc
     have h3 := hno p hp (by omega)
     simp only [Bool.and_eq_true, beq_iff_eq] at hc
     omega
    rw [hnone, Option.none_or]
    rw [List.find?_cons_of_pos (by simp; omega)]
   ·
    rw [if_neg hm]
    have : ([((i : Int), (j : Int))] : List (Int × Int)).find? (fun y => y.1 == (k : Int) + 1 && decide (y.2 > 0)) = none := by
     rw [List.find?_eq_none]
     intro p hp hc
     simp only [List.mem_singleton] at hp
     subst hp
     simp only [Bool.and_eq_true, beq_iff_eq, decide_eq_true_eq] at hc
     exact hm (by omega)
    rw [this, Option.or_none]
  refine pr_at qs (pre ++ [((i : Int), (j : Int))]) (prF w l f ((i : Int), (j : Int))) hu hq (fun k => ?_) (fun k c hc => ?_)
  ·
   rw [hfind k]
   unfold prF
   by_cases hb : (decide ((i : Int) > 0) && decide ((j : Int) > 0)) = true
   ·
    rw [if_pos hb]
    have hb2 : 0 < i ∧ 0 < j := by simp at hb; omega
    have e1 : ((i : Int) - 1).toNat = i - 1 := by omega
    show updF f (sumF w ((i : Int) - 1).toNat + w ((i : Int) - 1).toNat) _ _ = _
    rw [e1]
    by_cases hk : i = k + 1
    ·
     rw [if_pos ⟨hb2, hk⟩, show i - 1 = k by omega, updF_same]
    ·
     rw [if_neg (by omega), updF_ne, h1 k]
     intro h
     have := (pos_inj (w := w) (Nat.le_refl _) (Nat.le_refl _) h).1
     omega
   ·
    rw [if_neg hb, h1 k, if_neg]
    intro h
    apply hb
    simp; omega
  ·
   unfold prF
   split
   ·
    show updF f _ _ _ = 0
    rw [updF_ne, h2 k c hc]
    intro h
    have h3 := pos_inj (w := w) (Nat.le_of_lt hc) (Nat.le_refl _) h
    obtain ⟨h4, h5⟩ := h3
    subst h4
    omega
   ·
    exact h2 k c hc
/-! ### The readings that are alone behind a place -/
def aloK (al : List (Int × Int)) (l : List Int) (k : Nat) : List Int := (al.filter fun q => q.1.toNat == k).map fun q => l.getD q.2.toNat 0
theorem aloK_len (al : List (Int × Int)) (l : List Int) (k : Nat) : (aloK al l k).length = cnt al k := by
 unfold aloK
 rw [List.length_map]
 have key : ∀ (qs pre : List (Int × Int)), (pre.filter fun q => q.1.toNat == k).length = cnt pre k → ((pre ++ qs).filter fun q => q.1.toNat == k).length = cnt (pre ++ qs) k := by
  intro qs
  induction qs with
  | nil => intro pre h; rw [List.append_nil]; exact h
  | cons q qs ih =>
   intro pre h
   have e : pre ++ q :: qs = (pre ++ [q]) ++ qs := by simp
   rw [e]
   refine ih (pre ++ [q]) ?_
   rw [List.filter_append, List.length_append, cnt_snoc, h]
   unfold updF
   by_cases hq : q.1.toNat = k
   ·
    rw [if_pos hq.symm, List.filter_cons_of_pos (by simpa using hq), hq]; simp
   ·
    rw [if_neg (Ne.symm hq), List.filter_cons_of_neg (by simpa using hq)]; simp
 have := key al [] rfl
 simpa using this
theorem aloK_snoc (al : List (Int × Int)) (l : List Int) (q : Int × Int) (k : Nat) : aloK (al ++ [q]) l k = aloK al l k ++ (if q.1.toNat = k then [l.getD q.2.toNat 0] else []) := by
 unfold aloK
 rw [List.filter_append, List.map_append]
 congr 1
 by_cases h : q.1.toNat = k
 ·
  rw [if_pos h, List.filter_cons_of_pos (by simpa using h)]; rfl
 ·
  rw [if_neg h, List.filter_cons_of_neg (by simpa using h)]; rfl
theorem al_at {w : Nat → Nat} {l : List Int} {f0 : Nat → Int} (hf : ∀ k c, c < w k → f0 (sumF w k + c) = 0) : ∀ (qs pre : List (Int × Int)), (∀ k, cnt (pre ++ qs) k ≤ w k) →
  (∀ k, (alP w l f0 pre).1 (sumF w k + w k) = f0 (sumF w k + w k)) → (∀ k c, c < w k → (alP w l f0 pre).1 (sumF w k + c) = (aloK pre l k).getD c 0) →
  (∀ k, (alP w l f0 (pre ++ qs)).1 (sumF w k + w k) = f0 (sumF w k + w k)) ∧ ∀ k c, c < w k → (alP w l f0 (pre ++ qs)).1 (sumF w k + c) = (aloK (pre ++ qs) l k).getD c 0
 | [], pre, _, h1, h2 => by rw [List.append_nil]; exact ⟨h1, h2⟩
 | q :: qs, pre, hw, h1, h2 => by
  have e : pre ++ q :: qs = (pre ++ [q]) ++ qs := by simp
  rw [e] at hw ⊢
  have hlt : cnt pre q.1.toNat < w q.1.toNat := by
   have h3 := hw q.1.toNat
   have h4 := cnt_app (pre ++ [q]) q.1.toNat qs.length qs (Nat.le_refl _)
   rw [cnt_one rfl] at h4
   omega
  refine al_at hf qs (pre ++ [q]) hw (fun k => ?_) (fun k c hc => ?_)
  ·
   rw [alP_snoc, updF_ne, h1 k]
   intro h
   obtain ⟨h3, h4⟩ := pos_inj (w := w) (Nat.le_refl _) (Nat.le_of_lt hlt) h
   subst h3
   omega
  ·
   rw [alP_snoc, aloK_snoc]
   by_cases h : sumF w k + c = sumF w q.1.toNat + cnt pre q.1.toNat
   ·
    obtain ⟨h3, h4⟩ := pos_inj (w := w) (Nat.le_of_lt hc) (Nat.le_of_lt hlt) h
    rw [h, updF_same, if_pos h3.symm, h4, ← aloK_len pre l, ← h3]
    simp
   ·
    rw [updF_ne h, h2 k c hc]
    by_cases hk : q.1.toNat = k
    ·
     subst hk
     rw [if_pos rfl, List.getD_eq_getElem?_getD, List.getD_eq_getElem?_getD, List.getElem?_append]
     split
     ·
      rfl
     ·
      rename_i hlen
      have hne : c ≠ (aloK pre l q.1.toNat).length := by rw [aloK_len]; intro h5; exact h (by rw [h5])
      rw [List.getElem?_eq_none (by omega), List.getElem?_eq_none (by simp; omega)]
    ·
     rw [if_neg hk, List.append_nil]
/-! ### Rows by blocks -/
def blkF (w : Nat → Nat) (T l : List Int) (i : Nat) (ps : List (Int × Int)) (k : Nat) : List Int :=
 (aloK (aloL ps) l k ++ List.replicate (w k - (aloK (aloL ps) l k).length) 0) ++ (if k < T.length then [if i = 0 then T.getD k 0 else bsdF ps l k] else [])
def blkW (xs : List Wr) (i k : Nat) : List Int := blkF (wdW xs) (csW xs 0) (csW xs i) i (pfW xs i) k
def rowK (xs : List Wr) (i k : Nat) : List Int := (List.range k).flatMap (blkW xs i)
theorem rowK_next (xs : List Wr) (i k : Nat) : rowK xs i (k + 1) = rowK xs i k ++ blkW xs i k := by
 unfold rowK; rw [List.range_succ, List.flatMap_append]; simp
theorem pad_map {L : List Int} {m : Nat} (h : L.length ≤ m) : (List.range m).map (fun c => L.getD c 0) = L ++ List.replicate (m - L.length) 0 := by
 apply List.ext_getElem?
 intro c
 rw [List.getElem?_map, List.getElem?_append]
 by_cases hc : c < m
 ·
  rw [List.getElem?_range hc]
  split
  ·
   rename_i h1
   rw [Option.map_some, List.getD_eq_getElem?_getD, List.getElem?_eq_getElem h1]; rfl
  ·
   rename_i h1
   rw [Option.map_some, List.getD_eq_getElem?_getD, List.getElem?_eq_none (by omega), List.getElem?_replicate, if_pos (by omega)]; rfl
 ·
  rw [List.getElem?_eq_none (by simp; omega), if_neg (by omega), List.getElem?_replicate, if_neg (by omega)]; rfl
theorem rngL_add (f : Nat → Int) (a b : Nat) : rngL (a + b) f = rngL a f ++ (List.range b).map fun c => f (a + c) := by
 unfold rngL
 rw [List.range_add, List.map_append, List.map_map]; rfl
theorem tx_at {w : Nat → Nat} {T : List Int} : ∀ m, (∀ k, txF w T m (sumF w k + w k) = if k < m then T.getD k 0 else 0) ∧ ∀ k c, c < w k → txF w T m (sumF w k + c) = 0
 | 0 => ⟨fun k => rfl, fun k c _ => rfl⟩
 | m + 1 => by
  have ih := tx_at (w := w) (T := T) m
  refine ⟨fun k => ?_, fun k c hc => ?_⟩
  ·
   show updF (txF w T m) (sumF w m + w m) (T.getD m 0) _ = _
   by_cases e : k = m
   ·
    subst e; rw [updF_same, if_pos (by omega)]
   ·
    rw [updF_ne (fun h => e (pos_inj (w := w) (Nat.le_refl _) (Nat.le_refl _) h).1), ih.1 k]
    by_cases h : k < m
    ·
     rw [if_pos h, if_pos (by omega)]
    ·
     rw [if_neg h, if_neg (by omega)]
  ·
   show updF (txF w T m) (sumF w m + w m) (T.getD m 0) _ = _
   rw [updF_ne, ih.2 k c hc]
   intro h
   obtain ⟨h1, h2⟩ := pos_inj (w := w) (Nat.le_of_lt hc) (Nat.le_refl _) h
   subst h1; omega
theorem row_at {xs : List Wr} {i : Nat} (hi : i < xs.length) : (∀ k, k < (csW xs 0).length → rowF (wdW xs) (csW xs 0) (csW xs i) i (pfW xs i) (sumF (wdW xs) k + wdW xs k) = if i = 0 then (csW xs 0).getD k 0 else bsdF (pfW xs i) (csW xs i) k) ∧
  ∀ k c, c < wdW xs k → rowF (wdW xs) (csW xs 0) (csW xs i) i (pfW xs i) (sumF (wdW xs) k + c) = (aloK (alW xs i) (csW xs i) k).getD c 0 := by
 have hw : ∀ k, cnt ([] ++ alW xs i) k ≤ wdW xs k := fun k => wdF_ge (al := alW xs) hi
 by_cases h0 : i = 0
 ·
  subst h0
  have e1 : rowF (wdW xs) (csW xs 0) (csW xs 0) 0 (pfW xs 0) = txF (wdW xs) (csW xs 0) (csW xs 0).length := rfl
  have ht := tx_at (w := wdW xs) (T := csW xs 0) (csW xs 0).length
  rw [e1]
  refine ⟨fun k hk => by rw [ht.1 k, if_pos hk, if_pos rfl], fun k c hc => by rw [ht.2 k c hc]; rfl⟩
 ·
  have hp := pr_at (w := wdW xs) (l := csW xs i) (pfW xs i) [] (fun _ => 0) (by rw [List.nil_append]; exact pfW_up) (by rw [List.nil_append]; exact (pfW_ok (xs := xs) (i := i)).1) (fun k => rfl) (fun k c _ => rfl)
  rw [List.nil_append] at hp
  have ha := al_at (l := csW xs i) (f0 := (pfW xs i).foldl (prF (wdW xs) (csW xs i)) (fun _ => 0)) hp.2 (alW xs i) [] hw (fun k => rfl) (fun k c hc => by
   show (pfW xs i).foldl (prF (wdW xs) (csW xs i)) (fun _ => 0) (sumF (wdW xs) k + c) = _
   rw [hp.2 k c hc]; rfl)
  rw [List.nil_append] at ha
  have e1 : rowF (wdW xs) (csW xs 0) (csW xs i) i (pfW xs i) = (alP (wdW xs) (csW xs i) ((pfW xs i).foldl (prF (wdW xs) (csW xs i)) (fun _ => 0)) (alW xs i)).1 := by unfold rowF; rw [if_neg h0]; rfl
  rw [e1]
  exact ⟨fun k _ => by rw [ha.1 k, hp.1 k, if_neg h0], ha.2⟩
theorem row_blk {xs : List Wr} {i : Nat} (hi : i < xs.length) : rowW xs i = rowK xs i ((csW xs 0).length + 1) := by
 obtain ⟨h1, h2⟩ := row_at hi
 have hle : ∀ k, (aloK (alW xs i) (csW xs i) k).length ≤ wdW xs k := fun k => by rw [aloK_len]; exact wdF_ge (al := alW xs) hi
 have hpart : ∀ k, (List.range (wdW xs k)).map (fun c => rowF (wdW xs) (csW xs 0) (csW xs i) i (pfW xs i) (sumF (wdW xs) k + c)) = aloK (alW xs i) (csW xs i) k ++ List.replicate (wdW xs k - (aloK (alW xs i) (csW xs i) k).length) 0 := fun k => by
  rw [← pad_map (hle k)]
  refine List.map_congr_left fun c hc => ?_
  exact h2 k c (List.mem_range.1 hc)
 have key : ∀ k, k ≤ (csW xs 0).length → rngL (sumF (wdW xs) k) (rowF (wdW xs) (csW xs 0) (csW xs i) i (pfW xs i)) = rowK xs i k := by
  intro k
  induction k with
  | zero => intro _; rfl
  | succ k ih =>
   intro hk
   rw [rowK_next, ← ih (by omega)]
   show rngL (sumF (wdW xs) k + (wdW xs k + 1)) _ = _
   rw [rngL_add]
   congr 1
   rw [List.range_succ, List.map_append, hpart k]
   unfold blkW blkF
   rw [if_pos (by omega)]
   congr 1
   simp only [List.map_cons, List.map_nil]
   rw [h1 k (by omega)]
 have hlo : loW xs = sumF (wdW xs) (csW xs 0).length + wdW xs (csW xs 0).length := by unfold loW; show sumF _ _ + (_ + 1) - 1 = _; omega
 unfold rowW
 rw [hlo, rngL_add, key _ (Nat.le_refl _), hpart, rowK_next]
 congr 1
 unfold blkW blkF
 rw [if_neg (by omega), List.append_nil]
 rfl
end
section
open Go Go.Kn Go.Proofs
def alR (l : List Int) (m : Nat) : Nat → List (Int × Int) → List Int
 | _, [] => []
 | n, p :: ps => (if (p.1 == 0 && (((if p.1 > 0 then n + 1 else n : Nat) : Int) == (m : Int))) = true then [l.getD (p.2 - 1).toNat 0] else []) ++ alR l m (if p.1 > 0 then n + 1 else n) ps
theorem alR_step {l : List Int} {m n : Nat} {ps : List (Int × Int)} {k : Nat} {p : Int × Int} (hp : ps[k]? = some p) : alR l m n (ps.drop k) = (if (p.1 == 0 && (((if p.1 > 0 then n + 1 else n : Nat) : Int) == (m : Int))) = true then [l.getD (p.2 - 1).toNat 0] else []) ++ alR l m (if p.1 > 0 then n + 1 else n) (ps.drop (k + 1)) := by
 rw [drop_cons hp]; rfl
theorem alR_end {l : List Int} {m n : Nat} {ps : List (Int × Int)} {k : Nat} (h : ps.length ≤ k) : alR l m n (ps.drop k) = [] := by rw [List.drop_eq_nil_of_le h]; rfl
theorem alR_pa {a b l : List Int} {m : Nat} : ∀ (f i k : Nat), alR l m i (paF a b f i k) = ((aloF (i : Int) (paF a b f i k)).filter fun q => q.1.toNat == m).map fun q => l.getD q.2.toNat 0
 | 0, _, _ => rfl
 | f + 1, i, k => by
  unfold paF
  split
  ·
   split
   ·
    unfold alR aloF
    have h1 : ((i + 1 : Nat) : Int) > 0 := by omega
    rw [if_pos h1, if_pos h1, show ((((i + 1 : Nat) : Int), ((k + 1 : Nat) : Int)).1 == 0) = false by simp; omega, Bool.false_and, if_neg (by decide), List.nil_append]
    exact alR_pa f (i + 1) (k + 1)
   ·
    split
    ·
     unfold alR aloF
     have h1 : ((i + 1 : Nat) : Int) > 0 := by omega
     rw [if_pos h1, if_pos h1, show ((((i + 1 : Nat) : Int), (0 : Int)).1 == 0) = false by simp; omega, Bool.false_and, if_neg (by decide), List.nil_append]
     exact alR_pa f (i + 1) k
    ·
     unfold alR aloF
     simp only [gt_iff_lt, Int.lt_irrefl, if_false, List.filter_cons]
     have ih := alR_pa (a := a) (b := b) (l := l) (m := m) f i (k + 1)
     by_cases hm : i = m
     ·
      subst hm
      rw [if_pos (by simp), if_pos (by simp), ih]; rfl
     ·
      rw [if_neg (by simp; omega), if_neg (by simp; omega), ih]; rfl
  ·
   rfl
theorem alR_pf {xs : List Wr} {i : Nat} {l : List Int} {m : Nat} : alR l m 0 (pfW xs i) = aloK (alW xs i) l m := by
 unfold aloK alW aloL pfW
 split
 ·
  rfl
 ·
  unfold pairR
  split
  ·
   rfl
  ·
   exact alR_pa _ 0 0
theorem bsd_hit {ps : List (Int × Int)} {l : List Int} {m k : Nat} {p : Int × Int} (h : (ps.take k).any (fun y => y.1 == (m : Int) + 1 && decide (y.2 > 0)) = false) (hp : ps[k]? = some p) (hy : (p.1 == (m : Int) + 1 && decide (p.2 > 0)) = true) : bsdF ps l m = l.getD (p.2 - 1).toNat 0 := by
 unfold bsdF
 have e : ps.find? (fun y => y.1 == (m : Int) + 1 && decide (y.2 > 0)) = some p := by
  have hk := (List.getElem?_eq_some_iff.1 hp)
  rw [← List.take_append_drop k ps, List.find?_append, drop_cons hp]
  have : (ps.take k).find? (fun y => y.1 == (m : Int) + 1 && decide (y.2 > 0)) = none := by
   rw [List.find?_eq_none]; intro y hy2 h3
   have := List.any_eq_false.1 h y hy2
   exact this h3
  rw [this, List.find?_cons, hy]; rfl
 rw [e]
theorem bsd_no {ps : List (Int × Int)} {l : List Int} {m : Nat} (h : ps.any (fun y => y.1 == (m : Int) + 1 && decide (y.2 > 0)) = false) : bsdF ps l m = 0 := by
 unfold bsdF
 have : ps.find? (fun y => y.1 == (m : Int) + 1 && decide (y.2 > 0)) = none := by
  rw [List.find?_eq_none]; intro y hy2 h3
  exact List.any_eq_false.1 h y hy2 h3
 rw [this]
end
section
open Go Go.Kn Go.Proofs
theorem fun_66 : Fun Tryz.prog 66 := .of Tryz.func66 (by kernel_rfl) (by kernel_rfl)
theorem q_alone {I : HMap} {av : Option Addr} {n c : Nat} {ps : List (Int × Int)} (hP : Sl I 2 encQ av n c ps) {bv : Option Addr} {n2 c2 : Nat} {ys : List Int} (hT : Sl I 1 encI bv n2 c2 ys) (hn : n ≤ 100000) (hn2 : n2 ≤ 100000) {q0 : Nat} (hq : ∀ p ∈ ps, QOK q0 n2 p) (m : Nat) : RetM Tryz.prog 63 [.slice av n c, .slice bv n2 c2, .int .i64 m] I [] (SlRes 1 encI (alR ys m 0 ps)) := by
 intro g H w hw
 refine enter Tryz.func63 rfl Tryz.ntmps63 rfl hw ?_
 have hIc := HLe.refl I
 have hlP := hP.len
 have hlT := hT.len
 refine zR (zA ?_)
 refine zN (zR ?_)
 refine zA ?_
 refine zN (zR ?_)
 refine zA (zN (X_seq (zR ?_)))
 refine zA (zN (X_block ?_))
 refine X_loopT [(0, _), (1, _), (2, _)] (.cons rfl (.cons rfl (.cons rfl .nil))) (fun T L0 mz E I' loc' => ∃ (k : Nat) (v7 : Value) (q : Nat) (nn : Nat) (dl : List Int) (L : Go.Kn.Loc), mz = n - k ∧ E = (7, v7) :: (8, .int .i64 nn) :: (9, .int .i64 k) :: T ∧ I = I' ∧ L = loc' ∧ k ≤ n ∧ OwnS 3 1 v7 q (dl.flatMap encI) L ∧ alR ys m 0 ps = dl ++ alR ys m nn (ps.drop k) ∧ nn ≤ k ∧ q ≤ k) _ _ _ _ ⟨0, _, 0, 0, [], [], rfl, rfl, rfl, rfl, Nat.zero_le _, OwnS.nil, rfl, Nat.le_refl _, Nat.le_refl _⟩ (.cons rfl (.cons rfl (.cons rfl (.cons rfl (.cons rfl (.cons rfl .nil)))))) (HLe.refl _) rfl ?_
 rintro mz E I' loc' ⟨k, v7, q, nn, dl, L, rfl, rfl, rfl, rfl, hk, hO, hdl, hnn, hqk⟩
 refine X_seq (zR (zM ?_))
 refine zM ?_
 refine zQ slt_88 ?_
 refine zC (zN ?_)
 refine zI ?_ ?_ <;> intro hc13
 ·
  have hlt_k : k < n := by have h := hc13; simp at h; omega
  obtain ⟨p, hp⟩ := hP.at hlt_k
  obtain ⟨qi, qk, hpe, hqi, hqk2, hq0⟩ := hq p (List.mem_of_getElem? hp)
  have hp1 : p.1 = qi := by rw [hpe]
  have hp2 : p.2 = qk := by rw [hpe]
  refine X_skip (at_then (X_seq (X_block ?_)))
  refine X_cutT [(0, _), (1, _), (2, _), (7, _), (9, _)] (.cons rfl (.cons rfl (.cons rfl (.cons rfl (.cons rfl .nil))))) (fun T L0 E I' loc' => ∃ (n1 : Nat), E = (8, .int .i64 n1) :: T ∧ I = I' ∧ L = loc' ∧ n1 = (if p.1 > 0 then nn + 1 else nn) ∧ n1 ≤ nn + 1) ?_ ?_
  ·
   refine zR (zM ?_)
   refine zM ?_
   refine zV (zX slt_88 hP) ?_
   refine zV (ev_indexArr rfl rfl art_94 (fun hg => by decide)) ?_
   refine zV (ev_load rfl sct_3 (fun hg => by exact Sl.get (j := 0) hP hp rfl)) ?_
   refine zC (zN ?_)
   refine zI ?_ ?_ <;> intro hc21
   ·
    refine X_region (zM ?_)
    refine zB ?_
    refine zA (XO_nil ?_)
    exact at_met2 _ _ ⟨nn + 1, rfl, rfl, rfl, by rw [if_pos (by simpa using hc21)], by omega⟩ (.cons rfl (.cons rfl (.cons rfl (.cons rfl (.cons rfl (.cons rfl .nil)))))) .refl
   refine X_skip ?_
   exact at_met2 _ _ ⟨nn, rfl, rfl, rfl, by rw [if_neg (by simpa using hc21)], by omega⟩ (.cons rfl (.cons rfl (.cons rfl (.cons rfl (.cons rfl (.cons rfl .nil)))))) .refl
  rintro E I' loc' ⟨n1, rfl, rfl, rfl, hn1, hn2⟩
  refine zR (zM ?_)
  refine zM ?_
  refine zV (zX slt_88 hP) ?_
  refine zV (ev_indexArr rfl rfl art_94 (fun hg => by decide)) ?_
  refine zV (ev_load rfl sct_3 (fun hg => by exact Sl.get (j := 0) hP hp rfl)) ?_
  refine zC ?_
  refine zM ?_
  refine XO_pushT 6 rfl rfl rfl ?_
  refine zK (ev_move rfl) ?_
  refine zK (ev_move rfl) ?_
  refine zK (ev_cmp rfl rfl rfl) ?_
  refine XO_and0 rfl rfl rfl rfl rfl ?_
  refine zN ?_
  refine zI ?_ ?_ <;> intro hc34
  ·
   have hyes : (p.1 == 0 && (((if p.1 > 0 then nn + 1 else nn : Nat) : Int) == (m : Int))) = true := by rw [← hn1]; exact hc34
   have hz : p.1 = 0 := by have h := hc34; simp at h; exact h.1
   refine X_region (zM ?_)
   refine zM ?_
   refine zM ?_
   refine zM ?_
   refine zV (zX slt_88 hP) ?_
   refine zV (ev_indexArr rfl rfl art_94 (fun hg => by decide)) ?_
   refine zV (ev_load rfl sct_3 (fun hg => by exact Sl.get (j := 1) hP hp rfl)) ?_
   refine zB ?_
   refine zV (zX slt_23 hT) ?_
   refine zV (ev_load rfl sct_3 (fun hg => by exact Sl.get0 (k := (p.2 - 1).toNat) hT (some_getD (d := 0) hT.len (by omega)) rfl)) ?_
   refine XO_buildSlice (ps := [(0, _)]) (m := [encI (ys.getD (p.2 - 1).toNat 0)]) elt_23 rfl (.cons rfl (.nil)) rfl (by simp [encI_len]) (by decide) (by decide) rfl rfl (fun b_45 => ?_)
   refine XO_append (v := _) (ys := [ys.getD (p.2 - 1).toNat 0].flatMap encI) (L := L) rfl rfl elt_23 hO (by repeat (first | exact .cons .here .nil | exact split_all | exact split_app | apply split_cons | apply split_skip)) ⟨rfl, fun _ => rfl, by repeat (first | exact Cells.here | apply Cells.there | apply Cells.app)⟩ (one_I _) (by omega) rfl rfl ?_
   intro v9 L9 hO9 _; rw [← List.flatMap_append] at hO9
   refine zA (XO_nil (at_block_n (at_then (X_region ?_))))
   refine zM ?_
   refine zB ?_
   refine zA (XO_nil ?_)
   exact at_met2 _ _ ⟨n - (k + 1), by omega, k + 1, _, _, _, _, _, rfl, rfl, rfl, rfl, by omega, hO9, by rw [hdl, alR_step hp, if_pos hyes, ← hn1, List.append_assoc], by omega, by omega⟩ (.cons rfl (.cons rfl (.cons rfl (.cons rfl (.cons rfl (.cons rfl .nil)))))) (by repeat (first | exact .refl | exact subL_left | refine subL_app ?_ | refine .drop ?_ | refine subL_add ?_))
  have hyes : ¬ (p.1 == 0 && (((if p.1 > 0 then nn + 1 else nn : Nat) : Int) == (m : Int))) = true := by rw [← hn1, hc34]; decide
  refine X_skip (at_block_n (at_then (X_region (zM ?_))))
  refine zB ?_
  refine zA (XO_nil ?_)
  exact at_met2 _ _ ⟨n - (k + 1), by omega, k + 1, _, _, _, _, _, rfl, rfl, rfl, rfl, by omega, hO, by rw [hdl, alR_step hp, if_neg hyes, ← hn1, List.nil_append], by omega, by omega⟩ (.cons rfl (.cons rfl (.cons rfl (.cons rfl (.cons rfl (.cons rfl .nil)))))) (by repeat (first | exact .refl | exact subL_left | refine subL_app ?_ | refine .drop ?_ | refine subL_add ?_))
 have hge_k : n ≤ k := by have h := hc13; simp at h; omega
 rw [alR_end (by omega), List.append_nil] at hdl
 refine X_exit (at_then_e (at_then_e (at_block_hit (at_then (zR (zM ?_))))))
 refine zA (zN (X_ret ?_))
 exact at_ret1 rfl rfl (fun w hw => by obtain ⟨I9, h91, h92, h93⟩ := OwnS.res hO encI_len (by decide) hw; exact ⟨_, I9, [], rfl, hIc.trans h91, h92, by rw [hdl]; exact h93⟩)
theorem q_besideP {I : HMap} {av : Option Addr} {n c : Nat} {ps : List (Int × Int)} (hP : Sl I 2 encQ av n c ps) {bv : Option Addr} {n2 c2 : Nat} {ys : List Int} (hT : Sl I 1 encI bv n2 c2 ys) (hn : n ≤ 100000) (hn2 : n2 ≤ 100000) {q0 : Nat} (hq : ∀ p ∈ ps, QOK q0 n2 p) (m : Nat) (hm : m ≤ 100000) : RetV Tryz.prog 64 [.slice av n c, .slice bv n2 c2, .int .i64 m] I (.int .i64 (bsdF ps ys m)) := by
 intro g H w hw
 refine enter Tryz.func64 rfl Tryz.ntmps64 rfl hw ?_
 have hlP := hP.len
 have hlT := hT.len
 refine zR (zA (zN (X_seq (zR ?_))))
 refine zA (zN (X_block ?_))
 refine X_loopT [(0, _), (1, _), (2, _)] (.cons rfl (.cons rfl (.cons rfl .nil))) (fun T L0 mz E I' loc' => ∃ (k : Nat), mz = n - k ∧ E = (7, .int .i64 k) :: T ∧ I = I' ∧ L0 = loc' ∧ k ≤ n ∧ (ps.take k).any (fun y => y.1 == (m : Int) + 1 && decide (y.2 > 0)) = false) _ _ _ _ ⟨0, rfl, rfl, rfl, rfl, Nat.zero_le _, rfl⟩ (.cons rfl (.cons rfl (.cons rfl (.cons rfl .nil)))) (HLe.refl _) rfl ?_
 rintro mz E I' loc' ⟨k, rfl, rfl, rfl, rfl, hk, hno⟩
 refine X_seq (zR (zM ?_))
 refine zM ?_
 refine zQ slt_88 ?_
 refine zC (zN ?_)
 refine zI ?_ ?_ <;> intro hc11
 ·
  have hlt_k : k < n := by have h := hc11; simp at h; omega
  obtain ⟨p, hp⟩ := hP.at hlt_k
  obtain ⟨qi, qk, hpe, hqi, hqk2, hq0⟩ := hq p (List.mem_of_getElem? hp)
  have hp1 : p.1 = qi := by rw [hpe]
  have hp2 : p.2 = qk := by rw [hpe]
  refine X_skip (at_then (X_seq (X_block (zR (zM ?_)))))
  refine zM ?_
  refine zV (zX slt_88 hP) ?_
  refine zV (ev_indexArr rfl rfl art_94 (fun hg => by decide)) ?_
  refine zV (ev_load rfl sct_3 (fun hg => by exact Sl.get (j := 0) hP hp rfl)) ?_
  refine zM ?_
  refine zB ?_
  refine zC ?_
  refine zM ?_
  refine XO_pushT 8 rfl rfl rfl ?_
  refine zK (ev_move rfl) ?_
  refine zK (ev_move rfl) ?_
  refine zK (zX slt_88 hP) ?_
  refine zK (ev_indexArr rfl rfl art_94 (fun hg => by decide)) ?_
  refine zK (ev_load rfl sct_3 (fun hg => by exact Sl.get (j := 1) hP hp rfl)) ?_
  refine zK (ev_cmp rfl rfl rfl) ?_
  refine XO_and0 rfl rfl rfl rfl rfl ?_
  refine zN ?_
  refine zI ?_ ?_ <;> intro hc29
  ·
   have hpos : p.2 > 0 := by have h := hc29; simp at h; exact h.2
   refine zR (zM ?_)
   refine zM ?_
   refine zM ?_
   refine zV (zX slt_88 hP) ?_
   refine zV (ev_indexArr rfl rfl art_94 (fun hg => by decide)) ?_
   refine zV (ev_load rfl sct_3 (fun hg => by exact Sl.get (j := 1) hP hp rfl)) ?_
   refine zB ?_
   refine zV (zX slt_23 hT) ?_
   refine zV (ev_load rfl sct_3 (fun hg => by exact Sl.get0 (k := (p.2 - 1).toNat) hT (some_getD (d := 0) hT.len (by omega)) rfl)) ?_
   refine zA (zN (X_ret (at_block_r (at_then_r (at_then_r (at_block_r (at_then_r ?_)))))))
   exact at_ret1 rfl rfl (fun w hw => ⟨by rw [bsd_hit hno hp hc29], hw.drop⟩)
  refine X_skip (at_block_n (at_then (X_region (zM ?_))))
  refine zB ?_
  refine zA (XO_nil ?_)
  exact at_met2 _ _ ⟨n - (k + 1), by omega, k + 1, rfl, rfl, rfl, rfl, by omega, any_no hp hno hc29⟩ (.cons rfl (.cons rfl (.cons rfl (.cons rfl .nil)))) (by repeat (first | exact .refl | exact subL_left | refine subL_app ?_ | refine .drop ?_ | refine subL_add ?_))
 have hge_k : n ≤ k := by have h := hc11; simp at h; omega
 rw [take_all hlP hge_k] at hno
 refine X_exit (at_then_e (at_then_e (at_block_hit (at_then (zR (zA (zN ?_)))))))
 refine X_ret ?_
 exact at_ret1 rfl rfl (fun w hw => ⟨by rw [bsd_no hno], hw.drop⟩)
theorem q_filled {I : HMap} {av : Option Addr} {n c : Nat} {xs : List Int} (hS : Sl I 1 encI av n c xs) (hn : n ≤ 100000) (m : Nat) (hm : m ≤ 100000) : RetM Tryz.prog 65 [.slice av n c, .int .i64 m] I [] (SlRes 1 encI (xs ++ List.replicate (m - xs.length) 0)) := by
 intro g H w hw
 refine enter Tryz.func65 rfl Tryz.ntmps65 rfl hw ?_
 have hIc := HLe.refl I
 have hlS := hS.len
 subst hlS
 refine zR (zA ?_)
 refine zN (zR ?_)
 refine XO_buildSlice (ps := []) (m := []) elt_23 rfl (.nil) rfl (by simp) (by decide) (by decide) rfl rfl (fun b_6 => ?_)
 refine zM ?_
 refine XO_append (v := _) (ys := xs.flatMap encI) (L := [(b_6, _)]) rfl rfl elt_23 OwnS.new (by repeat (first | exact .cons .here .nil | exact split_all | exact split_app | apply split_cons | apply split_skip)) (hS.src encI_len) (one_I _) (by omega) rfl rfl ?_
 intro v5 L5 hO5 _; rw [List.nil_append, Nat.zero_add] at hO5
 refine zA (XO_nil ?_)
 obtain ⟨a5, k5, e5⟩ := hO5.shape
 subst e5
 refine at_then (X_seq (X_block ?_))
 refine X_loopT [(1, _)] (.cons rfl .nil) (fun T L0 mz E I' loc' => ∃ (j : Nat) (av5 : Option Addr) (c5 : Nat) (L : Go.Kn.Loc), mz = (m - xs.length - j) ∧ E = (5, .slice av5 (xs.length + j) c5) :: T ∧ I = I' ∧ L = loc' ∧ OwnS 3 1 (.slice av5 (xs.length + j) c5) (xs.length + j) ((xs ++ List.replicate j 0).flatMap encI) L ∧ j ≤ m - xs.length) _ _ _ _ ⟨0, a5, k5, _, rfl, rfl, rfl, rfl, by rw [List.append_nil]; simpa using hO5, by omega⟩ (.cons rfl (.cons rfl .nil)) (HLe.refl _) rfl ?_
 rintro mz E I' loc' ⟨j, av5, c5, L, rfl, rfl, rfl, rfl, hO, hj⟩
 refine X_seq (zR (zM ?_))
 refine zQ slt_23 ?_
 refine zM ?_
 refine zC (zN ?_)
 refine zI ?_ ?_ <;> intro hc12
 ·
  have hlt : xs.length + j < m := by have h := hc12; simp at h; omega
  refine X_skip (at_then (X_block (X_region (zM ?_))))
  refine XO_buildSlice (ps := [(0, _)]) (m := [encI 0]) elt_23 rfl (.cons rfl (.nil)) rfl (by simp [encI_len]) (by decide) (by decide) rfl rfl (fun b_14 => ?_)
  refine XO_append (v := _) (ys := [(0 : Int)].flatMap encI) (L := L) rfl rfl elt_23 hO (by repeat (first | exact .cons .here .nil | exact split_all | exact split_app | apply split_cons | apply split_skip)) ⟨rfl, fun _ => rfl, by repeat (first | exact Cells.here | apply Cells.there | apply Cells.app)⟩ (one_I _) (by omega) rfl rfl ?_
  intro v9 L9 hO9 _; rw [← List.flatMap_append] at hO9
  refine zA (XO_nil (at_block_n ?_))
  obtain ⟨a9, k9, e9⟩ := hO9.shape
  subst e9
  exact at_met2 _ _ ⟨m - xs.length - (j + 1), by omega, j + 1, a9, k9, L9, rfl, rfl, rfl, rfl, by rw [List.append_assoc, ← List.replicate_succ'] at hO9; exact hO9, by omega⟩ (.cons rfl (.cons rfl .nil)) (by repeat (first | exact .refl | exact subL_left | refine subL_app ?_ | refine .drop ?_ | refine subL_add ?_))
 obtain rfl : j = m - xs.length := by have h := hc12; simp at h; omega
 refine X_exit (at_then_e (at_then_e (at_block_hit (at_then (zR (zM ?_))))))
 refine zA (zN (X_ret ?_))
 exact at_ret1 rfl rfl (fun w hw => by obtain ⟨I9, h91, h92, h93⟩ := OwnS.res hO encI_len (by decide) hw; exact ⟨_, I9, [], rfl, hIc.trans h91, h92, h93⟩)
theorem q_sameI {I : HMap} {av : Option Addr} {n c : Nat} {xs : List Int} (hS : Sl I 1 encI av n c xs) {bv : Option Addr} {n2 c2 : Nat} {ys : List Int} (hT : Sl I 1 encI bv n2 c2 ys) (hn : n ≤ 100000) : RetV Tryz.prog 66 [.slice av n c, .slice bv n2 c2] I (.bool (decide (xs = ys))) := by
 intro g H w hw
 refine enter Tryz.func66 rfl Tryz.ntmps66 rfl hw ?_
 have hl1 := hS.len
 have hl2 := hT.len
 refine zR (zA (zN (X_seq (zR ?_))))
 refine zM ?_
 refine zQ slt_23 ?_
 refine zM ?_
 refine zQ slt_23 ?_
 refine zC (zN ?_)
 refine zI ?_ ?_ <;> intro hc10
 ·
  have hne : xs ≠ ys := fun e => by have h := hc10; subst e; simp at h; omega
  refine zR (zA (zN (X_ret (at_then_r ?_))))
  exact at_ret1 rfl rfl (fun w hw => ⟨by rw [decide_eq_false hne], hw.drop⟩)
 have hnn : n = n2 := by have h := hc10; simp at h; omega
 refine X_skip (at_then (X_seq (zR (zA (zN (X_block ?_))))))
 refine X_loopT [(0, _), (1, _)] (.cons rfl (.cons rfl .nil)) (fun T L0 mz E I' loc' => ∃ (k : Nat), mz = n - k ∧ E = (5, .int .i64 k) :: T ∧ I = I' ∧ L0 = loc' ∧ k ≤ n ∧ xs.take k = ys.take k) _ _ _ _ ⟨0, rfl, rfl, rfl, rfl, Nat.zero_le _, rfl⟩ (.cons rfl (.cons rfl (.cons rfl .nil))) (HLe.refl _) rfl ?_
 rintro mz E I' loc' ⟨k, rfl, rfl, rfl, rfl, hk, hall⟩
 refine X_seq (zR (zM ?_))
 refine zM ?_
 refine zQ slt_23 ?_
 refine zC (zN ?_)
 refine zI ?_ ?_ <;> intro hc14
 ·
  have hlt_k : k < n := by have h := hc14; simp at h; omega
  obtain ⟨x, hx⟩ := hS.at hlt_k
  obtain ⟨y, hy⟩ := hT.at (show k < n2 by omega)
  refine X_skip (at_then (X_seq (X_block (X_seq ?_))))
  refine X_draw mixed (by kernel_rfl) ?_
  refine XQ_v0 (ev_move rfl) rfl rfl rfl ?_
  refine XQ_v0 (ev_move rfl) rfl rfl rfl ?_
  refine XQ_v0 (zX slt_23 hS) rfl rfl rfl ?_
  refine XQ_v0 (ev_load rfl sct_3 (fun hg => by exact Sl.get0 hS hx rfl)) rfl rfl rfl ?_
  refine XQ_v0 (ev_move rfl) rfl rfl rfl ?_
  refine XQ_v0 (ev_move rfl) rfl rfl rfl ?_
  refine XQ_v0 (zX slt_23 hT) rfl rfl rfl ?_
  refine XQ_v0 (ev_load rfl sct_3 (fun hg => by exact Sl.get0 hT hy rfl)) rfl rfl rfl ?_
  refine XQ_v0 (ev_cmp rfl rfl rfl) rfl rfl rfl ?_
  refine XQ_nil ?_
  refine at_then ?_
  refine zI ?_ ?_ <;> intro hc25
  ·
   have hne : xs ≠ ys := fun e => by subst e; rw [hx] at hy; cases hy; simp at hc25
   refine zR (zA (zN (X_ret (at_block_r (at_then_r (at_then_r (at_block_r ?_)))))))
   refine at_then_r ?_
   exact at_ret1 rfl rfl (fun w hw => ⟨by rw [decide_eq_false hne], hw.drop⟩)
  have hxy : x = y := by simpa using hc25
  refine X_skip (at_block_n (at_then (X_region (zM ?_))))
  refine zV (ev_arB rfl rfl rfl (fun _ => by omega)) ?_
  refine zA (XO_nil ?_)
  exact at_met2 _ _ ⟨n - (k + 1), by omega, k + 1, rfl, rfl, rfl, rfl, by omega, by rw [List.take_add_one, List.take_add_one, hall, hx, hy, hxy]⟩ (.cons rfl (.cons rfl (.cons rfl .nil))) (by repeat (first | exact .refl | exact subL_left | refine subL_app ?_ | refine .drop ?_ | refine subL_add ?_))
 have hge_k : n ≤ k := by have h := hc14; simp at h; omega
 have heq : xs = ys := by rw [List.take_of_length_le (by omega), List.take_of_length_le (by omega)] at hall; exact hall
 refine X_exit (at_then_e (at_then_e (at_block_hit (at_then (zR (zA (zN ?_)))))))
 refine X_ret ?_
 exact at_ret1 rfl rfl (fun w hw => ⟨by rw [decide_eq_true heq], hw.drop⟩)
theorem q_sameR {I : HMap} {av : Option Addr} {n c : Nat} {xs : List (List Int)} (hS : SlN I av n c xs) {bv : Option Addr} {n2 c2 : Nat} {ys : List (List Int)} (hT : SlN I bv n2 c2 ys) (hn : n ≤ 100000) (hb : ∀ v ∈ xs, v.length ≤ 100000) : RetV Tryz.prog 32 [.slice av n c, .slice bv n2 c2] I (.bool (decide (xs = ys))) := by
 intro g H w hw
 refine enter Tryz.func32 rfl Tryz.ntmps32 rfl hw ?_
 have hl1 := hS.len
 have hl2 := hT.len
 obtain ⟨hs, hS⟩ := hS
 obtain ⟨ks, hT⟩ := hT
 have hHA := hS.1
 have hHB := hT.1
 refine zR (zA (zN (X_seq (zR ?_))))
 refine zM ?_
 refine zQ slt_22 ?_
 refine zM ?_
 refine zQ slt_22 ?_
 refine zC (zN ?_)
 refine zI ?_ ?_ <;> intro hc10
 ·
  have hne : xs ≠ ys := fun e => by have h := hc10; subst e; simp at h; omega
  refine zR (zA (zN (X_ret (at_then_r ?_))))
  exact at_ret1 rfl rfl (fun w hw => ⟨by rw [decide_eq_false hne], hw.drop⟩)
 have hnn : n = n2 := by have h := hc10; simp at h; omega
 refine X_skip (at_then (X_seq (zR (zA (zN (X_block ?_))))))
 refine X_loopT [(0, _), (1, _)] (.cons rfl (.cons rfl .nil)) (fun T L0 mz E I' loc' => ∃ (k : Nat), mz = n - k ∧ E = (5, .int .i64 k) :: T ∧ I = I' ∧ L0 = loc' ∧ k ≤ n ∧ xs.take k = ys.take k) _ _ _ _ ⟨0, rfl, rfl, rfl, rfl, Nat.zero_le _, rfl⟩ (.cons rfl (.cons rfl (.cons rfl .nil))) (HLe.refl _) rfl ?_
 rintro mz E I' loc' ⟨k, rfl, rfl, rfl, rfl, hk, hall⟩
 refine X_seq (zR (zM ?_))
 refine zM ?_
 refine zQ slt_22 ?_
 refine zC (zN ?_)
 refine zI ?_ ?_ <;> intro hc14
 ·
  have hlt_k : k < n := by have h := hc14; simp at h; omega
  obtain ⟨x, v, hx, hv, hQ⟩ := hS.at hlt_k
  obtain ⟨y, v2, hy, hv2, hR⟩ := hT.at (show k < n2 by omega)
  refine X_skip (at_then (X_seq (X_block (X_seq ?_))))
  refine X_draw mixed (by kernel_rfl) ?_
  refine XQ_v0 (ev_move rfl) rfl rfl rfl ?_
  refine XQ_v0 (ev_move rfl) rfl rfl rfl ?_
  refine XQ_v0 (zX slt_22 hHA) rfl rfl rfl ?_
  refine XQ_v0 (ev_load rfl sct_23 (fun hg => by exact Sl.get0 hHA hx rfl)) rfl rfl rfl ?_
  refine XQ_v0 (ev_move rfl) rfl rfl rfl ?_
  refine XQ_v0 (ev_move rfl) rfl rfl rfl ?_
  refine XQ_v0 (zX slt_22 hHB) rfl rfl rfl ?_
  refine XQ_v0 (ev_load rfl sct_23 (fun hg => by exact Sl.get0 hHB hy rfl)) rfl rfl rfl ?_
  refine XQ_callV0 (cap := []) (vs := [_, _]) rfl rfl fun_66 (q_sameI hQ hR (by rw [← hQ.len]; exact hb v (List.mem_of_getElem? hv))) rfl rfl ?_
  refine XQ_v0 (ev_not rfl) rfl rfl rfl ?_
  refine XQ_nil ?_
  refine at_then ?_
  refine zI ?_ ?_ <;> intro hc26
  ·
   have hne : xs ≠ ys := fun e => by subst e; rw [hv] at hv2; cases hv2; simp at hc26
   refine zR (zA (zN (X_ret (at_block_r (at_then_r (at_then_r (at_block_r ?_)))))))
   refine at_then_r ?_
   exact at_ret1 rfl rfl (fun w hw => ⟨by rw [decide_eq_false hne], hw.drop⟩)
  have hxy : v = v2 := by simpa using hc26
  refine X_skip (at_block_n (at_then (X_region (zM ?_))))
  refine zV (ev_arB rfl rfl rfl (fun _ => by omega)) ?_
  refine zA (XO_nil ?_)
  exact at_met2 _ _ ⟨n - (k + 1), by omega, k + 1, rfl, rfl, rfl, rfl, by omega, by rw [List.take_add_one, List.take_add_one, hall, hv, hv2, hxy]⟩ (.cons rfl (.cons rfl (.cons rfl .nil))) (by repeat (first | exact .refl | exact subL_left | refine subL_app ?_ | refine .drop ?_ | refine subL_add ?_))
 have hge_k : n ≤ k := by have h := hc14; simp at h; omega
 have heq : xs = ys := by rw [List.take_of_length_le (by omega), List.take_of_length_le (by omega)] at hall; exact hall
 refine X_exit (at_then_e (at_then_e (at_block_hit (at_then (zR (zA (zN ?_)))))))
 refine X_ret ?_
 exact at_ret1 rfl rfl (fun w hw => ⟨by rw [decide_eq_true heq], hw.drop⟩)
end
end Go.Proofs.YthcffaheamikgaaGreatDoor
