/- editionEmended_holds, part H of the proof: what its theorems say holds without further conditions. -/
import Derived.ProofKit
import Derived.Deep.Slices
import Derived.Test.YthcffaheamikgaaDoorRows
import Derived.LaidMore
import Derived.MakeChecks
import Derived.Lib.LaidTab
import Derived.Test.YthcffaheamikgaaDoorCards
import Derived.Test.YthcffaheamikgaaDoorTie
import Derived.Stop.Joined
import Derived.SevenTiedAt
import Derived.Test.YthcffaheamikgaaDoorEBG
section
namespace Go.Proofs.YthcffaheamikgaaDoor
open Go Go.Kn Go.Proofs
theorem which_at {z : Int} {n : Nat} (h : 0 ≤ z ∧ z ≤ 255) (hn : n ≠ 0) : ∃ w : Nat, (IntKind.i64.wrap z).tmod n = w ∧ w < n := by
 have e : IntKind.i64.wrap z = z := by unfold IntKind.wrap IntKind.signed IntKind.bits; simp; omega
 rw [e]
 have h0 : (0 : Int) < n := by omega
 have h1 := Int.tmod_nonneg (n : Int) h.1
 have h2 := Int.tmod_lt_of_pos z h0
 exact ⟨(z.tmod n).toNat, by omega, by omega⟩
set_option maxHeartbeats 4000000 in
theorem w_emendedLaw {I : HMap} {av : Option Addr} {n c : Nat} {xs : List Int} (hS : Sl I 1 encI av n c xs) {bv : Option Addr} {n2 c2 : Nat} {rows : List (List Int)} (hVn : SlN I bv n2 c2 rows) (hDb : DebOK I) {dv : Option Addr} {n3 c3 : Nat} {es : List Em} (hEs : Sl I 3 encEm dv n3 c3 es) (no z : Int) (hz : 0 ≤ z ∧ z ≤ 255) : RetV Tryd.prog 6 [.slice bv n2 c2, .int .i64 no, .slice av n c, .slice dv n3 c3, .int .u8 z] I (.bool true) := by
 intro g H w hw
 refine enter Tryd.func6 rfl Tryd.ntmps6 rfl hw ?_
 have hIc := HLe.refl I
 have hlV := hVn.len
 subst hlV
 have hlE := hEs.len
 subst hlE
 obtain ⟨hs, hV⟩ := id hVn
 have hH := hV.1
 refine X_seq (X_region ?_)
 refine XO_v0 (ev_assign rfl) rfl rfl rfl ?_
 refine XO_nil (at_then ?_)
 refine X_seq ?_
 refine X_seq (X_region ?_)
 refine XO_callV0 (cap := []) (vs := []) rfl rfl fun_8 (w_sane hDb) rfl rfl ?_
 refine XO_v0 (ev_not rfl) rfl rfl rfl ?_
 refine XO_nil (at_then ?_)
 refine X_cond rfl (fun hc21 => ?_) (fun hc21 => ?_)
 ·
  cases hc21
 ·
  refine X_skip ?_
  refine at_then ?_
  refine X_seq ?_
  refine X_seq (X_region ?_)
  refine XO_v0 (ev_move rfl) rfl rfl rfl ?_
  refine XO_v0 (ev_move rfl) rfl rfl rfl ?_
  refine XO_v0 (ev_move rfl) rfl rfl rfl ?_
  refine XO_callV0 (cap := []) (vs := [_, _, _]) rfl rfl fun_9 (w_few43 hVn _ _ _ _ _ _) rfl rfl ?_
  refine XO_v0 (ev_not rfl) rfl rfl rfl ?_
  refine XO_nil (at_then ?_)
  refine X_cond rfl (fun hc26 => ?_) (fun hc26 => ?_)
  ·
   refine X_seq (X_region ?_)
   refine XO_v0 (ev_assign rfl) rfl rfl rfl ?_
   refine XO_nil (at_then ?_)
   refine X_ret ?_
   refine at_then_r ?_
   exact at_ret1 rfl rfl (fun w hw => ⟨by rfl, (hw.mono hIc).drop⟩)
  ·
   have hfw : fewR rows = true ∧ n ≤ 40 ∧ es.length ≤ 40 := by have h := hc26; simp only [Bool.not_eq_false', Bool.and_eq_true, decide_eq_true_eq] at h; exact ⟨h.1.1, by omega, by omega⟩
   have hn2 : rows.length ≤ 100000 := by have h := few_len hfw.1; omega
   refine X_skip ?_
   refine at_then ?_
   refine X_seq (X_region ?_)
   refine XO_v0 (ev_move rfl) rfl rfl rfl ?_
   refine XO_v0 (ev_move rfl) rfl rfl rfl ?_
   refine XO_v0 (ev_move rfl) rfl rfl rfl ?_
   refine XO_callM (cap := []) (vs := [_, _, _, _]) rfl rfl fun_14 .nil (w_Make (es := []) hS hVn hn2 .nil (by decide) (by omega) hDb no) rfl rfl ?_
   rintro vv1 I1 L1 hI1 hMQ
   have hS := hS.mono hI1
   have hVn := hVn.mono hI1
   have hV := hV.mono hI1
   have hH := hH.mono hI1
   have hDb := hDb.mono hI1
   have hEs := hEs.mono hI1
   have hIc := hIc.trans hI1
   obtain ⟨rfl, no2, cl2, es2, rd2, a1, q1, c1, a2, q2, c9, a3, q3, c3, rfl, hM1, hM2, hM3, hMy, hMn⟩ := hMQ.opn
   refine XO_v0 (ev_move rfl) rfl rfl rfl ?_
   refine XO_v0 (ev_extract rfl rfl) rfl rfl rfl ?_
   refine XO_v0 (ev_extract rfl rfl) rfl rfl rfl ?_
   refine XO_alloc zt_40 rfl rfl (fun b_11 => ?_)
   refine XO_storeA rfl rfl szt_40 rfl rfl rfl rfl (by repeat (first | exact Upd.here | apply Upd.there | apply upd_app)) ?_
   refine XO_v0 (ev_assign rfl) rfl rfl rfl ?_
   refine XO_nil (at_then ?_)
   refine X_seq (X_region ?_)
   refine XO_v0 (ev_move rfl) rfl rfl rfl ?_
   refine XO_v0 (ev_move rfl) rfl rfl rfl ?_
   refine XO_v0 (ev_move rfl) rfl rfl rfl ?_
   refine XO_v0 (ev_move rfl) rfl rfl rfl ?_
   refine XO_callM (cap := []) (vs := [_, _, _, _]) rfl rfl fun_14 .nil (w_Make hS hVn hn2 hEs (by omega) (by omega) hDb no) rfl rfl ?_
   rintro vv2 I2 L2 hI2 hMQ2
   have hS := hS.mono hI2
   have hVn := hVn.mono hI2
   have hV := hV.mono hI2
   have hH := hH.mono hI2
   have hDb := hDb.mono hI2
   have hEs := hEs.mono hI2
   have hM1 := hM1.mono hI2
   have hM2 := hM2.mono hI2
   have hM3 := hM3.mono hI2
   have hIc := hIc.trans hI2
   obtain ⟨rfl, no3, cl3, es3, rd3, b1, r1, d1, b2, r2, d9, b3, r3, d3, rfl, hN1, hN2, hN3, hNy, hNn⟩ := hMQ2.opn
   refine XO_v0 (ev_move rfl) rfl rfl rfl ?_
   refine XO_v0 (ev_extract rfl rfl) rfl rfl rfl ?_
   refine XO_v0 (ev_extract rfl rfl) rfl rfl rfl ?_
   refine XO_alloc zt_40 rfl rfl (fun b_13 => ?_)
   refine XO_storeA rfl rfl szt_40 rfl rfl rfl rfl (by repeat (first | exact Upd.here | apply Upd.there | apply upd_app)) ?_
   refine XO_v0 (ev_assign rfl) rfl rfl rfl ?_
   refine XO_nil (at_then ?_)
   refine X_seq ?_
   refine X_seq (X_region ?_)
   refine XO_v0 (ev_move rfl) rfl rfl rfl ?_
   refine XO_v0 (ev_cmp rfl rfl rfl) rfl rfl rfl ?_
   refine XO_v0 (ev_move rfl) rfl rfl rfl ?_
   refine XO_pushF 2 rfl rfl rfl ?_
   refine XO_v1 (ev_move rfl) (.some rfl rfl rfl rfl gbf) rfl rfl rfl ?_
   refine XO_v1 (ev_cmp rfl rfl rfl) (.some rfl rfl rfl rfl gbf) rfl rfl rfl ?_
   refine XO_or0 rfl rfl rfl rfl rfl ?_
   refine XO_nil (at_then ?_)
   refine X_cond rfl (fun hc47 => ?_) (fun hc47 => ?_)
   ·
    refine X_seq (X_region ?_)
    refine XO_v0 (ev_assign rfl) rfl rfl rfl ?_
    refine XO_nil (at_then ?_)
    refine X_ret ?_
    refine at_then_r ?_
    exact at_ret1 rfl rfl (fun w hw => ⟨by rfl, (hw.mono hIc).drop⟩)
   ·
    have hM0 : makE rows no xs [] = 0 := by have h := hc47; simp only [Bool.or_eq_false_iff, bne_eq_false_iff_eq] at h; exact h.1
    have hN0 : makE rows no xs es = 0 := by have h := hc47; simp only [Bool.or_eq_false_iff, bne_eq_false_iff_eq] at h; exact h.2
    have hcE : costE rows xs = 0 := mak_ok hM0
    have hr0 := cost_rows hcE
    have hc0 : chkN rows.length xs = 0 := by have h := hcE; unfold costE at h; rw [if_neg (by omega)] at h; exact h
    obtain ⟨hr1, hr6, hr64, hrr⟩ := rows_ok hr0
    obtain ⟨x0, v0, hx0, hv0, hQ0⟩ := hV.at (k := 0) (by omega)
    have hg0 : rows.getD 0 [] = v0 := getD_of hv0
    have hQ0l := hQ0.len
    have hg1 : (rows.getD 0 []).length = v0.length := by rw [hg0]
    obtain ⟨-, -, -, rfl⟩ := hMy hM0
    have hq3 := hM3.len
    rw [reads_len] at hq3
    subst hq3
    obtain ⟨ey1, ey2, ey3, ey4⟩ := hNy hN0
    have hr3 := hN3.len
    rw [ey4, reads_len] at hr3
    subst hr3
    rw [ey4] at hN3
    have hm1 : r1 ≤ 100000 := by rw [← hN1.len, ey2, hS.len]; omega
    have hm2 : r2 ≤ 100000 := by rw [← hN2.len, ey3]; omega
    have hm3 : (rows.getD 0 []).length ≤ 100000 := by omega
    have hE : edcF rows no3 cl3 es3 (readsL rows xs es) = 0 := by rw [ey1, ey2, ey3]; exact edc_3 hN0 rfl
    have hgd := mak_good hN0
    refine X_skip ?_
    refine at_then ?_
    refine X_seq ?_
    refine X_seq ?_
    refine X_draw mixed (by kernel_rfl) ?_
    refine XQ_v0 (ev_move rfl) rfl rfl rfl ?_
    refine XQ_v0 (ev_lenS rfl slt_22) rfl rfl rfl ?_
    refine XQ_v0 (ev_cmp rfl rfl rfl) rfl rfl rfl ?_
    refine XQ_v0 (ev_move rfl) rfl rfl rfl ?_
    refine XQ_pushF 3 rfl rfl rfl ?_
    refine XQ_v1 (ev_fieldAddr rfl fld_40_3) (.some rfl rfl rfl rfl gbf) rfl rfl rfl ?_
    refine XQ_v1 (ev_load rfl sct_23 (fun hg => by exact Cell.h1 rfl)) (.some rfl rfl rfl rfl gbf) rfl rfl rfl ?_
    refine XQ_v1 (ev_lenS rfl slt_23) (.some rfl rfl rfl rfl gbf) rfl rfl rfl ?_
    refine XQ_v1 (ev_move rfl) (.some rfl rfl rfl rfl gbf) rfl rfl rfl ?_
    refine XQ_v1 (ev_indexSl rfl rfl slt_22 hH (fun hg => by first | omega | (simp [conj] at hg; omega))) (.some rfl rfl rfl rfl gbf) rfl rfl rfl ?_
    refine XQ_v1 (ev_load rfl sct_23 (fun hg => by exact Sl.get0 hH hx0 rfl)) (.some rfl rfl rfl rfl gbf) rfl rfl rfl ?_
    refine XQ_v1 (ev_lenS rfl slt_23) (.some rfl rfl rfl rfl gbf) rfl rfl rfl ?_
    refine XQ_v1 (ev_cmp rfl rfl rfl) (.some rfl rfl rfl rfl gbf) rfl rfl rfl ?_
    refine XQ_or0 rfl rfl rfl rfl rfl ?_
    refine XQ_v0 (ev_move rfl) rfl rfl rfl ?_
    refine XQ_pushF 13 rfl rfl rfl ?_
    refine XQ_v1 (ev_fieldAddr rfl fld_40_3) (.some rfl rfl rfl rfl gbf) rfl rfl rfl ?_
    refine XQ_v1 (ev_load rfl sct_23 (fun hg => by exact Cell.h0 rfl)) (.some rfl rfl rfl rfl gbf) rfl rfl rfl ?_
    refine XQ_v1 (ev_lenS rfl slt_23) (.some rfl rfl rfl rfl gbf) rfl rfl rfl ?_
    refine XQ_v1 (ev_move rfl) (.some rfl rfl rfl rfl gbf) rfl rfl rfl ?_
    refine XQ_v1 (ev_indexSl rfl rfl slt_22 hH (fun hg => by first | omega | (simp [conj] at hg; omega))) (.some rfl rfl rfl rfl gbf) rfl rfl rfl ?_
    refine XQ_v1 (ev_load rfl sct_23 (fun hg => by exact Sl.get0 hH hx0 rfl)) (.some rfl rfl rfl rfl gbf) rfl rfl rfl ?_
    refine XQ_v1 (ev_lenS rfl slt_23) (.some rfl rfl rfl rfl gbf) rfl rfl rfl ?_
    refine XQ_v1 (ev_cmp rfl rfl rfl) (.some rfl rfl rfl rfl gbf) rfl rfl rfl ?_
    refine XQ_or0 rfl rfl rfl rfl rfl ?_
    refine XQ_v0 (ev_move rfl) rfl rfl rfl ?_
    refine XQ_pushF 23 rfl rfl rfl ?_
    refine XQ_v1 (ev_move rfl) (.some rfl rfl rfl rfl gbf) rfl rfl rfl ?_
    refine XQ_v1 (ev_loadA rfl agt_40 (fun hg => by exact Cells.g0) rfl) (.some rfl rfl rfl rfl gbf) rfl rfl rfl ?_
    refine XQ_callV1 (cap := []) (vs := [_, _]) rfl rfl fun_17 (fun hg => w_edChk hVn hn2 hN1 hN2 hN3 hm1 hm2 hm3 no3 hDb) (.some rfl rfl rfl rfl gbf) rfl rfl ?_
    refine XQ_v1 (ev_cmp rfl rfl rfl) (.some rfl rfl rfl rfl gbf) rfl rfl rfl ?_
    refine XQ_or0 rfl rfl rfl rfl rfl ?_
    refine XQ_nil ?_
    refine at_then ?_
    refine X_cond rfl (fun hc76 => ?_) (fun hc76 => ?_)
    ·
     rw [hE] at hc76
     have e9 : (((rows.getD 0 []).length : Nat) : Int) = (x0.n : Int) := by omega
     rw [e9] at hc76
     simp only [bne_self_eq_false, Bool.or_false, beq_iff_eq] at hc76
     omega
    ·
     refine X_skip ?_
     refine at_then ?_
     refine X_seq (X_region ?_)
     refine XO_buildSlice (ps := []) (m := []) elt_23 rfl (.nil) rfl (by simp) (by decide) (by decide) rfl rfl (fun b_77 => ?_)
     refine XO_v0 (ev_fieldAddr rfl fld_40_3) rfl rfl rfl ?_
     refine XO_v0 (ev_load rfl sct_23 (fun hg => by exact Cell.h2 rfl)) rfl rfl rfl ?_
     refine XO_append (v := _) (ys := (readsL rows xs []).flatMap encI) (L := [(b_77, _)]) rfl rfl elt_23 OwnS.new (by repeat (first | exact .cons .here .nil | exact split_all | exact split_app | apply split_cons | apply split_skip)) (hM3.src encI_len) (one_I _) (by omega) rfl rfl ?_
     intro v1 L1 hO1 _; rw [List.nil_append, Nat.zero_add] at hO1; obtain ⟨wa, wc, rfl⟩ := valn hO1
     refine XO_v0 (ev_assign rfl) rfl rfl rfl ?_
     refine XO_nil (at_then ?_)
     refine X_seq ?_
     refine X_seq ?_
     refine X_locEq (loc' := L1 ++ ((b_13, .cells (encEd no3 b1 r1 d1 b2 r2 d9 b3 (rows.getD 0 []).length d3).toArray 40 (0, 0)) :: _)) rfl ?_
     refine X_dropTo (L1 ++ [(b_13, .cells (encEd no3 b1 r1 d1 b2 r2 d9 b3 (rows.getD 0 []).length d3).toArray 40 (0, 0))]) (by repeat (first | exact .refl | refine subL_app ?_ | refine .keep ?_ | exact subL_nil | refine .drop ?_)) ?_
     refine X_region ?_
     refine XO_v0 (ev_move rfl) rfl rfl rfl ?_
     refine XO_v0 (ev_lenS rfl slt_38) rfl rfl rfl ?_
     refine XO_v0 (ev_move rfl) rfl rfl rfl ?_
     refine XO_nil (at_then ?_)
     refine X_block ?_
     refine X_loopT [(0, _), (4, _), (13, _), (15, _), (81, _), (82, _)] (.cons rfl (.cons rfl (.cons rfl (.cons rfl (.cons rfl (.cons rfl .nil)))))) (fun T L0 mz E I' loc' => ∃ (k : Nat) (w : List Int) (L : Go.Kn.Loc), mz = es.length - k ∧ E = (83, .int .i64 k) :: T ∧ I2 = I' ∧ L ++ [(b_13, .cells (encEd no3 b1 r1 d1 b2 r2 d9 b3 (rows.getD 0 []).length d3).toArray 40 (0, 0))] = loc' ∧ k ≤ es.length ∧ w = (es.take k).foldl setE (readsL rows xs []) ∧ OwnS 3 1 (.slice wa (rows.getD 0 []).length wc) (rows.getD 0 []).length (w.flatMap encI) L) _ _ _ _ ⟨0, _, _, rfl, rfl, rfl, rfl, Nat.zero_le _, rfl, hO1⟩ (.cons rfl (.cons rfl (.cons rfl (.cons rfl (.cons rfl (.cons rfl (.cons rfl .nil))))))) (HLe.refl _) rfl ?_
     rintro mz E I' loc' ⟨k, w, L, rfl, rfl, rfl, rfl, hk, hw9, hO⟩
     refine X_seq (X_region ?_)
     refine XO_v0 (ev_cmp rfl rfl rfl) rfl rfl rfl ?_
     refine XO_nil (at_then ?_)
     refine X_seq ?_
     refine X_cond rfl (fun hc84 => ?_) (fun hc84 => ?_)
     ·
      have hlt_k : k < es.length := by have h := hc84; simp at h; omega
      obtain ⟨e, he⟩ := hEs.at hlt_k
      obtain ⟨i1, i2⟩ := inc_mem (good_inc hgd) e (List.mem_of_getElem? he)
      have hwl : w.length = (rows.getD 0 []).length := by rw [hw9, setE_len, reads_len]
      obtain ⟨x9, hx9⟩ : ∃ x, w[e.locus.toNat]? = some x := ⟨_, List.getElem?_eq_getElem (by omega)⟩
      obtain ⟨_, sb, scc, cur, hvv, rfl, hcl, hbl, hset⟩ := hO.spot1 (k := e.locus.toNat) (u := fun x : Int => Value.int .i64 x) (fun _ => rfl) hx9
      cases hvv
      refine X_skip ?_
      refine at_then ?_
      refine X_seq ?_
      refine X_block ?_
      refine X_seq (X_region ?_)
      refine XO_v0 (ev_indexSl rfl rfl slt_38 hEs (fun hg => by first | omega | (simp [conj] at hg; omega))) rfl rfl rfl ?_
      refine XO_v0 (ev_loadA rfl agt_57 (fun hg => by exact Sl.getA hEs he) rfl) rfl rfl rfl ?_
      refine XO_alloc zt_57 rfl rfl (fun b_17 => ?_)
      refine XO_storeA rfl rfl szt_57 rfl rfl rfl rfl (by repeat (first | exact Upd.here | apply Upd.there | apply upd_app)) ?_
      refine XO_nil (at_then ?_)
      refine X_seq ?_
      refine X_seq (X_region ?_)
      refine XO_v0 (ev_fieldAddr rfl fld_57_0) rfl rfl rfl ?_
      refine XO_v0 (ev_load rfl sct_3 (fun hg => by exact Cell.h0 rfl)) rfl rfl rfl ?_
      refine XO_v0 (ev_cmp rfl rfl rfl) rfl rfl rfl ?_
      refine XO_v0 (ev_move rfl) rfl rfl rfl ?_
      refine XO_pushF 3 rfl rfl rfl ?_
      refine XO_v1 (ev_fieldAddr rfl fld_57_0) (.some rfl rfl rfl rfl gbf) rfl rfl rfl ?_
      refine XO_v1 (ev_load rfl sct_3 (fun hg => by exact Cell.h0 rfl)) (.some rfl rfl rfl rfl gbf) rfl rfl rfl ?_
      refine XO_v1 (ev_move rfl) (.some rfl rfl rfl rfl gbf) rfl rfl rfl ?_
      refine XO_v1 (ev_lenS rfl slt_23) (.some rfl rfl rfl rfl gbf) rfl rfl rfl ?_
      refine XO_v1 (ev_cmp rfl rfl rfl) (.some rfl rfl rfl rfl gbf) rfl rfl rfl ?_
      refine XO_or0 rfl rfl rfl rfl rfl ?_
      refine XO_nil (at_then ?_)
      refine X_cond rfl (fun hc96 => ?_) (fun hc96 => ?_)
      ·
       have h := hc96; simp only [Bool.or_eq_true, decide_eq_true_eq] at h; omega
      ·
       refine X_skip ?_
       refine at_then ?_
       refine X_region ?_
       refine XO_v0 (ev_move rfl) rfl rfl rfl ?_
       refine XO_v0 (ev_fieldAddr rfl fld_57_0) rfl rfl rfl ?_
       refine XO_v0 (ev_load rfl sct_3 (fun hg => by exact Cell.h0 rfl)) rfl rfl rfl ?_
       refine XO_v0 (ev_fieldAddr rfl fld_57_1) rfl rfl rfl ?_
       refine XO_v0 (ev_load rfl sct_3 (fun hg => by exact Cell.h0 rfl)) rfl rfl rfl ?_
       refine XO_v0 (ev_indexOwn rfl rfl slt_23 (fun hg => by first | omega | (simp [conj] at hg; omega))) rfl rfl rfl ?_
       refine XO_store rfl rfl szt_3 rfl rfl (by repeat (first | exact Upd.here | apply Upd.there | apply upd_app)) hbl ?_
       refine XO_nil ?_
       refine at_block_n ?_
       refine at_then ?_
       refine X_region ?_
       refine XO_v0 (ev_arB rfl rfl rfl (fun hg => by first | omega | (simp [conj] at hg; omega))) rfl rfl rfl ?_
       refine XO_v0 (ev_move rfl) rfl rfl rfl ?_
       refine XO_nil ?_
       exact at_met2 _ _ ⟨es.length - (k + 1), by omega, k + 1, _, _, rfl, rfl, rfl, rfl, by omega, by rw [hw9]; exact (setE_next he).symm, hset _⟩ (.cons rfl (.cons rfl (.cons rfl (.cons rfl (.cons rfl (.cons rfl (.cons rfl .nil))))))) (by repeat (first | exact .refl | exact subL_left | refine subL_app ?_ | refine .drop ?_ | refine subL_add ?_))
     ·
      have hge_k : es.length ≤ k := by have h := hc84; simp at h; omega
      rw [List.take_of_length_le hge_k, reads_set hgd] at hw9
      subst hw9
      refine X_exit ?_
      refine at_then_e ?_
      refine at_then_e ?_
      refine at_block_hit ?_
      refine at_then ?_
      refine X_seq ?_
      refine X_seq (X_region ?_)
      refine XO_v0 (ev_move rfl) rfl rfl rfl ?_
      refine XO_v0 (ev_lenS rfl slt_23) rfl rfl rfl ?_
      refine XO_v0 (ev_move rfl) rfl rfl rfl ?_
      refine XO_nil (at_then ?_)
      refine X_block ?_
      refine X_loopT [(0, _), (4, _), (13, _), (15, _), (104, _), (105, _)] (.cons rfl (.cons rfl (.cons rfl (.cons rfl (.cons rfl (.cons rfl .nil)))))) (fun T L0 mz E I' loc' => ∃ (k : Nat), mz = (rows.getD 0 []).length - k ∧ E = (106, .int .i64 k) :: T ∧ I2 = I' ∧ L ++ [(b_13, .cells (encEd no3 b1 r1 d1 b2 r2 d9 b3 (rows.getD 0 []).length d3).toArray 40 (0, 0))] = loc' ∧ k ≤ (rows.getD 0 []).length) _ _ _ _ ⟨0, rfl, rfl, rfl, rfl, Nat.zero_le _⟩ (.cons rfl (.cons rfl (.cons rfl (.cons rfl (.cons rfl (.cons rfl (.cons rfl .nil))))))) (HLe.refl _) rfl ?_
      rintro mz E I' loc' ⟨k, rfl, rfl, rfl, rfl, hk⟩
      refine X_seq (X_region ?_)
      refine XO_v0 (ev_cmp rfl rfl rfl) rfl rfl rfl ?_
      refine XO_nil (at_then ?_)
      refine X_seq ?_
      refine X_cond rfl (fun hc107 => ?_) (fun hc107 => ?_)
      ·
       have hlt_k : k < (rows.getD 0 []).length := by have h := of_decide_eq_true hc107; omega
       have hrdk : (readsL rows xs es)[k]? = some (readK rows xs es k) := by unfold readsL; rw [List.getElem?_map, List.getElem?_range hlt_k]; rfl
       obtain ⟨_, sb, scc, cur, hvv, rfl, hcl, hbl, hset⟩ := hO.spot1 (k := k) (u := fun x : Int => Value.int .i64 x) (fun _ => rfl) hrdk
       cases hvv
       refine X_skip ?_
       refine at_then ?_
       refine X_seq ?_
       refine X_block ?_
       refine X_seq (X_region ?_)
       refine XO_v0 (ev_move rfl) rfl rfl rfl ?_
       refine XO_v0 (ev_indexOwn rfl rfl slt_23 (fun hg => by first | omega | (simp [conj] at hg; omega))) rfl rfl rfl ?_
       refine XO_v0 (ev_load rfl sct_3 (fun hg => by exact hcl _ _)) rfl rfl rfl ?_
       refine XO_v0 (ev_assign rfl) rfl rfl rfl ?_
       refine XO_v0 (ev_assign rfl) rfl rfl rfl ?_
       refine XO_nil (at_then ?_)
       refine X_seq (X_region ?_)
       refine XO_v0 (ev_fieldAddr rfl fld_40_3) rfl rfl rfl ?_
       refine XO_v0 (ev_load rfl sct_23 (fun hg => by exact Cell.h1 rfl)) rfl rfl rfl ?_
       refine XO_v0 (ev_move rfl) rfl rfl rfl ?_
       refine XO_v0 (ev_indexSl rfl rfl slt_23 hN3 (fun hg => by first | omega | (simp [conj] at hg; omega))) rfl rfl rfl ?_
       refine XO_v0 (ev_load rfl sct_3 (fun hg => by exact Sl.get0 hN3 hrdk rfl)) rfl rfl rfl ?_
       refine XO_v0 (ev_move rfl) rfl rfl rfl ?_
       refine XO_v0 (ev_cmp rfl rfl rfl) rfl rfl rfl ?_
       refine XO_nil (at_then ?_)
       refine X_cond rfl (fun hc117 => ?_) (fun hc117 => ?_)
       ·
        simp at hc117
       ·
        refine X_skip ?_
        refine at_block_n ?_
        refine at_then ?_
        refine X_region ?_
        refine XO_v0 (ev_arB rfl rfl rfl (fun hg => by first | omega | (simp [conj] at hg; omega))) rfl rfl rfl ?_
        refine XO_v0 (ev_move rfl) rfl rfl rfl ?_
        refine XO_nil ?_
        exact at_met2 _ _ ⟨(rows.getD 0 []).length - (k + 1), by omega, k + 1, rfl, rfl, rfl, rfl, by omega⟩ (.cons rfl (.cons rfl (.cons rfl (.cons rfl (.cons rfl (.cons rfl (.cons rfl .nil))))))) (by repeat (first | exact .refl | exact subL_left | refine subL_app ?_ | refine .drop ?_ | refine subL_add ?_))
      ·
       have hge_k : (rows.getD 0 []).length ≤ k := by have h := of_decide_eq_false hc107; omega
       refine X_exit ?_
       refine at_then_e ?_
       refine at_then_e ?_
       refine at_block_hit ?_
       refine at_then ?_
       refine X_seq ?_
       refine X_seq (X_region ?_)
       refine XO_v0 (ev_move rfl) rfl rfl rfl ?_
       refine XO_v0 (ev_lenS rfl slt_23) rfl rfl rfl ?_
       refine XO_v0 (ev_cmp rfl rfl rfl) rfl rfl rfl ?_
       refine XO_nil (at_then ?_)
       refine X_cond rfl (fun hc121 => ?_) (fun hc121 => ?_)
       ·
        refine X_seq (X_region ?_)
        refine XO_v0 (ev_assign rfl) rfl rfl rfl ?_
        refine XO_nil (at_then ?_)
        refine X_ret ?_
        refine at_then_r ?_
        exact at_ret1 rfl rfl (fun w hw => ⟨by rfl, (hw.mono hIc).drop⟩)
       ·
        have hn0 : (rows.getD 0 []).length ≠ 0 := by have h := hc121; simp only [beq_eq_false_iff_ne, ne_eq] at h; omega
        obtain ⟨Q, eQ, hQ9⟩ := which_at (n := (rows.getD 0 []).length) hz hn0
        have hrdq : (readsL rows xs es)[Q]? = some (readK rows xs es Q) := by unfold readsL; rw [List.getElem?_map, List.getElem?_range hQ9]; rfl
        refine X_skip ?_
        refine at_then ?_
        refine X_seq (X_region ?_)
        refine XO_v0 (ev_move rfl) rfl rfl rfl ?_
        refine XO_v0 (ev_fieldAddr rfl fld_40_3) rfl rfl rfl ?_
        refine XO_store rfl rfl szt_23 rfl rfl (by repeat (first | exact Upd.here | apply Upd.there | apply upd_app)) rfl ?_
        refine XO_nil (at_then ?_)
        refine X_seq ?_
        obtain ⟨_, sb, scc, cur, hvv, rfl, hcl, hbl, hset⟩ := hO.spot1 (k := Q) (u := fun x : Int => Value.int .i64 x) (fun _ => rfl) (show (readsL rows xs es)[Q]? = some (readK rows xs es Q) from hrdq)
        cases hvv
        have hD := HLe.refl I2
        refine X_noP ?_
        refine X_drawS I2 [(b_13, .cells (encEd no3 b1 r1 d1 b2 r2 d9 (some ⟨sb, 0, none⟩) (rows.getD 0 []).length wc).toArray 40 (0, 0))] mixed ?_
        refine XD_take 0 rfl (ev_fieldAddr rfl fld_40_3) (.none rfl) rfl rfl rfl (by kernel_rfl) (by kernel_rfl) (by kernel_rfl) noP_ok hD (by repeat (first | exact .refl | exact subL_nil | refine .keep ?_ | refine .drop ?_ | refine subL_add ?_)) ?_
        refine XD_take 1 rfl (ev_load rfl sct_23 (fun hg => by exact Cell.h0 rfl)) (.none rfl) rfl rfl rfl (by kernel_rfl) (by kernel_rfl) (by kernel_rfl) noP_ok hD (by repeat (first | exact .refl | exact subL_nil | refine .keep ?_ | refine .drop ?_ | refine subL_add ?_)) ?_
        refine XD_take 2 rfl (ev_move rfl) (.none rfl) rfl rfl rfl (by kernel_rfl) (by kernel_rfl) (by kernel_rfl) noP_ok hD (by repeat (first | exact .refl | exact subL_nil | refine .keep ?_ | refine .drop ?_ | refine subL_add ?_)) ?_
        refine XD_take 3 rfl (ev_convI rfl cvt_5_3) (.none rfl) rfl rfl rfl (by kernel_rfl) (by kernel_rfl) (by kernel_rfl) noP_ok hD (by repeat (first | exact .refl | exact subL_nil | refine .keep ?_ | refine .drop ?_ | refine subL_add ?_)) ?_
        refine XD_take 4 rfl (ev_move rfl) (.none rfl) rfl rfl rfl (by kernel_rfl) (by kernel_rfl) (by kernel_rfl) noP_ok hD (by repeat (first | exact .refl | exact subL_nil | refine .keep ?_ | refine .drop ?_ | refine subL_add ?_)) ?_
        refine XD_take 5 rfl (ev_lenS rfl slt_23) (.none rfl) rfl rfl rfl (by kernel_rfl) (by kernel_rfl) (by kernel_rfl) noP_ok hD (by repeat (first | exact .refl | exact subL_nil | refine .keep ?_ | refine .drop ?_ | refine subL_add ?_)) ?_
        refine XD_take 6 rfl (ev_rem rfl rfl (fun hg => by omega)) (.none rfl) rfl rfl rfl (by kernel_rfl) (by kernel_rfl) (by kernel_rfl) noP_ok hD (by repeat (first | exact .refl | exact subL_nil | refine .keep ?_ | refine .drop ?_ | refine subL_add ?_)) ?_
        rw [eQ]
        refine XD_take 7 rfl (ev_indexOwn rfl rfl slt_23 (fun hg => by first | omega | (simp [conj] at hg; omega))) (.none rfl) rfl rfl rfl (by kernel_rfl) (by kernel_rfl) (by kernel_rfl) noP_ok hD (by repeat (first | exact .refl | exact subL_nil | refine .keep ?_ | refine .drop ?_ | refine subL_add ?_)) ?_
        refine XD_one 8 rfl (by kernel_rfl) ?_
        refine XO_v0 (ev_load rfl sct_3 (fun hg => by exact hcl _ _)) rfl rfl rfl ?_
        refine XO_nil ?_
        refine at_D hD (by repeat (first | exact .refl | exact subL_nil | refine .keep ?_ | refine .drop ?_ | refine subL_add ?_)) ?_
        refine XD_take 9 rfl (ev_ar rfl rfl rfl) (.none rfl) rfl rfl rfl (by kernel_rfl) (by kernel_rfl) (by kernel_rfl) noP_ok hD (by repeat (first | exact .refl | exact subL_nil | refine .keep ?_ | refine .drop ?_ | refine subL_add ?_)) ?_
        refine XD_take 10 rfl (ev_indexOwn rfl rfl slt_23 (fun hg => by first | omega | (simp [conj] at hg; omega))) (.none rfl) rfl rfl rfl (by kernel_rfl) (by kernel_rfl) (by kernel_rfl) noP_ok hD (by repeat (first | exact .refl | exact subL_nil | refine .keep ?_ | refine .drop ?_ | refine subL_add ?_)) ?_
        refine XD_one 11 rfl (by kernel_rfl) ?_
        refine XO_store rfl rfl szt_3 rfl rfl (by repeat (first | exact Upd.here | apply Upd.there | apply upd_app)) hbl ?_
        refine XO_nil ?_
        refine at_D hD (by repeat (first | exact .refl | exact subL_nil | refine .keep ?_ | refine .drop ?_ | refine subL_add ?_)) ?_
        refine XD_done (by kernel_rfl) ?_
        refine at_noP ?_
        have hO28 := hset (IntKind.i64.wrap (readK rows xs es Q + 1))
        refine at_then ?_
        refine X_seq ?_
        refine X_freezeO hO28 encI_len (by decide) (by repeat (first | exact .cons .here .nil | exact split_all | exact split_app | apply split_cons | apply split_skip)) (fun I5 hI5 af5 cf5 ef5 hRd9 => ?_)
        cases ef5
        have hS := hS.mono hI5
        have hVn := hVn.mono hI5
        have hV := hV.mono hI5
        have hH := hH.mono hI5
        have hDb := hDb.mono hI5
        have hEs := hEs.mono hI5
        have hM1 := hM1.mono hI5
        have hM2 := hM2.mono hI5
        have hM3 := hM3.mono hI5
        have hN1 := hN1.mono hI5
        have hN2 := hN2.mono hI5
        have hN3 := hN3.mono hI5
        have hQ0 := hQ0.mono hI5
        have hIc := hIc.trans hI5
        refine X_region ?_
        refine XO_v0 (ev_move rfl) rfl rfl rfl ?_
        refine XO_v0 (ev_loadA rfl agt_40 (fun hg => by exact Cells.g0) rfl) rfl rfl rfl ?_
        refine XO_callV0 (cap := []) (vs := [_, _]) rfl rfl fun_17 (w_edChk hVn hn2 hN1 hN2 hRd9 hm1 hm2 hm3 no3 hDb) rfl rfl ?_
        refine XO_v0 (ev_cmp rfl rfl rfl) rfl rfl rfl ?_
        refine XO_v0 (ev_assign rfl) rfl rfl rfl ?_
        refine XO_nil (at_then ?_)
        refine X_ret ?_
        first
        | exact at_ret1 rfl rfl (fun w hw => ⟨by rw [show edcF rows no3 cl3 es3 ((readsL rows xs es).set Q (IntKind.i64.wrap (readK rows xs es Q + 1))) = 430 by rw [ey1, ey2, ey3]; exact edc_2 hN0 (set_ne hrdq (wrap_ne _))] <;> rfl, (hw.mono hIc).drop⟩)
end Go.Proofs.YthcffaheamikgaaDoor
end
section
namespace Go.Kn
open Go Go.ChangeShapes Go.WideShapes Go.ChangeAt Go.RowKit
/-- All that lies in the world is read only. -/
def heapI (W : World) : HMap := fun b => W.heap[b]?
theorem St.start (W : World) : St W (heapI W) (fun _ => none) [] W :=
  ⟨rfl, rfl, rfl, ⟨Nat.le_refl _, Nat.le_refl _⟩, fun _ _ h => h, (fun _ _ h => by cases h), (fun _ _ h => by cases h), fun _ => .inr rfl, (fun _ _ h => by cases h), by simp⟩
theorem St.below {W w : World} {H : HMap} {loc : Loc} (h : St W (heapI W) H loc w) : Below W.heap.size W w :=
  ⟨h.os, h.tape, h.out, h.size.1, fun k hk => by
    have e : W.heap[k]? = some W.heap[k] := Array.getElem?_eq_getElem hk
    rw [h.imm k _ e, e]⟩
theorem RetV.law {P : Program} {f : FuncId} {args : List Value} {W : World} {v : Value} (h : RetV P f args (heapI W) v) : Calls P f args.toArray W fun e w' => e = .returned v ∧ Below W.heap.size W w' :=
  (h W _ W (St.start W)).mono fun _ _ ⟨he, hs⟩ => ⟨he, hs.below⟩
theorem keptBut_below {W w : World} {may : MemPlace → Prop} (h : Below W.heap.size W w) : W.keptBut w may := by
  refine ⟨h.os, h.output, fun i hi => ?_⟩
  rw [h.block i hi]
  rw [Array.getElem?_eq_getElem hi]
  cases W.heap[i] <;> simp
theorem trodAll_stays {H : Type} {enc : TypeId × Value → H} {P : Program} {W W' : World} (hl : laidOutB P = true) (hB : Below W.heap.size W W') (sp : Nat → Bool) : ∀ (ts : List TypeId) (vs : List Value) (ds : List (DataW H)) (ps : List MemPlace), (∀ t ∈ ts, P.readableRec t = true ∧ t < P.types.size) →
    DataW.TrodAll enc P W 0 (fun _ => true) true ts vs ds ps → (∀ x ∈ ps, x.block < W.heap.size ∧ sp x.block = true) → DataW.TrodAll enc P W' 0 sp true ts vs ds ps
  | [], [], [], ps, _, h, _ => h
  | t :: ts, v :: vs, d :: ds, ps, hr, ⟨p, q, h1, h2, e⟩, hlt => by
    subst e
    exact ⟨p, q, WideElems.Trod_stays hl (hr t (List.mem_cons_self ..)).1 (hr t (List.mem_cons_self ..)).2 h1 (fun x hx => hB.same (hlt x (List.mem_append_left _ hx)).1) (fun x hx => (hlt x (List.mem_append_left _ hx)).2),
      trodAll_stays hl hB sp ts vs ds q (fun t ht => hr t (List.mem_cons_of_mem _ ht)) h2 (fun x hx => hlt x (List.mem_append_right _ hx)), rfl⟩
/-- A law's row: it hands back true; the input reads as it did. -/
theorem post_law {H : Type} {enc : TypeId × Value → H} {P : Program} {f : Func} {s : ChangeSpec} {again : Bool} {W W' : World} {args : Array Value} {ds : List (DataW H)} {before : List MemPlace} {tb : TypeId}
    (hl : laidOutB P = true) (hr : f.resultTypes = #[tb]) (hb : P.underlying tb = some .bool) (hv : s.vars = []) (hs : (s.fn H (ds ++ [])) = { results := [.lit (.bool true)], args := ds }) (hrd : ∀ t ∈ f.params.toList, P.readableRec t = true ∧ t < P.types.size)
    (hW : DataW.Whole enc P f.params.toList s.vars false W args.toList ds [] before) (hB : Below W.heap.size W W') : s.post enc P f false true false again W args (.bool true) W' := by
  have hlt : ∀ x ∈ before, x.block < W.heap.size := fun x hx => by simpa using hW.lt x hx
  have hW0 := hW
  obtain ⟨p, q, hA, hV, rfl, hfz, _⟩ := hW
  rw [hv] at hV
  obtain ⟨_, rfl⟩ := trodVars_none hV
  rw [List.append_nil] at hlt hfz hW0
  have hres : ∀ (b : Nat) (sp : Nat → Bool) (hd : Bool), DataW.TrodAll enc P W' b sp hd f.resultTypes.toList ((Value.bool true).resultList f.resultTypes.size) [.lit (.bool true)] [] := fun b sp hd => by
    rw [hr]; exact trodAll_mk1 (shut_bool hb true)
  have hargs : ∀ sp : Nat → Bool, (∀ x ∈ p, sp x.block = true) → DataW.TrodAll enc P W' 0 sp true f.params.toList args.toList ds p := fun sp h => trodAll_stays hl hB sp _ _ _ _ hrd hA (fun x hx => ⟨hlt x hx, h x hx⟩)
  have hnil : ∀ sp : Nat → Bool, DataW.TrodVars enc P W' sp s.vars [] [] := fun sp => by rw [hv]; rfl
  refine ⟨ds, [], p, [], p, [], hW0, ?_, ?_, ?_, keptBut_below hB, fun _ => ?_⟩
  · rw [hs]; exact hres _ _ _
  · rw [hs]; exact hargs _ (fun x hx => by simpa using hlt x hx)
  · rw [hs]; exact hnil _
  · refine ⟨fun j t r ht hr' => ?_, [.lit (.bool true)] ++ ds, [], [] ++ p, ⟨[] ++ p, [], trodAll_append (hargs _ (fun _ _ => rfl)) (hres _ _ _), hnil _, by simp, ?_, fun h => by cases h⟩, fun x hx _ => by simpa using hx⟩
    · rw [hr] at ht hr'
      cases j with
      | zero => simp [Value.resultList] at ht hr'; subst ht; subst hr'; exact okWide_bool_mk hb _
      | succ j => simp at ht
    · intro b off hx
      rw [hB.frozen (hlt _ (by simpa using hx))]
      exact hfz b off (by simpa using hx)
theorem cell_heap {W : World} {b o : Nat} {u : Value} (h : W.cell? ⟨b, o, none⟩ = some u) : Cell (heapI W) [] b o u := by
  unfold World.cell? at h
  split at h
  · rename_i c t fz hb
    simp only [Option.isSome_none, Bool.false_eq_true, if_false] at h
    exact ⟨c, t, fz, .inl hb, h⟩
  · cases h
/-- A slice that came in, as it is read. -/
theorem open_SlT {H : Type} {enc : TypeId × Value → H} {P : Program} {W : World} {t e : TypeId} {size fuel0 : Nat} {cs : List Value} {x0 : DataW H × List MemPlace} {α : Type} (enc' : α → List Value) (ok : α → Prop)
    (ht : P.underlying t = some (.slice e)) (hc : P.cellsOf e = size) (hpos : 0 < size) (hlen : ∀ y, (enc' y).length = size)
    (hel : ∀ fuel cs x, DataW.trod enc P W 0 (fun _ => true) true fuel e cs = some x → ∃ y, ok y ∧ enc' y = cs)
    (hf' : DataW.trod enc P W 0 (fun _ => true) true fuel0 t cs = some x0) : ∃ av n c xs, cs = [.slice av n c] ∧ Sl (heapI W) size enc' av n c xs ∧ (∀ x ∈ xs, ok x) ∧ c ≤ maxLen := by
  rcases Go.Deep.open_slice ht hf' with ⟨e1, _⟩ | ⟨a, len0, cap0, m, n, D, Pl, e1, hb, hl, hm, hmm, _, hx⟩
  · subst e1
    exact ⟨none, 0, 0, [], rfl, .nil, (fun x hx => by cases hx), Nat.zero_le _⟩
  · subst e1
    have hlm : len0 ≤ m := by rw [hmm]; simp; exact hl
    have each : ∀ i, i < len0 → ∃ y, ok y ∧ W.cells? 0 (a.add (i * size)) size = some (enc' y) := fun i hi => by
      obtain ⟨cs', h1, h2⟩ := hx i (by omega)
      obtain ⟨y, hy, e⟩ := hel _ _ _ h2
      rw [hc] at h1
      exact ⟨y, hy, by rw [h1, e]⟩
    have all : ∀ k, k ≤ len0 → ∃ xs : List α, xs.length = k ∧ ∀ i x, xs[i]? = some x → ok x ∧ W.cells? 0 (a.add (i * size)) size = some (enc' x) := by
      intro k
      induction k with
      | zero => intro _; exact ⟨[], rfl, fun i x h => by simp at h⟩
      | succ k ih =>
        intro hk
        obtain ⟨xs, hl', hxs⟩ := ih (by omega)
        obtain ⟨y, hy, hcy⟩ := each k (by omega)
        refine ⟨xs ++ [y], by simp [hl'], fun i x h => ?_⟩
        by_cases hi : i < xs.length
        · rw [List.getElem?_append_left hi] at h; exact hxs i x h
        · rw [List.getElem?_append_right (by omega)] at h
          have : i = k := by have := (List.getElem?_eq_some_iff.1 h).1; simp at this; omega
          subst this
          rw [hl'] at h; simp at h; subst h
          exact ⟨hy, hcy⟩
    obtain ⟨xs, hl', hxs⟩ := all len0 (Nat.le_refl _)
    have add0 : ∀ (b o n : Nat), (⟨b, o, none⟩ : Addr).add n = ⟨b, o + n, none⟩ := fun b o n => by
      unfold Addr.add
      split
      · rename_i e; subst e; rfl
      · rfl
    have hspot : 0 < xs.length → a.spot = none := fun hx => by
      have hx0 : xs[0]? = some xs[0] := List.getElem?_eq_getElem hx
      have hp0 : 0 < (enc' xs[0]).length := by rw [hlen]; exact hpos
      obtain ⟨_, h1, h2⟩ := World.cells?_some (hxs 0 _ hx0).2
      have h3 := h2 0 hpos
      rw [List.getElem?_eq_getElem hp0] at h3
      simpa [Addr.add] using World.cell?_spot h3
    have cellat : ∀ i x, xs[i]? = some x → ∀ j u, (enc' x)[j]? = some u → W.cell? ⟨a.block, a.off + i * size + j, none⟩ = some u := fun i x hx j u hu => by
      obtain ⟨_, h1, h2⟩ := World.cells?_some (hxs i x hx).2
      have hj : j < size := by rw [← hlen x]; exact (List.getElem?_eq_some_iff.1 hu).1
      have h3 := h2 j hj
      rw [hu] at h3
      have hsp := hspot (by have := (List.getElem?_eq_some_iff.1 hx).1; omega)
      obtain ⟨b, o, sp⟩ := a
      simp only at hsp
      subst hsp
      rw [add0, add0] at h3
      exact h3
    refine ⟨some a, len0, cap0, xs, rfl, ⟨hl', hl, fun hn => ?_, fun k x hx j u hu => ?_⟩, fun x hx => ?_, hm⟩
    · have := hspot (by omega)
      obtain ⟨b, o, sp⟩ := a
      simp only at this
      subst this; rfl
    · exact cell_heap (cellat k x hx j u hu)
    · obtain ⟨i, hi⟩ := List.getElem?_of_mem hx
      exact (hxs i x hi).1
theorem open_Sl {H : Type} {enc : TypeId × Value → H} {P : Program} {W : World} {base : Nat} {t e : TypeId} {size : Nat} {v : Value} {d : DataW H} {p : List MemPlace} {α : Type} (enc' : α → List Value) (ok : α → Prop)
    (ht : P.underlying t = some (.slice e)) (hc : P.cellsOf e = size) (hpos : 0 < size) (hlen : ∀ y, (enc' y).length = size)
    (hel : ∀ fuel cs x, DataW.trod enc P W 0 (fun _ => true) true fuel e cs = some x → ∃ y, ok y ∧ enc' y = cs)
    (hv : Value.okWide P W .any base t v) (h : DataW.Trod enc P W 0 (fun _ => true) true t v d p) : ∃ av n c xs, v = .slice av n c ∧ Sl (heapI W) size enc' av n c xs ∧ (∀ x ∈ xs, ok x) ∧ c ≤ maxLen := by
  obtain ⟨a0, len0, cap0, rfl⟩ := okWide_slice ht hv
  obtain ⟨fuel, hf⟩ := h
  obtain ⟨av, n, c, xs, e, h1, h2, h3⟩ := open_SlT enc' ok ht hc hpos hlen hel (cs := [.slice a0 len0 cap0]) (by simpa [Value.cells] using hf)
  cases e
  exact ⟨_, _, _, xs, rfl, h1, h2, h3⟩
/-- A slice of one-cell ints. -/
theorem el_int {H : Type} {enc : TypeId × Value → H} {P : Program} {W : World} {e : TypeId} {k : IntKind} (he : P.underlying e = some (.int k)) (hk : k = .i64) (fuel : Nat) (cs : List Value) (x : DataW H × List MemPlace) (h : DataW.trod enc P W 0 (fun _ => true) true fuel e cs = some x) :
    ∃ y : Int, (-9223372036854775808 ≤ y ∧ y ≤ 9223372036854775807) ∧ [Value.int .i64 y] = cs := by
  subst hk
  obtain ⟨v, hv⟩ : ∃ v, cs = [v] := by
    have := h
    cases fuel with
    | zero => simp [DataW.trod] at this
    | succ m => unfold DataW.trod at this; rw [he] at this; split at this <;> simp_all
  subst hv
  obtain ⟨n, e, _, w⟩ := DataW.trod_int he h
  cases e
  simp only [Lit.wf, Bool.and_eq_true, decide_eq_true_eq] at w
  exact ⟨n, w, rfl⟩
end Go.Kn
end
section
namespace Go.Kn
open Go
theorem trod_seg {H : Type} {enc : TypeId × Value → H} {P : Program} {W : World} {base : Nat} {spare : Nat → Bool} {held : Bool} {t C : Nat} {fs : Array Field} {fuel : Nat} {cs : List Value} {x : DataW H × List MemPlace} (hs : P.underlying t = some (.struct fs))
    (hC : P.cellsOf t = C) (h : DataW.trod enc P W base spare held fuel t cs = some x) :
    cs.length = C ∧ ∃ n, ∀ (i ty off k : Nat), ((fs[i]?).map fun f => (f.type, f.offset)) = some (ty, off) → P.cellsOf ty = k → ∃ y, DataW.trod enc P W base spare held n ty ((cs.drop off).take k) = some y := by
  obtain ⟨xs, n, _, _, hl, hxl, hf⟩ := DataW.trod_struct hs h
  refine ⟨hl.trans hC, n, fun i ty off k hi hk => ?_⟩
  obtain ⟨f, hfi, e⟩ := Option.map_eq_some_iff.1 hi
  cases e
  have g := hf i f hfi
  have hix : i < xs.length := by rw [hxl]; exact (Array.getElem?_eq_some_iff.1 hfi).1
  rw [hk, List.getElem?_eq_getElem hix] at g
  exact ⟨_, g⟩
end Go.Kn
end
section
namespace Go.Proofs.YthcffaheamikgaaDoor
open Go Go.Kn Go.Proofs
open Go.ChangeShapes Go.WideShapes Go.ChangeAt Go.RowKit
set_option maxRecDepth 100000
theorem ound_3 : Tryd.prog.underlying 3 = some (.int .i64) := by kernel_rfl
theorem ound_4 : Tryd.prog.underlying 4 = some .bool := by kernel_rfl
theorem ound_5 : Tryd.prog.underlying 5 = some (.int .u8) := by kernel_rfl
theorem open_ints {H : Type} {enc : TypeId × Value → H} {W : World} {base : Nat} {v : Value} {d : DataW H} {p : List MemPlace} (hv : Value.okWide Tryd.prog W .any base 23 v) (h : DataW.Trod enc Tryd.prog W 0 (fun _ => true) true 23 v d p) :
    ∃ av n c xs, v = .slice av n c ∧ Sl (heapI W) 1 encI av n c xs ∧ n ≤ 9223372036854775807 := by
  obtain ⟨av, n, c, xs, e, hS, _, hm⟩ := open_Sl (e := 3) encI (fun _ => True) (by kernel_rfl) (by kernel_rfl) (by decide) encI_len (fun fuel cs x h => by
    obtain ⟨y, _, e⟩ := el_int ound_3 rfl fuel cs x h
    exact ⟨y, trivial, e⟩) hv h
  exact ⟨av, n, c, xs, e, hS, by have := hS.cap; simp only [maxLen] at hm; omega⟩
theorem heads {I : HMap} : ∀ (hs : List Hd), (∀ h ∈ hs, ∃ v, Sl I 1 encI h.a h.n h.c v) → ∃ vss, RelH I hs vss
  | [], _ => ⟨[], RelH.nil⟩
  | x :: hs, H => by
    obtain ⟨vss, hl, hv⟩ := heads hs fun h hh => H h (List.mem_cons_of_mem _ hh)
    obtain ⟨v0, h0⟩ := H x (List.mem_cons_self ..)
    refine ⟨v0 :: vss, by simp [hl], fun k h v a b => ?_⟩
    cases k with
    | zero => cases a; cases b; exact h0
    | succ k => exact hv k h v a b
theorem open_nest {H : Type} {enc : TypeId × Value → H} {W : World} {base : Nat} {v : Value} {d : DataW H} {p : List MemPlace} (hv : Value.okWide Tryd.prog W .any base 22 v) (h : DataW.Trod enc Tryd.prog W 0 (fun _ => true) true 22 v d p) :
    ∃ av n c vss, v = .slice av n c ∧ SlN (heapI W) av n c vss ∧ n ≤ 9223372036854775807 := by
  obtain ⟨av, n, c, hs, e, hS, hok, hm⟩ := open_Sl (e := 23) encH (fun h => ∃ v, Sl (heapI W) 1 encI h.a h.n h.c v) (by kernel_rfl) (by kernel_rfl) (by decide) encH_len (fun fuel cs x h => by
    obtain ⟨a, m, q, ys, e, hT, _⟩ := open_SlT (t := 23) (e := 3) encI (fun _ => True) (by kernel_rfl) (by kernel_rfl) (by decide) encI_len (fun fuel cs x h => by
      obtain ⟨y, _, e⟩ := el_int ound_3 rfl fuel cs x h
      exact ⟨y, trivial, e⟩) h
    exact ⟨⟨a, m, q⟩, ⟨ys, hT⟩, e.symm⟩) hv h
  obtain ⟨vss, hr⟩ := heads hs hok
  exact ⟨av, n, c, vss, e, ⟨hs, hS, hr⟩, by have := hS.cap; simp only [maxLen] at hm; omega⟩
/-- What the tie lists. -/
def laid2 : List (String × DataW Unit) := [("math/bits.deBruijn32tab", Rows.laid_math_bits_deBruijn32tab), ("math/bits.deBruijn64tab", Rows.laid_math_bits_deBruijn64tab)]
theorem gDeb : Tryd.prog.globalNamed "math/bits.deBruijn64tab" = some 1 := by kernel_rfl
theorem tDeb : (Tryd.prog.globals[1]?).map (·.type) = some 150 := by kernel_rfl
theorem deb_is : (Rows.laid_math_bits_deBruijn64tab : DataW Unit) = Lib.tabData .u8 debT := by rfl
theorem deb_of {W : World} (h : laidMetH Tryd.prog laid2 W) : DebOK (heapI W) := by
  rw [MakeChecks.laidMetH_plain _ _ _ (by kernel_rfl)] at h
  obtain ⟨ps, ⟨g0, t0, cs0, f0, p0, q0, hg0, ht0, hv0, hd0, ⟨g1, t1, cs1, f1, p1, q1, hg1, ht1, hv1, hd1, _, _⟩, _⟩, _, _⟩ := h
  obtain rfl := Option.some.inj (gDeb.symm.trans hg1)
  obtain rfl := Option.some.inj (tDeb.symm.trans ht1)
  rw [deb_is] at hd1
  have hcs := Lib.cells_of_tab (n := 64) (e := 5) (by kernel_rfl) ound_5 (by kernel_rfl) (by kernel_rfl) hd1
  intro i hi
  refine cell_heap ?_
  have := World.var?_cell hg1 hv1 i
  rw [this]
  have hl : i < debT.length := hi
  have e : cs1 = (debT.map fun z => Value.int .u8 z).toArray := Array.ext' hcs
  rw [e]
  simp [List.getD, hl]
/-- The door's own heap meets the condition. -/
theorem door_met (os : Os) (args : Array Value) : laidMetH Tryd.prog laid2 ((World.doorLaid Tryd.prog 400 os).forCall (fun _ _ => 0) ⟨#[], args, []⟩).memory :=
  laidMetH_of_parts3 (fuel := 8) (laidMet_of_run' 8 (by kernel_rfl) (by kernel_rfl)) (by kernel_rfl) (by kernel_rfl)
end Go.Proofs.YthcffaheamikgaaDoor
end
section
namespace Go.Proofs.YthcffaheamikgaaDoor
open Go Go.Kn Go.Proofs
open Go.ChangeShapes Go.WideShapes Go.ChangeAt Go.RowKit
set_option maxRecDepth 100000
theorem ostr_57 : Tryd.prog.underlying 57 = some (.struct (Tryd.prog.fieldsOf 57)) := by kernel_rfl
theorem ound_38 : Tryd.prog.underlying 38 = some (.slice 57) := by kernel_rfl
theorem el_em {H : Type} {enc : TypeId × Value → H} {W : World} (fuel : Nat) (cs : List Value) (x : DataW H × List MemPlace) (h : DataW.trod enc Tryd.prog W 0 (fun _ => true) true fuel 57 cs = some x) : ∃ y : Em, (fun _ => True) y ∧ encEm y = cs := by
  obtain ⟨hl, n0_, f0⟩ := trod_seg (C := 3) ostr_57 (by kernel_rfl) h
  match cs, hl with
  | [c0, c1, c2], _ =>
    obtain ⟨_, g0_0⟩ := f0 0 3 0 1 (by kernel_rfl) (by kernel_rfl)
    obtain ⟨n0, e0, _, w0⟩ := DataW.trod_int ound_3 (show DataW.trod enc Tryd.prog W 0 (fun _ => true) true n0_ 3 [c0] = some _ from g0_0)
    obtain ⟨_, g0_1⟩ := f0 1 3 1 1 (by kernel_rfl) (by kernel_rfl)
    obtain ⟨n1, e1, _, w1⟩ := DataW.trod_int ound_3 (show DataW.trod enc Tryd.prog W 0 (fun _ => true) true n0_ 3 [c1] = some _ from g0_1)
    obtain ⟨_, g0_2⟩ := f0 2 3 2 1 (by kernel_rfl) (by kernel_rfl)
    obtain ⟨n2, e2, _, w2⟩ := DataW.trod_int ound_3 (show DataW.trod enc Tryd.prog W 0 (fun _ => true) true n0_ 3 [c2] = some _ from g0_2)
    cases e0; cases e1; cases e2
    exact ⟨⟨n0, n1, n2⟩, trivial, rfl⟩
theorem open_ems {H : Type} {enc : TypeId × Value → H} {W : World} {base : Nat} {v : Value} {d : DataW H} {p : List MemPlace} (hv : Value.okWide Tryd.prog W .any base 38 v) (h : DataW.Trod enc Tryd.prog W 0 (fun _ => true) true 38 v d p) :
    ∃ av n c xs, v = .slice av n c ∧ Sl (heapI W) 3 encEm av n c xs := by
  obtain ⟨av, n, c, xs, e, hS, hok, _⟩ := open_Sl (e := 57) encEm (fun _ => True) ound_38 (by kernel_rfl) (by decide) encEm_len (fun fuel cs x h => el_em fuel cs x h) hv h
  exact ⟨av, n, c, xs, e, hS⟩
end Go.Proofs.YthcffaheamikgaaDoor
end
section
namespace Go.Proofs.YthcffaheamikgaaDoor
open Go Go.Kn Go.Proofs
open Go.ChangeShapes Go.WideShapes Go.ChangeAt Go.RowKit
theorem own : ownKnob Tryd.prog.godebug = none := by kernel_rfl
theorem laidOut : laidOutB Tryd.prog = true := by kernel_rfl
set_option maxRecDepth 100000 in
theorem editionEmended_lifted (os : Os) (started : os.Started) (H : Type) (enc : TypeId × Value → H) :
    ReturnsInHanded {} Tryd.checked os 6 .any (fun w args => (Rows.editionEmendedSpec.pre enc Tryd.prog Tryd.f6 [] false w args ∧ laidMetH Tryd.prog laid2 w) ∧ sizedMet enc Tryd.prog Tryd.f6 (OpenSpec.ofChange Rows.editionEmendedSpec) false w args)
      (Rows.editionEmendedSpec.post enc Tryd.prog Tryd.f6 false true false false) := by
  refine returnsInHanded_of_change_and (C := Tryd.checked) (X := fun w _ => laidMetH Tryd.prog laid2 w) (fun _ _ _ hh h => h.of_heap hh) own started (by kernel_rfl) Tryd.func6
    (ChangeSpec.witness_shaped (enc := enc) (C := Tryd.checked) (os := os) (X := fun w _ => laidMetH Tryd.prog laid2 w) false (World.doorLaid Tryd.prog 400 os) #[.slice none 0 0, .int .i64 0, .slice none 0 0, .slice none 0 0, .int .u8 0] 8 rfl (World.shaped_of_RefB (by kernel_rfl) (by kernel_rfl)) (by kernel_rfl) (by kernel_rfl) (by kernel_rfl) (door_met os _)) ?_
  intro W base args ds gs before hval0 hW _ _ hL _
  have hval : ∀ (j : Nat) t v, Tryd.f6.params[j]? = some t → args[j]? = some v → Value.okWide Tryd.prog W .any base t v := hval0
  have hW' := hW
  obtain ⟨p, q, hA0, hV, rfl, hfz, hnd⟩ := hW
  have hA : DataW.TrodAll enc Tryd.prog W 0 (fun _ => true) true Tryd.f6.params.toList args.toList ds p := hA0
  rw [Tryd.params6] at hA hval
  obtain ⟨v0, vs1, d0, ds1, p0, q1, ea, rfl, rfl, h0, hA⟩ := trodAll_cons hA
  obtain ⟨v1, vs2, d1, ds2, p1, q2, rfl, rfl, rfl, h1, hA⟩ := trodAll_cons hA
  obtain ⟨v2, vs3, d2, ds3, p2, q3, rfl, rfl, rfl, h2, hA⟩ := trodAll_cons hA
  obtain ⟨v3, vs4, d3, ds4, p3, q4, rfl, rfl, rfl, h3, hA⟩ := trodAll_cons hA
  obtain ⟨v4, vs5, d4, ds5, p4, q5, rfl, rfl, rfl, h4, hA⟩ := trodAll_cons hA
  obtain ⟨rfl, rfl, rfl⟩ := trodAll_nil hA
  have ea' : args = #[v0, v1, v2, v3, v4] := by rw [← Array.toArray_toList (xs := args), ea]
  subst ea'
  obtain ⟨rfl, rfl⟩ := trodVars_none hV
  have hDb := deb_of hL
  obtain ⟨bv, n2, c2, rows, rfl, hV, hbg⟩ := open_nest (hval 0 22 v0 rfl rfl) h0
  obtain ⟨no, rfl, _, _, wfno⟩ := open_int ound_3 (hval 1 3 v1 rfl rfl) h1
  obtain ⟨av, n, c, xs, rfl, hS, hbn⟩ := open_ints (hval 2 23 v2 rfl rfl) h2
  obtain ⟨dv, n3, c3, es, rfl, hEs⟩ := open_ems (hval 3 38 v3 rfl rfl) h3
  obtain ⟨z, rfl, _, _, wfz⟩ := open_int ound_5 (hval 4 5 v4 rfl rfl) h4
  have hz : 0 ≤ z ∧ z ≤ 255 := by have h := wfz; simp only [Lit.wf, Bool.and_eq_true, decide_eq_true_eq] at h; exact h
  refine (RetV.law (w_emendedLaw hS hV hDb hEs no z hz)).mono fun e W' ⟨he, hB⟩ => ?_
  subst he
  exact ⟨_, rfl, post_law laidOut (by kernel_rfl) ound_4 rfl rfl (by rw [Tryd.params6]; simp only [List.mem_cons, List.not_mem_nil, or_false, forall_eq_or_imp, forall_eq]; exact ⟨⟨by kernel_rfl, of_decide_eq_true (by kernel_rfl)⟩, ⟨by kernel_rfl, of_decide_eq_true (by kernel_rfl)⟩, ⟨by kernel_rfl, of_decide_eq_true (by kernel_rfl)⟩, ⟨by kernel_rfl, of_decide_eq_true (by kernel_rfl)⟩, ⟨by kernel_rfl, of_decide_eq_true (by kernel_rfl)⟩⟩) hW' hB⟩
theorem editionEmended_row : Rows.EditionEmendedSaid :=
  OpenClaim.holds_of_wide 6 Tryd.f6 rfl rfl rfl rfl rfl rfl rfl ⟨rfl, rfl, rfl, rfl, rfl⟩ rfl rfl rfl rfl rfl (by kernel_rfl) Tryd.func6 (by kernel_rfl)
    (of_decide_eq_true (by kernel_rfl)) (by unfold Func.isWrapper; first | (rw [if_pos (by decide +kernel)]; kernel_rfl) | (rw [if_neg (by decide +kernel)]; exact ⟨rfl, rfl⟩))
    (fun os started H enc _ => editionEmended_lifted os started H enc)
theorem editionEmended_holds : Rows.EditionEmendedCardSaid :=
  Claim7.holds_tied_plain_at .later [] [.data, .data] true (true, "919b8fa584992d8ae3c594542a3c1b39c1f5bee942388cade4cc2b467c5275fd") false
    editionEmended_row (fun _ h => by cases h) (by kernel_rfl) (fun _ h => by cases h) editionEmended_row_tie rfl ⟨rfl, rfl⟩ (by kernel_rfl) rfl
    (fun f fn hf hfn => by
      obtain rfl : f = 6 := Option.some.inj ((show Tryd.prog.funcNamed "kinesphere/kinespherelaw43.EditionEmended" = some 6 by kernel_rfl).symm.trans hf) |>.symm
      obtain rfl : fn = Tryd.f6 := (Option.some.inj (Tryd.func6.symm.trans hfn)).symm
      exact ⟨by kernel_rfl, fun j t ht => by
        rw [Tryd.params6] at ht
        have hm : t ∈ [22, 3, 23, 38, 5] := by simpa using Array.mem_of_getElem? ht
        have hall : ([22, 3, 23, 38, 5].all fun u => !Tryd.prog.wantsStandIn u) = true := by kernel_rfl
        exact (show Tryd.prog.wantsStandIn t = false by simpa using List.all_eq_true.1 hall t hm)⟩)
    (by kernel_rfl)
#print axioms editionEmended_holds
end Go.Proofs.YthcffaheamikgaaDoor
end
