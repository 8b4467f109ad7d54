/- rehearseFromSpec_holds, part F of the proof: what its theorems say holds without further conditions. -/
import Derived.Test.YtehkiccapbkhnaaGreatRRE
section
namespace Go.Proofs.YtehkiccapbkhnaaGreat
open Go Go.Kn Go.Proofs
theorem fun_12 : Fun Tryz.prog 12 := .of Tryz.func12 (by kernel_rfl) (by kernel_rfl)
theorem fun_14 : Fun Tryz.prog 14 := .of Tryz.func14 (by kernel_rfl) (by kernel_rfl)
theorem fun_16 : Fun Tryz.prog 16 := .of Tryz.func16 (by kernel_rfl) (by kernel_rfl)
theorem fun_18 : Fun Tryz.prog 18 := .of Tryz.func18 (by kernel_rfl) (by kernel_rfl)
theorem fun_22 : Fun Tryz.prog 22 := .of Tryz.func22 (by kernel_rfl) (by kernel_rfl)
theorem fun_25 : Fun Tryz.prog 25 := .of Tryz.func25 (by kernel_rfl) (by kernel_rfl)
theorem fun_27 : Fun Tryz.prog 27 := .of Tryz.func27 (by kernel_rfl) (by kernel_rfl)
theorem fun_37 : Fun Tryz.prog 37 := .of Tryz.func37 (by kernel_rfl) (by kernel_rfl)
theorem fun_38 : Fun Tryz.prog 38 := .of Tryz.func38 (by kernel_rfl) (by kernel_rfl)
theorem mkt_23 : MkT Tryz.prog 23 3 8 (.int .i64 0) := ⟨by kernel_rfl, by kernel_rfl, rfl⟩
theorem plt_33 : PlT Tryz.prog 33 #[(0, 1), (1, 1), (2, 1), (3, 1), (4, 1), (5, 1)] (.agg #[(.slice none 0 0), (.int .i64 0), (.int .i64 0), (.int .i64 0), (.int .i64 0), (.slice none 0 0)]) := ⟨.of (by kernel_rfl), by kernel_rfl, fun w => by kernel_rfl⟩
theorem plt_65 : PlT Tryz.prog 65 #[(0, 1), (1, 1), (2, 1), (3, 1), (4, 14), (18, 1)] (.agg #[(.int .i64 0), (.int .i64 0), (.int .i64 0), (.int .i64 0), (.int .i64 0), (.int .i64 0), (.int .i64 0), (.int .i64 0), (.int .i64 0), (.int .i64 0), (.int .i64 0), (.int .i64 0), (.int .i64 0), (.int .i64 0), (.int .i64 0), (.int .i64 0), (.int .i64 0), (.int .i64 0), (.slice none 0 0)]) := ⟨.of (by kernel_rfl), by kernel_rfl, fun w => by kernel_rfl⟩
theorem szt_33 : SzT Tryz.prog 33 6 := .of (by kernel_rfl)
theorem zt_33 : ZeroT Tryz.prog 33 (.agg #[(.slice none 0 0), (.int .i64 0), (.int .i64 0), (.int .i64 0), (.int .i64 0), (.slice none 0 0)]) := .of (by kernel_rfl)
theorem w_two (I : HMap) : RetM Tryz.prog 37 [] I [] (fun v I' L => L = [] ∧ ∃ a c b d, v = encCHA ⟨a, 3, c, 1, 1, 9, 2, b, 2, d⟩ ∧ CrAt I' ⟨a, 3, c, 1, 1, 9, 2, b, 2, d⟩ twoC) := by
 intro g H w hw
 refine enter Tryz.func37 rfl Tryz.ntmps37 rfl hw ?_
 have hIc := HLe.refl I
 refine zR ?_
 refine XO_alloc zt_33 rfl rfl (fun b_0 => ?_)
 refine zN (zR ?_)
 refine XO_buildSlice (ps := [(0, _), (1, _), (2, _)]) (m := [encI 4, encI 5, encI 8]) elt_23 rfl (.cons rfl (.cons rfl (.cons rfl (.nil)))) rfl (by simp [encI_len]) (by decide) (by decide) rfl rfl (fun b_1 => ?_)
 refine XO_freeze (by repeat (first | exact Take.here | apply Take.there)) (fun I1 hI1 hb1 => ?_)
 have hIc := hIc.trans hI1
 have hD := Sl.lit ([4, 5, 8] : List Int) rfl encI_len (show I1 b_1 = some (Obj.cells (([4, 5, 8] : List Int).flatMap encI).toArray 3 (0, 0)) from hb1)
 refine XO_buildSlice (ps := [(0, _)]) (m := [encI 7]) elt_23 rfl (.cons rfl (.nil)) rfl (by simp [encI_len]) (by decide) (by decide) rfl rfl (fun b_2 => ?_)
 refine XO_freeze (by repeat (first | exact Take.here | apply Take.there)) (fun I2 hI2 hb2 => ?_)
 have hD := hD.mono hI2; have hIc := hIc.trans hI2
 have hw1 := Sl.lit ([7] : List Int) rfl encI_len (show I2 b_2 = some (Obj.cells (([7] : List Int).flatMap encI).toArray 3 (0, 0)) from hb2)
 refine XO_v0 (ev_buildL (ps := [(0, _), (1, _), (2, _)]) [_, _, _, _] plt_58 rfl rfl) rfl rfl rfl ?_
 refine XO_buildSlice (ps := [(0, _)]) (m := [encI 7]) elt_23 rfl (.cons rfl (.nil)) rfl (by simp [encI_len]) (by decide) (by decide) rfl rfl (fun b_4 => ?_)
 refine XO_freeze (by repeat (first | exact Take.here | apply Take.there)) (fun I3 hI3 hb3 => ?_)
 have hD := hD.mono hI3; have hw1 := hw1.mono hI3; have hIc := hIc.trans hI3
 have hw2 := Sl.lit ([7] : List Int) rfl encI_len (show I3 b_4 = some (Obj.cells (([7] : List Int).flatMap encI).toArray 3 (0, 0)) from hb3)
 refine XO_buildSlice (ps := [(0, _)]) (m := [encI 0]) elt_23 rfl (.cons rfl (.nil)) rfl (by simp [encI_len]) (by decide) (by decide) rfl rfl (fun b_5 => ?_)
 refine XO_freeze (by repeat (first | exact Take.here | apply Take.there)) (fun I4 hI4 hb4 => ?_)
 have hD := hD.mono hI4; have hw1 := hw1.mono hI4; have hw2 := hw2.mono hI4; have hIc := hIc.trans hI4
 have hn2 := Sl.lit ([0] : List Int) rfl encI_len (show I4 b_5 = some (Obj.cells (([0] : List Int).flatMap encI).toArray 3 (0, 0)) from hb4)
 refine XO_v0 (ev_buildL (ps := [(0, _), (1, _), (2, _), (3, _)]) [_, _, _, _] plt_58 rfl rfl) rfl rfl rfl ?_
 refine XO_buildSlice (ps := [(0, _), (1, _)]) (m := [encSH ⟨3, 1, some ⟨b_2, 0, none⟩, 1, 1, none, 0, 0⟩, encSH ⟨4, 2, some ⟨b_4, 0, none⟩, 1, 1, some ⟨b_5, 0, none⟩, 1, 1⟩]) elt_27 rfl (.cons rfl (.cons rfl (.nil))) rfl (by simp [encSH_len]) (by decide) (by decide) rfl rfl (fun b_7 => ?_)
 refine XO_freeze (by repeat (first | exact Take.here | apply Take.there)) (fun I5 hI5 hb5 => ?_)
 have hD := hD.mono hI5; have hw1 := hw1.mono hI5; have hw2 := hw2.mono hI5; have hn2 := hn2.mono hI5; have hIc := hIc.trans hI5
 have hSS := Sl.lit ([⟨3, 1, some ⟨b_2, 0, none⟩, 1, 1, none, 0, 0⟩, ⟨4, 2, some ⟨b_4, 0, none⟩, 1, 1, some ⟨b_5, 0, none⟩, 1, 1⟩] : List SH) rfl encSH_len (show I5 b_7 = some (Obj.cells (([⟨3, 1, some ⟨b_2, 0, none⟩, 1, 1, none, 0, 0⟩, ⟨4, 2, some ⟨b_4, 0, none⟩, 1, 1, some ⟨b_5, 0, none⟩, 1, 1⟩] : List SH).flatMap encSH).toArray 58 (0, 0)) from hb5)
 refine XO_v0 (ev_buildL (ps := [(0, _), (1, _), (2, _), (3, _), (4, _), (5, _)]) [_, _, _, _, _, _] plt_33 rfl rfl) rfl rfl rfl ?_
 refine XO_storeA rfl rfl szt_33 rfl rfl rfl rfl (by repeat (first | exact Upd.here | apply Upd.there | apply upd_app)) ?_
 refine zN ?_
 refine X_ret ?_
 exact at_ret1L rfl rfl (.ag agt_33 (vs := encCH ⟨some ⟨b_1, 0, none⟩, 3, 3, 1, 1, 9, 2, some ⟨b_7, 0, none⟩, 2, 2⟩) (by repeat (first | exact Cells.here | apply Cells.there)) rfl) (fun w hw => ⟨_, I5, [], rfl, hIc, hw.drop, rfl, _, _, _, _, rfl, hD, rfl, rfl, rfl, rfl, _, hSS, (RelS.nil.snoc ⟨rfl, rfl, hw1, Sl.nil⟩).snoc ⟨rfl, rfl, hw2, hn2⟩⟩)
theorem w_leafS (I : HMap) (r d w9 : Int) : RetV Tryz.prog 38 [.int .i64 r, .int .i64 d, .int .i64 w9] I (encPHA ⟨r, d, w9, none, 0, 0⟩) := by
 intro g H w hw
 refine enter Tryz.func38 rfl Tryz.ntmps38 rfl hw ?_
 refine zR ?_
 refine XO_alloc zt_45 rfl rfl (fun b_6 => ?_)
 refine zN (zR ?_)
 refine zM ?_
 refine zM ?_
 refine zM ?_
 refine XO_v0 (ev_buildL (ps := [(0, _), (1, _), (2, _)]) [_, _, _, _] plt_45 rfl rfl) rfl rfl rfl ?_
 refine XO_storeA rfl rfl szt_45 rfl rfl rfl rfl (by repeat (first | exact Upd.here | apply Upd.there | apply upd_app)) ?_
 refine zN ?_
 refine X_ret ?_
 exact at_ret1L rfl rfl (.ag agt_45 (Cells.here (vs := encPH ⟨r, d, w9, none, 0, 0⟩)) rfl) (fun w hw => ⟨rfl, hw.drop⟩)
theorem w_planE (I : HMap) : RetM Tryz.prog 18 [encCHA (⟨none, 0, 0, 1, 1, 1, 1, none, 0, 0⟩ : CH)] I [] (fun v I' L' => L' = [] ∧ ∃ a cc, v = .tuple #[.slice a 0 cc, .bool true, .int .i64 0]) := by
 have hC : CrAt I (⟨none, 0, 0, 1, 1, 1, 1, none, 0, 0⟩ : CH) empC := ⟨Sl.nil, rfl, rfl, rfl, rfl, [], Sl.nil, RelS.nil⟩
 refine (w_Plan hC d_emp).mono fun v I' L' hI ⟨h1, a, cc, h2, h3⟩ => ⟨h1, a, cc, ?_⟩
 rw [f_pl3, f_po3, f_ck3] at h2
 exact h2
theorem w_chkZ (I : HMap) : RetV Tryz.prog 20 [encCHA (⟨none, 0, 0, 0, 0, 0, 0, none, 0, 0⟩ : CH)] I (.int .i64 400) := by
 have hC : CrAt I (⟨none, 0, 0, 0, 0, 0, 0, none, 0, 0⟩ : CH) zerC := ⟨Sl.nil, rfl, rfl, rfl, rfl, [], Sl.nil, RelS.nil⟩
 have h := w_chkC hC (by intro s hs; cases hs)
 rw [f_ck4] at h
 exact h
theorem w_chkM {I : HMap} {b : Nat} (hM : Sl I 1 encI (some ⟨b, 0, none⟩) 17 17 manC.days) : RetV Tryz.prog 20 [encCHA ⟨some ⟨b, 0, none⟩, 17, 17, 0, 0, 0, 0, none, 0, 0⟩] I (.int .i64 2) := by
 have hC : CrAt I ⟨some ⟨b, 0, none⟩, 17, 17, 0, 0, 0, 0, none, 0, 0⟩ manC := ⟨hM, rfl, rfl, rfl, rfl, [], Sl.nil, RelS.nil⟩
 have h := w_chkC hC (by intro s hs; cases hs)
 rw [f_ck5] at h
 exact h
set_option maxHeartbeats 1000000 in
set_option maxRecDepth 100000 in
theorem w_sane40 (I : HMap) : RetV Tryz.prog 10 [] I (.bool true) := by
 intro g H w hw
 refine enter Tryz.func10 rfl Tryz.ntmps10 rfl hw ?_
 have hIc := HLe.refl I
 refine zR ?_
 refine zA ?_
 refine zN (zR ?_)
 refine XO_callM (cap := []) (vs := []) rfl rfl fun_37 .nil (w_two I) rfl rfl ?_
 rintro vv1 I1 L1 hI1 ⟨rfl, ca, cc, sa, sc, rfl, hC1⟩
 have hIc := hIc.trans hI1
 rw [List.nil_append]
 refine XO_alloc zt_33 rfl rfl (fun b_1 => ?_)
 refine XO_storeA rfl rfl szt_33 rfl rfl rfl rfl (by repeat (first | exact Upd.here | apply Upd.there | apply upd_app)) ?_
 refine zN (zR ?_)
 refine XO_v0 (ev_loadA rfl agt_33 (fun hg => by first | exact Cells.immC (vs := encPH rh1) h5z | exact Cells.here (vs := encCH ⟨ca, 3, cc, 1, 1, 9, 2, sa, 2, sc⟩) | exact Cells.here (vs := encCH ⟨ca, 3, cc, 1, 1, 9, 1, sa, 2, sc⟩) | exact (Cells.here (vs := encCH ⟨ca, 3, cc, 1, 1, 9, 2, sa, 2, sc⟩)).there | exact Cells.immC (vs := encPH rh1) h5 | (repeat (first | exact Cells.here | exact Cells.s0 (vs := [_, _, _, _, _, _]) rfl | apply Cells.there | apply Cells.app))) rfl) rfl rfl rfl ?_
 refine XO_callM (cap := []) (vs := [_]) rfl rfl fun_18 .nil (w_Plan hC1 d_two) rfl rfl ?_
 rintro vv2 I2 L2 hI2 ⟨rfl, pa1, pc1, rfl, hP1⟩
 have hC1 := hC1.mono hI2; have hIc := hIc.trans hI2
 rw [List.nil_append]
 rw [f_pl1] at hP1
 rw [f_pl1, f_po1, f_ck1]
 refine zM ?_
 refine XO_v0 (ev_extract rfl rfl) rfl rfl rfl ?_
 refine XO_v0 (ev_extract rfl rfl) rfl rfl rfl ?_
 refine XO_v0 (ev_extract rfl rfl) rfl rfl rfl ?_
 refine zA ?_
 refine zA ?_
 refine zA ?_
 refine zN (zR ?_)
 refine XO_v0 (ev_loadA rfl agt_33 (fun hg => by first | exact Cells.immC (vs := encPH rh1) h5z | exact Cells.here (vs := encCH ⟨ca, 3, cc, 1, 1, 9, 2, sa, 2, sc⟩) | exact Cells.here (vs := encCH ⟨ca, 3, cc, 1, 1, 9, 1, sa, 2, sc⟩) | exact (Cells.here (vs := encCH ⟨ca, 3, cc, 1, 1, 9, 2, sa, 2, sc⟩)).there | exact Cells.immC (vs := encPH rh1) h5 | (repeat (first | exact Cells.here | exact Cells.s0 (vs := [_, _, _, _, _, _]) rfl | apply Cells.there | apply Cells.app))) rfl) rfl rfl rfl ?_
 refine XO_callM (cap := []) (vs := [_, _]) rfl rfl fun_25 .nil (w_Refute hC1 d_two 1) rfl rfl ?_
 rintro vv3 I3 L3 hI3 ⟨rfl, rh1, rfl, hR1⟩
 have hC1 := hC1.mono hI3; have hP1 := hP1.mono hI3; have hIc := hIc.trans hI3
 rw [List.nil_append]
 rw [f_rp1] at hR1
 rw [f_ro1, f_le1]
 refine zM ?_
 refine XO_v0 (ev_extract rfl rfl) rfl rfl rfl ?_
 refine XO_v0 (ev_extract rfl rfl) rfl rfl rfl ?_
 refine XO_v0 (ev_extract rfl rfl) rfl rfl rfl ?_
 refine XO_alloc zt_45 rfl rfl (fun b_5 => ?_)
 refine XO_storeA rfl rfl szt_45 rfl rfl rfl rfl (by repeat (first | exact Upd.here | apply Upd.there | apply upd_app)) ?_
 refine zA ?_
 refine zA ?_
 refine zN ?_
 refine X_seq ?_
 refine X_freeze .here (fun I4 hI4 hb4 => ?_)
 have hC1 := hC1.mono hI4; have hP1 := hP1.mono hI4; have hR1 := hR1.mono hI4; have hIc := hIc.trans hI4
 have h5 := ImmC.of hb4
 refine X_region ?_
 refine XO_v0 (ev_loadA rfl agt_33 (fun hg => by first | exact Cells.immC (vs := encPH rh1) h5z | exact Cells.here (vs := encCH ⟨ca, 3, cc, 1, 1, 9, 2, sa, 2, sc⟩) | exact Cells.here (vs := encCH ⟨ca, 3, cc, 1, 1, 9, 1, sa, 2, sc⟩) | exact (Cells.here (vs := encCH ⟨ca, 3, cc, 1, 1, 9, 2, sa, 2, sc⟩)).there | exact Cells.immC (vs := encPH rh1) h5 | (repeat (first | exact Cells.here | exact Cells.s0 (vs := [_, _, _, _, _, _]) rfl | apply Cells.there | apply Cells.app))) rfl) rfl rfl rfl ?_
 refine XO_callM (cap := []) (vs := [_, _]) rfl rfl fun_25 .nil (w_Refute hC1 d_two 2) rfl rfl ?_
 rintro vv5 I5 L5 hI5 ⟨rfl, rh2, rfl, hR2⟩
 have hC1 := hC1.mono hI5; have hP1 := hP1.mono hI5; have hR1 := hR1.mono hI5; have h5 := h5.mono hI5; have hIc := hIc.trans hI5
 rw [List.nil_append]
 rw [f_ro2, f_le2]
 refine zM ?_
 refine XO_v0 (ev_extract rfl rfl) rfl rfl rfl ?_
 refine XO_v0 (ev_extract rfl rfl) rfl rfl rfl ?_
 refine XO_v0 (ev_extract rfl rfl) rfl rfl rfl ?_
 refine XO_alloc zt_45 rfl rfl (fun b_8 => ?_)
 refine XO_storeA rfl rfl szt_45 rfl rfl rfl rfl (by repeat (first | exact Upd.here | apply Upd.there | apply upd_app)) ?_
 refine zA ?_
 refine zA ?_
 refine zN ?_
 refine X_seq ?_
 refine X_freeze .here (fun I6 hI6 hb6 => ?_)
 have hC1 := hC1.mono hI6; have hP1 := hP1.mono hI6; have hR1 := hR1.mono hI6; have h5 := h5.mono hI6; have hIc := hIc.trans hI6
 have h8 := ImmC.of hb6
 refine X_region ?_
 refine XO_v0 (ev_loadA rfl agt_33 (fun hg => by first | exact Cells.immC (vs := encPH rh1) h5z | exact Cells.here (vs := encCH ⟨ca, 3, cc, 1, 1, 9, 2, sa, 2, sc⟩) | exact Cells.here (vs := encCH ⟨ca, 3, cc, 1, 1, 9, 1, sa, 2, sc⟩) | exact (Cells.here (vs := encCH ⟨ca, 3, cc, 1, 1, 9, 2, sa, 2, sc⟩)).there | exact Cells.immC (vs := encPH rh1) h5 | (repeat (first | exact Cells.here | exact Cells.s0 (vs := [_, _, _, _, _, _]) rfl | apply Cells.there | apply Cells.app))) rfl) rfl rfl rfl ?_
 refine XO_v0 (ev_loadA rfl agt_45 (fun hg => by first | exact Cells.immC (vs := encPH rh1) h5z | exact Cells.here (vs := encCH ⟨ca, 3, cc, 1, 1, 9, 2, sa, 2, sc⟩) | exact Cells.here (vs := encCH ⟨ca, 3, cc, 1, 1, 9, 1, sa, 2, sc⟩) | exact (Cells.here (vs := encCH ⟨ca, 3, cc, 1, 1, 9, 2, sa, 2, sc⟩)).there | exact Cells.immC (vs := encPH rh1) h5 | (repeat (first | exact Cells.here | exact Cells.s0 (vs := [_, _, _, _]) rfl | apply Cells.there | apply Cells.app))) rfl) rfl rfl rfl ?_
 refine XO_callV0 (cap := []) (vs := [_, _, _]) rfl rfl fun_27 (w_Accepts hC1 d_two 1 prfP rh1 hR1 f_sm) rfl rfl ?_
 rw [f_ac1, f_le1]
 refine zM ?_
 refine XO_v0 (ev_extract rfl rfl) rfl rfl rfl ?_
 refine XO_v0 (ev_extract rfl rfl) rfl rfl rfl ?_
 refine zA ?_
 refine zA ?_
 refine zN (zR ?_)
 refine XO_v0 (ev_loadA rfl agt_33 (fun hg => by first | exact Cells.immC (vs := encPH rh1) h5z | exact Cells.here (vs := encCH ⟨ca, 3, cc, 1, 1, 9, 2, sa, 2, sc⟩) | exact Cells.here (vs := encCH ⟨ca, 3, cc, 1, 1, 9, 1, sa, 2, sc⟩) | exact (Cells.here (vs := encCH ⟨ca, 3, cc, 1, 1, 9, 2, sa, 2, sc⟩)).there | exact Cells.immC (vs := encPH rh1) h5 | (repeat (first | exact Cells.here | exact Cells.s0 (vs := [_, _, _, _, _, _]) rfl | apply Cells.there | apply Cells.app))) rfl) rfl rfl rfl ?_
 refine XO_v0 (ev_loadA rfl agt_45 (fun hg => by first | exact Cells.immC (vs := encPH rh1) h5z | exact Cells.here (vs := encCH ⟨ca, 3, cc, 1, 1, 9, 2, sa, 2, sc⟩) | exact Cells.here (vs := encCH ⟨ca, 3, cc, 1, 1, 9, 1, sa, 2, sc⟩) | exact (Cells.here (vs := encCH ⟨ca, 3, cc, 1, 1, 9, 2, sa, 2, sc⟩)).there | exact Cells.immC (vs := encPH rh1) h5 | (repeat (first | exact Cells.here | exact Cells.s0 (vs := [_, _, _, _]) rfl | apply Cells.there | apply Cells.app))) rfl) rfl rfl rfl ?_
 refine XO_callV0 (cap := []) (vs := [_, _, _]) rfl rfl fun_27 (w_Accepts hC1 d_two 2 prfP rh1 hR1 f_sm) rfl rfl ?_
 rw [f_ac2, f_le2]
 refine zM ?_
 refine XO_v0 (ev_extract rfl rfl) rfl rfl rfl ?_
 refine XO_v0 (ev_extract rfl rfl) rfl rfl rfl ?_
 refine zA ?_
 refine zA ?_
 refine zN (zR ?_)
 refine XO_v0 (ev_loadA rfl agt_33 (fun hg => by first | exact Cells.immC (vs := encPH rh1) h5z | exact Cells.here (vs := encCH ⟨ca, 3, cc, 1, 1, 9, 2, sa, 2, sc⟩) | exact Cells.here (vs := encCH ⟨ca, 3, cc, 1, 1, 9, 1, sa, 2, sc⟩) | exact (Cells.here (vs := encCH ⟨ca, 3, cc, 1, 1, 9, 2, sa, 2, sc⟩)).there | exact Cells.immC (vs := encPH rh1) h5 | (repeat (first | exact Cells.here | exact Cells.s0 (vs := [_, _, _, _, _, _]) rfl | apply Cells.there | apply Cells.app))) rfl) rfl rfl rfl ?_
 refine XO_buildSlice (ps := [(0, _), (1, _)]) (m := [encI 1, encI 1]) elt_23 rfl (.cons rfl (.cons rfl (.nil))) rfl (by simp [encI_len]) (by decide) (by decide) rfl rfl (fun b_64 => ?_)
 refine XO_freeze (by repeat (first | exact Take.here | apply Take.there)) (fun I7 hI7 hb7 => ?_)
 have hC1 := hC1.mono hI7; have hP1 := hP1.mono hI7; have hR1 := hR1.mono hI7; have h5 := h5.mono hI7; have h8 := h8.mono hI7; have hIc := hIc.trans hI7
 have hG1 := Sl.lit ([1, 1] : List Int) rfl encI_len (show I7 b_64 = some (Obj.cells (([1, 1] : List Int).flatMap encI).toArray 3 (0, 0)) from hb7)
 refine XO_callM (cap := []) (vs := [_, _]) rfl rfl fun_16 .nil (w_Broken hC1 d_two hG1 (by decide)) rfl rfl ?_
 rintro vv8 I8 L8 hI8 ⟨rfl, ba1, bc1, rfl, hK1⟩
 have hC1 := hC1.mono hI8; have hP1 := hP1.mono hI8; have hR1 := hR1.mono hI8; have h5 := h5.mono hI8; have h8 := h8.mono hI8; have hG1 := hG1.mono hI8; have hIc := hIc.trans hI8
 rw [List.nil_append]
 rw [f_bl1] at hK1
 rw [f_bl1, f_be1]
 refine zM ?_
 refine XO_v0 (ev_extract rfl rfl) rfl rfl rfl ?_
 refine XO_v0 (ev_extract rfl rfl) rfl rfl rfl ?_
 refine zA ?_
 refine zA ?_
 refine zN (zR ?_)
 refine XO_v0 (ev_fieldAddr rfl fld_33_4) rfl rfl rfl ?_
 refine zS szt_3 ?_
 refine zN ?_
 refine X_seq ?_
 refine X_locEq (loc' := [(b_1, .cells (encCH ⟨ca, 3, cc, 1, 1, 9, 1, sa, 2, sc⟩).toArray 33 (0, 0))]) rfl ?_
 have hC2 : CrAt I8 ⟨ca, 3, cc, 1, 1, 9, 1, sa, 2, sc⟩ two1C := ⟨hC1.1, rfl, rfl, rfl, rfl, hC1.2.2.2.2.2⟩
 refine X_region ?_
 refine XO_v0 (ev_loadA rfl agt_33 (fun hg => by first | exact Cells.immC (vs := encPH rh1) h5z | exact Cells.here (vs := encCH ⟨ca, 3, cc, 1, 1, 9, 2, sa, 2, sc⟩) | exact Cells.here (vs := encCH ⟨ca, 3, cc, 1, 1, 9, 1, sa, 2, sc⟩) | exact (Cells.here (vs := encCH ⟨ca, 3, cc, 1, 1, 9, 2, sa, 2, sc⟩)).there | exact Cells.immC (vs := encPH rh1) h5 | (repeat (first | exact Cells.here | exact Cells.s0 (vs := [_, _, _, _, _, _]) rfl | apply Cells.there | apply Cells.app))) rfl) rfl rfl rfl ?_
 refine XO_callM (cap := []) (vs := [_]) rfl rfl fun_18 .nil (w_Plan hC2 d_two1) rfl rfl ?_
 rintro vv9 I9 L9 hI9 ⟨rfl, pa2, pc2, rfl, hP2⟩
 have hC1 := hC1.mono hI9; have hP1 := hP1.mono hI9; have hR1 := hR1.mono hI9; have h5 := h5.mono hI9; have h8 := h8.mono hI9; have hG1 := hG1.mono hI9; have hK1 := hK1.mono hI9; have hC2 := hC2.mono hI9; have hIc := hIc.trans hI9
 rw [List.nil_append]
 rw [f_pl2] at hP2
 rw [f_pl2, f_po2, f_ck2]
 refine zM ?_
 refine XO_v0 (ev_extract rfl rfl) rfl rfl rfl ?_
 refine XO_v0 (ev_extract rfl rfl) rfl rfl rfl ?_
 refine XO_v0 (ev_extract rfl rfl) rfl rfl rfl ?_
 refine zA ?_
 refine zA ?_
 refine zA ?_
 refine zN (zR ?_)
 refine XO_v0 (ev_buildL (ps := [(6, _)]) [_, _, _, _, _, _, _, _, _, _, _, _, _, _] plt_63 rfl rfl) rfl rfl rfl ?_
 refine XO_v0 (ev_buildL (ps := [(0, _), (1, _), (3, _), (4, _)]) [_, _, _, _, _, _, _, _, _, _, _, _, _, _, _, _, _, _, _] plt_65 rfl rfl) rfl rfl rfl ?_
 refine XO_buildSlice (ps := [(0, _)]) (m := [encP patP]) elt_22 rfl (.cons rfl (.nil)) rfl (by simp [encP_len]) (by decide) (by decide) rfl rfl (fun b_77 => ?_)
 refine XO_freeze (by repeat (first | exact Take.here | apply Take.there)) (fun I10 hI10 hb10 => ?_)
 have hC1 := hC1.mono hI10; have hP1 := hP1.mono hI10; have hR1 := hR1.mono hI10; have h5 := h5.mono hI10; have h8 := h8.mono hI10; have hG1 := hG1.mono hI10; have hK1 := hK1.mono hI10; have hC2 := hC2.mono hI10; have hP2 := hP2.mono hI10; have hIc := hIc.trans hI10
 have hP0 := Sl.lit ([patP] : List Pt) rfl encP_len (show I10 b_77 = some (Obj.cells (([patP] : List Pt).flatMap encP).toArray 65 (0, 0)) from hb10)
 have hPs : SlP I10 (some ⟨b_77, 0, none⟩) 1 1 [patP] := ⟨hP0, fun q hq => by simp only [List.mem_singleton] at hq; subst hq; exact Sl.nil⟩
 refine zA ?_
 refine zN (zR ?_)
 refine zM ?_
 refine XO_buildSlice (ps := [(0, _)]) (m := [encI 2]) elt_23 rfl (.cons rfl (.nil)) rfl (by simp [encI_len]) (by decide) (by decide) rfl rfl (fun b_80 => ?_)
 refine XO_freeze (by repeat (first | exact Take.here | apply Take.there)) (fun I11 hI11 hb11 => ?_)
 have hC1 := hC1.mono hI11; have hP1 := hP1.mono hI11; have hR1 := hR1.mono hI11; have h5 := h5.mono hI11; have h8 := h8.mono hI11; have hG1 := hG1.mono hI11; have hK1 := hK1.mono hI11; have hC2 := hC2.mono hI11; have hP2 := hP2.mono hI11; have hP0 := hP0.mono hI11; have hPs := hPs.mono hI11; have hIc := hIc.trans hI11
 have hT1 := Sl.lit ([2] : List Int) rfl encI_len (show I11 b_80 = some (Obj.cells (([2] : List Int).flatMap encI).toArray 3 (0, 0)) from hb11)
 refine XO_buildSlice (ps := [(0, _)]) (m := [encI 2]) elt_23 rfl (.cons rfl (.nil)) rfl (by simp [encI_len]) (by decide) (by decide) rfl rfl (fun b_81 => ?_)
 refine XO_freeze (by repeat (first | exact Take.here | apply Take.there)) (fun I12 hI12 hb12 => ?_)
 have hC1 := hC1.mono hI12; have hP1 := hP1.mono hI12; have hR1 := hR1.mono hI12; have h5 := h5.mono hI12; have h8 := h8.mono hI12; have hG1 := hG1.mono hI12; have hK1 := hK1.mono hI12; have hC2 := hC2.mono hI12; have hP2 := hP2.mono hI12; have hP0 := hP0.mono hI12; have hPs := hPs.mono hI12; have hT1 := hT1.mono hI12
 have hIc := hIc.trans hI12
 have hT2 := Sl.lit ([2] : List Int) rfl encI_len (show I12 b_81 = some (Obj.cells (([2] : List Int).flatMap encI).toArray 3 (0, 0)) from hb12)
 refine XO_buildSlice (ps := [(0, _), (1, _), (2, _)]) (m := [encH ⟨none, 0, 0⟩, encH ⟨some ⟨b_81, 0, none⟩, 1, 1⟩, encH ⟨none, 0, 0⟩]) elt_24 rfl (.cons rfl (.cons rfl (.cons rfl (.nil)))) rfl (by simp [encH_len]) (by decide) (by decide) rfl rfl (fun b_82 => ?_)
 refine XO_freeze (by repeat (first | exact Take.here | apply Take.there)) (fun I13 hI13 hb13 => ?_)
 have hC1 := hC1.mono hI13; have hP1 := hP1.mono hI13; have hR1 := hR1.mono hI13; have h5 := h5.mono hI13; have h8 := h8.mono hI13; have hG1 := hG1.mono hI13; have hK1 := hK1.mono hI13; have hC2 := hC2.mono hI13; have hP2 := hP2.mono hI13; have hP0 := hP0.mono hI13; have hPs := hPs.mono hI13; have hT1 := hT1.mono hI13
 have hT2 := hT2.mono hI13; have hIc := hIc.trans hI13
 have hH3 := Sl.lit [(⟨none, 0, 0⟩ : Hd), ⟨some ⟨b_81, 0, none⟩, 1, 1⟩, ⟨none, 0, 0⟩] rfl encH_len (show I13 b_82 = some (Obj.cells ([(⟨none, 0, 0⟩ : Hd), ⟨some ⟨b_81, 0, none⟩, 1, 1⟩, ⟨none, 0, 0⟩].flatMap encH).toArray 23 (0, 0)) from hb13)
 refine XO_callM (cap := []) (vs := [_, _, _]) rfl rfl fun_12 .nil (w_From hPs (by decide) hT1 (by decide) (show SlHA I13 1 encI _ _ _ _ [[], [2], []] from ⟨hH3, .cons Sl.nil (.cons hT2 (.cons Sl.nil .nil))⟩) (by decide) (by intro v hv; simp only [List.mem_cons, List.not_mem_nil, or_false] at hv; rcases hv with rfl | rfl | rfl <;> simp)) rfl rfl ?_
 rintro vv14 I14 L14 hI14 ⟨rfl, fa1, fc1, rfl, hF1⟩
 have hC1 := hC1.mono hI14; have hP1 := hP1.mono hI14; have hR1 := hR1.mono hI14; have h5 := h5.mono hI14; have h8 := h8.mono hI14; have hG1 := hG1.mono hI14; have hK1 := hK1.mono hI14; have hC2 := hC2.mono hI14; have hP2 := hP2.mono hI14; have hP0 := hP0.mono hI14; have hPs := hPs.mono hI14; have hT1 := hT1.mono hI14
 have hT2 := hT2.mono hI14; have hH3 := hH3.mono hI14; have hIc := hIc.trans hI14
 rw [List.nil_append]
 rw [f_fr1] at hF1
 rw [f_fr1, f_fe1]
 refine zM ?_
 refine XO_v0 (ev_extract rfl rfl) rfl rfl rfl ?_
 refine XO_v0 (ev_extract rfl rfl) rfl rfl rfl ?_
 refine zA ?_
 refine zA ?_
 refine zN (zR ?_)
 refine zM ?_
 refine XO_buildSlice (ps := [(0, _)]) (m := [encI 3]) elt_23 rfl (.cons rfl (.nil)) rfl (by simp [encI_len]) (by decide) (by decide) rfl rfl (fun b_88 => ?_)
 refine XO_freeze (by repeat (first | exact Take.here | apply Take.there)) (fun I15 hI15 hb15 => ?_)
 have hC1 := hC1.mono hI15; have hP1 := hP1.mono hI15; have hR1 := hR1.mono hI15; have h5 := h5.mono hI15; have h8 := h8.mono hI15; have hG1 := hG1.mono hI15; have hK1 := hK1.mono hI15; have hC2 := hC2.mono hI15; have hP2 := hP2.mono hI15; have hP0 := hP0.mono hI15; have hPs := hPs.mono hI15; have hT1 := hT1.mono hI15
 have hT2 := hT2.mono hI15; have hH3 := hH3.mono hI15; have hF1 := hF1.mono hI15; have hIc := hIc.trans hI15
 have hT3 := Sl.lit ([3] : List Int) rfl encI_len (show I15 b_88 = some (Obj.cells (([3] : List Int).flatMap encI).toArray 3 (0, 0)) from hb15)
 refine XO_callM (cap := []) (vs := [_, _, _]) rfl rfl fun_12 .nil (w_From hPs (by decide) hT3 (by decide) (show SlHA I15 1 encI none 0 0 [] [] from ⟨Sl.nil, .nil⟩) (by decide) (by intro v hv; cases hv)) rfl rfl ?_
 rintro vv16 I16 L16 hI16 ⟨rfl, fa2, fc2, rfl, hF2⟩
 have hC1 := hC1.mono hI16; have hP1 := hP1.mono hI16; have hR1 := hR1.mono hI16; have h5 := h5.mono hI16; have h8 := h8.mono hI16; have hG1 := hG1.mono hI16; have hK1 := hK1.mono hI16; have hC2 := hC2.mono hI16; have hP2 := hP2.mono hI16; have hP0 := hP0.mono hI16; have hPs := hPs.mono hI16; have hT1 := hT1.mono hI16
 have hT2 := hT2.mono hI16; have hH3 := hH3.mono hI16; have hF1 := hF1.mono hI16; have hT3 := hT3.mono hI16; have hIc := hIc.trans hI16
 rw [List.nil_append]
 rw [f_fe2]
 refine zM ?_
 refine XO_v0 (ev_extract rfl rfl) rfl rfl rfl ?_
 refine XO_v0 (ev_extract rfl rfl) rfl rfl rfl ?_
 refine zA ?_
 refine zA ?_
 refine zN (zR ?_)
 refine XO_v0 (ev_loadA rfl agt_33 (fun hg => by first | exact Cells.immC (vs := encPH rh1) h5z | exact Cells.here (vs := encCH ⟨ca, 3, cc, 1, 1, 9, 2, sa, 2, sc⟩) | exact Cells.here (vs := encCH ⟨ca, 3, cc, 1, 1, 9, 1, sa, 2, sc⟩) | exact (Cells.here (vs := encCH ⟨ca, 3, cc, 1, 1, 9, 2, sa, 2, sc⟩)).there | exact Cells.immC (vs := encPH rh1) h5 | (repeat (first | exact Cells.here | exact Cells.s0 (vs := [_, _, _, _, _, _]) rfl | apply Cells.there | apply Cells.app))) rfl) rfl rfl rfl ?_
 refine XO_buildSlice (ps := [(0, _), (1, _), (2, _)]) (m := [encI 0, encI 0, encI 0]) elt_23 rfl (.cons rfl (.cons rfl (.cons rfl (.nil)))) rfl (by simp [encI_len]) (by decide) (by decide) rfl rfl (fun b_94 => ?_)
 refine XO_freeze (by repeat (first | exact Take.here | apply Take.there)) (fun I17 hI17 hb17 => ?_)
 have hC1 := hC1.mono hI17; have hP1 := hP1.mono hI17; have hR1 := hR1.mono hI17; have h5 := h5.mono hI17; have h8 := h8.mono hI17; have hG1 := hG1.mono hI17; have hK1 := hK1.mono hI17; have hC2 := hC2.mono hI17; have hP2 := hP2.mono hI17; have hP0 := hP0.mono hI17; have hPs := hPs.mono hI17; have hT1 := hT1.mono hI17
 have hT2 := hT2.mono hI17; have hH3 := hH3.mono hI17; have hF1 := hF1.mono hI17; have hT3 := hT3.mono hI17; have hIc := hIc.trans hI17
 have hG2 := Sl.lit ([0, 0, 0] : List Int) rfl encI_len (show I17 b_94 = some (Obj.cells (([0, 0, 0] : List Int).flatMap encI).toArray 3 (0, 0)) from hb17)
 refine XO_callM (cap := []) (vs := [_, _]) rfl rfl fun_16 .nil (w_Broken hC2 d_two1 hG2 (by decide)) rfl rfl ?_
 rintro vv18 I18 L18 hI18 ⟨rfl, ba2, bc2, rfl, hK2⟩
 have hC1 := hC1.mono hI18; have hP1 := hP1.mono hI18; have hR1 := hR1.mono hI18; have h5 := h5.mono hI18; have h8 := h8.mono hI18; have hG1 := hG1.mono hI18; have hK1 := hK1.mono hI18; have hC2 := hC2.mono hI18; have hP2 := hP2.mono hI18; have hP0 := hP0.mono hI18; have hPs := hPs.mono hI18; have hT1 := hT1.mono hI18
 have hT2 := hT2.mono hI18; have hH3 := hH3.mono hI18; have hF1 := hF1.mono hI18; have hT3 := hT3.mono hI18; have hG2 := hG2.mono hI18; have hIc := hIc.trans hI18
 rw [List.nil_append]
 rw [f_be2]
 refine zM ?_
 refine XO_v0 (ev_extract rfl rfl) rfl rfl rfl ?_
 refine XO_v0 (ev_extract rfl rfl) rfl rfl rfl ?_
 refine zA ?_
 refine zA ?_
 refine zN (zR ?_)
 refine XO_v0 (ev_buildL (ps := [(1, _), (2, _), (3, _), (4, _)]) [_, _, _, _, _, _] plt_33 rfl rfl) rfl rfl rfl ?_
 refine XO_callM (cap := []) (vs := [_]) rfl rfl fun_18 .nil (w_planE I18) rfl rfl ?_
 rintro vv19 I19 L19 hI19 ⟨rfl, pa3, pc3, rfl⟩
 have hC1 := hC1.mono hI19; have hP1 := hP1.mono hI19; have hR1 := hR1.mono hI19; have h5 := h5.mono hI19; have h8 := h8.mono hI19; have hG1 := hG1.mono hI19; have hK1 := hK1.mono hI19; have hC2 := hC2.mono hI19; have hP2 := hP2.mono hI19; have hP0 := hP0.mono hI19; have hPs := hPs.mono hI19; have hT1 := hT1.mono hI19
 have hT2 := hT2.mono hI19; have hH3 := hH3.mono hI19; have hF1 := hF1.mono hI19; have hT3 := hT3.mono hI19; have hG2 := hG2.mono hI19; have hIc := hIc.trans hI19
 rw [List.nil_append]
 refine zM ?_
 refine XO_v0 (ev_extract rfl rfl) rfl rfl rfl ?_
 refine XO_v0 (ev_extract rfl rfl) rfl rfl rfl ?_
 refine XO_v0 (ev_extract rfl rfl) rfl rfl rfl ?_
 refine zA ?_
 refine zA ?_
 refine zA ?_
 refine zN ?_
 refine X_seq ?_
 refine zR ?_
 simp only [List.append_eq, List.cons_append, List.nil_append]
 refine zM ?_
 refine zC ?_
 refine zM ?_
 refine XO_pushF 2 rfl rfl rfl ?_
 refine XO_v1 (ev_move rfl) (.some rfl rfl rfl rfl gbf) rfl rfl rfl ?_
 refine XO_v1 (ev_cmp rfl rfl rfl) (.some rfl rfl rfl rfl gbf) rfl rfl rfl ?_
 refine XO_or0 rfl rfl rfl rfl rfl ?_
 refine zM ?_
 refine XO_pushF 6 rfl rfl rfl ?_
 refine XO_v1 (ev_move rfl) (.some rfl rfl rfl rfl gbf) rfl rfl rfl ?_
 refine XO_v1 (ev_cmp rfl rfl rfl) (.some rfl rfl rfl rfl gbf) rfl rfl rfl ?_
 refine XO_or0 rfl rfl rfl rfl rfl ?_
 refine zM ?_
 refine XO_pushF 10 rfl rfl rfl ?_
 refine XO_v1 (ev_move rfl) (.some rfl rfl rfl rfl gbf) rfl rfl rfl ?_
 refine XO_v1 (ev_cmp rfl rfl rfl) (.some rfl rfl rfl rfl gbf) rfl rfl rfl ?_
 refine XO_or0 rfl rfl rfl rfl rfl ?_
 refine zM ?_
 refine XO_pushF 14 rfl rfl rfl ?_
 refine XO_v1 (ev_move rfl) (.some rfl rfl rfl rfl gbf) rfl rfl rfl ?_
 refine XO_v1 (ev_cmp rfl rfl rfl) (.some rfl rfl rfl rfl gbf) rfl rfl rfl ?_
 refine XO_or0 rfl rfl rfl rfl rfl ?_
 refine zM ?_
 refine XO_pushF 18 rfl rfl rfl ?_
 refine XO_v1 (ev_move rfl) (.some rfl rfl rfl rfl gbf) rfl rfl rfl ?_
 refine XO_v1 (ev_cmp rfl rfl rfl) (.some rfl rfl rfl rfl gbf) rfl rfl rfl ?_
 refine XO_or0 rfl rfl rfl rfl rfl ?_
 refine zM ?_
 refine XO_pushF 22 rfl rfl rfl ?_
 refine XO_v1 (ev_move rfl) (.some rfl rfl rfl rfl gbf) rfl rfl rfl ?_
 refine XO_v1 (ev_cmp rfl rfl rfl) (.some rfl rfl rfl rfl gbf) rfl rfl rfl ?_
 refine XO_or0 rfl rfl rfl rfl rfl ?_
 refine zM ?_
 refine XO_pushF 26 rfl rfl rfl ?_
 refine XO_v1 (ev_move rfl) (.some rfl rfl rfl rfl gbf) rfl rfl rfl ?_
 refine XO_v1 (ev_cmp rfl rfl rfl) (.some rfl rfl rfl rfl gbf) rfl rfl rfl ?_
 refine XO_or0 rfl rfl rfl rfl rfl ?_
 refine zM ?_
 refine XO_pushF 30 rfl rfl rfl ?_
 refine XO_v1 (ev_move rfl) (.some rfl rfl rfl rfl gbf) rfl rfl rfl ?_
 refine XO_v1 (ev_cmp rfl rfl rfl) (.some rfl rfl rfl rfl gbf) rfl rfl rfl ?_
 refine XO_or0 rfl rfl rfl rfl rfl ?_
 refine zM ?_
 refine XO_pushF 34 rfl rfl rfl ?_
 refine XO_v1 (ev_move rfl) (.some rfl rfl rfl rfl gbf) rfl rfl rfl ?_
 refine XO_v1 (ev_cmp rfl rfl rfl) (.some rfl rfl rfl rfl gbf) rfl rfl rfl ?_
 refine XO_or0 rfl rfl rfl rfl rfl ?_
 refine zM ?_
 refine XO_pushF 38 rfl rfl rfl ?_
 refine XO_v1 (ev_move rfl) (.some rfl rfl rfl rfl gbf) rfl rfl rfl ?_
 refine XO_v1 (ev_cmp rfl rfl rfl) (.some rfl rfl rfl rfl gbf) rfl rfl rfl ?_
 refine XO_or0 rfl rfl rfl rfl rfl ?_
 refine zM ?_
 refine XO_pushF 42 rfl rfl rfl ?_
 refine XO_v1 (ev_move rfl) (.some rfl rfl rfl rfl gbf) rfl rfl rfl ?_
 refine XO_v1 (ev_not rfl) (.some rfl rfl rfl rfl gbf) rfl rfl rfl ?_
 refine XO_or0 rfl rfl rfl rfl rfl ?_
 refine zM ?_
 refine XO_pushF 46 rfl rfl rfl ?_
 refine XO_v1 (ev_move rfl) (.some rfl rfl rfl rfl gbf) rfl rfl rfl ?_
 refine XO_v1 (ev_not rfl) (.some rfl rfl rfl rfl gbf) rfl rfl rfl ?_
 refine XO_or0 rfl rfl rfl rfl rfl ?_
 refine zM ?_
 refine XO_pushF 50 rfl rfl rfl ?_
 refine XO_v1 (ev_move rfl) (.some rfl rfl rfl rfl gbf) rfl rfl rfl ?_
 refine XO_or0 rfl rfl rfl rfl rfl ?_
 refine zM ?_
 refine XO_pushF 53 rfl rfl rfl ?_
 refine XO_v1 (ev_move rfl) (.some rfl rfl rfl rfl gbf) rfl rfl rfl ?_
 refine XO_v1 (ev_not rfl) (.some rfl rfl rfl rfl gbf) rfl rfl rfl ?_
 refine XO_or0 rfl rfl rfl rfl rfl ?_
 refine zM ?_
 refine XO_pushF 57 rfl rfl rfl ?_
 refine XO_v1 (ev_move rfl) (.some rfl rfl rfl rfl gbf) rfl rfl rfl ?_
 refine XO_or0 rfl rfl rfl rfl rfl ?_
 refine zM ?_
 refine XO_pushF 60 rfl rfl rfl ?_
 refine XO_v1 (ev_move rfl) (.some rfl rfl rfl rfl gbf) rfl rfl rfl ?_
 refine XO_v1 (ev_not rfl) (.some rfl rfl rfl rfl gbf) rfl rfl rfl ?_
 refine XO_or0 rfl rfl rfl rfl rfl ?_
 refine zM ?_
 refine XO_pushF 64 rfl rfl rfl ?_
 refine XO_v1 (ev_move rfl) (.some rfl rfl rfl rfl gbf) rfl rfl rfl ?_
 refine XO_v1 (ev_not rfl) (.some rfl rfl rfl rfl gbf) rfl rfl rfl ?_
 refine XO_or0 rfl rfl rfl rfl rfl ?_
 refine zM ?_
 refine XO_pushF 68 rfl rfl rfl ?_
 refine XO_v1 (ev_move rfl) (.some rfl rfl rfl rfl gbf) rfl rfl rfl ?_
 refine XO_v1 (ev_lenS rfl slt_23) (.some rfl rfl rfl rfl gbf) rfl rfl rfl ?_
 refine XO_v1 (ev_cmp rfl rfl rfl) (.some rfl rfl rfl rfl gbf) rfl rfl rfl ?_
 refine XO_or0 rfl rfl rfl rfl rfl ?_
 refine zN ?_
 refine X_cond rfl (fun hc176 => ?_) (fun hc176 => ?_)
 ·
  exact absurd hc176 (by first | decide | (simp only []; decide))
 refine X_skip ?_
 refine at_then ?_
 refine X_seq ?_
 refine zR ?_
 refine XO_v0 (ev_buildL (ps := []) [_, _, _, _, _, _] plt_33 rfl rfl) rfl rfl rfl ?_
 refine XO_callV0 (cap := []) (vs := [_]) rfl rfl fun_20 (w_chkZ _) rfl rfl ?_
 refine zC ?_
 refine zM ?_
 refine XO_want (dj := 180) rfl rfl rfl ?_
 refine XO_v0 (ev_loadA rfl agt_33 (fun hg => by first | exact Cells.immC (vs := encPH rh1) h5z | exact Cells.here (vs := encCH ⟨ca, 3, cc, 1, 1, 9, 2, sa, 2, sc⟩) | exact Cells.here (vs := encCH ⟨ca, 3, cc, 1, 1, 9, 1, sa, 2, sc⟩) | exact (Cells.here (vs := encCH ⟨ca, 3, cc, 1, 1, 9, 2, sa, 2, sc⟩)).there | exact Cells.immC (vs := encPH rh1) h5 | (repeat (first | exact Cells.here | exact Cells.s0 (vs := [_, _, _, _, _, _]) rfl | apply Cells.there | apply Cells.app))) rfl) rfl rfl rfl ?_
 refine XO_want (dj := 180) rfl rfl rfl ?_
 refine XO_callV0 (cap := []) (vs := [_]) rfl rfl fun_20 (w_chkC hC2 d_two1) rfl rfl ?_
 rw [f_ck2]
 refine XO_want (dj := 180) rfl rfl rfl ?_
 refine zC ?_
 refine XO_v0 (ev_pickb rfl rfl rfl) rfl rfl rfl ?_
 refine zM ?_
 refine XO_want (dj := 185) rfl rfl rfl ?_
 refine XO_makeSlice mkt_23 rfl rfl (by omega) (by decide) rfl rfl (fun b_186 => ?_)
 refine XO_freeze .here (fun I20 hI20 hb20 => ?_)
 have hC1 := hC1.mono hI20; have hP1 := hP1.mono hI20; have hR1 := hR1.mono hI20; have h5 := h5.mono hI20; have h8 := h8.mono hI20; have hG1 := hG1.mono hI20; have hK1 := hK1.mono hI20; have hC2 := hC2.mono hI20; have hP2 := hP2.mono hI20; have hP0 := hP0.mono hI20; have hPs := hPs.mono hI20; have hT1 := hT1.mono hI20
 have hT2 := hT2.mono hI20; have hH3 := hH3.mono hI20; have hF1 := hF1.mono hI20; have hT3 := hT3.mono hI20; have hG2 := hG2.mono hI20; have hIc := hIc.trans hI20
 have hM17 : Sl I20 1 encI (some ⟨b_186, 0, none⟩) 17 17 manC.days := Sl.lit manC.days rfl encI_len (show I20 b_186 = some (Obj.cells ((manC.days : List Int).flatMap encI).toArray 3 (0, 0)) from hb20)
 refine XO_want (dj := 185) rfl rfl rfl ?_
 refine XO_v0 (ev_buildL (ps := [(0, _)]) [_, _, _, _, _, _] plt_33 rfl rfl) rfl rfl rfl ?_
 refine XO_want (dj := 185) rfl rfl rfl ?_
 refine XO_callV0 (cap := []) (vs := [_]) rfl rfl fun_20 (w_chkM hM17) rfl rfl ?_
 refine XO_want (dj := 185) rfl rfl rfl ?_
 refine zC ?_
 refine XO_v0 (ev_pickb rfl rfl rfl) rfl rfl rfl ?_
 refine zN ?_
 refine X_cond rfl (fun hc190 => ?_) (fun hc190 => ?_)
 ·
  exact absurd hc190 (by first | decide | (simp only []; decide))
 refine X_skip ?_
 refine at_then ?_
 refine zR ?_
 refine zA ?_
 refine zN ?_
 refine X_seq ?_
 have h5z := h5
 have hD := HLe.refl I20
 refine X_drawC mixed ?_
 refine zT 0 rfl (ev_move rfl) hD ?_
 refine XD_one 1 rfl (by kernel_rfl) ?_
 refine XO_buildSlice (ps := [(0, _), (1, _)]) (m := [encI 0, encI 1]) elt_23 rfl (.cons rfl (.cons rfl (.nil))) rfl (by simp [encI_len]) (by decide) (by decide) rfl rfl (fun b_192 => ?_)
 refine XO_freeze (by repeat (first | exact Take.here | apply Take.there)) (fun I21 hI21 hb21 => ?_)
 have hC1 := hC1.mono hI21; have hP1 := hP1.mono hI21; have hR1 := hR1.mono hI21; have h5 := h5.mono hI21; have h8 := h8.mono hI21; have hG1 := hG1.mono hI21; have hK1 := hK1.mono hI21; have hC2 := hC2.mono hI21; have hP2 := hP2.mono hI21; have hP0 := hP0.mono hI21; have hPs := hPs.mono hI21; have hT1 := hT1.mono hI21
 have hT2 := hT2.mono hI21; have hH3 := hH3.mono hI21; have hF1 := hF1.mono hI21; have hT3 := hT3.mono hI21; have hG2 := hG2.mono hI21; have hIc := hIc.trans hI21; have hD := hD.trans hI21
 have hL1 := Sl.lit ([0, 1] : List Int) rfl encI_len (show I21 b_192 = some (Obj.cells (([0, 1] : List Int).flatMap encI).toArray 3 (0, 0)) from hb21)
 refine XO_nil ?_
 refine zD hD ?_
 refine XD_one 2 rfl (by kernel_rfl) ?_
 refine XO_callV0 (cap := []) (vs := [_, _]) rfl rfl fun_23 (w_rSame hP1 (by decide) hL1) rfl rfl ?_
 refine XO_nil ?_
 refine zD hD ?_
 refine zT 3 rfl (ev_move rfl) hD ?_
 refine XD_takeW 4 rfl rfl rfl (dj := 194) rfl (ev_move rfl) rfl (by kernel_rfl) (by kernel_rfl) (by kernel_rfl) noP_ok hD (by repeat (first | exact .refl | exact subL_nil | refine .keep ?_ | refine .drop ?_ | refine subL_add ?_)) ?_
 refine XD_one 5 rfl (by kernel_rfl) ?_
 refine XO_want (dj := 194) rfl rfl rfl ?_
 refine XO_buildSlice (ps := [(0, _), (1, _)]) (m := [encI 0, encI 2]) elt_23 rfl (.cons rfl (.cons rfl (.nil))) rfl (by simp [encI_len]) (by decide) (by decide) rfl rfl (fun b_196 => ?_)
 refine XO_freeze (by repeat (first | exact Take.here | apply Take.there)) (fun I22 hI22 hb22 => ?_)
 have hC1 := hC1.mono hI22; have hP1 := hP1.mono hI22; have hR1 := hR1.mono hI22; have h5 := h5.mono hI22; have h8 := h8.mono hI22; have hG1 := hG1.mono hI22; have hK1 := hK1.mono hI22; have hC2 := hC2.mono hI22; have hP2 := hP2.mono hI22; have hP0 := hP0.mono hI22; have hPs := hPs.mono hI22; have hT1 := hT1.mono hI22
 have hT2 := hT2.mono hI22; have hH3 := hH3.mono hI22; have hF1 := hF1.mono hI22; have hT3 := hT3.mono hI22; have hG2 := hG2.mono hI22; have hL1 := hL1.mono hI22; have hIc := hIc.trans hI22; have hD := hD.trans hI22
 have hL2 := Sl.lit ([0, 2] : List Int) rfl encI_len (show I22 b_196 = some (Obj.cells (([0, 2] : List Int).flatMap encI).toArray 3 (0, 0)) from hb22)
 refine XO_nil ?_
 refine zD hD ?_
 refine XD_one 6 rfl (by kernel_rfl) ?_
 refine XO_want (dj := 194) rfl rfl rfl ?_
 refine XO_callV0 (cap := []) (vs := [_, _]) rfl rfl fun_23 (w_rSame hP2 (by decide) hL2) rfl rfl ?_
 refine XO_nil ?_
 refine zD hD ?_
 refine zT 7 rfl (ev_pickb rfl rfl rfl) hD ?_
 refine zT 8 rfl (ev_move rfl) hD ?_
 refine XD_takeW 9 rfl rfl rfl (dj := 199) rfl (ev_move rfl) rfl (by kernel_rfl) (by kernel_rfl) (by kernel_rfl) noP_ok hD (by repeat (first | exact .refl | exact subL_nil | refine .keep ?_ | refine .drop ?_ | refine subL_add ?_)) ?_
 refine XD_one 10 rfl (by kernel_rfl) ?_
 refine XO_want (dj := 199) rfl rfl rfl ?_
 refine XO_buildSlice (ps := [(0, _), (1, _)]) (m := [encI 0, encI 2]) elt_23 rfl (.cons rfl (.cons rfl (.nil))) rfl (by simp [encI_len]) (by decide) (by decide) rfl rfl (fun b_201 => ?_)
 refine XO_freeze (by repeat (first | exact Take.here | apply Take.there)) (fun I23 hI23 hb23 => ?_)
 have hC1 := hC1.mono hI23; have hP1 := hP1.mono hI23; have hR1 := hR1.mono hI23; have h5 := h5.mono hI23; have h8 := h8.mono hI23; have hG1 := hG1.mono hI23; have hK1 := hK1.mono hI23; have hC2 := hC2.mono hI23; have hP2 := hP2.mono hI23; have hP0 := hP0.mono hI23; have hPs := hPs.mono hI23; have hT1 := hT1.mono hI23
 have hT2 := hT2.mono hI23; have hH3 := hH3.mono hI23; have hF1 := hF1.mono hI23; have hT3 := hT3.mono hI23; have hG2 := hG2.mono hI23; have hL1 := hL1.mono hI23; have hL2 := hL2.mono hI23; have hIc := hIc.trans hI23; have hD := hD.trans hI23
 have hL3 := Sl.lit ([0, 2] : List Int) rfl encI_len (show I23 b_201 = some (Obj.cells (([0, 2] : List Int).flatMap encI).toArray 3 (0, 0)) from hb23)
 refine XO_nil ?_
 refine zD hD ?_
 refine XD_takeW 11 rfl rfl rfl (dj := 199) rfl (ev_buildL (ps := [(0, _), (1, _), (2, _)]) [_, _, _, _] plt_58 rfl rfl) rfl (by kernel_rfl) (by kernel_rfl) (by kernel_rfl) noP_ok hD (by repeat (first | exact .refl | exact subL_nil | refine .keep ?_ | refine .drop ?_ | refine subL_add ?_)) ?_
 refine XD_one 12 rfl (by kernel_rfl) ?_
 refine XO_want (dj := 199) rfl rfl rfl ?_
 refine XO_buildSlice (ps := [(0, _)]) (m := [encSH ⟨2, 1, some ⟨b_201, 0, none⟩, 2, 2, none, 0, 0⟩]) elt_27 rfl (.cons rfl (.nil)) rfl (by simp [encSH_len]) (by decide) (by decide) rfl rfl (fun b_203 => ?_)
 refine XO_freeze (by repeat (first | exact Take.here | apply Take.there)) (fun I24 hI24 hb24 => ?_)
 have hC1 := hC1.mono hI24; have hP1 := hP1.mono hI24; have hR1 := hR1.mono hI24; have h5 := h5.mono hI24; have h8 := h8.mono hI24; have hG1 := hG1.mono hI24; have hK1 := hK1.mono hI24; have hC2 := hC2.mono hI24; have hP2 := hP2.mono hI24; have hP0 := hP0.mono hI24; have hPs := hPs.mono hI24; have hT1 := hT1.mono hI24
 have hT2 := hT2.mono hI24; have hH3 := hH3.mono hI24; have hF1 := hF1.mono hI24; have hT3 := hT3.mono hI24; have hG2 := hG2.mono hI24; have hL1 := hL1.mono hI24; have hL2 := hL2.mono hI24; have hL3 := hL3.mono hI24; have hIc := hIc.trans hI24; have hD := hD.trans hI24
 have hL4 := Sl.lit ([⟨2, 1, some ⟨b_201, 0, none⟩, 2, 2, none, 0, 0⟩] : List SH) rfl encSH_len (show I24 b_203 = some (Obj.cells (([⟨2, 1, some ⟨b_201, 0, none⟩, 2, 2, none, 0, 0⟩] : List SH).flatMap encSH).toArray 58 (0, 0)) from hb24)
 refine XO_nil ?_
 refine zD hD ?_
 refine XD_one 13 rfl (by kernel_rfl) ?_
 refine XO_want (dj := 199) rfl rfl rfl ?_
 refine XO_callV0 (cap := []) (vs := [_, _]) rfl rfl fun_14 (w_samS hF1.choose_spec (by decide) (by intro s hs; simp only [List.mem_singleton] at hs; subst hs; exact ⟨by decide, by decide⟩) (show SlSH I24 _ 1 1 [⟨2, 1, some ⟨b_201, 0, none⟩, 2, 2, none, 0, 0⟩] [⟨2, 1, [0, 2], []⟩] from ⟨hL4, RelS.nil.snoc ⟨rfl, rfl, hL3, Sl.nil⟩⟩)) rfl rfl ?_
 refine XO_nil ?_
 refine zD hD ?_
 refine zT 14 rfl (ev_pickb rfl rfl rfl) hD ?_
 refine zT 15 rfl (ev_move rfl) hD ?_
 refine XD_takeW 16 rfl rfl rfl (dj := 206) rfl (ev_move rfl) rfl (by kernel_rfl) (by kernel_rfl) (by kernel_rfl) noP_ok hD (by repeat (first | exact .refl | exact subL_nil | refine .keep ?_ | refine .drop ?_ | refine subL_add ?_)) ?_
 refine XD_takeW 17 rfl rfl rfl (dj := 206) rfl (ev_move rfl) rfl (by kernel_rfl) (by kernel_rfl) (by kernel_rfl) noP_ok hD (by repeat (first | exact .refl | exact subL_nil | refine .keep ?_ | refine .drop ?_ | refine subL_add ?_)) ?_
 refine XD_takeW 19 rfl rfl rfl (dj := 206) rfl (ev_move rfl) rfl (by kernel_rfl) (by kernel_rfl) (by kernel_rfl) noP_ok hD (by repeat (first | exact .refl | exact subL_nil | refine .keep ?_ | refine .drop ?_ | refine subL_add ?_)) ?_
 refine XD_takeW 21 rfl rfl rfl (dj := 206) rfl (ev_move rfl) rfl (by kernel_rfl) (by kernel_rfl) (by kernel_rfl) noP_ok hD (by repeat (first | exact .refl | exact subL_nil | refine .keep ?_ | refine .drop ?_ | refine subL_add ?_)) ?_
 refine XD_one 18 rfl (by kernel_rfl) ?_
 refine XO_want (dj := 206) rfl rfl rfl ?_
 refine XO_callV0 (cap := []) (vs := [_, _, _]) rfl rfl fun_38 (w_leafS _ _ _ _) rfl rfl ?_
 refine XO_nil ?_
 refine zD hD ?_
 refine XD_one 20 rfl (by kernel_rfl) ?_
 refine XO_want (dj := 206) rfl rfl rfl ?_
 refine XO_callV0 (cap := []) (vs := [_, _, _]) rfl rfl fun_38 (w_leafS _ _ _ _) rfl rfl ?_
 refine XO_nil ?_
 refine zD hD ?_
 refine XD_one 22 rfl (by kernel_rfl) ?_
 refine XO_want (dj := 206) rfl rfl rfl ?_
 refine XO_callV0 (cap := []) (vs := [_, _, _]) rfl rfl fun_38 (w_leafS _ _ _ _) rfl rfl ?_
 refine XO_nil ?_
 refine zD hD ?_
 refine XD_one 23 rfl (by kernel_rfl) ?_
 refine XO_want (dj := 206) rfl rfl rfl ?_
 refine XO_buildSlice (ps := [(0, _), (1, _), (2, _)]) (m := [encPH ⟨1, 1, 0, none, 0, 0⟩, encPH ⟨2, 1, 0, none, 0, 0⟩, encPH ⟨3, 1, 7, none, 0, 0⟩]) elt_35 rfl (.cons rfl (.cons rfl (.cons rfl (.nil)))) rfl (by simp [encPH_len]) (by decide) (by decide) rfl rfl (fun b_214 => ?_)
 refine XO_freeze (by repeat (first | exact Take.here | apply Take.there)) (fun I25 hI25 hb25 => ?_)
 have hC1 := hC1.mono hI25; have hP1 := hP1.mono hI25; have hR1 := hR1.mono hI25; have h5 := h5.mono hI25; have h8 := h8.mono hI25; have hG1 := hG1.mono hI25; have hK1 := hK1.mono hI25; have hC2 := hC2.mono hI25; have hP2 := hP2.mono hI25; have hP0 := hP0.mono hI25; have hPs := hPs.mono hI25; have hT1 := hT1.mono hI25
 have hT2 := hT2.mono hI25; have hH3 := hH3.mono hI25; have hF1 := hF1.mono hI25; have hT3 := hT3.mono hI25; have hG2 := hG2.mono hI25; have hL1 := hL1.mono hI25; have hL2 := hL2.mono hI25; have hL3 := hL3.mono hI25; have hL4 := hL4.mono hI25; have hIc := hIc.trans hI25; have hD := hD.trans hI25
 have hL5 := Sl.lit [(⟨1, 1, 0, none, 0, 0⟩ : PH), (⟨2, 1, 0, none, 0, 0⟩ : PH), (⟨3, 1, 7, none, 0, 0⟩ : PH)] rfl encPH_len (show I25 b_214 = some (Obj.cells ([(⟨1, 1, 0, none, 0, 0⟩ : PH), (⟨2, 1, 0, none, 0, 0⟩ : PH), (⟨3, 1, 7, none, 0, 0⟩ : PH)].flatMap encPH).toArray 45 (0, 0)) from hb25)
 refine XO_nil ?_
 refine zD hD ?_
 refine XD_one 24 rfl (by kernel_rfl) ?_
 refine XO_want (dj := 206) rfl rfl rfl ?_
 refine XO_callV0 (cap := []) (vs := [_, _]) rfl rfl fun_22 (w_samPs hK1 (prsAt_lf [⟨1, 1, 0⟩, ⟨2, 1, 0⟩, ⟨3, 1, 7⟩]) (by decide) (sml_lf [⟨1, 1, 0⟩, ⟨2, 1, 0⟩, ⟨3, 1, 7⟩]) hL5 (prsAt_lf [⟨1, 1, 0⟩, ⟨2, 1, 0⟩, ⟨3, 1, 7⟩])) rfl rfl ?_
 refine XO_nil ?_
 refine zD hD ?_
 refine zT 25 rfl (ev_pickb rfl rfl rfl) hD ?_
 refine zT 26 rfl (ev_move rfl) hD ?_
 refine XD_takeW 27 rfl rfl rfl (dj := 217) rfl (ev_loadA rfl agt_45 (fun hg => by first | exact Cells.immC (vs := encPH rh1) h5z | exact Cells.here (vs := encCH ⟨ca, 3, cc, 1, 1, 9, 2, sa, 2, sc⟩) | exact Cells.here (vs := encCH ⟨ca, 3, cc, 1, 1, 9, 1, sa, 2, sc⟩) | exact (Cells.here (vs := encCH ⟨ca, 3, cc, 1, 1, 9, 2, sa, 2, sc⟩)).there | exact Cells.immC (vs := encPH rh1) h5 | (repeat (first | exact Cells.here | exact Cells.s0 (vs := [_, _, _, _]) rfl | apply Cells.there | apply Cells.app))) rfl) rfl (by kernel_rfl) (by kernel_rfl) (by kernel_rfl) noP_ok hD (by repeat (first | exact .refl | exact subL_nil | refine .keep ?_ | refine .drop ?_ | refine subL_add ?_)) ?_
 refine XD_takeW 29 rfl rfl rfl (dj := 217) rfl (ev_move rfl) rfl (by kernel_rfl) (by kernel_rfl) (by kernel_rfl) noP_ok hD (by repeat (first | exact .refl | exact subL_nil | refine .keep ?_ | refine .drop ?_ | refine subL_add ?_)) ?_
 refine XD_two 28 30 rfl rfl (by kernel_rfl) ?_ ?_
 ·
  refine XO_want (dj := 217) rfl rfl rfl ?_
  refine XO_buildSlice (ps := [(0, _)]) (m := [encPH rh1]) elt_35 rfl (.cons rfl (.nil)) rfl (by simp [encPH_len]) (by decide) (by decide) rfl rfl (fun b_219 => ?_)
  refine XO_freeze (by repeat (first | exact Take.here | apply Take.there)) (fun I26 hI26 hb26 => ?_)
  have hC1 := hC1.mono hI26; have hP1 := hP1.mono hI26; have hR1 := hR1.mono hI26; have h5 := h5.mono hI26; have h8 := h8.mono hI26; have hG1 := hG1.mono hI26; have hK1 := hK1.mono hI26; have hC2 := hC2.mono hI26; have hP2 := hP2.mono hI26; have hP0 := hP0.mono hI26; have hPs := hPs.mono hI26; have hT1 := hT1.mono hI26
  have hT2 := hT2.mono hI26; have hH3 := hH3.mono hI26; have hF1 := hF1.mono hI26; have hT3 := hT3.mono hI26; have hG2 := hG2.mono hI26; have hL1 := hL1.mono hI26; have hL2 := hL2.mono hI26; have hL3 := hL3.mono hI26; have hL4 := hL4.mono hI26; have hL5 := hL5.mono hI26; have hIc := hIc.trans hI26; have hD := hD.trans hI26
  have hL6 := Sl.lit ([rh1] : List PH) rfl encPH_len (show I26 b_219 = some (Obj.cells (([rh1] : List PH).flatMap encPH).toArray 45 (0, 0)) from hb26)
  refine XO_nil ?_
  refine zD hD ?_
  refine XD_one 30 rfl (by kernel_rfl) ?_
  refine XO_want (dj := 217) rfl rfl rfl ?_
  refine XO_callV0 (cap := []) (vs := [_, _, _]) rfl rfl fun_38 (w_leafS _ _ _ _) rfl rfl ?_
  refine XO_nil ?_
  refine zD hD ?_
  refine XD_one 31 rfl (by kernel_rfl) ?_
  refine XO_want (dj := 217) rfl rfl rfl ?_
  refine XO_buildSlice (ps := [(0, _)]) (m := [encPH ⟨1, 0, 0, none, 0, 0⟩]) elt_35 rfl (.cons rfl (.nil)) rfl (by simp [encPH_len]) (by decide) (by decide) rfl rfl (fun b_222 => ?_)
  refine XO_freeze (by repeat (first | exact Take.here | apply Take.there)) (fun I27 hI27 hb27 => ?_)
  have hC1 := hC1.mono hI27; have hP1 := hP1.mono hI27; have hR1 := hR1.mono hI27; have h5 := h5.mono hI27; have h8 := h8.mono hI27; have hG1 := hG1.mono hI27; have hK1 := hK1.mono hI27; have hC2 := hC2.mono hI27; have hP2 := hP2.mono hI27; have hP0 := hP0.mono hI27; have hPs := hPs.mono hI27; have hT1 := hT1.mono hI27
  have hT2 := hT2.mono hI27; have hH3 := hH3.mono hI27; have hF1 := hF1.mono hI27; have hT3 := hT3.mono hI27; have hG2 := hG2.mono hI27; have hL1 := hL1.mono hI27; have hL2 := hL2.mono hI27; have hL3 := hL3.mono hI27; have hL4 := hL4.mono hI27; have hL5 := hL5.mono hI27; have hL6 := hL6.mono hI27; have hIc := hIc.trans hI27
  have hD := hD.trans hI27
  have hL7 := Sl.lit [(⟨1, 0, 0, none, 0, 0⟩ : PH)] rfl encPH_len (show I27 b_222 = some (Obj.cells ([(⟨1, 0, 0, none, 0, 0⟩ : PH)].flatMap encPH).toArray 45 (0, 0)) from hb27)
  refine XO_nil ?_
  refine zD hD ?_
  refine XD_takeW 32 rfl rfl rfl (dj := 217) rfl (ev_buildL (ps := [(3, _)]) [_, _, _, _] plt_45 rfl rfl) rfl (by kernel_rfl) (by kernel_rfl) (by kernel_rfl) noP_ok hD (by repeat (first | exact .refl | exact subL_nil | refine .keep ?_ | refine .drop ?_ | refine subL_add ?_)) ?_
  refine XD_one 33 rfl (by kernel_rfl) ?_
  refine XO_want (dj := 217) rfl rfl rfl ?_
  refine XO_buildSlice (ps := [(0, _)]) (m := [encPH ⟨0, 0, 0, some ⟨b_222, 0, none⟩, 1, 1⟩]) elt_35 rfl (.cons rfl (.nil)) rfl (by simp [encPH_len]) (by decide) (by decide) rfl rfl (fun b_224 => ?_)
  refine XO_freeze (by repeat (first | exact Take.here | apply Take.there)) (fun I28 hI28 hb28 => ?_)
  have hC1 := hC1.mono hI28; have hP1 := hP1.mono hI28; have hR1 := hR1.mono hI28; have h5 := h5.mono hI28; have h8 := h8.mono hI28; have hG1 := hG1.mono hI28; have hK1 := hK1.mono hI28; have hC2 := hC2.mono hI28; have hP2 := hP2.mono hI28; have hP0 := hP0.mono hI28; have hPs := hPs.mono hI28; have hT1 := hT1.mono hI28
  have hT2 := hT2.mono hI28; have hH3 := hH3.mono hI28; have hF1 := hF1.mono hI28; have hT3 := hT3.mono hI28; have hG2 := hG2.mono hI28; have hL1 := hL1.mono hI28; have hL2 := hL2.mono hI28; have hL3 := hL3.mono hI28; have hL4 := hL4.mono hI28; have hL5 := hL5.mono hI28; have hL6 := hL6.mono hI28; have hL7 := hL7.mono hI28
  have hIc := hIc.trans hI28; have hD := hD.trans hI28
  have hL8 := Sl.lit ([⟨0, 0, 0, some ⟨b_222, 0, none⟩, 1, 1⟩] : List PH) rfl encPH_len (show I28 b_224 = some (Obj.cells (([⟨0, 0, 0, some ⟨b_222, 0, none⟩, 1, 1⟩] : List PH).flatMap encPH).toArray 45 (0, 0)) from hb28)
  refine XO_nil ?_
  refine zD hD ?_
  refine XD_takeW 34 rfl rfl rfl (dj := 217) rfl (ev_buildL (ps := [(3, _)]) [_, _, _, _] plt_45 rfl rfl) rfl (by kernel_rfl) (by kernel_rfl) (by kernel_rfl) noP_ok hD (by repeat (first | exact .refl | exact subL_nil | refine .keep ?_ | refine .drop ?_ | refine subL_add ?_)) ?_
  refine XD_one 35 rfl (by kernel_rfl) ?_
  refine XO_want (dj := 217) rfl rfl rfl ?_
  refine XO_buildSlice (ps := [(0, _)]) (m := [encPH ⟨0, 0, 0, some ⟨b_224, 0, none⟩, 1, 1⟩]) elt_35 rfl (.cons rfl (.nil)) rfl (by simp [encPH_len]) (by decide) (by decide) rfl rfl (fun b_226 => ?_)
  refine XO_freeze (by repeat (first | exact Take.here | apply Take.there)) (fun I29 hI29 hb29 => ?_)
  have hC1 := hC1.mono hI29; have hP1 := hP1.mono hI29; have hR1 := hR1.mono hI29; have h5 := h5.mono hI29; have h8 := h8.mono hI29; have hG1 := hG1.mono hI29; have hK1 := hK1.mono hI29; have hC2 := hC2.mono hI29; have hP2 := hP2.mono hI29; have hP0 := hP0.mono hI29; have hPs := hPs.mono hI29; have hT1 := hT1.mono hI29
  have hT2 := hT2.mono hI29; have hH3 := hH3.mono hI29; have hF1 := hF1.mono hI29; have hT3 := hT3.mono hI29; have hG2 := hG2.mono hI29; have hL1 := hL1.mono hI29; have hL2 := hL2.mono hI29; have hL3 := hL3.mono hI29; have hL4 := hL4.mono hI29; have hL5 := hL5.mono hI29; have hL6 := hL6.mono hI29; have hL7 := hL7.mono hI29
  have hL8 := hL8.mono hI29; have hIc := hIc.trans hI29; have hD := hD.trans hI29
  have hL9 := Sl.lit ([⟨0, 0, 0, some ⟨b_224, 0, none⟩, 1, 1⟩] : List PH) rfl encPH_len (show I29 b_226 = some (Obj.cells (([⟨0, 0, 0, some ⟨b_224, 0, none⟩, 1, 1⟩] : List PH).flatMap encPH).toArray 45 (0, 0)) from hb29)
  refine XO_nil ?_
  refine zD hD ?_
  refine XD_one 36 rfl (by kernel_rfl) ?_
  refine XO_want (dj := 217) rfl rfl rfl ?_
  refine XO_callV0 (cap := []) (vs := [_, _]) rfl rfl fun_22 (w_samPs hL6 (xs := [prfP]) ⟨hR1, trivial⟩ (by simp) (by intro q hq; simp only [List.mem_singleton] at hq; subst hq; exact f_sm) hL9 (ys := [prfP]) ⟨PrAt.node hL8 ⟨PrAt.node hL7 ⟨PrAt.node Sl.nil PrsAt.nil, trivial⟩, trivial⟩, trivial⟩) rfl rfl ?_
  refine XO_nil ?_
  refine zD hD ?_
  refine zT 37 rfl (ev_pickb rfl rfl rfl) hD ?_
  refine zT 38 rfl (ev_assign rfl) hD ?_
  refine XD_done (by kernel_rfl) ?_
  refine at_noP ?_
  refine at_then ?_
  refine X_ret ?_
  exact at_ret1 rfl rfl (fun w hw => ⟨by rw [f_sp]; rfl, (hw.mono hIc).drop⟩)
 refine XO_want (dj := 217) rfl rfl rfl ?_
 refine XO_callV0 (cap := []) (vs := [_, _, _]) rfl rfl fun_38 (w_leafS _ _ _ _) rfl rfl ?_
 refine XO_nil ?_
 refine zD hD ?_
 refine XD_two 28 31 rfl rfl (by kernel_rfl) ?_ ?_
 ·
  refine XO_want (dj := 217) rfl rfl rfl ?_
  refine XO_buildSlice (ps := [(0, _)]) (m := [encPH rh1]) elt_35 rfl (.cons rfl (.nil)) rfl (by simp [encPH_len]) (by decide) (by decide) rfl rfl (fun b_219 => ?_)
  refine XO_freeze (by repeat (first | exact Take.here | apply Take.there)) (fun I30 hI30 hb30 => ?_)
  have hC1 := hC1.mono hI30; have hP1 := hP1.mono hI30; have hR1 := hR1.mono hI30; have h5 := h5.mono hI30; have h8 := h8.mono hI30; have hG1 := hG1.mono hI30; have hK1 := hK1.mono hI30; have hC2 := hC2.mono hI30; have hP2 := hP2.mono hI30; have hP0 := hP0.mono hI30; have hPs := hPs.mono hI30; have hT1 := hT1.mono hI30
  have hT2 := hT2.mono hI30; have hH3 := hH3.mono hI30; have hF1 := hF1.mono hI30; have hT3 := hT3.mono hI30; have hG2 := hG2.mono hI30; have hL1 := hL1.mono hI30; have hL2 := hL2.mono hI30; have hL3 := hL3.mono hI30; have hL4 := hL4.mono hI30; have hL5 := hL5.mono hI30; have hIc := hIc.trans hI30; have hD := hD.trans hI30
  have hL6 := Sl.lit ([rh1] : List PH) rfl encPH_len (show I30 b_219 = some (Obj.cells (([rh1] : List PH).flatMap encPH).toArray 45 (0, 0)) from hb30)
  refine XO_nil ?_
  refine zD hD ?_
  refine XD_one 31 rfl (by kernel_rfl) ?_
  refine XO_want (dj := 217) rfl rfl rfl ?_
  refine XO_buildSlice (ps := [(0, _)]) (m := [encPH ⟨1, 0, 0, none, 0, 0⟩]) elt_35 rfl (.cons rfl (.nil)) rfl (by simp [encPH_len]) (by decide) (by decide) rfl rfl (fun b_222 => ?_)
  refine XO_freeze (by repeat (first | exact Take.here | apply Take.there)) (fun I31 hI31 hb31 => ?_)
  have hC1 := hC1.mono hI31; have hP1 := hP1.mono hI31; have hR1 := hR1.mono hI31; have h5 := h5.mono hI31; have h8 := h8.mono hI31; have hG1 := hG1.mono hI31; have hK1 := hK1.mono hI31; have hC2 := hC2.mono hI31; have hP2 := hP2.mono hI31; have hP0 := hP0.mono hI31; have hPs := hPs.mono hI31; have hT1 := hT1.mono hI31
  have hT2 := hT2.mono hI31; have hH3 := hH3.mono hI31; have hF1 := hF1.mono hI31; have hT3 := hT3.mono hI31; have hG2 := hG2.mono hI31; have hL1 := hL1.mono hI31; have hL2 := hL2.mono hI31; have hL3 := hL3.mono hI31; have hL4 := hL4.mono hI31; have hL5 := hL5.mono hI31; have hL6 := hL6.mono hI31; have hIc := hIc.trans hI31
  have hD := hD.trans hI31
  have hL7 := Sl.lit [(⟨1, 0, 0, none, 0, 0⟩ : PH)] rfl encPH_len (show I31 b_222 = some (Obj.cells ([(⟨1, 0, 0, none, 0, 0⟩ : PH)].flatMap encPH).toArray 45 (0, 0)) from hb31)
  refine XO_nil ?_
  refine zD hD ?_
  refine XD_takeW 32 rfl rfl rfl (dj := 217) rfl (ev_buildL (ps := [(3, _)]) [_, _, _, _] plt_45 rfl rfl) rfl (by kernel_rfl) (by kernel_rfl) (by kernel_rfl) noP_ok hD (by repeat (first | exact .refl | exact subL_nil | refine .keep ?_ | refine .drop ?_ | refine subL_add ?_)) ?_
  refine XD_one 33 rfl (by kernel_rfl) ?_
  refine XO_want (dj := 217) rfl rfl rfl ?_
  refine XO_buildSlice (ps := [(0, _)]) (m := [encPH ⟨0, 0, 0, some ⟨b_222, 0, none⟩, 1, 1⟩]) elt_35 rfl (.cons rfl (.nil)) rfl (by simp [encPH_len]) (by decide) (by decide) rfl rfl (fun b_224 => ?_)
  refine XO_freeze (by repeat (first | exact Take.here | apply Take.there)) (fun I32 hI32 hb32 => ?_)
  have hC1 := hC1.mono hI32; have hP1 := hP1.mono hI32; have hR1 := hR1.mono hI32; have h5 := h5.mono hI32; have h8 := h8.mono hI32; have hG1 := hG1.mono hI32; have hK1 := hK1.mono hI32; have hC2 := hC2.mono hI32; have hP2 := hP2.mono hI32; have hP0 := hP0.mono hI32; have hPs := hPs.mono hI32; have hT1 := hT1.mono hI32
  have hT2 := hT2.mono hI32; have hH3 := hH3.mono hI32; have hF1 := hF1.mono hI32; have hT3 := hT3.mono hI32; have hG2 := hG2.mono hI32; have hL1 := hL1.mono hI32; have hL2 := hL2.mono hI32; have hL3 := hL3.mono hI32; have hL4 := hL4.mono hI32; have hL5 := hL5.mono hI32; have hL6 := hL6.mono hI32; have hL7 := hL7.mono hI32
  have hIc := hIc.trans hI32; have hD := hD.trans hI32
  have hL8 := Sl.lit ([⟨0, 0, 0, some ⟨b_222, 0, none⟩, 1, 1⟩] : List PH) rfl encPH_len (show I32 b_224 = some (Obj.cells (([⟨0, 0, 0, some ⟨b_222, 0, none⟩, 1, 1⟩] : List PH).flatMap encPH).toArray 45 (0, 0)) from hb32)
  refine XO_nil ?_
  refine zD hD ?_
  refine XD_takeW 34 rfl rfl rfl (dj := 217) rfl (ev_buildL (ps := [(3, _)]) [_, _, _, _] plt_45 rfl rfl) rfl (by kernel_rfl) (by kernel_rfl) (by kernel_rfl) noP_ok hD (by repeat (first | exact .refl | exact subL_nil | refine .keep ?_ | refine .drop ?_ | refine subL_add ?_)) ?_
  refine XD_one 35 rfl (by kernel_rfl) ?_
  refine XO_want (dj := 217) rfl rfl rfl ?_
  refine XO_buildSlice (ps := [(0, _)]) (m := [encPH ⟨0, 0, 0, some ⟨b_224, 0, none⟩, 1, 1⟩]) elt_35 rfl (.cons rfl (.nil)) rfl (by simp [encPH_len]) (by decide) (by decide) rfl rfl (fun b_226 => ?_)
  refine XO_freeze (by repeat (first | exact Take.here | apply Take.there)) (fun I33 hI33 hb33 => ?_)
  have hC1 := hC1.mono hI33; have hP1 := hP1.mono hI33; have hR1 := hR1.mono hI33; have h5 := h5.mono hI33; have h8 := h8.mono hI33; have hG1 := hG1.mono hI33; have hK1 := hK1.mono hI33; have hC2 := hC2.mono hI33; have hP2 := hP2.mono hI33; have hP0 := hP0.mono hI33; have hPs := hPs.mono hI33; have hT1 := hT1.mono hI33
  have hT2 := hT2.mono hI33; have hH3 := hH3.mono hI33; have hF1 := hF1.mono hI33; have hT3 := hT3.mono hI33; have hG2 := hG2.mono hI33; have hL1 := hL1.mono hI33; have hL2 := hL2.mono hI33; have hL3 := hL3.mono hI33; have hL4 := hL4.mono hI33; have hL5 := hL5.mono hI33; have hL6 := hL6.mono hI33; have hL7 := hL7.mono hI33
  have hL8 := hL8.mono hI33; have hIc := hIc.trans hI33; have hD := hD.trans hI33
  have hL9 := Sl.lit ([⟨0, 0, 0, some ⟨b_224, 0, none⟩, 1, 1⟩] : List PH) rfl encPH_len (show I33 b_226 = some (Obj.cells (([⟨0, 0, 0, some ⟨b_224, 0, none⟩, 1, 1⟩] : List PH).flatMap encPH).toArray 45 (0, 0)) from hb33)
  refine XO_nil ?_
  refine zD hD ?_
  refine XD_one 36 rfl (by kernel_rfl) ?_
  refine XO_want (dj := 217) rfl rfl rfl ?_
  refine XO_callV0 (cap := []) (vs := [_, _]) rfl rfl fun_22 (w_samPs hL6 (xs := [prfP]) ⟨hR1, trivial⟩ (by simp) (by intro q hq; simp only [List.mem_singleton] at hq; subst hq; exact f_sm) hL9 (ys := [prfP]) ⟨PrAt.node hL8 ⟨PrAt.node hL7 ⟨PrAt.node Sl.nil PrsAt.nil, trivial⟩, trivial⟩, trivial⟩) rfl rfl ?_
  refine XO_nil ?_
  refine zD hD ?_
  refine zT 37 rfl (ev_pickb rfl rfl rfl) hD ?_
  refine zT 38 rfl (ev_assign rfl) hD ?_
  refine XD_done (by kernel_rfl) ?_
  refine at_noP ?_
  refine at_then ?_
  refine X_ret ?_
  exact at_ret1 rfl rfl (fun w hw => ⟨by rw [f_sp]; rfl, (hw.mono hIc).drop⟩)
 refine XO_want (dj := 217) rfl rfl rfl ?_
 refine XO_buildSlice (ps := [(0, _)]) (m := [encPH ⟨1, 0, 0, none, 0, 0⟩]) elt_35 rfl (.cons rfl (.nil)) rfl (by simp [encPH_len]) (by decide) (by decide) rfl rfl (fun b_222 => ?_)
 refine XO_freeze (by repeat (first | exact Take.here | apply Take.there)) (fun I34 hI34 hb34 => ?_)
 have hC1 := hC1.mono hI34; have hP1 := hP1.mono hI34; have hR1 := hR1.mono hI34; have h5 := h5.mono hI34; have h8 := h8.mono hI34; have hG1 := hG1.mono hI34; have hK1 := hK1.mono hI34; have hC2 := hC2.mono hI34; have hP2 := hP2.mono hI34; have hP0 := hP0.mono hI34; have hPs := hPs.mono hI34; have hT1 := hT1.mono hI34
 have hT2 := hT2.mono hI34; have hH3 := hH3.mono hI34; have hF1 := hF1.mono hI34; have hT3 := hT3.mono hI34; have hG2 := hG2.mono hI34; have hL1 := hL1.mono hI34; have hL2 := hL2.mono hI34; have hL3 := hL3.mono hI34; have hL4 := hL4.mono hI34; have hL5 := hL5.mono hI34; have hIc := hIc.trans hI34; have hD := hD.trans hI34
 have hL7 := Sl.lit [(⟨1, 0, 0, none, 0, 0⟩ : PH)] rfl encPH_len (show I34 b_222 = some (Obj.cells ([(⟨1, 0, 0, none, 0, 0⟩ : PH)].flatMap encPH).toArray 45 (0, 0)) from hb34)
 refine XO_nil ?_
 refine zD hD ?_
 refine XD_takeW 32 rfl rfl rfl (dj := 217) rfl (ev_buildL (ps := [(3, _)]) [_, _, _, _] plt_45 rfl rfl) rfl (by kernel_rfl) (by kernel_rfl) (by kernel_rfl) noP_ok hD (by repeat (first | exact .refl | exact subL_nil | refine .keep ?_ | refine .drop ?_ | refine subL_add ?_)) ?_
 refine XD_two 28 33 rfl rfl (by kernel_rfl) ?_ ?_
 ·
  refine XO_want (dj := 217) rfl rfl rfl ?_
  refine XO_buildSlice (ps := [(0, _)]) (m := [encPH rh1]) elt_35 rfl (.cons rfl (.nil)) rfl (by simp [encPH_len]) (by decide) (by decide) rfl rfl (fun b_219 => ?_)
  refine XO_freeze (by repeat (first | exact Take.here | apply Take.there)) (fun I35 hI35 hb35 => ?_)
  have hC1 := hC1.mono hI35; have hP1 := hP1.mono hI35; have hR1 := hR1.mono hI35; have h5 := h5.mono hI35; have h8 := h8.mono hI35; have hG1 := hG1.mono hI35; have hK1 := hK1.mono hI35; have hC2 := hC2.mono hI35; have hP2 := hP2.mono hI35; have hP0 := hP0.mono hI35; have hPs := hPs.mono hI35; have hT1 := hT1.mono hI35
  have hT2 := hT2.mono hI35; have hH3 := hH3.mono hI35; have hF1 := hF1.mono hI35; have hT3 := hT3.mono hI35; have hG2 := hG2.mono hI35; have hL1 := hL1.mono hI35; have hL2 := hL2.mono hI35; have hL3 := hL3.mono hI35; have hL4 := hL4.mono hI35; have hL5 := hL5.mono hI35; have hL7 := hL7.mono hI35; have hIc := hIc.trans hI35
  have hD := hD.trans hI35
  have hL6 := Sl.lit ([rh1] : List PH) rfl encPH_len (show I35 b_219 = some (Obj.cells (([rh1] : List PH).flatMap encPH).toArray 45 (0, 0)) from hb35)
  refine XO_nil ?_
  refine zD hD ?_
  refine XD_one 33 rfl (by kernel_rfl) ?_
  refine XO_want (dj := 217) rfl rfl rfl ?_
  refine XO_buildSlice (ps := [(0, _)]) (m := [encPH ⟨0, 0, 0, some ⟨b_222, 0, none⟩, 1, 1⟩]) elt_35 rfl (.cons rfl (.nil)) rfl (by simp [encPH_len]) (by decide) (by decide) rfl rfl (fun b_224 => ?_)
  refine XO_freeze (by repeat (first | exact Take.here | apply Take.there)) (fun I36 hI36 hb36 => ?_)
  have hC1 := hC1.mono hI36; have hP1 := hP1.mono hI36; have hR1 := hR1.mono hI36; have h5 := h5.mono hI36; have h8 := h8.mono hI36; have hG1 := hG1.mono hI36; have hK1 := hK1.mono hI36; have hC2 := hC2.mono hI36; have hP2 := hP2.mono hI36; have hP0 := hP0.mono hI36; have hPs := hPs.mono hI36; have hT1 := hT1.mono hI36
  have hT2 := hT2.mono hI36; have hH3 := hH3.mono hI36; have hF1 := hF1.mono hI36; have hT3 := hT3.mono hI36; have hG2 := hG2.mono hI36; have hL1 := hL1.mono hI36; have hL2 := hL2.mono hI36; have hL3 := hL3.mono hI36; have hL4 := hL4.mono hI36; have hL5 := hL5.mono hI36; have hL7 := hL7.mono hI36; have hL6 := hL6.mono hI36
  have hIc := hIc.trans hI36; have hD := hD.trans hI36
  have hL8 := Sl.lit ([⟨0, 0, 0, some ⟨b_222, 0, none⟩, 1, 1⟩] : List PH) rfl encPH_len (show I36 b_224 = some (Obj.cells (([⟨0, 0, 0, some ⟨b_222, 0, none⟩, 1, 1⟩] : List PH).flatMap encPH).toArray 45 (0, 0)) from hb36)
  refine XO_nil ?_
  refine zD hD ?_
  refine XD_takeW 34 rfl rfl rfl (dj := 217) rfl (ev_buildL (ps := [(3, _)]) [_, _, _, _] plt_45 rfl rfl) rfl (by kernel_rfl) (by kernel_rfl) (by kernel_rfl) noP_ok hD (by repeat (first | exact .refl | exact subL_nil | refine .keep ?_ | refine .drop ?_ | refine subL_add ?_)) ?_
  refine XD_one 35 rfl (by kernel_rfl) ?_
  refine XO_want (dj := 217) rfl rfl rfl ?_
  refine XO_buildSlice (ps := [(0, _)]) (m := [encPH ⟨0, 0, 0, some ⟨b_224, 0, none⟩, 1, 1⟩]) elt_35 rfl (.cons rfl (.nil)) rfl (by simp [encPH_len]) (by decide) (by decide) rfl rfl (fun b_226 => ?_)
  refine XO_freeze (by repeat (first | exact Take.here | apply Take.there)) (fun I37 hI37 hb37 => ?_)
  have hC1 := hC1.mono hI37; have hP1 := hP1.mono hI37; have hR1 := hR1.mono hI37; have h5 := h5.mono hI37; have h8 := h8.mono hI37; have hG1 := hG1.mono hI37; have hK1 := hK1.mono hI37; have hC2 := hC2.mono hI37; have hP2 := hP2.mono hI37; have hP0 := hP0.mono hI37; have hPs := hPs.mono hI37; have hT1 := hT1.mono hI37
  have hT2 := hT2.mono hI37; have hH3 := hH3.mono hI37; have hF1 := hF1.mono hI37; have hT3 := hT3.mono hI37; have hG2 := hG2.mono hI37; have hL1 := hL1.mono hI37; have hL2 := hL2.mono hI37; have hL3 := hL3.mono hI37; have hL4 := hL4.mono hI37; have hL5 := hL5.mono hI37; have hL7 := hL7.mono hI37; have hL6 := hL6.mono hI37
  have hL8 := hL8.mono hI37; have hIc := hIc.trans hI37; have hD := hD.trans hI37
  have hL9 := Sl.lit ([⟨0, 0, 0, some ⟨b_224, 0, none⟩, 1, 1⟩] : List PH) rfl encPH_len (show I37 b_226 = some (Obj.cells (([⟨0, 0, 0, some ⟨b_224, 0, none⟩, 1, 1⟩] : List PH).flatMap encPH).toArray 45 (0, 0)) from hb37)
  refine XO_nil ?_
  refine zD hD ?_
  refine XD_one 36 rfl (by kernel_rfl) ?_
  refine XO_want (dj := 217) rfl rfl rfl ?_
  refine XO_callV0 (cap := []) (vs := [_, _]) rfl rfl fun_22 (w_samPs hL6 (xs := [prfP]) ⟨hR1, trivial⟩ (by simp) (by intro q hq; simp only [List.mem_singleton] at hq; subst hq; exact f_sm) hL9 (ys := [prfP]) ⟨PrAt.node hL8 ⟨PrAt.node hL7 ⟨PrAt.node Sl.nil PrsAt.nil, trivial⟩, trivial⟩, trivial⟩) rfl rfl ?_
  refine XO_nil ?_
  refine zD hD ?_
  refine zT 37 rfl (ev_pickb rfl rfl rfl) hD ?_
  refine zT 38 rfl (ev_assign rfl) hD ?_
  refine XD_done (by kernel_rfl) ?_
  refine at_noP ?_
  refine at_then ?_
  refine X_ret ?_
  exact at_ret1 rfl rfl (fun w hw => ⟨by rw [f_sp]; rfl, (hw.mono hIc).drop⟩)
 refine XO_want (dj := 217) rfl rfl rfl ?_
 refine XO_buildSlice (ps := [(0, _)]) (m := [encPH ⟨0, 0, 0, some ⟨b_222, 0, none⟩, 1, 1⟩]) elt_35 rfl (.cons rfl (.nil)) rfl (by simp [encPH_len]) (by decide) (by decide) rfl rfl (fun b_224 => ?_)
 refine XO_freeze (by repeat (first | exact Take.here | apply Take.there)) (fun I38 hI38 hb38 => ?_)
 have hC1 := hC1.mono hI38; have hP1 := hP1.mono hI38; have hR1 := hR1.mono hI38; have h5 := h5.mono hI38; have h8 := h8.mono hI38; have hG1 := hG1.mono hI38; have hK1 := hK1.mono hI38; have hC2 := hC2.mono hI38; have hP2 := hP2.mono hI38; have hP0 := hP0.mono hI38; have hPs := hPs.mono hI38; have hT1 := hT1.mono hI38
 have hT2 := hT2.mono hI38; have hH3 := hH3.mono hI38; have hF1 := hF1.mono hI38; have hT3 := hT3.mono hI38; have hG2 := hG2.mono hI38; have hL1 := hL1.mono hI38; have hL2 := hL2.mono hI38; have hL3 := hL3.mono hI38; have hL4 := hL4.mono hI38; have hL5 := hL5.mono hI38; have hL7 := hL7.mono hI38; have hIc := hIc.trans hI38
 have hD := hD.trans hI38
 have hL8 := Sl.lit ([⟨0, 0, 0, some ⟨b_222, 0, none⟩, 1, 1⟩] : List PH) rfl encPH_len (show I38 b_224 = some (Obj.cells (([⟨0, 0, 0, some ⟨b_222, 0, none⟩, 1, 1⟩] : List PH).flatMap encPH).toArray 45 (0, 0)) from hb38)
 refine XO_nil ?_
 refine zD hD ?_
 refine XD_takeW 34 rfl rfl rfl (dj := 217) rfl (ev_buildL (ps := [(3, _)]) [_, _, _, _] plt_45 rfl rfl) rfl (by kernel_rfl) (by kernel_rfl) (by kernel_rfl) noP_ok hD (by repeat (first | exact .refl | exact subL_nil | refine .keep ?_ | refine .drop ?_ | refine subL_add ?_)) ?_
 refine XD_two 28 35 rfl rfl (by kernel_rfl) ?_ ?_
 ·
  refine XO_want (dj := 217) rfl rfl rfl ?_
  refine XO_buildSlice (ps := [(0, _)]) (m := [encPH rh1]) elt_35 rfl (.cons rfl (.nil)) rfl (by simp [encPH_len]) (by decide) (by decide) rfl rfl (fun b_219 => ?_)
  refine XO_freeze (by repeat (first | exact Take.here | apply Take.there)) (fun I39 hI39 hb39 => ?_)
  have hC1 := hC1.mono hI39; have hP1 := hP1.mono hI39; have hR1 := hR1.mono hI39; have h5 := h5.mono hI39; have h8 := h8.mono hI39; have hG1 := hG1.mono hI39; have hK1 := hK1.mono hI39; have hC2 := hC2.mono hI39; have hP2 := hP2.mono hI39; have hP0 := hP0.mono hI39; have hPs := hPs.mono hI39; have hT1 := hT1.mono hI39
  have hT2 := hT2.mono hI39; have hH3 := hH3.mono hI39; have hF1 := hF1.mono hI39; have hT3 := hT3.mono hI39; have hG2 := hG2.mono hI39; have hL1 := hL1.mono hI39; have hL2 := hL2.mono hI39; have hL3 := hL3.mono hI39; have hL4 := hL4.mono hI39; have hL5 := hL5.mono hI39; have hL7 := hL7.mono hI39; have hL8 := hL8.mono hI39
  have hIc := hIc.trans hI39; have hD := hD.trans hI39
  have hL6 := Sl.lit ([rh1] : List PH) rfl encPH_len (show I39 b_219 = some (Obj.cells (([rh1] : List PH).flatMap encPH).toArray 45 (0, 0)) from hb39)
  refine XO_nil ?_
  refine zD hD ?_
  refine XD_one 35 rfl (by kernel_rfl) ?_
  refine XO_want (dj := 217) rfl rfl rfl ?_
  refine XO_buildSlice (ps := [(0, _)]) (m := [encPH ⟨0, 0, 0, some ⟨b_224, 0, none⟩, 1, 1⟩]) elt_35 rfl (.cons rfl (.nil)) rfl (by simp [encPH_len]) (by decide) (by decide) rfl rfl (fun b_226 => ?_)
  refine XO_freeze (by repeat (first | exact Take.here | apply Take.there)) (fun I40 hI40 hb40 => ?_)
  have hC1 := hC1.mono hI40; have hP1 := hP1.mono hI40; have hR1 := hR1.mono hI40; have h5 := h5.mono hI40; have h8 := h8.mono hI40; have hG1 := hG1.mono hI40; have hK1 := hK1.mono hI40; have hC2 := hC2.mono hI40; have hP2 := hP2.mono hI40; have hP0 := hP0.mono hI40; have hPs := hPs.mono hI40; have hT1 := hT1.mono hI40
  have hT2 := hT2.mono hI40; have hH3 := hH3.mono hI40; have hF1 := hF1.mono hI40; have hT3 := hT3.mono hI40; have hG2 := hG2.mono hI40; have hL1 := hL1.mono hI40; have hL2 := hL2.mono hI40; have hL3 := hL3.mono hI40; have hL4 := hL4.mono hI40; have hL5 := hL5.mono hI40; have hL7 := hL7.mono hI40; have hL8 := hL8.mono hI40
  have hL6 := hL6.mono hI40; have hIc := hIc.trans hI40; have hD := hD.trans hI40
  have hL9 := Sl.lit ([⟨0, 0, 0, some ⟨b_224, 0, none⟩, 1, 1⟩] : List PH) rfl encPH_len (show I40 b_226 = some (Obj.cells (([⟨0, 0, 0, some ⟨b_224, 0, none⟩, 1, 1⟩] : List PH).flatMap encPH).toArray 45 (0, 0)) from hb40)
  refine XO_nil ?_
  refine zD hD ?_
  refine XD_one 36 rfl (by kernel_rfl) ?_
  refine XO_want (dj := 217) rfl rfl rfl ?_
  refine XO_callV0 (cap := []) (vs := [_, _]) rfl rfl fun_22 (w_samPs hL6 (xs := [prfP]) ⟨hR1, trivial⟩ (by simp) (by intro q hq; simp only [List.mem_singleton] at hq; subst hq; exact f_sm) hL9 (ys := [prfP]) ⟨PrAt.node hL8 ⟨PrAt.node hL7 ⟨PrAt.node Sl.nil PrsAt.nil, trivial⟩, trivial⟩, trivial⟩) rfl rfl ?_
  refine XO_nil ?_
  refine zD hD ?_
  refine zT 37 rfl (ev_pickb rfl rfl rfl) hD ?_
  refine zT 38 rfl (ev_assign rfl) hD ?_
  refine XD_done (by kernel_rfl) ?_
  refine at_noP ?_
  refine at_then ?_
  refine X_ret ?_
  exact at_ret1 rfl rfl (fun w hw => ⟨by rw [f_sp]; rfl, (hw.mono hIc).drop⟩)
 refine XO_want (dj := 217) rfl rfl rfl ?_
 refine XO_buildSlice (ps := [(0, _)]) (m := [encPH ⟨0, 0, 0, some ⟨b_224, 0, none⟩, 1, 1⟩]) elt_35 rfl (.cons rfl (.nil)) rfl (by simp [encPH_len]) (by decide) (by decide) rfl rfl (fun b_226 => ?_)
 refine XO_freeze (by repeat (first | exact Take.here | apply Take.there)) (fun I41 hI41 hb41 => ?_)
 have hC1 := hC1.mono hI41; have hP1 := hP1.mono hI41; have hR1 := hR1.mono hI41; have h5 := h5.mono hI41; have h8 := h8.mono hI41; have hG1 := hG1.mono hI41; have hK1 := hK1.mono hI41; have hC2 := hC2.mono hI41; have hP2 := hP2.mono hI41; have hP0 := hP0.mono hI41; have hPs := hPs.mono hI41; have hT1 := hT1.mono hI41
 have hT2 := hT2.mono hI41; have hH3 := hH3.mono hI41; have hF1 := hF1.mono hI41; have hT3 := hT3.mono hI41; have hG2 := hG2.mono hI41; have hL1 := hL1.mono hI41; have hL2 := hL2.mono hI41; have hL3 := hL3.mono hI41; have hL4 := hL4.mono hI41; have hL5 := hL5.mono hI41; have hL7 := hL7.mono hI41; have hL8 := hL8.mono hI41
 have hIc := hIc.trans hI41; have hD := hD.trans hI41
 have hL9 := Sl.lit ([⟨0, 0, 0, some ⟨b_224, 0, none⟩, 1, 1⟩] : List PH) rfl encPH_len (show I41 b_226 = some (Obj.cells (([⟨0, 0, 0, some ⟨b_224, 0, none⟩, 1, 1⟩] : List PH).flatMap encPH).toArray 45 (0, 0)) from hb41)
 refine XO_nil ?_
 refine zD hD ?_
 refine XD_one 28 rfl (by kernel_rfl) ?_
 refine XO_want (dj := 217) rfl rfl rfl ?_
 refine XO_buildSlice (ps := [(0, _)]) (m := [encPH rh1]) elt_35 rfl (.cons rfl (.nil)) rfl (by simp [encPH_len]) (by decide) (by decide) rfl rfl (fun b_219 => ?_)
 refine XO_freeze (by repeat (first | exact Take.here | apply Take.there)) (fun I42 hI42 hb42 => ?_)
 have hC1 := hC1.mono hI42; have hP1 := hP1.mono hI42; have hR1 := hR1.mono hI42; have h5 := h5.mono hI42; have h8 := h8.mono hI42; have hG1 := hG1.mono hI42; have hK1 := hK1.mono hI42; have hC2 := hC2.mono hI42; have hP2 := hP2.mono hI42; have hP0 := hP0.mono hI42; have hPs := hPs.mono hI42; have hT1 := hT1.mono hI42
 have hT2 := hT2.mono hI42; have hH3 := hH3.mono hI42; have hF1 := hF1.mono hI42; have hT3 := hT3.mono hI42; have hG2 := hG2.mono hI42; have hL1 := hL1.mono hI42; have hL2 := hL2.mono hI42; have hL3 := hL3.mono hI42; have hL4 := hL4.mono hI42; have hL5 := hL5.mono hI42; have hL7 := hL7.mono hI42; have hL8 := hL8.mono hI42
 have hL9 := hL9.mono hI42; have hIc := hIc.trans hI42; have hD := hD.trans hI42
 have hL6 := Sl.lit ([rh1] : List PH) rfl encPH_len (show I42 b_219 = some (Obj.cells (([rh1] : List PH).flatMap encPH).toArray 45 (0, 0)) from hb42)
 refine XO_nil ?_
 refine zD hD ?_
 refine XD_one 36 rfl (by kernel_rfl) ?_
 refine XO_want (dj := 217) rfl rfl rfl ?_
 refine XO_callV0 (cap := []) (vs := [_, _]) rfl rfl fun_22 (w_samPs hL6 (xs := [prfP]) ⟨hR1, trivial⟩ (by simp) (by intro q hq; simp only [List.mem_singleton] at hq; subst hq; exact f_sm) hL9 (ys := [prfP]) ⟨PrAt.node hL8 ⟨PrAt.node hL7 ⟨PrAt.node Sl.nil PrsAt.nil, trivial⟩, trivial⟩, trivial⟩) rfl rfl ?_
 refine XO_nil ?_
 refine zD hD ?_
 refine zT 37 rfl (ev_pickb rfl rfl rfl) hD ?_
 refine zT 38 rfl (ev_assign rfl) hD ?_
 refine XD_done (by kernel_rfl) ?_
 refine at_noP ?_
 refine at_then ?_
 refine X_ret ?_
 exact at_ret1 rfl rfl (fun w hw => ⟨by rw [f_sp]; rfl, (hw.mono hIc).drop⟩)
end Go.Proofs.YtehkiccapbkhnaaGreat
end
section
namespace Go.Proofs.YtehkiccapbkhnaaGreat
open Go Go.Kn Go.Proofs
theorem fun_10 : Fun Tryz.prog 10 := .of Tryz.func10 (by kernel_rfl) (by kernel_rfl)
end Go.Proofs.YtehkiccapbkhnaaGreat
end
section
namespace Go.Proofs.YtehkiccapbkhnaaGreat
open Go Go.Kn Go.Proofs
theorem fun_51 : Fun Tryz.prog 51 := .of Tryz.func51 (by kernel_rfl) (by kernel_rfl)
end Go.Proofs.YtehkiccapbkhnaaGreat
end
section
namespace Go.Proofs.YtehkiccapbkhnaaGreat
open Go Go.Kn Go.Proofs
section
variable {α : Type} {P : α → Bool} {xs : List α} {k : Nat} {x : α}
theorem flt_yes (hx : xs[k]? = some x) (h : P x = true) : (xs.take (k + 1)).filter P = (xs.take k).filter P ++ [x] := by
  rw [take_snoc hx, List.filter_append, List.filter_cons, if_pos h]; rfl
theorem flt_no (hx : xs[k]? = some x) (h : P x = false) : (xs.take (k + 1)).filter P = (xs.take k).filter P := by
  rw [take_snoc hx, List.filter_append, List.filter_cons, if_neg (by rw [h]; exact Bool.false_ne_true)]; simp
end
end Go.Proofs.YtehkiccapbkhnaaGreat
end
section
namespace Go.Proofs.YtehkiccapbkhnaaGreat
open Go Go.Kn Go.Proofs
theorem gcd_step {a b a0 b0 : Nat} (h : Nat.gcd a b = Nat.gcd a0 b0) : Nat.gcd b (a % b) = Nat.gcd a0 b0 :=
  (Nat.gcd_comm b (a % b)).trans ((Nat.gcd_rec b a).symm.trans ((Nat.gcd_comm b a).trans h))
theorem gcdI_nat {a b : Int} (ha : 0 ≤ a) (hb : 0 ≤ b) : ((Nat.gcd a.toNat b.toNat : Nat) : Int) = gcdI a b := by
  unfold gcdI Int.gcd
  congr 2 <;> omega
theorem gcdI_mag (n d : Int) : gcdI (magI n) d = gcdI n d := by
  unfold gcdI Int.gcd
  have : (magI n).natAbs = n.natAbs := by unfold magI; split <;> omega
  rw [this]
theorem magI_in {n : Int} (h : -1073741824 ≤ n ∧ n ≤ 1073741824) : 0 ≤ magI n ∧ magI n ≤ 1073741824 := by unfold magI; split <;> omega
theorem valid_eq (n d : Int) : (((((decide (d ≥ 1) && decide (d ≤ 1073741824)) && decide (n ≥ -1073741824)) && decide (n ≤ 1073741824)) && (gcdI (magI n) d == 1))) = ratF n d := by
  unfold ratF
  rw [gcdI_mag, Bool.eq_iff_iff]
  simp only [Bool.and_eq_true, decide_eq_true_eq, beq_iff_eq, Bool.not_eq_true', Bool.or_eq_false_iff, decide_eq_false_iff_not, bne_eq_false_iff_eq]
  omega
theorem spanR_eq (fn fd tn td : Int) : ((((ratF fn fd && ratF tn td) && decide (fn ≥ 0)) && decide (fn * td < tn * fd)) && decide (tn ≤ td)) = spanF fn fd tn td := by
  unfold spanF
  generalize (ratF fn fd && ratF tn td) = a
  generalize decide (fn ≥ 0) = b
  generalize decide (fn * td < tn * fd) = c
  generalize decide (tn ≤ td) = d
  cases a <;> cases b <;> cases c <;> cases d <;> rfl
def frA (x : Sg) : Bool := (((!within x.id 0 1048576 || !within x.role 0 63) || !within x.bar 0 4095) || !within x.kind 1 9) || !within x.mark 1 3
def frB (x : Sg) : Bool := (((!within x.side 0 2 || !within x.dir 0 8) || !within x.level 0 3) || !within x.size 0 255) || !within x.wth 0 64
theorem frm_ab (x : Sg) : frm x = ((!frA x && !frB x) && spanF x.fn x.fd x.tn x.td) := by
  unfold frm frmL frA frB
  generalize within x.id 0 1048576 = b1
  generalize within x.role 0 63 = b2
  generalize within x.bar 0 4095 = b3
  generalize within x.kind 1 9 = b4
  generalize within x.mark 1 3 = b5
  generalize within x.side 0 2 = b6
  generalize within x.dir 0 8 = b7
  generalize within x.level 0 3 = b8
  generalize within x.size 0 255 = b9
  generalize within x.wth 0 64 = b10
  cases b1 <;> cases b2 <;> cases b3 <;> cases b4 <;> cases b5 <;> first | rfl | (cases b6 <;> cases b7 <;> cases b8 <;> cases b9 <;> cases b10 <;> rfl)
theorem frm_a {x : Sg} (h : frA x = true) : frm x = false := by rw [frm_ab, h]; rfl
theorem frm_b {x : Sg} (h : frB x = true) : frm x = false := by rw [frm_ab, h]; simp
theorem frm_c {x : Sg} (h : frA x = false) (h2 : frB x = false) : frm x = spanF x.fn x.fd x.tn x.td := by rw [frm_ab, h, h2]; rfl
theorem chkG_1 {xs : List Sg} (h : xs.length > 4096) : chkG xs = 2 := by unfold chkG; rw [if_pos h]
theorem chkG_2 {xs : List Sg} (h : ¬ xs.length > 4096) (h2 : skB xs = false) : chkG xs = 360 := by unfold chkG; rw [if_neg h, h2]; rfl
theorem chkG_3 {xs : List Sg} (h : ¬ xs.length > 4096) (h2 : skB xs = true) : chkG xs = 0 := by unfold chkG; rw [if_neg h, h2]; rfl
theorem idB_no (p : Pt) : (((decide (p.id < 1) || decide (p.id > 1048576)) || decide (p.sign < 0)) || decide (p.sign > 1048576)) = !idB p := by
  unfold idB
  rw [Bool.eq_iff_iff]
  simp only [Bool.or_eq_true, decide_eq_true_eq, Bool.not_eq_true', Bool.and_eq_false_iff, decide_eq_false_iff_not]
  omega
def vldB (p : Pt) : Bool := idB p && (ndB p.id p.needs && kndB p)
theorem vld_id {p : Pt} (h : idB p = false) : vldB p = false := by unfold vldB; rw [h]; rfl
theorem vld_nd {p : Pt} (h : ndB p.id p.needs = false) : vldB p = false := by unfold vldB; rw [h, Bool.false_and, Bool.and_false]
theorem vld_k {p : Pt} (h : idB p = true) (h2 : ndB p.id p.needs = true) : vldB p = kndB p := by unfold vldB; rw [h, h2]; rfl
theorem vld_chk {p : Pt} (h : ¬ p.needs.length > 32) : (if vldB p = true then (0 : Int) else 370) = pchk p := by
  unfold pchk vldB
  rw [if_neg h]
  cases idB p <;> cases ndB p.id p.needs <;> cases kndB p <;> rfl
theorem within_19 {f : Int} (h : (decide (f < 1) || decide (f > 9)) = false) : within f 1 9 = true ∧ isF f := by
  simp only [Bool.or_eq_false_iff, decide_eq_false_iff_not] at h
  unfold within isF
  simp; omega
theorem within_19n {f : Int} (h : (decide (f < 1) || decide (f > 9)) = true) : within f 1 9 = false := by
  simp only [Bool.or_eq_true, decide_eq_true_eq] at h
  unfold within
  simp; omega
theorem knd_set {p : Pt} (hk : p.kind = 1) (h : (decide (p.field < 1) || decide (p.field > 9)) = false) : (sgEq (setG zeroG p.field p.nw) p.nw && frm (setG plainR p.field p.nw)) = kndB p := by
  obtain ⟨h1, h2⟩ := within_19 h
  rw [knd_1 hk h1, set_zero h2, frm_plain h2]
theorem knd_0 {p : Pt} (hk : p.kind = 1) (h : (decide (p.field < 1) || decide (p.field > 9)) = true) : kndB p = false := by
  unfold kndB; rw [if_pos hk, within_19n h]; rfl
end Go.Proofs.YtehkiccapbkhnaaGreat
end
section
namespace Go.Proofs.YtehkiccapbkhnaaGreat
open Go Go.Kn Go.Proofs
theorem fun_150 : Fun Tryz.prog 150 := .of Tryz.func150 (by kernel_rfl) (by kernel_rfl)
theorem fun_161 : Fun Tryz.prog 161 := .of Tryz.func161 (by kernel_rfl) (by kernel_rfl)
theorem fun_166 : Fun Tryz.prog 166 := .of Tryz.func166 (by kernel_rfl) (by kernel_rfl)
theorem fun_169 : Fun Tryz.prog 169 := .of Tryz.func169 (by kernel_rfl) (by kernel_rfl)
theorem fun_170 : Fun Tryz.prog 170 := .of Tryz.func170 (by kernel_rfl) (by kernel_rfl)
theorem fun_173 : Fun Tryz.prog 173 := .of Tryz.func173 (by kernel_rfl) (by kernel_rfl)
theorem fun_174 : Fun Tryz.prog 174 := .of Tryz.func174 (by kernel_rfl) (by kernel_rfl)
theorem fun_176 : Fun Tryz.prog 176 := .of Tryz.func176 (by kernel_rfl) (by kernel_rfl)
theorem fun_178 : Fun Tryz.prog 178 := .of Tryz.func178 (by kernel_rfl) (by kernel_rfl)
theorem fun_179 : Fun Tryz.prog 179 := .of Tryz.func179 (by kernel_rfl) (by kernel_rfl)
theorem r_div (I : HMap) (a0 b0 : Nat) (ha : a0 ≤ 1073741824) (hb : b0 ≤ 1073741824) : RetV Tryz.prog 178 [.int .i64 a0, .int .i64 b0] I (.int .i64 (Nat.gcd a0 b0 : Nat)) := by
 intro g H w hw
 refine enter Tryz.func178 rfl Tryz.ntmps178 rfl hw ?_
 refine zR ?_
 refine zA ?_
 refine zN ?_
 refine X_seq ?_
 refine X_block ?_
 refine X_loopT [] .nil (fun T L0 mz E I' loc' => ∃ (a b : Nat), mz = (b + 1) ∧ E = (0, .int .i64 a) :: (1, .int .i64 b) :: T ∧ I = I' ∧ L0 = loc' ∧ Nat.gcd a b = Nat.gcd a0 b0) _ _ _ _ ⟨a0, b0, rfl, rfl, rfl, rfl, rfl⟩ (.cons rfl (.cons rfl .nil)) (HLe.refl _) rfl ?_
 rintro mz E I' loc' ⟨a, b, rfl, rfl, rfl, rfl, hgc⟩
 refine X_seq ?_
 refine zR ?_
 refine zM ?_
 refine zC ?_
 refine zN ?_
 refine X_cond rfl (fun hc7 => ?_) (fun hc7 => ?_)
 ·
  have hbp : 0 < b := by have h := hc7; simp at h; omega
  refine X_skip ?_
  refine at_then ?_
  refine X_block ?_
  refine zR ?_
  refine zM ?_
  refine zM ?_
  refine XO_v0 (ev_rem rfl rfl (fun hg => by omega)) rfl rfl rfl ?_
  rw [tmod_nat]
  refine zA ?_
  refine zN (zR ?_)
  refine zM ?_
  refine zA ?_
  refine zN ?_
  refine X_region ?_
  refine zM ?_
  refine zA ?_
  refine XO_nil ?_
  refine at_block_n ?_
  exact at_met2 _ _ ⟨a % b + 1, Nat.succ_lt_succ (Nat.mod_lt _ hbp), b, a % b, rfl, rfl, rfl, rfl, gcd_step hgc⟩ (.cons rfl (.cons rfl .nil)) (by repeat (first | exact .refl | exact subL_left | refine subL_app ?_ | refine .drop ?_ | refine subL_add ?_))
 have hb0 : b = 0 := by have h := hc7; simp at h; omega
 refine X_exit ?_
 refine at_then_e ?_
 refine at_then_e ?_
 refine at_block_hit ?_
 refine at_then ?_
 refine zR ?_
 refine zM ?_
 refine zA ?_
 refine zN ?_
 refine X_ret ?_
 exact at_ret1 rfl rfl (fun w hw => ⟨by rw [← hgc, hb0, Nat.gcd_zero_right], hw.drop⟩)
theorem r_divI (I : HMap) (a b : Int) (ha : 0 ≤ a ∧ a ≤ 1073741824) (hb : 0 ≤ b ∧ b ≤ 1073741824) : RetV Tryz.prog 178 [.int .i64 a, .int .i64 b] I (.int .i64 (gcdI a b)) := by
 have h := r_div I a.toNat b.toNat (by omega) (by omega)
 rw [Int.toNat_of_nonneg ha.1, Int.toNat_of_nonneg hb.1, gcdI_nat ha.1 hb.1] at h
 exact h
theorem r_size (I : HMap) (n : Int) (hn : -1073741824 ≤ n ∧ n ≤ 1073741824) : RetV Tryz.prog 179 [.int .i64 n] I (.int .i64 (magI n)) := by
 intro g H w hw
 refine enter Tryz.func179 rfl Tryz.ntmps179 rfl hw ?_
 refine zR ?_
 refine zA ?_
 refine zN ?_
 refine X_seq ?_
 refine zR ?_
 refine zM ?_
 refine zC ?_
 refine zN ?_
 refine X_cond rfl (fun hc4 => ?_) (fun hc4 => ?_)
 ·
  refine zR ?_
  refine zM ?_
  refine XO_v0 (ev_neg rfl) rfl rfl rfl ?_
  refine zA ?_
  refine zN ?_
  refine X_ret ?_
  refine at_then_r ?_
  first
  | exact at_ret1 rfl rfl (fun w hw => ⟨by unfold magI; rw [if_pos (by simpa using hc4), wrap_in (by omega)], hw.drop⟩)
 refine X_skip ?_
 refine at_then ?_
 refine zR ?_
 refine zM ?_
 refine zA ?_
 refine zN ?_
 refine X_ret ?_
 first
 | exact at_ret1 rfl rfl (fun w hw => ⟨by unfold magI; rw [if_neg (by simpa using hc4)], hw.drop⟩)
theorem r_valid (I : HMap) (n d : Int) : RetV Tryz.prog 176 [encRA (n) (d)] I (.bool (ratF n d)) := by
 intro g H w hw
 refine enter Tryz.func176 rfl Tryz.ntmps176 rfl hw ?_
 refine zR ?_
 refine XO_box rfl rfl rfl (fun b_1 => ?_)
 refine zA ?_
 refine zN ?_
 refine X_seq ?_
 refine X_draw mixed (by kernel_rfl) ?_
 refine XQ_v0 (ev_fieldAddr rfl fld_61_1) rfl rfl rfl ?_
 refine XQ_v0 (ev_load rfl sct_3 (fun hg => by repeat (first | exact Cell.here rfl | apply Cell.there | apply Cell.app))) rfl rfl rfl ?_
 refine XQ_v0 (ev_cmp rfl rfl rfl) rfl rfl rfl ?_
 refine XQ_v0 (ev_move rfl) rfl rfl rfl ?_
 refine XQ_pushT 3 rfl rfl rfl ?_
 refine XQ_v1 (ev_fieldAddr rfl fld_61_1) (.some rfl rfl rfl rfl gbt) rfl rfl rfl ?_
 refine XQ_v1 (ev_load rfl sct_3 (fun hg => by repeat (first | exact Cell.here rfl | apply Cell.there | apply Cell.app))) (.some rfl rfl rfl rfl gbt) rfl rfl rfl ?_
 refine XQ_v1 (ev_cmp rfl rfl rfl) (.some rfl rfl rfl rfl gbt) rfl rfl rfl ?_
 refine XQ_and0 rfl rfl rfl rfl rfl ?_
 refine XQ_v0 (ev_move rfl) rfl rfl rfl ?_
 refine XQ_pushT 8 rfl rfl rfl ?_
 refine XQ_v1 (ev_fieldAddr rfl fld_61_0) (.some rfl rfl rfl rfl gbt) rfl rfl rfl ?_
 refine XQ_v1 (ev_load rfl sct_3 (fun hg => by repeat (first | exact Cell.here rfl | apply Cell.there | apply Cell.app))) (.some rfl rfl rfl rfl gbt) rfl rfl rfl ?_
 refine XQ_v1 (ev_cmp rfl rfl rfl) (.some rfl rfl rfl rfl gbt) rfl rfl rfl ?_
 refine XQ_and0 rfl rfl rfl rfl rfl ?_
 refine XQ_v0 (ev_move rfl) rfl rfl rfl ?_
 refine XQ_pushT 13 rfl rfl rfl ?_
 refine XQ_v1 (ev_fieldAddr rfl fld_61_0) (.some rfl rfl rfl rfl gbt) rfl rfl rfl ?_
 refine XQ_v1 (ev_load rfl sct_3 (fun hg => by repeat (first | exact Cell.here rfl | apply Cell.there | apply Cell.app))) (.some rfl rfl rfl rfl gbt) rfl rfl rfl ?_
 refine XQ_v1 (ev_cmp rfl rfl rfl) (.some rfl rfl rfl rfl gbt) rfl rfl rfl ?_
 refine XQ_and0 rfl rfl rfl rfl rfl ?_
 refine XQ_v0 (ev_move rfl) rfl rfl rfl ?_
 refine XQ_pushT 18 rfl rfl rfl ?_
 refine XQ_v1 (ev_fieldAddr rfl fld_61_0) (.some rfl rfl rfl rfl gbt) rfl rfl rfl ?_
 refine XQ_v1 (ev_load rfl sct_3 (fun hg => by repeat (first | exact Cell.here rfl | apply Cell.there | apply Cell.app))) (.some rfl rfl rfl rfl gbt) rfl rfl rfl ?_
 refine XQ_callV1 (cap := []) (vs := [_]) rfl rfl fun_179 (fun hg => r_size I n (by simp [conj] at hg; omega)) (.some rfl rfl rfl rfl gbt) rfl rfl ?_
 refine XQ_v1 (ev_fieldAddr rfl fld_61_1) (.some rfl rfl rfl rfl gbt) rfl rfl rfl ?_
 refine XQ_v1 (ev_load rfl sct_3 (fun hg => by repeat (first | exact Cell.here rfl | apply Cell.there | apply Cell.app))) (.some rfl rfl rfl rfl gbt) rfl rfl rfl ?_
 refine XQ_callV1 (cap := []) (vs := [_, _]) rfl rfl fun_178 (fun hg => r_divI I _ d (magI_in (by simp [conj] at hg; omega)) (by simp [conj] at hg; omega)) (.some rfl rfl rfl rfl gbt) rfl rfl ?_
 refine XQ_v1 (ev_cmp rfl rfl rfl) (.some rfl rfl rfl rfl gbt) rfl rfl rfl ?_
 refine XQ_and0 rfl rfl rfl rfl rfl ?_
 refine XQ_v0 (ev_assign rfl) rfl rfl rfl ?_
 refine XQ_nil ?_
 refine at_then ?_
 refine X_ret ?_
 exact at_ret1 rfl rfl (fun w hw => ⟨by rw [← valid_eq], hw.drop⟩)
theorem r_both (I : HMap) (an ad bn bd : Int) : RetV Tryz.prog 173 [encRA (an) (ad), encRA (bn) (bd)] I (.bool (ratF an ad && ratF bn bd)) := by
 intro g H w hw
 refine enter Tryz.func173 rfl Tryz.ntmps173 rfl hw ?_
 refine zR ?_
 refine XO_box rfl rfl rfl (fun b_2 => ?_)
 refine XO_box rfl rfl rfl (fun b_3 => ?_)
 refine zA ?_
 refine zN (zR ?_)
 refine XO_v0 (ev_loadA rfl agt_61 (fun hg => by first | (repeat (first | exact Cells.here | exact Cells.s0 (vs := [_, _]) rfl | apply Cells.there | apply Cells.app))) rfl) rfl rfl rfl ?_
 refine XO_callV0 (cap := []) (vs := [_]) rfl rfl fun_176 (r_valid I _ _) rfl rfl ?_
 refine zM ?_
 refine XO_pushT 2 rfl rfl rfl ?_
 refine XO_v1 (ev_loadA rfl agt_61 (fun hg => by first | (repeat (first | exact Cells.here | exact Cells.s0 (vs := [_, _]) rfl | apply Cells.there | apply Cells.app))) rfl) (.some rfl rfl rfl rfl gbt) rfl rfl rfl ?_
 refine XO_callV1 (cap := []) (vs := [_]) rfl rfl fun_176 (fun hg => r_valid I _ _) (.some rfl rfl rfl rfl gbt) rfl rfl ?_
 refine XO_and0 rfl rfl rfl rfl rfl ?_
 refine zA ?_
 refine zN ?_
 refine X_ret ?_
 exact at_ret1 rfl rfl (fun w hw => ⟨by rfl, hw.drop⟩)
theorem r_less (I : HMap) (an ad bn bd : Int) (ha : ratF an ad = true) (hb : ratF bn bd = true) : RetV Tryz.prog 174 [encRA (an) (ad), encRA (bn) (bd)] I (.bool (decide (an * bd < bn * ad))) := by
 intro g H w hw
 refine enter Tryz.func174 rfl Tryz.ntmps174 rfl hw ?_
 have ⟨ha1, ha2⟩ := ratF_in ha
 have ⟨hb1, hb2⟩ := ratF_in hb
 refine zR ?_
 refine XO_box rfl rfl rfl (fun b_2 => ?_)
 refine XO_box rfl rfl rfl (fun b_3 => ?_)
 refine zA ?_
 refine zN (zR ?_)
 refine XO_v0 (ev_fieldAddr rfl fld_61_0) rfl rfl rfl ?_
 refine zL sct_3 ?_
 refine XO_v0 (ev_fieldAddr rfl fld_61_1) rfl rfl rfl ?_
 refine zL sct_3 ?_
 refine XO_v0 (ev_arB rfl rfl rfl (fun _ => by exact mul_b (by omega) (by omega))) rfl rfl rfl ?_
 refine XO_v0 (ev_fieldAddr rfl fld_61_0) rfl rfl rfl ?_
 refine zL sct_3 ?_
 refine XO_v0 (ev_fieldAddr rfl fld_61_1) rfl rfl rfl ?_
 refine zL sct_3 ?_
 refine XO_v0 (ev_arB rfl rfl rfl (fun _ => by exact mul_b (by omega) (by omega))) rfl rfl rfl ?_
 refine zC ?_
 refine zA ?_
 refine zN ?_
 refine X_ret ?_
 exact at_ret1 rfl rfl (fun w hw => ⟨by rfl, hw.drop⟩)
theorem r_within (I : HMap) (n lo hi : Int) : RetV Tryz.prog 169 [.int .i64 n, .int .i64 lo, .int .i64 hi] I (.bool (within n lo hi)) := by
 intro g H w hw
 refine enter Tryz.func169 rfl Tryz.ntmps169 rfl hw ?_
 refine zR ?_
 refine zA ?_
 refine zN (zR ?_)
 refine zM ?_
 refine zM ?_
 refine zC ?_
 refine zM ?_
 refine XO_pushT 3 rfl rfl rfl ?_
 refine XO_v1 (ev_move rfl) (.some rfl rfl rfl rfl gbt) rfl rfl rfl ?_
 refine XO_v1 (ev_move rfl) (.some rfl rfl rfl rfl gbt) rfl rfl rfl ?_
 refine XO_v1 (ev_cmp rfl rfl rfl) (.some rfl rfl rfl rfl gbt) rfl rfl rfl ?_
 refine XO_and0 rfl rfl rfl rfl rfl ?_
 refine zA ?_
 refine zN ?_
 refine X_ret ?_
 exact at_ret1 rfl rfl (fun w hw => ⟨by first | rfl | simp_all, hw.drop⟩)
theorem r_span (I : HMap) (an ad bn bd : Int) : RetV Tryz.prog 170 [encRA (an) (ad), encRA (bn) (bd)] I (.bool (spanF an ad bn bd)) := by
 intro g H w hw
 refine enter Tryz.func170 rfl Tryz.ntmps170 rfl hw ?_
 refine zR ?_
 refine XO_box rfl rfl rfl (fun b_2 => ?_)
 refine XO_box rfl rfl rfl (fun b_3 => ?_)
 refine zA ?_
 refine zN (zR ?_)
 refine XO_v0 (ev_loadA rfl agt_61 (fun hg => by first | (repeat (first | exact Cells.here | exact Cells.s0 (vs := [_, _]) rfl | apply Cells.there | apply Cells.app))) rfl) rfl rfl rfl ?_
 refine XO_v0 (ev_loadA rfl agt_61 (fun hg => by first | (repeat (first | exact Cells.here | exact Cells.s0 (vs := [_, _]) rfl | apply Cells.there | apply Cells.app))) rfl) rfl rfl rfl ?_
 refine XO_callV0 (cap := []) (vs := [_, _]) rfl rfl fun_173 (r_both I _ _ _ _) rfl rfl ?_
 refine zA ?_
 refine zN (zR ?_)
 refine zM ?_
 refine zM ?_
 refine XO_pushT 1 rfl rfl rfl ?_
 refine XO_v1 (ev_fieldAddr rfl fld_61_0) (.some rfl rfl rfl rfl gbt) rfl rfl rfl ?_
 refine XO_v1 (ev_load rfl sct_3 (fun hg => by repeat (first | exact Cell.here rfl | apply Cell.there | apply Cell.app))) (.some rfl rfl rfl rfl gbt) rfl rfl rfl ?_
 refine XO_v1 (ev_cmp rfl rfl rfl) (.some rfl rfl rfl rfl gbt) rfl rfl rfl ?_
 refine XO_and0 rfl rfl rfl rfl rfl ?_
 refine zM ?_
 refine XO_pushT 6 rfl rfl rfl ?_
 refine XO_v1 (ev_loadA rfl agt_61 (fun hg => by first | (repeat (first | exact Cells.here | exact Cells.s0 (vs := [_, _]) rfl | apply Cells.there | apply Cells.app))) rfl) (.some rfl rfl rfl rfl gbt) rfl rfl rfl ?_
 refine XO_v1 (ev_loadA rfl agt_61 (fun hg => by first | (repeat (first | exact Cells.here | exact Cells.s0 (vs := [_, _]) rfl | apply Cells.there | apply Cells.app))) rfl) (.some rfl rfl rfl rfl gbt) rfl rfl rfl ?_
 refine XO_callV1 (cap := []) (vs := [_, _]) rfl rfl fun_174 (fun hg => r_less I _ _ _ _ (by simp [conj] at hg; exact hg.1.1) (by simp [conj] at hg; exact hg.1.2)) (.some rfl rfl rfl rfl gbt) rfl rfl ?_
 refine XO_and0 rfl rfl rfl rfl rfl ?_
 refine zM ?_
 refine XO_pushT 11 rfl rfl rfl ?_
 refine XO_v1 (ev_fieldAddr rfl fld_61_0) (.some rfl rfl rfl rfl gbt) rfl rfl rfl ?_
 refine XO_v1 (ev_load rfl sct_3 (fun hg => by repeat (first | exact Cell.here rfl | apply Cell.there | apply Cell.app))) (.some rfl rfl rfl rfl gbt) rfl rfl rfl ?_
 refine XO_v1 (ev_fieldAddr rfl fld_61_1) (.some rfl rfl rfl rfl gbt) rfl rfl rfl ?_
 refine XO_v1 (ev_load rfl sct_3 (fun hg => by repeat (first | exact Cell.here rfl | apply Cell.there | apply Cell.app))) (.some rfl rfl rfl rfl gbt) rfl rfl rfl ?_
 refine XO_v1 (ev_cmp rfl rfl rfl) (.some rfl rfl rfl rfl gbt) rfl rfl rfl ?_
 refine XO_and0 rfl rfl rfl rfl rfl ?_
 refine zA ?_
 refine zN ?_
 refine X_ret ?_
 exact at_ret1 rfl rfl (fun w hw => ⟨by rw [← spanR_eq], hw.drop⟩)
theorem r_frm (I : HMap) (x : Sg) : RetV Tryz.prog 166 [encGA x] I (.bool (frm x)) := by
 intro g H w hw
 refine enter Tryz.func166 rfl Tryz.ntmps166 rfl hw ?_
 refine zR ?_
 refine XO_box rfl rfl rfl (fun b_1 => ?_)
 refine zA ?_
 refine zN ?_
 refine X_seq ?_
 refine zR ?_
 refine XO_v0 (ev_fieldAddr rfl fld_63_0) rfl rfl rfl ?_
 refine zL sct_3 ?_
 refine XO_callV0 (cap := []) (vs := [_, _, _]) rfl rfl fun_169 (r_within I _ _ _) rfl rfl ?_
 refine XO_v0 (ev_not rfl) rfl rfl rfl ?_
 refine zM ?_
 refine XO_pushF 4 rfl rfl rfl ?_
 refine XO_v1 (ev_fieldAddr rfl fld_63_1) (.some rfl rfl rfl rfl gbf) rfl rfl rfl ?_
 refine XO_v1 (ev_load rfl sct_3 (fun hg => by repeat (first | exact Cell.here rfl | apply Cell.there | apply Cell.app))) (.some rfl rfl rfl rfl gbf) rfl rfl rfl ?_
 refine XO_callV1 (cap := []) (vs := [_, _, _]) rfl rfl fun_169 (fun hg => r_within I _ _ _) (.some rfl rfl rfl rfl gbf) rfl rfl ?_
 refine XO_v1 (ev_not rfl) (.some rfl rfl rfl rfl gbf) rfl rfl rfl ?_
 refine XO_or0 rfl rfl rfl rfl rfl ?_
 refine zM ?_
 refine XO_pushF 10 rfl rfl rfl ?_
 refine XO_v1 (ev_fieldAddr rfl fld_63_2) (.some rfl rfl rfl rfl gbf) rfl rfl rfl ?_
 refine XO_v1 (ev_load rfl sct_3 (fun hg => by repeat (first | exact Cell.here rfl | apply Cell.there | apply Cell.app))) (.some rfl rfl rfl rfl gbf) rfl rfl rfl ?_
 refine XO_callV1 (cap := []) (vs := [_, _, _]) rfl rfl fun_169 (fun hg => r_within I _ _ _) (.some rfl rfl rfl rfl gbf) rfl rfl ?_
 refine XO_v1 (ev_not rfl) (.some rfl rfl rfl rfl gbf) rfl rfl rfl ?_
 refine XO_or0 rfl rfl rfl rfl rfl ?_
 refine zM ?_
 refine XO_pushF 16 rfl rfl rfl ?_
 refine XO_v1 (ev_fieldAddr rfl fld_63_4) (.some rfl rfl rfl rfl gbf) rfl rfl rfl ?_
 refine XO_v1 (ev_load rfl sct_3 (fun hg => by repeat (first | exact Cell.here rfl | apply Cell.there | apply Cell.app))) (.some rfl rfl rfl rfl gbf) rfl rfl rfl ?_
 refine XO_callV1 (cap := []) (vs := [_, _, _]) rfl rfl fun_169 (fun hg => r_within I _ _ _) (.some rfl rfl rfl rfl gbf) rfl rfl ?_
 refine XO_v1 (ev_not rfl) (.some rfl rfl rfl rfl gbf) rfl rfl rfl ?_
 refine XO_or0 rfl rfl rfl rfl rfl ?_
 refine zM ?_
 refine XO_pushF 22 rfl rfl rfl ?_
 refine XO_v1 (ev_fieldAddr rfl fld_63_3) (.some rfl rfl rfl rfl gbf) rfl rfl rfl ?_
 refine XO_v1 (ev_load rfl sct_3 (fun hg => by repeat (first | exact Cell.here rfl | apply Cell.there | apply Cell.app))) (.some rfl rfl rfl rfl gbf) rfl rfl rfl ?_
 refine XO_callV1 (cap := []) (vs := [_, _, _]) rfl rfl fun_169 (fun hg => r_within I _ _ _) (.some rfl rfl rfl rfl gbf) rfl rfl ?_
 refine XO_v1 (ev_not rfl) (.some rfl rfl rfl rfl gbf) rfl rfl rfl ?_
 refine XO_or0 rfl rfl rfl rfl rfl ?_
 refine zN ?_
 refine X_cond rfl (fun hc30 => ?_) (fun hc30 => ?_)
 ·
  refine zR ?_
  refine zA ?_
  refine zN ?_
  refine X_ret ?_
  refine at_then_r ?_
  exact at_ret1 rfl rfl (fun w hw => ⟨by exact congrArg (fun b => Ending.returned (Value.bool b)) (frm_a hc30).symm, hw.drop⟩)
 refine X_skip ?_
 refine at_then ?_
 refine X_seq ?_
 refine zR ?_
 refine XO_v0 (ev_fieldAddr rfl fld_63_5) rfl rfl rfl ?_
 refine zL sct_3 ?_
 refine XO_callV0 (cap := []) (vs := [_, _, _]) rfl rfl fun_169 (r_within I _ _ _) rfl rfl ?_
 refine XO_v0 (ev_not rfl) rfl rfl rfl ?_
 refine zM ?_
 refine XO_pushF 4 rfl rfl rfl ?_
 refine XO_v1 (ev_fieldAddr rfl fld_63_6) (.some rfl rfl rfl rfl gbf) rfl rfl rfl ?_
 refine XO_v1 (ev_load rfl sct_3 (fun hg => by repeat (first | exact Cell.here rfl | apply Cell.there | apply Cell.app))) (.some rfl rfl rfl rfl gbf) rfl rfl rfl ?_
 refine XO_callV1 (cap := []) (vs := [_, _, _]) rfl rfl fun_169 (fun hg => r_within I _ _ _) (.some rfl rfl rfl rfl gbf) rfl rfl ?_
 refine XO_v1 (ev_not rfl) (.some rfl rfl rfl rfl gbf) rfl rfl rfl ?_
 refine XO_or0 rfl rfl rfl rfl rfl ?_
 refine zM ?_
 refine XO_pushF 10 rfl rfl rfl ?_
 refine XO_v1 (ev_fieldAddr rfl fld_63_7) (.some rfl rfl rfl rfl gbf) rfl rfl rfl ?_
 refine XO_v1 (ev_load rfl sct_3 (fun hg => by repeat (first | exact Cell.here rfl | apply Cell.there | apply Cell.app))) (.some rfl rfl rfl rfl gbf) rfl rfl rfl ?_
 refine XO_callV1 (cap := []) (vs := [_, _, _]) rfl rfl fun_169 (fun hg => r_within I _ _ _) (.some rfl rfl rfl rfl gbf) rfl rfl ?_
 refine XO_v1 (ev_not rfl) (.some rfl rfl rfl rfl gbf) rfl rfl rfl ?_
 refine XO_or0 rfl rfl rfl rfl rfl ?_
 refine zM ?_
 refine XO_pushF 16 rfl rfl rfl ?_
 refine XO_v1 (ev_fieldAddr rfl fld_63_8) (.some rfl rfl rfl rfl gbf) rfl rfl rfl ?_
 refine XO_v1 (ev_load rfl sct_3 (fun hg => by repeat (first | exact Cell.here rfl | apply Cell.there | apply Cell.app))) (.some rfl rfl rfl rfl gbf) rfl rfl rfl ?_
 refine XO_callV1 (cap := []) (vs := [_, _, _]) rfl rfl fun_169 (fun hg => r_within I _ _ _) (.some rfl rfl rfl rfl gbf) rfl rfl ?_
 refine XO_v1 (ev_not rfl) (.some rfl rfl rfl rfl gbf) rfl rfl rfl ?_
 refine XO_or0 rfl rfl rfl rfl rfl ?_
 refine zM ?_
 refine XO_pushF 22 rfl rfl rfl ?_
 refine XO_v1 (ev_fieldAddr rfl fld_63_9) (.some rfl rfl rfl rfl gbf) rfl rfl rfl ?_
 refine XO_v1 (ev_load rfl sct_3 (fun hg => by repeat (first | exact Cell.here rfl | apply Cell.there | apply Cell.app))) (.some rfl rfl rfl rfl gbf) rfl rfl rfl ?_
 refine XO_callV1 (cap := []) (vs := [_, _, _]) rfl rfl fun_169 (fun hg => r_within I _ _ _) (.some rfl rfl rfl rfl gbf) rfl rfl ?_
 refine XO_v1 (ev_not rfl) (.some rfl rfl rfl rfl gbf) rfl rfl rfl ?_
 refine XO_or0 rfl rfl rfl rfl rfl ?_
 refine zN ?_
 refine X_cond rfl (fun hc58 => ?_) (fun hc58 => ?_)
 ·
  refine zR ?_
  refine zA ?_
  refine zN ?_
  refine X_ret ?_
  refine at_then_r ?_
  exact at_ret1 rfl rfl (fun w hw => ⟨by exact congrArg (fun b => Ending.returned (Value.bool b)) (frm_b hc58).symm, hw.drop⟩)
 refine X_skip ?_
 refine at_then ?_
 refine zR ?_
 refine XO_v0 (ev_fieldAddr rfl fld_63_10) rfl rfl rfl ?_
 refine XO_v0 (ev_loadA rfl agt_61 (fun hg => by first | (repeat (first | exact Cells.here | exact Cells.s0 (vs := [_, _]) rfl | apply Cells.there | apply Cells.app))) rfl) rfl rfl rfl ?_
 refine XO_v0 (ev_fieldAddr rfl fld_63_11) rfl rfl rfl ?_
 refine XO_v0 (ev_loadA rfl agt_61 (fun hg => by first | (repeat (first | exact Cells.here | exact Cells.s0 (vs := [_, _]) rfl | apply Cells.there | apply Cells.app))) rfl) rfl rfl rfl ?_
 refine XO_callV0 (cap := []) (vs := [_, _]) rfl rfl fun_170 (r_span I _ _ _ _) rfl rfl ?_
 refine zA ?_
 refine zN ?_
 refine X_ret ?_
 exact at_ret1 rfl rfl (fun w hw => ⟨by exact congrArg (fun b => Ending.returned (Value.bool b)) (frm_c hc30 hc58).symm, hw.drop⟩)
theorem r_right {I : HMap} {av : Option Addr} {n c : Nat} {xs : List Sg} (hS : Sl I 14 encG av n c xs) (hn : n ≤ 100000) : RetV Tryz.prog 161 [.slice av n c] I (.bool (skB xs)) := by
 intro g H w hw
 refine enter Tryz.func161 rfl Tryz.ntmps161 rfl hw ?_
 refine zR ?_
 refine zA ?_
 refine zN ?_
 refine X_seq ?_
 refine zR ?_
 refine zA ?_
 refine zN ?_
 refine X_block ?_
 refine X_loopT [(0, _)] (.cons rfl .nil) (fun T L0 mz E I' loc' => ∃ (k : Nat), mz = n - k ∧ E = (3, .int .i64 k) :: T ∧ I = I' ∧ L0 = loc' ∧ k ≤ n ∧ (List.range k).all (skP xs) = true) _ _ _ _ ⟨0, rfl, rfl, rfl, rfl, Nat.zero_le _, rfl⟩ (.cons rfl (.cons rfl .nil)) (HLe.refl _) rfl ?_
 rintro mz E I' loc' ⟨k, rfl, rfl, rfl, rfl, hk, hall⟩
 refine X_seq ?_
 refine zR ?_
 refine zM ?_
 refine zM ?_
 refine XO_v0 (ev_lenS rfl slt_183) rfl rfl rfl ?_
 refine zC ?_
 refine zN ?_
 refine X_cond rfl (fun hc7 => ?_) (fun hc7 => ?_)
 ·
  have hlt_k : k < n := by have h := hc7; simp at h; omega
  obtain ⟨x, hx⟩ := hS.at hlt_k
  refine X_skip ?_
  refine at_then ?_
  refine X_seq ?_
  refine X_block ?_
  refine X_seq ?_
  refine X_draw mixed (by kernel_rfl) ?_
  refine XQ_v0 (ev_move rfl) rfl rfl rfl ?_
  refine XQ_v0 (ev_move rfl) rfl rfl rfl ?_
  refine XQ_v0 (ev_indexSl rfl rfl slt_183 (by assumption) (fun hg => by first | omega | (simp [conj] at hg; omega))) rfl rfl rfl ?_
  refine XQ_v0 (ev_loadA rfl agt_63 (fun hg => by first | exact Sl.getA hS hx | (repeat (first | exact Cells.here | exact Cells.s0 (vs := [_, _, _, _, _, _, _, _, _, _, _, _, _, _]) rfl | apply Cells.there | apply Cells.app))) rfl) rfl rfl rfl ?_
  refine XQ_callV0 (cap := []) (vs := [_]) rfl rfl fun_166 (r_frm I _) rfl rfl ?_
  refine XQ_v0 (ev_not rfl) rfl rfl rfl ?_
  refine XQ_v0 (ev_move rfl) rfl rfl rfl ?_
  refine XQ_pushF 6 rfl rfl rfl ?_
  refine XQ_v1 (ev_move rfl) (.some rfl rfl rfl rfl gbf) rfl rfl rfl ?_
  refine XQ_v1 (ev_cmp rfl rfl rfl) (.some rfl rfl rfl rfl gbf) rfl rfl rfl ?_
  refine XQ_v1 (ev_move rfl) (.some rfl rfl rfl rfl gbf) rfl rfl rfl ?_
  refine XQ_pushT 9 rfl rfl rfl ?_
  refine XQ_v1 (ev_move rfl) (.some rfl rfl rfl rfl gbt) rfl rfl rfl ?_
  refine XQ_v1 (ev_move rfl) (.some rfl rfl rfl rfl gbt) rfl rfl rfl ?_
  refine XQ_v1 (ev_indexSl rfl rfl slt_183 (by assumption) (fun hg => by first | omega | (simp [conj] at hg; omega))) (.some rfl rfl rfl rfl gbt) rfl rfl rfl ?_
  refine XQ_v1 (ev_fieldAddr rfl fld_63_0) (.some rfl rfl rfl rfl gbt) rfl rfl rfl ?_
  refine XQ_v1 (ev_load rfl sct_3 (fun hg => by first | exact Sl.get0 hS hx rfl | exact Sl.get0 (k := ((k : Int) - 1).toNat) hS (some_getD (d := zeroG) hS.len (by simp [conj] at hg; omega)) rfl | (repeat (first | exact Cell.here rfl | apply Cell.there | apply Cell.app)))) (.some rfl rfl rfl rfl gbt) rfl rfl rfl ?_
  refine XQ_v1 (ev_move rfl) (.some rfl rfl rfl rfl gbt) rfl rfl rfl ?_
  refine XQ_v1 (ev_move rfl) (.some rfl rfl rfl rfl gbt) rfl rfl rfl ?_
  refine XQ_v1 (ev_arB rfl rfl rfl (fun hg => by first | omega | (simp [conj] at hg; omega))) (.some rfl rfl rfl rfl gbt) rfl rfl rfl ?_
  refine XQ_v1 (ev_indexSl rfl rfl slt_183 (by assumption) (fun hg => by first | omega | (simp [conj] at hg; omega))) (.some rfl rfl rfl rfl gbt) rfl rfl rfl ?_
  refine XQ_v1 (ev_fieldAddr rfl fld_63_0) (.some rfl rfl rfl rfl gbt) rfl rfl rfl ?_
  refine XQ_v1 (ev_load rfl sct_3 (fun hg => by first | exact Sl.get0 hS hx rfl | exact Sl.get0 (k := ((k : Int) - 1).toNat) hS (some_getD (d := zeroG) hS.len (by simp [conj] at hg; omega)) rfl | (repeat (first | exact Cell.here rfl | apply Cell.there | apply Cell.app)))) (.some rfl rfl rfl rfl gbt) rfl rfl rfl ?_
  refine XQ_v1 (ev_cmp rfl rfl rfl) (.some rfl rfl rfl rfl gbt) rfl rfl rfl ?_
  refine XQ_and1 rfl rfl rfl (.some rfl rfl rfl rfl gbf) rfl rfl ?_
  refine XQ_or0 rfl rfl rfl rfl rfl ?_
  refine XQ_nil ?_
  refine at_then ?_
  refine X_cond rfl (fun hc33 => ?_) (fun hc33 => ?_)
  ·
   refine zR ?_
   refine zA ?_
   refine zN ?_
   refine X_ret ?_
   refine at_block_r ?_
   refine at_then_r ?_
   refine at_then_r ?_
   refine at_block_r ?_
   refine at_then_r ?_
   first
   | exact at_ret1 rfl rfl (fun w hw => ⟨by unfold skB; rw [range_bad (k := k) (by rw [hS.len]; exact hlt_k) (by rw [skP_at hx]; exact congrArg (! ·) hc33)], hw.drop⟩)
  refine X_skip ?_
  refine at_block_n ?_
  refine at_then ?_
  refine X_region ?_
  refine zM ?_
  refine zB ?_
  refine zA ?_
  refine XO_nil ?_
  exact at_met2 _ _ ⟨n - (k + 1), by omega, k + 1, rfl, rfl, rfl, rfl, by omega, range_step hall (by rw [skP_at hx]; exact congrArg (! ·) hc33)⟩ (.cons rfl (.cons rfl .nil)) (by repeat (first | exact .refl | exact subL_left | refine subL_app ?_ | refine .drop ?_ | refine subL_add ?_))
 have hge_k : n ≤ k := by have h := hc7; simp at h; omega
 refine X_exit ?_
 refine at_then_e ?_
 refine at_then_e ?_
 refine at_block_hit ?_
 refine at_then ?_
 refine zR ?_
 refine zA ?_
 refine zN ?_
 refine X_ret ?_
 first
 | exact at_ret1 rfl rfl (fun w hw => ⟨by unfold skB; rw [hS.len, show n = k by omega, hall], hw.drop⟩)
theorem r_chkG {I : HMap} {av : Option Addr} {n c : Nat} {xs : List Sg} (hS : Sl I 14 encG av n c xs) (hn : n ≤ 100000) : RetV Tryz.prog 150 [.slice av n c] I (.int .i64 (chkG xs)) := by
 intro g H w hw
 refine enter Tryz.func150 rfl Tryz.ntmps150 rfl hw ?_
 refine zR ?_
 refine zA ?_
 refine zN ?_
 refine X_seq ?_
 refine zR ?_
 refine zM ?_
 refine XO_v0 (ev_lenS rfl slt_183) rfl rfl rfl ?_
 refine zC ?_
 refine zN ?_
 refine X_cond rfl (fun hc5 => ?_) (fun hc5 => ?_)
 ·
  have h6 : xs.length > 4096 := by rw [hS.len]; simp at hc5; omega
  refine zR ?_
  refine zA ?_
  refine zN ?_
  refine X_ret ?_
  refine at_then_r ?_
  exact at_ret1 rfl rfl (fun w hw => ⟨by rw [chkG_1 h6], hw.drop⟩)
 have h6 : ¬ xs.length > 4096 := by rw [hS.len]; simp at hc5; omega
 refine X_skip ?_
 refine at_then ?_
 refine X_seq ?_
 refine zR ?_
 refine zM ?_
 refine XO_callV0 (cap := []) (vs := [_]) rfl rfl fun_161 (r_right hS hn) rfl rfl ?_
 refine XO_v0 (ev_not rfl) rfl rfl rfl ?_
 refine zN ?_
 refine X_cond rfl (fun hc8 => ?_) (fun hc8 => ?_)
 ·
  refine zR ?_
  refine zA ?_
  refine zN ?_
  refine X_ret ?_
  refine at_then_r ?_
  exact at_ret1 rfl rfl (fun w hw => ⟨by rw [chkG_2 h6 (by simpa using hc8)], hw.drop⟩)
 refine X_skip ?_
 refine at_then ?_
 refine zR ?_
 refine zA ?_
 refine zN ?_
 refine X_ret ?_
 exact at_ret1 rfl rfl (fun w hw => ⟨by rw [chkG_3 h6 (by simpa using hc8)], hw.drop⟩)
theorem r_form (I : HMap) (x : Sg) : RetV Tryz.prog 143 [encGA x] I (.bool (frm x)) := by
 intro g H w hw
 refine enter Tryz.func143 rfl Tryz.ntmps143 rfl hw ?_
 have hIc := HLe.refl I
 refine zR ?_
 refine XO_box rfl rfl rfl (fun b_1 => ?_)
 refine zA ?_
 refine zN (zR ?_)
 refine XO_v0 (ev_loadA rfl agt_63 (fun hg => by first | (repeat (first | exact Cells.here | exact Cells.s0 (vs := [_, _, _, _, _, _, _, _, _, _, _, _, _, _]) rfl | apply Cells.there | apply Cells.app))) rfl) rfl rfl rfl ?_
 refine XO_buildSlice (ps := [(0, _)]) (m := [encG x]) elt_183 rfl (.cons rfl (.nil)) rfl (by simp [encG_len]) (by decide) (by decide) rfl rfl (fun b_5 => ?_)
 refine XO_freeze .here (fun I1 hI1 hb1 => ?_)
 have hIc := hIc.trans hI1
 have hS := Sl.lit [x] rfl encG_len (show _ = some (Obj.cells (([x] : List Sg).flatMap encG).toArray 63 (0, 0)) from hb1)
 refine XO_callV0 (cap := []) (vs := [_]) rfl rfl fun_150 (r_chkG hS (by decide)) rfl rfl ?_
 refine zA ?_
 refine zN (zR ?_)
 refine zM ?_
 refine zC ?_
 refine zA ?_
 refine zN ?_
 refine X_ret ?_
 exact at_ret1 rfl rfl (fun w hw => ⟨by rw [chk_one], (hw.mono hIc).drop⟩)
theorem r_set (I : HMap) (x : Sg) (f : Int) (y : Sg) : RetV Tryz.prog 142 [encGA x, .int .i64 f, encGA y] I (encGA (setG x f y)) := by
 intro g H w hw
 refine enter Tryz.func142 rfl Tryz.ntmps142 rfl hw ?_
 refine zR ?_
 refine XO_box rfl rfl rfl (fun b_3 => ?_)
 refine XO_box rfl rfl rfl (fun b_5 => ?_)
 refine XO_alloc zt_63 rfl rfl (fun b_6 => ?_)
 refine zN ?_
 refine X_seq ?_
 refine zR ?_
 refine zM ?_
 refine zN ?_
 refine X_block ?_
 refine zR ?_
 refine zC ?_
 refine zA ?_
 refine zN ?_
 refine X_cond rfl (fun hc8 => ?_) (fun hc8 => ?_)
 ·
  have hfk : f = 1 := by simpa using hc8
  subst hfk
  refine X_region ?_
  refine XO_v0 (ev_fieldAddr rfl fld_63_1) rfl rfl rfl ?_
  refine zL sct_3 ?_
  refine XO_v0 (ev_fieldAddr rfl fld_63_1) rfl rfl rfl ?_
  refine zS szt_3 ?_
  refine XO_nil ?_
  refine at_block_n ?_
  refine at_then ?_
  refine zR ?_
  refine XO_v0 (ev_loadA rfl agt_63 (fun hg => by first | (repeat (first | exact Cells.here | exact Cells.s0 (vs := [_, _, _, _, _, _, _, _, _, _, _, _, _, _]) rfl | apply Cells.there | apply Cells.app))) rfl) rfl rfl rfl ?_
  refine XO_storeA rfl rfl szt_63 rfl rfl rfl rfl (by repeat (first | exact Upd.here | apply Upd.there | apply upd_app)) ?_
  refine zN ?_
  refine X_ret ?_
  exact at_retA rfl rfl agt_63 Cells.g0 rfl (fun w hw => ⟨rfl, hw.drop⟩)
 have hg1 : f ≠ 1 := by simpa using hc8
 refine zR ?_
 refine zC ?_
 refine zA ?_
 refine zN ?_
 refine X_cond rfl (fun hc13 => ?_) (fun hc13 => ?_)
 ·
  have hfk : f = 2 := by simpa using hc13
  subst hfk
  refine X_region ?_
  refine XO_v0 (ev_fieldAddr rfl fld_63_2) rfl rfl rfl ?_
  refine zL sct_3 ?_
  refine XO_v0 (ev_fieldAddr rfl fld_63_2) rfl rfl rfl ?_
  refine zS szt_3 ?_
  refine XO_nil ?_
  refine at_block_n ?_
  refine at_then ?_
  refine zR ?_
  refine XO_v0 (ev_loadA rfl agt_63 (fun hg => by first | (repeat (first | exact Cells.here | exact Cells.s0 (vs := [_, _, _, _, _, _, _, _, _, _, _, _, _, _]) rfl | apply Cells.there | apply Cells.app))) rfl) rfl rfl rfl ?_
  refine XO_storeA rfl rfl szt_63 rfl rfl rfl rfl (by repeat (first | exact Upd.here | apply Upd.there | apply upd_app)) ?_
  refine zN ?_
  refine X_ret ?_
  exact at_retA rfl rfl agt_63 Cells.g0 rfl (fun w hw => ⟨rfl, hw.drop⟩)
 have hg2 : f ≠ 2 := by simpa using hc13
 refine zR ?_
 refine zC ?_
 refine zA ?_
 refine zN ?_
 refine X_cond rfl (fun hc18 => ?_) (fun hc18 => ?_)
 ·
  have hfk : f = 3 := by simpa using hc18
  subst hfk
  refine X_region ?_
  refine XO_v0 (ev_fieldAddr rfl fld_63_3) rfl rfl rfl ?_
  refine zL sct_3 ?_
  refine XO_v0 (ev_fieldAddr rfl fld_63_3) rfl rfl rfl ?_
  refine zS szt_3 ?_
  refine XO_nil ?_
  refine at_block_n ?_
  refine at_then ?_
  refine zR ?_
  refine XO_v0 (ev_loadA rfl agt_63 (fun hg => by first | (repeat (first | exact Cells.here | exact Cells.s0 (vs := [_, _, _, _, _, _, _, _, _, _, _, _, _, _]) rfl | apply Cells.there | apply Cells.app))) rfl) rfl rfl rfl ?_
  refine XO_storeA rfl rfl szt_63 rfl rfl rfl rfl (by repeat (first | exact Upd.here | apply Upd.there | apply upd_app)) ?_
  refine zN ?_
  refine X_ret ?_
  exact at_retA rfl rfl agt_63 Cells.g0 rfl (fun w hw => ⟨rfl, hw.drop⟩)
 have hg3 : f ≠ 3 := by simpa using hc18
 refine zR ?_
 refine zC ?_
 refine zA ?_
 refine zN ?_
 refine X_cond rfl (fun hc23 => ?_) (fun hc23 => ?_)
 ·
  have hfk : f = 4 := by simpa using hc23
  subst hfk
  refine X_region ?_
  refine XO_v0 (ev_fieldAddr rfl fld_63_5) rfl rfl rfl ?_
  refine zL sct_3 ?_
  refine XO_v0 (ev_fieldAddr rfl fld_63_5) rfl rfl rfl ?_
  refine zS szt_3 ?_
  refine XO_nil ?_
  refine at_block_n ?_
  refine at_then ?_
  refine zR ?_
  refine XO_v0 (ev_loadA rfl agt_63 (fun hg => by first | (repeat (first | exact Cells.here | exact Cells.s0 (vs := [_, _, _, _, _, _, _, _, _, _, _, _, _, _]) rfl | apply Cells.there | apply Cells.app))) rfl) rfl rfl rfl ?_
  refine XO_storeA rfl rfl szt_63 rfl rfl rfl rfl (by repeat (first | exact Upd.here | apply Upd.there | apply upd_app)) ?_
  refine zN ?_
  refine X_ret ?_
  exact at_retA rfl rfl agt_63 Cells.g0 rfl (fun w hw => ⟨rfl, hw.drop⟩)
 have hg4 : f ≠ 4 := by simpa using hc23
 refine zR ?_
 refine zC ?_
 refine zA ?_
 refine zN ?_
 refine X_cond rfl (fun hc28 => ?_) (fun hc28 => ?_)
 ·
  have hfk : f = 5 := by simpa using hc28
  subst hfk
  refine X_region ?_
  refine XO_v0 (ev_fieldAddr rfl fld_63_6) rfl rfl rfl ?_
  refine zL sct_3 ?_
  refine XO_v0 (ev_fieldAddr rfl fld_63_6) rfl rfl rfl ?_
  refine zS szt_3 ?_
  refine XO_nil ?_
  refine at_block_n ?_
  refine at_then ?_
  refine zR ?_
  refine XO_v0 (ev_loadA rfl agt_63 (fun hg => by first | (repeat (first | exact Cells.here | exact Cells.s0 (vs := [_, _, _, _, _, _, _, _, _, _, _, _, _, _]) rfl | apply Cells.there | apply Cells.app))) rfl) rfl rfl rfl ?_
  refine XO_storeA rfl rfl szt_63 rfl rfl rfl rfl (by repeat (first | exact Upd.here | apply Upd.there | apply upd_app)) ?_
  refine zN ?_
  refine X_ret ?_
  exact at_retA rfl rfl agt_63 Cells.g0 rfl (fun w hw => ⟨rfl, hw.drop⟩)
 have hg5 : f ≠ 5 := by simpa using hc28
 refine zR ?_
 refine zC ?_
 refine zA ?_
 refine zN ?_
 refine X_cond rfl (fun hc33 => ?_) (fun hc33 => ?_)
 ·
  have hfk : f = 6 := by simpa using hc33
  subst hfk
  refine X_region ?_
  refine XO_v0 (ev_fieldAddr rfl fld_63_7) rfl rfl rfl ?_
  refine zL sct_3 ?_
  refine XO_v0 (ev_fieldAddr rfl fld_63_7) rfl rfl rfl ?_
  refine zS szt_3 ?_
  refine XO_nil ?_
  refine at_block_n ?_
  refine at_then ?_
  refine zR ?_
  refine XO_v0 (ev_loadA rfl agt_63 (fun hg => by first | (repeat (first | exact Cells.here | exact Cells.s0 (vs := [_, _, _, _, _, _, _, _, _, _, _, _, _, _]) rfl | apply Cells.there | apply Cells.app))) rfl) rfl rfl rfl ?_
  refine XO_storeA rfl rfl szt_63 rfl rfl rfl rfl (by repeat (first | exact Upd.here | apply Upd.there | apply upd_app)) ?_
  refine zN ?_
  refine X_ret ?_
  exact at_retA rfl rfl agt_63 Cells.g0 rfl (fun w hw => ⟨rfl, hw.drop⟩)
 have hg6 : f ≠ 6 := by simpa using hc33
 refine zR ?_
 refine zC ?_
 refine zA ?_
 refine zN ?_
 refine X_cond rfl (fun hc38 => ?_) (fun hc38 => ?_)
 ·
  have hfk : f = 7 := by simpa using hc38
  subst hfk
  refine X_region ?_
  refine XO_v0 (ev_fieldAddr rfl fld_63_8) rfl rfl rfl ?_
  refine zL sct_3 ?_
  refine XO_v0 (ev_fieldAddr rfl fld_63_8) rfl rfl rfl ?_
  refine zS szt_3 ?_
  refine XO_nil ?_
  refine at_block_n ?_
  refine at_then ?_
  refine zR ?_
  refine XO_v0 (ev_loadA rfl agt_63 (fun hg => by first | (repeat (first | exact Cells.here | exact Cells.s0 (vs := [_, _, _, _, _, _, _, _, _, _, _, _, _, _]) rfl | apply Cells.there | apply Cells.app))) rfl) rfl rfl rfl ?_
  refine XO_storeA rfl rfl szt_63 rfl rfl rfl rfl (by repeat (first | exact Upd.here | apply Upd.there | apply upd_app)) ?_
  refine zN ?_
  refine X_ret ?_
  exact at_retA rfl rfl agt_63 Cells.g0 rfl (fun w hw => ⟨rfl, hw.drop⟩)
 have hg7 : f ≠ 7 := by simpa using hc38
 refine zR ?_
 refine zC ?_
 refine zA ?_
 refine zN ?_
 refine X_cond rfl (fun hc43 => ?_) (fun hc43 => ?_)
 ·
  have hfk : f = 8 := by simpa using hc43
  subst hfk
  refine X_region ?_
  refine XO_v0 (ev_fieldAddr rfl fld_63_9) rfl rfl rfl ?_
  refine zL sct_3 ?_
  refine XO_v0 (ev_fieldAddr rfl fld_63_9) rfl rfl rfl ?_
  refine zS szt_3 ?_
  refine XO_nil ?_
  refine at_block_n ?_
  refine at_then ?_
  refine zR ?_
  refine XO_v0 (ev_loadA rfl agt_63 (fun hg => by first | (repeat (first | exact Cells.here | exact Cells.s0 (vs := [_, _, _, _, _, _, _, _, _, _, _, _, _, _]) rfl | apply Cells.there | apply Cells.app))) rfl) rfl rfl rfl ?_
  refine XO_storeA rfl rfl szt_63 rfl rfl rfl rfl (by repeat (first | exact Upd.here | apply Upd.there | apply upd_app)) ?_
  refine zN ?_
  refine X_ret ?_
  exact at_retA rfl rfl agt_63 Cells.g0 rfl (fun w hw => ⟨rfl, hw.drop⟩)
 have hg8 : f ≠ 8 := by simpa using hc43
 refine zR ?_
 refine zC ?_
 refine zA ?_
 refine zN ?_
 refine X_cond rfl (fun hc48 => ?_) (fun hc48 => ?_)
 ·
  have hfk : f = 9 := by simpa using hc48
  subst hfk
  refine zR ?_
  refine XO_v0 (ev_fieldAddr rfl fld_63_10) rfl rfl rfl ?_
  refine XO_v0 (ev_loadA rfl agt_61 (fun hg => by first | (repeat (first | exact Cells.here | exact Cells.s0 (vs := [_, _]) rfl | apply Cells.there | apply Cells.app))) rfl) rfl rfl rfl ?_
  refine XO_v0 (ev_fieldAddr rfl fld_63_10) rfl rfl rfl ?_
  refine XO_storeP rfl rfl szt_61 rfl rfl rfl rfl (by repeat (first | exact Upd.here | apply Upd.there | apply upd_app)) ?_
  refine zN ?_
  refine X_region ?_
  refine XO_v0 (ev_fieldAddr rfl fld_63_11) rfl rfl rfl ?_
  refine XO_v0 (ev_loadA rfl agt_61 (fun hg => by first | (repeat (first | exact Cells.here | exact Cells.s0 (vs := [_, _]) rfl | apply Cells.there | apply Cells.app))) rfl) rfl rfl rfl ?_
  refine XO_v0 (ev_fieldAddr rfl fld_63_11) rfl rfl rfl ?_
  refine XO_storeP rfl rfl szt_61 rfl rfl rfl rfl (by repeat (first | exact Upd.here | apply Upd.there | apply upd_app)) ?_
  refine XO_nil ?_
  refine at_block_n ?_
  refine at_then ?_
  refine zR ?_
  refine XO_v0 (ev_loadA rfl agt_63 (fun hg => by first | (repeat (first | exact Cells.here | exact Cells.s0 (vs := [_, _, _, _, _, _, _, _, _, _, _, _, _, _]) rfl | apply Cells.there | apply Cells.app))) rfl) rfl rfl rfl ?_
  refine XO_storeA rfl rfl szt_63 rfl rfl rfl rfl (by repeat (first | exact Upd.here | apply Upd.there | apply upd_app)) ?_
  refine zN ?_
  refine X_ret ?_
  exact at_retA rfl rfl agt_63 Cells.g0 rfl (fun w hw => ⟨rfl, hw.drop⟩)
 have hg9 : f ≠ 9 := by simpa using hc48
 refine X_skip ?_
 refine at_block_n ?_
 refine at_then ?_
 refine zR ?_
 refine XO_v0 (ev_loadA rfl agt_63 (fun hg => by first | (repeat (first | exact Cells.here | exact Cells.s0 (vs := [_, _, _, _, _, _, _, _, _, _, _, _, _, _]) rfl | apply Cells.there | apply Cells.app))) rfl) rfl rfl rfl ?_
 refine XO_storeA rfl rfl szt_63 rfl rfl rfl rfl (by repeat (first | exact Upd.here | apply Upd.there | apply upd_app)) ?_
 refine zN ?_
 refine X_ret ?_
 first
 | exact at_retA rfl rfl agt_63 Cells.g0 rfl (fun w hw => ⟨by unfold setG; rw [if_neg hg1, if_neg hg2, if_neg hg3, if_neg hg4, if_neg hg5, if_neg hg6, if_neg hg7, if_neg hg8, if_neg hg9]; rfl, hw.drop⟩)
theorem r_plain (I : HMap) : RetV Tryz.prog 144 [] I (encGA plainR) := by
 intro g H w hw
 refine enter Tryz.func144 rfl Tryz.ntmps144 rfl hw ?_
 refine zR ?_
 refine XO_alloc zt_63 rfl rfl (fun b_0 => ?_)
 refine zN (zR ?_)
 refine XO_v0 (ev_buildL (ps := [(1, _)]) [_, _] plt_61 rfl rfl) rfl rfl rfl ?_
 refine XO_v0 (ev_buildL (ps := [(0, _), (1, _)]) [_, _] plt_61 rfl rfl) rfl rfl rfl ?_
 refine XO_v0 (ev_buildL (ps := [(3, _), (4, _), (10, _), (11, _)]) [_, _, _, _, _, _, _, _, _, _, _, _, _, _] plt_63 rfl rfl) rfl rfl rfl ?_
 refine XO_storeA rfl rfl szt_63 rfl rfl rfl rfl (by repeat (first | exact Upd.here | apply Upd.there | apply upd_app)) ?_
 refine zN ?_
 refine X_ret ?_
 exact at_retA rfl rfl agt_63 Cells.g0 rfl (fun w hw => ⟨rfl, hw.drop⟩)
end Go.Proofs.YtehkiccapbkhnaaGreat
end
section
namespace Go.Proofs.YtehkiccapbkhnaaGreat
open Go Go.Kn Go.Proofs
def idP (t : Int) (p : Pt) : Bool := p.id == t
def fndI (ps : List Pt) (t : Int) : Int := idxF (idP t) ps
theorem fnd_no {ps : List Pt} {t : Int} : decide (fndI ps t < 0) = !hasI ps t := idx_lt
theorem fnd_at {ps : List Pt} (hL : ∀ p ∈ ps, ∀ q ∈ ps, p.id = q.id → p = q) (hnd : (ps.map (·.id)).Nodup) {k : Nat} {p : Pt} (hp : ps[k]? = some p) : fndI ps p.id = k := by
  refine idx_hit (k := k) (x := p) ?_ hp (by simp [idP])
  rw [List.any_eq_false]
  intro q hq
  obtain ⟨j, hj⟩ := List.getElem?_of_mem hq
  have hjk : j < k := by have := (List.getElem?_eq_some_iff.1 hj).1; rw [List.length_take] at this; omega
  rw [List.getElem?_take, if_pos hjk] at hj
  intro e
  have e : q.id = p.id := by simpa [idP] using e
  obtain ⟨hj1, hj2⟩ := List.getElem?_eq_some_iff.1 hj
  obtain ⟨hk1, hk2⟩ := List.getElem?_eq_some_iff.1 hp
  have h1 : (ps.map (·.id))[j]'(by simpa using hj1) = (ps.map (·.id))[k]'(by simpa using hk1) := by simp [hj2, hk2, e]
  have := (List.getElem_inj hnd).1 h1
  omega
theorem Lst.nodup {ps : List Pt} (h : Lst ps) : (ps.map (·.id)).Nodup := by
  unfold List.Nodup
  rw [List.pairwise_map]
  exact h.inc.imp fun {a b : Pt} (h : a.id < b.id) => Int.ne_of_lt h
theorem Lst.fnd {ps : List Pt} (h : Lst ps) {k : Nat} {p : Pt} (hp : ps[k]? = some p) : fndI ps p.id = k := fnd_at (fun p hp q hq e => h.uniq hp hq e) h.nodup hp
/-- What a patch needs stands before it. -/
theorem Lst.need_at {ps : List Pt} (h : Lst ps) {k : Nat} {p : Pt} (hp : ps[k]? = some p) {y : Int} (hy : y ∈ p.needs) : ∃ m q, m < k ∧ ps[m]? = some q ∧ q.id = y ∧ fndI ps y = m := by
  obtain ⟨q, hq, e⟩ := h.before hp hy
  obtain ⟨m, hm⟩ := List.getElem?_of_mem hq
  have hmk : m < k := by have := (List.getElem?_eq_some_iff.1 hm).1; rw [List.length_take] at this; omega
  rw [List.getElem?_take, if_pos hmk] at hm
  exact ⟨m, q, hmk, hm, e, by rw [← e]; exact h.fnd hm⟩
theorem Lst.lt_at {ps : List Pt} (h : Lst ps) {i j : Nat} {p q : Pt} (hp : ps[i]? = some p) (hq : ps[j]? = some q) (hlt : p.id < q.id) : i < j := by
  obtain ⟨hi1, hi2⟩ := List.getElem?_eq_some_iff.1 hp
  obtain ⟨hj1, hj2⟩ := List.getElem?_eq_some_iff.1 hq
  by_cases e : i = j
  · subst e; rw [hp] at hq; cases hq; omega
  · by_cases e2 : j < i
    · have := List.pairwise_iff_getElem.1 h.inc j i hj1 hi1 e2; rw [hi2, hj2] at this; omega
    · omega
/-- A row over a list of patches. -/
def RowP (ps : List Pt) (f : Nat → Pt → Bool) (row : List Bool) : Prop := row.length = ps.length ∧ ∀ j q, ps[j]? = some q → row[j]? = some (f j q)
theorem RowP.congr {ps : List Pt} {f g : Nat → Pt → Bool} {row : List Bool} (h : RowP ps f row) (e : ∀ j q, ps[j]? = some q → f j q = g j q) : RowP ps g row := ⟨h.1, fun j q hq => by rw [← e j q hq]; exact h.2 j q hq⟩
theorem RowP.new {ps : List Pt} {n : Nat} (h : ps.length = n) : RowP ps (fun _ _ => false) (List.replicate n false) := ⟨by simp [h], fun j q hq => by
  have := (List.getElem?_eq_some_iff.1 hq).1
  rw [List.getElem?_replicate, if_pos (by omega)]⟩
theorem RowP.set {ps : List Pt} {f : Nat → Pt → Bool} {row : List Bool} (h : RowP ps f row) (m : Nat) (b : Bool) : RowP ps (fun j q => if j = m then b else f j q) (row.set m b) := ⟨by rw [List.length_set, h.1], fun j q hq => by
  show _ = some (if j = m then b else f j q)
  rw [List.getElem?_set]
  have hj := (List.getElem?_eq_some_iff.1 hq).1
  by_cases e : m = j
  · subst e; rw [if_pos rfl, if_pos (by rw [h.1]; exact hj), if_pos rfl]
  · rw [if_neg e, if_neg (fun e2 : j = m => e e2.symm)]; exact h.2 j q hq⟩
theorem RowP.eq {ps : List Pt} {f : Pt → Bool} {row : List Bool} (h : RowP ps (fun _ => f) row) : row = ps.map f := by
  refine List.ext_getElem? fun j => ?_
  rw [List.getElem?_map]
  cases hq : ps[j]? with
  | some q => rw [h.2 j q hq]; rfl
  | none =>
    rw [List.getElem?_eq_none_iff] at hq
    exact List.getElem?_eq_none (by rw [h.1]; exact hq)
theorem RowP.of (ps : List Pt) (f : Pt → Bool) : RowP ps (fun _ => f) (ps.map f) := ⟨by simp, fun j q hq => by simp [hq]⟩
def rowF (ps : List Pt) (p : Pt) : List Bool := ps.map fun q => onF ps p.id q.id
/-- A row's cells. -/
def cellsB (row : List Bool) : Array Value := (row.flatMap encB).toArray
theorem cellsB_eq (row : List Bool) : row.flatMap encB = row.map Value.bool := by
  induction row with
  | nil => rfl
  | cons b row ih => rw [List.flatMap_cons, ih]; rfl
theorem cellsB_set (row : List Bool) (m : Nat) (b : Bool) : (cellsB row).setIfInBounds ((m : Int).toNat * 1) (.bool b) = cellsB (row.set m b) := by
  unfold cellsB
  rw [cellsB_eq, cellsB_eq, Nat.mul_one, List.setIfInBounds_toArray, List.map_set]; rfl
theorem bltB {row : List Bool} {m : Nat} (h : m < row.length) : Nat.blt ((m : Int).toNat * 1) (cellsB row).size = true := by
  unfold cellsB
  rw [List.size_toArray, flat_len encB_len, Nat.mul_one, Nat.mul_one]
  rw [Nat.blt_eq]; exact h
theorem cellsB_new (n : Nat) : (List.replicate n (Value.bool false)).toArray = cellsB (List.replicate n false) := by
  unfold cellsB
  rw [cellsB_eq, List.map_replicate]
theorem cellB {I : HMap} {l : Go.Kn.Loc} {b j : Nat} {row : List Bool} {t : TypeId} {fz : Nat × Nat} {x : Bool} (h : row[j]? = some x) : Cell I ((b, .cells (cellsB row) t fz) :: l) b ((j : Int).toNat * 1) (.bool x) := by
  refine Cell.here ?_
  rw [lget_eq]
  unfold cellsB
  rw [cellsB_eq, Nat.mul_one]
  simp [h]
theorem split_asc {A B C L R : Go.Kn.Loc} (h : Split (A ++ (B ++ C)) L R) : Split ((A ++ B) ++ C) L R := by rw [List.append_assoc]; exact h
/-- Rows of rows. -/
def SlM {β : Type} (enc : β → List Value) (size : Nat) (I : HMap) (av : Option Addr) (n c : Nat) (rows : List (List β)) : Prop :=
  ∃ hs : List Hd, Sl I 1 encH av n c hs ∧ hs.length = rows.length ∧ ∀ (k : Nat) (h : Hd) (r : List β), hs[k]? = some h → rows[k]? = some r → Sl I size enc h.a h.n h.c r
theorem SlM.len {β : Type} {enc : β → List Value} {size : Nat} {I : HMap} {av : Option Addr} {n c : Nat} {rows : List (List β)} (h : SlM enc size I av n c rows) : rows.length = n := by
  obtain ⟨hs, h1, h2, _⟩ := h
  rw [← h2, h1.len]
theorem SlM.at {β : Type} {enc : β → List Value} {size : Nat} {I : HMap} {av : Option Addr} {n c : Nat} {rows : List (List β)} (h : SlM enc size I av n c rows) {k : Nat} (hk : k < n) : ∃ hs hd r, Sl I 1 encH av n c hs ∧ hs[k]? = some hd ∧ rows[k]? = some r ∧ Sl I size enc hd.a hd.n hd.c r := by
  have hl := h.len
  obtain ⟨hs, h1, h2, h3⟩ := h
  obtain ⟨hd, hh⟩ := h1.at hk
  exact ⟨hs, hd, rows[k]'(by omega), h1, hh, List.getElem?_eq_getElem _, h3 k _ _ hh (List.getElem?_eq_getElem _)⟩
theorem Cell.seg {I : HMap} {l : Go.Kn.Loc} {b off n : Nat} {cur vs : List Value} {t : TypeId} {fz : Nat × Nat} {u : Value} (h : (cur.drop off).take n = vs) (hu : vs[0]? = some u) : Cell I ((b, .cells cur.toArray t fz) :: l) b off u := by
  refine Cell.here ?_
  rw [lget_eq, ← hu, ← h, List.getElem?_take]
  split
  · simp
  · rename_i hn
    rw [← h, List.getElem?_take, if_neg hn] at hu; cases hu
theorem fold_any {α : Type} {xs : List α} {k : Nat} {x : α} {P : α → Bool} (hx : xs[k]? = some x) : (xs.take (k + 1)).any P = ((xs.take k).any P || P x) := by rw [take_snoc hx, List.any_append]; simp
/-! ### The list's order -/
theorem ndR_at {id : Int} {v : List Int} {k : Nat} {x : Int} (hx : v[k]? = some x) : ndP id v k = !((decide (x < 1) || decide (x ≥ id)) || (decide ((k : Int) > 0) && decide (x ≤ v.getD ((k : Int) - 1).toNat 0))) := by unfold ndP; rw [getD_of hx]
theorem lsR_ok {a b : Bool} (h : a = false) (h2 : b = false) : (!(a || b)) = true := by rw [h, h2]; rfl
theorem lsR_1 {a b : Bool} (h : a = true) : (!(a || b)) = false := by rw [h]; rfl
theorem lsR_2 {a b : Bool} (h : b = true) : (!(a || b)) = false := by rw [h]; simp
theorem lsP_at {ps : List Pt} {k : Nat} {p : Pt} (hx : ps[k]? = some p) : lsP ps k = !((decide ((k : Int) > 0) && decide (p.id ≤ (ps.getD ((k : Int) - 1).toNat zeroP).id)) || p.needs.any (fun n => !hasI ps n)) := by unfold lsP; rw [getD_of hx]
theorem togA_one {ps : List Pt} {i : Nat} {p : Pt} (hp : ps[i]? = some p) (h : (ps.all fun q => p.id == q.id || togB p q (onF ps p.id q.id)) = false) : togA ps = false := by unfold togA; exact all_no hp h
/-! ### The rows of all patches -/
def preF (ps : List Pt) (p : Pt) (k : Nat) (q : Pt) : Bool := (p.needs.take k).any fun m => m == q.id || onF ps m q.id
theorem row_start {ps : List Pt} {p : Pt} {n : Nat} (h : ps.length = n) : RowP ps (fun _ => preF ps p 0) (List.replicate n false) := (RowP.new h).congr fun j q hq => by simp [preF]
/-- Within a need: its patch, and the first of those that it stands on. -/
def midF (ps : List Pt) (p : Pt) (k : Nat) (y : Int) (j : Nat) (i : Nat) (q : Pt) : Bool := (preF ps p k q || y == q.id) || (decide (i < j) && onF ps y q.id)
theorem row_mid {ps : List Pt} {p q : Pt} {k m : Nat} {y : Int} {row : List Bool} (hL : Lst ps) (h : RowP ps (fun _ => preF ps p k) row) (hq : ps[m]? = some q) (hy : q.id = y) : RowP ps (midF ps p k y 0) (row.set m true) := (h.set m true).congr fun i r hr => by
  unfold midF
  by_cases e : i = m
  · subst e; rw [hq] at hr; cases hr; simp [hy]
  · rw [if_neg e]
    have : ¬ y = r.id := fun e2 => by
      have h1 := hL.fnd hr
      have h2 := hL.fnd hq
      rw [hy, e2, h1] at h2
      omega
    simp [this]
theorem row_step {ps : List Pt} {p q : Pt} {k j : Nat} {y : Int} {row : List Bool} {b : Bool} (h : RowP ps (midF ps p k y j) row) (hq : ps[j]? = some q) (hb : row[j]? = some b) : RowP ps (midF ps p k y (j + 1)) (row.set j (b || onF ps y q.id)) := (h.set j _).congr fun i r hr => by
  by_cases e : i = j
  · subst e
    rw [hq] at hr; cases hr
    rw [if_pos rfl]
    have := h.2 i q hq
    rw [hb] at this
    cases this
    unfold midF
    simp
  · rw [if_neg e]
    unfold midF
    rw [show decide (i < j) = decide (i < j + 1) from by rw [Bool.eq_iff_iff]; simp; omega]
theorem row_next {ps : List Pt} {p q : Pt} {k m : Nat} {y : Int} {row : List Bool} (hL : Lst ps) (hk : p.needs[k]? = some y) (hq : ps[m]? = some q) (hy : q.id = y) (h : RowP ps (midF ps p k y m) row) : RowP ps (fun _ => preF ps p (k + 1)) row := h.congr fun i r hr => by
  unfold midF preF
  rw [fold_any hk, Bool.or_assoc]
  congr 1
  congr 1
  by_cases e : i < m
  · simp [e]
  · have : onF ps y r.id = false := by
      cases ho : onF ps y r.id with
      | false => rfl
      | true =>
        have h1 := (hL.on_lt ho).1
        have := hL.lt_at hr hq (by omega)
        omega
    rw [this, Bool.and_false]
theorem row_done {ps : List Pt} {p : Pt} {row : List Bool} (hL : Lst ps) (hp : p ∈ ps) (h : RowP ps (fun _ => preF ps p p.needs.length) row) : row = rowF ps p := by
  refine (h.congr (g := fun _ q => onF ps p.id q.id) fun i q hq => ?_).eq
  unfold preF
  rw [List.take_of_length_le (Nat.le_refl _), hL.on hp]
/-- The rows so far. -/
def RowsQ (I : HMap) (ps : List Pt) (n : Nat) (hs : List Hd) (i : Nat) : Prop := hs.length = i ∧ ∀ (k : Nat) (h : Hd) (p : Pt), hs[k]? = some h → ps[k]? = some p → h.n = n ∧ Sl I 1 encB h.a h.n h.c (rowF ps p)
theorem RowsQ.mono {I I' : HMap} {ps : List Pt} {n : Nat} {hs : List Hd} {i : Nat} (h : RowsQ I ps n hs i) (hI : HLe I I') : RowsQ I' ps n hs i := ⟨h.1, fun k x p a b => ⟨(h.2 k x p a b).1, (h.2 k x p a b).2.mono hI⟩⟩
theorem RowsQ.nil {I : HMap} {ps : List Pt} {n : Nat} : RowsQ I ps n [] 0 := ⟨rfl, fun k h p hk _ => by simp at hk⟩
theorem RowsQ.snoc {I : HMap} {ps : List Pt} {n : Nat} {hs : List Hd} {i : Nat} {p : Pt} {a : Option Addr} {c : Nat} (h : RowsQ I ps n hs i) (hp : ps[i]? = some p) (hr : Sl I 1 encB a n c (rowF ps p)) : RowsQ I ps n (hs ++ [⟨a, n, c⟩]) (i + 1) := ⟨by rw [List.length_append, h.1]; rfl, fun k x q hx hq => by
  by_cases e : k < hs.length
  · rw [List.getElem?_append_left e] at hx; exact h.2 k x q hx hq
  · have hk := (List.getElem?_eq_some_iff.1 hx).1
    rw [List.length_append, List.length_singleton] at hk
    have : k = hs.length := by omega
    subst this
    rw [List.getElem?_append_right (Nat.le_refl _), Nat.sub_self] at hx
    simp at hx; subst hx
    rw [h.1] at hq; rw [hp] at hq; cases hq
    exact ⟨rfl, hr⟩⟩
theorem RowsQ.slm {I : HMap} {ps : List Pt} {n : Nat} {hs : List Hd} {av : Option Addr} {c : Nat} (h : RowsQ I ps n hs n) (hn : ps.length = n) (hS : Sl I 1 encH av n c hs) : SlM encB 1 I av n c (ps.map (rowF ps)) :=
  ⟨hs, hS, by rw [hS.len, List.length_map, hn], fun k x r hx hr => by
    rw [List.getElem?_map, Option.map_eq_some_iff] at hr
    obtain ⟨p, hp, rfl⟩ := hr
    exact (h.2 k x p hx hp).2⟩
/-! ### Lists of IDs as rows -/
def chF (ys : List Int) (q : Pt) : Bool := ys.any fun y => y == q.id
theorem fnd_hit {ps : List Pt} (hL : Lst ps) {y : Int} (h : hasI ps y = true) : ∃ m q, m < ps.length ∧ ps[m]? = some q ∧ q.id = y ∧ fndI ps y = m := by
  obtain ⟨q, hq, e⟩ := hasI_iff.1 h
  obtain ⟨m, hm⟩ := List.getElem?_of_mem hq
  exact ⟨m, q, (List.getElem?_eq_some_iff.1 hm).1, hm, e, by rw [← e]; exact hL.fnd hm⟩
theorem ch_step {ps : List Pt} {ys : List Int} {k m : Nat} {y : Int} {q : Pt} {row : List Bool} (hL : Lst ps) (h : RowP ps (fun _ => chF (ys.take k)) row) (hy : ys[k]? = some y) (hq : ps[m]? = some q) (e : q.id = y) : RowP ps (fun _ => chF (ys.take (k + 1))) (row.set m true) := (h.set m true).congr fun j r hr => by
  unfold chF
  rw [fold_any hy]
  by_cases hj : j = m
  · subst hj; rw [hq] at hr; cases hr; rw [if_pos rfl, e]; simp
  · rw [if_neg hj]
    have : (y == r.id) = false := by
      rw [beq_eq_false_iff_ne]
      intro e2
      have h1 := hL.fnd hr
      have h2 := hL.fnd hq
      rw [e, e2, h1] at h2
      omega
    rw [this, Bool.or_false]
theorem ch_no {ps : List Pt} {ys : List Int} {k : Nat} {y : Int} (hy : ys[k]? = some y) (h : (decide (fndI ps y < 0) || (decide ((k : Int) > 0) && decide (y ≤ ys.getD ((k : Int) - 1).toNat 0))) = true) : chB ps ys = false := by
  rw [Bool.or_eq_true] at h
  rcases h with h | h
  · rw [fnd_no] at h; exact ch_has hy (by simpa using h)
  · refine ch_inc ?_
    rw [incB_eq]
    refine range_bad (k := k) (List.getElem?_eq_some_iff.1 hy).1 ?_
    unfold incP
    rw [getD_of hy, h]; rfl
theorem ch_yes {ps : List Pt} {ys : List Int} {k : Nat} {y : Int} (hy : ys[k]? = some y) (h : (decide (fndI ps y < 0) || (decide ((k : Int) > 0) && decide (y ≤ ys.getD ((k : Int) - 1).toNat 0))) = false) : hasI ps y = true ∧ incP ys k = true := by
  rw [Bool.or_eq_false_iff] at h
  refine ⟨by have h1 := h.1; rw [fnd_no] at h1; simpa using h1, ?_⟩
  unfold incP
  rw [getD_of hy, h.2]; rfl
theorem ch_end {ps : List Pt} {ys : List Int} (h : (List.range ys.length).all (incP ys) = true) (h2 : ys.all (hasI ps) = true) : chB ps ys = true := ch_all (by rw [incB_eq]; exact h) h2
/-- What is chosen, and what such patches stand on. -/
def cloP (ps : List Pt) (f : Pt → Bool) (q : Pt) : Bool := f q || ps.any fun p => f p && onF ps p.id q.id
def clK (ps : List Pt) (f : Pt → Bool) (k : Nat) (q : Pt) : Bool := f q || (ps.take k).any fun p => f p && onF ps p.id q.id
def clJ (ps : List Pt) (f : Pt → Bool) (k : Nat) (p : Pt) (j : Nat) (i : Nat) (q : Pt) : Bool := clK ps f k q || (decide (i < j) && (f p && onF ps p.id q.id))
theorem cl_start {ps : List Pt} {f : Pt → Bool} {row : List Bool} (h : RowP ps (fun _ => f) row) : RowP ps (fun _ => clK ps f 0) row := h.congr fun j q _ => by unfold clK; simp
theorem cl_in {ps : List Pt} {f : Pt → Bool} {k : Nat} {p : Pt} {row : List Bool} (h : RowP ps (fun _ => clK ps f k) row) : RowP ps (clJ ps f k p 0) row := h.congr fun j q _ => by unfold clJ; simp
theorem cl_step {ps : List Pt} {f : Pt → Bool} {k j : Nat} {p q : Pt} {row : List Bool} {b : Bool} (hf : f p = true) (h : RowP ps (clJ ps f k p j) row) (hq : ps[j]? = some q) (hb : row[j]? = some b) : RowP ps (clJ ps f k p (j + 1)) (row.set j (b || onF ps p.id q.id)) := (h.set j _).congr fun i r hr => by
  by_cases e : i = j
  · subst e
    rw [hq] at hr; cases hr
    rw [if_pos rfl]
    have := h.2 i q hq
    rw [hb] at this
    cases this
    unfold clJ
    rw [hf]
    simp
  · rw [if_neg e]
    unfold clJ
    rw [show decide (i < j) = decide (i < j + 1) from by rw [Bool.eq_iff_iff]; simp; omega]
theorem cl_next {ps : List Pt} {f : Pt → Bool} {k j : Nat} {p : Pt} {row : List Bool} (hp : ps[k]? = some p) (h : RowP ps (clJ ps f k p j) row) (hj : f p = false ∨ ps.length ≤ j) : RowP ps (fun _ => clK ps f (k + 1)) row := h.congr fun i r hr => by
  unfold clJ clK
  rw [fold_any hp, ← Bool.or_assoc]
  congr 1
  rcases hj with hj | hj
  · rw [hj]; simp
  · have := (List.getElem?_eq_some_iff.1 hr).1
    rw [decide_eq_true (show i < j by omega), Bool.true_and]
theorem cl_out {ps : List Pt} {b : Bool} {k n : Nat} (hn : ps.length = n) (h : (decide ((k : Int) < (n : Int)) && b) = false) : b = false ∨ ps.length ≤ k := by
  cases b with
  | false => exact .inl rfl
  | true => right; rw [Bool.and_true, decide_eq_false_iff_not] at h; omega
theorem cl_end {ps : List Pt} {f : Pt → Bool} {k n : Nat} {row : List Bool} (hn : ps.length = n) (hk : n ≤ k) (h : RowP ps (fun _ => clK ps f k) row) : row = ps.map (cloP ps f) := by
  refine RowP.eq (h.congr fun j q _ => ?_)
  unfold clK cloP
  rw [List.take_of_length_le (by omega)]
def idsF (ps : List Pt) (f : Pt → Bool) : List Int := (ps.filter f).map (·.id)
theorem ids_yes {ps : List Pt} {f : Pt → Bool} {k : Nat} {p : Pt} (hp : ps[k]? = some p) (h : f p = true) : idsF (ps.take (k + 1)) f = idsF (ps.take k) f ++ [p.id] := by unfold idsF; rw [flt_yes hp h, List.map_append]; rfl
theorem ids_no {ps : List Pt} {f : Pt → Bool} {k : Nat} {p : Pt} (hp : ps[k]? = some p) (h : f p = false) : idsF (ps.take (k + 1)) f = idsF (ps.take k) f := by unfold idsF; rw [flt_no hp h]
theorem ids_clo {ps : List Pt} {ys : List Int} (hL : Lst ps) (h : chB ps ys = true) : idsF ps (cloP ps (chF ys)) = cloF ps ys := by
  have h2 := (chB_iff.1 h).2
  unfold idsF cloF
  congr 1
  refine List.filter_congr fun q hq => ?_
  unfold cloP chF
  rw [Bool.eq_iff_iff]
  simp only [Bool.or_eq_true, List.any_eq_true, Bool.and_eq_true, beq_iff_eq]
  constructor
  · rintro (⟨y, hy, e⟩ | ⟨p, hp, ⟨y, hy, e⟩, ho⟩)
    · exact ⟨y, hy, .inl e⟩
    · exact ⟨y, hy, .inr (by rw [e]; exact ho)⟩
  · rintro ⟨y, hy, e | ho⟩
    · exact .inl ⟨y, hy, e⟩
    · obtain ⟨p, hp, e⟩ := h2 y hy
      exact .inr ⟨p, hp, ⟨y, hy, e.symm⟩, by rw [e]; exact ho⟩
def SlMQ (ps : List Pt) (n : Nat) : Value → HMap → Go.Kn.Loc → Prop := fun v I' L => L = [] ∧ ∃ av c, v = .slice av n c ∧ SlM encB 1 I' av n c (ps.map (rowF ps))
end Go.Proofs.YtehkiccapbkhnaaGreat
end
section
namespace Go.Proofs.YtehkiccapbkhnaaGreat
open Go Go.Kn Go.Proofs
theorem fun_120 : Fun Tryz.prog 120 := .of Tryz.func120 (by kernel_rfl) (by kernel_rfl)
theorem fun_121 : Fun Tryz.prog 121 := .of Tryz.func121 (by kernel_rfl) (by kernel_rfl)
theorem fun_142 : Fun Tryz.prog 142 := .of Tryz.func142 (by kernel_rfl) (by kernel_rfl)
theorem fun_143 : Fun Tryz.prog 143 := .of Tryz.func143 (by kernel_rfl) (by kernel_rfl)
theorem fun_144 : Fun Tryz.prog 144 := .of Tryz.func144 (by kernel_rfl) (by kernel_rfl)
theorem r_vld {I : HMap} (p : Pt) (hN : Nd I p) (hpn : p.n ≤ 100000) : RetV Tryz.prog 120 [encPA p] I (.bool (vldB p)) := by
 intro g H w hw
 refine enter Tryz.func120 rfl Tryz.ntmps120 rfl hw ?_
 have hN : Sl I 1 encI p.a p.n p.c p.needs := hN
 refine zR ?_
 refine XO_box rfl rfl rfl (fun b_1 => ?_)
 refine zA ?_
 refine zN ?_
 refine X_seq ?_
 refine zR ?_
 refine XO_v0 (ev_fieldAddr rfl fld_65_0) rfl rfl rfl ?_
 refine XO_v0 (ev_load rfl sct_3 (fun hg => by first | exact Sl.get0 hN hx rfl | exact Sl.get0 (k := ((k : Int) - 1).toNat) hN (some_getD (d := 0) hN.len (by simp [conj] at hg; omega)) rfl | (repeat (first | exact Cell.here rfl | apply Cell.there | apply Cell.app)))) rfl rfl rfl ?_
 refine zC ?_
 refine zM ?_
 refine XO_pushF 3 rfl rfl rfl ?_
 refine XO_v1 (ev_fieldAddr rfl fld_65_0) (.some rfl rfl rfl rfl gbf) rfl rfl rfl ?_
 refine XO_v1 (ev_load rfl sct_3 (fun hg => by first | exact Sl.get0 hN hx rfl | exact Sl.get0 (k := ((k : Int) - 1).toNat) hN (some_getD (d := 0) hN.len (by simp [conj] at hg; omega)) rfl | (repeat (first | exact Cell.here rfl | apply Cell.there | apply Cell.app)))) (.some rfl rfl rfl rfl gbf) rfl rfl rfl ?_
 refine XO_v1 (ev_cmp rfl rfl rfl) (.some rfl rfl rfl rfl gbf) rfl rfl rfl ?_
 refine XO_or0 rfl rfl rfl rfl rfl ?_
 refine zM ?_
 refine XO_pushF 8 rfl rfl rfl ?_
 refine XO_v1 (ev_fieldAddr rfl fld_65_2) (.some rfl rfl rfl rfl gbf) rfl rfl rfl ?_
 refine XO_v1 (ev_load rfl sct_3 (fun hg => by first | exact Sl.get0 hN hx rfl | exact Sl.get0 (k := ((k : Int) - 1).toNat) hN (some_getD (d := 0) hN.len (by simp [conj] at hg; omega)) rfl | (repeat (first | exact Cell.here rfl | apply Cell.there | apply Cell.app)))) (.some rfl rfl rfl rfl gbf) rfl rfl rfl ?_
 refine XO_v1 (ev_cmp rfl rfl rfl) (.some rfl rfl rfl rfl gbf) rfl rfl rfl ?_
 refine XO_or0 rfl rfl rfl rfl rfl ?_
 refine zM ?_
 refine XO_pushF 13 rfl rfl rfl ?_
 refine XO_v1 (ev_fieldAddr rfl fld_65_2) (.some rfl rfl rfl rfl gbf) rfl rfl rfl ?_
 refine XO_v1 (ev_load rfl sct_3 (fun hg => by first | exact Sl.get0 hN hx rfl | exact Sl.get0 (k := ((k : Int) - 1).toNat) hN (some_getD (d := 0) hN.len (by simp [conj] at hg; omega)) rfl | (repeat (first | exact Cell.here rfl | apply Cell.there | apply Cell.app)))) (.some rfl rfl rfl rfl gbf) rfl rfl rfl ?_
 refine XO_v1 (ev_cmp rfl rfl rfl) (.some rfl rfl rfl rfl gbf) rfl rfl rfl ?_
 refine XO_or0 rfl rfl rfl rfl rfl ?_
 refine zN ?_
 refine X_cond rfl (fun hc21 => ?_) (fun hc21 => ?_)
 ·
  have hi : idB p = false := by have h := hc21; rw [idB_no] at h; simpa using h
  refine zR ?_
  refine zA ?_
  refine zN ?_
  refine X_ret ?_
  refine at_then_r ?_
  exact at_ret1 rfl rfl (fun w hw => ⟨by rw [vld_id hi], hw.drop⟩)
 have hi : idB p = true := by have h := hc21; rw [idB_no] at h; simpa using h
 refine X_skip ?_
 refine at_then ?_
 refine X_seq ?_
 refine zR ?_
 refine zA ?_
 refine zN ?_
 refine X_block ?_
 refine X_loopT [(1, _)] (.cons rfl .nil) (fun T L0 mz E I' loc' => ∃ (k : Nat), mz = p.n - k ∧ E = (3, .int .i64 k) :: T ∧ I = I' ∧ L0 = loc' ∧ k ≤ p.n ∧ (List.range k).all (ndP p.id p.needs) = true) _ _ _ _ ⟨0, rfl, rfl, rfl, rfl, Nat.zero_le _, rfl⟩ (.cons rfl (.cons rfl .nil)) (HLe.refl _) rfl ?_
 rintro mz E I' loc' ⟨k, rfl, rfl, rfl, rfl, hk, hall⟩
 refine X_seq ?_
 refine zR ?_
 refine zM ?_
 refine XO_v0 (ev_fieldAddr rfl fld_65_5) rfl rfl rfl ?_
 refine XO_v0 (ev_load rfl sct_23 (fun hg => by first | exact Sl.get0 hN hx rfl | exact Sl.get0 (k := ((k : Int) - 1).toNat) hN (some_getD (d := 0) hN.len (by simp [conj] at hg; omega)) rfl | (repeat (first | exact Cell.here rfl | apply Cell.there | apply Cell.app)))) rfl rfl rfl ?_
 refine XO_v0 (ev_lenS rfl slt_23) rfl rfl rfl ?_
 refine zC ?_
 refine zN ?_
 refine X_cond rfl (fun hc26 => ?_) (fun hc26 => ?_)
 ·
  have hlt_k : k < p.n := by have h := hc26; simp at h; omega
  obtain ⟨x, hx⟩ := hN.at hlt_k
  refine X_skip ?_
  refine at_then ?_
  refine X_seq ?_
  refine X_block ?_
  refine X_seq ?_
  refine X_draw mixed (by kernel_rfl) ?_
  refine XQ_v0 (ev_fieldAddr rfl fld_65_5) rfl rfl rfl ?_
  refine XQ_v0 (ev_load rfl sct_23 (fun hg => by first | exact Sl.get0 hN hx rfl | exact Sl.get0 (k := ((k : Int) - 1).toNat) hN (some_getD (d := 0) hN.len (by simp [conj] at hg; omega)) rfl | (repeat (first | exact Cell.here rfl | apply Cell.there | apply Cell.app)))) rfl rfl rfl ?_
  refine XQ_v0 (ev_move rfl) rfl rfl rfl ?_
  refine XQ_v0 (ev_indexSl rfl rfl slt_23 (by assumption) (fun hg => by first | omega | (simp [conj] at hg; omega))) rfl rfl rfl ?_
  refine XQ_v0 (ev_load rfl sct_3 (fun hg => by first | exact Sl.get0 hN hx rfl | exact Sl.get0 (k := ((k : Int) - 1).toNat) hN (some_getD (d := 0) hN.len (by simp [conj] at hg; omega)) rfl | (repeat (first | exact Cell.here rfl | apply Cell.there | apply Cell.app)))) rfl rfl rfl ?_
  refine XQ_v0 (ev_cmp rfl rfl rfl) rfl rfl rfl ?_
  refine XQ_v0 (ev_move rfl) rfl rfl rfl ?_
  refine XQ_pushF 6 rfl rfl rfl ?_
  refine XQ_v1 (ev_fieldAddr rfl fld_65_5) (.some rfl rfl rfl rfl gbf) rfl rfl rfl ?_
  refine XQ_v1 (ev_load rfl sct_23 (fun hg => by first | exact Sl.get0 hN hx rfl | exact Sl.get0 (k := ((k : Int) - 1).toNat) hN (some_getD (d := 0) hN.len (by simp [conj] at hg; omega)) rfl | (repeat (first | exact Cell.here rfl | apply Cell.there | apply Cell.app)))) (.some rfl rfl rfl rfl gbf) rfl rfl rfl ?_
  refine XQ_v1 (ev_move rfl) (.some rfl rfl rfl rfl gbf) rfl rfl rfl ?_
  refine XQ_v1 (ev_indexSl rfl rfl slt_23 (by assumption) (fun hg => by first | omega | (simp [conj] at hg; omega))) (.some rfl rfl rfl rfl gbf) rfl rfl rfl ?_
  refine XQ_v1 (ev_load rfl sct_3 (fun hg => by first | exact Sl.get0 hN hx rfl | exact Sl.get0 (k := ((k : Int) - 1).toNat) hN (some_getD (d := 0) hN.len (by simp [conj] at hg; omega)) rfl | (repeat (first | exact Cell.here rfl | apply Cell.there | apply Cell.app)))) (.some rfl rfl rfl rfl gbf) rfl rfl rfl ?_
  refine XQ_v1 (ev_fieldAddr rfl fld_65_0) (.some rfl rfl rfl rfl gbf) rfl rfl rfl ?_
  refine XQ_v1 (ev_load rfl sct_3 (fun hg => by first | exact Sl.get0 hN hx rfl | exact Sl.get0 (k := ((k : Int) - 1).toNat) hN (some_getD (d := 0) hN.len (by simp [conj] at hg; omega)) rfl | (repeat (first | exact Cell.here rfl | apply Cell.there | apply Cell.app)))) (.some rfl rfl rfl rfl gbf) rfl rfl rfl ?_
  refine XQ_v1 (ev_cmp rfl rfl rfl) (.some rfl rfl rfl rfl gbf) rfl rfl rfl ?_
  refine XQ_or0 rfl rfl rfl rfl rfl ?_
  refine XQ_v0 (ev_move rfl) rfl rfl rfl ?_
  refine XQ_pushF 16 rfl rfl rfl ?_
  refine XQ_v1 (ev_move rfl) (.some rfl rfl rfl rfl gbf) rfl rfl rfl ?_
  refine XQ_v1 (ev_cmp rfl rfl rfl) (.some rfl rfl rfl rfl gbf) rfl rfl rfl ?_
  refine XQ_v1 (ev_move rfl) (.some rfl rfl rfl rfl gbf) rfl rfl rfl ?_
  refine XQ_pushT 19 rfl rfl rfl ?_
  refine XQ_v1 (ev_fieldAddr rfl fld_65_5) (.some rfl rfl rfl rfl gbt) rfl rfl rfl ?_
  refine XQ_v1 (ev_load rfl sct_23 (fun hg => by first | exact Sl.get0 hN hx rfl | exact Sl.get0 (k := ((k : Int) - 1).toNat) hN (some_getD (d := 0) hN.len (by simp [conj] at hg; omega)) rfl | (repeat (first | exact Cell.here rfl | apply Cell.there | apply Cell.app)))) (.some rfl rfl rfl rfl gbt) rfl rfl rfl ?_
  refine XQ_v1 (ev_move rfl) (.some rfl rfl rfl rfl gbt) rfl rfl rfl ?_
  refine XQ_v1 (ev_indexSl rfl rfl slt_23 (by assumption) (fun hg => by first | omega | (simp [conj] at hg; omega))) (.some rfl rfl rfl rfl gbt) rfl rfl rfl ?_
  refine XQ_v1 (ev_load rfl sct_3 (fun hg => by first | exact Sl.get0 hN hx rfl | exact Sl.get0 (k := ((k : Int) - 1).toNat) hN (some_getD (d := 0) hN.len (by simp [conj] at hg; omega)) rfl | (repeat (first | exact Cell.here rfl | apply Cell.there | apply Cell.app)))) (.some rfl rfl rfl rfl gbt) rfl rfl rfl ?_
  refine XQ_v1 (ev_fieldAddr rfl fld_65_5) (.some rfl rfl rfl rfl gbt) rfl rfl rfl ?_
  refine XQ_v1 (ev_load rfl sct_23 (fun hg => by first | exact Sl.get0 hN hx rfl | exact Sl.get0 (k := ((k : Int) - 1).toNat) hN (some_getD (d := 0) hN.len (by simp [conj] at hg; omega)) rfl | (repeat (first | exact Cell.here rfl | apply Cell.there | apply Cell.app)))) (.some rfl rfl rfl rfl gbt) rfl rfl rfl ?_
  refine XQ_v1 (ev_move rfl) (.some rfl rfl rfl rfl gbt) rfl rfl rfl ?_
  refine XQ_v1 (ev_arB rfl rfl rfl (fun hg => by first | omega | (simp [conj] at hg; omega))) (.some rfl rfl rfl rfl gbt) rfl rfl rfl ?_
  refine XQ_v1 (ev_indexSl rfl rfl slt_23 (by assumption) (fun hg => by first | omega | (simp [conj] at hg; omega))) (.some rfl rfl rfl rfl gbt) rfl rfl rfl ?_
  refine XQ_v1 (ev_load rfl sct_3 (fun hg => by first | exact Sl.get0 hN hx rfl | exact Sl.get0 (k := ((k : Int) - 1).toNat) hN (some_getD (d := 0) hN.len (by simp [conj] at hg; omega)) rfl | (repeat (first | exact Cell.here rfl | apply Cell.there | apply Cell.app)))) (.some rfl rfl rfl rfl gbt) rfl rfl rfl ?_
  refine XQ_v1 (ev_cmp rfl rfl rfl) (.some rfl rfl rfl rfl gbt) rfl rfl rfl ?_
  refine XQ_and1 rfl rfl rfl (.some rfl rfl rfl rfl gbf) rfl rfl ?_
  refine XQ_or0 rfl rfl rfl rfl rfl ?_
  refine XQ_nil ?_
  refine at_then ?_
  refine X_cond rfl (fun hc62 => ?_) (fun hc62 => ?_)
  ·
   have hnd : ndB p.id p.needs = false := by unfold ndB; exact range_bad (k := k) (by rw [hN.len]; exact hlt_k) (by rw [ndR_at hx, hc62]; rfl)
   refine zR ?_
   refine zA ?_
   refine zN ?_
   refine X_ret ?_
   refine at_block_r ?_
   refine at_then_r ?_
   refine at_then_r ?_
   refine at_block_r ?_
   refine at_then_r ?_
   exact at_ret1 rfl rfl (fun w hw => ⟨by rw [vld_nd hnd], hw.drop⟩)
  refine X_skip ?_
  refine at_block_n ?_
  refine at_then ?_
  refine X_region ?_
  refine zM ?_
  refine zB ?_
  refine zA ?_
  refine XO_nil ?_
  exact at_met2 _ _ ⟨p.n - (k + 1), by omega, k + 1, rfl, rfl, rfl, rfl, by omega, range_step hall (by rw [ndR_at hx, hc62]; rfl)⟩ (.cons rfl (.cons rfl .nil)) (by repeat (first | exact .refl | exact subL_left | refine subL_app ?_ | refine .drop ?_ | refine subL_add ?_))
 have hge_k : p.n ≤ k := by have h := hc26; simp at h; omega
 have hnd : ndB p.id p.needs = true := by unfold ndB; rw [hN.len, show p.n = k by omega]; exact hall
 refine X_exit ?_
 refine at_then_e ?_
 refine at_then_e ?_
 refine at_block_hit ?_
 refine at_then ?_
 refine X_seq ?_
 refine zR ?_
 refine XO_v0 (ev_fieldAddr rfl fld_65_1) rfl rfl rfl ?_
 refine XO_v0 (ev_load rfl sct_3 (fun hg => by first | exact Sl.get0 hN hx rfl | exact Sl.get0 (k := ((k : Int) - 1).toNat) hN (some_getD (d := 0) hN.len (by simp [conj] at hg; omega)) rfl | (repeat (first | exact Cell.here rfl | apply Cell.there | apply Cell.app)))) rfl rfl rfl ?_
 refine zN ?_
 refine X_block ?_
 refine zR ?_
 refine zC ?_
 refine zA ?_
 refine zN ?_
 refine X_cond rfl (fun hc65 => ?_) (fun hc65 => ?_)
 ·
  have hk : p.kind = 1 := by simpa using hc65
  refine X_seq ?_
  refine zR ?_
  refine XO_v0 (ev_fieldAddr rfl fld_65_3) rfl rfl rfl ?_
  refine XO_v0 (ev_load rfl sct_3 (fun hg => by first | exact Sl.get0 hN hx rfl | exact Sl.get0 (k := ((k : Int) - 1).toNat) hN (some_getD (d := 0) hN.len (by simp [conj] at hg; omega)) rfl | (repeat (first | exact Cell.here rfl | apply Cell.there | apply Cell.app)))) rfl rfl rfl ?_
  refine zC ?_
  refine zM ?_
  refine XO_pushF 3 rfl rfl rfl ?_
  refine XO_v1 (ev_fieldAddr rfl fld_65_3) (.some rfl rfl rfl rfl gbf) rfl rfl rfl ?_
  refine XO_v1 (ev_load rfl sct_3 (fun hg => by first | exact Sl.get0 hN hx rfl | exact Sl.get0 (k := ((k : Int) - 1).toNat) hN (some_getD (d := 0) hN.len (by simp [conj] at hg; omega)) rfl | (repeat (first | exact Cell.here rfl | apply Cell.there | apply Cell.app)))) (.some rfl rfl rfl rfl gbf) rfl rfl rfl ?_
  refine XO_v1 (ev_cmp rfl rfl rfl) (.some rfl rfl rfl rfl gbf) rfl rfl rfl ?_
  refine XO_or0 rfl rfl rfl rfl rfl ?_
  refine zN ?_
  refine X_cond rfl (fun hc74 => ?_) (fun hc74 => ?_)
  ·
   refine zR ?_
   refine zA ?_
   refine zN ?_
   refine X_ret ?_
   refine at_then_r ?_
   refine at_block_r ?_
   refine at_then_r ?_
   exact at_ret1 rfl rfl (fun w hw => ⟨by rw [vld_k hi hnd, knd_0 hk hc74], hw.drop⟩)
  refine X_skip ?_
  refine at_then ?_
  refine X_seq ?_
  refine X_draw mixed (by kernel_rfl) ?_
  refine XQ_v0 (ev_buildL (ps := []) [_, _, _, _, _, _, _, _, _, _, _, _, _, _] plt_63 rfl rfl) rfl rfl rfl ?_
  refine XQ_v0 (ev_fieldAddr rfl fld_65_3) rfl rfl rfl ?_
  refine XQ_v0 (ev_load rfl sct_3 (fun hg => by first | exact Sl.get0 hN hx rfl | exact Sl.get0 (k := ((k : Int) - 1).toNat) hN (some_getD (d := 0) hN.len (by simp [conj] at hg; omega)) rfl | (repeat (first | exact Cell.here rfl | apply Cell.there | apply Cell.app)))) rfl rfl rfl ?_
  refine XQ_v0 (ev_fieldAddr rfl fld_65_4) rfl rfl rfl ?_
  refine XQ_v0 (ev_loadA rfl agt_63 (fun hg => by first | (repeat (first | exact Cells.here | exact Cells.s0 (vs := [_, _, _, _, _, _, _, _, _, _, _, _, _, _]) rfl | apply Cells.there | apply Cells.app))) rfl) rfl rfl rfl ?_
  refine XQ_callV0 (cap := []) (vs := [_, _, _]) rfl rfl fun_142 (r_set I zeroG p.field p.nw) rfl rfl ?_
  refine XQ_v0 (ev_fieldAddr rfl fld_65_4) rfl rfl rfl ?_
  refine XQ_v0 (ev_loadA rfl agt_63 (fun hg => by first | (repeat (first | exact Cells.here | exact Cells.s0 (vs := [_, _, _, _, _, _, _, _, _, _, _, _, _, _]) rfl | apply Cells.there | apply Cells.app))) rfl) rfl rfl rfl ?_
  refine XQ_v0 (ev_eqS2 rfl rfl eqt2_63 rfl) rfl rfl rfl ?_
  refine XQ_v0 (ev_move rfl) rfl rfl rfl ?_
  refine XQ_pushT 9 rfl rfl rfl ?_
  refine XQ_callV1 (cap := []) (vs := []) rfl rfl fun_144 (fun hg => r_plain I) (.some rfl rfl rfl rfl gbt) rfl rfl ?_
  refine XQ_v1 (ev_fieldAddr rfl fld_65_3) (.some rfl rfl rfl rfl gbt) rfl rfl rfl ?_
  refine XQ_v1 (ev_load rfl sct_3 (fun hg => by first | exact Sl.get0 hN hx rfl | exact Sl.get0 (k := ((k : Int) - 1).toNat) hN (some_getD (d := 0) hN.len (by simp [conj] at hg; omega)) rfl | (repeat (first | exact Cell.here rfl | apply Cell.there | apply Cell.app)))) (.some rfl rfl rfl rfl gbt) rfl rfl rfl ?_
  refine XQ_v1 (ev_fieldAddr rfl fld_65_4) (.some rfl rfl rfl rfl gbt) rfl rfl rfl ?_
  refine XQ_v1 (ev_loadA rfl agt_63 (fun hg => by first | (repeat (first | exact Cells.here | exact Cells.s0 (vs := [_, _, _, _, _, _, _, _, _, _, _, _, _, _]) rfl | apply Cells.there | apply Cells.app))) rfl) (.some rfl rfl rfl rfl gbt) rfl rfl rfl ?_
  refine XQ_callV1 (cap := []) (vs := [_, _, _]) rfl rfl fun_142 (fun hg => r_set I plainR p.field p.nw) (.some rfl rfl rfl rfl gbt) rfl rfl ?_
  refine XQ_callV1 (cap := []) (vs := [_]) rfl rfl fun_143 (fun hg => r_form I _) (.some rfl rfl rfl rfl gbt) rfl rfl ?_
  refine XQ_and0 rfl rfl rfl rfl rfl ?_
  refine XQ_v0 (ev_assign rfl) rfl rfl rfl ?_
  refine XQ_nil ?_
  refine at_then ?_
  refine X_ret ?_
  refine at_block_r ?_
  refine at_then_r ?_
  first
  | exact at_ret1 rfl rfl (fun w hw => ⟨by rw [vld_k hi hnd, ← knd_set hk hc74]; rfl, hw.drop⟩)
 have hk1 : p.kind ≠ 1 := by simpa using hc65
 refine zR ?_
 refine zC ?_
 refine zA ?_
 refine zN ?_
 refine X_cond rfl (fun hc93 => ?_) (fun hc93 => ?_)
 ·
  have hk : p.kind = 2 := by simpa using hc93
  refine zR ?_
  refine XO_v0 (ev_fieldAddr rfl fld_65_3) rfl rfl rfl ?_
  refine XO_v0 (ev_load rfl sct_3 (fun hg => by first | exact Sl.get0 hN hx rfl | exact Sl.get0 (k := ((k : Int) - 1).toNat) hN (some_getD (d := 0) hN.len (by simp [conj] at hg; omega)) rfl | (repeat (first | exact Cell.here rfl | apply Cell.there | apply Cell.app)))) rfl rfl rfl ?_
  refine zC ?_
  refine zM ?_
  refine XO_pushT 3 rfl rfl rfl ?_
  refine XO_v1 (ev_fieldAddr rfl fld_65_4) (.some rfl rfl rfl rfl gbt) rfl rfl rfl ?_
  refine XO_v1 (ev_fieldAddr rfl fld_63_0) (.some rfl rfl rfl rfl gbt) rfl rfl rfl ?_
  refine XO_v1 (ev_load rfl sct_3 (fun hg => by first | exact Sl.get0 hN hx rfl | exact Sl.get0 (k := ((k : Int) - 1).toNat) hN (some_getD (d := 0) hN.len (by simp [conj] at hg; omega)) rfl | (repeat (first | exact Cell.here rfl | apply Cell.there | apply Cell.app)))) (.some rfl rfl rfl rfl gbt) rfl rfl rfl ?_
  refine XO_v1 (ev_fieldAddr rfl fld_65_2) (.some rfl rfl rfl rfl gbt) rfl rfl rfl ?_
  refine XO_v1 (ev_load rfl sct_3 (fun hg => by first | exact Sl.get0 hN hx rfl | exact Sl.get0 (k := ((k : Int) - 1).toNat) hN (some_getD (d := 0) hN.len (by simp [conj] at hg; omega)) rfl | (repeat (first | exact Cell.here rfl | apply Cell.there | apply Cell.app)))) (.some rfl rfl rfl rfl gbt) rfl rfl rfl ?_
  refine XO_v1 (ev_cmp rfl rfl rfl) (.some rfl rfl rfl rfl gbt) rfl rfl rfl ?_
  refine XO_and0 rfl rfl rfl rfl rfl ?_
  refine zM ?_
  refine XO_pushT 11 rfl rfl rfl ?_
  refine XO_v1 (ev_fieldAddr rfl fld_65_4) (.some rfl rfl rfl rfl gbt) rfl rfl rfl ?_
  refine XO_v1 (ev_loadA rfl agt_63 (fun hg => by first | (repeat (first | exact Cells.here | exact Cells.s0 (vs := [_, _, _, _, _, _, _, _, _, _, _, _, _, _]) rfl | apply Cells.there | apply Cells.app))) rfl) (.some rfl rfl rfl rfl gbt) rfl rfl rfl ?_
  refine XO_callV1 (cap := []) (vs := [_]) rfl rfl fun_143 (fun hg => r_form I _) (.some rfl rfl rfl rfl gbt) rfl rfl ?_
  refine XO_and0 rfl rfl rfl rfl rfl ?_
  refine zA ?_
  refine zN ?_
  refine X_ret ?_
  refine at_block_r ?_
  refine at_then_r ?_
  exact at_ret1 rfl rfl (fun w hw => ⟨by rw [vld_k hi hnd, knd_2 hk, ← Bool.and_assoc], hw.drop⟩)
 have hk2 : p.kind ≠ 2 := by simpa using hc93
 refine zR ?_
 refine zC ?_
 refine zA ?_
 refine zN ?_
 refine X_cond rfl (fun hc111 => ?_) (fun hc111 => ?_)
 ·
  have hk : p.kind = 3 := by simpa using hc111
  refine zR ?_
  refine XO_v0 (ev_fieldAddr rfl fld_65_3) rfl rfl rfl ?_
  refine XO_v0 (ev_load rfl sct_3 (fun hg => by first | exact Sl.get0 hN hx rfl | exact Sl.get0 (k := ((k : Int) - 1).toNat) hN (some_getD (d := 0) hN.len (by simp [conj] at hg; omega)) rfl | (repeat (first | exact Cell.here rfl | apply Cell.there | apply Cell.app)))) rfl rfl rfl ?_
  refine zC ?_
  refine zM ?_
  refine XO_pushT 3 rfl rfl rfl ?_
  refine XO_v1 (ev_fieldAddr rfl fld_65_4) (.some rfl rfl rfl rfl gbt) rfl rfl rfl ?_
  refine XO_v1 (ev_loadA rfl agt_63 (fun hg => by first | (repeat (first | exact Cells.here | exact Cells.s0 (vs := [_, _, _, _, _, _, _, _, _, _, _, _, _, _]) rfl | apply Cells.there | apply Cells.app))) rfl) (.some rfl rfl rfl rfl gbt) rfl rfl rfl ?_
  refine XO_v1 (ev_buildL (ps := []) [_, _, _, _, _, _, _, _, _, _, _, _, _, _] plt_63 rfl rfl) (.some rfl rfl rfl rfl gbt) rfl rfl rfl ?_
  refine XO_v1 (ev_eqS2 rfl rfl eqt2_63 rfl) (.some rfl rfl rfl rfl gbt) rfl rfl rfl ?_
  refine XO_and0 rfl rfl rfl rfl rfl ?_
  refine zA ?_
  refine zN ?_
  refine X_ret ?_
  refine at_block_r ?_
  refine at_then_r ?_
  first
  | exact at_ret1 rfl rfl (fun w hw => ⟨by rw [vld_k hi hnd, knd_3 hk]; rfl, hw.drop⟩)
 have hk3 : p.kind ≠ 3 := by simpa using hc111
 refine X_skip ?_
 refine at_block_n ?_
 refine at_then ?_
 refine zR ?_
 refine zA ?_
 refine zN ?_
 refine X_ret ?_
 first
 | exact at_ret1 rfl rfl (fun w hw => ⟨by rw [vld_k hi hnd]; unfold kndB; rw [if_neg hk1, if_neg hk2, if_neg hk3], hw.drop⟩)
theorem r_pchk {I : HMap} (p : Pt) (hN : Nd I p) : RetV Tryz.prog 82 [encPA p] I (.int .i64 (pchk p)) := by
 intro g H w hw
 refine enter Tryz.func82 rfl Tryz.ntmps82 rfl hw ?_
 refine zR ?_
 refine XO_box rfl rfl rfl (fun b_1 => ?_)
 refine zA ?_
 refine zN ?_
 refine X_seq ?_
 refine zR ?_
 refine XO_v0 (ev_fieldAddr rfl fld_65_5) rfl rfl rfl ?_
 refine zL sct_23 ?_
 refine XO_v0 (ev_lenS rfl slt_23) rfl rfl rfl ?_
 refine zC ?_
 refine zN ?_
 refine X_cond rfl (fun hc7 => ?_) (fun hc7 => ?_)
 ·
  have hlen : p.needs.length > 32 := by rw [(show Sl _ 1 encI p.a p.n p.c p.needs from hN).len]; simp at hc7; omega
  refine zR ?_
  refine zA ?_
  refine zN ?_
  refine X_ret ?_
  refine at_then_r ?_
  exact at_ret1 rfl rfl (fun w hw => ⟨by rw [pchk_1 hlen], hw.drop⟩)
 have hlen : ¬ p.needs.length > 32 := by rw [(show Sl _ 1 encI p.a p.n p.c p.needs from hN).len]; simp at hc7; omega
 refine X_skip ?_
 refine at_then ?_
 refine zR ?_
 refine XO_v0 (ev_loadA rfl agt_65 (fun hg => by first | (repeat (first | exact Cells.here | exact Cells.s0 (vs := [_, _, _, _, _, _, _, _, _, _, _, _, _, _, _, _, _, _, _]) rfl | apply Cells.there | apply Cells.app))) rfl) rfl rfl rfl ?_
 refine XO_callV0 (cap := []) (vs := [_]) rfl rfl fun_120 (r_vld p hN (by have := (show Sl _ 1 encI p.a p.n p.c p.needs from hN).len; omega)) rfl rfl ?_
 refine zA ?_
 refine zN ?_
 refine X_seq ?_
 refine zR ?_
 refine zM ?_
 refine XO_v0 (ev_not rfl) rfl rfl rfl ?_
 refine zN ?_
 refine X_cond rfl (fun hc11 => ?_) (fun hc11 => ?_)
 ·
  refine zR ?_
  refine zA ?_
  refine zN ?_
  refine X_ret ?_
  refine at_then_r ?_
  exact at_ret1 rfl rfl (fun w hw => ⟨by rw [← vld_chk hlen, if_neg (by simpa using hc11)], hw.drop⟩)
 refine X_skip ?_
 refine at_then ?_
 refine zR ?_
 refine zA ?_
 refine zN ?_
 refine X_ret ?_
 exact at_ret1 rfl rfl (fun w hw => ⟨by rw [← vld_chk hlen, if_pos (by simpa using hc11)], hw.drop⟩)
theorem r_find {I : HMap} {av : Option Addr} {n c : Nat} {ps : List Pt} (hP : SlP I av n c ps) (hn : n ≤ 100000) (t : Int) : RetV Tryz.prog 121 [.slice av n c, .int .i64 t] I (.int .i64 (fndI ps t)) := by
 intro g H w hw
 refine enter Tryz.func121 rfl Tryz.ntmps121 rfl hw ?_
 refine zR ?_
 refine zA ?_
 refine zN ?_
 refine X_seq ?_
 refine zR ?_
 refine zA ?_
 refine zN ?_
 refine X_block ?_
 refine X_loopT [(0, _), (1, _)] (.cons rfl (.cons rfl .nil)) (fun T L0 mz E I' loc' => ∃ (k : Nat), mz = n - k ∧ E = (5, .int .i64 k) :: T ∧ I = I' ∧ L0 = loc' ∧ k ≤ n ∧ (ps.take k).any (idP t) = false) _ _ _ _ ⟨0, rfl, rfl, rfl, rfl, Nat.zero_le _, by simp⟩ (.cons rfl (.cons rfl (.cons rfl .nil))) (HLe.refl _) rfl ?_
 rintro mz E I' loc' ⟨k, rfl, rfl, rfl, rfl, hk, hno⟩
 refine X_seq ?_
 refine zR ?_
 refine zM ?_
 refine zM ?_
 refine XO_v0 (ev_lenS rfl slt_22) rfl rfl rfl ?_
 refine zC ?_
 refine zN ?_
 refine X_cond rfl (fun hc9 => ?_) (fun hc9 => ?_)
 ·
  have hlt_k : k < n := by have h := hc9; simp at h; omega
  have hP1 := hP.1
  obtain ⟨p, hp⟩ := hP1.at hlt_k
  refine X_skip ?_
  refine at_then ?_
  refine X_seq ?_
  refine X_block ?_
  refine zR ?_
  refine zM ?_
  refine zM ?_
  refine XO_v0 (ev_indexSl rfl rfl slt_22 (by assumption) (fun hg => by first | omega | (simp [conj] at hg; omega))) rfl rfl rfl ?_
  refine XO_v0 (ev_fieldAddr rfl fld_65_0) rfl rfl rfl ?_
  refine XO_v0 (ev_load rfl sct_3 (fun hg => by first | exact Sl.get hP1 hp rfl | (repeat (first | exact Cell.here rfl | apply Cell.there | apply Cell.app)))) rfl rfl rfl ?_
  refine zM ?_
  refine zC ?_
  refine zN ?_
  refine X_cond rfl (fun hc18 => ?_) (fun hc18 => ?_)
  ·
   refine zR ?_
   refine zM ?_
   refine zA ?_
   refine zN ?_
   refine X_ret ?_
   refine at_block_r ?_
   refine at_then_r ?_
   refine at_then_r ?_
   refine at_block_r ?_
   refine at_then_r ?_
   first
   | exact at_ret1 rfl rfl (fun w hw => ⟨by unfold fndI; rw [idx_hit hno hp hc18], hw.drop⟩)
  refine X_skip ?_
  refine at_block_n ?_
  refine at_then ?_
  refine X_region ?_
  refine zM ?_
  refine XO_v0 (ev_arB rfl rfl rfl (fun _ => by omega)) rfl rfl rfl ?_
  refine zA ?_
  refine XO_nil ?_
  exact at_met2 _ _ ⟨n - (k + 1), by omega, k + 1, rfl, rfl, rfl, rfl, by omega, any_no hp hno hc18⟩ (.cons rfl (.cons rfl (.cons rfl .nil))) (by repeat (first | exact .refl | exact subL_left | refine subL_app ?_ | refine .drop ?_ | refine subL_add ?_))
 have hge_k : n ≤ k := by have h := hc9; simp at h; omega
 refine X_exit ?_
 refine at_then_e ?_
 refine at_then_e ?_
 refine at_block_hit ?_
 refine at_then ?_
 refine zR ?_
 refine zA ?_
 refine zN ?_
 refine X_ret ?_
 first
 | exact at_ret1 rfl rfl (fun w hw => ⟨by unfold fndI; rw [idx_none hP.len hge_k hno], hw.drop⟩)
theorem r_tog (I : HMap) (p q : Pt) (on : Bool) : RetV Tryz.prog 85 [encPA p, encPA q, .bool on] I (.bool (togB p q on)) := by
 intro g H w hw
 refine enter Tryz.func85 rfl Tryz.ntmps85 rfl hw ?_
 refine zR ?_
 refine XO_box rfl rfl rfl (fun b_3 => ?_)
 refine XO_box rfl rfl rfl (fun b_4 => ?_)
 refine zA ?_
 refine zN ?_
 refine X_seq ?_
 refine zR ?_
 refine XO_v0 (ev_fieldAddr rfl fld_65_2) rfl rfl rfl ?_
 refine zL sct_3 ?_
 refine XO_v0 (ev_fieldAddr rfl fld_65_2) rfl rfl rfl ?_
 refine zL sct_3 ?_
 refine zC ?_
 refine zN ?_
 refine X_cond rfl (fun hc11 => ?_) (fun hc11 => ?_)
 ·
  have h1 : p.sign ≠ q.sign := by simpa using hc11
  refine zR ?_
  refine zA ?_
  refine zN ?_
  refine X_ret ?_
  refine at_then_r ?_
  first
  | exact at_ret1 rfl rfl (fun w hw => ⟨by unfold togB; rw [if_pos h1], hw.drop⟩)
 have h1 : ¬ p.sign ≠ q.sign := by simpa using hc11
 refine X_skip ?_
 refine at_then ?_
 refine X_seq ?_
 refine zR ?_
 refine XO_v0 (ev_fieldAddr rfl fld_65_1) rfl rfl rfl ?_
 refine zL sct_3 ?_
 refine zN ?_
 refine X_block ?_
 refine zR ?_
 refine zC ?_
 refine zA ?_
 refine zN ?_
 refine X_cond rfl (fun hc14 => ?_) (fun hc14 => ?_)
 ·
  have h2 : q.kind = 2 := by simpa using hc14
  refine zR ?_
  refine XO_v0 (ev_fieldAddr rfl fld_65_1) rfl rfl rfl ?_
  refine zL sct_3 ?_
  refine zC ?_
  refine zM ?_
  refine XO_pushT 3 rfl rfl rfl ?_
  refine XO_v1 (ev_move rfl) (.some rfl rfl rfl rfl gbt) rfl rfl rfl ?_
  refine XO_and0 rfl rfl rfl rfl rfl ?_
  refine zA ?_
  refine zN ?_
  refine X_ret ?_
  refine at_block_r ?_
  refine at_then_r ?_
  first
  | exact at_ret1 rfl rfl (fun w hw => ⟨by unfold togB; rw [if_neg h1, if_pos h2], hw.drop⟩)
 have h2 : ¬ q.kind = 2 := by simpa using hc14
 refine zR ?_
 refine zC ?_
 refine zA ?_
 refine zN ?_
 refine X_cond rfl (fun hc22 => ?_) (fun hc22 => ?_)
 ·
  have h3 : q.kind = 3 := by simpa using hc22
  refine zR ?_
  refine zM ?_
  refine XO_v0 (ev_not rfl) rfl rfl rfl ?_
  refine zA ?_
  refine zN ?_
  refine X_ret ?_
  refine at_block_r ?_
  refine at_then_r ?_
  first
  | exact at_ret1 rfl rfl (fun w hw => ⟨by unfold togB; rw [if_neg h1, if_neg h2, if_pos h3], hw.drop⟩)
 have h3 : ¬ q.kind = 3 := by simpa using hc22
 refine X_skip ?_
 refine at_block_n ?_
 refine at_then ?_
 refine zR ?_
 refine zA ?_
 refine zN ?_
 refine X_ret ?_
 first
 | exact at_ret1 rfl rfl (fun w hw => ⟨by unfold togB; rw [if_neg h1, if_neg h2, if_neg h3], hw.drop⟩)
theorem r_list {I : HMap} {av : Option Addr} {n c : Nat} {ps : List Pt} (hP : SlP I av n c ps) (hn : n ≤ 100000) (hnd : ∀ p ∈ ps, p.n ≤ 100000) : RetV Tryz.prog 83 [.slice av n c] I (.bool (lsB ps)) := by
 intro g H w hw
 refine enter Tryz.func83 rfl Tryz.ntmps83 rfl hw ?_
 refine zR ?_
 refine zA ?_
 refine zN ?_
 refine X_seq ?_
 refine zR ?_
 refine zA ?_
 refine zN ?_
 refine X_block ?_
 refine X_loopT [(0, _)] (.cons rfl .nil) (fun T L0 mz E I' loc' => ∃ (k : Nat), mz = n - k ∧ E = (3, .int .i64 k) :: T ∧ I = I' ∧ L0 = loc' ∧ k ≤ n ∧ (List.range k).all (lsP ps) = true) _ _ _ _ ⟨0, rfl, rfl, rfl, rfl, Nat.zero_le _, rfl⟩ (.cons rfl (.cons rfl .nil)) (HLe.refl _) rfl ?_
 rintro mz E I' loc' ⟨k, rfl, rfl, rfl, rfl, hk, hall⟩
 refine X_seq ?_
 refine zR ?_
 refine zM ?_
 refine zM ?_
 refine XO_v0 (ev_lenS rfl slt_22) rfl rfl rfl ?_
 refine zC ?_
 refine zN ?_
 refine X_cond rfl (fun hc8 => ?_) (fun hc8 => ?_)
 ·
  have hlt_k : k < n := by have h := hc8; simp at h; omega
  have hP1 := hP.1
  obtain ⟨p, hp, hN⟩ := hP.at hlt_k
  have hpm := List.mem_of_getElem? hp
  have hN : Sl I 1 encI p.a p.n p.c p.needs := hN
  have hpn := hnd p hpm
  refine X_skip ?_
  refine at_then ?_
  refine X_seq ?_
  refine X_block ?_
  refine X_seq ?_
  refine X_seq ?_
  refine X_draw mixed (by kernel_rfl) ?_
  refine XQ_v0 (ev_move rfl) rfl rfl rfl ?_
  refine XQ_v0 (ev_cmp rfl rfl rfl) rfl rfl rfl ?_
  refine XQ_v0 (ev_move rfl) rfl rfl rfl ?_
  refine XQ_pushT 2 rfl rfl rfl ?_
  refine XQ_v1 (ev_move rfl) (.some rfl rfl rfl rfl gbt) rfl rfl rfl ?_
  refine XQ_v1 (ev_move rfl) (.some rfl rfl rfl rfl gbt) rfl rfl rfl ?_
  refine XQ_v1 (ev_indexSl rfl rfl slt_22 (by assumption) (fun hg => by first | omega | (simp [conj] at hg; omega))) (.some rfl rfl rfl rfl gbt) rfl rfl rfl ?_
  refine XQ_v1 (ev_fieldAddr rfl fld_65_0) (.some rfl rfl rfl rfl gbt) rfl rfl rfl ?_
  refine XQ_v1 (ev_load rfl sct_3 (fun hg => by first | exact Sl.get hP1 hp rfl | exact Sl.get (k := ((k : Int) - 1).toNat) hP1 (some_getD (d := zeroP) hP.len (by simp [conj] at hg; omega)) rfl | exact Sl.get0 hN hy rfl | (repeat (first | exact Cell.here rfl | apply Cell.there | apply Cell.app)))) (.some rfl rfl rfl rfl gbt) rfl rfl rfl ?_
  refine XQ_v1 (ev_move rfl) (.some rfl rfl rfl rfl gbt) rfl rfl rfl ?_
  refine XQ_v1 (ev_move rfl) (.some rfl rfl rfl rfl gbt) rfl rfl rfl ?_
  refine XQ_v1 (ev_arB rfl rfl rfl (fun hg => by first | omega | (simp [conj] at hg; omega))) (.some rfl rfl rfl rfl gbt) rfl rfl rfl ?_
  refine XQ_v1 (ev_indexSl rfl rfl slt_22 (by assumption) (fun hg => by first | omega | (simp [conj] at hg; omega))) (.some rfl rfl rfl rfl gbt) rfl rfl rfl ?_
  refine XQ_v1 (ev_fieldAddr rfl fld_65_0) (.some rfl rfl rfl rfl gbt) rfl rfl rfl ?_
  refine XQ_v1 (ev_load rfl sct_3 (fun hg => by first | exact Sl.get hP1 hp rfl | exact Sl.get (k := ((k : Int) - 1).toNat) hP1 (some_getD (d := zeroP) hP.len (by simp [conj] at hg; omega)) rfl | exact Sl.get0 hN hy rfl | (repeat (first | exact Cell.here rfl | apply Cell.there | apply Cell.app)))) (.some rfl rfl rfl rfl gbt) rfl rfl rfl ?_
  refine XQ_v1 (ev_cmp rfl rfl rfl) (.some rfl rfl rfl rfl gbt) rfl rfl rfl ?_
  refine XQ_and0 rfl rfl rfl rfl rfl ?_
  refine XQ_nil ?_
  refine at_then ?_
  refine X_cond rfl (fun hc26 => ?_) (fun hc26 => ?_)
  ·
   refine zR ?_
   refine zA ?_
   refine zN ?_
   refine X_ret ?_
   refine at_then_r ?_
   refine at_block_r ?_
   refine at_then_r ?_
   refine at_then_r ?_
   refine at_block_r ?_
   refine at_then_r ?_
   first
   | exact at_ret1 rfl rfl (fun w hw => ⟨by unfold lsB; rw [range_bad (k := k) (by rw [hP.len]; exact hlt_k) (by rw [lsP_at hp]; exact lsR_1 hc26)], hw.drop⟩)
  refine X_skip ?_
  refine at_then ?_
  refine zR ?_
  refine zA ?_
  refine zN ?_
  refine X_block ?_
  refine X_loopT [(0, _), (3, _)] (.cons rfl (.cons rfl .nil)) (fun T L0 mz E I' loc' => ∃ (j : Nat), mz = p.n - j ∧ E = (4, .int .i64 j) :: T ∧ I = I' ∧ L0 = loc' ∧ j ≤ p.n ∧ (p.needs.take j).any (fun n => !hasI ps n) = false) _ _ _ _ ⟨0, rfl, rfl, rfl, rfl, Nat.zero_le _, by simp⟩ (.cons rfl (.cons rfl (.cons rfl .nil))) (HLe.refl _) rfl ?_
  rintro mz E I' loc' ⟨j, rfl, rfl, rfl, rfl, hj, hno⟩
  refine X_seq ?_
  refine zR ?_
  refine zM ?_
  refine zM ?_
  refine zM ?_
  refine XO_v0 (ev_indexSl rfl rfl slt_22 (by assumption) (fun hg => by first | omega | (simp [conj] at hg; omega))) rfl rfl rfl ?_
  refine XO_v0 (ev_fieldAddr rfl fld_65_5) rfl rfl rfl ?_
  refine XO_v0 (ev_load rfl sct_23 (fun hg => by first | exact Sl.get hP1 hp rfl | exact Sl.get (k := ((k : Int) - 1).toNat) hP1 (some_getD (d := zeroP) hP.len (by simp [conj] at hg; omega)) rfl | exact Sl.get0 hN hy rfl | (repeat (first | exact Cell.here rfl | apply Cell.there | apply Cell.app)))) rfl rfl rfl ?_
  refine XO_v0 (ev_lenS rfl slt_23) rfl rfl rfl ?_
  refine zC ?_
  refine zN ?_
  refine X_cond rfl (fun hc34 => ?_) (fun hc34 => ?_)
  ·
   have hlt_j : j < p.n := by have h := hc34; simp at h; omega
   obtain ⟨y, hy⟩ := hN.at hlt_j
   refine X_skip ?_
   refine at_then ?_
   refine X_seq ?_
   refine X_block ?_
   refine zR ?_
   refine zM ?_
   refine zM ?_
   refine zM ?_
   refine XO_v0 (ev_indexSl rfl rfl slt_22 (by assumption) (fun hg => by first | omega | (simp [conj] at hg; omega))) rfl rfl rfl ?_
   refine XO_v0 (ev_fieldAddr rfl fld_65_5) rfl rfl rfl ?_
   refine XO_v0 (ev_load rfl sct_23 (fun hg => by first | exact Sl.get hP1 hp rfl | exact Sl.get (k := ((k : Int) - 1).toNat) hP1 (some_getD (d := zeroP) hP.len (by simp [conj] at hg; omega)) rfl | exact Sl.get0 hN hy rfl | (repeat (first | exact Cell.here rfl | apply Cell.there | apply Cell.app)))) rfl rfl rfl ?_
   refine zM ?_
   refine XO_v0 (ev_indexSl rfl rfl slt_23 (by assumption) (fun hg => by first | omega | (simp [conj] at hg; omega))) rfl rfl rfl ?_
   refine XO_v0 (ev_load rfl sct_3 (fun hg => by first | exact Sl.get hP1 hp rfl | exact Sl.get (k := ((k : Int) - 1).toNat) hP1 (some_getD (d := zeroP) hP.len (by simp [conj] at hg; omega)) rfl | exact Sl.get0 hN hy rfl | (repeat (first | exact Cell.here rfl | apply Cell.there | apply Cell.app)))) rfl rfl rfl ?_
   refine XO_callV0 (cap := []) (vs := [_, _]) rfl rfl fun_121 (r_find hP hn _) rfl rfl ?_
   refine zC ?_
   refine zN ?_
   refine X_cond rfl (fun hc47 => ?_) (fun hc47 => ?_)
   ·
    refine zR ?_
    refine zA ?_
    refine zN ?_
    refine X_ret ?_
    refine at_block_r ?_
    refine at_then_r ?_
    refine at_then_r ?_
    refine at_block_r ?_
    refine at_block_r ?_
    refine at_then_r ?_
    refine at_then_r ?_
    refine at_block_r ?_
    refine at_then_r ?_
    first
    | exact at_ret1 rfl rfl (fun w hw => ⟨by unfold lsB; rw [range_bad (k := k) (by rw [hP.len]; exact hlt_k) (by rw [lsP_at hp]; exact lsR_2 (any_yes hy (by rw [fnd_no] at hc47; exact hc47)))], hw.drop⟩)
   refine X_skip ?_
   refine at_block_n ?_
   refine at_then ?_
   refine X_region ?_
   refine zM ?_
   refine zB ?_
   refine zA ?_
   refine XO_nil ?_
   exact at_met2 _ _ ⟨p.n - (j + 1), by omega, j + 1, rfl, rfl, rfl, rfl, by omega, any_no hy hno (by rw [fnd_no] at hc47; exact hc47)⟩ (.cons rfl (.cons rfl (.cons rfl .nil))) (by repeat (first | exact .refl | exact subL_left | refine subL_app ?_ | refine .drop ?_ | refine subL_add ?_))
  have hge_j : p.n ≤ j := by have h := hc34; simp at h; omega
  rw [take_all hN.len hge_j] at hno
  refine X_exit ?_
  refine at_then_e ?_
  refine at_then_e ?_
  refine at_block_hit ?_
  refine at_block_n ?_
  refine at_then ?_
  refine X_region ?_
  refine zM ?_
  refine zB ?_
  refine zA ?_
  refine XO_nil ?_
  exact at_met2 _ _ ⟨n - (k + 1), by omega, k + 1, rfl, rfl, rfl, rfl, by omega, range_step hall (by rw [lsP_at hp]; exact lsR_ok hc26 hno)⟩ (.cons rfl (.cons rfl .nil)) (by repeat (first | exact .refl | exact subL_left | refine subL_app ?_ | refine .drop ?_ | refine subL_add ?_))
 have hge_k : n ≤ k := by have h := hc8; simp at h; omega
 refine X_exit ?_
 refine at_then_e ?_
 refine at_then_e ?_
 refine at_block_hit ?_
 refine at_then ?_
 refine zR ?_
 refine zA ?_
 refine zN ?_
 refine X_ret ?_
 first
 | exact at_ret1 rfl rfl (fun w hw => ⟨by unfold lsB; rw [hP.len, show n = k by omega, hall], hw.drop⟩)
end Go.Proofs.YtehkiccapbkhnaaGreat
end
section
namespace Go.Proofs.YtehkiccapbkhnaaGreat
open Go Go.Kn Go.Proofs
theorem elt_124 : ElT Tryz.prog 124 127 1 24 := .of (by kernel_rfl)
theorem mkt_127 : MkT Tryz.prog 127 4 1 (.bool false) := ⟨by kernel_rfl, by kernel_rfl, rfl⟩
theorem sct_127 : ScT Tryz.prog 127 := .of (by kernel_rfl)
theorem sct_4 : ScT Tryz.prog 4 := .of (by kernel_rfl)
theorem slt_124 : SlT Tryz.prog 124 127 1 := .of (by kernel_rfl)
theorem slt_127 : SlT Tryz.prog 127 4 1 := .of (by kernel_rfl)
theorem szt_4 : SzT Tryz.prog 4 1 := .of (by kernel_rfl)
theorem r_findAt {I : HMap} {av : Option Addr} {n c : Nat} {ps : List Pt} (hP : SlP I av n c ps) (hn : n ≤ 100000) {t : Int} {m : Nat} (h : fndI ps t = m) : RetV Tryz.prog 121 [.slice av n c, .int .i64 t] I (.int .i64 (m : Int)) := h ▸ r_find hP hn t
theorem r_stn {I : HMap} {av : Option Addr} {n c : Nat} {ps : List Pt} (hP : SlP I av n c ps) (hn : n ≤ 100000) (hL : Lst ps) (hnd : ∀ p ∈ ps, p.n ≤ 100000) : RetM Tryz.prog 84 [.slice av n c] I [] (SlMQ ps n) := by
 intro g H w hw
 refine enter Tryz.func84 rfl Tryz.ntmps84 rfl hw ?_
 have hIc := HLe.refl I
 refine zR ?_
 refine zA ?_
 refine zN (zR ?_)
 refine zA ?_
 refine zN ?_
 refine X_seq ?_
 refine zR ?_
 refine zA ?_
 refine zN ?_
 refine X_block ?_
 refine X_loopT [(0, _)] (.cons rfl .nil) (fun T L0 mz E I' loc' => ∃ (k : Nat) (v : Value) (hs : List Hd) (L : Go.Kn.Loc), mz = n - k ∧ E = (3, v) :: (4, .int .i64 k) :: T ∧ HLe I I' ∧ L = loc' ∧ k ≤ n ∧ OwnS 127 1 v k (hs.flatMap encH) L ∧ RowsQ I' ps n hs k) _ _ _ _ ⟨0, _, [], [], rfl, rfl, HLe.refl _, rfl, Nat.zero_le _, OwnS.nil, RowsQ.nil⟩ (.cons rfl (.cons rfl (.cons rfl .nil))) (HLe.refl _) rfl ?_
 rintro mz E J1 loc' ⟨k, v, hs, L, rfl, rfl, hJ, rfl, hk, hO, hq⟩
 have hP := hP.mono hJ; have hIc := hIc.trans hJ
 have hB0 := hJ
 refine X_seq ?_
 refine zR ?_
 refine zM ?_
 refine zM ?_
 refine XO_v0 (ev_lenS rfl slt_22) rfl rfl rfl ?_
 refine zC ?_
 refine zN ?_
 refine X_cond rfl (fun hc12 => ?_) (fun hc12 => ?_)
 ·
  have hlt_k : k < n := by have h := hc12; simp at h; omega
  have hP1 := hP.1
  obtain ⟨p, hp, hN⟩ := hP.at hlt_k
  have hpm := List.mem_of_getElem? hp
  have hN : Sl J1 1 encI p.a p.n p.c p.needs := hN
  have hpn := hnd p hpm
  refine X_skip ?_
  refine at_then ?_
  refine X_seq ?_
  refine X_block ?_
  refine zR ?_
  refine zM ?_
  refine XO_v0 (ev_lenS rfl slt_22) rfl rfl rfl ?_
  refine XO_makeSlice mkt_127 rfl rfl (by omega) (by decide) rfl rfl (fun b_17 => ?_)
  refine zA ?_
  refine XO_nil ?_
  have e0 : ((n : Int)).toNat = n := rfl
  rw [e0, cellsB_new]
  refine at_then ?_
  refine X_seq ?_
  refine zR ?_
  refine zA ?_
  refine zN ?_
  refine X_block ?_
  refine X_loopT [(0, _), (3, _), (4, _), (5, _)] (.cons rfl (.cons rfl (.cons rfl (.cons rfl .nil)))) (fun T L0 mz E I' loc' => ∃ (j : Nat) (row : List Bool), mz = p.n - j ∧ E = (6, .int .i64 j) :: T ∧ J1 = I' ∧ (b_17, .cells (cellsB row) 4 (0, 0)) :: L = loc' ∧ j ≤ p.n ∧ RowP ps (fun _ => preF ps p j) row) _ _ _ _ ⟨0, List.replicate n false, rfl, rfl, rfl, rfl, Nat.zero_le _, row_start hP.len⟩ (.cons rfl (.cons rfl (.cons rfl (.cons rfl (.cons rfl .nil))))) (HLe.refl _) rfl ?_
  rintro mz E I' loc' ⟨j, row, rfl, rfl, rfl, rfl, hj, hr⟩
  refine X_seq ?_
  refine zR ?_
  refine zM ?_
  refine zM ?_
  refine zM ?_
  refine XO_v0 (ev_indexSl rfl rfl slt_22 (by assumption) (fun hg => by first | omega | (simp [conj] at hg; omega))) rfl rfl rfl ?_
  refine XO_v0 (ev_fieldAddr rfl fld_65_5) rfl rfl rfl ?_
  refine XO_v0 (ev_load rfl sct_23 (fun hg => by first | exact Sl.get hP1 hp rfl | exact Sl.get0 hN hy rfl | exact cellB hbi | exact Cell.there (Cell.seg hseg rfl) | exact Sl.get0 hRow hrb rfl | (repeat (first | exact Cell.here rfl | apply Cell.there | apply Cell.app)))) rfl rfl rfl ?_
  refine XO_v0 (ev_lenS rfl slt_23) rfl rfl rfl ?_
  refine zC ?_
  refine zN ?_
  refine X_cond rfl (fun hc25 => ?_) (fun hc25 => ?_)
  ·
   have hlt_j : j < p.n := by have h := hc25; simp at h; omega
   obtain ⟨y, hy⟩ := hN.at hlt_j
   obtain ⟨m, q, hmk, hqm, hqy, hfm⟩ := hL.need_at hp (List.mem_of_getElem? hy)
   refine X_skip ?_
   refine at_then ?_
   refine X_seq ?_
   refine X_block ?_
   refine zR ?_
   refine zM ?_
   refine zM ?_
   refine zM ?_
   refine XO_v0 (ev_indexSl rfl rfl slt_22 (by assumption) (fun hg => by first | omega | (simp [conj] at hg; omega))) rfl rfl rfl ?_
   refine XO_v0 (ev_fieldAddr rfl fld_65_5) rfl rfl rfl ?_
   refine XO_v0 (ev_load rfl sct_23 (fun hg => by first | exact Sl.get hP1 hp rfl | exact Sl.get0 hN hy rfl | exact cellB hbi | exact Cell.there (Cell.seg hseg rfl) | exact Sl.get0 hRow hrb rfl | (repeat (first | exact Cell.here rfl | apply Cell.there | apply Cell.app)))) rfl rfl rfl ?_
   refine zM ?_
   refine XO_v0 (ev_indexSl rfl rfl slt_23 (by assumption) (fun hg => by first | omega | (simp [conj] at hg; omega))) rfl rfl rfl ?_
   refine XO_v0 (ev_load rfl sct_3 (fun hg => by first | exact Sl.get hP1 hp rfl | exact Sl.get0 hN hy rfl | exact cellB hbi | exact Cell.there (Cell.seg hseg rfl) | exact Sl.get0 hRow hrb rfl | (repeat (first | exact Cell.here rfl | apply Cell.there | apply Cell.app)))) rfl rfl rfl ?_
   refine XO_callV0 (cap := []) (vs := [_, _]) rfl rfl fun_121 (r_findAt hP hn hfm) rfl rfl ?_
   refine zA ?_
   refine zN (zR ?_)
   refine zM ?_
   refine zM ?_
   refine XO_v0 (ev_indexOwn rfl rfl slt_127 (fun hg => by first | omega | (simp [conj] at hg; omega))) rfl rfl rfl ?_
   refine XO_store rfl rfl szt_4 rfl rfl (by repeat (first | exact Upd.here | apply Upd.there | apply upd_app)) (bltB (by rw [hr.1, hP.len]; omega)) ?_
   refine XO_nil ?_
   rw [cellsB_set]
   refine at_then ?_
   refine X_seq ?_
   obtain ⟨hd, hhd⟩ : ∃ hd, hs[m]? = some hd := ⟨_, List.getElem?_eq_getElem (by rw [hq.1]; exact hmk)⟩
   obtain ⟨hmi2, bo, co, cur, rfl, rfl, hseg, hle, hset⟩ := hO.spot encH_len (by decide) hhd
   obtain ⟨hdn, hRow⟩ := hq.2 m hd q hhd hqm
   refine X_region ?_
   refine zA ?_
   refine zN ?_
   refine X_block ?_
   refine X_loopT [(0, _), (3, _), (4, _), (5, _), (6, _), (7, _)] (.cons rfl (.cons rfl (.cons rfl (.cons rfl (.cons rfl (.cons rfl .nil)))))) (fun T L0 mz E I' loc' => ∃ (i : Nat) (row2 : List Bool), mz = m - i ∧ E = (8, .int .i64 i) :: T ∧ J1 = I' ∧ (b_17, .cells (cellsB row2) 4 (0, 0)) :: [(bo, .cells cur.toArray 127 (0, 0))] = loc' ∧ i ≤ m ∧ RowP ps (midF ps p j y i) row2) _ _ _ _ ⟨0, row.set m true, rfl, rfl, rfl, rfl, Nat.zero_le _, row_mid hL hr hqm hqy⟩ (.cons rfl (.cons rfl (.cons rfl (.cons rfl (.cons rfl (.cons rfl (.cons rfl .nil))))))) (HLe.refl _) rfl ?_
   rintro mz E I' loc' ⟨i, row2, rfl, rfl, rfl, rfl, hi, hr2⟩
   refine X_seq ?_
   refine zR ?_
   refine zM ?_
   refine zM ?_
   refine zC ?_
   refine zN ?_
   refine X_cond rfl (fun hc43 => ?_) (fun hc43 => ?_)
   ·
    have hlt_i : i < m := by have h := hc43; simp at h; omega
    obtain ⟨qi, hqi⟩ := hP.1.at (show i < n by omega)
    have hbi := hr2.2 i qi hqi
    have hrb : (rowF ps q)[i]? = some (onF ps y qi.id) := by rw [← hqy]; simp [rowF, hqi]
    refine X_skip ?_
    refine at_then ?_
    refine X_seq ?_
    refine X_block ?_
    refine X_region ?_
    refine zM ?_
    refine zM ?_
    refine zM ?_
    refine zM ?_
    refine XO_v0 (ev_indexOwn rfl rfl slt_127 (fun hg => by first | omega | (simp [conj] at hg; omega))) rfl rfl rfl ?_
    refine XO_v0 (ev_load rfl sct_4 (fun hg => by first | exact Sl.get hP1 hp rfl | exact Sl.get0 hN hy rfl | exact cellB hbi | exact Cell.there (Cell.seg hseg rfl) | exact Sl.get0 hRow hrb rfl | (repeat (first | exact Cell.here rfl | apply Cell.there | apply Cell.app)))) rfl rfl rfl ?_
    refine zM ?_
    refine XO_pushF 6 rfl rfl rfl ?_
    refine XO_v1 (ev_move rfl) (.some rfl rfl rfl rfl gbf) rfl rfl rfl ?_
    refine XO_v1 (ev_move rfl) (.some rfl rfl rfl rfl gbf) rfl rfl rfl ?_
    refine XO_v1 (ev_indexOwn rfl rfl slt_124 (fun hg => by first | omega | (simp [conj] at hg; omega))) (.some rfl rfl rfl rfl gbf) rfl rfl rfl ?_
    refine XO_v1 (ev_load rfl sct_127 (fun hg => by first | exact Sl.get hP1 hp rfl | exact Sl.get0 hN hy rfl | exact cellB hbi | exact Cell.there (Cell.seg hseg rfl) | exact Sl.get0 hRow hrb rfl | (repeat (first | exact Cell.here rfl | apply Cell.there | apply Cell.app)))) (.some rfl rfl rfl rfl gbf) rfl rfl rfl ?_
    refine XO_v1 (ev_move rfl) (.some rfl rfl rfl rfl gbf) rfl rfl rfl ?_
    refine XO_v1 (ev_indexSl rfl rfl slt_127 hRow (fun hg => by first | omega | (simp [conj] at hg; omega))) (.some rfl rfl rfl rfl gbf) rfl rfl rfl ?_
    refine XO_v1 (ev_load rfl sct_4 (fun hg => by first | exact Sl.get hP1 hp rfl | exact Sl.get0 hN hy rfl | exact cellB hbi | exact Cell.there (Cell.seg hseg rfl) | exact Sl.get0 hRow hrb rfl | (repeat (first | exact Cell.here rfl | apply Cell.there | apply Cell.app)))) (.some rfl rfl rfl rfl gbf) rfl rfl rfl ?_
    refine XO_or0 rfl rfl rfl rfl rfl ?_
    refine XO_v0 (ev_indexOwn rfl rfl slt_127 (fun hg => by first | omega | (simp [conj] at hg; omega))) rfl rfl rfl ?_
    refine XO_store rfl rfl szt_4 rfl rfl (by repeat (first | exact Upd.here | apply Upd.there | apply upd_app)) (bltB (by rw [hr2.1, hP.len]; omega)) ?_
    refine XO_nil ?_
    rw [cellsB_set]
    refine at_block_n ?_
    refine at_then ?_
    refine X_region ?_
    refine zM ?_
    refine XO_v0 (ev_arB rfl rfl rfl (fun _ => by omega)) rfl rfl rfl ?_
    refine zA ?_
    refine XO_nil ?_
    exact at_met2 _ _ ⟨m - (i + 1), by omega, i + 1, _, rfl, rfl, rfl, rfl, by omega, row_step hr2 hqi hbi⟩ (.cons rfl (.cons rfl (.cons rfl (.cons rfl (.cons rfl (.cons rfl (.cons rfl .nil))))))) (by repeat (first | exact .refl | exact subL_left | refine subL_app ?_ | refine .drop ?_ | refine subL_add ?_))
   have hge_i : m ≤ i := by have h := hc43; simp at h; omega
   have him : i = m := by omega
   subst him
   refine X_exit ?_
   refine at_then_e ?_
   refine at_then_e ?_
   refine at_block_hit ?_
   refine at_block_n ?_
   refine at_then ?_
   refine X_region ?_
   refine zM ?_
   refine XO_v0 (ev_arB rfl rfl rfl (fun _ => by omega)) rfl rfl rfl ?_
   refine zA ?_
   refine XO_nil ?_
   exact at_met2 _ _ ⟨p.n - (j + 1), by omega, j + 1, _, rfl, rfl, rfl, rfl, by omega, row_next hL hy hqm hqy hr2⟩ (.cons rfl (.cons rfl (.cons rfl (.cons rfl (.cons rfl .nil))))) (by repeat (first | exact .refl | exact subL_left | refine subL_app ?_ | refine .drop ?_ | refine subL_add ?_))
  have hge_j : p.n ≤ j := by have h := hc25; simp at h; omega
  have hj : j = p.needs.length := by rw [hN.len]; omega
  subst hj
  have hrd := row_done hL hpm hr
  subst hrd
  refine X_exit ?_
  refine at_then_e ?_
  refine at_then_e ?_
  refine at_block_hit ?_
  refine at_then ?_
  refine X_freeze .here (fun I4 hI4 hb4 => ?_)
  have hP := hP.mono hI4; have hq := hq.mono hI4; have hIc := hIc.trans hI4; have hB0 := hB0.trans hI4
  have hbR := hb4
  have hrow : Sl I4 1 encB (some ⟨b_17, 0, none⟩) n n (rowF ps p) := Sl.lit _ (by simp [rowF, hP.len]) encB_len hbR
  refine X_region ?_
  refine zM ?_
  refine zM ?_
  refine XO_buildSlice (ps := [(0, _)]) (m := [encH ⟨some ⟨b_17, 0, none⟩, n, n⟩]) elt_124 rfl (.cons rfl (.nil)) rfl (by simp [encH_len]) (by decide) (by decide) rfl rfl (fun b_64 => ?_)
  refine XO_append (v := _) (ys := [(⟨some ⟨b_17, 0, none⟩, n, n⟩ : Hd)].flatMap encH) (L := L) rfl rfl elt_124 hO (by repeat (first | exact .cons .here .nil | exact split_all | exact split_app | apply split_cons | apply split_skip)) ⟨rfl, fun _ => rfl, Cells.here⟩ (one_H _) (by omega) rfl rfl ?_
  intro v9 L9 hO9 _; rw [← List.flatMap_append] at hO9
  refine zA ?_
  refine XO_nil ?_
  refine at_block_n ?_
  refine at_then ?_
  refine X_region ?_
  refine zM ?_
  refine XO_v0 (ev_arB rfl rfl rfl (fun _ => by omega)) rfl rfl rfl ?_
  refine zA ?_
  refine XO_nil ?_
  exact at_met2 _ _ ⟨n - (k + 1), by omega, k + 1, _, _, _, rfl, rfl, hB0, rfl, by omega, hO9, hq.snoc hp hrow⟩ (.cons rfl (.cons rfl (.cons rfl .nil))) (by repeat (first | exact .refl | exact subL_left | refine subL_app ?_ | refine .drop ?_ | refine subL_add ?_))
 have hge_k : n ≤ k := by have h := hc12; simp at h; omega
 have hkn : k = n := by omega
 subst hkn
 refine X_exit ?_
 refine at_then_e ?_
 refine at_then_e ?_
 refine at_block_hit ?_
 refine at_then ?_
 refine zR ?_
 refine zM ?_
 refine zA ?_
 refine zN ?_
 refine X_ret ?_
 exact at_ret1 rfl rfl (fun w hw => by obtain ⟨I9, h91, h92, h93⟩ := OwnS.res hO encH_len (by decide) hw; obtain ⟨_, a9, c9, e9, h94⟩ := h93; rw [hq.1] at e9 h94; exact ⟨_, I9, [], rfl, hIc.trans h91, h92, rfl, a9, c9, e9, (hq.mono h91).slm hP.len h94⟩)
end Go.Proofs.YtehkiccapbkhnaaGreat
end
section
namespace Go.Proofs.YtehkiccapbkhnaaGreat
open Go Go.Kn Go.Proofs
theorem elt_127 : ElT Tryz.prog 127 4 1 1 := .of (by kernel_rfl)
theorem fun_82 : Fun Tryz.prog 82 := .of Tryz.func82 (by kernel_rfl) (by kernel_rfl)
theorem fun_83 : Fun Tryz.prog 83 := .of Tryz.func83 (by kernel_rfl) (by kernel_rfl)
theorem fun_84 : Fun Tryz.prog 84 := .of Tryz.func84 (by kernel_rfl) (by kernel_rfl)
theorem fun_85 : Fun Tryz.prog 85 := .of Tryz.func85 (by kernel_rfl) (by kernel_rfl)
theorem tog_i {p q : Pt} {i k : Nat} {b : Bool} {ps : List Pt} (_hp : ps[i]? = some p) (hq : ps[k]? = some q) (hp : ps[i]? = some p) (h : (((i : Int) != (k : Int)) && !togB p q b) = false) : (p.id == q.id || togB p q b) = true := by
 by_cases e : i = k
 ·
  subst e; rw [hp] at hq; cases hq; simp
 have : ((i : Int) != (k : Int)) = true := by rw [bne_iff_ne]; omega
 rw [this, Bool.true_and] at h
 simp at h; simp [h]
theorem tog_n {p q : Pt} {i k : Nat} {b : Bool} {ps : List Pt} (hL : Lst ps) (hp : ps[i]? = some p) (hq : ps[k]? = some q) (h : (((i : Int) != (k : Int)) && !togB p q b) = true) : (p.id == q.id || togB p q b) = false := by
 rw [Bool.and_eq_true] at h
 have h1 : i ≠ k := by have := h.1; rw [bne_iff_ne] at this; omega
 have h2 : togB p q b = false := by simpa using h.2
 rw [h2, Bool.or_false, beq_eq_false_iff_ne]
 intro e
 have e1 := hL.fnd hp
 have e2 := hL.fnd hq
 rw [e, e2] at e1
 omega
theorem r_chkR {I : HMap} {av : Option Addr} {n c : Nat} {ps : List Pt} (hP : SlP I av n c ps) (hn : n ≤ 100000) : RetV Tryz.prog 48 [.slice av n c] I (.int .i64 (chkR ps)) := by
 intro g H w hw
 refine enter Tryz.func48 rfl Tryz.ntmps48 rfl hw ?_
 have hIc := HLe.refl I
 refine zR ?_
 refine zA ?_
 refine zN ?_
 refine X_seq ?_
 refine zR ?_
 refine zM ?_
 refine XO_v0 (ev_lenS rfl slt_22) rfl rfl rfl ?_
 refine zC ?_
 refine zN ?_
 refine X_cond rfl (fun hc10 => ?_) (fun hc10 => ?_)
 ·
  have hlen : ps.length > 512 := by rw [hP.len]; simp at hc10; omega
  refine zR ?_
  refine zA ?_
  refine zN ?_
  refine X_ret ?_
  refine at_then_r ?_
  exact at_ret1 rfl rfl (fun w hw => ⟨by rw [chkR_1 hlen], (hw.mono hIc).drop⟩)
 have hlen : ¬ ps.length > 512 := by rw [hP.len]; simp at hc10; omega
 refine X_skip ?_
 refine at_then ?_
 refine X_seq ?_
 refine zR ?_
 refine zA ?_
 refine zN ?_
 refine X_block ?_
 refine X_loopT [(0, _)] (.cons rfl .nil) (fun T L0 mz E I' loc' => ∃ (k : Nat), mz = n - k ∧ E = (3, .int .i64 k) :: T ∧ I = I' ∧ L0 = loc' ∧ k ≤ n ∧ orF ((ps.take k).map pchk) = 0) _ _ _ _ ⟨0, rfl, rfl, rfl, rfl, Nat.zero_le _, rfl⟩ (.cons rfl (.cons rfl .nil)) (HLe.refl _) rfl ?_
 rintro mz E I' loc' ⟨k, rfl, rfl, rfl, rfl, hk, h0⟩
 refine X_seq ?_
 refine zR ?_
 refine zM ?_
 refine zM ?_
 refine XO_v0 (ev_lenS rfl slt_22) rfl rfl rfl ?_
 refine zC ?_
 refine zN ?_
 refine X_cond rfl (fun hc14 => ?_) (fun hc14 => ?_)
 ·
  have hlt_k : k < n := by have h := hc14; simp at h; omega
  have hP1 := hP.1
  obtain ⟨p, hp, hN⟩ := hP.at hlt_k
  refine X_skip ?_
  refine at_then ?_
  refine X_seq ?_
  refine X_block ?_
  refine zR ?_
  refine zM ?_
  refine zM ?_
  refine XO_v0 (ev_indexSl rfl rfl slt_22 (by assumption) (fun hg => by first | omega | (simp [conj] at hg; omega))) rfl rfl rfl ?_
  refine XO_v0 (ev_loadA rfl agt_65 (fun hg => by first | exact Sl.getA hP1 hp | exact Sl.getA hP.1 hp | exact Sl.getA hP.1 hq | (repeat (first | exact Cells.here | exact Cells.s0 (vs := [_, _, _, _, _, _, _, _, _, _, _, _, _, _, _, _, _, _, _]) rfl | apply Cells.there | apply Cells.app))) rfl) rfl rfl rfl ?_
  refine XO_callV0 (cap := []) (vs := [_]) rfl rfl fun_82 (r_pchk p hN) rfl rfl ?_
  refine zA ?_
  refine zN (zR ?_)
  refine zM ?_
  refine zC ?_
  refine zN ?_
  refine X_cond rfl (fun hc23 => ?_) (fun hc23 => ?_)
  ·
   have hbad : chkR ps = pchk p := chkR_2 hlen hp h0 (by simpa using hc23)
   refine zR ?_
   refine zM ?_
   refine zA ?_
   refine zN ?_
   refine X_ret ?_
   refine at_block_r ?_
   refine at_then_r ?_
   refine at_then_r ?_
   refine at_block_r ?_
   refine at_then_r ?_
   exact at_ret1 rfl rfl (fun w hw => ⟨by rw [hbad], (hw.mono hIc).drop⟩)
  have hpk : pchk p = 0 := by simpa using hc23
  refine X_skip ?_
  refine at_block_n ?_
  refine at_then ?_
  refine X_region ?_
  refine zM ?_
  refine XO_v0 (ev_arB rfl rfl rfl (fun _ => by omega)) rfl rfl rfl ?_
  refine zA ?_
  refine XO_nil ?_
  exact at_met2 _ _ ⟨n - (k + 1), by omega, k + 1, rfl, rfl, rfl, rfl, by omega, or_snoc hp h0 hpk⟩ (.cons rfl (.cons rfl .nil)) (by repeat (first | exact .refl | exact subL_left | refine subL_app ?_ | refine .drop ?_ | refine subL_add ?_))
 have hge_k : n ≤ k := by have h := hc14; simp at h; omega
 have h0 : orF (ps.map pchk) = 0 := by rw [take_all hP.len hge_k] at h0; exact h0
 have hz : ∀ p ∈ ps, pchk p = 0 := fun p hp => orF_zero.1 h0 _ (List.mem_map.2 ⟨p, hp, rfl⟩)
 have hnd := nd_of hP hz
 refine X_exit ?_
 refine at_then_e ?_
 refine at_then_e ?_
 refine at_block_hit ?_
 refine at_then ?_
 refine X_seq ?_
 refine zR ?_
 refine zM ?_
 refine XO_callV0 (cap := []) (vs := [_]) rfl rfl fun_83 (r_list hP hn hnd) rfl rfl ?_
 refine XO_v0 (ev_not rfl) rfl rfl rfl ?_
 refine zN ?_
 refine X_cond rfl (fun hc27 => ?_) (fun hc27 => ?_)
 ·
  have hls : lsB ps = false := by simpa using hc27
  refine zR ?_
  refine zA ?_
  refine zN ?_
  refine X_ret ?_
  refine at_then_r ?_
  exact at_ret1 rfl rfl (fun w hw => ⟨by rw [chkR_3 hlen h0 hls], (hw.mono hIc).drop⟩)
 have hls : lsB ps = true := by simpa using hc27
 have hL : Lst ps := ls_lst h0 hls
 refine X_skip ?_
 refine at_then ?_
 refine zR ?_
 refine zM ?_
 refine XO_callM (cap := []) (vs := [_]) rfl rfl fun_84 .nil (r_stn hP hn hL hnd) rfl rfl ?_
 rintro vv2 I2 L2 hI2 ⟨rfl, ao, co, rfl, hM⟩
 have hP := hP.mono hI2; have hIc := hIc.trans hI2
 refine zA ?_
 refine zN ?_
 refine X_seq ?_
 refine zR ?_
 refine zA ?_
 refine zN ?_
 refine X_block ?_
 refine X_loopT [(0, _), (5, _)] (.cons rfl (.cons rfl .nil)) (fun T L0 mz E I' loc' => ∃ (i : Nat), mz = n - i ∧ E = (6, .int .i64 i) :: T ∧ I2 = I' ∧ L0 = loc' ∧ i ≤ n ∧ ((ps.take i).all fun p => ps.all fun q => (p.id == q.id || togB p q (onF ps p.id q.id))) = true) _ _ _ _ ⟨0, rfl, rfl, rfl, rfl, Nat.zero_le _, by simp⟩ (.cons rfl (.cons rfl (.cons rfl .nil))) (HLe.refl _) rfl ?_
 rintro mz E I' loc' ⟨i, rfl, rfl, rfl, rfl, hi, htg⟩
 refine X_seq ?_
 refine zR ?_
 refine zM ?_
 refine zM ?_
 refine XO_v0 (ev_lenS rfl slt_22) rfl rfl rfl ?_
 refine zC ?_
 refine zN ?_
 refine X_cond rfl (fun hc33 => ?_) (fun hc33 => ?_)
 ·
  have hlt_i : i < n := by have h := hc33; simp at h; omega
  obtain ⟨p, hp⟩ := hP.1.at hlt_i
  obtain ⟨hs, hd, r, hH, hhd, hrr, hRow⟩ := hM.at hlt_i
  have hr : r = rowF ps p := by rw [List.getElem?_map, hp] at hrr; exact (Option.some.inj hrr).symm
  subst hr
  have hdn : n = hd.n := by rw [← hRow.len, ← hP.len]; simp [rowF]
  refine X_skip ?_
  refine at_then ?_
  refine X_seq ?_
  refine X_block ?_
  refine zR ?_
  refine zA ?_
  refine zN ?_
  refine X_block ?_
  refine X_loopT [(0, _), (5, _), (6, _)] (.cons rfl (.cons rfl (.cons rfl .nil))) (fun T L0 mz E I' loc' => ∃ (k : Nat), mz = n - k ∧ E = (7, .int .i64 k) :: T ∧ I2 = I' ∧ L0 = loc' ∧ k ≤ n ∧ ((ps.take k).all fun q => (p.id == q.id || togB p q (onF ps p.id q.id))) = true) _ _ _ _ ⟨0, rfl, rfl, rfl, rfl, Nat.zero_le _, by simp⟩ (.cons rfl (.cons rfl (.cons rfl (.cons rfl .nil)))) (HLe.refl _) rfl ?_
  rintro mz E I' loc' ⟨k, rfl, rfl, rfl, rfl, hk, hq0⟩
  refine X_seq ?_
  refine zR ?_
  refine zM ?_
  refine zM ?_
  refine XO_v0 (ev_lenS rfl slt_22) rfl rfl rfl ?_
  refine zC ?_
  refine zN ?_
  refine X_cond rfl (fun hc39 => ?_) (fun hc39 => ?_)
  ·
   have hlt_k : k < n := by have h := hc39; simp at h; omega
   obtain ⟨q, hq⟩ := hP.1.at hlt_k
   have hb : (rowF ps p)[k]? = some (onF ps p.id q.id) := by simp [rowF, hq]
   refine X_skip ?_
   refine at_then ?_
   refine X_seq ?_
   refine X_block ?_
   refine X_seq ?_
   refine X_draw mixed (by kernel_rfl) ?_
   refine XQ_v0 (ev_move rfl) rfl rfl rfl ?_
   refine XQ_v0 (ev_move rfl) rfl rfl rfl ?_
   refine XQ_v0 (ev_cmp rfl rfl rfl) rfl rfl rfl ?_
   refine XQ_v0 (ev_move rfl) rfl rfl rfl ?_
   refine XQ_pushT 3 rfl rfl rfl ?_
   refine XQ_v1 (ev_move rfl) (.some rfl rfl rfl rfl gbt) rfl rfl rfl ?_
   refine XQ_v1 (ev_move rfl) (.some rfl rfl rfl rfl gbt) rfl rfl rfl ?_
   refine XQ_v1 (ev_indexSl rfl rfl slt_22 hP.1 (fun hg => by first | omega | (simp [conj] at hg; omega))) (.some rfl rfl rfl rfl gbt) rfl rfl rfl ?_
   refine XQ_v1 (ev_loadA rfl agt_65 (fun hg => by first | exact Sl.getA hP1 hp | exact Sl.getA hP.1 hp | exact Sl.getA hP.1 hq | (repeat (first | exact Cells.here | exact Cells.s0 (vs := [_, _, _, _, _, _, _, _, _, _, _, _, _, _, _, _, _, _, _]) rfl | apply Cells.there | apply Cells.app))) rfl) (.some rfl rfl rfl rfl gbt) rfl rfl rfl ?_
   refine XQ_v1 (ev_move rfl) (.some rfl rfl rfl rfl gbt) rfl rfl rfl ?_
   refine XQ_v1 (ev_move rfl) (.some rfl rfl rfl rfl gbt) rfl rfl rfl ?_
   refine XQ_v1 (ev_indexSl rfl rfl slt_22 hP.1 (fun hg => by first | omega | (simp [conj] at hg; omega))) (.some rfl rfl rfl rfl gbt) rfl rfl rfl ?_
   refine XQ_v1 (ev_loadA rfl agt_65 (fun hg => by first | exact Sl.getA hP1 hp | exact Sl.getA hP.1 hp | exact Sl.getA hP.1 hq | (repeat (first | exact Cells.here | exact Cells.s0 (vs := [_, _, _, _, _, _, _, _, _, _, _, _, _, _, _, _, _, _, _]) rfl | apply Cells.there | apply Cells.app))) rfl) (.some rfl rfl rfl rfl gbt) rfl rfl rfl ?_
   refine XQ_v1 (ev_move rfl) (.some rfl rfl rfl rfl gbt) rfl rfl rfl ?_
   refine XQ_v1 (ev_move rfl) (.some rfl rfl rfl rfl gbt) rfl rfl rfl ?_
   refine XQ_v1 (ev_indexSl rfl rfl slt_124 hH (fun hg => by first | omega | (simp [conj] at hg; omega))) (.some rfl rfl rfl rfl gbt) rfl rfl rfl ?_
   refine XQ_v1 (ev_load rfl sct_127 (fun hg => by first | exact Sl.get0 hH hhd rfl | exact Sl.get0 hRow hb rfl | (repeat (first | exact Cell.here rfl | apply Cell.there | apply Cell.app)))) (.some rfl rfl rfl rfl gbt) rfl rfl rfl ?_
   refine XQ_v1 (ev_move rfl) (.some rfl rfl rfl rfl gbt) rfl rfl rfl ?_
   refine XQ_v1 (ev_indexSl rfl rfl slt_127 hRow (fun hg => by first | omega | (simp [conj] at hg; omega))) (.some rfl rfl rfl rfl gbt) rfl rfl rfl ?_
   refine XQ_v1 (ev_load rfl sct_4 (fun hg => by first | exact Sl.get0 hH hhd rfl | exact Sl.get0 hRow hb rfl | (repeat (first | exact Cell.here rfl | apply Cell.there | apply Cell.app)))) (.some rfl rfl rfl rfl gbt) rfl rfl rfl ?_
   refine XQ_callV1 (cap := []) (vs := [_, _, _]) rfl rfl fun_85 (fun hg => r_tog _ p q (onF ps p.id q.id)) (.some rfl rfl rfl rfl gbt) rfl rfl ?_
   refine XQ_v1 (ev_not rfl) (.some rfl rfl rfl rfl gbt) rfl rfl rfl ?_
   refine XQ_and0 rfl rfl rfl rfl rfl ?_
   refine XQ_nil ?_
   refine at_then ?_
   refine X_cond rfl (fun hc63 => ?_) (fun hc63 => ?_)
   ·
    refine zR ?_
    refine zA ?_
    refine zN ?_
    refine X_ret ?_
    refine at_block_r ?_
    refine at_then_r ?_
    refine at_then_r ?_
    refine at_block_r ?_
    refine at_block_r ?_
    refine at_then_r ?_
    refine at_then_r ?_
    refine at_block_r ?_
    refine at_then_r ?_
    exact at_ret1 rfl rfl (fun w hw => ⟨by rw [chkR_4 hlen h0 hls (togA_one hp (all_no hq (tog_n hL hp hq hc63)))], (hw.mono hIc).drop⟩)
   refine X_skip ?_
   refine at_block_n ?_
   refine at_then ?_
   refine X_region ?_
   refine zM ?_
   refine XO_v0 (ev_arB rfl rfl rfl (fun _ => by omega)) rfl rfl rfl ?_
   refine zA ?_
   refine XO_nil ?_
   exact at_met2 _ _ ⟨n - (k + 1), by omega, k + 1, rfl, rfl, rfl, rfl, by omega, all_yes hq hq0 (tog_i hp hq hp hc63)⟩ (.cons rfl (.cons rfl (.cons rfl (.cons rfl .nil)))) (by repeat (first | exact .refl | exact subL_left | refine subL_app ?_ | refine .drop ?_ | refine subL_add ?_))
  have hge_k : n ≤ k := by have h := hc39; simp at h; omega
  rw [take_all hP.len hge_k] at hq0
  have hrow := hq0
  refine X_exit ?_
  refine at_then_e ?_
  refine at_then_e ?_
  refine at_block_hit ?_
  refine at_block_n ?_
  refine at_then ?_
  refine X_region ?_
  refine zM ?_
  refine XO_v0 (ev_arB rfl rfl rfl (fun _ => by omega)) rfl rfl rfl ?_
  refine zA ?_
  refine XO_nil ?_
  exact at_met2 _ _ ⟨n - (i + 1), by omega, i + 1, rfl, rfl, rfl, rfl, by omega, all_yes hp htg hrow⟩ (.cons rfl (.cons rfl (.cons rfl .nil))) (by repeat (first | exact .refl | exact subL_left | refine subL_app ?_ | refine .drop ?_ | refine subL_add ?_))
 have hge_i : n ≤ i := by have h := hc33; simp at h; omega
 rw [take_all hP.len hge_i] at htg
 refine X_exit ?_
 refine at_then_e ?_
 refine at_then_e ?_
 refine at_block_hit ?_
 refine at_then ?_
 refine zR ?_
 refine zA ?_
 refine zN ?_
 refine X_ret ?_
 exact at_ret1 rfl rfl (fun w hw => ⟨by rw [chkR_5 hlen h0 hls htg], (hw.mono hIc).drop⟩)
/-- What 'chosen' hands back. -/
def ChQ (ps : List Pt) (ys : List Int) (n : Nat) : Value → HMap → Go.Kn.Loc → Prop := fun v _ L => (chB ps ys = false ∧ v = .tuple #[.slice none 0 0, .bool false] ∧ L = []) ∨ (chB ps ys = true ∧ ∃ b, v = .tuple #[.slice (some ⟨b, 0, none⟩) n n, .bool true] ∧ L = [(b, .cells (cellsB (ps.map (chF ys))) 4 (0, 0))])
theorem r_chosen {I : HMap} {av : Option Addr} {n c : Nat} {ps : List Pt} (hP : SlP I av n c ps) (hn : n ≤ 100000) (hL : Lst ps) {bv : Option Addr} {n2 c2 : Nat} {ys : List Int} (hT : Sl I 1 encI bv n2 c2 ys) (hn2 : n2 ≤ 100000) : RetM Tryz.prog 122 [.slice av n c, .slice bv n2 c2] I [] (ChQ ps ys n) := by
 intro g H w hw
 refine enter Tryz.func122 rfl Tryz.ntmps122 rfl hw ?_
 refine zR ?_
 refine zA ?_
 refine zA ?_
 refine zN (zR ?_)
 refine zM ?_
 refine XO_v0 (ev_lenS rfl slt_22) rfl rfl rfl ?_
 refine XO_makeSlice mkt_127 rfl rfl (by omega) (by decide) rfl rfl (fun b_11 => ?_)
 refine zA ?_
 refine XO_nil ?_
 have e0 : ((n : Int)).toNat = n := rfl
 rw [e0, cellsB_new]
 refine at_then ?_
 refine X_seq ?_
 refine zR ?_
 refine zA ?_
 refine zN ?_
 refine X_block ?_
 refine X_loopT [(0, _), (1, _), (6, _)] (.cons rfl (.cons rfl (.cons rfl .nil))) (fun T L0 mz E I' loc' => ∃ (k : Nat) (row : List Bool), mz = n2 - k ∧ E = (7, .int .i64 k) :: T ∧ I = I' ∧ [(b_11, .cells (cellsB row) 4 (0, 0))] = loc' ∧ k ≤ n2 ∧ RowP ps (fun _ => chF (ys.take k)) row ∧ (List.range k).all (incP ys) = true ∧ (ys.take k).all (hasI ps) = true) _ _ _ _ ⟨0, List.replicate n false, rfl, rfl, rfl, rfl, Nat.zero_le _, (RowP.new hP.len).congr (fun j q _ => by simp [chF]), rfl, by simp⟩ (.cons rfl (.cons rfl (.cons rfl (.cons rfl .nil)))) (HLe.refl _) rfl ?_
 rintro mz E I' loc' ⟨k, row, rfl, rfl, rfl, rfl, hk, hr, hin, hal⟩
 refine X_seq ?_
 refine zR ?_
 refine zM ?_
 refine zM ?_
 refine XO_v0 (ev_lenS rfl slt_23) rfl rfl rfl ?_
 refine zC ?_
 refine zN ?_
 refine X_cond rfl (fun hc15 => ?_) (fun hc15 => ?_)
 ·
  have hlt_k : k < n2 := by have h := hc15; simp at h; omega
  obtain ⟨y, hy⟩ := hT.at hlt_k
  refine X_skip ?_
  refine at_then ?_
  refine X_seq ?_
  refine X_block ?_
  refine zR ?_
  refine zM ?_
  refine zM ?_
  refine zM ?_
  refine XO_v0 (ev_indexSl rfl rfl slt_23 (by assumption) (fun hg => by first | omega | (simp [conj] at hg; omega))) rfl rfl rfl ?_
  refine XO_v0 (ev_load rfl sct_3 (fun hg => by first | exact Sl.get0 hT hy rfl | exact Sl.get0 (k := ((k : Int) - 1).toNat) hT (some_getD (d := 0) hT.len (by simp [conj] at hg; omega)) rfl | (repeat (first | exact Cell.here rfl | apply Cell.there | apply Cell.app)))) rfl rfl rfl ?_
  refine XO_callV0 (cap := []) (vs := [_, _]) rfl rfl fun_121 (r_find hP hn y) rfl rfl ?_
  refine zA ?_
  refine zN ?_
  refine X_seq ?_
  refine X_seq ?_
  refine X_draw mixed (by kernel_rfl) ?_
  refine XQ_v0 (ev_move rfl) rfl rfl rfl ?_
  refine XQ_v0 (ev_cmp rfl rfl rfl) rfl rfl rfl ?_
  refine XQ_v0 (ev_move rfl) rfl rfl rfl ?_
  refine XQ_pushF 2 rfl rfl rfl ?_
  refine XQ_v1 (ev_move rfl) (.some rfl rfl rfl rfl gbf) rfl rfl rfl ?_
  refine XQ_v1 (ev_cmp rfl rfl rfl) (.some rfl rfl rfl rfl gbf) rfl rfl rfl ?_
  refine XQ_v1 (ev_move rfl) (.some rfl rfl rfl rfl gbf) rfl rfl rfl ?_
  refine XQ_pushT 5 rfl rfl rfl ?_
  refine XQ_v1 (ev_move rfl) (.some rfl rfl rfl rfl gbt) rfl rfl rfl ?_
  refine XQ_v1 (ev_move rfl) (.some rfl rfl rfl rfl gbt) rfl rfl rfl ?_
  refine XQ_v1 (ev_indexSl rfl rfl slt_23 (by assumption) (fun hg => by first | omega | (simp [conj] at hg; omega))) (.some rfl rfl rfl rfl gbt) rfl rfl rfl ?_
  refine XQ_v1 (ev_load rfl sct_3 (fun hg => by first | exact Sl.get0 hT hy rfl | exact Sl.get0 (k := ((k : Int) - 1).toNat) hT (some_getD (d := 0) hT.len (by simp [conj] at hg; omega)) rfl | (repeat (first | exact Cell.here rfl | apply Cell.there | apply Cell.app)))) (.some rfl rfl rfl rfl gbt) rfl rfl rfl ?_
  refine XQ_v1 (ev_move rfl) (.some rfl rfl rfl rfl gbt) rfl rfl rfl ?_
  refine XQ_v1 (ev_move rfl) (.some rfl rfl rfl rfl gbt) rfl rfl rfl ?_
  refine XQ_v1 (ev_arB rfl rfl rfl (fun hg => by first | omega | (simp [conj] at hg; omega))) (.some rfl rfl rfl rfl gbt) rfl rfl rfl ?_
  refine XQ_v1 (ev_indexSl rfl rfl slt_23 (by assumption) (fun hg => by first | omega | (simp [conj] at hg; omega))) (.some rfl rfl rfl rfl gbt) rfl rfl rfl ?_
  refine XQ_v1 (ev_load rfl sct_3 (fun hg => by first | exact Sl.get0 hT hy rfl | exact Sl.get0 (k := ((k : Int) - 1).toNat) hT (some_getD (d := 0) hT.len (by simp [conj] at hg; omega)) rfl | (repeat (first | exact Cell.here rfl | apply Cell.there | apply Cell.app)))) (.some rfl rfl rfl rfl gbt) rfl rfl rfl ?_
  refine XQ_v1 (ev_cmp rfl rfl rfl) (.some rfl rfl rfl rfl gbt) rfl rfl rfl ?_
  refine XQ_and1 rfl rfl rfl (.some rfl rfl rfl rfl gbf) rfl rfl ?_
  refine XQ_or0 rfl rfl rfl rfl rfl ?_
  refine XQ_nil ?_
  refine at_then ?_
  refine X_cond rfl (fun hc41 => ?_) (fun hc41 => ?_)
  ·
   have hbad := ch_no hy hc41
   refine zR ?_
   refine zA ?_
   refine zA ?_
   refine zN ?_
   refine X_ret ?_
   refine at_then_r ?_
   refine at_block_r ?_
   refine at_then_r ?_
   refine at_then_r ?_
   refine at_block_r ?_
   refine at_then_r ?_
   exact at_ret2 rfl rfl rfl (fun w hw => ⟨_, I, [], rfl, HLe.refl _, hw.drop, .inl ⟨hbad, rfl, rfl⟩⟩)
  have hst := ch_yes hy hc41
  obtain ⟨m, q, hmn, hqm, hqe, hfm⟩ := fnd_hit hL hst.1
  have hmn2 : m < n := by rw [← hP.len]; exact hmn
  rw [hfm]
  refine X_skip ?_
  refine at_then ?_
  refine X_region ?_
  refine zM ?_
  refine zM ?_
  refine XO_v0 (ev_indexOwn rfl rfl slt_127 (fun hg => by first | omega | (simp [conj] at hg; omega))) rfl rfl rfl ?_
  refine XO_store rfl rfl szt_4 rfl rfl (by repeat (first | exact Upd.here | apply Upd.there | apply upd_app)) (bltB (by rw [hr.1]; exact hmn)) ?_
  refine XO_nil ?_
  rw [cellsB_set]
  refine at_block_n ?_
  refine at_then ?_
  refine X_region ?_
  refine zM ?_
  refine zB ?_
  refine zA ?_
  refine XO_nil ?_
  exact at_met2 _ _ ⟨n2 - (k + 1), by omega, k + 1, _, rfl, rfl, rfl, rfl, by omega, ch_step hL hr hy hqm hqe, range_step hin hst.2, all_yes hy hal hst.1⟩ (.cons rfl (.cons rfl (.cons rfl (.cons rfl .nil)))) (by repeat (first | exact .refl | exact subL_left | refine subL_app ?_ | refine .drop ?_ | refine subL_add ?_))
 have hge_k : n2 ≤ k := by have h := hc15; simp at h; omega
 rw [take_all hT.len hge_k] at hr hal
 have hkn : k = ys.length := by rw [hT.len]; omega
 subst hkn
 have hgood := ch_end hin hal
 have hrd := hr.eq
 subst hrd
 refine X_exit ?_
 refine at_then_e ?_
 refine at_then_e ?_
 refine at_block_hit ?_
 refine at_then ?_
 refine zR ?_
 refine zM ?_
 refine zA ?_
 refine zA ?_
 refine zN ?_
 refine X_ret ?_
 exact at_ret2 rfl rfl rfl (fun w hw => ⟨_, I, _, rfl, HLe.refl _, hw, .inr ⟨hgood, b_11, rfl, rfl⟩⟩)
theorem r_closed {I : HMap} {av : Option Addr} {n c : Nat} {ps : List Pt} (hP : SlP I av n c ps) (hn : n ≤ 100000) (hL : Lst ps) (hnd : ∀ p ∈ ps, p.n ≤ 100000) {f : Pt → Bool} {row0 : List Bool} (h0 : RowP ps (fun _ => f) row0) (b0 : Nat) : RetM Tryz.prog 124 [.slice av n c, .slice (some ⟨b0, 0, none⟩) n n] I [(b0, .cells (cellsB row0) 4 (0, 0))] (fun v I' L => ∃ Lo, L = Lo ++ [(b0, .cells (cellsB row0) 4 (0, 0))] ∧ OwnS 4 1 v n ((ps.map (cloP ps f)).flatMap encB) Lo) := by
 intro g H w hw
 refine enter Tryz.func124 rfl Tryz.ntmps124 rfl hw ?_
 have hIc := HLe.refl I
 refine zR ?_
 refine zA ?_
 refine zN (zR ?_)
 refine zM ?_
 refine XO_callM (cap := []) (vs := [_]) rfl rfl fun_84 .nil (r_stn hP hn hL hnd) rfl rfl ?_
 rintro vv1 I1 L1 hI1 ⟨rfl, ao, co, rfl, hM⟩
 have hP := hP.mono hI1; have hIc := hIc.trans hI1
 refine zA ?_
 refine zN (zR ?_)
 refine XO_buildSlice (ps := []) (m := []) elt_127 rfl (.nil) rfl (by simp) (by decide) (by decide) rfl rfl (fun b_11 => ?_)
 refine zM ?_
 refine XO_append (v := _) (ys := row0.flatMap encB) (L := [(b_11, _)]) rfl rfl elt_127 OwnS.new (by repeat (first | exact .cons .here .nil | exact split_all | exact split_app | apply split_cons | apply split_skip)) ⟨by rw [flat_len encB_len, h0.1, hP.len], fun _ => rfl, Cells.there Cells.here⟩ (one_B _) (by omega) rfl rfl ?_
 intro v1 L1 hO1 _; rw [List.nil_append, Nat.zero_add] at hO1
 refine zA ?_
 refine zN ?_
 refine X_seq ?_
 refine zR ?_
 refine zA ?_
 refine zN ?_
 refine X_block ?_
 refine X_loopT [(0, _), (1, _), (5, _), (6, _)] (.cons rfl (.cons rfl (.cons rfl (.cons rfl .nil)))) (fun T L0 mz E I' loc' => ∃ (i : Nat) (L : Go.Kn.Loc) (row : List Bool), mz = n - i ∧ E = (7, .int .i64 i) :: T ∧ I1 = I' ∧ L ++ [(b0, .cells (cellsB row0) 4 (0, 0))] = loc' ∧ i ≤ n ∧ OwnS 4 1 v1 n (row.flatMap encB) L ∧ RowP ps (fun _ => clK ps f i) row) _ _ _ _ ⟨0, L1, row0, rfl, rfl, rfl, rfl, Nat.zero_le _, hO1, cl_start h0⟩ (.cons rfl (.cons rfl (.cons rfl (.cons rfl (.cons rfl .nil))))) (HLe.refl _) rfl ?_
 rintro mz E I' loc' ⟨i, L, row, rfl, rfl, rfl, rfl, hi, hO, hr⟩
 refine X_seq ?_
 refine zR ?_
 refine zM ?_
 refine zM ?_
 refine XO_v0 (ev_lenS rfl slt_22) rfl rfl rfl ?_
 refine zC ?_
 refine zN ?_
 refine X_cond rfl (fun hc17 => ?_) (fun hc17 => ?_)
 ·
  have hlt_i : i < n := by have h := hc17; simp at h; omega
  obtain ⟨p, hp⟩ := hP.1.at hlt_i
  have hfi := h0.2 i p hp
  obtain ⟨hs, hd, r, hH, hhd, hrr, hRow⟩ := hM.at hlt_i
  have hr0 : r = rowF ps p := by rw [List.getElem?_map, hp] at hrr; exact (Option.some.inj hrr).symm
  subst hr0
  have hdn : n = hd.n := by rw [← hRow.len, ← hP.len]; simp [rowF]
  refine X_skip ?_
  refine at_then ?_
  refine X_seq ?_
  refine X_block ?_
  refine zR ?_
  refine zA ?_
  refine zN ?_
  refine X_block ?_
  refine X_loopT [(0, _), (1, _), (5, _), (6, _), (7, _)] (.cons rfl (.cons rfl (.cons rfl (.cons rfl (.cons rfl .nil))))) (fun T L0 mz E I' loc' => ∃ (k : Nat) (L : Go.Kn.Loc) (row : List Bool), mz = n - k ∧ E = (8, .int .i64 k) :: T ∧ I1 = I' ∧ L ++ [(b0, .cells (cellsB row0) 4 (0, 0))] = loc' ∧ k ≤ n ∧ OwnS 4 1 v1 n (row.flatMap encB) L ∧ RowP ps (clJ ps f i p k) row) _ _ _ _ ⟨0, L, row, rfl, rfl, rfl, rfl, Nat.zero_le _, hO, cl_in hr⟩ (.cons rfl (.cons rfl (.cons rfl (.cons rfl (.cons rfl (.cons rfl .nil)))))) (HLe.refl _) rfl ?_
  rintro mz E I' loc' ⟨k, L, row, rfl, rfl, rfl, rfl, hk, hO, hr⟩
  refine X_seq ?_
  refine zR ?_
  refine zM ?_
  refine zM ?_
  refine XO_v0 (ev_lenS rfl slt_22) rfl rfl rfl ?_
  refine zC ?_
  refine zM ?_
  refine XO_pushT 4 rfl rfl rfl ?_
  refine XO_v1 (ev_move rfl) (.some rfl rfl rfl rfl gbt) rfl rfl rfl ?_
  refine XO_v1 (ev_move rfl) (.some rfl rfl rfl rfl gbt) rfl rfl rfl ?_
  refine XO_v1 (ev_indexOwn rfl rfl slt_127 (fun hg => by first | omega | (simp [conj] at hg; omega))) (.some rfl rfl rfl rfl gbt) rfl rfl rfl ?_
  refine XO_v1 (ev_load rfl sct_4 (fun hg => by first | exact Cell.app (cellB hfi) | exact hcl _ _ | exact Sl.get0 hH hhd rfl | exact Sl.get0 hRow hb rfl | (repeat (first | exact Cell.here rfl | apply Cell.there | apply Cell.app)))) (.some rfl rfl rfl rfl gbt) rfl rfl rfl ?_
  refine XO_and0 rfl rfl rfl rfl rfl ?_
  refine zN ?_
  refine X_cond rfl (fun hc29 => ?_) (fun hc29 => ?_)
  ·
   have h9 := (Bool.and_eq_true _ _).mp hc29
   have hlt_k : k < n := by have h := h9.1; simp at h; omega
   have hfp : f p = true := h9.2
   obtain ⟨q, hq⟩ := hP.1.at hlt_k
   have hbk := hr.2 k q hq
   have hb : (rowF ps p)[k]? = some (onF ps p.id q.id) := by simp [rowF, hq]
   refine X_skip ?_
   refine at_then ?_
   refine X_seq ?_
   refine X_block ?_
   obtain ⟨hkn, bo, cco, cur, rfl, rfl, hcl, hbl, hset⟩ := hO.spot1 (u := Value.bool) (fun _ => rfl) hbk
   refine X_region ?_
   refine zM ?_
   refine zM ?_
   refine zM ?_
   refine zM ?_
   refine XO_v0 (ev_indexOwn rfl rfl slt_127 (fun hg => by first | omega | (simp [conj] at hg; omega))) rfl rfl rfl ?_
   refine XO_v0 (ev_load rfl sct_4 (fun hg => by first | exact Cell.app (cellB hfi) | exact hcl _ _ | exact Sl.get0 hH hhd rfl | exact Sl.get0 hRow hb rfl | (repeat (first | exact Cell.here rfl | apply Cell.there | apply Cell.app)))) rfl rfl rfl ?_
   refine zM ?_
   refine XO_pushF 6 rfl rfl rfl ?_
   refine XO_v1 (ev_move rfl) (.some rfl rfl rfl rfl gbf) rfl rfl rfl ?_
   refine XO_v1 (ev_move rfl) (.some rfl rfl rfl rfl gbf) rfl rfl rfl ?_
   refine XO_v1 (ev_indexSl rfl rfl slt_124 hH (fun hg => by first | omega | (simp [conj] at hg; omega))) (.some rfl rfl rfl rfl gbf) rfl rfl rfl ?_
   refine XO_v1 (ev_load rfl sct_127 (fun hg => by first | exact Cell.app (cellB hfi) | exact hcl _ _ | exact Sl.get0 hH hhd rfl | exact Sl.get0 hRow hb rfl | (repeat (first | exact Cell.here rfl | apply Cell.there | apply Cell.app)))) (.some rfl rfl rfl rfl gbf) rfl rfl rfl ?_
   refine XO_v1 (ev_move rfl) (.some rfl rfl rfl rfl gbf) rfl rfl rfl ?_
   refine XO_v1 (ev_indexSl rfl rfl slt_127 hRow (fun hg => by first | omega | (simp [conj] at hg; omega))) (.some rfl rfl rfl rfl gbf) rfl rfl rfl ?_
   refine XO_v1 (ev_load rfl sct_4 (fun hg => by first | exact Cell.app (cellB hfi) | exact hcl _ _ | exact Sl.get0 hH hhd rfl | exact Sl.get0 hRow hb rfl | (repeat (first | exact Cell.here rfl | apply Cell.there | apply Cell.app)))) (.some rfl rfl rfl rfl gbf) rfl rfl rfl ?_
   refine XO_or0 rfl rfl rfl rfl rfl ?_
   refine XO_v0 (ev_indexOwn rfl rfl slt_127 (fun hg => by first | omega | (simp [conj] at hg; omega))) rfl rfl rfl ?_
   refine XO_store rfl rfl szt_4 rfl rfl (by repeat (first | exact Upd.here | apply Upd.there | apply upd_app)) hbl ?_
   refine XO_nil ?_
   refine at_block_n ?_
   refine at_then ?_
   refine X_region ?_
   refine zM ?_
   refine XO_v0 (ev_arB rfl rfl rfl (fun _ => by omega)) rfl rfl rfl ?_
   refine zA ?_
   refine XO_nil ?_
   exact at_met2 _ _ ⟨n - (k + 1), by omega, k + 1, _, _, rfl, rfl, rfl, rfl, by omega, hset _, cl_step hfp hr hq hbk⟩ (.cons rfl (.cons rfl (.cons rfl (.cons rfl (.cons rfl (.cons rfl .nil)))))) (by repeat (first | exact .refl | exact subL_left | refine subL_app ?_ | refine .drop ?_ | refine subL_add ?_))
  have hend := cl_out hP.len hc29
  refine X_exit ?_
  refine at_then_e ?_
  refine at_then_e ?_
  refine at_block_hit ?_
  refine at_block_n ?_
  refine at_then ?_
  refine X_region ?_
  refine zM ?_
  refine XO_v0 (ev_arB rfl rfl rfl (fun _ => by omega)) rfl rfl rfl ?_
  refine zA ?_
  refine XO_nil ?_
  exact at_met2 _ _ ⟨n - (i + 1), by omega, i + 1, _, _, rfl, rfl, rfl, rfl, by omega, hO, cl_next hp hr (hend)⟩ (.cons rfl (.cons rfl (.cons rfl (.cons rfl (.cons rfl .nil))))) (by repeat (first | exact .refl | exact subL_left | refine subL_app ?_ | refine .drop ?_ | refine subL_add ?_))
 have hge_i : n ≤ i := by have h := hc17; simp at h; omega
 have hrd := cl_end hP.len hge_i hr
 subst hrd
 refine X_exit ?_
 refine at_then_e ?_
 refine at_then_e ?_
 refine at_block_hit ?_
 refine at_then ?_
 refine zR ?_
 refine zM ?_
 refine zA ?_
 refine zN ?_
 refine X_ret ?_
 exact at_ret1 rfl rfl (fun w hw => ⟨_, _, _, rfl, hIc, hw, L, rfl, hO⟩)
theorem r_ids {I : HMap} {av : Option Addr} {n c : Nat} {ps : List Pt} (hP : SlP I av n c ps) (hn : n ≤ 100000) {f : Pt → Bool} {bv : Option Addr} {c2 : Nat} (hF : Sl I 1 encB bv n c2 (ps.map f)) : RetM Tryz.prog 123 [.slice av n c, .slice bv n c2] I [] (SlRes 1 encI (idsF ps f)) := by
 intro g H w hw
 refine enter Tryz.func123 rfl Tryz.ntmps123 rfl hw ?_
 have hIc := HLe.refl I
 refine zR ?_
 refine zA ?_
 refine zN (zR ?_)
 refine zA ?_
 refine zN ?_
 refine X_seq ?_
 refine zR ?_
 refine zA ?_
 refine zN ?_
 refine X_block ?_
 refine X_loopT [(0, _), (1, _)] (.cons rfl (.cons rfl .nil)) (fun T L0 mz E I' loc' => ∃ (k : Nat) (v : Value) (q : Nat) (L : Go.Kn.Loc), mz = n - k ∧ E = (5, v) :: (6, .int .i64 k) :: T ∧ I = I' ∧ L = loc' ∧ k ≤ n ∧ OwnS 3 1 v q ((idsF (ps.take k) f).flatMap encI) L ∧ q ≤ k) _ _ _ _ ⟨0, _, 0, [], rfl, rfl, rfl, rfl, Nat.zero_le _, by rw [List.take_zero]; exact OwnS.nil, Nat.le_refl _⟩ (.cons rfl (.cons rfl (.cons rfl (.cons rfl .nil)))) (HLe.refl _) rfl ?_
 rintro mz E I' loc' ⟨k, v, q, L, rfl, rfl, rfl, rfl, hk, hO, hq⟩
 refine X_seq ?_
 refine zR ?_
 refine zM ?_
 refine zM ?_
 refine XO_v0 (ev_lenS rfl slt_22) rfl rfl rfl ?_
 refine zC ?_
 refine zN ?_
 refine X_cond rfl (fun hc10 => ?_) (fun hc10 => ?_)
 ·
  have hlt_k : k < n := by have h := hc10; simp at h; omega
  have hP1 := hP.1
  obtain ⟨p, hp⟩ := hP1.at hlt_k
  have hb : (ps.map f)[k]? = some (f p) := by simp [hp]
  refine X_skip ?_
  refine at_then ?_
  refine X_seq ?_
  refine X_block ?_
  refine zR ?_
  refine zM ?_
  refine zM ?_
  refine XO_v0 (ev_indexSl rfl rfl slt_127 (by assumption) (fun hg => by first | omega | (simp [conj] at hg; omega))) rfl rfl rfl ?_
  refine XO_v0 (ev_load rfl sct_4 (fun hg => by first | exact Sl.get0 hF hb rfl | exact Sl.get hP1 hp rfl | (repeat (first | exact Cell.here rfl | apply Cell.there | apply Cell.app)))) rfl rfl rfl ?_
  refine zN ?_
  refine X_cond rfl (fun hc16 => ?_) (fun hc16 => ?_)
  ·
   refine X_region ?_
   refine zM ?_
   refine zM ?_
   refine zM ?_
   refine XO_v0 (ev_indexSl rfl rfl slt_22 (by assumption) (fun hg => by first | omega | (simp [conj] at hg; omega))) rfl rfl rfl ?_
   refine XO_v0 (ev_fieldAddr rfl fld_65_0) rfl rfl rfl ?_
   refine XO_v0 (ev_load rfl sct_3 (fun hg => by first | exact Sl.get0 hF hb rfl | exact Sl.get hP1 hp rfl | (repeat (first | exact Cell.here rfl | apply Cell.there | apply Cell.app)))) rfl rfl rfl ?_
   refine XO_buildSlice (ps := [(0, _)]) (m := [encI p.id]) elt_23 rfl (.cons rfl (.nil)) rfl (by simp [encI_len]) (by decide) (by decide) rfl rfl (fun b_23 => ?_)
   refine XO_append (v := _) (ys := [p.id].flatMap encI) (L := L) rfl rfl elt_23 hO (by repeat (first | exact .cons .here .nil | exact split_all | exact split_app | apply split_cons | apply split_skip)) ⟨rfl, fun _ => rfl, Cells.here⟩ (one_I [p.id]) (by omega) rfl rfl ?_
   intro v9 L9 hO9 _; rw [← List.flatMap_append] at hO9
   refine zA ?_
   refine XO_nil ?_
   refine at_block_n ?_
   refine at_then ?_
   refine X_region ?_
   refine zM ?_
   refine XO_v0 (ev_arB rfl rfl rfl (fun _ => by omega)) rfl rfl rfl ?_
   refine zA ?_
   refine XO_nil ?_
   first
   | exact at_met2 _ _ ⟨n - (k + 1), by omega, k + 1, _, _, _, rfl, rfl, rfl, rfl, by omega, by rw [ids_yes hp hc16]; exact hO9, by omega⟩ (.cons rfl (.cons rfl (.cons rfl (.cons rfl .nil)))) (by repeat (first | exact .refl | exact subL_left | refine subL_app ?_ | refine .drop ?_ | refine subL_add ?_))
  refine X_skip ?_
  refine at_block_n ?_
  refine at_then ?_
  refine X_region ?_
  refine zM ?_
  refine XO_v0 (ev_arB rfl rfl rfl (fun _ => by omega)) rfl rfl rfl ?_
  refine zA ?_
  refine XO_nil ?_
  first
  | exact at_met2 _ _ ⟨n - (k + 1), by omega, k + 1, _, _, _, rfl, rfl, rfl, rfl, by omega, by rw [ids_no hp hc16]; exact hO, by omega⟩ (.cons rfl (.cons rfl (.cons rfl (.cons rfl .nil)))) (by repeat (first | exact .refl | exact subL_left | refine subL_app ?_ | refine .drop ?_ | refine subL_add ?_))
 have hge_k : n ≤ k := by have h := hc10; simp at h; omega
 rw [take_all hP.len hge_k] at hO
 refine X_exit ?_
 refine at_then_e ?_
 refine at_then_e ?_
 refine at_block_hit ?_
 refine at_then ?_
 refine zR ?_
 refine zM ?_
 refine zA ?_
 refine zN ?_
 refine X_ret ?_
 exact at_ret1 rfl rfl (fun w hw => by obtain ⟨I9, h91, h92, h93⟩ := OwnS.res hO encI_len (by decide) hw; exact ⟨_, I9, [], rfl, hIc.trans h91, h92, h93⟩)
end Go.Proofs.YtehkiccapbkhnaaGreat
end
