/- rehearseEither_holds, part G of the proof: what its theorems say holds without further conditions. -/
import Derived.ProofKit
import Derived.Deep.Slices
import Derived.Test.YtehkiccapbkhnaaGreatRows
import Derived.Test.YtehkiccapbkhnaaGreatREF
section
namespace Go.Proofs.YtehkiccapbkhnaaGreat
open Go Go.Kn Go.Proofs
theorem fun_12 : Fun Tryz.prog 12 := .of Tryz.func12 (by kernel_rfl) (by kernel_rfl)
theorem fun_14 : Fun Tryz.prog 14 := .of Tryz.func14 (by kernel_rfl) (by kernel_rfl)
theorem fun_16 : Fun Tryz.prog 16 := .of Tryz.func16 (by kernel_rfl) (by kernel_rfl)
theorem fun_18 : Fun Tryz.prog 18 := .of Tryz.func18 (by kernel_rfl) (by kernel_rfl)
theorem fun_22 : Fun Tryz.prog 22 := .of Tryz.func22 (by kernel_rfl) (by kernel_rfl)
theorem fun_25 : Fun Tryz.prog 25 := .of Tryz.func25 (by kernel_rfl) (by kernel_rfl)
theorem fun_27 : Fun Tryz.prog 27 := .of Tryz.func27 (by kernel_rfl) (by kernel_rfl)
theorem fun_37 : Fun Tryz.prog 37 := .of Tryz.func37 (by kernel_rfl) (by kernel_rfl)
theorem fun_38 : Fun Tryz.prog 38 := .of Tryz.func38 (by kernel_rfl) (by kernel_rfl)
theorem mkt_23 : MkT Tryz.prog 23 3 8 (.int .i64 0) := ⟨by kernel_rfl, by kernel_rfl, rfl⟩
theorem plt_33 : PlT Tryz.prog 33 #[(0, 1), (1, 1), (2, 1), (3, 1), (4, 1), (5, 1)] (.agg #[(.slice none 0 0), (.int .i64 0), (.int .i64 0), (.int .i64 0), (.int .i64 0), (.slice none 0 0)]) := ⟨.of (by kernel_rfl), by kernel_rfl, fun w => by kernel_rfl⟩
theorem plt_65 : PlT Tryz.prog 65 #[(0, 1), (1, 1), (2, 1), (3, 1), (4, 14), (18, 1)] (.agg #[(.int .i64 0), (.int .i64 0), (.int .i64 0), (.int .i64 0), (.int .i64 0), (.int .i64 0), (.int .i64 0), (.int .i64 0), (.int .i64 0), (.int .i64 0), (.int .i64 0), (.int .i64 0), (.int .i64 0), (.int .i64 0), (.int .i64 0), (.int .i64 0), (.int .i64 0), (.int .i64 0), (.slice none 0 0)]) := ⟨.of (by kernel_rfl), by kernel_rfl, fun w => by kernel_rfl⟩
theorem szt_33 : SzT Tryz.prog 33 6 := .of (by kernel_rfl)
theorem zt_33 : ZeroT Tryz.prog 33 (.agg #[(.slice none 0 0), (.int .i64 0), (.int .i64 0), (.int .i64 0), (.int .i64 0), (.slice none 0 0)]) := .of (by kernel_rfl)
theorem w_two (I : HMap) : RetM Tryz.prog 37 [] I [] (fun v I' L => L = [] ∧ ∃ a c b d, v = encCHA ⟨a, 3, c, 1, 1, 9, 2, b, 2, d⟩ ∧ CrAt I' ⟨a, 3, c, 1, 1, 9, 2, b, 2, d⟩ twoC) := by
 intro g H w hw
 refine enter Tryz.func37 rfl Tryz.ntmps37 rfl hw ?_
 have hIc := HLe.refl I
 refine X_seq (X_region ?_)
 refine XO_alloc zt_33 rfl rfl (fun b_0 => ?_)
 refine XO_nil (at_then (X_seq (X_region ?_)))
 refine XO_buildSlice (ps := [(0, _), (1, _), (2, _)]) (m := [encI 4, encI 5, encI 8]) elt_23 rfl (.cons rfl (.cons rfl (.cons rfl (.nil)))) rfl (by simp [encI_len]) (by decide) (by decide) rfl rfl (fun b_1 => ?_)
 refine XO_freeze (by repeat (first | exact Take.here | apply Take.there)) (fun I1 hI1 hb1 => ?_)
 have hIc := hIc.trans hI1
 have hD := Sl.lit ([4, 5, 8] : List Int) rfl encI_len (show I1 b_1 = some (Obj.cells (([4, 5, 8] : List Int).flatMap encI).toArray 3 (0, 0)) from hb1)
 refine XO_buildSlice (ps := [(0, _)]) (m := [encI 7]) elt_23 rfl (.cons rfl (.nil)) rfl (by simp [encI_len]) (by decide) (by decide) rfl rfl (fun b_2 => ?_)
 refine XO_freeze (by repeat (first | exact Take.here | apply Take.there)) (fun I2 hI2 hb2 => ?_)
 have hD := hD.mono hI2
 have hIc := hIc.trans hI2
 have hw1 := Sl.lit ([7] : List Int) rfl encI_len (show I2 b_2 = some (Obj.cells (([7] : List Int).flatMap encI).toArray 3 (0, 0)) from hb2)
 refine XO_v0 (ev_buildL (ps := [(0, _), (1, _), (2, _)]) [_, _, _, _] plt_58 rfl rfl) rfl rfl rfl ?_
 refine XO_buildSlice (ps := [(0, _)]) (m := [encI 7]) elt_23 rfl (.cons rfl (.nil)) rfl (by simp [encI_len]) (by decide) (by decide) rfl rfl (fun b_4 => ?_)
 refine XO_freeze (by repeat (first | exact Take.here | apply Take.there)) (fun I3 hI3 hb3 => ?_)
 have hD := hD.mono hI3
 have hw1 := hw1.mono hI3
 have hIc := hIc.trans hI3
 have hw2 := Sl.lit ([7] : List Int) rfl encI_len (show I3 b_4 = some (Obj.cells (([7] : List Int).flatMap encI).toArray 3 (0, 0)) from hb3)
 refine XO_buildSlice (ps := [(0, _)]) (m := [encI 0]) elt_23 rfl (.cons rfl (.nil)) rfl (by simp [encI_len]) (by decide) (by decide) rfl rfl (fun b_5 => ?_)
 refine XO_freeze (by repeat (first | exact Take.here | apply Take.there)) (fun I4 hI4 hb4 => ?_)
 have hD := hD.mono hI4
 have hw1 := hw1.mono hI4
 have hw2 := hw2.mono hI4
 have hIc := hIc.trans hI4
 have hn2 := Sl.lit ([0] : List Int) rfl encI_len (show I4 b_5 = some (Obj.cells (([0] : List Int).flatMap encI).toArray 3 (0, 0)) from hb4)
 refine XO_v0 (ev_buildL (ps := [(0, _), (1, _), (2, _), (3, _)]) [_, _, _, _] plt_58 rfl rfl) rfl rfl rfl ?_
 refine XO_buildSlice (ps := [(0, _), (1, _)]) (m := [encSH ⟨3, 1, some ⟨b_2, 0, none⟩, 1, 1, none, 0, 0⟩, encSH ⟨4, 2, some ⟨b_4, 0, none⟩, 1, 1, some ⟨b_5, 0, none⟩, 1, 1⟩]) elt_27 rfl (.cons rfl (.cons rfl (.nil))) rfl (by simp [encSH_len]) (by decide) (by decide) rfl rfl (fun b_7 => ?_)
 refine XO_freeze (by repeat (first | exact Take.here | apply Take.there)) (fun I5 hI5 hb5 => ?_)
 have hD := hD.mono hI5
 have hw1 := hw1.mono hI5
 have hw2 := hw2.mono hI5
 have hn2 := hn2.mono hI5
 have hIc := hIc.trans hI5
 have hSS := Sl.lit ([⟨3, 1, some ⟨b_2, 0, none⟩, 1, 1, none, 0, 0⟩, ⟨4, 2, some ⟨b_4, 0, none⟩, 1, 1, some ⟨b_5, 0, none⟩, 1, 1⟩] : List SH) rfl encSH_len (show I5 b_7 = some (Obj.cells (([⟨3, 1, some ⟨b_2, 0, none⟩, 1, 1, none, 0, 0⟩, ⟨4, 2, some ⟨b_4, 0, none⟩, 1, 1, some ⟨b_5, 0, none⟩, 1, 1⟩] : List SH).flatMap encSH).toArray 58 (0, 0)) from hb5)
 refine XO_v0 (ev_buildL (ps := [(0, _), (1, _), (2, _), (3, _), (4, _), (5, _)]) [_, _, _, _, _, _] plt_33 rfl rfl) rfl rfl rfl ?_
 refine XO_storeA rfl rfl szt_33 rfl rfl rfl rfl (by repeat (first | exact Upd.here | apply Upd.there | apply upd_app)) ?_
 refine XO_nil (at_then ?_)
 refine X_ret ?_
 exact at_ret1L rfl rfl (.ag agt_33 (vs := encCH ⟨some ⟨b_1, 0, none⟩, 3, 3, 1, 1, 9, 2, some ⟨b_7, 0, none⟩, 2, 2⟩) (by repeat (first | exact Cells.here | apply Cells.there)) rfl) (fun w hw => ⟨_, I5, [], rfl, hIc, hw.drop, rfl, _, _, _, _, rfl, hD, rfl, rfl, rfl, rfl, _, hSS, (RelS.nil.snoc ⟨rfl, rfl, hw1, Sl.nil⟩).snoc ⟨rfl, rfl, hw2, hn2⟩⟩)
theorem w_leafS (I : HMap) (r d w9 : Int) : RetV Tryz.prog 38 [.int .i64 r, .int .i64 d, .int .i64 w9] I (encPHA ⟨r, d, w9, none, 0, 0⟩) := by
 intro g H w hw
 refine enter Tryz.func38 rfl Tryz.ntmps38 rfl hw ?_
 refine X_seq (X_region ?_)
 refine XO_alloc zt_45 rfl rfl (fun b_6 => ?_)
 refine XO_nil (at_then (X_seq (X_region ?_)))
 refine zM ?_
 refine zM ?_
 refine zM ?_
 refine XO_v0 (ev_buildL (ps := [(0, _), (1, _), (2, _)]) [_, _, _, _] plt_45 rfl rfl) rfl rfl rfl ?_
 refine XO_storeA rfl rfl szt_45 rfl rfl rfl rfl (by repeat (first | exact Upd.here | apply Upd.there | apply upd_app)) ?_
 refine XO_nil (at_then ?_)
 refine X_ret ?_
 exact at_ret1L rfl rfl (.ag agt_45 (Cells.here (vs := encPH ⟨r, d, w9, none, 0, 0⟩)) rfl) (fun w hw => ⟨rfl, hw.drop⟩)
theorem w_planE (I : HMap) : RetM Tryz.prog 18 [encCHA (⟨none, 0, 0, 1, 1, 1, 1, none, 0, 0⟩ : CH)] I [] (fun v I' L' => L' = [] ∧ ∃ a cc, v = .tuple #[.slice a 0 cc, .bool true, .int .i64 0]) := by
 have hC : CrAt I (⟨none, 0, 0, 1, 1, 1, 1, none, 0, 0⟩ : CH) empC := ⟨Sl.nil, rfl, rfl, rfl, rfl, [], Sl.nil, RelS.nil⟩
 refine (w_Plan hC d_emp).mono fun v I' L' hI ⟨h1, a, cc, h2, h3⟩ => ⟨h1, a, cc, ?_⟩
 rw [f_pl3, f_po3, f_ck3] at h2
 exact h2
theorem w_chkZ (I : HMap) : RetV Tryz.prog 20 [encCHA (⟨none, 0, 0, 0, 0, 0, 0, none, 0, 0⟩ : CH)] I (.int .i64 400) := by
 have hC : CrAt I (⟨none, 0, 0, 0, 0, 0, 0, none, 0, 0⟩ : CH) zerC := ⟨Sl.nil, rfl, rfl, rfl, rfl, [], Sl.nil, RelS.nil⟩
 have h := w_chkC hC (by intro s hs; cases hs)
 rw [f_ck4] at h
 exact h
theorem w_chkM {I : HMap} {b : Nat} (hM : Sl I 1 encI (some ⟨b, 0, none⟩) 17 17 manC.days) : RetV Tryz.prog 20 [encCHA ⟨some ⟨b, 0, none⟩, 17, 17, 0, 0, 0, 0, none, 0, 0⟩] I (.int .i64 2) := by
 have hC : CrAt I ⟨some ⟨b, 0, none⟩, 17, 17, 0, 0, 0, 0, none, 0, 0⟩ manC := ⟨hM, rfl, rfl, rfl, rfl, [], Sl.nil, RelS.nil⟩
 have h := w_chkC hC (by intro s hs; cases hs)
 rw [f_ck5] at h
 exact h
set_option maxHeartbeats 1000000 in
set_option maxRecDepth 100000 in
theorem w_sane40 (I : HMap) : RetV Tryz.prog 10 [] I (.bool true) := by
 intro g H w hw
 refine enter Tryz.func10 rfl Tryz.ntmps10 rfl hw ?_
 have hIc := HLe.refl I
 refine X_seq (X_region ?_)
 refine zA ?_
 refine XO_nil (at_then (X_seq (X_region ?_)))
 refine XO_callM (cap := []) (vs := []) rfl rfl fun_37 .nil (w_two I) rfl rfl ?_
 rintro vv1 I1 L1 hI1 ⟨rfl, ca, cc, sa, sc, rfl, hC1⟩
 have hIc := hIc.trans hI1
 rw [List.nil_append]
 refine XO_alloc zt_33 rfl rfl (fun b_1 => ?_)
 refine XO_storeA rfl rfl szt_33 rfl rfl rfl rfl (by repeat (first | exact Upd.here | apply Upd.there | apply upd_app)) ?_
 refine XO_nil (at_then (X_seq (X_region ?_)))
 refine XO_v0 (ev_loadA rfl agt_33 (fun hg => by first | exact Cells.immC (vs := encPH rh1) h5z | exact Cells.here (vs := encCH ⟨ca, 3, cc, 1, 1, 9, 2, sa, 2, sc⟩) | exact Cells.here (vs := encCH ⟨ca, 3, cc, 1, 1, 9, 1, sa, 2, sc⟩) | exact (Cells.here (vs := encCH ⟨ca, 3, cc, 1, 1, 9, 2, sa, 2, sc⟩)).there | exact Cells.immC (vs := encPH rh1) h5 | (repeat (first | exact Cells.here | exact Cells.s0 (vs := [_, _, _, _, _, _]) rfl | apply Cells.there | apply Cells.app))) rfl) rfl rfl rfl ?_
 refine XO_callM (cap := []) (vs := [_]) rfl rfl fun_18 .nil (w_Plan hC1 d_two) rfl rfl ?_
 rintro vv2 I2 L2 hI2 ⟨rfl, pa1, pc1, rfl, hP1⟩
 have hC1 := hC1.mono hI2
 have hIc := hIc.trans hI2
 rw [List.nil_append]
 rw [f_pl1] at hP1
 rw [f_pl1, f_po1, f_ck1]
 refine zM ?_
 refine XO_v0 (ev_extract rfl rfl) rfl rfl rfl ?_
 refine XO_v0 (ev_extract rfl rfl) rfl rfl rfl ?_
 refine XO_v0 (ev_extract rfl rfl) rfl rfl rfl ?_
 refine zA ?_
 refine zA ?_
 refine zA ?_
 refine XO_nil (at_then (X_seq (X_region ?_)))
 refine XO_v0 (ev_loadA rfl agt_33 (fun hg => by first | exact Cells.immC (vs := encPH rh1) h5z | exact Cells.here (vs := encCH ⟨ca, 3, cc, 1, 1, 9, 2, sa, 2, sc⟩) | exact Cells.here (vs := encCH ⟨ca, 3, cc, 1, 1, 9, 1, sa, 2, sc⟩) | exact (Cells.here (vs := encCH ⟨ca, 3, cc, 1, 1, 9, 2, sa, 2, sc⟩)).there | exact Cells.immC (vs := encPH rh1) h5 | (repeat (first | exact Cells.here | exact Cells.s0 (vs := [_, _, _, _, _, _]) rfl | apply Cells.there | apply Cells.app))) rfl) rfl rfl rfl ?_
 refine XO_callM (cap := []) (vs := [_, _]) rfl rfl fun_25 .nil (w_Refute hC1 d_two 1) rfl rfl ?_
 rintro vv3 I3 L3 hI3 ⟨rfl, rh1, rfl, hR1⟩
 have hC1 := hC1.mono hI3
 have hP1 := hP1.mono hI3
 have hIc := hIc.trans hI3
 rw [List.nil_append]
 rw [f_rp1] at hR1
 rw [f_ro1, f_le1]
 refine zM ?_
 refine XO_v0 (ev_extract rfl rfl) rfl rfl rfl ?_
 refine XO_v0 (ev_extract rfl rfl) rfl rfl rfl ?_
 refine XO_v0 (ev_extract rfl rfl) rfl rfl rfl ?_
 refine XO_alloc zt_45 rfl rfl (fun b_5 => ?_)
 refine XO_storeA rfl rfl szt_45 rfl rfl rfl rfl (by repeat (first | exact Upd.here | apply Upd.there | apply upd_app)) ?_
 refine zA ?_
 refine zA ?_
 refine XO_nil (at_then ?_)
 refine X_seq ?_
 refine X_freeze .here (fun I4 hI4 hb4 => ?_)
 have hC1 := hC1.mono hI4
 have hP1 := hP1.mono hI4
 have hR1 := hR1.mono hI4
 have hIc := hIc.trans hI4
 have h5 := ImmC.of hb4
 refine X_region ?_
 refine XO_v0 (ev_loadA rfl agt_33 (fun hg => by first | exact Cells.immC (vs := encPH rh1) h5z | exact Cells.here (vs := encCH ⟨ca, 3, cc, 1, 1, 9, 2, sa, 2, sc⟩) | exact Cells.here (vs := encCH ⟨ca, 3, cc, 1, 1, 9, 1, sa, 2, sc⟩) | exact (Cells.here (vs := encCH ⟨ca, 3, cc, 1, 1, 9, 2, sa, 2, sc⟩)).there | exact Cells.immC (vs := encPH rh1) h5 | (repeat (first | exact Cells.here | exact Cells.s0 (vs := [_, _, _, _, _, _]) rfl | apply Cells.there | apply Cells.app))) rfl) rfl rfl rfl ?_
 refine XO_callM (cap := []) (vs := [_, _]) rfl rfl fun_25 .nil (w_Refute hC1 d_two 2) rfl rfl ?_
 rintro vv5 I5 L5 hI5 ⟨rfl, rh2, rfl, hR2⟩
 have hC1 := hC1.mono hI5
 have hP1 := hP1.mono hI5
 have hR1 := hR1.mono hI5
 have h5 := h5.mono hI5
 have hIc := hIc.trans hI5
 rw [List.nil_append]
 rw [f_ro2, f_le2]
 refine zM ?_
 refine XO_v0 (ev_extract rfl rfl) rfl rfl rfl ?_
 refine XO_v0 (ev_extract rfl rfl) rfl rfl rfl ?_
 refine XO_v0 (ev_extract rfl rfl) rfl rfl rfl ?_
 refine XO_alloc zt_45 rfl rfl (fun b_8 => ?_)
 refine XO_storeA rfl rfl szt_45 rfl rfl rfl rfl (by repeat (first | exact Upd.here | apply Upd.there | apply upd_app)) ?_
 refine zA ?_
 refine zA ?_
 refine XO_nil (at_then ?_)
 refine X_seq ?_
 refine X_freeze .here (fun I6 hI6 hb6 => ?_)
 have hC1 := hC1.mono hI6
 have hP1 := hP1.mono hI6
 have hR1 := hR1.mono hI6
 have h5 := h5.mono hI6
 have hIc := hIc.trans hI6
 have h8 := ImmC.of hb6
 refine X_region ?_
 refine XO_v0 (ev_loadA rfl agt_33 (fun hg => by first | exact Cells.immC (vs := encPH rh1) h5z | exact Cells.here (vs := encCH ⟨ca, 3, cc, 1, 1, 9, 2, sa, 2, sc⟩) | exact Cells.here (vs := encCH ⟨ca, 3, cc, 1, 1, 9, 1, sa, 2, sc⟩) | exact (Cells.here (vs := encCH ⟨ca, 3, cc, 1, 1, 9, 2, sa, 2, sc⟩)).there | exact Cells.immC (vs := encPH rh1) h5 | (repeat (first | exact Cells.here | exact Cells.s0 (vs := [_, _, _, _, _, _]) rfl | apply Cells.there | apply Cells.app))) rfl) rfl rfl rfl ?_
 refine XO_v0 (ev_loadA rfl agt_45 (fun hg => by first | exact Cells.immC (vs := encPH rh1) h5z | exact Cells.here (vs := encCH ⟨ca, 3, cc, 1, 1, 9, 2, sa, 2, sc⟩) | exact Cells.here (vs := encCH ⟨ca, 3, cc, 1, 1, 9, 1, sa, 2, sc⟩) | exact (Cells.here (vs := encCH ⟨ca, 3, cc, 1, 1, 9, 2, sa, 2, sc⟩)).there | exact Cells.immC (vs := encPH rh1) h5 | (repeat (first | exact Cells.here | exact Cells.s0 (vs := [_, _, _, _]) rfl | apply Cells.there | apply Cells.app))) rfl) rfl rfl rfl ?_
 refine XO_callV0 (cap := []) (vs := [_, _, _]) rfl rfl fun_27 (w_Accepts hC1 d_two 1 prfP rh1 hR1 f_sm) rfl rfl ?_
 rw [f_ac1, f_le1]
 refine zM ?_
 refine XO_v0 (ev_extract rfl rfl) rfl rfl rfl ?_
 refine XO_v0 (ev_extract rfl rfl) rfl rfl rfl ?_
 refine zA ?_
 refine zA ?_
 refine XO_nil (at_then (X_seq (X_region ?_)))
 refine XO_v0 (ev_loadA rfl agt_33 (fun hg => by first | exact Cells.immC (vs := encPH rh1) h5z | exact Cells.here (vs := encCH ⟨ca, 3, cc, 1, 1, 9, 2, sa, 2, sc⟩) | exact Cells.here (vs := encCH ⟨ca, 3, cc, 1, 1, 9, 1, sa, 2, sc⟩) | exact (Cells.here (vs := encCH ⟨ca, 3, cc, 1, 1, 9, 2, sa, 2, sc⟩)).there | exact Cells.immC (vs := encPH rh1) h5 | (repeat (first | exact Cells.here | exact Cells.s0 (vs := [_, _, _, _, _, _]) rfl | apply Cells.there | apply Cells.app))) rfl) rfl rfl rfl ?_
 refine XO_v0 (ev_loadA rfl agt_45 (fun hg => by first | exact Cells.immC (vs := encPH rh1) h5z | exact Cells.here (vs := encCH ⟨ca, 3, cc, 1, 1, 9, 2, sa, 2, sc⟩) | exact Cells.here (vs := encCH ⟨ca, 3, cc, 1, 1, 9, 1, sa, 2, sc⟩) | exact (Cells.here (vs := encCH ⟨ca, 3, cc, 1, 1, 9, 2, sa, 2, sc⟩)).there | exact Cells.immC (vs := encPH rh1) h5 | (repeat (first | exact Cells.here | exact Cells.s0 (vs := [_, _, _, _]) rfl | apply Cells.there | apply Cells.app))) rfl) rfl rfl rfl ?_
 refine XO_callV0 (cap := []) (vs := [_, _, _]) rfl rfl fun_27 (w_Accepts hC1 d_two 2 prfP rh1 hR1 f_sm) rfl rfl ?_
 rw [f_ac2, f_le2]
 refine zM ?_
 refine XO_v0 (ev_extract rfl rfl) rfl rfl rfl ?_
 refine XO_v0 (ev_extract rfl rfl) rfl rfl rfl ?_
 refine zA ?_
 refine zA ?_
 refine XO_nil (at_then (X_seq (X_region ?_)))
 refine XO_v0 (ev_loadA rfl agt_33 (fun hg => by first | exact Cells.immC (vs := encPH rh1) h5z | exact Cells.here (vs := encCH ⟨ca, 3, cc, 1, 1, 9, 2, sa, 2, sc⟩) | exact Cells.here (vs := encCH ⟨ca, 3, cc, 1, 1, 9, 1, sa, 2, sc⟩) | exact (Cells.here (vs := encCH ⟨ca, 3, cc, 1, 1, 9, 2, sa, 2, sc⟩)).there | exact Cells.immC (vs := encPH rh1) h5 | (repeat (first | exact Cells.here | exact Cells.s0 (vs := [_, _, _, _, _, _]) rfl | apply Cells.there | apply Cells.app))) rfl) rfl rfl rfl ?_
 refine XO_buildSlice (ps := [(0, _), (1, _)]) (m := [encI 1, encI 1]) elt_23 rfl (.cons rfl (.cons rfl (.nil))) rfl (by simp [encI_len]) (by decide) (by decide) rfl rfl (fun b_64 => ?_)
 refine XO_freeze (by repeat (first | exact Take.here | apply Take.there)) (fun I7 hI7 hb7 => ?_)
 have hC1 := hC1.mono hI7
 have hP1 := hP1.mono hI7
 have hR1 := hR1.mono hI7
 have h5 := h5.mono hI7
 have h8 := h8.mono hI7
 have hIc := hIc.trans hI7
 have hG1 := Sl.lit ([1, 1] : List Int) rfl encI_len (show I7 b_64 = some (Obj.cells (([1, 1] : List Int).flatMap encI).toArray 3 (0, 0)) from hb7)
 refine XO_callM (cap := []) (vs := [_, _]) rfl rfl fun_16 .nil (w_Broken hC1 d_two hG1 (by decide)) rfl rfl ?_
 rintro vv8 I8 L8 hI8 ⟨rfl, ba1, bc1, rfl, hK1⟩
 have hC1 := hC1.mono hI8
 have hP1 := hP1.mono hI8
 have hR1 := hR1.mono hI8
 have h5 := h5.mono hI8
 have h8 := h8.mono hI8
 have hG1 := hG1.mono hI8
 have hIc := hIc.trans hI8
 rw [List.nil_append]
 rw [f_bl1] at hK1
 rw [f_bl1, f_be1]
 refine zM ?_
 refine XO_v0 (ev_extract rfl rfl) rfl rfl rfl ?_
 refine XO_v0 (ev_extract rfl rfl) rfl rfl rfl ?_
 refine zA ?_
 refine zA ?_
 refine XO_nil (at_then (X_seq (X_region ?_)))
 refine XO_v0 (ev_fieldAddr rfl fld_33_4) rfl rfl rfl ?_
 refine zS szt_3 ?_
 refine XO_nil (at_then ?_)
 refine X_seq ?_
 refine X_locEq (loc' := [(b_1, .cells (encCH ⟨ca, 3, cc, 1, 1, 9, 1, sa, 2, sc⟩).toArray 33 (0, 0))]) rfl ?_
 have hC2 : CrAt I8 ⟨ca, 3, cc, 1, 1, 9, 1, sa, 2, sc⟩ two1C := ⟨hC1.1, rfl, rfl, rfl, rfl, hC1.2.2.2.2.2⟩
 refine X_region ?_
 refine XO_v0 (ev_loadA rfl agt_33 (fun hg => by first | exact Cells.immC (vs := encPH rh1) h5z | exact Cells.here (vs := encCH ⟨ca, 3, cc, 1, 1, 9, 2, sa, 2, sc⟩) | exact Cells.here (vs := encCH ⟨ca, 3, cc, 1, 1, 9, 1, sa, 2, sc⟩) | exact (Cells.here (vs := encCH ⟨ca, 3, cc, 1, 1, 9, 2, sa, 2, sc⟩)).there | exact Cells.immC (vs := encPH rh1) h5 | (repeat (first | exact Cells.here | exact Cells.s0 (vs := [_, _, _, _, _, _]) rfl | apply Cells.there | apply Cells.app))) rfl) rfl rfl rfl ?_
 refine XO_callM (cap := []) (vs := [_]) rfl rfl fun_18 .nil (w_Plan hC2 d_two1) rfl rfl ?_
 rintro vv9 I9 L9 hI9 ⟨rfl, pa2, pc2, rfl, hP2⟩
 have hC1 := hC1.mono hI9
 have hP1 := hP1.mono hI9
 have hR1 := hR1.mono hI9
 have h5 := h5.mono hI9
 have h8 := h8.mono hI9
 have hG1 := hG1.mono hI9
 have hK1 := hK1.mono hI9
 have hC2 := hC2.mono hI9
 have hIc := hIc.trans hI9
 rw [List.nil_append]
 rw [f_pl2] at hP2
 rw [f_pl2, f_po2, f_ck2]
 refine zM ?_
 refine XO_v0 (ev_extract rfl rfl) rfl rfl rfl ?_
 refine XO_v0 (ev_extract rfl rfl) rfl rfl rfl ?_
 refine XO_v0 (ev_extract rfl rfl) rfl rfl rfl ?_
 refine zA ?_
 refine zA ?_
 refine zA ?_
 refine XO_nil (at_then (X_seq (X_region ?_)))
 refine XO_v0 (ev_buildL (ps := [(6, _)]) [_, _, _, _, _, _, _, _, _, _, _, _, _, _] plt_63 rfl rfl) rfl rfl rfl ?_
 refine XO_v0 (ev_buildL (ps := [(0, _), (1, _), (3, _), (4, _)]) [_, _, _, _, _, _, _, _, _, _, _, _, _, _, _, _, _, _, _] plt_65 rfl rfl) rfl rfl rfl ?_
 refine XO_buildSlice (ps := [(0, _)]) (m := [encP patP]) elt_22 rfl (.cons rfl (.nil)) rfl (by simp [encP_len]) (by decide) (by decide) rfl rfl (fun b_77 => ?_)
 refine XO_freeze (by repeat (first | exact Take.here | apply Take.there)) (fun I10 hI10 hb10 => ?_)
 have hC1 := hC1.mono hI10
 have hP1 := hP1.mono hI10
 have hR1 := hR1.mono hI10
 have h5 := h5.mono hI10
 have h8 := h8.mono hI10
 have hG1 := hG1.mono hI10
 have hK1 := hK1.mono hI10
 have hC2 := hC2.mono hI10
 have hP2 := hP2.mono hI10
 have hIc := hIc.trans hI10
 have hP0 := Sl.lit ([patP] : List Pt) rfl encP_len (show I10 b_77 = some (Obj.cells (([patP] : List Pt).flatMap encP).toArray 65 (0, 0)) from hb10)
 have hPs : SlP I10 (some ⟨b_77, 0, none⟩) 1 1 [patP] := ⟨hP0, fun q hq => by simp only [List.mem_singleton] at hq; subst hq; exact Sl.nil⟩
 refine zA ?_
 refine XO_nil (at_then (X_seq (X_region ?_)))
 refine zM ?_
 refine XO_buildSlice (ps := [(0, _)]) (m := [encI 2]) elt_23 rfl (.cons rfl (.nil)) rfl (by simp [encI_len]) (by decide) (by decide) rfl rfl (fun b_80 => ?_)
 refine XO_freeze (by repeat (first | exact Take.here | apply Take.there)) (fun I11 hI11 hb11 => ?_)
 have hC1 := hC1.mono hI11
 have hP1 := hP1.mono hI11
 have hR1 := hR1.mono hI11
 have h5 := h5.mono hI11
 have h8 := h8.mono hI11
 have hG1 := hG1.mono hI11
 have hK1 := hK1.mono hI11
 have hC2 := hC2.mono hI11
 have hP2 := hP2.mono hI11
 have hP0 := hP0.mono hI11
 have hPs := hPs.mono hI11
 have hIc := hIc.trans hI11
 have hT1 := Sl.lit ([2] : List Int) rfl encI_len (show I11 b_80 = some (Obj.cells (([2] : List Int).flatMap encI).toArray 3 (0, 0)) from hb11)
 refine XO_buildSlice (ps := [(0, _)]) (m := [encI 2]) elt_23 rfl (.cons rfl (.nil)) rfl (by simp [encI_len]) (by decide) (by decide) rfl rfl (fun b_81 => ?_)
 refine XO_freeze (by repeat (first | exact Take.here | apply Take.there)) (fun I12 hI12 hb12 => ?_)
 have hC1 := hC1.mono hI12
 have hP1 := hP1.mono hI12
 have hR1 := hR1.mono hI12
 have h5 := h5.mono hI12
 have h8 := h8.mono hI12
 have hG1 := hG1.mono hI12
 have hK1 := hK1.mono hI12
 have hC2 := hC2.mono hI12
 have hP2 := hP2.mono hI12
 have hP0 := hP0.mono hI12
 have hPs := hPs.mono hI12
 have hT1 := hT1.mono hI12
 have hIc := hIc.trans hI12
 have hT2 := Sl.lit ([2] : List Int) rfl encI_len (show I12 b_81 = some (Obj.cells (([2] : List Int).flatMap encI).toArray 3 (0, 0)) from hb12)
 refine XO_buildSlice (ps := [(0, _), (1, _), (2, _)]) (m := [encH ⟨none, 0, 0⟩, encH ⟨some ⟨b_81, 0, none⟩, 1, 1⟩, encH ⟨none, 0, 0⟩]) elt_24 rfl (.cons rfl (.cons rfl (.cons rfl (.nil)))) rfl (by simp [encH_len]) (by decide) (by decide) rfl rfl (fun b_82 => ?_)
 refine XO_freeze (by repeat (first | exact Take.here | apply Take.there)) (fun I13 hI13 hb13 => ?_)
 have hC1 := hC1.mono hI13
 have hP1 := hP1.mono hI13
 have hR1 := hR1.mono hI13
 have h5 := h5.mono hI13
 have h8 := h8.mono hI13
 have hG1 := hG1.mono hI13
 have hK1 := hK1.mono hI13
 have hC2 := hC2.mono hI13
 have hP2 := hP2.mono hI13
 have hP0 := hP0.mono hI13
 have hPs := hPs.mono hI13
 have hT1 := hT1.mono hI13
 have hT2 := hT2.mono hI13
 have hIc := hIc.trans hI13
 have hH3 := Sl.lit [(⟨none, 0, 0⟩ : Hd), ⟨some ⟨b_81, 0, none⟩, 1, 1⟩, ⟨none, 0, 0⟩] rfl encH_len (show I13 b_82 = some (Obj.cells ([(⟨none, 0, 0⟩ : Hd), ⟨some ⟨b_81, 0, none⟩, 1, 1⟩, ⟨none, 0, 0⟩].flatMap encH).toArray 23 (0, 0)) from hb13)
 refine XO_callM (cap := []) (vs := [_, _, _]) rfl rfl fun_12 .nil (w_From hPs (by decide) hT1 (by decide) (show SlHA I13 1 encI _ _ _ _ [[], [2], []] from ⟨hH3, .cons Sl.nil (.cons hT2 (.cons Sl.nil .nil))⟩) (by decide) (by intro v hv; simp only [List.mem_cons, List.not_mem_nil, or_false] at hv; rcases hv with rfl | rfl | rfl <;> simp)) rfl rfl ?_
 rintro vv14 I14 L14 hI14 ⟨rfl, fa1, fc1, rfl, hF1⟩
 have hC1 := hC1.mono hI14
 have hP1 := hP1.mono hI14
 have hR1 := hR1.mono hI14
 have h5 := h5.mono hI14
 have h8 := h8.mono hI14
 have hG1 := hG1.mono hI14
 have hK1 := hK1.mono hI14
 have hC2 := hC2.mono hI14
 have hP2 := hP2.mono hI14
 have hP0 := hP0.mono hI14
 have hPs := hPs.mono hI14
 have hT1 := hT1.mono hI14
 have hT2 := hT2.mono hI14
 have hH3 := hH3.mono hI14
 have hIc := hIc.trans hI14
 rw [List.nil_append]
 rw [f_fr1] at hF1
 rw [f_fr1, f_fe1]
 refine zM ?_
 refine XO_v0 (ev_extract rfl rfl) rfl rfl rfl ?_
 refine XO_v0 (ev_extract rfl rfl) rfl rfl rfl ?_
 refine zA ?_
 refine zA ?_
 refine XO_nil (at_then (X_seq (X_region ?_)))
 refine zM ?_
 refine XO_buildSlice (ps := [(0, _)]) (m := [encI 3]) elt_23 rfl (.cons rfl (.nil)) rfl (by simp [encI_len]) (by decide) (by decide) rfl rfl (fun b_88 => ?_)
 refine XO_freeze (by repeat (first | exact Take.here | apply Take.there)) (fun I15 hI15 hb15 => ?_)
 have hC1 := hC1.mono hI15
 have hP1 := hP1.mono hI15
 have hR1 := hR1.mono hI15
 have h5 := h5.mono hI15
 have h8 := h8.mono hI15
 have hG1 := hG1.mono hI15
 have hK1 := hK1.mono hI15
 have hC2 := hC2.mono hI15
 have hP2 := hP2.mono hI15
 have hP0 := hP0.mono hI15
 have hPs := hPs.mono hI15
 have hT1 := hT1.mono hI15
 have hT2 := hT2.mono hI15
 have hH3 := hH3.mono hI15
 have hF1 := hF1.mono hI15
 have hIc := hIc.trans hI15
 have hT3 := Sl.lit ([3] : List Int) rfl encI_len (show I15 b_88 = some (Obj.cells (([3] : List Int).flatMap encI).toArray 3 (0, 0)) from hb15)
 refine XO_callM (cap := []) (vs := [_, _, _]) rfl rfl fun_12 .nil (w_From hPs (by decide) hT3 (by decide) (show SlHA I15 1 encI none 0 0 [] [] from ⟨Sl.nil, .nil⟩) (by decide) (by intro v hv; cases hv)) rfl rfl ?_
 rintro vv16 I16 L16 hI16 ⟨rfl, fa2, fc2, rfl, hF2⟩
 have hC1 := hC1.mono hI16
 have hP1 := hP1.mono hI16
 have hR1 := hR1.mono hI16
 have h5 := h5.mono hI16
 have h8 := h8.mono hI16
 have hG1 := hG1.mono hI16
 have hK1 := hK1.mono hI16
 have hC2 := hC2.mono hI16
 have hP2 := hP2.mono hI16
 have hP0 := hP0.mono hI16
 have hPs := hPs.mono hI16
 have hT1 := hT1.mono hI16
 have hT2 := hT2.mono hI16
 have hH3 := hH3.mono hI16
 have hF1 := hF1.mono hI16
 have hT3 := hT3.mono hI16
 have hIc := hIc.trans hI16
 rw [List.nil_append]
 rw [f_fe2]
 refine zM ?_
 refine XO_v0 (ev_extract rfl rfl) rfl rfl rfl ?_
 refine XO_v0 (ev_extract rfl rfl) rfl rfl rfl ?_
 refine zA ?_
 refine zA ?_
 refine XO_nil (at_then (X_seq (X_region ?_)))
 refine XO_v0 (ev_loadA rfl agt_33 (fun hg => by first | exact Cells.immC (vs := encPH rh1) h5z | exact Cells.here (vs := encCH ⟨ca, 3, cc, 1, 1, 9, 2, sa, 2, sc⟩) | exact Cells.here (vs := encCH ⟨ca, 3, cc, 1, 1, 9, 1, sa, 2, sc⟩) | exact (Cells.here (vs := encCH ⟨ca, 3, cc, 1, 1, 9, 2, sa, 2, sc⟩)).there | exact Cells.immC (vs := encPH rh1) h5 | (repeat (first | exact Cells.here | exact Cells.s0 (vs := [_, _, _, _, _, _]) rfl | apply Cells.there | apply Cells.app))) rfl) rfl rfl rfl ?_
 refine XO_buildSlice (ps := [(0, _), (1, _), (2, _)]) (m := [encI 0, encI 0, encI 0]) elt_23 rfl (.cons rfl (.cons rfl (.cons rfl (.nil)))) rfl (by simp [encI_len]) (by decide) (by decide) rfl rfl (fun b_94 => ?_)
 refine XO_freeze (by repeat (first | exact Take.here | apply Take.there)) (fun I17 hI17 hb17 => ?_)
 have hC1 := hC1.mono hI17
 have hP1 := hP1.mono hI17
 have hR1 := hR1.mono hI17
 have h5 := h5.mono hI17
 have h8 := h8.mono hI17
 have hG1 := hG1.mono hI17
 have hK1 := hK1.mono hI17
 have hC2 := hC2.mono hI17
 have hP2 := hP2.mono hI17
 have hP0 := hP0.mono hI17
 have hPs := hPs.mono hI17
 have hT1 := hT1.mono hI17
 have hT2 := hT2.mono hI17
 have hH3 := hH3.mono hI17
 have hF1 := hF1.mono hI17
 have hT3 := hT3.mono hI17
 have hIc := hIc.trans hI17
 have hG2 := Sl.lit ([0, 0, 0] : List Int) rfl encI_len (show I17 b_94 = some (Obj.cells (([0, 0, 0] : List Int).flatMap encI).toArray 3 (0, 0)) from hb17)
 refine XO_callM (cap := []) (vs := [_, _]) rfl rfl fun_16 .nil (w_Broken hC2 d_two1 hG2 (by decide)) rfl rfl ?_
 rintro vv18 I18 L18 hI18 ⟨rfl, ba2, bc2, rfl, hK2⟩
 have hC1 := hC1.mono hI18
 have hP1 := hP1.mono hI18
 have hR1 := hR1.mono hI18
 have h5 := h5.mono hI18
 have h8 := h8.mono hI18
 have hG1 := hG1.mono hI18
 have hK1 := hK1.mono hI18
 have hC2 := hC2.mono hI18
 have hP2 := hP2.mono hI18
 have hP0 := hP0.mono hI18
 have hPs := hPs.mono hI18
 have hT1 := hT1.mono hI18
 have hT2 := hT2.mono hI18
 have hH3 := hH3.mono hI18
 have hF1 := hF1.mono hI18
 have hT3 := hT3.mono hI18
 have hG2 := hG2.mono hI18
 have hIc := hIc.trans hI18
 rw [List.nil_append]
 rw [f_be2]
 refine zM ?_
 refine XO_v0 (ev_extract rfl rfl) rfl rfl rfl ?_
 refine XO_v0 (ev_extract rfl rfl) rfl rfl rfl ?_
 refine zA ?_
 refine zA ?_
 refine XO_nil (at_then (X_seq (X_region ?_)))
 refine XO_v0 (ev_buildL (ps := [(1, _), (2, _), (3, _), (4, _)]) [_, _, _, _, _, _] plt_33 rfl rfl) rfl rfl rfl ?_
 refine XO_callM (cap := []) (vs := [_]) rfl rfl fun_18 .nil (w_planE I18) rfl rfl ?_
 rintro vv19 I19 L19 hI19 ⟨rfl, pa3, pc3, rfl⟩
 have hC1 := hC1.mono hI19
 have hP1 := hP1.mono hI19
 have hR1 := hR1.mono hI19
 have h5 := h5.mono hI19
 have h8 := h8.mono hI19
 have hG1 := hG1.mono hI19
 have hK1 := hK1.mono hI19
 have hC2 := hC2.mono hI19
 have hP2 := hP2.mono hI19
 have hP0 := hP0.mono hI19
 have hPs := hPs.mono hI19
 have hT1 := hT1.mono hI19
 have hT2 := hT2.mono hI19
 have hH3 := hH3.mono hI19
 have hF1 := hF1.mono hI19
 have hT3 := hT3.mono hI19
 have hG2 := hG2.mono hI19
 have hIc := hIc.trans hI19
 rw [List.nil_append]
 refine zM ?_
 refine XO_v0 (ev_extract rfl rfl) rfl rfl rfl ?_
 refine XO_v0 (ev_extract rfl rfl) rfl rfl rfl ?_
 refine XO_v0 (ev_extract rfl rfl) rfl rfl rfl ?_
 refine zA ?_
 refine zA ?_
 refine zA ?_
 refine XO_nil (at_then ?_)
 refine X_seq ?_
 refine X_seq (X_region ?_)
 simp only [List.append_eq, List.cons_append, List.nil_append]
 refine zM ?_
 refine zC ?_
 refine zM ?_
 refine XO_pushF 2 rfl rfl rfl ?_
 refine XO_v1 (ev_move rfl) (.some rfl rfl rfl rfl gbf) rfl rfl rfl ?_
 refine XO_v1 (ev_cmp rfl rfl rfl) (.some rfl rfl rfl rfl gbf) rfl rfl rfl ?_
 refine XO_or0 rfl rfl rfl rfl rfl ?_
 refine zM ?_
 refine XO_pushF 6 rfl rfl rfl ?_
 refine XO_v1 (ev_move rfl) (.some rfl rfl rfl rfl gbf) rfl rfl rfl ?_
 refine XO_v1 (ev_cmp rfl rfl rfl) (.some rfl rfl rfl rfl gbf) rfl rfl rfl ?_
 refine XO_or0 rfl rfl rfl rfl rfl ?_
 refine zM ?_
 refine XO_pushF 10 rfl rfl rfl ?_
 refine XO_v1 (ev_move rfl) (.some rfl rfl rfl rfl gbf) rfl rfl rfl ?_
 refine XO_v1 (ev_cmp rfl rfl rfl) (.some rfl rfl rfl rfl gbf) rfl rfl rfl ?_
 refine XO_or0 rfl rfl rfl rfl rfl ?_
 refine zM ?_
 refine XO_pushF 14 rfl rfl rfl ?_
 refine XO_v1 (ev_move rfl) (.some rfl rfl rfl rfl gbf) rfl rfl rfl ?_
 refine XO_v1 (ev_cmp rfl rfl rfl) (.some rfl rfl rfl rfl gbf) rfl rfl rfl ?_
 refine XO_or0 rfl rfl rfl rfl rfl ?_
 refine zM ?_
 refine XO_pushF 18 rfl rfl rfl ?_
 refine XO_v1 (ev_move rfl) (.some rfl rfl rfl rfl gbf) rfl rfl rfl ?_
 refine XO_v1 (ev_cmp rfl rfl rfl) (.some rfl rfl rfl rfl gbf) rfl rfl rfl ?_
 refine XO_or0 rfl rfl rfl rfl rfl ?_
 refine zM ?_
 refine XO_pushF 22 rfl rfl rfl ?_
 refine XO_v1 (ev_move rfl) (.some rfl rfl rfl rfl gbf) rfl rfl rfl ?_
 refine XO_v1 (ev_cmp rfl rfl rfl) (.some rfl rfl rfl rfl gbf) rfl rfl rfl ?_
 refine XO_or0 rfl rfl rfl rfl rfl ?_
 refine zM ?_
 refine XO_pushF 26 rfl rfl rfl ?_
 refine XO_v1 (ev_move rfl) (.some rfl rfl rfl rfl gbf) rfl rfl rfl ?_
 refine XO_v1 (ev_cmp rfl rfl rfl) (.some rfl rfl rfl rfl gbf) rfl rfl rfl ?_
 refine XO_or0 rfl rfl rfl rfl rfl ?_
 refine zM ?_
 refine XO_pushF 30 rfl rfl rfl ?_
 refine XO_v1 (ev_move rfl) (.some rfl rfl rfl rfl gbf) rfl rfl rfl ?_
 refine XO_v1 (ev_cmp rfl rfl rfl) (.some rfl rfl rfl rfl gbf) rfl rfl rfl ?_
 refine XO_or0 rfl rfl rfl rfl rfl ?_
 refine zM ?_
 refine XO_pushF 34 rfl rfl rfl ?_
 refine XO_v1 (ev_move rfl) (.some rfl rfl rfl rfl gbf) rfl rfl rfl ?_
 refine XO_v1 (ev_cmp rfl rfl rfl) (.some rfl rfl rfl rfl gbf) rfl rfl rfl ?_
 refine XO_or0 rfl rfl rfl rfl rfl ?_
 refine zM ?_
 refine XO_pushF 38 rfl rfl rfl ?_
 refine XO_v1 (ev_move rfl) (.some rfl rfl rfl rfl gbf) rfl rfl rfl ?_
 refine XO_v1 (ev_cmp rfl rfl rfl) (.some rfl rfl rfl rfl gbf) rfl rfl rfl ?_
 refine XO_or0 rfl rfl rfl rfl rfl ?_
 refine zM ?_
 refine XO_pushF 42 rfl rfl rfl ?_
 refine XO_v1 (ev_move rfl) (.some rfl rfl rfl rfl gbf) rfl rfl rfl ?_
 refine XO_v1 (ev_not rfl) (.some rfl rfl rfl rfl gbf) rfl rfl rfl ?_
 refine XO_or0 rfl rfl rfl rfl rfl ?_
 refine zM ?_
 refine XO_pushF 46 rfl rfl rfl ?_
 refine XO_v1 (ev_move rfl) (.some rfl rfl rfl rfl gbf) rfl rfl rfl ?_
 refine XO_v1 (ev_not rfl) (.some rfl rfl rfl rfl gbf) rfl rfl rfl ?_
 refine XO_or0 rfl rfl rfl rfl rfl ?_
 refine zM ?_
 refine XO_pushF 50 rfl rfl rfl ?_
 refine XO_v1 (ev_move rfl) (.some rfl rfl rfl rfl gbf) rfl rfl rfl ?_
 refine XO_or0 rfl rfl rfl rfl rfl ?_
 refine zM ?_
 refine XO_pushF 53 rfl rfl rfl ?_
 refine XO_v1 (ev_move rfl) (.some rfl rfl rfl rfl gbf) rfl rfl rfl ?_
 refine XO_v1 (ev_not rfl) (.some rfl rfl rfl rfl gbf) rfl rfl rfl ?_
 refine XO_or0 rfl rfl rfl rfl rfl ?_
 refine zM ?_
 refine XO_pushF 57 rfl rfl rfl ?_
 refine XO_v1 (ev_move rfl) (.some rfl rfl rfl rfl gbf) rfl rfl rfl ?_
 refine XO_or0 rfl rfl rfl rfl rfl ?_
 refine zM ?_
 refine XO_pushF 60 rfl rfl rfl ?_
 refine XO_v1 (ev_move rfl) (.some rfl rfl rfl rfl gbf) rfl rfl rfl ?_
 refine XO_v1 (ev_not rfl) (.some rfl rfl rfl rfl gbf) rfl rfl rfl ?_
 refine XO_or0 rfl rfl rfl rfl rfl ?_
 refine zM ?_
 refine XO_pushF 64 rfl rfl rfl ?_
 refine XO_v1 (ev_move rfl) (.some rfl rfl rfl rfl gbf) rfl rfl rfl ?_
 refine XO_v1 (ev_not rfl) (.some rfl rfl rfl rfl gbf) rfl rfl rfl ?_
 refine XO_or0 rfl rfl rfl rfl rfl ?_
 refine zM ?_
 refine XO_pushF 68 rfl rfl rfl ?_
 refine XO_v1 (ev_move rfl) (.some rfl rfl rfl rfl gbf) rfl rfl rfl ?_
 refine XO_v1 (ev_lenS rfl slt_23) (.some rfl rfl rfl rfl gbf) rfl rfl rfl ?_
 refine XO_v1 (ev_cmp rfl rfl rfl) (.some rfl rfl rfl rfl gbf) rfl rfl rfl ?_
 refine XO_or0 rfl rfl rfl rfl rfl ?_
 refine XO_nil (at_then ?_)
 refine X_cond rfl (fun hc176 => ?_) (fun hc176 => ?_)
 ·
  exact absurd hc176 (by first | decide | (simp only []; decide))
 ·
  refine X_skip ?_
  refine at_then ?_
  refine X_seq ?_
  refine X_seq (X_region ?_)
  refine XO_v0 (ev_buildL (ps := []) [_, _, _, _, _, _] plt_33 rfl rfl) rfl rfl rfl ?_
  refine XO_callV0 (cap := []) (vs := [_]) rfl rfl fun_20 (w_chkZ _) rfl rfl ?_
  refine zC ?_
  refine zM ?_
  refine XO_want (dj := 180) rfl rfl rfl ?_
  refine XO_v0 (ev_loadA rfl agt_33 (fun hg => by first | exact Cells.immC (vs := encPH rh1) h5z | exact Cells.here (vs := encCH ⟨ca, 3, cc, 1, 1, 9, 2, sa, 2, sc⟩) | exact Cells.here (vs := encCH ⟨ca, 3, cc, 1, 1, 9, 1, sa, 2, sc⟩) | exact (Cells.here (vs := encCH ⟨ca, 3, cc, 1, 1, 9, 2, sa, 2, sc⟩)).there | exact Cells.immC (vs := encPH rh1) h5 | (repeat (first | exact Cells.here | exact Cells.s0 (vs := [_, _, _, _, _, _]) rfl | apply Cells.there | apply Cells.app))) rfl) rfl rfl rfl ?_
  refine XO_want (dj := 180) rfl rfl rfl ?_
  refine XO_callV0 (cap := []) (vs := [_]) rfl rfl fun_20 (w_chkC hC2 d_two1) rfl rfl ?_
  rw [f_ck2]
  refine XO_want (dj := 180) rfl rfl rfl ?_
  refine zC ?_
  refine XO_v0 (ev_pickb rfl rfl rfl) rfl rfl rfl ?_
  refine zM ?_
  refine XO_want (dj := 185) rfl rfl rfl ?_
  refine XO_makeSlice mkt_23 rfl rfl (by omega) (by decide) rfl rfl (fun b_186 => ?_)
  refine XO_freeze .here (fun I20 hI20 hb20 => ?_)
  have hC1 := hC1.mono hI20
  have hP1 := hP1.mono hI20
  have hR1 := hR1.mono hI20
  have h5 := h5.mono hI20
  have h8 := h8.mono hI20
  have hG1 := hG1.mono hI20
  have hK1 := hK1.mono hI20
  have hC2 := hC2.mono hI20
  have hP2 := hP2.mono hI20
  have hP0 := hP0.mono hI20
  have hPs := hPs.mono hI20
  have hT1 := hT1.mono hI20
  have hT2 := hT2.mono hI20
  have hH3 := hH3.mono hI20
  have hF1 := hF1.mono hI20
  have hT3 := hT3.mono hI20
  have hG2 := hG2.mono hI20
  have hIc := hIc.trans hI20
  have hM17 : Sl I20 1 encI (some ⟨b_186, 0, none⟩) 17 17 manC.days := Sl.lit manC.days rfl encI_len (show I20 b_186 = some (Obj.cells ((manC.days : List Int).flatMap encI).toArray 3 (0, 0)) from hb20)
  refine XO_want (dj := 185) rfl rfl rfl ?_
  refine XO_v0 (ev_buildL (ps := [(0, _)]) [_, _, _, _, _, _] plt_33 rfl rfl) rfl rfl rfl ?_
  refine XO_want (dj := 185) rfl rfl rfl ?_
  refine XO_callV0 (cap := []) (vs := [_]) rfl rfl fun_20 (w_chkM hM17) rfl rfl ?_
  refine XO_want (dj := 185) rfl rfl rfl ?_
  refine zC ?_
  refine XO_v0 (ev_pickb rfl rfl rfl) rfl rfl rfl ?_
  refine XO_nil (at_then ?_)
  refine X_cond rfl (fun hc190 => ?_) (fun hc190 => ?_)
  ·
   exact absurd hc190 (by first | decide | (simp only []; decide))
  ·
   refine X_skip ?_
   refine at_then ?_
   refine X_seq (X_region ?_)
   refine zA ?_
   refine XO_nil (at_then ?_)
   refine X_seq ?_
   have h5z := h5
   have hD := HLe.refl I20
   refine X_drawC mixed ?_
   refine XD_take 0 rfl (ev_move rfl) (.none rfl) rfl rfl rfl (by kernel_rfl) (by kernel_rfl) (by kernel_rfl) noP_ok hD (by repeat (first | exact .refl | exact subL_nil | refine .keep ?_ | refine .drop ?_ | refine subL_add ?_)) ?_
   refine XD_one 1 rfl (by kernel_rfl) ?_
   refine XO_buildSlice (ps := [(0, _), (1, _)]) (m := [encI 0, encI 1]) elt_23 rfl (.cons rfl (.cons rfl (.nil))) rfl (by simp [encI_len]) (by decide) (by decide) rfl rfl (fun b_192 => ?_)
   refine XO_freeze (by repeat (first | exact Take.here | apply Take.there)) (fun I21 hI21 hb21 => ?_)
   have hC1 := hC1.mono hI21
   have hP1 := hP1.mono hI21
   have hR1 := hR1.mono hI21
   have h5 := h5.mono hI21
   have h8 := h8.mono hI21
   have hG1 := hG1.mono hI21
   have hK1 := hK1.mono hI21
   have hC2 := hC2.mono hI21
   have hP2 := hP2.mono hI21
   have hP0 := hP0.mono hI21
   have hPs := hPs.mono hI21
   have hT1 := hT1.mono hI21
   have hT2 := hT2.mono hI21
   have hH3 := hH3.mono hI21
   have hF1 := hF1.mono hI21
   have hT3 := hT3.mono hI21
   have hG2 := hG2.mono hI21
   have hIc := hIc.trans hI21
   have hD := hD.trans hI21
   have hL1 := Sl.lit ([0, 1] : List Int) rfl encI_len (show I21 b_192 = some (Obj.cells (([0, 1] : List Int).flatMap encI).toArray 3 (0, 0)) from hb21)
   refine XO_nil ?_
   refine zD hD ?_
   refine XD_one 2 rfl (by kernel_rfl) ?_
   refine XO_callV0 (cap := []) (vs := [_, _]) rfl rfl fun_23 (w_rSame hP1 (by decide) hL1) rfl rfl ?_
   refine XO_nil ?_
   refine zD hD ?_
   refine XD_take 3 rfl (ev_move rfl) (.none rfl) rfl rfl rfl (by kernel_rfl) (by kernel_rfl) (by kernel_rfl) noP_ok hD (by repeat (first | exact .refl | exact subL_nil | refine .keep ?_ | refine .drop ?_ | refine subL_add ?_)) ?_
   refine XD_takeW 4 rfl rfl rfl (dj := 194) rfl (ev_move rfl) rfl (by kernel_rfl) (by kernel_rfl) (by kernel_rfl) noP_ok hD (by repeat (first | exact .refl | exact subL_nil | refine .keep ?_ | refine .drop ?_ | refine subL_add ?_)) ?_
   refine XD_one 5 rfl (by kernel_rfl) ?_
   refine XO_want (dj := 194) rfl rfl rfl ?_
   refine XO_buildSlice (ps := [(0, _), (1, _)]) (m := [encI 0, encI 2]) elt_23 rfl (.cons rfl (.cons rfl (.nil))) rfl (by simp [encI_len]) (by decide) (by decide) rfl rfl (fun b_196 => ?_)
   refine XO_freeze (by repeat (first | exact Take.here | apply Take.there)) (fun I22 hI22 hb22 => ?_)
   have hC1 := hC1.mono hI22
   have hP1 := hP1.mono hI22
   have hR1 := hR1.mono hI22
   have h5 := h5.mono hI22
   have h8 := h8.mono hI22
   have hG1 := hG1.mono hI22
   have hK1 := hK1.mono hI22
   have hC2 := hC2.mono hI22
   have hP2 := hP2.mono hI22
   have hP0 := hP0.mono hI22
   have hPs := hPs.mono hI22
   have hT1 := hT1.mono hI22
   have hT2 := hT2.mono hI22
   have hH3 := hH3.mono hI22
   have hF1 := hF1.mono hI22
   have hT3 := hT3.mono hI22
   have hG2 := hG2.mono hI22
   have hL1 := hL1.mono hI22
   have hIc := hIc.trans hI22
   have hD := hD.trans hI22
   have hL2 := Sl.lit ([0, 2] : List Int) rfl encI_len (show I22 b_196 = some (Obj.cells (([0, 2] : List Int).flatMap encI).toArray 3 (0, 0)) from hb22)
   refine XO_nil ?_
   refine zD hD ?_
   refine XD_one 6 rfl (by kernel_rfl) ?_
   refine XO_want (dj := 194) rfl rfl rfl ?_
   refine XO_callV0 (cap := []) (vs := [_, _]) rfl rfl fun_23 (w_rSame hP2 (by decide) hL2) rfl rfl ?_
   refine XO_nil ?_
   refine zD hD ?_
   refine XD_take 7 rfl (ev_pickb rfl rfl rfl) (.none rfl) rfl rfl rfl (by kernel_rfl) (by kernel_rfl) (by kernel_rfl) noP_ok hD (by repeat (first | exact .refl | exact subL_nil | refine .keep ?_ | refine .drop ?_ | refine subL_add ?_)) ?_
   refine XD_take 8 rfl (ev_move rfl) (.none rfl) rfl rfl rfl (by kernel_rfl) (by kernel_rfl) (by kernel_rfl) noP_ok hD (by repeat (first | exact .refl | exact subL_nil | refine .keep ?_ | refine .drop ?_ | refine subL_add ?_)) ?_
   refine XD_takeW 9 rfl rfl rfl (dj := 199) rfl (ev_move rfl) rfl (by kernel_rfl) (by kernel_rfl) (by kernel_rfl) noP_ok hD (by repeat (first | exact .refl | exact subL_nil | refine .keep ?_ | refine .drop ?_ | refine subL_add ?_)) ?_
   refine XD_one 10 rfl (by kernel_rfl) ?_
   refine XO_want (dj := 199) rfl rfl rfl ?_
   refine XO_buildSlice (ps := [(0, _), (1, _)]) (m := [encI 0, encI 2]) elt_23 rfl (.cons rfl (.cons rfl (.nil))) rfl (by simp [encI_len]) (by decide) (by decide) rfl rfl (fun b_201 => ?_)
   refine XO_freeze (by repeat (first | exact Take.here | apply Take.there)) (fun I23 hI23 hb23 => ?_)
   have hC1 := hC1.mono hI23
   have hP1 := hP1.mono hI23
   have hR1 := hR1.mono hI23
   have h5 := h5.mono hI23
   have h8 := h8.mono hI23
   have hG1 := hG1.mono hI23
   have hK1 := hK1.mono hI23
   have hC2 := hC2.mono hI23
   have hP2 := hP2.mono hI23
   have hP0 := hP0.mono hI23
   have hPs := hPs.mono hI23
   have hT1 := hT1.mono hI23
   have hT2 := hT2.mono hI23
   have hH3 := hH3.mono hI23
   have hF1 := hF1.mono hI23
   have hT3 := hT3.mono hI23
   have hG2 := hG2.mono hI23
   have hL1 := hL1.mono hI23
   have hL2 := hL2.mono hI23
   have hIc := hIc.trans hI23
   have hD := hD.trans hI23
   have hL3 := Sl.lit ([0, 2] : List Int) rfl encI_len (show I23 b_201 = some (Obj.cells (([0, 2] : List Int).flatMap encI).toArray 3 (0, 0)) from hb23)
   refine XO_nil ?_
   refine zD hD ?_
   refine XD_takeW 11 rfl rfl rfl (dj := 199) rfl (ev_buildL (ps := [(0, _), (1, _), (2, _)]) [_, _, _, _] plt_58 rfl rfl) rfl (by kernel_rfl) (by kernel_rfl) (by kernel_rfl) noP_ok hD (by repeat (first | exact .refl | exact subL_nil | refine .keep ?_ | refine .drop ?_ | refine subL_add ?_)) ?_
   refine XD_one 12 rfl (by kernel_rfl) ?_
   refine XO_want (dj := 199) rfl rfl rfl ?_
   refine XO_buildSlice (ps := [(0, _)]) (m := [encSH ⟨2, 1, some ⟨b_201, 0, none⟩, 2, 2, none, 0, 0⟩]) elt_27 rfl (.cons rfl (.nil)) rfl (by simp [encSH_len]) (by decide) (by decide) rfl rfl (fun b_203 => ?_)
   refine XO_freeze (by repeat (first | exact Take.here | apply Take.there)) (fun I24 hI24 hb24 => ?_)
   have hC1 := hC1.mono hI24
   have hP1 := hP1.mono hI24
   have hR1 := hR1.mono hI24
   have h5 := h5.mono hI24
   have h8 := h8.mono hI24
   have hG1 := hG1.mono hI24
   have hK1 := hK1.mono hI24
   have hC2 := hC2.mono hI24
   have hP2 := hP2.mono hI24
   have hP0 := hP0.mono hI24
   have hPs := hPs.mono hI24
   have hT1 := hT1.mono hI24
   have hT2 := hT2.mono hI24
   have hH3 := hH3.mono hI24
   have hF1 := hF1.mono hI24
   have hT3 := hT3.mono hI24
   have hG2 := hG2.mono hI24
   have hL1 := hL1.mono hI24
   have hL2 := hL2.mono hI24
   have hL3 := hL3.mono hI24
   have hIc := hIc.trans hI24
   have hD := hD.trans hI24
   have hL4 := Sl.lit ([⟨2, 1, some ⟨b_201, 0, none⟩, 2, 2, none, 0, 0⟩] : List SH) rfl encSH_len (show I24 b_203 = some (Obj.cells (([⟨2, 1, some ⟨b_201, 0, none⟩, 2, 2, none, 0, 0⟩] : List SH).flatMap encSH).toArray 58 (0, 0)) from hb24)
   refine XO_nil ?_
   refine zD hD ?_
   refine XD_one 13 rfl (by kernel_rfl) ?_
   refine XO_want (dj := 199) rfl rfl rfl ?_
   refine XO_callV0 (cap := []) (vs := [_, _]) rfl rfl fun_14 (w_samS hF1.choose_spec (by decide) (by intro s hs; simp only [List.mem_singleton] at hs; subst hs; exact ⟨by decide, by decide⟩) (show SlSH I24 _ 1 1 [⟨2, 1, some ⟨b_201, 0, none⟩, 2, 2, none, 0, 0⟩] [⟨2, 1, [0, 2], []⟩] from ⟨hL4, RelS.nil.snoc ⟨rfl, rfl, hL3, Sl.nil⟩⟩)) rfl rfl ?_
   refine XO_nil ?_
   refine zD hD ?_
   refine XD_take 14 rfl (ev_pickb rfl rfl rfl) (.none rfl) rfl rfl rfl (by kernel_rfl) (by kernel_rfl) (by kernel_rfl) noP_ok hD (by repeat (first | exact .refl | exact subL_nil | refine .keep ?_ | refine .drop ?_ | refine subL_add ?_)) ?_
   refine XD_take 15 rfl (ev_move rfl) (.none rfl) rfl rfl rfl (by kernel_rfl) (by kernel_rfl) (by kernel_rfl) noP_ok hD (by repeat (first | exact .refl | exact subL_nil | refine .keep ?_ | refine .drop ?_ | refine subL_add ?_)) ?_
   refine XD_takeW 16 rfl rfl rfl (dj := 206) rfl (ev_move rfl) rfl (by kernel_rfl) (by kernel_rfl) (by kernel_rfl) noP_ok hD (by repeat (first | exact .refl | exact subL_nil | refine .keep ?_ | refine .drop ?_ | refine subL_add ?_)) ?_
   refine XD_takeW 17 rfl rfl rfl (dj := 206) rfl (ev_move rfl) rfl (by kernel_rfl) (by kernel_rfl) (by kernel_rfl) noP_ok hD (by repeat (first | exact .refl | exact subL_nil | refine .keep ?_ | refine .drop ?_ | refine subL_add ?_)) ?_
   refine XD_takeW 19 rfl rfl rfl (dj := 206) rfl (ev_move rfl) rfl (by kernel_rfl) (by kernel_rfl) (by kernel_rfl) noP_ok hD (by repeat (first | exact .refl | exact subL_nil | refine .keep ?_ | refine .drop ?_ | refine subL_add ?_)) ?_
   refine XD_takeW 21 rfl rfl rfl (dj := 206) rfl (ev_move rfl) rfl (by kernel_rfl) (by kernel_rfl) (by kernel_rfl) noP_ok hD (by repeat (first | exact .refl | exact subL_nil | refine .keep ?_ | refine .drop ?_ | refine subL_add ?_)) ?_
   refine XD_one 18 rfl (by kernel_rfl) ?_
   refine XO_want (dj := 206) rfl rfl rfl ?_
   refine XO_callV0 (cap := []) (vs := [_, _, _]) rfl rfl fun_38 (w_leafS _ _ _ _) rfl rfl ?_
   refine XO_nil ?_
   refine zD hD ?_
   refine XD_one 20 rfl (by kernel_rfl) ?_
   refine XO_want (dj := 206) rfl rfl rfl ?_
   refine XO_callV0 (cap := []) (vs := [_, _, _]) rfl rfl fun_38 (w_leafS _ _ _ _) rfl rfl ?_
   refine XO_nil ?_
   refine zD hD ?_
   refine XD_one 22 rfl (by kernel_rfl) ?_
   refine XO_want (dj := 206) rfl rfl rfl ?_
   refine XO_callV0 (cap := []) (vs := [_, _, _]) rfl rfl fun_38 (w_leafS _ _ _ _) rfl rfl ?_
   refine XO_nil ?_
   refine zD hD ?_
   refine XD_one 23 rfl (by kernel_rfl) ?_
   refine XO_want (dj := 206) rfl rfl rfl ?_
   refine XO_buildSlice (ps := [(0, _), (1, _), (2, _)]) (m := [encPH ⟨1, 1, 0, none, 0, 0⟩, encPH ⟨2, 1, 0, none, 0, 0⟩, encPH ⟨3, 1, 7, none, 0, 0⟩]) elt_35 rfl (.cons rfl (.cons rfl (.cons rfl (.nil)))) rfl (by simp [encPH_len]) (by decide) (by decide) rfl rfl (fun b_214 => ?_)
   refine XO_freeze (by repeat (first | exact Take.here | apply Take.there)) (fun I25 hI25 hb25 => ?_)
   have hC1 := hC1.mono hI25
   have hP1 := hP1.mono hI25
   have hR1 := hR1.mono hI25
   have h5 := h5.mono hI25
   have h8 := h8.mono hI25
   have hG1 := hG1.mono hI25
   have hK1 := hK1.mono hI25
   have hC2 := hC2.mono hI25
   have hP2 := hP2.mono hI25
   have hP0 := hP0.mono hI25
   have hPs := hPs.mono hI25
   have hT1 := hT1.mono hI25
   have hT2 := hT2.mono hI25
   have hH3 := hH3.mono hI25
   have hF1 := hF1.mono hI25
   have hT3 := hT3.mono hI25
   have hG2 := hG2.mono hI25
   have hL1 := hL1.mono hI25
   have hL2 := hL2.mono hI25
   have hL3 := hL3.mono hI25
   have hL4 := hL4.mono hI25
   have hIc := hIc.trans hI25
   have hD := hD.trans hI25
   have hL5 := Sl.lit [(⟨1, 1, 0, none, 0, 0⟩ : PH), (⟨2, 1, 0, none, 0, 0⟩ : PH), (⟨3, 1, 7, none, 0, 0⟩ : PH)] rfl encPH_len (show I25 b_214 = some (Obj.cells ([(⟨1, 1, 0, none, 0, 0⟩ : PH), (⟨2, 1, 0, none, 0, 0⟩ : PH), (⟨3, 1, 7, none, 0, 0⟩ : PH)].flatMap encPH).toArray 45 (0, 0)) from hb25)
   refine XO_nil ?_
   refine zD hD ?_
   refine XD_one 24 rfl (by kernel_rfl) ?_
   refine XO_want (dj := 206) rfl rfl rfl ?_
   refine XO_callV0 (cap := []) (vs := [_, _]) rfl rfl fun_22 (w_samPs hK1 (prsAt_lf [⟨1, 1, 0⟩, ⟨2, 1, 0⟩, ⟨3, 1, 7⟩]) (by decide) (sml_lf [⟨1, 1, 0⟩, ⟨2, 1, 0⟩, ⟨3, 1, 7⟩]) hL5 (prsAt_lf [⟨1, 1, 0⟩, ⟨2, 1, 0⟩, ⟨3, 1, 7⟩])) rfl rfl ?_
   refine XO_nil ?_
   refine zD hD ?_
   refine XD_take 25 rfl (ev_pickb rfl rfl rfl) (.none rfl) rfl rfl rfl (by kernel_rfl) (by kernel_rfl) (by kernel_rfl) noP_ok hD (by repeat (first | exact .refl | exact subL_nil | refine .keep ?_ | refine .drop ?_ | refine subL_add ?_)) ?_
   refine XD_take 26 rfl (ev_move rfl) (.none rfl) rfl rfl rfl (by kernel_rfl) (by kernel_rfl) (by kernel_rfl) noP_ok hD (by repeat (first | exact .refl | exact subL_nil | refine .keep ?_ | refine .drop ?_ | refine subL_add ?_)) ?_
   refine XD_takeW 27 rfl rfl rfl (dj := 217) rfl (ev_loadA rfl agt_45 (fun hg => by first | exact Cells.immC (vs := encPH rh1) h5z | exact Cells.here (vs := encCH ⟨ca, 3, cc, 1, 1, 9, 2, sa, 2, sc⟩) | exact Cells.here (vs := encCH ⟨ca, 3, cc, 1, 1, 9, 1, sa, 2, sc⟩) | exact (Cells.here (vs := encCH ⟨ca, 3, cc, 1, 1, 9, 2, sa, 2, sc⟩)).there | exact Cells.immC (vs := encPH rh1) h5 | (repeat (first | exact Cells.here | exact Cells.s0 (vs := [_, _, _, _]) rfl | apply Cells.there | apply Cells.app))) rfl) rfl (by kernel_rfl) (by kernel_rfl) (by kernel_rfl) noP_ok hD (by repeat (first | exact .refl | exact subL_nil | refine .keep ?_ | refine .drop ?_ | refine subL_add ?_)) ?_
   refine XD_takeW 29 rfl rfl rfl (dj := 217) rfl (ev_move rfl) rfl (by kernel_rfl) (by kernel_rfl) (by kernel_rfl) noP_ok hD (by repeat (first | exact .refl | exact subL_nil | refine .keep ?_ | refine .drop ?_ | refine subL_add ?_)) ?_
   refine XD_two 28 30 rfl rfl (by kernel_rfl) ?_ ?_
   ·
    refine XO_want (dj := 217) rfl rfl rfl ?_
    refine XO_buildSlice (ps := [(0, _)]) (m := [encPH rh1]) elt_35 rfl (.cons rfl (.nil)) rfl (by simp [encPH_len]) (by decide) (by decide) rfl rfl (fun b_219 => ?_)
    refine XO_freeze (by repeat (first | exact Take.here | apply Take.there)) (fun I26 hI26 hb26 => ?_)
    have hC1 := hC1.mono hI26
    have hP1 := hP1.mono hI26
    have hR1 := hR1.mono hI26
    have h5 := h5.mono hI26
    have h8 := h8.mono hI26
    have hG1 := hG1.mono hI26
    have hK1 := hK1.mono hI26
    have hC2 := hC2.mono hI26
    have hP2 := hP2.mono hI26
    have hP0 := hP0.mono hI26
    have hPs := hPs.mono hI26
    have hT1 := hT1.mono hI26
    have hT2 := hT2.mono hI26
    have hH3 := hH3.mono hI26
    have hF1 := hF1.mono hI26
    have hT3 := hT3.mono hI26
    have hG2 := hG2.mono hI26
    have hL1 := hL1.mono hI26
    have hL2 := hL2.mono hI26
    have hL3 := hL3.mono hI26
    have hL4 := hL4.mono hI26
    have hL5 := hL5.mono hI26
    have hIc := hIc.trans hI26
    have hD := hD.trans hI26
    have hL6 := Sl.lit ([rh1] : List PH) rfl encPH_len (show I26 b_219 = some (Obj.cells (([rh1] : List PH).flatMap encPH).toArray 45 (0, 0)) from hb26)
    refine XO_nil ?_
    refine zD hD ?_
    refine XD_one 30 rfl (by kernel_rfl) ?_
    refine XO_want (dj := 217) rfl rfl rfl ?_
    refine XO_callV0 (cap := []) (vs := [_, _, _]) rfl rfl fun_38 (w_leafS _ _ _ _) rfl rfl ?_
    refine XO_nil ?_
    refine zD hD ?_
    refine XD_one 31 rfl (by kernel_rfl) ?_
    refine XO_want (dj := 217) rfl rfl rfl ?_
    refine XO_buildSlice (ps := [(0, _)]) (m := [encPH ⟨1, 0, 0, none, 0, 0⟩]) elt_35 rfl (.cons rfl (.nil)) rfl (by simp [encPH_len]) (by decide) (by decide) rfl rfl (fun b_222 => ?_)
    refine XO_freeze (by repeat (first | exact Take.here | apply Take.there)) (fun I27 hI27 hb27 => ?_)
    have hC1 := hC1.mono hI27
    have hP1 := hP1.mono hI27
    have hR1 := hR1.mono hI27
    have h5 := h5.mono hI27
    have h8 := h8.mono hI27
    have hG1 := hG1.mono hI27
    have hK1 := hK1.mono hI27
    have hC2 := hC2.mono hI27
    have hP2 := hP2.mono hI27
    have hP0 := hP0.mono hI27
    have hPs := hPs.mono hI27
    have hT1 := hT1.mono hI27
    have hT2 := hT2.mono hI27
    have hH3 := hH3.mono hI27
    have hF1 := hF1.mono hI27
    have hT3 := hT3.mono hI27
    have hG2 := hG2.mono hI27
    have hL1 := hL1.mono hI27
    have hL2 := hL2.mono hI27
    have hL3 := hL3.mono hI27
    have hL4 := hL4.mono hI27
    have hL5 := hL5.mono hI27
    have hL6 := hL6.mono hI27
    have hIc := hIc.trans hI27
    have hD := hD.trans hI27
    have hL7 := Sl.lit [(⟨1, 0, 0, none, 0, 0⟩ : PH)] rfl encPH_len (show I27 b_222 = some (Obj.cells ([(⟨1, 0, 0, none, 0, 0⟩ : PH)].flatMap encPH).toArray 45 (0, 0)) from hb27)
    refine XO_nil ?_
    refine zD hD ?_
    refine XD_takeW 32 rfl rfl rfl (dj := 217) rfl (ev_buildL (ps := [(3, _)]) [_, _, _, _] plt_45 rfl rfl) rfl (by kernel_rfl) (by kernel_rfl) (by kernel_rfl) noP_ok hD (by repeat (first | exact .refl | exact subL_nil | refine .keep ?_ | refine .drop ?_ | refine subL_add ?_)) ?_
    refine XD_one 33 rfl (by kernel_rfl) ?_
    refine XO_want (dj := 217) rfl rfl rfl ?_
    refine XO_buildSlice (ps := [(0, _)]) (m := [encPH ⟨0, 0, 0, some ⟨b_222, 0, none⟩, 1, 1⟩]) elt_35 rfl (.cons rfl (.nil)) rfl (by simp [encPH_len]) (by decide) (by decide) rfl rfl (fun b_224 => ?_)
    refine XO_freeze (by repeat (first | exact Take.here | apply Take.there)) (fun I28 hI28 hb28 => ?_)
    have hC1 := hC1.mono hI28
    have hP1 := hP1.mono hI28
    have hR1 := hR1.mono hI28
    have h5 := h5.mono hI28
    have h8 := h8.mono hI28
    have hG1 := hG1.mono hI28
    have hK1 := hK1.mono hI28
    have hC2 := hC2.mono hI28
    have hP2 := hP2.mono hI28
    have hP0 := hP0.mono hI28
    have hPs := hPs.mono hI28
    have hT1 := hT1.mono hI28
    have hT2 := hT2.mono hI28
    have hH3 := hH3.mono hI28
    have hF1 := hF1.mono hI28
    have hT3 := hT3.mono hI28
    have hG2 := hG2.mono hI28
    have hL1 := hL1.mono hI28
    have hL2 := hL2.mono hI28
    have hL3 := hL3.mono hI28
    have hL4 := hL4.mono hI28
    have hL5 := hL5.mono hI28
    have hL6 := hL6.mono hI28
    have hL7 := hL7.mono hI28
    have hIc := hIc.trans hI28
    have hD := hD.trans hI28
    have hL8 := Sl.lit ([⟨0, 0, 0, some ⟨b_222, 0, none⟩, 1, 1⟩] : List PH) rfl encPH_len (show I28 b_224 = some (Obj.cells (([⟨0, 0, 0, some ⟨b_222, 0, none⟩, 1, 1⟩] : List PH).flatMap encPH).toArray 45 (0, 0)) from hb28)
    refine XO_nil ?_
    refine zD hD ?_
    refine XD_takeW 34 rfl rfl rfl (dj := 217) rfl (ev_buildL (ps := [(3, _)]) [_, _, _, _] plt_45 rfl rfl) rfl (by kernel_rfl) (by kernel_rfl) (by kernel_rfl) noP_ok hD (by repeat (first | exact .refl | exact subL_nil | refine .keep ?_ | refine .drop ?_ | refine subL_add ?_)) ?_
    refine XD_one 35 rfl (by kernel_rfl) ?_
    refine XO_want (dj := 217) rfl rfl rfl ?_
    refine XO_buildSlice (ps := [(0, _)]) (m := [encPH ⟨0, 0, 0, some ⟨b_224, 0, none⟩, 1, 1⟩]) elt_35 rfl (.cons rfl (.nil)) rfl (by simp [encPH_len]) (by decide) (by decide) rfl rfl (fun b_226 => ?_)
    refine XO_freeze (by repeat (first | exact Take.here | apply Take.there)) (fun I29 hI29 hb29 => ?_)
    have hC1 := hC1.mono hI29
    have hP1 := hP1.mono hI29
    have hR1 := hR1.mono hI29
    have h5 := h5.mono hI29
    have h8 := h8.mono hI29
    have hG1 := hG1.mono hI29
    have hK1 := hK1.mono hI29
    have hC2 := hC2.mono hI29
    have hP2 := hP2.mono hI29
    have hP0 := hP0.mono hI29
    have hPs := hPs.mono hI29
    have hT1 := hT1.mono hI29
    have hT2 := hT2.mono hI29
    have hH3 := hH3.mono hI29
    have hF1 := hF1.mono hI29
    have hT3 := hT3.mono hI29
    have hG2 := hG2.mono hI29
    have hL1 := hL1.mono hI29
    have hL2 := hL2.mono hI29
    have hL3 := hL3.mono hI29
    have hL4 := hL4.mono hI29
    have hL5 := hL5.mono hI29
    have hL6 := hL6.mono hI29
    have hL7 := hL7.mono hI29
    have hL8 := hL8.mono hI29
    have hIc := hIc.trans hI29
    have hD := hD.trans hI29
    have hL9 := Sl.lit ([⟨0, 0, 0, some ⟨b_224, 0, none⟩, 1, 1⟩] : List PH) rfl encPH_len (show I29 b_226 = some (Obj.cells (([⟨0, 0, 0, some ⟨b_224, 0, none⟩, 1, 1⟩] : List PH).flatMap encPH).toArray 45 (0, 0)) from hb29)
    refine XO_nil ?_
    refine zD hD ?_
    refine XD_one 36 rfl (by kernel_rfl) ?_
    refine XO_want (dj := 217) rfl rfl rfl ?_
    refine XO_callV0 (cap := []) (vs := [_, _]) rfl rfl fun_22 (w_samPs hL6 (xs := [prfP]) ⟨hR1, trivial⟩ (by simp) (by intro q hq; simp only [List.mem_singleton] at hq; subst hq; exact f_sm) hL9 (ys := [prfP]) ⟨PrAt.node hL8 ⟨PrAt.node hL7 ⟨PrAt.node Sl.nil PrsAt.nil, trivial⟩, trivial⟩, trivial⟩) rfl rfl ?_
    refine XO_nil ?_
    refine zD hD ?_
    refine XD_take 37 rfl (ev_pickb rfl rfl rfl) (.none rfl) rfl rfl rfl (by kernel_rfl) (by kernel_rfl) (by kernel_rfl) noP_ok hD (by repeat (first | exact .refl | exact subL_nil | refine .keep ?_ | refine .drop ?_ | refine subL_add ?_)) ?_
    refine XD_take 38 rfl (ev_assign rfl) (.none rfl) rfl rfl rfl (by kernel_rfl) (by kernel_rfl) (by kernel_rfl) noP_ok hD (by repeat (first | exact .refl | exact subL_nil | refine .keep ?_ | refine .drop ?_ | refine subL_add ?_)) ?_
    refine XD_done (by kernel_rfl) ?_
    refine at_noP ?_
    refine at_then ?_
    refine X_ret ?_
    exact at_ret1 rfl rfl (fun w hw => ⟨by rw [f_sp]; rfl, (hw.mono hIc).drop⟩)
   ·
    refine XO_want (dj := 217) rfl rfl rfl ?_
    refine XO_callV0 (cap := []) (vs := [_, _, _]) rfl rfl fun_38 (w_leafS _ _ _ _) rfl rfl ?_
    refine XO_nil ?_
    refine zD hD ?_
    refine XD_two 28 31 rfl rfl (by kernel_rfl) ?_ ?_
    ·
     refine XO_want (dj := 217) rfl rfl rfl ?_
     refine XO_buildSlice (ps := [(0, _)]) (m := [encPH rh1]) elt_35 rfl (.cons rfl (.nil)) rfl (by simp [encPH_len]) (by decide) (by decide) rfl rfl (fun b_219 => ?_)
     refine XO_freeze (by repeat (first | exact Take.here | apply Take.there)) (fun I30 hI30 hb30 => ?_)
     have hC1 := hC1.mono hI30
     have hP1 := hP1.mono hI30
     have hR1 := hR1.mono hI30
     have h5 := h5.mono hI30
     have h8 := h8.mono hI30
     have hG1 := hG1.mono hI30
     have hK1 := hK1.mono hI30
     have hC2 := hC2.mono hI30
     have hP2 := hP2.mono hI30
     have hP0 := hP0.mono hI30
     have hPs := hPs.mono hI30
     have hT1 := hT1.mono hI30
     have hT2 := hT2.mono hI30
     have hH3 := hH3.mono hI30
     have hF1 := hF1.mono hI30
     have hT3 := hT3.mono hI30
     have hG2 := hG2.mono hI30
     have hL1 := hL1.mono hI30
     have hL2 := hL2.mono hI30
     have hL3 := hL3.mono hI30
     have hL4 := hL4.mono hI30
     have hL5 := hL5.mono hI30
     have hIc := hIc.trans hI30
     have hD := hD.trans hI30
     have hL6 := Sl.lit ([rh1] : List PH) rfl encPH_len (show I30 b_219 = some (Obj.cells (([rh1] : List PH).flatMap encPH).toArray 45 (0, 0)) from hb30)
     refine XO_nil ?_
     refine zD hD ?_
     refine XD_one 31 rfl (by kernel_rfl) ?_
     refine XO_want (dj := 217) rfl rfl rfl ?_
     refine XO_buildSlice (ps := [(0, _)]) (m := [encPH ⟨1, 0, 0, none, 0, 0⟩]) elt_35 rfl (.cons rfl (.nil)) rfl (by simp [encPH_len]) (by decide) (by decide) rfl rfl (fun b_222 => ?_)
     refine XO_freeze (by repeat (first | exact Take.here | apply Take.there)) (fun I31 hI31 hb31 => ?_)
     have hC1 := hC1.mono hI31
     have hP1 := hP1.mono hI31
     have hR1 := hR1.mono hI31
     have h5 := h5.mono hI31
     have h8 := h8.mono hI31
     have hG1 := hG1.mono hI31
     have hK1 := hK1.mono hI31
     have hC2 := hC2.mono hI31
     have hP2 := hP2.mono hI31
     have hP0 := hP0.mono hI31
     have hPs := hPs.mono hI31
     have hT1 := hT1.mono hI31
     have hT2 := hT2.mono hI31
     have hH3 := hH3.mono hI31
     have hF1 := hF1.mono hI31
     have hT3 := hT3.mono hI31
     have hG2 := hG2.mono hI31
     have hL1 := hL1.mono hI31
     have hL2 := hL2.mono hI31
     have hL3 := hL3.mono hI31
     have hL4 := hL4.mono hI31
     have hL5 := hL5.mono hI31
     have hL6 := hL6.mono hI31
     have hIc := hIc.trans hI31
     have hD := hD.trans hI31
     have hL7 := Sl.lit [(⟨1, 0, 0, none, 0, 0⟩ : PH)] rfl encPH_len (show I31 b_222 = some (Obj.cells ([(⟨1, 0, 0, none, 0, 0⟩ : PH)].flatMap encPH).toArray 45 (0, 0)) from hb31)
     refine XO_nil ?_
     refine zD hD ?_
     refine XD_takeW 32 rfl rfl rfl (dj := 217) rfl (ev_buildL (ps := [(3, _)]) [_, _, _, _] plt_45 rfl rfl) rfl (by kernel_rfl) (by kernel_rfl) (by kernel_rfl) noP_ok hD (by repeat (first | exact .refl | exact subL_nil | refine .keep ?_ | refine .drop ?_ | refine subL_add ?_)) ?_
     refine XD_one 33 rfl (by kernel_rfl) ?_
     refine XO_want (dj := 217) rfl rfl rfl ?_
     refine XO_buildSlice (ps := [(0, _)]) (m := [encPH ⟨0, 0, 0, some ⟨b_222, 0, none⟩, 1, 1⟩]) elt_35 rfl (.cons rfl (.nil)) rfl (by simp [encPH_len]) (by decide) (by decide) rfl rfl (fun b_224 => ?_)
     refine XO_freeze (by repeat (first | exact Take.here | apply Take.there)) (fun I32 hI32 hb32 => ?_)
     have hC1 := hC1.mono hI32
     have hP1 := hP1.mono hI32
     have hR1 := hR1.mono hI32
     have h5 := h5.mono hI32
     have h8 := h8.mono hI32
     have hG1 := hG1.mono hI32
     have hK1 := hK1.mono hI32
     have hC2 := hC2.mono hI32
     have hP2 := hP2.mono hI32
     have hP0 := hP0.mono hI32
     have hPs := hPs.mono hI32
     have hT1 := hT1.mono hI32
     have hT2 := hT2.mono hI32
     have hH3 := hH3.mono hI32
     have hF1 := hF1.mono hI32
     have hT3 := hT3.mono hI32
     have hG2 := hG2.mono hI32
     have hL1 := hL1.mono hI32
     have hL2 := hL2.mono hI32
     have hL3 := hL3.mono hI32
     have hL4 := hL4.mono hI32
     have hL5 := hL5.mono hI32
     have hL6 := hL6.mono hI32
     have hL7 := hL7.mono hI32
     have hIc := hIc.trans hI32
     have hD := hD.trans hI32
     have hL8 := Sl.lit ([⟨0, 0, 0, some ⟨b_222, 0, none⟩, 1, 1⟩] : List PH) rfl encPH_len (show I32 b_224 = some (Obj.cells (([⟨0, 0, 0, some ⟨b_222, 0, none⟩, 1, 1⟩] : List PH).flatMap encPH).toArray 45 (0, 0)) from hb32)
     refine XO_nil ?_
     refine zD hD ?_
     refine XD_takeW 34 rfl rfl rfl (dj := 217) rfl (ev_buildL (ps := [(3, _)]) [_, _, _, _] plt_45 rfl rfl) rfl (by kernel_rfl) (by kernel_rfl) (by kernel_rfl) noP_ok hD (by repeat (first | exact .refl | exact subL_nil | refine .keep ?_ | refine .drop ?_ | refine subL_add ?_)) ?_
     refine XD_one 35 rfl (by kernel_rfl) ?_
     refine XO_want (dj := 217) rfl rfl rfl ?_
     refine XO_buildSlice (ps := [(0, _)]) (m := [encPH ⟨0, 0, 0, some ⟨b_224, 0, none⟩, 1, 1⟩]) elt_35 rfl (.cons rfl (.nil)) rfl (by simp [encPH_len]) (by decide) (by decide) rfl rfl (fun b_226 => ?_)
     refine XO_freeze (by repeat (first | exact Take.here | apply Take.there)) (fun I33 hI33 hb33 => ?_)
     have hC1 := hC1.mono hI33
     have hP1 := hP1.mono hI33
     have hR1 := hR1.mono hI33
     have h5 := h5.mono hI33
     have h8 := h8.mono hI33
     have hG1 := hG1.mono hI33
     have hK1 := hK1.mono hI33
     have hC2 := hC2.mono hI33
     have hP2 := hP2.mono hI33
     have hP0 := hP0.mono hI33
     have hPs := hPs.mono hI33
     have hT1 := hT1.mono hI33
     have hT2 := hT2.mono hI33
     have hH3 := hH3.mono hI33
     have hF1 := hF1.mono hI33
     have hT3 := hT3.mono hI33
     have hG2 := hG2.mono hI33
     have hL1 := hL1.mono hI33
     have hL2 := hL2.mono hI33
     have hL3 := hL3.mono hI33
     have hL4 := hL4.mono hI33
     have hL5 := hL5.mono hI33
     have hL6 := hL6.mono hI33
     have hL7 := hL7.mono hI33
     have hL8 := hL8.mono hI33
     have hIc := hIc.trans hI33
     have hD := hD.trans hI33
     have hL9 := Sl.lit ([⟨0, 0, 0, some ⟨b_224, 0, none⟩, 1, 1⟩] : List PH) rfl encPH_len (show I33 b_226 = some (Obj.cells (([⟨0, 0, 0, some ⟨b_224, 0, none⟩, 1, 1⟩] : List PH).flatMap encPH).toArray 45 (0, 0)) from hb33)
     refine XO_nil ?_
     refine zD hD ?_
     refine XD_one 36 rfl (by kernel_rfl) ?_
     refine XO_want (dj := 217) rfl rfl rfl ?_
     refine XO_callV0 (cap := []) (vs := [_, _]) rfl rfl fun_22 (w_samPs hL6 (xs := [prfP]) ⟨hR1, trivial⟩ (by simp) (by intro q hq; simp only [List.mem_singleton] at hq; subst hq; exact f_sm) hL9 (ys := [prfP]) ⟨PrAt.node hL8 ⟨PrAt.node hL7 ⟨PrAt.node Sl.nil PrsAt.nil, trivial⟩, trivial⟩, trivial⟩) rfl rfl ?_
     refine XO_nil ?_
     refine zD hD ?_
     refine XD_take 37 rfl (ev_pickb rfl rfl rfl) (.none rfl) rfl rfl rfl (by kernel_rfl) (by kernel_rfl) (by kernel_rfl) noP_ok hD (by repeat (first | exact .refl | exact subL_nil | refine .keep ?_ | refine .drop ?_ | refine subL_add ?_)) ?_
     refine XD_take 38 rfl (ev_assign rfl) (.none rfl) rfl rfl rfl (by kernel_rfl) (by kernel_rfl) (by kernel_rfl) noP_ok hD (by repeat (first | exact .refl | exact subL_nil | refine .keep ?_ | refine .drop ?_ | refine subL_add ?_)) ?_
     refine XD_done (by kernel_rfl) ?_
     refine at_noP ?_
     refine at_then ?_
     refine X_ret ?_
     exact at_ret1 rfl rfl (fun w hw => ⟨by rw [f_sp]; rfl, (hw.mono hIc).drop⟩)
    ·
     refine XO_want (dj := 217) rfl rfl rfl ?_
     refine XO_buildSlice (ps := [(0, _)]) (m := [encPH ⟨1, 0, 0, none, 0, 0⟩]) elt_35 rfl (.cons rfl (.nil)) rfl (by simp [encPH_len]) (by decide) (by decide) rfl rfl (fun b_222 => ?_)
     refine XO_freeze (by repeat (first | exact Take.here | apply Take.there)) (fun I34 hI34 hb34 => ?_)
     have hC1 := hC1.mono hI34
     have hP1 := hP1.mono hI34
     have hR1 := hR1.mono hI34
     have h5 := h5.mono hI34
     have h8 := h8.mono hI34
     have hG1 := hG1.mono hI34
     have hK1 := hK1.mono hI34
     have hC2 := hC2.mono hI34
     have hP2 := hP2.mono hI34
     have hP0 := hP0.mono hI34
     have hPs := hPs.mono hI34
     have hT1 := hT1.mono hI34
     have hT2 := hT2.mono hI34
     have hH3 := hH3.mono hI34
     have hF1 := hF1.mono hI34
     have hT3 := hT3.mono hI34
     have hG2 := hG2.mono hI34
     have hL1 := hL1.mono hI34
     have hL2 := hL2.mono hI34
     have hL3 := hL3.mono hI34
     have hL4 := hL4.mono hI34
     have hL5 := hL5.mono hI34
     have hIc := hIc.trans hI34
     have hD := hD.trans hI34
     have hL7 := Sl.lit [(⟨1, 0, 0, none, 0, 0⟩ : PH)] rfl encPH_len (show I34 b_222 = some (Obj.cells ([(⟨1, 0, 0, none, 0, 0⟩ : PH)].flatMap encPH).toArray 45 (0, 0)) from hb34)
     refine XO_nil ?_
     refine zD hD ?_
     refine XD_takeW 32 rfl rfl rfl (dj := 217) rfl (ev_buildL (ps := [(3, _)]) [_, _, _, _] plt_45 rfl rfl) rfl (by kernel_rfl) (by kernel_rfl) (by kernel_rfl) noP_ok hD (by repeat (first | exact .refl | exact subL_nil | refine .keep ?_ | refine .drop ?_ | refine subL_add ?_)) ?_
     refine XD_two 28 33 rfl rfl (by kernel_rfl) ?_ ?_
     ·
      refine XO_want (dj := 217) rfl rfl rfl ?_
      refine XO_buildSlice (ps := [(0, _)]) (m := [encPH rh1]) elt_35 rfl (.cons rfl (.nil)) rfl (by simp [encPH_len]) (by decide) (by decide) rfl rfl (fun b_219 => ?_)
      refine XO_freeze (by repeat (first | exact Take.here | apply Take.there)) (fun I35 hI35 hb35 => ?_)
      have hC1 := hC1.mono hI35
      have hP1 := hP1.mono hI35
      have hR1 := hR1.mono hI35
      have h5 := h5.mono hI35
      have h8 := h8.mono hI35
      have hG1 := hG1.mono hI35
      have hK1 := hK1.mono hI35
      have hC2 := hC2.mono hI35
      have hP2 := hP2.mono hI35
      have hP0 := hP0.mono hI35
      have hPs := hPs.mono hI35
      have hT1 := hT1.mono hI35
      have hT2 := hT2.mono hI35
      have hH3 := hH3.mono hI35
      have hF1 := hF1.mono hI35
      have hT3 := hT3.mono hI35
      have hG2 := hG2.mono hI35
      have hL1 := hL1.mono hI35
      have hL2 := hL2.mono hI35
      have hL3 := hL3.mono hI35
      have hL4 := hL4.mono hI35
      have hL5 := hL5.mono hI35
      have hL7 := hL7.mono hI35
      have hIc := hIc.trans hI35
      have hD := hD.trans hI35
      have hL6 := Sl.lit ([rh1] : List PH) rfl encPH_len (show I35 b_219 = some (Obj.cells (([rh1] : List PH).flatMap encPH).toArray 45 (0, 0)) from hb35)
      refine XO_nil ?_
      refine zD hD ?_
      refine XD_one 33 rfl (by kernel_rfl) ?_
      refine XO_want (dj := 217) rfl rfl rfl ?_
      refine XO_buildSlice (ps := [(0, _)]) (m := [encPH ⟨0, 0, 0, some ⟨b_222, 0, none⟩, 1, 1⟩]) elt_35 rfl (.cons rfl (.nil)) rfl (by simp [encPH_len]) (by decide) (by decide) rfl rfl (fun b_224 => ?_)
      refine XO_freeze (by repeat (first | exact Take.here | apply Take.there)) (fun I36 hI36 hb36 => ?_)
      have hC1 := hC1.mono hI36
      have hP1 := hP1.mono hI36
      have hR1 := hR1.mono hI36
      have h5 := h5.mono hI36
      have h8 := h8.mono hI36
      have hG1 := hG1.mono hI36
      have hK1 := hK1.mono hI36
      have hC2 := hC2.mono hI36
      have hP2 := hP2.mono hI36
      have hP0 := hP0.mono hI36
      have hPs := hPs.mono hI36
      have hT1 := hT1.mono hI36
      have hT2 := hT2.mono hI36
      have hH3 := hH3.mono hI36
      have hF1 := hF1.mono hI36
      have hT3 := hT3.mono hI36
      have hG2 := hG2.mono hI36
      have hL1 := hL1.mono hI36
      have hL2 := hL2.mono hI36
      have hL3 := hL3.mono hI36
      have hL4 := hL4.mono hI36
      have hL5 := hL5.mono hI36
      have hL7 := hL7.mono hI36
      have hL6 := hL6.mono hI36
      have hIc := hIc.trans hI36
      have hD := hD.trans hI36
      have hL8 := Sl.lit ([⟨0, 0, 0, some ⟨b_222, 0, none⟩, 1, 1⟩] : List PH) rfl encPH_len (show I36 b_224 = some (Obj.cells (([⟨0, 0, 0, some ⟨b_222, 0, none⟩, 1, 1⟩] : List PH).flatMap encPH).toArray 45 (0, 0)) from hb36)
      refine XO_nil ?_
      refine zD hD ?_
      refine XD_takeW 34 rfl rfl rfl (dj := 217) rfl (ev_buildL (ps := [(3, _)]) [_, _, _, _] plt_45 rfl rfl) rfl (by kernel_rfl) (by kernel_rfl) (by kernel_rfl) noP_ok hD (by repeat (first | exact .refl | exact subL_nil | refine .keep ?_ | refine .drop ?_ | refine subL_add ?_)) ?_
      refine XD_one 35 rfl (by kernel_rfl) ?_
      refine XO_want (dj := 217) rfl rfl rfl ?_
      refine XO_buildSlice (ps := [(0, _)]) (m := [encPH ⟨0, 0, 0, some ⟨b_224, 0, none⟩, 1, 1⟩]) elt_35 rfl (.cons rfl (.nil)) rfl (by simp [encPH_len]) (by decide) (by decide) rfl rfl (fun b_226 => ?_)
      refine XO_freeze (by repeat (first | exact Take.here | apply Take.there)) (fun I37 hI37 hb37 => ?_)
      have hC1 := hC1.mono hI37
      have hP1 := hP1.mono hI37
      have hR1 := hR1.mono hI37
      have h5 := h5.mono hI37
      have h8 := h8.mono hI37
      have hG1 := hG1.mono hI37
      have hK1 := hK1.mono hI37
      have hC2 := hC2.mono hI37
      have hP2 := hP2.mono hI37
      have hP0 := hP0.mono hI37
      have hPs := hPs.mono hI37
      have hT1 := hT1.mono hI37
      have hT2 := hT2.mono hI37
      have hH3 := hH3.mono hI37
      have hF1 := hF1.mono hI37
      have hT3 := hT3.mono hI37
      have hG2 := hG2.mono hI37
      have hL1 := hL1.mono hI37
      have hL2 := hL2.mono hI37
      have hL3 := hL3.mono hI37
      have hL4 := hL4.mono hI37
      have hL5 := hL5.mono hI37
      have hL7 := hL7.mono hI37
      have hL6 := hL6.mono hI37
      have hL8 := hL8.mono hI37
      have hIc := hIc.trans hI37
      have hD := hD.trans hI37
      have hL9 := Sl.lit ([⟨0, 0, 0, some ⟨b_224, 0, none⟩, 1, 1⟩] : List PH) rfl encPH_len (show I37 b_226 = some (Obj.cells (([⟨0, 0, 0, some ⟨b_224, 0, none⟩, 1, 1⟩] : List PH).flatMap encPH).toArray 45 (0, 0)) from hb37)
      refine XO_nil ?_
      refine zD hD ?_
      refine XD_one 36 rfl (by kernel_rfl) ?_
      refine XO_want (dj := 217) rfl rfl rfl ?_
      refine XO_callV0 (cap := []) (vs := [_, _]) rfl rfl fun_22 (w_samPs hL6 (xs := [prfP]) ⟨hR1, trivial⟩ (by simp) (by intro q hq; simp only [List.mem_singleton] at hq; subst hq; exact f_sm) hL9 (ys := [prfP]) ⟨PrAt.node hL8 ⟨PrAt.node hL7 ⟨PrAt.node Sl.nil PrsAt.nil, trivial⟩, trivial⟩, trivial⟩) rfl rfl ?_
      refine XO_nil ?_
      refine zD hD ?_
      refine XD_take 37 rfl (ev_pickb rfl rfl rfl) (.none rfl) rfl rfl rfl (by kernel_rfl) (by kernel_rfl) (by kernel_rfl) noP_ok hD (by repeat (first | exact .refl | exact subL_nil | refine .keep ?_ | refine .drop ?_ | refine subL_add ?_)) ?_
      refine XD_take 38 rfl (ev_assign rfl) (.none rfl) rfl rfl rfl (by kernel_rfl) (by kernel_rfl) (by kernel_rfl) noP_ok hD (by repeat (first | exact .refl | exact subL_nil | refine .keep ?_ | refine .drop ?_ | refine subL_add ?_)) ?_
      refine XD_done (by kernel_rfl) ?_
      refine at_noP ?_
      refine at_then ?_
      refine X_ret ?_
      exact at_ret1 rfl rfl (fun w hw => ⟨by rw [f_sp]; rfl, (hw.mono hIc).drop⟩)
     ·
      refine XO_want (dj := 217) rfl rfl rfl ?_
      refine XO_buildSlice (ps := [(0, _)]) (m := [encPH ⟨0, 0, 0, some ⟨b_222, 0, none⟩, 1, 1⟩]) elt_35 rfl (.cons rfl (.nil)) rfl (by simp [encPH_len]) (by decide) (by decide) rfl rfl (fun b_224 => ?_)
      refine XO_freeze (by repeat (first | exact Take.here | apply Take.there)) (fun I38 hI38 hb38 => ?_)
      have hC1 := hC1.mono hI38
      have hP1 := hP1.mono hI38
      have hR1 := hR1.mono hI38
      have h5 := h5.mono hI38
      have h8 := h8.mono hI38
      have hG1 := hG1.mono hI38
      have hK1 := hK1.mono hI38
      have hC2 := hC2.mono hI38
      have hP2 := hP2.mono hI38
      have hP0 := hP0.mono hI38
      have hPs := hPs.mono hI38
      have hT1 := hT1.mono hI38
      have hT2 := hT2.mono hI38
      have hH3 := hH3.mono hI38
      have hF1 := hF1.mono hI38
      have hT3 := hT3.mono hI38
      have hG2 := hG2.mono hI38
      have hL1 := hL1.mono hI38
      have hL2 := hL2.mono hI38
      have hL3 := hL3.mono hI38
      have hL4 := hL4.mono hI38
      have hL5 := hL5.mono hI38
      have hL7 := hL7.mono hI38
      have hIc := hIc.trans hI38
      have hD := hD.trans hI38
      have hL8 := Sl.lit ([⟨0, 0, 0, some ⟨b_222, 0, none⟩, 1, 1⟩] : List PH) rfl encPH_len (show I38 b_224 = some (Obj.cells (([⟨0, 0, 0, some ⟨b_222, 0, none⟩, 1, 1⟩] : List PH).flatMap encPH).toArray 45 (0, 0)) from hb38)
      refine XO_nil ?_
      refine zD hD ?_
      refine XD_takeW 34 rfl rfl rfl (dj := 217) rfl (ev_buildL (ps := [(3, _)]) [_, _, _, _] plt_45 rfl rfl) rfl (by kernel_rfl) (by kernel_rfl) (by kernel_rfl) noP_ok hD (by repeat (first | exact .refl | exact subL_nil | refine .keep ?_ | refine .drop ?_ | refine subL_add ?_)) ?_
      refine XD_two 28 35 rfl rfl (by kernel_rfl) ?_ ?_
      ·
       refine XO_want (dj := 217) rfl rfl rfl ?_
       refine XO_buildSlice (ps := [(0, _)]) (m := [encPH rh1]) elt_35 rfl (.cons rfl (.nil)) rfl (by simp [encPH_len]) (by decide) (by decide) rfl rfl (fun b_219 => ?_)
       refine XO_freeze (by repeat (first | exact Take.here | apply Take.there)) (fun I39 hI39 hb39 => ?_)
       have hC1 := hC1.mono hI39
       have hP1 := hP1.mono hI39
       have hR1 := hR1.mono hI39
       have h5 := h5.mono hI39
       have h8 := h8.mono hI39
       have hG1 := hG1.mono hI39
       have hK1 := hK1.mono hI39
       have hC2 := hC2.mono hI39
       have hP2 := hP2.mono hI39
       have hP0 := hP0.mono hI39
       have hPs := hPs.mono hI39
       have hT1 := hT1.mono hI39
       have hT2 := hT2.mono hI39
       have hH3 := hH3.mono hI39
       have hF1 := hF1.mono hI39
       have hT3 := hT3.mono hI39
       have hG2 := hG2.mono hI39
       have hL1 := hL1.mono hI39
       have hL2 := hL2.mono hI39
       have hL3 := hL3.mono hI39
       have hL4 := hL4.mono hI39
       have hL5 := hL5.mono hI39
       have hL7 := hL7.mono hI39
       have hL8 := hL8.mono hI39
       have hIc := hIc.trans hI39
       have hD := hD.trans hI39
       have hL6 := Sl.lit ([rh1] : List PH) rfl encPH_len (show I39 b_219 = some (Obj.cells (([rh1] : List PH).flatMap encPH).toArray 45 (0, 0)) from hb39)
       refine XO_nil ?_
       refine zD hD ?_
       refine XD_one 35 rfl (by kernel_rfl) ?_
       refine XO_want (dj := 217) rfl rfl rfl ?_
       refine XO_buildSlice (ps := [(0, _)]) (m := [encPH ⟨0, 0, 0, some ⟨b_224, 0, none⟩, 1, 1⟩]) elt_35 rfl (.cons rfl (.nil)) rfl (by simp [encPH_len]) (by decide) (by decide) rfl rfl (fun b_226 => ?_)
       refine XO_freeze (by repeat (first | exact Take.here | apply Take.there)) (fun I40 hI40 hb40 => ?_)
       have hC1 := hC1.mono hI40
       have hP1 := hP1.mono hI40
       have hR1 := hR1.mono hI40
       have h5 := h5.mono hI40
       have h8 := h8.mono hI40
       have hG1 := hG1.mono hI40
       have hK1 := hK1.mono hI40
       have hC2 := hC2.mono hI40
       have hP2 := hP2.mono hI40
       have hP0 := hP0.mono hI40
       have hPs := hPs.mono hI40
       have hT1 := hT1.mono hI40
       have hT2 := hT2.mono hI40
       have hH3 := hH3.mono hI40
       have hF1 := hF1.mono hI40
       have hT3 := hT3.mono hI40
       have hG2 := hG2.mono hI40
       have hL1 := hL1.mono hI40
       have hL2 := hL2.mono hI40
       have hL3 := hL3.mono hI40
       have hL4 := hL4.mono hI40
       have hL5 := hL5.mono hI40
       have hL7 := hL7.mono hI40
       have hL8 := hL8.mono hI40
       have hL6 := hL6.mono hI40
       have hIc := hIc.trans hI40
       have hD := hD.trans hI40
       have hL9 := Sl.lit ([⟨0, 0, 0, some ⟨b_224, 0, none⟩, 1, 1⟩] : List PH) rfl encPH_len (show I40 b_226 = some (Obj.cells (([⟨0, 0, 0, some ⟨b_224, 0, none⟩, 1, 1⟩] : List PH).flatMap encPH).toArray 45 (0, 0)) from hb40)
       refine XO_nil ?_
       refine zD hD ?_
       refine XD_one 36 rfl (by kernel_rfl) ?_
       refine XO_want (dj := 217) rfl rfl rfl ?_
       refine XO_callV0 (cap := []) (vs := [_, _]) rfl rfl fun_22 (w_samPs hL6 (xs := [prfP]) ⟨hR1, trivial⟩ (by simp) (by intro q hq; simp only [List.mem_singleton] at hq; subst hq; exact f_sm) hL9 (ys := [prfP]) ⟨PrAt.node hL8 ⟨PrAt.node hL7 ⟨PrAt.node Sl.nil PrsAt.nil, trivial⟩, trivial⟩, trivial⟩) rfl rfl ?_
       refine XO_nil ?_
       refine zD hD ?_
       refine XD_take 37 rfl (ev_pickb rfl rfl rfl) (.none rfl) rfl rfl rfl (by kernel_rfl) (by kernel_rfl) (by kernel_rfl) noP_ok hD (by repeat (first | exact .refl | exact subL_nil | refine .keep ?_ | refine .drop ?_ | refine subL_add ?_)) ?_
       refine XD_take 38 rfl (ev_assign rfl) (.none rfl) rfl rfl rfl (by kernel_rfl) (by kernel_rfl) (by kernel_rfl) noP_ok hD (by repeat (first | exact .refl | exact subL_nil | refine .keep ?_ | refine .drop ?_ | refine subL_add ?_)) ?_
       refine XD_done (by kernel_rfl) ?_
       refine at_noP ?_
       refine at_then ?_
       refine X_ret ?_
       exact at_ret1 rfl rfl (fun w hw => ⟨by rw [f_sp]; rfl, (hw.mono hIc).drop⟩)
      ·
       refine XO_want (dj := 217) rfl rfl rfl ?_
       refine XO_buildSlice (ps := [(0, _)]) (m := [encPH ⟨0, 0, 0, some ⟨b_224, 0, none⟩, 1, 1⟩]) elt_35 rfl (.cons rfl (.nil)) rfl (by simp [encPH_len]) (by decide) (by decide) rfl rfl (fun b_226 => ?_)
       refine XO_freeze (by repeat (first | exact Take.here | apply Take.there)) (fun I41 hI41 hb41 => ?_)
       have hC1 := hC1.mono hI41
       have hP1 := hP1.mono hI41
       have hR1 := hR1.mono hI41
       have h5 := h5.mono hI41
       have h8 := h8.mono hI41
       have hG1 := hG1.mono hI41
       have hK1 := hK1.mono hI41
       have hC2 := hC2.mono hI41
       have hP2 := hP2.mono hI41
       have hP0 := hP0.mono hI41
       have hPs := hPs.mono hI41
       have hT1 := hT1.mono hI41
       have hT2 := hT2.mono hI41
       have hH3 := hH3.mono hI41
       have hF1 := hF1.mono hI41
       have hT3 := hT3.mono hI41
       have hG2 := hG2.mono hI41
       have hL1 := hL1.mono hI41
       have hL2 := hL2.mono hI41
       have hL3 := hL3.mono hI41
       have hL4 := hL4.mono hI41
       have hL5 := hL5.mono hI41
       have hL7 := hL7.mono hI41
       have hL8 := hL8.mono hI41
       have hIc := hIc.trans hI41
       have hD := hD.trans hI41
       have hL9 := Sl.lit ([⟨0, 0, 0, some ⟨b_224, 0, none⟩, 1, 1⟩] : List PH) rfl encPH_len (show I41 b_226 = some (Obj.cells (([⟨0, 0, 0, some ⟨b_224, 0, none⟩, 1, 1⟩] : List PH).flatMap encPH).toArray 45 (0, 0)) from hb41)
       refine XO_nil ?_
       refine zD hD ?_
       refine XD_one 28 rfl (by kernel_rfl) ?_
       refine XO_want (dj := 217) rfl rfl rfl ?_
       refine XO_buildSlice (ps := [(0, _)]) (m := [encPH rh1]) elt_35 rfl (.cons rfl (.nil)) rfl (by simp [encPH_len]) (by decide) (by decide) rfl rfl (fun b_219 => ?_)
       refine XO_freeze (by repeat (first | exact Take.here | apply Take.there)) (fun I42 hI42 hb42 => ?_)
       have hC1 := hC1.mono hI42
       have hP1 := hP1.mono hI42
       have hR1 := hR1.mono hI42
       have h5 := h5.mono hI42
       have h8 := h8.mono hI42
       have hG1 := hG1.mono hI42
       have hK1 := hK1.mono hI42
       have hC2 := hC2.mono hI42
       have hP2 := hP2.mono hI42
       have hP0 := hP0.mono hI42
       have hPs := hPs.mono hI42
       have hT1 := hT1.mono hI42
       have hT2 := hT2.mono hI42
       have hH3 := hH3.mono hI42
       have hF1 := hF1.mono hI42
       have hT3 := hT3.mono hI42
       have hG2 := hG2.mono hI42
       have hL1 := hL1.mono hI42
       have hL2 := hL2.mono hI42
       have hL3 := hL3.mono hI42
       have hL4 := hL4.mono hI42
       have hL5 := hL5.mono hI42
       have hL7 := hL7.mono hI42
       have hL8 := hL8.mono hI42
       have hL9 := hL9.mono hI42
       have hIc := hIc.trans hI42
       have hD := hD.trans hI42
       have hL6 := Sl.lit ([rh1] : List PH) rfl encPH_len (show I42 b_219 = some (Obj.cells (([rh1] : List PH).flatMap encPH).toArray 45 (0, 0)) from hb42)
       refine XO_nil ?_
       refine zD hD ?_
       refine XD_one 36 rfl (by kernel_rfl) ?_
       refine XO_want (dj := 217) rfl rfl rfl ?_
       refine XO_callV0 (cap := []) (vs := [_, _]) rfl rfl fun_22 (w_samPs hL6 (xs := [prfP]) ⟨hR1, trivial⟩ (by simp) (by intro q hq; simp only [List.mem_singleton] at hq; subst hq; exact f_sm) hL9 (ys := [prfP]) ⟨PrAt.node hL8 ⟨PrAt.node hL7 ⟨PrAt.node Sl.nil PrsAt.nil, trivial⟩, trivial⟩, trivial⟩) rfl rfl ?_
       refine XO_nil ?_
       refine zD hD ?_
       refine XD_take 37 rfl (ev_pickb rfl rfl rfl) (.none rfl) rfl rfl rfl (by kernel_rfl) (by kernel_rfl) (by kernel_rfl) noP_ok hD (by repeat (first | exact .refl | exact subL_nil | refine .keep ?_ | refine .drop ?_ | refine subL_add ?_)) ?_
       refine XD_take 38 rfl (ev_assign rfl) (.none rfl) rfl rfl rfl (by kernel_rfl) (by kernel_rfl) (by kernel_rfl) noP_ok hD (by repeat (first | exact .refl | exact subL_nil | refine .keep ?_ | refine .drop ?_ | refine subL_add ?_)) ?_
       refine XD_done (by kernel_rfl) ?_
       refine at_noP ?_
       refine at_then ?_
       refine X_ret ?_
       exact at_ret1 rfl rfl (fun w hw => ⟨by rw [f_sp]; rfl, (hw.mono hIc).drop⟩)
end Go.Proofs.YtehkiccapbkhnaaGreat
end
section
namespace Go.Proofs.YtehkiccapbkhnaaGreat
open Go Go.Kn Go.Proofs
def okAt (c : Cr) (pl : List Int) (i : Nat) : Bool := match c.ss[i]? with | some s => okH c pl i (pl.getD i 0) s | none => true
def allT (c : Cr) (pl : List Int) (i : Nat) : Bool := (List.range i).all (okAt c pl)
theorem allT_0 (c : Cr) (pl : List Int) : allT c pl 0 = true := rfl
theorem allT_step {c : Cr} {pl : List Int} {i : Nat} (h : allT c pl i = true) (ho : okAt c pl i = true) : allT c pl (i + 1) = true := by
  unfold allT at *; rw [List.range_succ, List.all_append, h]; simp [ho]
theorem okAt_eq {c : Cr} {pl : List Int} {i : Nat} {d : Int} {s : Ses} (hd : pl[i]? = some d) (hs : c.ss[i]? = some s) : okAt c pl i = okH c pl i d s := by
  unfold okAt; rw [hs]; simp only [List.getD_eq_getElem?_getD, hd, Option.getD_some]
theorem allH_T {c : Cr} {pl : List Int} {i : Nat} (hi : pl.length = i) : allH c pl = allT c pl i := by subst hi; rfl
theorem allH_no {c : Cr} {pl : List Int} {i : Nat} (hi : i < pl.length) (h : okAt c pl i = false) : allH c pl = false := by
  show (List.range pl.length).all (okAt c pl) = false
  rw [List.all_eq_false]
  exact ⟨i, List.mem_range.2 hi, by rw [h]; decide⟩
def stuE (pl : List Int) : List (Int × Int) := pl.map fun d => (d, 0)
theorem stuE_snoc {pl : List Int} {i : Nat} {d : Int} (h : pl[i]? = some d) : stuE (pl.take (i + 1)) = stuE (pl.take i) ++ [(d, 0)] := by
  unfold stuE; rw [List.take_add_one, h, List.map_append]; rfl
theorem stuE_cnt (pl : List Int) (d : Int) : cntE (stuE pl) d = manyF pl d := by
  unfold cntE stuE manyF
  rw [List.filter_map, List.length_map]
  have : ((fun e : Int × Int => decide (e.1 = d)) ∘ fun d => (d, (0 : Int))) = fun x => x == d := by funext x; rw [Bool.eq_iff_iff]; simp
  rw [this]
/-- The people of a session, one after another. -/
def whoB (c : Cr) (es : List ((Int × Int) × Int)) (at' : Int × Int) : Bool := decide (cntE es at' > c.da) || decide (sumE es at' > c.lo)
def whoT (c : Cr) (pl : List Int) (i : Nat) (d : Int) (s : Ses) (j : Nat) : Bool := (List.range j).all fun j => !whoB c (evs c (pl.take i) ++ (evS (dayF c d) s).take (j + 1)) (s.who.getD j 0, dayF c d)
theorem okH_eq (c : Cr) (pl : List Int) (i : Nat) (d : Int) (s : Ses) : okH c pl i d s = ((decide (0 ≤ d) && decide (d < c.days.length)) && !decide (manyF (pl.take (i + 1)) d > c.st) && !s.needs.any (fun k => decide (pl.getD k.toNat 0 ≥ d)) && whoT c pl i d s s.who.length) := rfl
theorem whoT_0 (c : Cr) (pl : List Int) (i : Nat) (d : Int) (s : Ses) : whoT c pl i d s 0 = true := rfl
theorem whoT_step {c : Cr} {pl : List Int} {i : Nat} {d : Int} {s : Ses} {j : Nat} {p : Int} (h : whoT c pl i d s j = true) (hp : s.who[j]? = some p) (hb : whoB c (evs c (pl.take i) ++ (evS (dayF c d) s).take (j + 1)) (p, dayF c d) = false) : whoT c pl i d s (j + 1) = true := by
  unfold whoT at *
  rw [List.range_succ, List.all_append, h]
  have : s.who.getD j 0 = p := by rw [List.getD_eq_getElem?_getD, hp]; rfl
  simp only [List.all_cons, List.all_nil, this, hb, Bool.not_false, Bool.and_true]
theorem whoT_bad {c : Cr} {pl : List Int} {i : Nat} {d : Int} {s : Ses} {j : Nat} {p : Int} (hp : s.who[j]? = some p) (hb : whoB c (evs c (pl.take i) ++ (evS (dayF c d) s).take (j + 1)) (p, dayF c d) = true) : whoT c pl i d s s.who.length = false := by
  unfold whoT
  rw [List.all_eq_false]
  refine ⟨j, List.mem_range.2 (List.getElem?_eq_some_iff.1 hp).1, ?_⟩
  have : s.who.getD j 0 = p := by rw [List.getD_eq_getElem?_getD, hp]; rfl
  rw [this, hb]; decide
theorem evS_snoc {x : Int} {s : Ses} {j : Nat} {p : Int} (h : s.who[j]? = some p) : (evS x s).take (j + 1) = (evS x s).take j ++ [((p, x), s.ef)] := by
  rw [List.take_add_one]; unfold evS; rw [List.getElem?_map, h]; rfl
theorem evS_all {x : Int} {s : Ses} {j : Nat} (h : s.who.length ≤ j) : (evS x s).take j = evS x s := List.take_of_length_le (by unfold evS; rw [List.length_map]; exact h)
theorem look_entry {α : Type} [DecidableEq α] (m : List (α × Int)) (a : α) : (mget (mset m a ((mget m a).getD 0)) a).getD 0 = (mget m a).getD 0 := by rw [mget_mset, if_pos rfl]; rfl
theorem evs_len {c : Cr} (h8 : c.ss.length ≤ 8) (hw : ∀ s ∈ c.ss, s.who.length ≤ 6) (pl : List Int) : (evs c pl).length ≤ 48 := by
  have key : ∀ zs : List (Int × Ses), (∀ q ∈ zs, q.2.who.length ≤ 6) → (zs.flatMap fun q => evS (dayF c q.1) q.2).length ≤ 6 * zs.length := by
    intro zs
    induction zs with
    | nil => intro _; simp
    | cons q zs ih =>
      intro h
      have h1 := ih fun x hx => h x (by simp [hx])
      have h2 := h q (by simp)
      simp only [List.flatMap_cons, List.length_append, List.length_cons]
      unfold evS at *
      rw [List.length_map]; omega
  have := key (pl.zip c.ss) fun q hq => by obtain ⟨i, _, h2⟩ := mem_zip hq; exact hw _ (List.mem_of_getElem? h2)
  have h2 : (pl.zip c.ss).length ≤ 8 := by rw [List.length_zip]; omega
  unfold evs; omega
def rowKB (c : Cr) (pl : List Int) (q : (Int × Int) × Int) : Bool := rowB (fun j => decide (cntE (evs c pl) (q.1.1, q.1.2 - j) > 0)) c.ru
def rowS (c : Cr) (pl : List Int) (seen : List Nat) : Prop := ∀ i ∈ seen, ∀ q, (cntM (evs c pl))[i]? = some q → rowKB c pl q = false
theorem rowS_nil (c : Cr) (pl : List Int) : rowS c pl [] := fun i hi => by cases hi
theorem rowS_snoc {c : Cr} {pl : List Int} {seen : List Nat} {i : Nat} {q : (Int × Int) × Int} (h : rowS c pl seen) (hq : (cntM (evs c pl))[i]? = some q) (hb : rowKB c pl q = false) : rowS c pl (seen ++ [i]) := fun k hk r hr => by
  rcases List.mem_append.1 hk with hk | hk
  · exact h k hk r hr
  · simp at hk; subst hk; rw [hq] at hr; cases hr; exact hb
theorem rowS_all {c : Cr} {pl : List Int} {seen : List Nat} (h : rowS c pl seen) (hall : ∀ (i : Nat) (q : (Int × Int) × Int), (cntM (evs c pl))[i]? = some q → i ∈ seen) : rowsH c pl = true := by
  unfold rowsH
  refine List.all_eq_true.2 fun q hq => ?_
  obtain ⟨i, hi⟩ := List.mem_iff_getElem?.1 hq
  have := h i (hall i q hi) q hi
  unfold rowKB at this
  rw [this]; rfl
theorem rowS_bad {c : Cr} {pl : List Int} {i : Nat} {q : (Int × Int) × Int} (hq : (cntM (evs c pl))[i]? = some q) (hb : rowKB c pl q = true) : rowsH c pl = false := by
  unfold rowsH
  rw [List.all_eq_false]
  unfold rowKB at hb
  exact ⟨q, List.mem_of_getElem? hq, by rw [hb]; decide⟩
theorem holds_1 {c : Cr} {pl : List Int} (h : pl.length ≠ c.ss.length) : holdsF c pl = false := by unfold holdsF; rw [decide_eq_false h]; rfl
theorem holds_2 {c : Cr} {pl : List Int} (h : allH c pl = false) : holdsF c pl = false := by unfold holdsF; rw [h, Bool.and_false]; rfl
theorem holds_3 {c : Cr} {pl : List Int} (h : rowsH c pl = false) : holdsF c pl = false := by unfold holdsF; rw [h, Bool.and_false]
theorem holds_4 {c : Cr} {pl : List Int} (h0 : pl.length = c.ss.length) (h : allH c pl = true) (g : rowsH c pl = true) : holdsF c pl = true := by unfold holdsF; rw [decide_eq_true h0, h, g]; rfl
theorem okH_1 {c : Cr} {pl : List Int} {i : Nat} {d : Int} {s : Ses} (h : (decide (d < 0) || decide (d ≥ (c.days.length : Int))) = true) : okH c pl i d s = false := by
  have : (decide (0 ≤ d) && decide (d < (c.days.length : Int))) = false := by
    rw [Bool.and_eq_false_iff]; simp at h ⊢; omega
  rw [okH_eq, this]; rfl
theorem okH_2 {c : Cr} {pl : List Int} {i : Nat} {d : Int} {s : Ses} (h : decide (manyF (pl.take (i + 1)) d > c.st) = true) : okH c pl i d s = false := by rw [okH_eq, h]; simp
theorem okH_3 {c : Cr} {pl : List Int} {i : Nat} {d : Int} {s : Ses} (h : s.needs.any (fun k => decide (pl.getD k.toNat 0 ≥ d)) = true) : okH c pl i d s = false := by rw [okH_eq, h]; simp
theorem okH_4 {c : Cr} {pl : List Int} {i : Nat} {d : Int} {s : Ses} (h : whoT c pl i d s s.who.length = false) : okH c pl i d s = false := by rw [okH_eq, h, Bool.and_false]
theorem okH_5 {c : Cr} {pl : List Int} {i : Nat} {d : Int} {s : Ses} (h1 : (decide (d < 0) || decide (d ≥ (c.days.length : Int))) = false) (h2 : decide (manyF (pl.take (i + 1)) d > c.st) = false) (h3 : s.needs.any (fun k => decide (pl.getD k.toNat 0 ≥ d)) = false) (h4 : whoT c pl i d s s.who.length = true) : okH c pl i d s = true := by
  have : (decide (0 ≤ d) && decide (d < (c.days.length : Int))) = true := by
    rw [Bool.and_eq_true]; simp at h1 ⊢; omega
  rw [okH_eq, this, h2, h3, h4]; rfl
theorem allT_in {c : Cr} {pl : List Int} {i : Nat} (hl : pl.length = c.ss.length) (h : allT c pl i = true) (hi : pl.length ≤ i) : InR c pl := by
  refine allH_rng hl ?_
  show (List.range pl.length).all (okAt c pl) = true
  refine List.all_eq_true.2 fun j hj => List.all_eq_true.1 h j (List.mem_range.2 ?_)
  have := List.mem_range.1 hj; omega
end Go.Proofs.YtehkiccapbkhnaaGreat
end
section
namespace Go.Proofs.YtehkiccapbkhnaaGreat
open Go Go.Kn Go.Proofs
/-- What has happened when session i has begun and j of its people are counted. -/
def esJ (c : Cr) (pl : List Int) (i : Nat) (x : Int) (s : Ses) (j : Nat) : List ((Int × Int) × Int) := evs c (pl.take i) ++ (evS x s).take j
theorem esJ_0 {c : Cr} {pl : List Int} {i : Nat} {x : Int} {s : Ses} : esJ c pl i x s 0 = evs c (pl.take i) := by unfold esJ; simp
theorem esJ_put {c : Cr} {pl : List Int} {i : Nat} {x : Int} {s : Ses} {j : Nat} {p : Int} (h : s.who[j]? = some p) : esJ c pl i x s j ++ [((p, x), s.ef)] = esJ c pl i x s (j + 1) := by
  unfold esJ; rw [evS_snoc h, List.append_assoc]
theorem cntM_J {c : Cr} {pl : List Int} {i : Nat} {x : Int} {s : Ses} {j : Nat} {p : Int} (h : s.who[j]? = some p) : mset (cntM (esJ c pl i x s j)) (p, x) ((mget (cntM (esJ c pl i x s j)) (p, x)).getD 0 + 1) = cntM (esJ c pl i x s (j + 1)) := by
  rw [← esJ_put h]; exact (cntM_snoc (esJ c pl i x s j) ((p, x), s.ef)).symm
theorem sumM_J {c : Cr} {pl : List Int} {i : Nat} {x : Int} {s : Ses} {j : Nat} {p : Int} (h : s.who[j]? = some p) : mset (sumM (esJ c pl i x s j)) (p, x) ((mget (sumM (esJ c pl i x s j)) (p, x)).getD 0 + s.ef) = sumM (esJ c pl i x s (j + 1)) := by
  rw [← esJ_put h]; exact (sumM_snoc (esJ c pl i x s j) ((p, x), s.ef)).symm
theorem stu_M {pl : List Int} {i : Nat} {d : Int} (h : pl[i]? = some d) : mset (cntM (stuE (pl.take i))) d ((mget (cntM (stuE (pl.take i))) d).getD 0 + 1) = cntM (stuE (pl.take (i + 1))) := by
  rw [stuE_snoc h]; exact (cntM_snoc (stuE (pl.take i)) (d, 0)).symm
theorem esJ_end {c : Cr} {pl : List Int} {i j : Nat} {d : Int} {s : Ses} (h : pl[i]? = some d) (hs : c.ss[i]? = some s) (hj : s.who.length ≤ j) : esJ c pl i (dayF c d) s j = evs c (pl.take (i + 1)) := by
  unfold esJ; rw [evS_all hj, evs_snoc h hs]
theorem esJ_len {c : Cr} (h8 : c.ss.length ≤ 8) (hw : ∀ s ∈ c.ss, s.who.length ≤ 6) {pl : List Int} {i j : Nat} {x : Int} {s : Ses} (hs : c.ss[i]? = some s) : (esJ c pl i x s j).length ≤ 54 := by
  have h1 := evs_len h8 hw (pl.take i)
  have h2 := hw s (List.mem_of_getElem? hs)
  unfold esJ
  rw [List.length_append, List.length_take]
  have : (evS x s).length = s.who.length := by unfold evS; rw [List.length_map]
  omega
theorem esJ_ef {c : Cr} (hc : rightF c = true) {pl : List Int} {i j : Nat} {x : Int} {s : Ses} (hs : c.ss[i]? = some s) : ∀ e ∈ esJ c pl i x s j, 0 ≤ e.2 ∧ e.2 ≤ 16 := fun e he => by
  unfold esJ at he
  rcases List.mem_append.1 he with h | h
  · exact evs_ef hc e h
  · have h := List.mem_of_mem_take h
    unfold evS at h
    simp only [List.mem_map] at h
    obtain ⟨p, _, rfl⟩ := h
    have := (right_ses hc hs).ef
    show 0 ≤ s.ef ∧ s.ef ≤ 16
    omega
theorem evs_top {c : Cr} (hc : rightF c = true) {pl : List Int} (hin : InR c pl) {p y : Int} (h : cntE (evs c pl) (p, y) > 0) : 0 ≤ y ∧ y ≤ 73048 := by
  have h' : busyF c pl y p = true := by rw [← evs_busy]; exact decide_eq_true h
  unfold busyF at h'
  obtain ⟨q, hq, hp⟩ := List.any_eq_true.1 h'
  simp only [Bool.and_eq_true, beq_iff_eq] at hp
  obtain ⟨i, h1, _⟩ := mem_zip hq
  have hr := hin _ (List.mem_of_getElem? h1)
  have hl : q.1.toNat < c.days.length := by omega
  have := (head_ok hc).day _ (List.getElem_mem hl)
  have e : dayF c q.1 = c.days[q.1.toNat] := by unfold dayF; rw [List.getD_eq_getElem?_getD, List.getElem?_eq_getElem hl]; rfl
  omega
theorem whoB_eq {c : Cr} {es : List ((Int × Int) × Int)} {a : Int × Int} {x y : Int} (h1 : x = c.da) (h2 : y = c.lo) : (decide ((mget (cntM es) a).getD 0 > x) || decide ((mget (sumM es) a).getD 0 > y)) = whoB c es a := by
  rw [cntM_get, sumM_get, h1, h2]; rfl
theorem whoT_stepJ {c : Cr} {pl : List Int} {i : Nat} {d : Int} {s : Ses} {j : Nat} {p : Int} (h : whoT c pl i d s j = true) (hp : s.who[j]? = some p) (hb : whoB c (esJ c pl i (dayF c d) s (j + 1)) (p, dayF c d) = false) : whoT c pl i d s (j + 1) = true := whoT_step h hp hb
theorem whoT_badJ {c : Cr} {pl : List Int} {i : Nat} {d : Int} {s : Ses} {j : Nat} {p : Int} (hp : s.who[j]? = some p) (hb : whoB c (esJ c pl i (dayF c d) s (j + 1)) (p, dayF c d) = true) : whoT c pl i d s s.who.length = false := whoT_bad hp hb
theorem whoT_all {c : Cr} {pl : List Int} {i j : Nat} {d : Int} {s : Ses} (h : whoT c pl i d s j = true) (hj : s.who.length = j) : whoT c pl i d s s.who.length = true := by rw [hj]; exact h
end Go.Proofs.YtehkiccapbkhnaaGreat
end
section
namespace Go.Proofs.YtehkiccapbkhnaaGreat
open Go Go.Kn Go.Proofs
theorem agt_108 : AgT Tryz.prog 108 2 := .of (by kernel_rfl)
theorem ar2_108 : Ar2 Tryz.prog 108 3 .i64 := ⟨by kernel_rfl, by kernel_rfl, by kernel_rfl, by kernel_rfl, by kernel_rfl⟩
theorem art_108 : ArT Tryz.prog 108 2 3 1 := .of (by kernel_rfl)
theorem fun_15 : Fun Tryz.prog 15 := .of Tryz.func15 (by kernel_rfl) (by kernel_rfl)
theorem fun_21 : Fun Tryz.prog 21 := .of Tryz.func21 (by kernel_rfl) (by kernel_rfl)
theorem key_108 : KeyOK (α := Int × Int) Tryz.prog 108 encK2 := key_arr2 ar2_108
theorem mpt_107 : MpT Tryz.prog 107 108 3 (.int .i64 0) := ⟨by kernel_rfl, .of (by kernel_rfl)⟩
theorem szt_108 : SzT Tryz.prog 108 2 := .of (by kernel_rfl)
theorem zt_108 : ZeroT Tryz.prog 108 (.agg #[(.int .i64 0), (.int .i64 0)]) := .of (by kernel_rfl)
theorem w_right40 {I : HMap} {x : CH} {cr : Cr} (hC : CrAt I x cr) : RetV Tryz.prog 29 [encCHA x] I (.bool (fewC cr && decide (chkC cr = 0))) := by
 intro g H w hw
 refine enter Tryz.func29 rfl Tryz.ntmps29 rfl hw ?_
 have hIc := HLe.refl I
 refine X_seq (X_region ?_)
 refine XO_box rfl rfl rfl (fun b_1 => ?_)
 refine zA ?_
 refine XO_nil (at_then ?_)
 refine X_seq ?_
 refine X_freeze .here (fun I1 hI1 hb1 => ?_)
 have hC := hC.mono hI1
 have hIc := hIc.trans hI1
 have h1 := ImmC.of hb1
 refine X_region ?_
 refine XO_v0 (ev_loadA rfl agt_33 (fun hg => by first | exact Cells.immC h1 | (repeat (first | exact Cells.here | exact Cells.s0 (vs := [_, _, _, _, _, _]) rfl | apply Cells.there | apply Cells.app))) rfl) rfl rfl rfl ?_
 refine XO_callV0 (cap := []) (vs := [_]) rfl rfl fun_15 (w_rFew hC) rfl rfl ?_
 refine zM ?_
 refine XO_pushT 2 rfl rfl rfl ?_
 refine XO_v1 (ev_loadA rfl agt_33 (fun hg => by first | exact Cells.immC h1 | (repeat (first | exact Cells.here | exact Cells.s0 (vs := [_, _, _, _, _, _]) rfl | apply Cells.there | apply Cells.app))) rfl) (.some rfl rfl rfl rfl gbt) rfl rfl rfl ?_
 refine XO_callV1 (cap := []) (vs := [_]) rfl rfl fun_21 (fun hg => w_rChk hC (fun s hs => Nat.le_trans ((few_bd (by simpa [conj] using hg)).2.2 s hs).2 (by decide)) (fun s hs => Nat.le_trans ((few_bd (by simpa [conj] using hg)).2.2 s hs).1 (by decide))) (.some rfl rfl rfl rfl gbt) rfl rfl ?_
 refine XO_v1 (ev_cmp rfl rfl rfl) (.some rfl rfl rfl rfl gbt) rfl rfl rfl ?_
 refine XO_and0 rfl rfl rfl rfl rfl ?_
 refine zA ?_
 refine XO_nil (at_then ?_)
 refine X_ret ?_
 exact at_ret1 rfl rfl (fun w hw => ⟨by rfl, (hw.mono hIc).drop⟩)
theorem w_holds {I : HMap} {x : CH} {cr : Cr} (hC : CrAt I x cr) (hr : rightF cr = true) (h16 : cr.days.length ≤ 16) (h8 : cr.ss.length ≤ 8) (hwh : ∀ s ∈ cr.ss, s.who.length ≤ 6) (hnd : ∀ s ∈ cr.ss, s.needs.length ≤ 100000) {av : Option Addr} {n c : Nat} {pl : List Int} (hS : Sl I 1 encI av n c pl) (hn : n ≤ 100000) : RetV Tryz.prog 30 [encCHA x, .slice av n c] I (.bool (holdsF cr pl)) := by
 intro g H w hw
 refine enter Tryz.func30 rfl Tryz.ntmps30 rfl hw ?_
 have hIc := HLe.refl I
 obtain ⟨hD, e1, e2, e3, e4, hss⟩ := id hC
 obtain ⟨hs, hH⟩ := hss
 have hlD := hD.len
 have hlS := hH.len
 have hlP := hS.len
 refine X_seq (X_region ?_)
 refine XO_box rfl rfl rfl (fun b_2 => ?_)
 refine zA ?_
 refine XO_nil (at_then ?_)
 refine X_seq ?_
 refine X_seq ?_
 refine X_freeze .here (fun I1 hI1 hb1 => ?_)
 have hC := hC.mono hI1
 have hS := hS.mono hI1
 have hD := hD.mono hI1
 have hH := hH.mono hI1
 have hIc := hIc.trans hI1
 have h2 := ImmC.of hb1
 refine X_region ?_
 refine zM ?_
 refine XO_v0 (ev_lenS rfl slt_23) rfl rfl rfl ?_
 refine XO_v0 (ev_fieldAddr rfl fld_33_5) rfl rfl rfl ?_
 refine XO_v0 (ev_load rfl sct_27 (fun hg => by first | exact Cell.imm h2 rfl | exact Cell.imm h9 rfl | exact Sl.get0 hS hx rfl | exact Sl.get0 hS hw0 rfl | exact Sl.get0 hN hp rfl | exact Sl.get0 hW hp rfl | exact Sl.get0 hD hdt rfl | (repeat (first | exact Cell.here rfl | apply Cell.there | apply Cell.app)))) rfl rfl rfl ?_
 refine XO_v0 (ev_lenS rfl slt_27) rfl rfl rfl ?_
 refine zC ?_
 refine XO_nil (at_then ?_)
 refine X_cond rfl (fun hc23 => ?_) (fun hc23 => ?_)
 ·
  have hne : pl.length ≠ cr.ss.length := fun e => by have h := hc23; simp at h; omega
  have hF : holdsF cr pl = false := holds_1 hne
  refine X_seq (X_region ?_)
  refine zA ?_
  refine XO_nil (at_then ?_)
  refine X_ret ?_
  refine at_then_r ?_
  exact at_ret1 rfl rfl (fun w hw => ⟨by rw [hF], (hw.mono hIc).drop⟩)
 ·
  have hnn : n = x.n2 := by have h := hc23; simp at h; omega
  refine X_skip ?_
  refine at_then ?_
  refine X_seq (X_region ?_)
  refine XO_makeMap rfl rfl (fun r_24 => ?_)
  refine zA ?_
  refine XO_nil (at_then (X_seq (X_region ?_)))
  refine XO_makeMap rfl rfl (fun r_25 => ?_)
  refine XO_makeMap rfl rfl (fun r_26 => ?_)
  refine zA ?_
  refine zA ?_
  refine XO_nil (at_then ?_)
  refine X_seq ?_
  refine X_seq (X_region ?_)
  refine XO_v0 (ev_fieldAddr rfl fld_33_5) rfl rfl rfl ?_
  refine XO_v0 (ev_load rfl sct_27 (fun hg => by first | exact Cell.imm h2 rfl | exact Cell.imm h9 rfl | exact Sl.get0 hS hx rfl | exact Sl.get0 hS hw0 rfl | exact Sl.get0 hN hp rfl | exact Sl.get0 hW hp rfl | exact Sl.get0 hD hdt rfl | (repeat (first | exact Cell.here rfl | apply Cell.there | apply Cell.app)))) rfl rfl rfl ?_
  refine XO_v0 (ev_lenS rfl slt_27) rfl rfl rfl ?_
  refine zM ?_
  refine XO_nil (at_then ?_)
  refine X_block ?_
  refine X_loopT [(1, _), (2, _), (5, _), (6, _), (7, _), (28, _), (29, _)] (.cons rfl (.cons rfl (.cons rfl (.cons rfl (.cons rfl (.cons rfl (.cons rfl .nil))))))) (fun T L0 mz E I' loc' => ∃ (k : Nat), mz = n - k ∧ E = (30, .int .i64 k) :: T ∧ HLe I1 I' ∧ [(r_26, mapO encK2 (Value.int .i64) (sumM (evs cr (pl.take k)))), (r_25, mapO encK2 (Value.int .i64) (cntM (evs cr (pl.take k)))), (r_24, mapO (Value.int .i64) (Value.int .i64) (cntM (stuE (pl.take k))))] = loc' ∧ k ≤ n ∧ allT cr pl k = true) _ _ _ _ ⟨0, rfl, rfl, HLe.refl _, rfl, Nat.zero_le _, allT_0 cr pl⟩ (.cons rfl (.cons rfl (.cons rfl (.cons rfl (.cons rfl (.cons rfl (.cons rfl (.cons rfl .nil)))))))) (HLe.refl _) rfl ?_
  rintro mz E J2 loc' ⟨k, rfl, rfl, hJ, rfl, hk, hal⟩
  have hC := hC.mono hJ
  have hS := hS.mono hJ
  have hD := hD.mono hJ
  have hH := hH.mono hJ
  have h2 := h2.mono hJ
  have hIc := hIc.trans hJ
  have hB0 := hJ
  refine X_seq (X_region ?_)
  refine zC ?_
  refine XO_nil (at_then ?_)
  refine X_seq ?_
  refine X_cond rfl (fun hc31 => ?_) (fun hc31 => ?_)
  ·
   have hlt_k : k < n := by have h := hc31; simp at h; omega
   obtain ⟨d0, hx⟩ := hS.at hlt_k
   obtain ⟨z, s, hy, hy2, q1, q2, hW, hN⟩ := hH.at (show k < x.n2 by omega)
   have hlN := hN.len
   have hlW := hW.len
   have hww := hwh s (List.mem_of_getElem? hy2)
   have hnn9 := hnd s (List.mem_of_getElem? hy2)
   have hso := right_ses hr hy2
   refine X_skip ?_
   refine at_then ?_
   refine X_seq ?_
   refine X_block ?_
   refine X_seq (X_region ?_)
   refine zM ?_
   refine XO_v0 (ev_indexSl rfl rfl slt_27 hH.1 (fun hg => by first | omega | (simp [conj] at hg; omega))) rfl rfl rfl ?_
   refine XO_v0 (ev_loadA rfl agt_58 (fun hg => by first | exact Cells.immC h2 | exact Sl.getA hH.1 hy | exact Cells.immC (vs := [.int .i64 pp, .int .i64 (dayF cr (dn : Int))]) h15 | (repeat (first | exact Cells.here | exact Cells.s0 (vs := [_, _, _, _]) rfl | apply Cells.there | apply Cells.app))) rfl) rfl rfl rfl ?_
   refine XO_alloc zt_58 rfl rfl (fun b_9 => ?_)
   refine zA ?_
   refine XO_storeA rfl rfl szt_58 rfl rfl rfl rfl (by repeat (first | exact Upd.here | apply Upd.there | apply upd_app)) ?_
   refine XO_nil (at_then ?_)
   refine X_seq ?_
   refine X_freeze .here (fun I3 hI3 hb3 => ?_)
   have hC := hC.mono hI3
   have hS := hS.mono hI3
   have hD := hD.mono hI3
   have hH := hH.mono hI3
   have h2 := h2.mono hI3
   have hN := hN.mono hI3
   have hW := hW.mono hI3
   have hIc := hIc.trans hI3
   have hB0 := hB0.trans hI3
   have h9 := ImmC.of hb3
   refine X_region ?_
   refine zM ?_
   refine zM ?_
   refine XO_v0 (ev_indexSl rfl rfl slt_23 hS (fun hg => by first | omega | (simp [conj] at hg; omega))) rfl rfl rfl ?_
   refine XO_v0 (ev_load rfl sct_3 (fun hg => by first | exact Cell.imm h2 rfl | exact Cell.imm h9 rfl | exact Sl.get0 hS hx rfl | exact Sl.get0 hS hw0 rfl | exact Sl.get0 hN hp rfl | exact Sl.get0 hW hp rfl | exact Sl.get0 hD hdt rfl | (repeat (first | exact Cell.here rfl | apply Cell.there | apply Cell.app)))) rfl rfl rfl ?_
   refine zA ?_
   refine XO_nil (at_then ?_)
   refine X_seq ?_
   refine X_seq (X_region ?_)
   refine zM ?_
   refine zC ?_
   refine zM ?_
   refine XO_pushF 2 rfl rfl rfl ?_
   refine XO_v1 (ev_move rfl) (.some rfl rfl rfl rfl gbf) rfl rfl rfl ?_
   refine XO_v1 (ev_fieldAddr rfl fld_33_0) (.some rfl rfl rfl rfl gbf) rfl rfl rfl ?_
   refine XO_v1 (ev_load rfl sct_23 (fun hg => by first | exact Cell.imm h2 rfl | exact Cell.imm h9 rfl | exact Sl.get0 hS hx rfl | exact Sl.get0 hS hw0 rfl | exact Sl.get0 hN hp rfl | exact Sl.get0 hW hp rfl | exact Sl.get0 hD hdt rfl | (repeat (first | exact Cell.here rfl | apply Cell.there | apply Cell.app)))) (.some rfl rfl rfl rfl gbf) rfl rfl rfl ?_
   refine XO_v1 (ev_lenS rfl slt_23) (.some rfl rfl rfl rfl gbf) rfl rfl rfl ?_
   refine XO_v1 (ev_cmp rfl rfl rfl) (.some rfl rfl rfl rfl gbf) rfl rfl rfl ?_
   refine XO_or0 rfl rfl rfl rfl rfl ?_
   refine XO_nil (at_then ?_)
   refine X_cond rfl (fun hc47 => ?_) (fun hc47 => ?_)
   ·
    have hF : holdsF cr pl = false := holds_2 (allH_no (List.getElem?_eq_some_iff.1 hx).1 (by rw [okAt_eq hx hy2]; exact okH_1 (by rw [hlD]; exact hc47)))
    refine X_seq (X_region ?_)
    refine zA ?_
    refine XO_nil (at_then ?_)
    refine X_ret ?_
    refine at_then_r ?_
    refine at_block_r ?_
    refine at_then_r ?_
    refine at_then_r ?_
    refine at_block_r ?_
    refine at_then_r ?_
    exact at_ret1 rfl rfl (fun w hw => ⟨by rw [hF], (hw.mono hIc).drop⟩)
   ·
    have hb47 : (decide (d0 < 0) || decide (d0 ≥ (cr.days.length : Int))) = false := by rw [hlD]; exact hc47
    have hb47s := hb47
    simp at hb47s
    obtain ⟨dn, hdn⟩ : ∃ dn : Nat, d0 = (dn : Int) := ⟨d0.toNat, by omega⟩
    subst hdn
    obtain ⟨dt, hdt⟩ := hD.at (show dn < x.n by omega)
    have hdf := (dayF_at hdt).symm
    subst hdf
    have hsg0 := cntM_get (stuE (pl.take k)) (dn : Int)
    rw [stuE_cnt] at hsg0
    have hsb0 := many_le (pl.take k) (dn : Int)
    rw [List.length_take] at hsb0
    have hsn0 : 0 ≤ manyF (pl.take k) (dn : Int) := by unfold manyF; omega
    refine X_skip ?_
    refine at_then ?_
    refine X_seq ?_
    refine X_seq (X_region ?_)
    refine zM ?_
    refine zM ?_
    refine XO_v0 (ev_lookupI (m := cntM (stuE (pl.take k))) (ek := Value.int .i64) (a := (dn : Int)) mpt_79 key_3 rfl rfl (fun _ => (by first | exact Mem.m0 | exact Mem.m1 | exact Mem.m2 | exact Mem.m3 | exact Mem.m4 | exact Mem.m5 | (repeat (first | exact Mem.m0 | apply Mem.there | apply Mem.app))))) rfl rfl rfl ?_
    refine zB ?_
    refine XO_mapUpdate (m := cntM (stuE (pl.take k))) (ek := Value.int .i64) (ev := Value.int .i64) (a := (dn : Int)) (((mget (cntM (stuE (pl.take k))) (dn : Int)).getD 0) + 1) mpt_79 key_3 rfl rfl rfl rfl (by repeat (first | exact Upd.here | apply Upd.there | apply upd_app)) ?_
    rw [stu_M hx]
    refine XO_nil (at_then (X_seq (X_region ?_)))
    refine zM ?_
    refine zM ?_
    refine XO_v0 (ev_lookupI (m := cntM (stuE (pl.take (k + 1)))) (ek := Value.int .i64) (a := (dn : Int)) mpt_79 key_3 rfl rfl (fun _ => (by first | exact Mem.m0 | exact Mem.m1 | exact Mem.m2 | exact Mem.m3 | exact Mem.m4 | exact Mem.m5 | (repeat (first | exact Mem.m0 | apply Mem.there | apply Mem.app))))) rfl rfl rfl ?_
    refine XO_v0 (ev_fieldAddr rfl fld_33_1) rfl rfl rfl ?_
    refine XO_v0 (ev_load rfl sct_3 (fun hg => by first | exact Cell.imm h2 rfl | exact Cell.imm h9 rfl | exact Sl.get0 hS hx rfl | exact Sl.get0 hS hw0 rfl | exact Sl.get0 hN hp rfl | exact Sl.get0 hW hp rfl | exact Sl.get0 hD hdt rfl | (repeat (first | exact Cell.here rfl | apply Cell.there | apply Cell.app)))) rfl rfl rfl ?_
    refine zC ?_
    refine XO_nil (at_then ?_)
    refine X_cond rfl (fun hc57 => ?_) (fun hc57 => ?_)
    ·
     have hb57 : decide (manyF (pl.take (k + 1)) (dn : Int) > cr.st) = true := by rw [← stuE_cnt, ← cntM_get, ← e1]; exact hc57
     have hF : holdsF cr pl = false := holds_2 (allH_no (List.getElem?_eq_some_iff.1 hx).1 (by rw [okAt_eq hx hy2]; exact okH_2 hb57))
     refine X_seq (X_region ?_)
     refine zA ?_
     refine XO_nil (at_then ?_)
     refine X_ret ?_
     refine at_then_r ?_
     refine at_block_r ?_
     refine at_then_r ?_
     refine at_then_r ?_
     refine at_block_r ?_
     refine at_then_r ?_
     exact at_ret1 rfl rfl (fun w hw => ⟨by rw [hF], (hw.mono hIc).drop⟩)
    ·
     have hb57 : decide (manyF (pl.take (k + 1)) (dn : Int) > cr.st) = false := by rw [← stuE_cnt, ← cntM_get, ← e1]; exact hc57
     refine X_skip ?_
     refine at_then ?_
     refine X_seq ?_
     refine X_seq (X_region ?_)
     refine XO_v0 (ev_fieldAddr rfl fld_58_3) rfl rfl rfl ?_
     refine XO_v0 (ev_load rfl sct_23 (fun hg => by first | exact Cell.imm h2 rfl | exact Cell.imm h9 rfl | exact Sl.get0 hS hx rfl | exact Sl.get0 hS hw0 rfl | exact Sl.get0 hN hp rfl | exact Sl.get0 hW hp rfl | exact Sl.get0 hD hdt rfl | (repeat (first | exact Cell.here rfl | apply Cell.there | apply Cell.app)))) rfl rfl rfl ?_
     refine XO_v0 (ev_lenS rfl slt_23) rfl rfl rfl ?_
     refine zM ?_
     refine XO_nil (at_then ?_)
     refine X_block ?_
     refine X_loopT [(1, _), (2, _), (5, _), (6, _), (7, _), (9, _), (10, _), (28, _), (29, _), (30, _), (59, _), (60, _)] (.cons rfl (.cons rfl (.cons rfl (.cons rfl (.cons rfl (.cons rfl (.cons rfl (.cons rfl (.cons rfl (.cons rfl (.cons rfl (.cons rfl .nil)))))))))))) (fun T L0 mz E I' loc' => ∃ (j : Nat), mz = z.n2 - j ∧ E = (61, .int .i64 j) :: T ∧ I3 = I' ∧ [(r_26, mapO encK2 (Value.int .i64) (sumM (evs cr (pl.take k)))), (r_25, mapO encK2 (Value.int .i64) (cntM (evs cr (pl.take k)))), (r_24, mapO (Value.int .i64) (Value.int .i64) (cntM (stuE (pl.take (k + 1)))))] = loc' ∧ j ≤ z.n2 ∧ (s.needs.take j).any (fun k => decide (pl.getD k.toNat 0 ≥ (dn : Int))) = false) _ _ _ _ ⟨0, rfl, rfl, rfl, rfl, Nat.zero_le _, rfl⟩ (.cons rfl (.cons rfl (.cons rfl (.cons rfl (.cons rfl (.cons rfl (.cons rfl (.cons rfl (.cons rfl (.cons rfl (.cons rfl (.cons rfl (.cons rfl .nil))))))))))))) (HLe.refl _) rfl ?_
     rintro mz E I' loc' ⟨j, rfl, rfl, rfl, rfl, hj, hnd9⟩
     refine X_seq (X_region ?_)
     refine zC ?_
     refine XO_nil (at_then ?_)
     refine X_seq ?_
     refine X_cond rfl (fun hc62 => ?_) (fun hc62 => ?_)
     ·
      have hlt_j : j < z.n2 := by have h := hc62; simp at h; omega
      obtain ⟨kk, hp⟩ := hN.at hlt_j
      have hkr := hso.needs kk (List.mem_of_getElem? hp)
      obtain ⟨w0, hw0⟩ := hS.at (show kk.toNat < n by omega)
      have hgd : pl.getD kk.toNat 0 = w0 := by rw [List.getD_eq_getElem?_getD, hw0]; rfl
      refine X_skip ?_
      refine at_then ?_
      refine X_seq ?_
      refine X_block ?_
      refine X_seq (X_region ?_)
      refine XO_v0 (ev_indexSl rfl rfl slt_23 hN (fun hg => by first | omega | (simp [conj] at hg; omega))) rfl rfl rfl ?_
      refine XO_v0 (ev_load rfl sct_3 (fun hg => by first | exact Cell.imm h2 rfl | exact Cell.imm h9 rfl | exact Sl.get0 hS hx rfl | exact Sl.get0 hS hw0 rfl | exact Sl.get0 hN hp rfl | exact Sl.get0 hW hp rfl | exact Sl.get0 hD hdt rfl | (repeat (first | exact Cell.here rfl | apply Cell.there | apply Cell.app)))) rfl rfl rfl ?_
      refine zA ?_
      refine XO_nil (at_then (X_seq (X_region ?_)))
      refine zM ?_
      refine zM ?_
      refine XO_v0 (ev_indexSl rfl rfl slt_23 hS (fun hg => by first | omega | (simp [conj] at hg; omega))) rfl rfl rfl ?_
      refine XO_v0 (ev_load rfl sct_3 (fun hg => by first | exact Cell.imm h2 rfl | exact Cell.imm h9 rfl | exact Sl.get0 hS hx rfl | exact Sl.get0 hS hw0 rfl | exact Sl.get0 hN hp rfl | exact Sl.get0 hW hp rfl | exact Sl.get0 hD hdt rfl | (repeat (first | exact Cell.here rfl | apply Cell.there | apply Cell.app)))) rfl rfl rfl ?_
      refine zM ?_
      refine zC ?_
      refine XO_nil (at_then ?_)
      refine X_cond rfl (fun hc70 => ?_) (fun hc70 => ?_)
      ·
       have hb70 : decide (pl.getD kk.toNat 0 ≥ (dn : Int)) = true := by rw [hgd]; exact hc70
       have hF : holdsF cr pl = false := holds_2 (allH_no (List.getElem?_eq_some_iff.1 hx).1 (by rw [okAt_eq hx hy2]; exact okH_3 (any_yes hp hb70)))
       refine X_seq (X_region ?_)
       refine zA ?_
       refine XO_nil (at_then ?_)
       refine X_ret ?_
       refine at_block_r ?_
       refine at_then_r ?_
       refine at_then_r ?_
       refine at_block_r ?_
       refine at_then_r ?_
       refine at_block_r ?_
       refine at_then_r ?_
       refine at_then_r ?_
       refine at_block_r ?_
       refine at_then_r ?_
       exact at_ret1 rfl rfl (fun w hw => ⟨by rw [hF], (hw.mono hIc).drop⟩)
      ·
       have hb70 : decide (pl.getD kk.toNat 0 ≥ (dn : Int)) = false := by rw [hgd]; exact hc70
       refine X_skip ?_
       refine at_block_n ?_
       refine at_then ?_
       refine X_region ?_
       refine zB ?_
       refine zM ?_
       refine XO_nil ?_
       exact at_met2 _ _ ⟨z.n2 - (j + 1), by omega, j + 1, rfl, rfl, rfl, rfl, by omega, any_no hp hnd9 hb70⟩ (.cons rfl (.cons rfl (.cons rfl (.cons rfl (.cons rfl (.cons rfl (.cons rfl (.cons rfl (.cons rfl (.cons rfl (.cons rfl (.cons rfl (.cons rfl .nil))))))))))))) (by repeat (first | exact .refl | exact subL_left | refine subL_app ?_ | refine .drop ?_ | refine subL_add ?_))
     ·
      have hge_j : z.n2 ≤ j := by have h := hc62; simp at h; omega
      rw [take_all hlN hge_j] at hnd9
      rw [← esJ_0 (c := cr) (pl := pl) (i := k) (x := dayF cr (dn : Int)) (s := s)]
      refine X_exit ?_
      refine at_then_e ?_
      refine at_then_e ?_
      refine at_block_hit ?_
      refine at_then ?_
      refine X_seq (X_region ?_)
      refine XO_v0 (ev_fieldAddr rfl fld_58_2) rfl rfl rfl ?_
      refine XO_v0 (ev_load rfl sct_23 (fun hg => by first | exact Cell.imm h2 rfl | exact Cell.imm h9 rfl | exact Sl.get0 hS hx rfl | exact Sl.get0 hS hw0 rfl | exact Sl.get0 hN hp rfl | exact Sl.get0 hW hp rfl | exact Sl.get0 hD hdt rfl | (repeat (first | exact Cell.here rfl | apply Cell.there | apply Cell.app)))) rfl rfl rfl ?_
      refine XO_v0 (ev_lenS rfl slt_23) rfl rfl rfl ?_
      refine zM ?_
      refine XO_nil (at_then ?_)
      refine X_block ?_
      refine X_loopT [(1, _), (2, _), (5, _), (6, _), (7, _), (9, _), (10, _), (28, _), (29, _), (30, _), (73, _), (74, _)] (.cons rfl (.cons rfl (.cons rfl (.cons rfl (.cons rfl (.cons rfl (.cons rfl (.cons rfl (.cons rfl (.cons rfl (.cons rfl (.cons rfl .nil)))))))))))) (fun T L0 mz E I' loc' => ∃ (j : Nat), mz = z.n - j ∧ E = (75, .int .i64 j) :: T ∧ HLe I3 I' ∧ [(r_26, mapO encK2 (Value.int .i64) (sumM (esJ cr pl k (dayF cr (dn : Int)) s j))), (r_25, mapO encK2 (Value.int .i64) (cntM (esJ cr pl k (dayF cr (dn : Int)) s j))), (r_24, mapO (Value.int .i64) (Value.int .i64) (cntM (stuE (pl.take (k + 1)))))] = loc' ∧ j ≤ z.n ∧ whoT cr pl k (dn : Int) s j = true) _ _ _ _ ⟨0, rfl, rfl, HLe.refl _, rfl, Nat.zero_le _, whoT_0 _ _ _ _ _⟩ (.cons rfl (.cons rfl (.cons rfl (.cons rfl (.cons rfl (.cons rfl (.cons rfl (.cons rfl (.cons rfl (.cons rfl (.cons rfl (.cons rfl (.cons rfl .nil))))))))))))) (HLe.refl _) rfl ?_
      rintro mz E J5 loc' ⟨j, rfl, rfl, hJ, rfl, hj, hwt⟩
      have hC := hC.mono hJ
      have hS := hS.mono hJ
      have hD := hD.mono hJ
      have hH := hH.mono hJ
      have h2 := h2.mono hJ
      have hN := hN.mono hJ
      have hW := hW.mono hJ
      have h9 := h9.mono hJ
      have hIc := hIc.trans hJ
      have hB0 := hB0.trans hJ
      have hB4 := hJ
      refine X_seq (X_region ?_)
      refine zC ?_
      refine XO_nil (at_then ?_)
      refine X_seq ?_
      refine X_cond rfl (fun hc76 => ?_) (fun hc76 => ?_)
      ·
       have hlt_j : j < z.n := by have h := hc76; simp at h; omega
       obtain ⟨pp, hp⟩ := hW.at hlt_j
       have hcg := cntM_get (esJ cr pl k (dayF cr (dn : Int)) s j) (pp, dayF cr (dn : Int))
       have hcb := cntE_le (esJ cr pl k (dayF cr (dn : Int)) s j) (pp, dayF cr (dn : Int))
       have hc0 := cntE_nonneg (esJ cr pl k (dayF cr (dn : Int)) s j) (pp, dayF cr (dn : Int))
       have hel := esJ_len (j := j) (x := dayF cr (dn : Int)) (pl := pl) h8 hwh hy2
       have hsg := sumM_get (esJ cr pl k (dayF cr (dn : Int)) s j) (pp, dayF cr (dn : Int))
       have hsb := sumE_bd (es := (esJ cr pl k (dayF cr (dn : Int)) s j)) (esJ_ef hr hy2) (pp, dayF cr (dn : Int))
       have hef := hso.ef
       refine X_skip ?_
       refine at_then ?_
       refine X_seq ?_
       refine X_block ?_
       refine X_seq (X_region ?_)
       refine XO_v0 (ev_indexSl rfl rfl slt_23 hW (fun hg => by first | omega | (simp [conj] at hg; omega))) rfl rfl rfl ?_
       refine XO_v0 (ev_load rfl sct_3 (fun hg => by first | exact Cell.imm h2 rfl | exact Cell.imm h9 rfl | exact Sl.get0 hS hx rfl | exact Sl.get0 hS hw0 rfl | exact Sl.get0 hN hp rfl | exact Sl.get0 hW hp rfl | exact Sl.get0 hD hdt rfl | (repeat (first | exact Cell.here rfl | apply Cell.there | apply Cell.app)))) rfl rfl rfl ?_
       refine zA ?_
       refine XO_nil (at_then (X_seq (X_region ?_)))
       refine zM ?_
       refine XO_v0 (ev_fieldAddr rfl fld_33_0) rfl rfl rfl ?_
       refine XO_v0 (ev_load rfl sct_23 (fun hg => by first | exact Cell.imm h2 rfl | exact Cell.imm h9 rfl | exact Sl.get0 hS hx rfl | exact Sl.get0 hS hw0 rfl | exact Sl.get0 hN hp rfl | exact Sl.get0 hW hp rfl | exact Sl.get0 hD hdt rfl | (repeat (first | exact Cell.here rfl | apply Cell.there | apply Cell.app)))) rfl rfl rfl ?_
       refine zM ?_
       refine XO_v0 (ev_indexSl rfl rfl slt_23 hD (fun hg => by first | omega | (simp [conj] at hg; omega))) rfl rfl rfl ?_
       refine XO_v0 (ev_load rfl sct_3 (fun hg => by first | exact Cell.imm h2 rfl | exact Cell.imm h9 rfl | exact Sl.get0 hS hx rfl | exact Sl.get0 hS hw0 rfl | exact Sl.get0 hN hp rfl | exact Sl.get0 hW hp rfl | exact Sl.get0 hD hdt rfl | (repeat (first | exact Cell.here rfl | apply Cell.there | apply Cell.app)))) rfl rfl rfl ?_
       refine XO_v0 (ev_buildArr (ps := [(0, _), (1, _)]) [_, _] art_108 zt_108 rfl rfl) rfl rfl rfl ?_
       refine XO_alloc zt_108 rfl rfl (fun b_15 => ?_)
       refine XO_storeA rfl rfl szt_108 rfl rfl rfl rfl (by repeat (first | exact Upd.here | apply Upd.there | apply upd_app)) ?_
       refine XO_nil (at_then ?_)
       refine X_seq ?_
       refine X_freeze .here (fun I6 hI6 hb6 => ?_)
       have hC := hC.mono hI6
       have hS := hS.mono hI6
       have hD := hD.mono hI6
       have hH := hH.mono hI6
       have h2 := h2.mono hI6
       have hN := hN.mono hI6
       have hW := hW.mono hI6
       have h9 := h9.mono hI6
       have hIc := hIc.trans hI6
       have hB0 := hB0.trans hI6
       have hB4 := hB4.trans hI6
       have h15 := ImmC.of hb6
       have hD := HLe.refl I6
       refine X_noP ?_
       refine X_drawS I6 [] mixed ?_
       refine XD_take 0 rfl (ev_move rfl) (.none rfl) rfl rfl rfl (by kernel_rfl) (by kernel_rfl) (by kernel_rfl) noP_ok hD (by repeat (first | exact .refl | exact subL_nil | refine .keep ?_ | refine .drop ?_ | refine subL_add ?_)) ?_
       refine XD_take 1 rfl (ev_loadA rfl agt_108 (fun hg => by first | exact Cells.immC h2 | exact Sl.getA hH.1 hy | exact Cells.immC (vs := [.int .i64 pp, .int .i64 (dayF cr (dn : Int))]) h15 | (repeat (first | exact Cells.here | exact Cells.s0 (vs := [_, _]) rfl | apply Cells.there | apply Cells.app))) rfl) (.none rfl) rfl rfl rfl (by kernel_rfl) (by kernel_rfl) (by kernel_rfl) noP_ok hD (by repeat (first | exact .refl | exact subL_nil | refine .keep ?_ | refine .drop ?_ | refine subL_add ?_)) ?_
       refine XD_two 2 4 rfl rfl (by kernel_rfl) ?_ ?_
       ·
        refine XO_v0 (ev_lookupI (ek := encK2) (a := (pp, dayF cr (dn : Int))) mpt_107 key_108 rfl rfl (fun _ => (by first | exact Mem.m0 | exact Mem.m1 | exact Mem.m2 | exact Mem.m3))) rfl rfl rfl ?_
        try rw [look_entry]
        refine XO_nil ?_
        refine zD hD ?_
        refine XD_take 3 rfl (ev_arB rfl rfl rfl (fun hg => by first | omega | (simp [conj] at hg; omega))) (.none rfl) rfl rfl rfl (by kernel_rfl) (by kernel_rfl) (by kernel_rfl) noP_ok hD (by repeat (first | exact .refl | exact subL_nil | refine .keep ?_ | refine .drop ?_ | refine subL_add ?_)) ?_
        refine XD_one 4 rfl (by kernel_rfl) ?_
        refine XO_mapEntry (m := (cntM (esJ cr pl k (dayF cr (dn : Int)) s j))) (ek := encK2) (ev := Value.int .i64) (a := (pp, dayF cr (dn : Int))) 0 rfl mpt_107 key_108 rfl rfl rfl rfl (by repeat (first | exact Upd.here | apply Upd.there | apply upd_app)) ?_
        refine XO_nil ?_
        refine zD hD ?_
        refine XD_take 5 rfl (ev_extract rfl rfl) (.none rfl) rfl rfl rfl (by kernel_rfl) (by kernel_rfl) (by kernel_rfl) noP_ok hD (by repeat (first | exact .refl | exact subL_nil | refine .keep ?_ | refine .drop ?_ | refine subL_add ?_)) ?_
        refine XD_one 6 rfl (by kernel_rfl) ?_
        refine XO_entryStore (ek := encK2) (ev := Value.int .i64) (m := mset (cntM (esJ cr pl k (dayF cr (dn : Int)) s j)) (pp, dayF cr (dn : Int)) ((mget (cntM (esJ cr pl k (dayF cr (dn : Int)) s j)) (pp, dayF cr (dn : Int))).getD 0)) (a := (pp, dayF cr (dn : Int))) (((mget (cntM (esJ cr pl k (dayF cr (dn : Int)) s j)) (pp, dayF cr (dn : Int))).getD 0) + 1) ((mget (cntM (esJ cr pl k (dayF cr (dn : Int)) s j)) (pp, dayF cr (dn : Int))).getD 0) (by rw [mget_mset, if_pos rfl]) rfl (by rw [mpos_mset]; exact rfl) rfl rfl (by repeat (first | exact Upd.here | apply Upd.there | apply upd_app)) ?_
        rw [mset_mset, cntM_J hp]
        refine XO_nil ?_
        refine zD hD ?_
        refine XD_done (by kernel_rfl) ?_
        refine at_noP ?_
        refine at_then ?_
        refine X_seq ?_
        have hD := HLe.refl I6
        refine X_noP ?_
        refine X_drawS I6 [] mixed ?_
        refine XD_take 0 rfl (ev_move rfl) (.none rfl) rfl rfl rfl (by kernel_rfl) (by kernel_rfl) (by kernel_rfl) noP_ok hD (by repeat (first | exact .refl | exact subL_nil | refine .keep ?_ | refine .drop ?_ | refine subL_add ?_)) ?_
        refine XD_take 1 rfl (ev_loadA rfl agt_108 (fun hg => by first | exact Cells.immC h2 | exact Sl.getA hH.1 hy | exact Cells.immC (vs := [.int .i64 pp, .int .i64 (dayF cr (dn : Int))]) h15 | (repeat (first | exact Cells.here | exact Cells.s0 (vs := [_, _]) rfl | apply Cells.there | apply Cells.app))) rfl) (.none rfl) rfl rfl rfl (by kernel_rfl) (by kernel_rfl) (by kernel_rfl) noP_ok hD (by repeat (first | exact .refl | exact subL_nil | refine .keep ?_ | refine .drop ?_ | refine subL_add ?_)) ?_
        refine XD_take 3 rfl (ev_fieldAddr rfl fld_58_1) (.none rfl) rfl rfl rfl (by kernel_rfl) (by kernel_rfl) (by kernel_rfl) noP_ok hD (by repeat (first | exact .refl | exact subL_nil | refine .keep ?_ | refine .drop ?_ | refine subL_add ?_)) ?_
        refine XD_take 4 rfl (ev_load rfl sct_3 (fun hg => by first | exact Cell.imm h2 rfl | exact Cell.imm h9 rfl | exact Sl.get0 hS hx rfl | exact Sl.get0 hS hw0 rfl | exact Sl.get0 hN hp rfl | exact Sl.get0 hW hp rfl | exact Sl.get0 hD hdt rfl | (repeat (first | exact Cell.here rfl | apply Cell.there | apply Cell.app)))) (.none rfl) rfl rfl rfl (by kernel_rfl) (by kernel_rfl) (by kernel_rfl) noP_ok hD (by repeat (first | exact .refl | exact subL_nil | refine .keep ?_ | refine .drop ?_ | refine subL_add ?_)) ?_
        refine XD_two 2 6 rfl rfl (by kernel_rfl) ?_ ?_
        ·
         refine XO_v0 (ev_lookupI (ek := encK2) (a := (pp, dayF cr (dn : Int))) mpt_107 key_108 rfl rfl (fun _ => (by first | exact Mem.m0 | exact Mem.m1 | exact Mem.m2 | exact Mem.m3))) rfl rfl rfl ?_
         try rw [look_entry]
         refine XO_nil ?_
         refine zD hD ?_
         refine XD_take 5 rfl (ev_arB rfl rfl rfl (fun hg => by first | omega | (simp [conj] at hg; omega))) (.none rfl) rfl rfl rfl (by kernel_rfl) (by kernel_rfl) (by kernel_rfl) noP_ok hD (by repeat (first | exact .refl | exact subL_nil | refine .keep ?_ | refine .drop ?_ | refine subL_add ?_)) ?_
         refine XD_one 6 rfl (by kernel_rfl) ?_
         refine XO_mapEntry (m := (sumM (esJ cr pl k (dayF cr (dn : Int)) s j))) (ek := encK2) (ev := Value.int .i64) (a := (pp, dayF cr (dn : Int))) 0 rfl mpt_107 key_108 rfl rfl rfl rfl (by repeat (first | exact Upd.here | apply Upd.there | apply upd_app)) ?_
         refine XO_nil ?_
         refine zD hD ?_
         refine XD_take 7 rfl (ev_extract rfl rfl) (.none rfl) rfl rfl rfl (by kernel_rfl) (by kernel_rfl) (by kernel_rfl) noP_ok hD (by repeat (first | exact .refl | exact subL_nil | refine .keep ?_ | refine .drop ?_ | refine subL_add ?_)) ?_
         refine XD_one 8 rfl (by kernel_rfl) ?_
         refine XO_entryStore (ek := encK2) (ev := Value.int .i64) (m := mset (sumM (esJ cr pl k (dayF cr (dn : Int)) s j)) (pp, dayF cr (dn : Int)) ((mget (sumM (esJ cr pl k (dayF cr (dn : Int)) s j)) (pp, dayF cr (dn : Int))).getD 0)) (a := (pp, dayF cr (dn : Int))) (((mget (sumM (esJ cr pl k (dayF cr (dn : Int)) s j)) (pp, dayF cr (dn : Int))).getD 0) + z.ef) ((mget (sumM (esJ cr pl k (dayF cr (dn : Int)) s j)) (pp, dayF cr (dn : Int))).getD 0) (by rw [mget_mset, if_pos rfl]) rfl (by rw [mpos_mset]; exact rfl) rfl rfl (by repeat (first | exact Upd.here | apply Upd.there | apply upd_app)) ?_
         rw [mset_mset, q2, sumM_J hp]
         refine XO_nil ?_
         refine zD hD ?_
         refine XD_done (by kernel_rfl) ?_
         refine at_noP ?_
         refine at_then ?_
         refine X_seq ?_
         refine X_draw mixed (by kernel_rfl) ?_
         refine XQ_v0 (ev_move rfl) rfl rfl rfl ?_
         refine XQ_v0 (ev_loadA rfl agt_108 (fun hg => by first | exact Cells.immC h2 | exact Sl.getA hH.1 hy | exact Cells.immC (vs := [.int .i64 pp, .int .i64 (dayF cr (dn : Int))]) h15 | (repeat (first | exact Cells.here | exact Cells.s0 (vs := [_, _]) rfl | apply Cells.there | apply Cells.app))) rfl) rfl rfl rfl ?_
         refine XQ_v0 (ev_lookupI (m := cntM (esJ cr pl k (dayF cr (dn : Int)) s (j + 1))) (ek := encK2) (a := (pp, dayF cr (dn : Int))) mpt_107 key_108 rfl rfl (fun _ => (by first | exact Mem.m0 | exact Mem.m1 | exact Mem.m2 | exact Mem.m3 | exact Mem.m4 | exact Mem.m5 | (repeat (first | exact Mem.m0 | apply Mem.there | apply Mem.app))))) rfl rfl rfl ?_
         refine XQ_v0 (ev_fieldAddr rfl fld_33_2) rfl rfl rfl ?_
         refine XQ_v0 (ev_load rfl sct_3 (fun hg => by first | exact Cell.imm h2 rfl | exact Cell.imm h9 rfl | exact Sl.get0 hS hx rfl | exact Sl.get0 hS hw0 rfl | exact Sl.get0 hN hp rfl | exact Sl.get0 hW hp rfl | exact Sl.get0 hD hdt rfl | (repeat (first | exact Cell.here rfl | apply Cell.there | apply Cell.app)))) rfl rfl rfl ?_
         refine XQ_v0 (ev_cmp rfl rfl rfl) rfl rfl rfl ?_
         refine XQ_v0 (ev_move rfl) rfl rfl rfl ?_
         refine XQ_pushF 6 rfl rfl rfl ?_
         refine XQ_v1 (ev_move rfl) (.some rfl rfl rfl rfl gbf) rfl rfl rfl ?_
         refine XQ_v1 (ev_loadA rfl agt_108 (fun hg => by first | exact Cells.immC h2 | exact Sl.getA hH.1 hy | exact Cells.immC (vs := [.int .i64 pp, .int .i64 (dayF cr (dn : Int))]) h15 | (repeat (first | exact Cells.here | exact Cells.s0 (vs := [_, _]) rfl | apply Cells.there | apply Cells.app))) rfl) (.some rfl rfl rfl rfl gbf) rfl rfl rfl ?_
         refine XQ_v1 (ev_lookupI (m := sumM (esJ cr pl k (dayF cr (dn : Int)) s (j + 1))) (ek := encK2) (a := (pp, dayF cr (dn : Int))) mpt_107 key_108 rfl rfl (fun _ => (by first | exact Mem.m0 | exact Mem.m1 | exact Mem.m2 | exact Mem.m3 | exact Mem.m4 | exact Mem.m5 | (repeat (first | exact Mem.m0 | apply Mem.there | apply Mem.app))))) (.some rfl rfl rfl rfl gbf) rfl rfl rfl ?_
         refine XQ_v1 (ev_fieldAddr rfl fld_33_3) (.some rfl rfl rfl rfl gbf) rfl rfl rfl ?_
         refine XQ_v1 (ev_load rfl sct_3 (fun hg => by first | exact Cell.imm h2 rfl | exact Cell.imm h9 rfl | exact Sl.get0 hS hx rfl | exact Sl.get0 hS hw0 rfl | exact Sl.get0 hN hp rfl | exact Sl.get0 hW hp rfl | exact Sl.get0 hD hdt rfl | (repeat (first | exact Cell.here rfl | apply Cell.there | apply Cell.app)))) (.some rfl rfl rfl rfl gbf) rfl rfl rfl ?_
         refine XQ_v1 (ev_cmp rfl rfl rfl) (.some rfl rfl rfl rfl gbf) rfl rfl rfl ?_
         refine XQ_or0 rfl rfl rfl rfl rfl ?_
         refine XQ_nil ?_
         refine at_then ?_
         refine X_cond rfl (fun hc113 => ?_) (fun hc113 => ?_)
         ·
          have hb113 : whoB cr (esJ cr pl k (dayF cr (dn : Int)) s (j + 1)) (pp, dayF cr (dn : Int)) = true := by rw [← whoB_eq e2 e3]; exact hc113
          have hF : holdsF cr pl = false := holds_2 (allH_no (List.getElem?_eq_some_iff.1 hx).1 (by rw [okAt_eq hx hy2]; exact okH_4 (whoT_badJ hp hb113)))
          refine X_seq (X_region ?_)
          refine zA ?_
          refine XO_nil (at_then ?_)
          refine X_ret ?_
          refine at_block_r ?_
          refine at_then_r ?_
          refine at_then_r ?_
          refine at_block_r ?_
          refine at_block_r ?_
          refine at_then_r ?_
          refine at_then_r ?_
          refine at_block_r ?_
          refine at_then_r ?_
          exact at_ret1 rfl rfl (fun w hw => ⟨by rw [hF], (hw.mono hIc).drop⟩)
         ·
          have hb113 : whoB cr (esJ cr pl k (dayF cr (dn : Int)) s (j + 1)) (pp, dayF cr (dn : Int)) = false := by rw [← whoB_eq e2 e3]; exact hc113
          refine X_skip ?_
          refine at_block_n ?_
          refine at_then ?_
          refine X_region ?_
          refine zB ?_
          refine zM ?_
          refine XO_nil ?_
          exact at_met2 _ _ ⟨z.n - (j + 1), by omega, j + 1, rfl, rfl, hB4, rfl, by omega, whoT_stepJ hwt hp hb113⟩ (.cons rfl (.cons rfl (.cons rfl (.cons rfl (.cons rfl (.cons rfl (.cons rfl (.cons rfl (.cons rfl (.cons rfl (.cons rfl (.cons rfl (.cons rfl .nil))))))))))))) (by repeat (first | exact .refl | exact subL_left | refine subL_app ?_ | refine .drop ?_ | refine subL_add ?_))
        ·
         refine XO_mapEntry (m := (sumM (esJ cr pl k (dayF cr (dn : Int)) s j))) (ek := encK2) (ev := Value.int .i64) (a := (pp, dayF cr (dn : Int))) 0 rfl mpt_107 key_108 rfl rfl rfl rfl (by repeat (first | exact Upd.here | apply Upd.there | apply upd_app)) ?_
         refine XO_nil ?_
         refine zD hD ?_
         refine XD_take 7 rfl (ev_extract rfl rfl) (.none rfl) rfl rfl rfl (by kernel_rfl) (by kernel_rfl) (by kernel_rfl) noP_ok hD (by repeat (first | exact .refl | exact subL_nil | refine .keep ?_ | refine .drop ?_ | refine subL_add ?_)) ?_
         refine XD_one 2 rfl (by kernel_rfl) ?_
         refine XO_v0 (ev_lookupI (ek := encK2) (a := (pp, dayF cr (dn : Int))) mpt_107 key_108 rfl rfl (fun _ => (by first | exact Mem.m0 | exact Mem.m1 | exact Mem.m2 | exact Mem.m3))) rfl rfl rfl ?_
         try rw [look_entry]
         refine XO_nil ?_
         refine zD hD ?_
         refine XD_take 5 rfl (ev_arB rfl rfl rfl (fun hg => by first | omega | (simp [conj] at hg; omega))) (.none rfl) rfl rfl rfl (by kernel_rfl) (by kernel_rfl) (by kernel_rfl) noP_ok hD (by repeat (first | exact .refl | exact subL_nil | refine .keep ?_ | refine .drop ?_ | refine subL_add ?_)) ?_
         refine XD_one 8 rfl (by kernel_rfl) ?_
         refine XO_entryStore (ek := encK2) (ev := Value.int .i64) (m := mset (sumM (esJ cr pl k (dayF cr (dn : Int)) s j)) (pp, dayF cr (dn : Int)) ((mget (sumM (esJ cr pl k (dayF cr (dn : Int)) s j)) (pp, dayF cr (dn : Int))).getD 0)) (a := (pp, dayF cr (dn : Int))) (((mget (sumM (esJ cr pl k (dayF cr (dn : Int)) s j)) (pp, dayF cr (dn : Int))).getD 0) + z.ef) ((mget (sumM (esJ cr pl k (dayF cr (dn : Int)) s j)) (pp, dayF cr (dn : Int))).getD 0) (by rw [mget_mset, if_pos rfl]) rfl (by rw [mpos_mset]; exact rfl) rfl rfl (by repeat (first | exact Upd.here | apply Upd.there | apply upd_app)) ?_
         rw [mset_mset, q2, sumM_J hp]
         refine XO_nil ?_
         refine zD hD ?_
         refine XD_done (by kernel_rfl) ?_
         refine at_noP ?_
         refine at_then ?_
         refine X_seq ?_
         refine X_draw mixed (by kernel_rfl) ?_
         refine XQ_v0 (ev_move rfl) rfl rfl rfl ?_
         refine XQ_v0 (ev_loadA rfl agt_108 (fun hg => by first | exact Cells.immC h2 | exact Sl.getA hH.1 hy | exact Cells.immC (vs := [.int .i64 pp, .int .i64 (dayF cr (dn : Int))]) h15 | (repeat (first | exact Cells.here | exact Cells.s0 (vs := [_, _]) rfl | apply Cells.there | apply Cells.app))) rfl) rfl rfl rfl ?_
         refine XQ_v0 (ev_lookupI (m := cntM (esJ cr pl k (dayF cr (dn : Int)) s (j + 1))) (ek := encK2) (a := (pp, dayF cr (dn : Int))) mpt_107 key_108 rfl rfl (fun _ => (by first | exact Mem.m0 | exact Mem.m1 | exact Mem.m2 | exact Mem.m3 | exact Mem.m4 | exact Mem.m5 | (repeat (first | exact Mem.m0 | apply Mem.there | apply Mem.app))))) rfl rfl rfl ?_
         refine XQ_v0 (ev_fieldAddr rfl fld_33_2) rfl rfl rfl ?_
         refine XQ_v0 (ev_load rfl sct_3 (fun hg => by first | exact Cell.imm h2 rfl | exact Cell.imm h9 rfl | exact Sl.get0 hS hx rfl | exact Sl.get0 hS hw0 rfl | exact Sl.get0 hN hp rfl | exact Sl.get0 hW hp rfl | exact Sl.get0 hD hdt rfl | (repeat (first | exact Cell.here rfl | apply Cell.there | apply Cell.app)))) rfl rfl rfl ?_
         refine XQ_v0 (ev_cmp rfl rfl rfl) rfl rfl rfl ?_
         refine XQ_v0 (ev_move rfl) rfl rfl rfl ?_
         refine XQ_pushF 6 rfl rfl rfl ?_
         refine XQ_v1 (ev_move rfl) (.some rfl rfl rfl rfl gbf) rfl rfl rfl ?_
         refine XQ_v1 (ev_loadA rfl agt_108 (fun hg => by first | exact Cells.immC h2 | exact Sl.getA hH.1 hy | exact Cells.immC (vs := [.int .i64 pp, .int .i64 (dayF cr (dn : Int))]) h15 | (repeat (first | exact Cells.here | exact Cells.s0 (vs := [_, _]) rfl | apply Cells.there | apply Cells.app))) rfl) (.some rfl rfl rfl rfl gbf) rfl rfl rfl ?_
         refine XQ_v1 (ev_lookupI (m := sumM (esJ cr pl k (dayF cr (dn : Int)) s (j + 1))) (ek := encK2) (a := (pp, dayF cr (dn : Int))) mpt_107 key_108 rfl rfl (fun _ => (by first | exact Mem.m0 | exact Mem.m1 | exact Mem.m2 | exact Mem.m3 | exact Mem.m4 | exact Mem.m5 | (repeat (first | exact Mem.m0 | apply Mem.there | apply Mem.app))))) (.some rfl rfl rfl rfl gbf) rfl rfl rfl ?_
         refine XQ_v1 (ev_fieldAddr rfl fld_33_3) (.some rfl rfl rfl rfl gbf) rfl rfl rfl ?_
         refine XQ_v1 (ev_load rfl sct_3 (fun hg => by first | exact Cell.imm h2 rfl | exact Cell.imm h9 rfl | exact Sl.get0 hS hx rfl | exact Sl.get0 hS hw0 rfl | exact Sl.get0 hN hp rfl | exact Sl.get0 hW hp rfl | exact Sl.get0 hD hdt rfl | (repeat (first | exact Cell.here rfl | apply Cell.there | apply Cell.app)))) (.some rfl rfl rfl rfl gbf) rfl rfl rfl ?_
         refine XQ_v1 (ev_cmp rfl rfl rfl) (.some rfl rfl rfl rfl gbf) rfl rfl rfl ?_
         refine XQ_or0 rfl rfl rfl rfl rfl ?_
         refine XQ_nil ?_
         refine at_then ?_
         refine X_cond rfl (fun hc113 => ?_) (fun hc113 => ?_)
         ·
          have hb113 : whoB cr (esJ cr pl k (dayF cr (dn : Int)) s (j + 1)) (pp, dayF cr (dn : Int)) = true := by rw [← whoB_eq e2 e3]; exact hc113
          have hF : holdsF cr pl = false := holds_2 (allH_no (List.getElem?_eq_some_iff.1 hx).1 (by rw [okAt_eq hx hy2]; exact okH_4 (whoT_badJ hp hb113)))
          refine X_seq (X_region ?_)
          refine zA ?_
          refine XO_nil (at_then ?_)
          refine X_ret ?_
          refine at_block_r ?_
          refine at_then_r ?_
          refine at_then_r ?_
          refine at_block_r ?_
          refine at_block_r ?_
          refine at_then_r ?_
          refine at_then_r ?_
          refine at_block_r ?_
          refine at_then_r ?_
          exact at_ret1 rfl rfl (fun w hw => ⟨by rw [hF], (hw.mono hIc).drop⟩)
         ·
          have hb113 : whoB cr (esJ cr pl k (dayF cr (dn : Int)) s (j + 1)) (pp, dayF cr (dn : Int)) = false := by rw [← whoB_eq e2 e3]; exact hc113
          refine X_skip ?_
          refine at_block_n ?_
          refine at_then ?_
          refine X_region ?_
          refine zB ?_
          refine zM ?_
          refine XO_nil ?_
          exact at_met2 _ _ ⟨z.n - (j + 1), by omega, j + 1, rfl, rfl, hB4, rfl, by omega, whoT_stepJ hwt hp hb113⟩ (.cons rfl (.cons rfl (.cons rfl (.cons rfl (.cons rfl (.cons rfl (.cons rfl (.cons rfl (.cons rfl (.cons rfl (.cons rfl (.cons rfl (.cons rfl .nil))))))))))))) (by repeat (first | exact .refl | exact subL_left | refine subL_app ?_ | refine .drop ?_ | refine subL_add ?_))
       ·
        refine XO_mapEntry (m := (cntM (esJ cr pl k (dayF cr (dn : Int)) s j))) (ek := encK2) (ev := Value.int .i64) (a := (pp, dayF cr (dn : Int))) 0 rfl mpt_107 key_108 rfl rfl rfl rfl (by repeat (first | exact Upd.here | apply Upd.there | apply upd_app)) ?_
        refine XO_nil ?_
        refine zD hD ?_
        refine XD_take 5 rfl (ev_extract rfl rfl) (.none rfl) rfl rfl rfl (by kernel_rfl) (by kernel_rfl) (by kernel_rfl) noP_ok hD (by repeat (first | exact .refl | exact subL_nil | refine .keep ?_ | refine .drop ?_ | refine subL_add ?_)) ?_
        refine XD_one 2 rfl (by kernel_rfl) ?_
        refine XO_v0 (ev_lookupI (ek := encK2) (a := (pp, dayF cr (dn : Int))) mpt_107 key_108 rfl rfl (fun _ => (by first | exact Mem.m0 | exact Mem.m1 | exact Mem.m2 | exact Mem.m3))) rfl rfl rfl ?_
        try rw [look_entry]
        refine XO_nil ?_
        refine zD hD ?_
        refine XD_take 3 rfl (ev_arB rfl rfl rfl (fun hg => by first | omega | (simp [conj] at hg; omega))) (.none rfl) rfl rfl rfl (by kernel_rfl) (by kernel_rfl) (by kernel_rfl) noP_ok hD (by repeat (first | exact .refl | exact subL_nil | refine .keep ?_ | refine .drop ?_ | refine subL_add ?_)) ?_
        refine XD_one 6 rfl (by kernel_rfl) ?_
        refine XO_entryStore (ek := encK2) (ev := Value.int .i64) (m := mset (cntM (esJ cr pl k (dayF cr (dn : Int)) s j)) (pp, dayF cr (dn : Int)) ((mget (cntM (esJ cr pl k (dayF cr (dn : Int)) s j)) (pp, dayF cr (dn : Int))).getD 0)) (a := (pp, dayF cr (dn : Int))) (((mget (cntM (esJ cr pl k (dayF cr (dn : Int)) s j)) (pp, dayF cr (dn : Int))).getD 0) + 1) ((mget (cntM (esJ cr pl k (dayF cr (dn : Int)) s j)) (pp, dayF cr (dn : Int))).getD 0) (by rw [mget_mset, if_pos rfl]) rfl (by rw [mpos_mset]; exact rfl) rfl rfl (by repeat (first | exact Upd.here | apply Upd.there | apply upd_app)) ?_
        rw [mset_mset, cntM_J hp]
        refine XO_nil ?_
        refine zD hD ?_
        refine XD_done (by kernel_rfl) ?_
        refine at_noP ?_
        refine at_then ?_
        refine X_seq ?_
        have hD := HLe.refl I6
        refine X_noP ?_
        refine X_drawS I6 [] mixed ?_
        refine XD_take 0 rfl (ev_move rfl) (.none rfl) rfl rfl rfl (by kernel_rfl) (by kernel_rfl) (by kernel_rfl) noP_ok hD (by repeat (first | exact .refl | exact subL_nil | refine .keep ?_ | refine .drop ?_ | refine subL_add ?_)) ?_
        refine XD_take 1 rfl (ev_loadA rfl agt_108 (fun hg => by first | exact Cells.immC h2 | exact Sl.getA hH.1 hy | exact Cells.immC (vs := [.int .i64 pp, .int .i64 (dayF cr (dn : Int))]) h15 | (repeat (first | exact Cells.here | exact Cells.s0 (vs := [_, _]) rfl | apply Cells.there | apply Cells.app))) rfl) (.none rfl) rfl rfl rfl (by kernel_rfl) (by kernel_rfl) (by kernel_rfl) noP_ok hD (by repeat (first | exact .refl | exact subL_nil | refine .keep ?_ | refine .drop ?_ | refine subL_add ?_)) ?_
        refine XD_take 3 rfl (ev_fieldAddr rfl fld_58_1) (.none rfl) rfl rfl rfl (by kernel_rfl) (by kernel_rfl) (by kernel_rfl) noP_ok hD (by repeat (first | exact .refl | exact subL_nil | refine .keep ?_ | refine .drop ?_ | refine subL_add ?_)) ?_
        refine XD_take 4 rfl (ev_load rfl sct_3 (fun hg => by first | exact Cell.imm h2 rfl | exact Cell.imm h9 rfl | exact Sl.get0 hS hx rfl | exact Sl.get0 hS hw0 rfl | exact Sl.get0 hN hp rfl | exact Sl.get0 hW hp rfl | exact Sl.get0 hD hdt rfl | (repeat (first | exact Cell.here rfl | apply Cell.there | apply Cell.app)))) (.none rfl) rfl rfl rfl (by kernel_rfl) (by kernel_rfl) (by kernel_rfl) noP_ok hD (by repeat (first | exact .refl | exact subL_nil | refine .keep ?_ | refine .drop ?_ | refine subL_add ?_)) ?_
        refine XD_two 2 6 rfl rfl (by kernel_rfl) ?_ ?_
        ·
         refine XO_v0 (ev_lookupI (ek := encK2) (a := (pp, dayF cr (dn : Int))) mpt_107 key_108 rfl rfl (fun _ => (by first | exact Mem.m0 | exact Mem.m1 | exact Mem.m2 | exact Mem.m3))) rfl rfl rfl ?_
         try rw [look_entry]
         refine XO_nil ?_
         refine zD hD ?_
         refine XD_take 5 rfl (ev_arB rfl rfl rfl (fun hg => by first | omega | (simp [conj] at hg; omega))) (.none rfl) rfl rfl rfl (by kernel_rfl) (by kernel_rfl) (by kernel_rfl) noP_ok hD (by repeat (first | exact .refl | exact subL_nil | refine .keep ?_ | refine .drop ?_ | refine subL_add ?_)) ?_
         refine XD_one 6 rfl (by kernel_rfl) ?_
         refine XO_mapEntry (m := (sumM (esJ cr pl k (dayF cr (dn : Int)) s j))) (ek := encK2) (ev := Value.int .i64) (a := (pp, dayF cr (dn : Int))) 0 rfl mpt_107 key_108 rfl rfl rfl rfl (by repeat (first | exact Upd.here | apply Upd.there | apply upd_app)) ?_
         refine XO_nil ?_
         refine zD hD ?_
         refine XD_take 7 rfl (ev_extract rfl rfl) (.none rfl) rfl rfl rfl (by kernel_rfl) (by kernel_rfl) (by kernel_rfl) noP_ok hD (by repeat (first | exact .refl | exact subL_nil | refine .keep ?_ | refine .drop ?_ | refine subL_add ?_)) ?_
         refine XD_one 8 rfl (by kernel_rfl) ?_
         refine XO_entryStore (ek := encK2) (ev := Value.int .i64) (m := mset (sumM (esJ cr pl k (dayF cr (dn : Int)) s j)) (pp, dayF cr (dn : Int)) ((mget (sumM (esJ cr pl k (dayF cr (dn : Int)) s j)) (pp, dayF cr (dn : Int))).getD 0)) (a := (pp, dayF cr (dn : Int))) (((mget (sumM (esJ cr pl k (dayF cr (dn : Int)) s j)) (pp, dayF cr (dn : Int))).getD 0) + z.ef) ((mget (sumM (esJ cr pl k (dayF cr (dn : Int)) s j)) (pp, dayF cr (dn : Int))).getD 0) (by rw [mget_mset, if_pos rfl]) rfl (by rw [mpos_mset]; exact rfl) rfl rfl (by repeat (first | exact Upd.here | apply Upd.there | apply upd_app)) ?_
         rw [mset_mset, q2, sumM_J hp]
         refine XO_nil ?_
         refine zD hD ?_
         refine XD_done (by kernel_rfl) ?_
         refine at_noP ?_
         refine at_then ?_
         refine X_seq ?_
         refine X_draw mixed (by kernel_rfl) ?_
         refine XQ_v0 (ev_move rfl) rfl rfl rfl ?_
         refine XQ_v0 (ev_loadA rfl agt_108 (fun hg => by first | exact Cells.immC h2 | exact Sl.getA hH.1 hy | exact Cells.immC (vs := [.int .i64 pp, .int .i64 (dayF cr (dn : Int))]) h15 | (repeat (first | exact Cells.here | exact Cells.s0 (vs := [_, _]) rfl | apply Cells.there | apply Cells.app))) rfl) rfl rfl rfl ?_
         refine XQ_v0 (ev_lookupI (m := cntM (esJ cr pl k (dayF cr (dn : Int)) s (j + 1))) (ek := encK2) (a := (pp, dayF cr (dn : Int))) mpt_107 key_108 rfl rfl (fun _ => (by first | exact Mem.m0 | exact Mem.m1 | exact Mem.m2 | exact Mem.m3 | exact Mem.m4 | exact Mem.m5 | (repeat (first | exact Mem.m0 | apply Mem.there | apply Mem.app))))) rfl rfl rfl ?_
         refine XQ_v0 (ev_fieldAddr rfl fld_33_2) rfl rfl rfl ?_
         refine XQ_v0 (ev_load rfl sct_3 (fun hg => by first | exact Cell.imm h2 rfl | exact Cell.imm h9 rfl | exact Sl.get0 hS hx rfl | exact Sl.get0 hS hw0 rfl | exact Sl.get0 hN hp rfl | exact Sl.get0 hW hp rfl | exact Sl.get0 hD hdt rfl | (repeat (first | exact Cell.here rfl | apply Cell.there | apply Cell.app)))) rfl rfl rfl ?_
         refine XQ_v0 (ev_cmp rfl rfl rfl) rfl rfl rfl ?_
         refine XQ_v0 (ev_move rfl) rfl rfl rfl ?_
         refine XQ_pushF 6 rfl rfl rfl ?_
         refine XQ_v1 (ev_move rfl) (.some rfl rfl rfl rfl gbf) rfl rfl rfl ?_
         refine XQ_v1 (ev_loadA rfl agt_108 (fun hg => by first | exact Cells.immC h2 | exact Sl.getA hH.1 hy | exact Cells.immC (vs := [.int .i64 pp, .int .i64 (dayF cr (dn : Int))]) h15 | (repeat (first | exact Cells.here | exact Cells.s0 (vs := [_, _]) rfl | apply Cells.there | apply Cells.app))) rfl) (.some rfl rfl rfl rfl gbf) rfl rfl rfl ?_
         refine XQ_v1 (ev_lookupI (m := sumM (esJ cr pl k (dayF cr (dn : Int)) s (j + 1))) (ek := encK2) (a := (pp, dayF cr (dn : Int))) mpt_107 key_108 rfl rfl (fun _ => (by first | exact Mem.m0 | exact Mem.m1 | exact Mem.m2 | exact Mem.m3 | exact Mem.m4 | exact Mem.m5 | (repeat (first | exact Mem.m0 | apply Mem.there | apply Mem.app))))) (.some rfl rfl rfl rfl gbf) rfl rfl rfl ?_
         refine XQ_v1 (ev_fieldAddr rfl fld_33_3) (.some rfl rfl rfl rfl gbf) rfl rfl rfl ?_
         refine XQ_v1 (ev_load rfl sct_3 (fun hg => by first | exact Cell.imm h2 rfl | exact Cell.imm h9 rfl | exact Sl.get0 hS hx rfl | exact Sl.get0 hS hw0 rfl | exact Sl.get0 hN hp rfl | exact Sl.get0 hW hp rfl | exact Sl.get0 hD hdt rfl | (repeat (first | exact Cell.here rfl | apply Cell.there | apply Cell.app)))) (.some rfl rfl rfl rfl gbf) rfl rfl rfl ?_
         refine XQ_v1 (ev_cmp rfl rfl rfl) (.some rfl rfl rfl rfl gbf) rfl rfl rfl ?_
         refine XQ_or0 rfl rfl rfl rfl rfl ?_
         refine XQ_nil ?_
         refine at_then ?_
         refine X_cond rfl (fun hc113 => ?_) (fun hc113 => ?_)
         ·
          have hb113 : whoB cr (esJ cr pl k (dayF cr (dn : Int)) s (j + 1)) (pp, dayF cr (dn : Int)) = true := by rw [← whoB_eq e2 e3]; exact hc113
          have hF : holdsF cr pl = false := holds_2 (allH_no (List.getElem?_eq_some_iff.1 hx).1 (by rw [okAt_eq hx hy2]; exact okH_4 (whoT_badJ hp hb113)))
          refine X_seq (X_region ?_)
          refine zA ?_
          refine XO_nil (at_then ?_)
          refine X_ret ?_
          refine at_block_r ?_
          refine at_then_r ?_
          refine at_then_r ?_
          refine at_block_r ?_
          refine at_block_r ?_
          refine at_then_r ?_
          refine at_then_r ?_
          refine at_block_r ?_
          refine at_then_r ?_
          exact at_ret1 rfl rfl (fun w hw => ⟨by rw [hF], (hw.mono hIc).drop⟩)
         ·
          have hb113 : whoB cr (esJ cr pl k (dayF cr (dn : Int)) s (j + 1)) (pp, dayF cr (dn : Int)) = false := by rw [← whoB_eq e2 e3]; exact hc113
          refine X_skip ?_
          refine at_block_n ?_
          refine at_then ?_
          refine X_region ?_
          refine zB ?_
          refine zM ?_
          refine XO_nil ?_
          exact at_met2 _ _ ⟨z.n - (j + 1), by omega, j + 1, rfl, rfl, hB4, rfl, by omega, whoT_stepJ hwt hp hb113⟩ (.cons rfl (.cons rfl (.cons rfl (.cons rfl (.cons rfl (.cons rfl (.cons rfl (.cons rfl (.cons rfl (.cons rfl (.cons rfl (.cons rfl (.cons rfl .nil))))))))))))) (by repeat (first | exact .refl | exact subL_left | refine subL_app ?_ | refine .drop ?_ | refine subL_add ?_))
        ·
         refine XO_mapEntry (m := (sumM (esJ cr pl k (dayF cr (dn : Int)) s j))) (ek := encK2) (ev := Value.int .i64) (a := (pp, dayF cr (dn : Int))) 0 rfl mpt_107 key_108 rfl rfl rfl rfl (by repeat (first | exact Upd.here | apply Upd.there | apply upd_app)) ?_
         refine XO_nil ?_
         refine zD hD ?_
         refine XD_take 7 rfl (ev_extract rfl rfl) (.none rfl) rfl rfl rfl (by kernel_rfl) (by kernel_rfl) (by kernel_rfl) noP_ok hD (by repeat (first | exact .refl | exact subL_nil | refine .keep ?_ | refine .drop ?_ | refine subL_add ?_)) ?_
         refine XD_one 2 rfl (by kernel_rfl) ?_
         refine XO_v0 (ev_lookupI (ek := encK2) (a := (pp, dayF cr (dn : Int))) mpt_107 key_108 rfl rfl (fun _ => (by first | exact Mem.m0 | exact Mem.m1 | exact Mem.m2 | exact Mem.m3))) rfl rfl rfl ?_
         try rw [look_entry]
         refine XO_nil ?_
         refine zD hD ?_
         refine XD_take 5 rfl (ev_arB rfl rfl rfl (fun hg => by first | omega | (simp [conj] at hg; omega))) (.none rfl) rfl rfl rfl (by kernel_rfl) (by kernel_rfl) (by kernel_rfl) noP_ok hD (by repeat (first | exact .refl | exact subL_nil | refine .keep ?_ | refine .drop ?_ | refine subL_add ?_)) ?_
         refine XD_one 8 rfl (by kernel_rfl) ?_
         refine XO_entryStore (ek := encK2) (ev := Value.int .i64) (m := mset (sumM (esJ cr pl k (dayF cr (dn : Int)) s j)) (pp, dayF cr (dn : Int)) ((mget (sumM (esJ cr pl k (dayF cr (dn : Int)) s j)) (pp, dayF cr (dn : Int))).getD 0)) (a := (pp, dayF cr (dn : Int))) (((mget (sumM (esJ cr pl k (dayF cr (dn : Int)) s j)) (pp, dayF cr (dn : Int))).getD 0) + z.ef) ((mget (sumM (esJ cr pl k (dayF cr (dn : Int)) s j)) (pp, dayF cr (dn : Int))).getD 0) (by rw [mget_mset, if_pos rfl]) rfl (by rw [mpos_mset]; exact rfl) rfl rfl (by repeat (first | exact Upd.here | apply Upd.there | apply upd_app)) ?_
         rw [mset_mset, q2, sumM_J hp]
         refine XO_nil ?_
         refine zD hD ?_
         refine XD_done (by kernel_rfl) ?_
         refine at_noP ?_
         refine at_then ?_
         refine X_seq ?_
         refine X_draw mixed (by kernel_rfl) ?_
         refine XQ_v0 (ev_move rfl) rfl rfl rfl ?_
         refine XQ_v0 (ev_loadA rfl agt_108 (fun hg => by first | exact Cells.immC h2 | exact Sl.getA hH.1 hy | exact Cells.immC (vs := [.int .i64 pp, .int .i64 (dayF cr (dn : Int))]) h15 | (repeat (first | exact Cells.here | exact Cells.s0 (vs := [_, _]) rfl | apply Cells.there | apply Cells.app))) rfl) rfl rfl rfl ?_
         refine XQ_v0 (ev_lookupI (m := cntM (esJ cr pl k (dayF cr (dn : Int)) s (j + 1))) (ek := encK2) (a := (pp, dayF cr (dn : Int))) mpt_107 key_108 rfl rfl (fun _ => (by first | exact Mem.m0 | exact Mem.m1 | exact Mem.m2 | exact Mem.m3 | exact Mem.m4 | exact Mem.m5 | (repeat (first | exact Mem.m0 | apply Mem.there | apply Mem.app))))) rfl rfl rfl ?_
         refine XQ_v0 (ev_fieldAddr rfl fld_33_2) rfl rfl rfl ?_
         refine XQ_v0 (ev_load rfl sct_3 (fun hg => by first | exact Cell.imm h2 rfl | exact Cell.imm h9 rfl | exact Sl.get0 hS hx rfl | exact Sl.get0 hS hw0 rfl | exact Sl.get0 hN hp rfl | exact Sl.get0 hW hp rfl | exact Sl.get0 hD hdt rfl | (repeat (first | exact Cell.here rfl | apply Cell.there | apply Cell.app)))) rfl rfl rfl ?_
         refine XQ_v0 (ev_cmp rfl rfl rfl) rfl rfl rfl ?_
         refine XQ_v0 (ev_move rfl) rfl rfl rfl ?_
         refine XQ_pushF 6 rfl rfl rfl ?_
         refine XQ_v1 (ev_move rfl) (.some rfl rfl rfl rfl gbf) rfl rfl rfl ?_
         refine XQ_v1 (ev_loadA rfl agt_108 (fun hg => by first | exact Cells.immC h2 | exact Sl.getA hH.1 hy | exact Cells.immC (vs := [.int .i64 pp, .int .i64 (dayF cr (dn : Int))]) h15 | (repeat (first | exact Cells.here | exact Cells.s0 (vs := [_, _]) rfl | apply Cells.there | apply Cells.app))) rfl) (.some rfl rfl rfl rfl gbf) rfl rfl rfl ?_
         refine XQ_v1 (ev_lookupI (m := sumM (esJ cr pl k (dayF cr (dn : Int)) s (j + 1))) (ek := encK2) (a := (pp, dayF cr (dn : Int))) mpt_107 key_108 rfl rfl (fun _ => (by first | exact Mem.m0 | exact Mem.m1 | exact Mem.m2 | exact Mem.m3 | exact Mem.m4 | exact Mem.m5 | (repeat (first | exact Mem.m0 | apply Mem.there | apply Mem.app))))) (.some rfl rfl rfl rfl gbf) rfl rfl rfl ?_
         refine XQ_v1 (ev_fieldAddr rfl fld_33_3) (.some rfl rfl rfl rfl gbf) rfl rfl rfl ?_
         refine XQ_v1 (ev_load rfl sct_3 (fun hg => by first | exact Cell.imm h2 rfl | exact Cell.imm h9 rfl | exact Sl.get0 hS hx rfl | exact Sl.get0 hS hw0 rfl | exact Sl.get0 hN hp rfl | exact Sl.get0 hW hp rfl | exact Sl.get0 hD hdt rfl | (repeat (first | exact Cell.here rfl | apply Cell.there | apply Cell.app)))) (.some rfl rfl rfl rfl gbf) rfl rfl rfl ?_
         refine XQ_v1 (ev_cmp rfl rfl rfl) (.some rfl rfl rfl rfl gbf) rfl rfl rfl ?_
         refine XQ_or0 rfl rfl rfl rfl rfl ?_
         refine XQ_nil ?_
         refine at_then ?_
         refine X_cond rfl (fun hc113 => ?_) (fun hc113 => ?_)
         ·
          have hb113 : whoB cr (esJ cr pl k (dayF cr (dn : Int)) s (j + 1)) (pp, dayF cr (dn : Int)) = true := by rw [← whoB_eq e2 e3]; exact hc113
          have hF : holdsF cr pl = false := holds_2 (allH_no (List.getElem?_eq_some_iff.1 hx).1 (by rw [okAt_eq hx hy2]; exact okH_4 (whoT_badJ hp hb113)))
          refine X_seq (X_region ?_)
          refine zA ?_
          refine XO_nil (at_then ?_)
          refine X_ret ?_
          refine at_block_r ?_
          refine at_then_r ?_
          refine at_then_r ?_
          refine at_block_r ?_
          refine at_block_r ?_
          refine at_then_r ?_
          refine at_then_r ?_
          refine at_block_r ?_
          refine at_then_r ?_
          exact at_ret1 rfl rfl (fun w hw => ⟨by rw [hF], (hw.mono hIc).drop⟩)
         ·
          have hb113 : whoB cr (esJ cr pl k (dayF cr (dn : Int)) s (j + 1)) (pp, dayF cr (dn : Int)) = false := by rw [← whoB_eq e2 e3]; exact hc113
          refine X_skip ?_
          refine at_block_n ?_
          refine at_then ?_
          refine X_region ?_
          refine zB ?_
          refine zM ?_
          refine XO_nil ?_
          exact at_met2 _ _ ⟨z.n - (j + 1), by omega, j + 1, rfl, rfl, hB4, rfl, by omega, whoT_stepJ hwt hp hb113⟩ (.cons rfl (.cons rfl (.cons rfl (.cons rfl (.cons rfl (.cons rfl (.cons rfl (.cons rfl (.cons rfl (.cons rfl (.cons rfl (.cons rfl (.cons rfl .nil))))))))))))) (by repeat (first | exact .refl | exact subL_left | refine subL_app ?_ | refine .drop ?_ | refine subL_add ?_))
      ·
       have hge_j : z.n ≤ j := by have h := hc76; simp at h; omega
       rw [esJ_end hx hy2 (by omega)]
       refine X_exit ?_
       refine at_then_e ?_
       refine at_then_e ?_
       refine at_block_hit ?_
       refine at_block_n ?_
       refine at_then ?_
       refine X_region ?_
       refine zB ?_
       refine zM ?_
       refine XO_nil ?_
       exact at_met2 _ _ ⟨n - (k + 1), by omega, k + 1, rfl, rfl, hB0, rfl, by omega, allT_step hal (by rw [okAt_eq hx hy2]; exact okH_5 hb47 hb57 hnd9 (whoT_all hwt (by omega)))⟩ (.cons rfl (.cons rfl (.cons rfl (.cons rfl (.cons rfl (.cons rfl (.cons rfl (.cons rfl .nil)))))))) (by repeat (first | exact .refl | exact subL_left | refine subL_app ?_ | refine .drop ?_ | refine subL_add ?_))
  ·
   have hge_k : n ≤ k := by have h := hc31; simp at h; omega
   have hin := allT_in (by omega) hal (by omega)
   have hall := allH_T (c := cr) (pl := pl) (i := k) (by omega)
   rw [hal] at hall
   rw [List.take_of_length_le (show pl.length ≤ k by omega)]
   have hell := evs_len h8 hwh pl
   have hcl := cntM_len (evs cr pl)
   refine X_exit ?_
   refine at_then_e ?_
   refine at_then_e ?_
   refine at_block_hit ?_
   refine at_then ?_
   refine X_seq ?_
   refine X_seq (X_region ?_)
   refine zM ?_
   refine XO_range (ek := encK2) (ev := Value.int .i64) (m := cntM (evs cr pl)) rfl mpt_107 rfl rfl (.inr (by simp)) (fun b_117 => ?_)
   refine XO_nil (at_then ?_)
   refine X_block ?_
   refine X_loopT [(2, _), (6, _), (117, _)] (.cons rfl (.cons rfl (.cons rfl .nil))) (fun T L0 mz E I' loc' => ∃ (seen : List Nat), mz = (cntM (evs cr pl)).length - seen.length ∧ E = T ∧ J2 = I' ∧ (b_117, iterO r_25 (cntM (evs cr pl)).length seen) :: [(r_26, mapO encK2 (Value.int .i64) (sumM (evs cr pl))), (r_25, mapO encK2 (Value.int .i64) (cntM (evs cr pl))), (r_24, mapO (Value.int .i64) (Value.int .i64) (cntM (stuE pl)))] = loc' ∧ rowS cr pl seen ∧ seen.Nodup ∧ ∀ i ∈ seen, i < (cntM (evs cr pl)).length) _ _ _ _ ⟨[], rfl, rfl, rfl, rfl, rowS_nil cr pl, .nil, fun i h => by cases h⟩ (.cons rfl (.cons rfl (.cons rfl .nil))) (HLe.refl _) rfl ?_
   rintro mz E I' loc' ⟨seen, rfl, rfl, rfl, rfl, hrw, hnd2, hlt2⟩
   have hsl := seen_lt hnd2 hlt2
   refine X_seq (X_region ?_)
   refine XO_next2 (ek := encK2) (ev := Value.int .i64) (m := cntM (evs cr pl)) (fun s' => (b_117, iterO r_25 (cntM (evs cr pl)).length s') :: [(r_26, mapO encK2 (Value.int .i64) (sumM (evs cr pl))), (r_25, mapO encK2 (Value.int .i64) (cntM (evs cr pl))), (r_24, mapO (Value.int .i64) (Value.int .i64) (cntM (stuE pl)))]) rfl (fun s' => .here) rfl rfl rfl rfl rfl (.inr (by simp)) (by simp) ?_
   intro t tv s' hno hyes
   refine XO_nil (at_then ?_)
   refine X_seq ?_
   refine X_cond rfl (fun hc119 => ?_) (fun hc119 => ?_)
   ·
    obtain ⟨i, q, hq, hns, hs9⟩ := hyes hc119
    have hs9 := hs9.symm
    subst hs9
    obtain ⟨hnd3, hlt3⟩ := seen_more hnd2 hlt2 hns (List.getElem?_eq_some_iff.1 hq).1
    have hsl2 := seen_lt hnd3 hlt3
    rw [List.length_append, List.length_singleton] at hsl2
    have hky := (cntM_key (evs cr pl) q.1).1 (List.mem_map_of_mem (f := (·.1)) (List.mem_of_getElem? hq))
    have hkb := evs_top hr hin (p := q.1.1) (y := q.1.2) hky
    refine X_skip ?_
    refine at_then ?_
    refine X_block ?_
    refine X_seq (X_region ?_)
    refine XO_v0 (ev_entry (ek := encK2) (ev := Value.int .i64) (m := cntM (evs cr pl)) (r := r_25) (b := b_117) (p := q) (seen := seen) (i := i) rfl (.inr (by simp)) (.inr (by simp)) hq) rfl rfl rfl ?_
    refine XO_v0 (ev_extract rfl rfl) rfl rfl rfl ?_
    refine XO_alloc zt_108 rfl rfl (fun b_16 => ?_)
    refine XO_storeA rfl rfl szt_108 rfl rfl rfl rfl (by repeat (first | exact Upd.here | apply Upd.there | apply upd_app)) ?_
    refine XO_nil (at_then (X_seq (X_region ?_)))
    refine zA ?_
    refine XO_nil (at_then ?_)
    refine X_seq ?_
    refine X_block ?_
    refine X_loopT [(2, _), (6, _), (16, _), (117, _)] (.cons rfl (.cons rfl (.cons rfl (.cons rfl .nil)))) (fun T L0 mz E I' loc' => ∃ (row : Int), mz = (q.1.2 + 2 - row).toNat ∧ E = (17, .int .i64 row) :: T ∧ J2 = I' ∧ (b_16, .cells #[.int .i64 q.1.1, .int .i64 q.1.2] 108 (0, 0)) :: (b_117, iterO r_25 (cntM (evs cr pl)).length (seen ++ [i])) :: [(r_26, mapO encK2 (Value.int .i64) (sumM (evs cr pl))), (r_25, mapO encK2 (Value.int .i64) (cntM (evs cr pl))), (r_24, mapO (Value.int .i64) (Value.int .i64) (cntM (stuE pl)))] = loc' ∧ 1 ≤ row ∧ row ≤ q.1.2 + 1 ∧ ∀ j : Int, 1 ≤ j → j < row → decide (cntE (evs cr pl) (q.1.1, q.1.2 - j) > 0) = true) _ _ _ _ ⟨1, rfl, rfl, rfl, rfl, Int.le_refl _, by omega, fun j a b => by omega⟩ (.cons rfl (.cons rfl (.cons rfl (.cons rfl (.cons rfl .nil))))) (HLe.refl _) rfl ?_
    rintro mz E I' loc' ⟨row, rfl, rfl, rfl, rfl, hw1, hw2, hw3⟩
    refine X_seq ?_
    refine X_seq (X_region ?_)
    refine zM ?_
    refine XO_v0 (ev_indexArr rfl rfl art_108 (fun hg => by first | decide | omega)) rfl rfl rfl ?_
    refine XO_v0 (ev_load rfl sct_3 (fun hg => by first | exact Cell.imm h2 rfl | exact Cell.imm h9 rfl | exact Sl.get0 hS hx rfl | exact Sl.get0 hS hw0 rfl | exact Sl.get0 hN hp rfl | exact Sl.get0 hW hp rfl | exact Sl.get0 hD hdt rfl | (repeat (first | exact Cell.here rfl | apply Cell.there | apply Cell.app)))) rfl rfl rfl ?_
    refine XO_v0 (ev_indexArr rfl rfl art_108 (fun hg => by first | decide | omega)) rfl rfl rfl ?_
    refine XO_v0 (ev_load rfl sct_3 (fun hg => by first | exact Cell.imm h2 rfl | exact Cell.imm h9 rfl | exact Sl.get0 hS hx rfl | exact Sl.get0 hS hw0 rfl | exact Sl.get0 hN hp rfl | exact Sl.get0 hW hp rfl | exact Sl.get0 hD hdt rfl | (repeat (first | exact Cell.here rfl | apply Cell.there | apply Cell.app)))) rfl rfl rfl ?_
    refine zM ?_
    refine zB ?_
    refine XO_v0 (ev_buildArr (ps := [(0, _), (1, _)]) [_, _] art_108 zt_108 rfl rfl) rfl rfl rfl ?_
    refine XO_v0 (ev_lookupI (m := cntM (evs cr pl)) (ek := encK2) (a := (q.1.1, q.1.2 - row)) mpt_107 key_108 rfl rfl (fun _ => (by first | exact Mem.m0 | exact Mem.m1 | exact Mem.m2 | exact Mem.m3 | exact Mem.m4 | exact Mem.m5 | (repeat (first | exact Mem.m0 | apply Mem.there | apply Mem.app))))) rfl rfl rfl ?_
    refine zC ?_
    refine XO_nil (at_then ?_)
    refine X_cond rfl (fun hc131 => ?_) (fun hc131 => ?_)
    ·
     have hbt : decide (cntE (evs cr pl) (q.1.1, q.1.2 - row) > 0) = true := by rw [← cntM_get]; exact hc131
     have hx0 := evs_top hr hin (of_decide_eq_true hbt)
     refine X_skip ?_
     refine at_then ?_
     refine X_block ?_
     refine X_region ?_
     refine zM ?_
     refine zB ?_
     refine zA ?_
     refine XO_nil ?_
     refine at_block_n ?_
     exact at_met2 _ _ ⟨(q.1.2 + 2 - (row + 1)).toNat, by omega, row + 1, rfl, rfl, rfl, rfl, by omega, by omega, fun j a b => by by_cases hj : j < row; exact hw3 j a hj; obtain rfl : j = row := (by omega); exact hbt⟩ (.cons rfl (.cons rfl (.cons rfl (.cons rfl (.cons rfl .nil))))) .refl
    ·
     have hbf : decide (cntE (evs cr pl) (q.1.1, q.1.2 - row) > 0) = false := by rw [← cntM_get]; exact hc131
     have hre := row_end (run := cr.ru) hw3 hw1 hbf
     refine X_exit ?_
     refine at_then_e ?_
     refine at_then_e ?_
     refine at_block_hit ?_
     refine at_then ?_
     refine X_seq (X_region ?_)
     refine zM ?_
     refine XO_v0 (ev_fieldAddr rfl fld_33_4) rfl rfl rfl ?_
     refine XO_v0 (ev_load rfl sct_3 (fun hg => by first | exact Cell.imm h2 rfl | exact Cell.imm h9 rfl | exact Sl.get0 hS hx rfl | exact Sl.get0 hS hw0 rfl | exact Sl.get0 hN hp rfl | exact Sl.get0 hW hp rfl | exact Sl.get0 hD hdt rfl | (repeat (first | exact Cell.here rfl | apply Cell.there | apply Cell.app)))) rfl rfl rfl ?_
     refine zC ?_
     refine XO_nil (at_then ?_)
     refine X_cond rfl (fun hc137 => ?_) (fun hc137 => ?_)
     ·
      have hb137 : rowKB cr pl q = true := by unfold rowKB; rw [← hre, ← e4]; exact hc137
      have hF : holdsF cr pl = false := holds_3 (rowS_bad hq hb137)
      refine X_seq (X_region ?_)
      refine zA ?_
      refine XO_nil (at_then ?_)
      refine X_ret ?_
      refine at_block_r ?_
      refine at_then_r ?_
      refine at_block_r ?_
      refine at_then_r ?_
      exact at_ret1 rfl rfl (fun w hw => ⟨by rw [hF], (hw.mono hIc).drop⟩)
     ·
      have hb137 : rowKB cr pl q = false := by unfold rowKB; rw [← hre, ← e4]; exact hc137
      refine X_skip ?_
      refine at_block_n ?_
      exact at_met2 _ _ ⟨(cntM (evs cr pl)).length - (seen ++ [i]).length, by rw [List.length_append, List.length_singleton]; omega, seen ++ [i], rfl, rfl, rfl, rfl, rowS_snoc hrw hq hb137, hnd3, hlt3⟩ (.cons rfl (.cons rfl (.cons rfl .nil))) (by repeat (first | exact .refl | exact subL_left | refine subL_app ?_ | refine .drop ?_ | refine subL_add ?_))
   ·
    obtain ⟨rfl, hall9⟩ := hno hc119
    have hT9 : holdsF cr pl = true := holds_4 (by omega) hall (rowS_all hrw hall9)
    refine X_exit ?_
    refine at_then_e ?_
    refine at_then_e ?_
    refine at_block_hit ?_
    refine at_then ?_
    refine X_seq (X_region ?_)
    refine zA ?_
    refine XO_nil (at_then ?_)
    refine X_ret ?_
    exact at_ret1 rfl rfl (fun w hw => ⟨by rw [hT9], (hw.mono hIc).drop⟩)
end Go.Proofs.YtehkiccapbkhnaaGreat
end
section
namespace Go.Proofs.YtehkiccapbkhnaaGreat
open Go Go.Kn Go.Proofs
theorem which_at {z : Int} {n : Nat} (h : 0 ≤ z ∧ z ≤ 255) (hn : n ≠ 0) : ∃ w : Nat, (IntKind.i64.wrap z).tmod n = w ∧ w < n := by
  have e : IntKind.i64.wrap z = z := by unfold IntKind.wrap IntKind.signed IntKind.bits; simp; omega
  rw [e]
  have h0 : (0 : Int) < n := by omega
  have h1 := Int.tmod_nonneg (n : Int) h.1
  have h2 := Int.tmod_lt_of_pos z h0
  exact ⟨(z.tmod n).toNat, by omega, by omega⟩
end Go.Proofs.YtehkiccapbkhnaaGreat
end
section
namespace Go.Proofs.YtehkiccapbkhnaaGreat
open Go Go.Kn Go.Proofs
theorem cvt_5_3 : CvT Tryz.prog 5 3 .i64 := ⟨by kernel_rfl, by kernel_rfl⟩
theorem fun_10 : Fun Tryz.prog 10 := .of Tryz.func10 (by kernel_rfl) (by kernel_rfl)
theorem fun_29 : Fun Tryz.prog 29 := .of Tryz.func29 (by kernel_rfl) (by kernel_rfl)
theorem fun_30 : Fun Tryz.prog 30 := .of Tryz.func30 (by kernel_rfl) (by kernel_rfl)
end Go.Proofs.YtehkiccapbkhnaaGreat
end
section
namespace Go.Proofs.YtehkiccapbkhnaaGreat
open Go Go.Kn Go.Proofs
theorem planL_some {c : Cr} {k : Nat} {x : List Int} (hk : chkC c = 0) (h : planF c = some (k, x)) : planL c = x ∧ planO c = true := by
  unfold planL planO; rw [if_pos hk, h, decide_eq_true hk]; exact ⟨rfl, rfl⟩
theorem planL_none {c : Cr} (hk : chkC c = 0) (h : planF c = none) : planL c = [] ∧ planO c = false := by
  unfold planL planO; rw [if_pos hk, h, decide_eq_true hk]; exact ⟨rfl, rfl⟩
theorem plan_len9 {c : Cr} (hk : chkC c = 0) (h8 : c.ss.length ≤ 8) : (planL c).length ≤ 8 := by
  cases h : planF c with
  | none => rw [(planL_none hk h).1]; simp
  | some q =>
    obtain ⟨k, x⟩ := q
    rw [(planL_some hk h).1, (plan_good h).1.1]; exact h8
theorem either_1 {c : Cr} (hc : rightF c = true) (h8 : c.ss.length ≤ 8) (hk : chkC c = 0) : (((chkC c != 0) || (planO c && !holdsF c (planL c))) || (!planO c && decide (((planL c).length : Int) > 0))) = false := by
  rw [hk]
  cases h : planF c with
  | none => obtain ⟨e1, e2⟩ := planL_none hk h; rw [e1, e2]; rfl
  | some q =>
    obtain ⟨k, x⟩ := q
    obtain ⟨e1, e2⟩ := planL_some hk h
    rw [e1, e2, (holds_iff hc h8).2 ⟨(plan_good h).1.1, plan_in h, (plan_good h).1.2.2⟩]; rfl
theorem few_yes {c : Cr} (hk : chkC c = 0) (h : planO c = true) : maxP (planL c) = fewF c := by
  cases h2 : planF c with
  | none => rw [(planL_none hk h2).2] at h; cases h
  | some q =>
    obtain ⟨k, x⟩ := q
    rw [(planL_some hk h2).1]; unfold fewF; rw [h2]
theorem few_no {c : Cr} (hk : chkC c = 0) (h : planO c = false) : (c.days.length : Int) + 1 = fewF c := by
  cases h2 : planF c with
  | none => unfold fewF; rw [h2]
  | some q => obtain ⟨k, x⟩ := q; rw [(planL_some hk h2).2] at h; cases h
theorem plan_day {c : Cr} (hk : chkC c = 0) {d : Int} (h : d ∈ planL c) : 0 ≤ d ∧ d < c.days.length := by
  cases h2 : planF c with
  | none => rw [(planL_none hk h2).1] at h; cases h
  | some q =>
    obtain ⟨k, x⟩ := q
    rw [(planL_some hk h2).1] at h; exact plan_in h2 d h
theorem lastE_in {c : Cr} {n : Nat} (hk : chkC c = 0) (hn : n ≤ c.days.length) : lastE c (n : Int) = 0 := lastE_3 hk (by simp; omega)
theorem ref_few {c : Cr} {n : Nat} (hc : rightF c = true) (hk : chkC c = 0) (hn : n ≤ c.days.length) : refO c (n : Int) = decide ((n : Int) < fewF c) := by
  unfold refO
  rw [lastE_in hk hn, decide_eq_true rfl, Bool.true_and, Int.toNat_natCast, Bool.eq_iff_iff, decide_eq_true_eq, ← few_iff hc hn, Option.isNone_iff_eq_none]
theorem either_2 {c : Cr} {n : Nat} (hc : rightF c = true) (hk : chkC c = 0) (hn : n ≤ c.days.length) : ((lastE c (n : Int) != 0) || (refO c (n : Int) != decide ((n : Int) < fewF c))) = false := by
  rw [ref_few hc hk hn, lastE_in hk hn]; simp
theorem ref_srch {c : Cr} {n : Nat} (h : refO c (n : Int) = true) : refP c (n : Int) = (srch c n c.ss.length []).1 ∧ (srch c n c.ss.length []).2 = none := by
  refine ⟨by unfold refP; rw [if_pos h, Int.toNat_natCast], ?_⟩
  unfold refO at h
  rw [Bool.and_eq_true, Int.toNat_natCast, Option.isNone_iff_eq_none] at h
  exact h.2
theorem either_4 {c : Cr} {n : Nat} (hk : chkC c = 0) (hn : n ≤ c.days.length) (h : refO c (n : Int) = true) : ((lastE c (n : Int) == 0) && accO c (n : Int) (refP c (n : Int))) = true := by
  obtain ⟨h1, h2⟩ := ref_srch h
  unfold accO
  rw [lastE_in hk hn, h1, srch_proves (by simp) h2]; rfl
theorem either_3 {c : Cr} {n : Nat} (hc : rightF c = true) (hk : chkC c = 0) (hn : n ≤ c.days.length) (h : refO c (n : Int) = false) (p : Pr) : ((lastE c (n : Int) != 0) || accO c (n : Int) p) = false := by
  have h1 : (srch c n c.ss.length []).2 ≠ none := fun e => by
    unfold refO at h; rw [lastE_in hk hn, Int.toNat_natCast, e] at h; cases h
  have h2 : ∃ x, Good c n x := Classical.not_not.1 fun e => h1 ((srch_none hc n).2 e)
  obtain ⟨x, hx⟩ := h2
  unfold accO
  rw [lastE_in hk hn, proves_none hc p (Nat.zero_le _) List.nil_prefix hx]; rfl
theorem ref_sml {c : Cr} {n : Nat} (hn : n ≤ 100000) : smlP (refP c (n : Int)) := by
  unfold refP
  split
  · exact srch_sml (by rw [Int.toNat_natCast]; exact hn) _ _
  · exact zero_sml
end Go.Proofs.YtehkiccapbkhnaaGreat
end
section
namespace Go.Proofs.YtehkiccapbkhnaaGreat
open Go Go.Kn Go.Proofs
theorem fun_24 : Fun Tryz.prog 24 := .of Tryz.func24 (by kernel_rfl) (by kernel_rfl)
theorem max_step {l : List Int} {k : Nat} {d : Int} (h : l[k]? = some d) : maxI (maxP (l.take k)) (d + 1) = maxP (l.take (k + 1)) := by
 rw [List.take_add_one, h]
 show _ = maxP (l.take k ++ [d])
 rw [maxP_snoc]; rfl
theorem w_eitherLaw {I : HMap} {x : CH} {cr : Cr} (hC : CrAt I x cr) (z : Int) (hz : 0 ≤ z ∧ z ≤ 255) (pr : Pr) (ph : PH) (hPr : PrAt I ph pr) : RetV Tryz.prog 6 [encCHA x, .int .u8 z, encPHA ph] I (.bool true) := by
 intro g H w hw
 refine enter Tryz.func6 rfl Tryz.ntmps6 rfl hw ?_
 have hIc := HLe.refl I
 have hlD : cr.days.length = x.n := hC.1.len
 have hlS : cr.ss.length = x.n2 := hC.2.2.2.2.2.len
 refine X_seq (X_region ?_)
 refine XO_box rfl rfl rfl (fun b_3 => ?_)
 refine XO_box rfl rfl rfl (fun b_5 => ?_)
 refine zA ?_
 refine XO_nil (at_then ?_)
 refine X_seq ?_
 refine X_seq ?_
 refine X_freeze .here (fun I1 hI1 hb1 => ?_)
 have hC := hC.mono hI1
 have hPr := hPr.mono hI1
 have hIc := hIc.trans hI1
 have h5 := ImmC.of hb1
 refine X_freeze .here (fun I2 hI2 hb2 => ?_)
 have hC := hC.mono hI2
 have hPr := hPr.mono hI2
 have h5 := h5.mono hI2
 have hIc := hIc.trans hI2
 have h3 := ImmC.of hb2
 refine X_region ?_
 refine XO_callV0 (cap := []) (vs := []) rfl rfl fun_10 (w_sane40 _) rfl rfl ?_
 refine XO_v0 (ev_not rfl) rfl rfl rfl ?_
 refine XO_nil (at_then ?_)
 refine X_cond rfl (fun hc24 => ?_) (fun hc24 => ?_)
 ·
  cases hc24
 ·
  refine X_skip ?_
  refine at_then ?_
  refine X_seq ?_
  refine X_seq (X_region ?_)
  refine XO_v0 (ev_loadA rfl agt_33 (fun hg => by first | exact Cells.immC h3 | exact Cells.immC (vs := encPH ph) h5 | exact Cells.immC (vs := encPH rh1) h14 | exact Sl.getA hQ hkh | exact Cells.here (vs := encPH kh) | (repeat (first | exact Cells.here | exact Cells.s0 (vs := [_, _, _, _, _, _]) rfl | apply Cells.there | apply Cells.app))) rfl) rfl rfl rfl ?_
  refine XO_callV0 (cap := []) (vs := [_]) rfl rfl fun_29 (w_right40 hC) rfl rfl ?_
  refine XO_v0 (ev_not rfl) rfl rfl rfl ?_
  refine zM ?_
  refine XO_pushF 3 rfl rfl rfl ?_
  refine XO_v1 (ev_loadA rfl agt_45 (fun hg => by first | exact Cells.immC h3 | exact Cells.immC (vs := encPH ph) h5 | exact Cells.immC (vs := encPH rh1) h14 | exact Sl.getA hQ hkh | exact Cells.here (vs := encPH kh) | (repeat (first | exact Cells.here | exact Cells.s0 (vs := [_, _, _, _]) rfl | apply Cells.there | apply Cells.app))) rfl) (.some rfl rfl rfl rfl gbf) rfl rfl rfl ?_
  refine XO_callV1 (cap := []) (vs := [_]) rfl rfl fun_24 (fun hg => w_rFewP I2 pr ph hPr) (.some rfl rfl rfl rfl gbf) rfl rfl ?_
  refine XO_v1 (ev_not rfl) (.some rfl rfl rfl rfl gbf) rfl rfl rfl ?_
  refine XO_or0 rfl rfl rfl rfl rfl ?_
  refine XO_nil (at_then ?_)
  refine X_cond rfl (fun hc32 => ?_) (fun hc32 => ?_)
  ·
   refine X_seq (X_region ?_)
   refine zA ?_
   refine XO_nil (at_then ?_)
   refine X_ret ?_
   refine at_then_r ?_
   exact at_ret1 rfl rfl (fun w hw => ⟨by rfl, (hw.mono hIc).drop⟩)
  ·
   have hrq : fewC cr = true ∧ chkC cr = 0 ∧ sizeP pr 0 ≤ 2000 := by have h := hc32; simp at h; exact ⟨h.1.1, h.1.2, h.2⟩
   have hk0 := hrq.2.1
   obtain ⟨hr, h16, h8, hwh, hpf⟩ := chkC_0 hk0
   have hnd : ∀ s ∈ cr.ss, s.needs.length ≤ 100000 := fun s hs => Nat.le_trans ((few_bd hrq.1).2.2 s hs).2 (by decide)
   have hsm := sizeP_sml pr 0 (by decide) hrq.2.2
   obtain ⟨L9, eK, hLl⟩ := which_at (n := x.n + 1) hz (by omega)
   have hL9 : L9 ≤ cr.days.length := by omega
   have hpn := plan_len9 hk0 h8
   refine X_skip ?_
   refine at_then ?_
   refine X_seq (X_region ?_)
   refine XO_v0 (ev_loadA rfl agt_33 (fun hg => by first | exact Cells.immC h3 | exact Cells.immC (vs := encPH ph) h5 | exact Cells.immC (vs := encPH rh1) h14 | exact Sl.getA hQ hkh | exact Cells.here (vs := encPH kh) | (repeat (first | exact Cells.here | exact Cells.s0 (vs := [_, _, _, _, _, _]) rfl | apply Cells.there | apply Cells.app))) rfl) rfl rfl rfl ?_
   refine XO_callM (cap := []) (vs := [_]) rfl rfl fun_18 .nil (w_Plan hC hnd) rfl rfl ?_
   rintro vv3 I3 L3 hI3 ⟨rfl, pa1, pc1, rfl, hP1⟩
   have hC := hC.mono hI3
   have hPr := hPr.mono hI3
   have h5 := h5.mono hI3
   have h3 := h3.mono hI3
   have hIc := hIc.trans hI3
   rw [List.nil_append]
   refine zM ?_
   refine XO_v0 (ev_extract rfl rfl) rfl rfl rfl ?_
   refine XO_v0 (ev_extract rfl rfl) rfl rfl rfl ?_
   refine XO_v0 (ev_extract rfl rfl) rfl rfl rfl ?_
   refine zA ?_
   refine zA ?_
   refine zA ?_
   refine XO_nil (at_then ?_)
   refine X_seq ?_
   refine X_seq (X_region ?_)
   refine zM ?_
   refine zC ?_
   refine zM ?_
   refine XO_pushF 2 rfl rfl rfl ?_
   refine XO_v1 (ev_move rfl) (.some rfl rfl rfl rfl gbf) rfl rfl rfl ?_
   refine XO_v1 (ev_move rfl) (.some rfl rfl rfl rfl gbf) rfl rfl rfl ?_
   refine XO_pushT 4 rfl rfl rfl ?_
   refine XO_v1 (ev_loadA rfl agt_33 (fun hg => by first | exact Cells.immC h3 | exact Cells.immC (vs := encPH ph) h5 | exact Cells.immC (vs := encPH rh1) h14 | exact Sl.getA hQ hkh | exact Cells.here (vs := encPH kh) | (repeat (first | exact Cells.here | exact Cells.s0 (vs := [_, _, _, _, _, _]) rfl | apply Cells.there | apply Cells.app))) rfl) (.some rfl rfl rfl rfl gbt) rfl rfl rfl ?_
   refine XO_v1 (ev_move rfl) (.some rfl rfl rfl rfl gbt) rfl rfl rfl ?_
   refine XO_callV1 (cap := []) (vs := [_, _]) rfl rfl fun_30 (fun hg => w_holds hC hr h16 h8 hwh hnd hP1 (by omega)) (.some rfl rfl rfl rfl gbt) rfl rfl ?_
   refine XO_v1 (ev_not rfl) (.some rfl rfl rfl rfl gbt) rfl rfl rfl ?_
   refine XO_and1 rfl rfl rfl (.some rfl rfl rfl rfl gbf) rfl rfl ?_
   refine XO_or0 rfl rfl rfl rfl rfl ?_
   refine zM ?_
   refine XO_pushF 11 rfl rfl rfl ?_
   refine XO_v1 (ev_move rfl) (.some rfl rfl rfl rfl gbf) rfl rfl rfl ?_
   refine XO_v1 (ev_not rfl) (.some rfl rfl rfl rfl gbf) rfl rfl rfl ?_
   refine XO_v1 (ev_move rfl) (.some rfl rfl rfl rfl gbf) rfl rfl rfl ?_
   refine XO_pushT 14 rfl rfl rfl ?_
   refine XO_v1 (ev_move rfl) (.some rfl rfl rfl rfl gbt) rfl rfl rfl ?_
   refine XO_v1 (ev_lenS rfl slt_23) (.some rfl rfl rfl rfl gbt) rfl rfl rfl ?_
   refine XO_v1 (ev_cmp rfl rfl rfl) (.some rfl rfl rfl rfl gbt) rfl rfl rfl ?_
   refine XO_and1 rfl rfl rfl (.some rfl rfl rfl rfl gbf) rfl rfl ?_
   refine XO_or0 rfl rfl rfl rfl rfl ?_
   refine XO_nil (at_then ?_)
   refine X_cond rfl (fun hc58 => ?_) (fun hc58 => ?_)
   ·
    exact absurd hc58 (by rw [either_1 hr h8 hk0]; decide)
   ·
    refine X_skip ?_
    refine at_then ?_
    refine X_seq (X_region ?_)
    refine XO_v0 (ev_fieldAddr rfl fld_33_0) rfl rfl rfl ?_
    refine XO_v0 (ev_load rfl sct_23 (fun hg => by first | exact Cell.imm h3 rfl | exact Sl.get0 hP1 hx rfl | (repeat (first | exact Cell.here rfl | apply Cell.there | apply Cell.app)))) rfl rfl rfl ?_
    refine XO_v0 (ev_lenS rfl slt_23) rfl rfl rfl ?_
    refine zB ?_
    refine zA ?_
    refine XO_nil (at_then ?_)
    refine X_cutT [(1, _), (3, _), (5, _)] (.cons rfl (.cons rfl (.cons rfl .nil))) (fun T L0 E I' loc' => E = (10, .int .i64 (fewF cr)) :: T ∧ I3 = I' ∧ [] = loc' ∧ True) ?_ ?_
    ·
     refine X_seq (X_region ?_)
     refine zM ?_
     refine XO_nil (at_then ?_)
     refine X_cond rfl (fun hc63 => ?_) (fun hc63 => ?_)
     ·
      have hpo : planO cr = true := hc63
      refine X_seq (X_region ?_)
      refine zA ?_
      refine XO_nil (at_then (X_seq (X_region ?_)))
      refine zM ?_
      refine XO_v0 (ev_lenS rfl slt_23) rfl rfl rfl ?_
      refine zM ?_
      refine XO_nil (at_then ?_)
      refine X_block ?_
      refine X_loopT [(1, _), (3, _), (5, _), (64, _), (65, _)] (.cons rfl (.cons rfl (.cons rfl (.cons rfl (.cons rfl .nil))))) (fun T L0 mz E I' loc' => ∃ (k : Nat) (mx : Int), mz = (planL cr).length - k ∧ E = (10, .int .i64 mx) :: (66, .int .i64 k) :: T ∧ I3 = I' ∧ L0 = loc' ∧ k ≤ (planL cr).length ∧ mx = maxP ((planL cr).take k)) _ _ _ _ ⟨0, 0, rfl, rfl, rfl, rfl, Nat.zero_le _, rfl⟩ (.cons rfl (.cons rfl (.cons rfl (.cons rfl (.cons rfl (.cons rfl (.cons rfl .nil))))))) (HLe.refl _) rfl ?_
      rintro mz E I' loc' ⟨k, mx, rfl, rfl, rfl, rfl, hk, hmx⟩
      refine X_seq (X_region ?_)
      refine zC ?_
      refine XO_nil (at_then ?_)
      refine X_seq ?_
      refine X_cond rfl (fun hc67 => ?_) (fun hc67 => ?_)
      ·
       have hlt_k : k < (planL cr).length := by have h := hc67; simp at h; omega
       obtain ⟨d, hx⟩ := hP1.at hlt_k
       have hdd := plan_day hk0 (List.mem_of_getElem? hx)
       refine X_skip ?_
       refine at_then ?_
       refine X_seq ?_
       refine X_block ?_
       refine X_seq (X_region ?_)
       refine XO_v0 (ev_indexSl rfl rfl slt_23 hP1 (fun hg => by first | omega | (simp [conj] at hg; omega))) rfl rfl rfl ?_
       refine XO_v0 (ev_load rfl sct_3 (fun hg => by first | exact Cell.imm h3 rfl | exact Sl.get0 hP1 hx rfl | (repeat (first | exact Cell.here rfl | apply Cell.there | apply Cell.app)))) rfl rfl rfl ?_
       refine zA ?_
       refine XO_nil (at_then ?_)
       refine X_region ?_
       refine zM ?_
       refine zM ?_
       refine zB ?_
       refine XO_v0 (ev_max rfl rfl) rfl rfl rfl ?_
       refine zA ?_
       refine XO_nil ?_
       refine at_block_n ?_
       refine at_then ?_
       refine X_region ?_
       refine zB ?_
       refine zM ?_
       refine XO_nil ?_
       exact at_met2 _ _ ⟨(planL cr).length - (k + 1), by omega, k + 1, _, rfl, rfl, rfl, rfl, by omega, by rw [hmx]; exact max_step hx⟩ (.cons rfl (.cons rfl (.cons rfl (.cons rfl (.cons rfl (.cons rfl (.cons rfl .nil))))))) (by repeat (first | exact .refl | exact subL_left | refine subL_app ?_ | refine .drop ?_ | refine subL_add ?_))
      ·
       have hge_k : (planL cr).length ≤ k := by have h := hc67; simp at h; omega
       rw [List.take_of_length_le hge_k, few_yes hk0 hpo] at hmx
       subst hmx
       refine X_exit ?_
       refine at_then_e ?_
       refine at_then_e ?_
       refine at_block_hit ?_
       first
       | exact at_met2 _ _ ⟨rfl, rfl, rfl, trivial⟩ (.cons rfl (.cons rfl (.cons rfl (.cons rfl .nil)))) (by repeat (first | exact .refl | exact subL_left | refine subL_app ?_ | refine .drop ?_ | refine subL_add ?_))
     ·
      have hpo : planO cr = false := hc63
      rw [← hlD, few_no hk0 hpo]
      refine X_skip ?_
      first
      | exact at_met2 _ _ ⟨rfl, rfl, rfl, trivial⟩ (.cons rfl (.cons rfl (.cons rfl (.cons rfl .nil)))) (by repeat (first | exact .refl | exact subL_left | refine subL_app ?_ | refine .drop ?_ | refine subL_add ?_))
    ·
     rintro E I' loc' ⟨rfl, rfl, rfl, _⟩
     refine X_seq (X_region ?_)
     refine zM ?_
     refine XO_v0 (ev_convI rfl cvt_5_3) rfl rfl rfl ?_
     refine XO_v0 (ev_fieldAddr rfl fld_33_0) rfl rfl rfl ?_
     refine XO_v0 (ev_load rfl sct_23 (fun hg => by first | exact Cell.imm h3 rfl | exact Sl.get0 hP1 hx rfl | (repeat (first | exact Cell.here rfl | apply Cell.there | apply Cell.app)))) rfl rfl rfl ?_
     refine XO_v0 (ev_lenS rfl slt_23) rfl rfl rfl ?_
     refine zB ?_
     refine XO_v0 (ev_rem rfl rfl (fun hg => by first | decide | omega)) rfl rfl rfl ?_
     refine zA ?_
     refine XO_nil ?_
     rw [show ((x.n : Int) + 1) = ((x.n + 1 : Nat) : Int) from by omega, eK]
     refine at_then ?_
     refine X_seq (X_region ?_)
     refine XO_v0 (ev_loadA rfl agt_33 (fun hg => by first | exact Cells.immC h3 | exact Cells.immC (vs := encPH ph) h5 | exact Cells.immC (vs := encPH rh1) h14 | exact Sl.getA hQ hkh | exact Cells.here (vs := encPH kh) | (repeat (first | exact Cells.here | exact Cells.s0 (vs := [_, _, _, _, _, _]) rfl | apply Cells.there | apply Cells.app))) rfl) rfl rfl rfl ?_
     refine zM ?_
     refine XO_callM (cap := []) (vs := [_, _]) rfl rfl fun_25 .nil (w_Refute hC hnd (L9 : Int)) rfl rfl ?_
     rintro vv6 I6 L6 hI6 ⟨rfl, rh1, rfl, hR1⟩
     have hC := hC.mono hI6
     have hPr := hPr.mono hI6
     have h5 := h5.mono hI6
     have h3 := h3.mono hI6
     have hP1 := hP1.mono hI6
     have hIc := hIc.trans hI6
     rw [List.nil_append]
     refine zM ?_
     refine XO_v0 (ev_extract rfl rfl) rfl rfl rfl ?_
     refine XO_v0 (ev_extract rfl rfl) rfl rfl rfl ?_
     refine XO_v0 (ev_extract rfl rfl) rfl rfl rfl ?_
     refine XO_alloc zt_45 rfl rfl (fun b_14 => ?_)
     refine XO_storeA rfl rfl szt_45 rfl rfl rfl rfl (by repeat (first | exact Upd.here | apply Upd.there | apply upd_app)) ?_
     refine zA ?_
     refine zA ?_
     refine XO_nil (at_then ?_)
     refine X_seq ?_
     refine X_seq ?_
     refine X_freeze .here (fun I7 hI7 hb7 => ?_)
     have hC := hC.mono hI7
     have hPr := hPr.mono hI7
     have h5 := h5.mono hI7
     have h3 := h3.mono hI7
     have hP1 := hP1.mono hI7
     have hR1 := hR1.mono hI7
     have hIc := hIc.trans hI7
     have h14 := ImmC.of hb7
     refine X_region ?_
     refine zM ?_
     refine zC ?_
     refine zM ?_
     refine XO_pushF 2 rfl rfl rfl ?_
     refine XO_v1 (ev_move rfl) (.some rfl rfl rfl rfl gbf) rfl rfl rfl ?_
     refine XO_v1 (ev_move rfl) (.some rfl rfl rfl rfl gbf) rfl rfl rfl ?_
     refine XO_v1 (ev_move rfl) (.some rfl rfl rfl rfl gbf) rfl rfl rfl ?_
     refine XO_v1 (ev_cmp rfl rfl rfl) (.some rfl rfl rfl rfl gbf) rfl rfl rfl ?_
     refine XO_v1 (ev_boolN rfl rfl und_4) (.some rfl rfl rfl rfl gbf) rfl rfl rfl ?_
     refine XO_or0 rfl rfl rfl rfl rfl ?_
     refine XO_nil (at_then ?_)
     refine X_cond rfl (fun hc97 => ?_) (fun hc97 => ?_)
     ·
      exact absurd (show ((lastE cr (L9 : Int) != 0) || (refO cr (L9 : Int) != decide ((L9 : Int) < fewF cr))) = true from hc97) (by rw [either_2 hr hk0 hL9]; decide)
     ·
      refine X_skip ?_
      refine at_then ?_
      refine X_seq ?_
      refine X_seq (X_region ?_)
      refine zM ?_
      refine XO_nil (at_then ?_)
      refine X_cond rfl (fun hc98 => ?_) (fun hc98 => ?_)
      ·
       have hro : refO cr (L9 : Int) = true := hc98
       refine X_seq (X_region ?_)
       refine XO_v0 (ev_loadA rfl agt_33 (fun hg => by first | exact Cells.immC h3 | exact Cells.immC (vs := encPH ph) h5 | exact Cells.immC (vs := encPH rh1) h14 | exact Sl.getA hQ hkh | exact Cells.here (vs := encPH kh) | (repeat (first | exact Cells.here | exact Cells.s0 (vs := [_, _, _, _, _, _]) rfl | apply Cells.there | apply Cells.app))) rfl) rfl rfl rfl ?_
       refine zM ?_
       refine XO_v0 (ev_loadA rfl agt_45 (fun hg => by first | exact Cells.immC h3 | exact Cells.immC (vs := encPH ph) h5 | exact Cells.immC (vs := encPH rh1) h14 | exact Sl.getA hQ hkh | exact Cells.here (vs := encPH kh) | (repeat (first | exact Cells.here | exact Cells.s0 (vs := [_, _, _, _]) rfl | apply Cells.there | apply Cells.app))) rfl) rfl rfl rfl ?_
       refine XO_callV0 (cap := []) (vs := [_, _, _]) rfl rfl fun_27 (w_Accepts hC hnd (L9 : Int) (refP cr (L9 : Int)) rh1 hR1 (ref_sml (by omega))) rfl rfl ?_
       refine zM ?_
       refine XO_v0 (ev_extract rfl rfl) rfl rfl rfl ?_
       refine XO_v0 (ev_extract rfl rfl) rfl rfl rfl ?_
       refine zA ?_
       refine zA ?_
       refine XO_nil (at_then (X_seq (X_region ?_)))
       refine zM ?_
       refine zC ?_
       refine zM ?_
       refine XO_pushT 2 rfl rfl rfl ?_
       refine XO_v1 (ev_move rfl) (.some rfl rfl rfl rfl gbt) rfl rfl rfl ?_
       refine XO_and0 rfl rfl rfl rfl rfl ?_
       refine zA ?_
       refine XO_nil (at_then ?_)
       refine X_ret ?_
       refine at_then_r ?_
       exact at_ret1 rfl rfl (fun w hw => ⟨by rw [either_4 hk0 hL9 hro], (hw.mono hIc).drop⟩)
      ·
       have hro : refO cr (L9 : Int) = false := hc98
       refine X_skip ?_
       refine at_then ?_
       refine X_seq ?_
       refine X_seq (X_region ?_)
       refine XO_v0 (ev_loadA rfl agt_45 (fun hg => by first | exact Cells.immC h3 | exact Cells.immC (vs := encPH ph) h5 | exact Cells.immC (vs := encPH rh1) h14 | exact Sl.getA hQ hkh | exact Cells.here (vs := encPH kh) | (repeat (first | exact Cells.here | exact Cells.s0 (vs := [_, _, _, _]) rfl | apply Cells.there | apply Cells.app))) rfl) rfl rfl rfl ?_
       refine XO_v0 (ev_loadA rfl agt_45 (fun hg => by first | exact Cells.immC h3 | exact Cells.immC (vs := encPH ph) h5 | exact Cells.immC (vs := encPH rh1) h14 | exact Sl.getA hQ hkh | exact Cells.here (vs := encPH kh) | (repeat (first | exact Cells.here | exact Cells.s0 (vs := [_, _, _, _]) rfl | apply Cells.there | apply Cells.app))) rfl) rfl rfl rfl ?_
       refine XO_buildSlice (ps := [(0, _), (1, _)]) (m := [encPH rh1, encPH ph]) elt_35 rfl (.cons rfl (.cons rfl (.nil))) rfl (by simp [encPH_len]) (by decide) (by decide) rfl rfl (fun b_113 => ?_)
       refine XO_freeze (by repeat (first | exact Take.here | apply Take.there)) (fun I8 hI8 hb8 => ?_)
       have hC := hC.mono hI8
       have hPr := hPr.mono hI8
       have h5 := h5.mono hI8
       have h3 := h3.mono hI8
       have hP1 := hP1.mono hI8
       have hR1 := hR1.mono hI8
       have h14 := h14.mono hI8
       have hIc := hIc.trans hI8
       have hQ := Sl.lit ([rh1, ph] : List PH) rfl encPH_len (show I8 b_113 = some (Obj.cells (([rh1, ph] : List PH).flatMap encPH).toArray 45 (0, 0)) from hb8)
       have hQs : PrsAt I8 [rh1, ph] [refP cr (L9 : Int), pr] := ⟨hR1, hPr, trivial⟩
       refine XO_v0 (ev_lenS rfl slt_35) rfl rfl rfl ?_
       refine zM ?_
       refine XO_nil (at_then ?_)
       refine X_block ?_
       refine X_loopT [(3, _), (13, _), (113, _), (114, _)] (.cons rfl (.cons rfl (.cons rfl (.cons rfl .nil)))) (fun T L0 mz E I' loc' => ∃ (k : Nat), mz = 2 - k ∧ E = (115, .int .i64 k) :: T ∧ I8 = I' ∧ L0 = loc' ∧ k ≤ 2) _ _ _ _ ⟨0, rfl, rfl, rfl, rfl, Nat.zero_le _⟩ (.cons rfl (.cons rfl (.cons rfl (.cons rfl (.cons rfl .nil))))) (HLe.refl _) rfl ?_
       rintro mz E I' loc' ⟨k, rfl, rfl, rfl, rfl, hk⟩
       refine X_seq (X_region ?_)
       refine zC ?_
       refine XO_nil (at_then ?_)
       refine X_seq ?_
       refine X_cond rfl (fun hc116 => ?_) (fun hc116 => ?_)
       ·
        have hlt_k : k < 2 := by have h := hc116; simp at h; omega
        obtain ⟨kh, hkh⟩ := hQ.at hlt_k
        obtain ⟨kk, hkk, hka⟩ := hQs.at k kh hkh
        have hks : smlP kk := by rcases List.mem_cons.1 (List.mem_of_getElem? hkk) with e | e; exact e ▸ ref_sml (by omega); exact (List.mem_singleton.1 e) ▸ hsm
        refine X_skip ?_
        refine at_then ?_
        refine X_seq ?_
        refine X_block ?_
        refine X_seq (X_region ?_)
        refine XO_v0 (ev_indexSl rfl rfl slt_35 hQ (fun hg => by first | omega | (simp [conj] at hg; omega))) rfl rfl rfl ?_
        refine XO_v0 (ev_loadA rfl agt_45 (fun hg => by first | exact Cells.immC h3 | exact Cells.immC (vs := encPH ph) h5 | exact Cells.immC (vs := encPH rh1) h14 | exact Sl.getA hQ hkh | exact Cells.here (vs := encPH kh) | (repeat (first | exact Cells.here | exact Cells.s0 (vs := [_, _, _, _]) rfl | apply Cells.there | apply Cells.app))) rfl) rfl rfl rfl ?_
        refine XO_alloc zt_45 rfl rfl (fun b_20 => ?_)
        refine XO_storeA rfl rfl szt_45 rfl rfl rfl rfl (by repeat (first | exact Upd.here | apply Upd.there | apply upd_app)) ?_
        refine XO_nil (at_then (X_seq (X_region ?_)))
        refine XO_v0 (ev_loadA rfl agt_33 (fun hg => by first | exact Cells.immC h3 | exact Cells.immC (vs := encPH ph) h5 | exact Cells.immC (vs := encPH rh1) h14 | exact Sl.getA hQ hkh | exact Cells.here (vs := encPH kh) | (repeat (first | exact Cells.here | exact Cells.s0 (vs := [_, _, _, _, _, _]) rfl | apply Cells.there | apply Cells.app))) rfl) rfl rfl rfl ?_
        refine zM ?_
        refine XO_v0 (ev_loadA rfl agt_45 (fun hg => by first | exact Cells.immC h3 | exact Cells.immC (vs := encPH ph) h5 | exact Cells.immC (vs := encPH rh1) h14 | exact Sl.getA hQ hkh | exact Cells.here (vs := encPH kh) | (repeat (first | exact Cells.here | exact Cells.s0 (vs := [_, _, _, _]) rfl | apply Cells.there | apply Cells.app))) rfl) rfl rfl rfl ?_
        refine XO_callV0 (cap := []) (vs := [_, _, _]) rfl rfl fun_27 (w_Accepts hC hnd (L9 : Int) kk kh hka hks) rfl rfl ?_
        refine zM ?_
        refine XO_v0 (ev_extract rfl rfl) rfl rfl rfl ?_
        refine XO_v0 (ev_extract rfl rfl) rfl rfl rfl ?_
        refine zA ?_
        refine zA ?_
        refine XO_nil (at_then (X_seq (X_region ?_)))
        refine zM ?_
        refine zC ?_
        refine zM ?_
        refine XO_pushF 2 rfl rfl rfl ?_
        refine XO_v1 (ev_move rfl) (.some rfl rfl rfl rfl gbf) rfl rfl rfl ?_
        refine XO_or0 rfl rfl rfl rfl rfl ?_
        refine XO_nil (at_then ?_)
        refine X_cond rfl (fun hc130 => ?_) (fun hc130 => ?_)
        ·
         exact absurd hc130 (by rw [either_3 hr hk0 hL9 hro kk]; decide)
        ·
         refine X_skip ?_
         refine at_block_n ?_
         refine at_then ?_
         refine X_region ?_
         refine zB ?_
         refine zM ?_
         refine XO_nil ?_
         exact at_met2 _ _ ⟨2 - (k + 1), by omega, k + 1, rfl, rfl, rfl, rfl, by omega⟩ (.cons rfl (.cons rfl (.cons rfl (.cons rfl (.cons rfl .nil))))) (by repeat (first | exact .refl | exact subL_left | refine subL_app ?_ | refine .drop ?_ | refine subL_add ?_))
       ·
        have hge_k : 2 ≤ k := by have h := hc116; simp at h; omega
        refine X_exit ?_
        refine at_then_e ?_
        refine at_then_e ?_
        refine at_block_hit ?_
        refine at_then ?_
        refine X_seq (X_region ?_)
        refine zA ?_
        refine XO_nil (at_then ?_)
        refine X_ret ?_
        exact at_ret1 rfl rfl (fun w hw => ⟨by rfl, (hw.mono hIc).drop⟩)
end Go.Proofs.YtehkiccapbkhnaaGreat
end
section
namespace Go.Kn
open Go Go.ChangeShapes Go.WideShapes Go.ChangeAt Go.RowKit
/-- All that lies in the world is read only. -/
def heapI (W : World) : HMap := fun b => W.heap[b]?
theorem St.start (W : World) : St W (heapI W) (fun _ => none) [] W :=
  ⟨rfl, rfl, rfl, ⟨Nat.le_refl _, Nat.le_refl _⟩, fun _ _ h => h, (fun _ _ h => by cases h), (fun _ _ h => by cases h), fun _ => .inr rfl, (fun _ _ h => by cases h), by simp⟩
theorem St.below {W w : World} {H : HMap} {loc : Loc} (h : St W (heapI W) H loc w) : Below W.heap.size W w :=
  ⟨h.os, h.tape, h.out, h.size.1, fun k hk => by
    have e : W.heap[k]? = some W.heap[k] := Array.getElem?_eq_getElem hk
    rw [h.imm k _ e, e]⟩
theorem RetV.law {P : Program} {f : FuncId} {args : List Value} {W : World} {v : Value} (h : RetV P f args (heapI W) v) : Calls P f args.toArray W fun e w' => e = .returned v ∧ Below W.heap.size W w' :=
  (h W _ W (St.start W)).mono fun _ _ ⟨he, hs⟩ => ⟨he, hs.below⟩
theorem keptBut_below {W w : World} {may : MemPlace → Prop} (h : Below W.heap.size W w) : W.keptBut w may := by
  refine ⟨h.os, h.output, fun i hi => ?_⟩
  rw [h.block i hi]
  rw [Array.getElem?_eq_getElem hi]
  cases W.heap[i] <;> simp
theorem trodAll_stays {H : Type} {enc : TypeId × Value → H} {P : Program} {W W' : World} (hl : laidOutB P = true) (hB : Below W.heap.size W W') (sp : Nat → Bool) : ∀ (ts : List TypeId) (vs : List Value) (ds : List (DataW H)) (ps : List MemPlace), (∀ t ∈ ts, P.readableRec t = true ∧ t < P.types.size) →
    DataW.TrodAll enc P W 0 (fun _ => true) true ts vs ds ps → (∀ x ∈ ps, x.block < W.heap.size ∧ sp x.block = true) → DataW.TrodAll enc P W' 0 sp true ts vs ds ps
  | [], [], [], ps, _, h, _ => h
  | t :: ts, v :: vs, d :: ds, ps, hr, ⟨p, q, h1, h2, e⟩, hlt => by
    subst e
    exact ⟨p, q, WideElems.Trod_stays hl (hr t (List.mem_cons_self ..)).1 (hr t (List.mem_cons_self ..)).2 h1 (fun x hx => hB.same (hlt x (List.mem_append_left _ hx)).1) (fun x hx => (hlt x (List.mem_append_left _ hx)).2),
      trodAll_stays hl hB sp ts vs ds q (fun t ht => hr t (List.mem_cons_of_mem _ ht)) h2 (fun x hx => hlt x (List.mem_append_right _ hx)), rfl⟩
/-- A law's row: it hands back true; the input reads as it did. -/
theorem post_law {H : Type} {enc : TypeId × Value → H} {P : Program} {f : Func} {s : ChangeSpec} {again : Bool} {W W' : World} {args : Array Value} {ds : List (DataW H)} {before : List MemPlace} {tb : TypeId}
    (hl : laidOutB P = true) (hr : f.resultTypes = #[tb]) (hb : P.underlying tb = some .bool) (hv : s.vars = []) (hs : (s.fn H (ds ++ [])) = { results := [.lit (.bool true)], args := ds }) (hrd : ∀ t ∈ f.params.toList, P.readableRec t = true ∧ t < P.types.size)
    (hW : DataW.Whole enc P f.params.toList s.vars false W args.toList ds [] before) (hB : Below W.heap.size W W') : s.post enc P f false true false again W args (.bool true) W' := by
  have hlt : ∀ x ∈ before, x.block < W.heap.size := fun x hx => by simpa using hW.lt x hx
  have hW0 := hW
  obtain ⟨p, q, hA, hV, rfl, hfz, _⟩ := hW
  rw [hv] at hV
  obtain ⟨_, rfl⟩ := trodVars_none hV
  rw [List.append_nil] at hlt hfz hW0
  have hres : ∀ (b : Nat) (sp : Nat → Bool) (hd : Bool), DataW.TrodAll enc P W' b sp hd f.resultTypes.toList ((Value.bool true).resultList f.resultTypes.size) [.lit (.bool true)] [] := fun b sp hd => by
    rw [hr]; exact trodAll_mk1 (shut_bool hb true)
  have hargs : ∀ sp : Nat → Bool, (∀ x ∈ p, sp x.block = true) → DataW.TrodAll enc P W' 0 sp true f.params.toList args.toList ds p := fun sp h => trodAll_stays hl hB sp _ _ _ _ hrd hA (fun x hx => ⟨hlt x hx, h x hx⟩)
  have hnil : ∀ sp : Nat → Bool, DataW.TrodVars enc P W' sp s.vars [] [] := fun sp => by rw [hv]; rfl
  refine ⟨ds, [], p, [], p, [], hW0, ?_, ?_, ?_, keptBut_below hB, fun _ => ?_⟩
  · rw [hs]; exact hres _ _ _
  · rw [hs]; exact hargs _ (fun x hx => by simpa using hlt x hx)
  · rw [hs]; exact hnil _
  · refine ⟨fun j t r ht hr' => ?_, [.lit (.bool true)] ++ ds, [], [] ++ p, ⟨[] ++ p, [], trodAll_append (hargs _ (fun _ _ => rfl)) (hres _ _ _), hnil _, by simp, ?_, fun h => by cases h⟩, fun x hx _ => by simpa using hx⟩
    · rw [hr] at ht hr'
      cases j with
      | zero => simp [Value.resultList] at ht hr'; subst ht; subst hr'; exact okWide_bool_mk hb _
      | succ j => simp at ht
    · intro b off hx
      rw [hB.frozen (hlt _ (by simpa using hx))]
      exact hfz b off (by simpa using hx)
theorem cell_heap {W : World} {b o : Nat} {u : Value} (h : W.cell? ⟨b, o, none⟩ = some u) : Cell (heapI W) [] b o u := by
  unfold World.cell? at h
  split at h
  · rename_i c t fz hb
    simp only [Option.isSome_none, Bool.false_eq_true, if_false] at h
    exact ⟨c, t, fz, .inl hb, h⟩
  · cases h
/-- A slice that came in, as it is read. -/
theorem open_SlT {H : Type} {enc : TypeId × Value → H} {P : Program} {W : World} {t e : TypeId} {size fuel0 : Nat} {cs : List Value} {x0 : DataW H × List MemPlace} {α : Type} (enc' : α → List Value) (ok : α → Prop)
    (ht : P.underlying t = some (.slice e)) (hc : P.cellsOf e = size) (hpos : 0 < size) (hlen : ∀ y, (enc' y).length = size)
    (hel : ∀ fuel cs x, DataW.trod enc P W 0 (fun _ => true) true fuel e cs = some x → ∃ y, ok y ∧ enc' y = cs)
    (hf' : DataW.trod enc P W 0 (fun _ => true) true fuel0 t cs = some x0) : ∃ av n c xs, cs = [.slice av n c] ∧ Sl (heapI W) size enc' av n c xs ∧ (∀ x ∈ xs, ok x) ∧ c ≤ maxLen := by
  rcases Go.Deep.open_slice ht hf' with ⟨e1, _⟩ | ⟨a, len0, cap0, m, n, D, Pl, e1, hb, hl, hm, hmm, _, hx⟩
  · subst e1
    exact ⟨none, 0, 0, [], rfl, .nil, (fun x hx => by cases hx), Nat.zero_le _⟩
  · subst e1
    have hlm : len0 ≤ m := by rw [hmm]; simp; exact hl
    have each : ∀ i, i < len0 → ∃ y, ok y ∧ W.cells? 0 (a.add (i * size)) size = some (enc' y) := fun i hi => by
      obtain ⟨cs', h1, h2⟩ := hx i (by omega)
      obtain ⟨y, hy, e⟩ := hel _ _ _ h2
      rw [hc] at h1
      exact ⟨y, hy, by rw [h1, e]⟩
    have all : ∀ k, k ≤ len0 → ∃ xs : List α, xs.length = k ∧ ∀ i x, xs[i]? = some x → ok x ∧ W.cells? 0 (a.add (i * size)) size = some (enc' x) := by
      intro k
      induction k with
      | zero => intro _; exact ⟨[], rfl, fun i x h => by simp at h⟩
      | succ k ih =>
        intro hk
        obtain ⟨xs, hl', hxs⟩ := ih (by omega)
        obtain ⟨y, hy, hcy⟩ := each k (by omega)
        refine ⟨xs ++ [y], by simp [hl'], fun i x h => ?_⟩
        by_cases hi : i < xs.length
        · rw [List.getElem?_append_left hi] at h; exact hxs i x h
        · rw [List.getElem?_append_right (by omega)] at h
          have : i = k := by have := (List.getElem?_eq_some_iff.1 h).1; simp at this; omega
          subst this
          rw [hl'] at h; simp at h; subst h
          exact ⟨hy, hcy⟩
    obtain ⟨xs, hl', hxs⟩ := all len0 (Nat.le_refl _)
    have add0 : ∀ (b o n : Nat), (⟨b, o, none⟩ : Addr).add n = ⟨b, o + n, none⟩ := fun b o n => by
      unfold Addr.add
      split
      · rename_i e; subst e; rfl
      · rfl
    have hspot : 0 < xs.length → a.spot = none := fun hx => by
      have hx0 : xs[0]? = some xs[0] := List.getElem?_eq_getElem hx
      have hp0 : 0 < (enc' xs[0]).length := by rw [hlen]; exact hpos
      obtain ⟨_, h1, h2⟩ := World.cells?_some (hxs 0 _ hx0).2
      have h3 := h2 0 hpos
      rw [List.getElem?_eq_getElem hp0] at h3
      simpa [Addr.add] using World.cell?_spot h3
    have cellat : ∀ i x, xs[i]? = some x → ∀ j u, (enc' x)[j]? = some u → W.cell? ⟨a.block, a.off + i * size + j, none⟩ = some u := fun i x hx j u hu => by
      obtain ⟨_, h1, h2⟩ := World.cells?_some (hxs i x hx).2
      have hj : j < size := by rw [← hlen x]; exact (List.getElem?_eq_some_iff.1 hu).1
      have h3 := h2 j hj
      rw [hu] at h3
      have hsp := hspot (by have := (List.getElem?_eq_some_iff.1 hx).1; omega)
      obtain ⟨b, o, sp⟩ := a
      simp only at hsp
      subst hsp
      rw [add0, add0] at h3
      exact h3
    refine ⟨some a, len0, cap0, xs, rfl, ⟨hl', hl, fun hn => ?_, fun k x hx j u hu => ?_⟩, fun x hx => ?_, hm⟩
    · have := hspot (by omega)
      obtain ⟨b, o, sp⟩ := a
      simp only at this
      subst this; rfl
    · exact cell_heap (cellat k x hx j u hu)
    · obtain ⟨i, hi⟩ := List.getElem?_of_mem hx
      exact (hxs i x hi).1
/-- A slice of one-cell ints. -/
theorem el_int {H : Type} {enc : TypeId × Value → H} {P : Program} {W : World} {e : TypeId} {k : IntKind} (he : P.underlying e = some (.int k)) (hk : k = .i64) (fuel : Nat) (cs : List Value) (x : DataW H × List MemPlace) (h : DataW.trod enc P W 0 (fun _ => true) true fuel e cs = some x) :
    ∃ y : Int, (-9223372036854775808 ≤ y ∧ y ≤ 9223372036854775807) ∧ [Value.int .i64 y] = cs := by
  subst hk
  obtain ⟨v, hv⟩ : ∃ v, cs = [v] := by
    have := h
    cases fuel with
    | zero => simp [DataW.trod] at this
    | succ m => unfold DataW.trod at this; rw [he] at this; split at this <;> simp_all
  subst hv
  obtain ⟨n, e, _, w⟩ := DataW.trod_int he h
  cases e
  simp only [Lit.wf, Bool.and_eq_true, decide_eq_true_eq] at w
  exact ⟨n, w, rfl⟩
end Go.Kn
end
section
namespace Go.Kn
open Go
theorem trod_seg {H : Type} {enc : TypeId × Value → H} {P : Program} {W : World} {base : Nat} {spare : Nat → Bool} {held : Bool} {t C : Nat} {fs : Array Field} {fuel : Nat} {cs : List Value} {x : DataW H × List MemPlace} (hs : P.underlying t = some (.struct fs))
    (hC : P.cellsOf t = C) (h : DataW.trod enc P W base spare held fuel t cs = some x) :
    cs.length = C ∧ ∃ n, ∀ (i ty off k : Nat), ((fs[i]?).map fun f => (f.type, f.offset)) = some (ty, off) → P.cellsOf ty = k → ∃ y, DataW.trod enc P W base spare held n ty ((cs.drop off).take k) = some y := by
  obtain ⟨xs, n, _, _, hl, hxl, hf⟩ := DataW.trod_struct hs h
  refine ⟨hl.trans hC, n, fun i ty off k hi hk => ?_⟩
  obtain ⟨f, hfi, e⟩ := Option.map_eq_some_iff.1 hi
  cases e
  have g := hf i f hfi
  have hix : i < xs.length := by rw [hxl]; exact (Array.getElem?_eq_some_iff.1 hfi).1
  rw [hk, List.getElem?_eq_getElem hix] at g
  exact ⟨_, g⟩
end Go.Kn
end
section
namespace Go.Proofs.YtehkiccapbkhnaaGreat
open Go Go.Kn Go.Proofs
open Go.ChangeShapes Go.WideShapes Go.ChangeAt Go.RowKit
theorem trod_segF {H : Type} {enc : TypeId × Value → H} {P : Program} {W : World} {base : Nat} {spare : Nat → Bool} {held : Bool} {t C : Nat} {fs : Array Field} {fuel : Nat} {cs : List Value} {x : DataW H × List MemPlace} (hs : P.underlying t = some (.struct fs))
    (hC : P.cellsOf t = C) (h : DataW.trod enc P W base spare held fuel t cs = some x) :
    cs.length = C ∧ ∃ n, n < fuel ∧ ∀ (i ty off k : Nat), ((fs[i]?).map fun f => (f.type, f.offset)) = some (ty, off) → P.cellsOf ty = k → ∃ y, DataW.trod enc P W base spare held n ty ((cs.drop off).take k) = some y := by
  obtain ⟨xs, n, hn, _, hl, hxl, hf⟩ := DataW.trod_struct hs h
  refine ⟨hl.trans hC, n, by omega, fun i ty off k hi hk => ?_⟩
  obtain ⟨f, hfi, e⟩ := Option.map_eq_some_iff.1 hi
  cases e
  have g := hf i f hfi
  have hix : i < xs.length := by rw [hxl]; exact (Array.getElem?_eq_some_iff.1 hfi).1
  rw [hk, List.getElem?_eq_getElem hix] at g
  exact ⟨_, g⟩
theorem open_SlF {H : Type} {enc : TypeId × Value → H} {P : Program} {W : World} {t e : TypeId} {size fuel0 : Nat} {cs : List Value} {x0 : DataW H × List MemPlace} {α : Type} (enc' : α → List Value) (ok : α → Prop)
    (ht : P.underlying t = some (.slice e)) (hc : P.cellsOf e = size) (hpos : 0 < size) (hlen : ∀ y, (enc' y).length = size)
    (hel : ∀ fuel cs x, fuel < fuel0 → DataW.trod enc P W 0 (fun _ => true) true fuel e cs = some x → ∃ y, ok y ∧ enc' y = cs)
    (hf' : DataW.trod enc P W 0 (fun _ => true) true fuel0 t cs = some x0) : ∃ av n c xs, cs = [.slice av n c] ∧ Sl (heapI W) size enc' av n c xs ∧ (∀ x ∈ xs, ok x) ∧ c ≤ maxLen := by
  rcases DataW.trod_slice ht hf' with ⟨e1, _⟩ | ⟨a, len0, cap0, elems, rest, n, hfu, e1, _, hb, hl, hm, hle, hx, _, _⟩
  · subst e1
    exact ⟨none, 0, 0, [], rfl, .nil, (fun x hx => by cases hx), Nat.zero_le _⟩
  · subst e1
    have each : ∀ i, i < len0 → ∃ y, ok y ∧ W.cells? 0 (a.add (i * size)) size = some (enc' y) := fun i hi => by
      have hb9 := hx i hi
      rw [List.getElem?_eq_getElem (by omega)] at hb9
      obtain ⟨cs', h1, h2⟩ := Option.bind_eq_some_iff.1 hb9
      obtain ⟨y, hy, e⟩ := hel n _ _ (by omega) h2
      rw [hc] at h1
      exact ⟨y, hy, by rw [h1, e]⟩
    have all : ∀ k, k ≤ len0 → ∃ xs : List α, xs.length = k ∧ ∀ i x, xs[i]? = some x → ok x ∧ W.cells? 0 (a.add (i * size)) size = some (enc' x) := by
      intro k
      induction k with
      | zero => intro _; exact ⟨[], rfl, fun i x h => by simp at h⟩
      | succ k ih =>
        intro hk
        obtain ⟨xs, hl', hxs⟩ := ih (by omega)
        obtain ⟨y, hy, hcy⟩ := each k (by omega)
        refine ⟨xs ++ [y], by simp [hl'], fun i x h => ?_⟩
        by_cases hi : i < xs.length
        · rw [List.getElem?_append_left hi] at h; exact hxs i x h
        · rw [List.getElem?_append_right (by omega)] at h
          have : i = k := by have := (List.getElem?_eq_some_iff.1 h).1; simp at this; omega
          subst this
          rw [hl'] at h; simp at h; subst h
          exact ⟨hy, hcy⟩
    obtain ⟨xs, hl', hxs⟩ := all len0 (Nat.le_refl _)
    have add0 : ∀ (b o n : Nat), (⟨b, o, none⟩ : Addr).add n = ⟨b, o + n, none⟩ := fun b o n => by
      unfold Addr.add
      split
      · rename_i e; subst e; rfl
      · rfl
    have hspot : 0 < xs.length → a.spot = none := fun hx => by
      have hx0 : xs[0]? = some xs[0] := List.getElem?_eq_getElem hx
      have hp0 : 0 < (enc' xs[0]).length := by rw [hlen]; exact hpos
      obtain ⟨_, h1, h2⟩ := World.cells?_some (hxs 0 _ hx0).2
      have h3 := h2 0 hpos
      rw [List.getElem?_eq_getElem hp0] at h3
      simpa [Addr.add] using World.cell?_spot h3
    have cellat : ∀ i x, xs[i]? = some x → ∀ j u, (enc' x)[j]? = some u → W.cell? ⟨a.block, a.off + i * size + j, none⟩ = some u := fun i x hx j u hu => by
      obtain ⟨_, h1, h2⟩ := World.cells?_some (hxs i x hx).2
      have hj : j < size := by rw [← hlen x]; exact (List.getElem?_eq_some_iff.1 hu).1
      have h3 := h2 j hj
      rw [hu] at h3
      have hsp := hspot (by have := (List.getElem?_eq_some_iff.1 hx).1; omega)
      obtain ⟨b, o, sp⟩ := a
      simp only at hsp
      subst hsp
      rw [add0, add0] at h3
      exact h3
    refine ⟨some a, len0, cap0, xs, rfl, ⟨hl', hl, fun hn => ?_, fun k x hx j u hu => ?_⟩, fun x hx => ?_, hm⟩
    · have := hspot (by omega)
      obtain ⟨b, o, sp⟩ := a
      simp only at this
      subst this; rfl
    · exact cell_heap (cellat k x hx j u hu)
    · obtain ⟨i, hi⟩ := List.getElem?_of_mem hx
      exact (hxs i x hi).1
end Go.Proofs.YtehkiccapbkhnaaGreat
end
section
namespace Go.Proofs.YtehkiccapbkhnaaGreat
open Go Go.Kn Go.Proofs
open Go.ChangeShapes Go.WideShapes Go.ChangeAt Go.RowKit
set_option maxRecDepth 100000
theorem ound_3 : Tryz.prog.underlying 3 = some (.int .i64) := by kernel_rfl
theorem ound_23 : Tryz.prog.underlying 23 = some (.slice 3) := by kernel_rfl
theorem ostr_58 : Tryz.prog.underlying 58 = some (.struct (Tryz.prog.fieldsOf 58)) := by kernel_rfl
theorem ound_27 : Tryz.prog.underlying 27 = some (.slice 58) := by kernel_rfl
theorem ostr_33 : Tryz.prog.underlying 33 = some (.struct (Tryz.prog.fieldsOf 33)) := by kernel_rfl
theorem ound_5 : Tryz.prog.underlying 5 = some (.int .u8) := by kernel_rfl
theorem ostr_45 : Tryz.prog.underlying 45 = some (.struct (Tryz.prog.fieldsOf 45)) := by kernel_rfl
theorem ound_35 : Tryz.prog.underlying 35 = some (.slice 45) := by kernel_rfl
theorem relS_of {I : HMap} : ∀ {hs : List SH}, (∀ h ∈ hs, ∃ s, SesAt I h s) → ∃ ss, RelS I hs ss
  | [], _ => ⟨[], RelS.nil⟩
  | h :: hs, H => by
    obtain ⟨s, h0⟩ := H h (by simp)
    obtain ⟨ss, h1⟩ := relS_of (hs := hs) fun x hx => H x (by simp [hx])
    refine ⟨s :: ss, by simp [h1.1], fun k x y a b => ?_⟩
    cases k with
    | zero => simp at a b; subst a b; exact h0
    | succ k => simp at a b; exact h1.2 k x y a b
theorem crAt_of {I : HMap} {a a2 : Option Addr} {n c n2 c2 : Nat} {ds : List Int} {st da lo ru : Int} {hs : List SH} (h0 : Sl I 1 encI a n c ds) (h5 : Sl I 4 encSH a2 n2 c2 hs) (ho : ∀ h ∈ hs, ∃ s, SesAt I h s) : ∃ cr, CrAt I ⟨a, n, c, st, da, lo, ru, a2, n2, c2⟩ cr := by
  obtain ⟨ss, hr⟩ := relS_of ho
  exact ⟨⟨ds, st, da, lo, ru, ss⟩, h0, rfl, rfl, rfl, rfl, hs, h5, hr⟩
theorem el_ses {H : Type} {enc : TypeId × Value → H} {W : World} (fuel : Nat) (cs : List Value) (x : DataW H × List MemPlace) (h : DataW.trod enc Tryz.prog W 0 (fun _ => true) true fuel 58 cs = some x) : ∃ y : SH, (fun h => ∃ s, SesAt (heapI W) h s) y ∧ encSH y = cs := by
  obtain ⟨hl, n0_, f0⟩ := trod_seg (C := 4) ostr_58 (by kernel_rfl) h
  match cs, hl with
  | [c0, c1, c2, c3], _ =>
    obtain ⟨_, g0_0⟩ := f0 0 3 0 1 (by kernel_rfl) (by kernel_rfl)
    obtain ⟨n0, e0, _, w0⟩ := DataW.trod_int ound_3 (show DataW.trod enc Tryz.prog W 0 (fun _ => true) true n0_ 3 [c0] = some _ from g0_0)
    obtain ⟨_, g0_1⟩ := f0 1 3 1 1 (by kernel_rfl) (by kernel_rfl)
    obtain ⟨n1, e1, _, w1⟩ := DataW.trod_int ound_3 (show DataW.trod enc Tryz.prog W 0 (fun _ => true) true n0_ 3 [c1] = some _ from g0_1)
    obtain ⟨_, g0_2⟩ := f0 2 23 2 1 (by kernel_rfl) (by kernel_rfl)
    obtain ⟨a2, m2, q2, n2, e2, s2, o2, _⟩ := open_SlT (t := 23) (e := 3) encI (fun n : Int => -9223372036854775808 ≤ n ∧ n ≤ 9223372036854775807) ound_23 (by kernel_rfl) (by decide) encI_len (fun fuel cs x h => el_int ound_3 rfl fuel cs x h) (show DataW.trod enc Tryz.prog W 0 (fun _ => true) true n0_ 23 [c2] = some _ from g0_2)
    obtain ⟨_, g0_3⟩ := f0 3 23 3 1 (by kernel_rfl) (by kernel_rfl)
    obtain ⟨a3, m3, q3, n3, e3, s3, o3, _⟩ := open_SlT (t := 23) (e := 3) encI (fun n : Int => -9223372036854775808 ≤ n ∧ n ≤ 9223372036854775807) ound_23 (by kernel_rfl) (by decide) encI_len (fun fuel cs x h => el_int ound_3 rfl fuel cs x h) (show DataW.trod enc Tryz.prog W 0 (fun _ => true) true n0_ 23 [c3] = some _ from g0_3)
    cases e0; cases e1; cases e2; cases e3
    exact ⟨⟨n0, n1, a2, m2, q2, a3, m3, q3⟩, ⟨⟨n0, n1, n2, n3⟩, rfl, rfl, s2, s3⟩, rfl⟩
theorem el_cr {H : Type} {enc : TypeId × Value → H} {W : World} (fuel : Nat) (cs : List Value) (x : DataW H × List MemPlace) (h : DataW.trod enc Tryz.prog W 0 (fun _ => true) true fuel 33 cs = some x) : ∃ y : CH, (fun x => ∃ cr, CrAt (heapI W) x cr) y ∧ encCH y = cs := by
  obtain ⟨hl, n0_, f0⟩ := trod_seg (C := 6) ostr_33 (by kernel_rfl) h
  match cs, hl with
  | [c0, c1, c2, c3, c4, c5], _ =>
    obtain ⟨_, g0_0⟩ := f0 0 23 0 1 (by kernel_rfl) (by kernel_rfl)
    obtain ⟨a0, m0, q0, n0, e0, s0, o0, _⟩ := open_SlT (t := 23) (e := 3) encI (fun n : Int => -9223372036854775808 ≤ n ∧ n ≤ 9223372036854775807) ound_23 (by kernel_rfl) (by decide) encI_len (fun fuel cs x h => el_int ound_3 rfl fuel cs x h) (show DataW.trod enc Tryz.prog W 0 (fun _ => true) true n0_ 23 [c0] = some _ from g0_0)
    obtain ⟨_, g0_1⟩ := f0 1 3 1 1 (by kernel_rfl) (by kernel_rfl)
    obtain ⟨n1, e1, _, w1⟩ := DataW.trod_int ound_3 (show DataW.trod enc Tryz.prog W 0 (fun _ => true) true n0_ 3 [c1] = some _ from g0_1)
    obtain ⟨_, g0_2⟩ := f0 2 3 2 1 (by kernel_rfl) (by kernel_rfl)
    obtain ⟨n2, e2, _, w2⟩ := DataW.trod_int ound_3 (show DataW.trod enc Tryz.prog W 0 (fun _ => true) true n0_ 3 [c2] = some _ from g0_2)
    obtain ⟨_, g0_3⟩ := f0 3 3 3 1 (by kernel_rfl) (by kernel_rfl)
    obtain ⟨n3, e3, _, w3⟩ := DataW.trod_int ound_3 (show DataW.trod enc Tryz.prog W 0 (fun _ => true) true n0_ 3 [c3] = some _ from g0_3)
    obtain ⟨_, g0_4⟩ := f0 4 3 4 1 (by kernel_rfl) (by kernel_rfl)
    obtain ⟨n4, e4, _, w4⟩ := DataW.trod_int ound_3 (show DataW.trod enc Tryz.prog W 0 (fun _ => true) true n0_ 3 [c4] = some _ from g0_4)
    obtain ⟨_, g0_5⟩ := f0 5 27 5 1 (by kernel_rfl) (by kernel_rfl)
    obtain ⟨a5, m5, q5, n5, e5, s5, o5, _⟩ := open_SlT (t := 27) (e := 58) encSH (fun h => ∃ s, SesAt (heapI W) h s) ound_27 (by kernel_rfl) (by decide) encSH_len (fun fuel cs x h => el_ses fuel cs x h) (show DataW.trod enc Tryz.prog W 0 (fun _ => true) true n0_ 27 [c5] = some _ from g0_5)
    cases e0; cases e1; cases e2; cases e3; cases e4; cases e5
    exact ⟨⟨a0, m0, q0, n1, n2, n3, n4, a5, m5, q5⟩, crAt_of s0 s5 o5, rfl⟩
theorem open_cr {H : Type} {enc : TypeId × Value → H} {W : World} {base : Nat} {v : Value} {d : DataW H} {p : List MemPlace} (hv : Value.okWide Tryz.prog W .any base 33 v) (h : DataW.Trod enc Tryz.prog W 0 (fun _ => true) true 33 v d p) : ∃ y : CH, v = encCHA y ∧ (fun x => ∃ cr, CrAt (heapI W) x cr) y := by
  obtain ⟨cs, rfl, _⟩ := okWide_struct ostr_33 hv
  obtain ⟨fuel, hf⟩ := h
  obtain ⟨l⟩ := cs
  obtain ⟨y, hy, e⟩ := el_cr fuel l _ hf
  exact ⟨y, by rw [← e]; rfl, hy⟩
theorem prsAt_of {I : HMap} : ∀ {hs : List PH}, (∀ h ∈ hs, ∃ p, PrAt I h p) → ∃ ks, PrsAt I hs ks
  | [], _ => ⟨[], trivial⟩
  | h :: hs, H => by
    obtain ⟨p, h0⟩ := H h (by simp)
    obtain ⟨ks, h1⟩ := prsAt_of (hs := hs) fun x hx => H x (by simp [hx])
    exact ⟨p :: ks, h0, h1⟩
theorem el_pr {H : Type} {enc : TypeId × Value → H} {W : World} : ∀ (fuel : Nat) (cs : List Value) (x : DataW H × List MemPlace), DataW.trod enc Tryz.prog W 0 (fun _ => true) true fuel 45 cs = some x → ∃ y : PH, (fun h => ∃ p, PrAt (heapI W) h p) y ∧ encPH y = cs := by
  intro fuel
  induction fuel using Nat.strongRecOn with
  | ind fuel ih =>
    intro cs x h
    obtain ⟨hl, n0_, hn0, f0⟩ := trod_segF (C := 4) ostr_45 (by kernel_rfl) h
    match cs, hl with
    | [c0, c1, c2, c3], _ =>
      obtain ⟨_, g0⟩ := f0 0 3 0 1 (by kernel_rfl) (by kernel_rfl)
      obtain ⟨n0, e0, _, w0⟩ := DataW.trod_int ound_3 (show DataW.trod enc Tryz.prog W 0 (fun _ => true) true n0_ 3 [c0] = some _ from g0)
      obtain ⟨_, g1⟩ := f0 1 3 1 1 (by kernel_rfl) (by kernel_rfl)
      obtain ⟨n1, e1, _, w1⟩ := DataW.trod_int ound_3 (show DataW.trod enc Tryz.prog W 0 (fun _ => true) true n0_ 3 [c1] = some _ from g1)
      obtain ⟨_, g2⟩ := f0 2 3 2 1 (by kernel_rfl) (by kernel_rfl)
      obtain ⟨n2, e2, _, w2⟩ := DataW.trod_int ound_3 (show DataW.trod enc Tryz.prog W 0 (fun _ => true) true n0_ 3 [c2] = some _ from g2)
      obtain ⟨_, g3⟩ := f0 3 35 3 1 (by kernel_rfl) (by kernel_rfl)
      obtain ⟨a3, m3, q3, n3, e3, s3, o3, _⟩ := open_SlF (t := 35) (e := 45) encPH (fun h => ∃ p, PrAt (heapI W) h p) ound_35 (by kernel_rfl) (by decide) encPH_len (fun fuel' cs x hlt h => ih fuel' (by omega) cs x h) (show DataW.trod enc Tryz.prog W 0 (fun _ => true) true n0_ 35 [c3] = some _ from g3)
      cases e0; cases e1; cases e2; cases e3
      obtain ⟨ks, hks⟩ := prsAt_of o3
      exact ⟨⟨n0, n1, n2, a3, m3, q3⟩, ⟨.mk n0 n1 n2 ks, PrAt.node s3 hks⟩, rfl⟩
theorem open_pr {H : Type} {enc : TypeId × Value → H} {W : World} {base : Nat} {v : Value} {d : DataW H} {p : List MemPlace} (hv : Value.okWide Tryz.prog W .any base 45 v) (h : DataW.Trod enc Tryz.prog W 0 (fun _ => true) true 45 v d p) : ∃ y : PH, v = encPHA y ∧ (fun h => ∃ p, PrAt (heapI W) h p) y := by
  obtain ⟨cs, rfl, _⟩ := okWide_struct ostr_45 hv
  obtain ⟨fuel, hf⟩ := h
  obtain ⟨l⟩ := cs
  obtain ⟨y, hy, e⟩ := el_pr fuel l _ hf
  exact ⟨y, by rw [← e]; rfl, hy⟩
theorem wf_u8 {n : Int} (h : (Lit.int .u8 n).wf = true) : 0 ≤ n ∧ n ≤ 255 := by
  simp only [Lit.wf, Bool.and_eq_true, decide_eq_true_eq] at h
  exact h
end Go.Proofs.YtehkiccapbkhnaaGreat
end
section
namespace Go.Proofs.YtehkiccapbkhnaaGreat
open Go Go.Kn Go.Proofs
open Go.ChangeShapes Go.WideShapes Go.ChangeAt Go.RowKit
theorem own : ownKnob Tryz.prog.godebug = none := by kernel_rfl
theorem laidOut : laidOutB Tryz.prog = true := by kernel_rfl
set_option maxRecDepth 100000 in
theorem rehearseEither_lifted (os : Os) (started : os.Started) (H : Type) (enc : TypeId × Value → H) :
    ReturnsInHanded {} Tryz.checked os 6 .any (Rows.rehearseEitherSpec.pre6 enc Tryz.prog Tryz.f6 Rows.rehearseEitherRow.domain false) (Rows.rehearseEitherSpec.post enc Tryz.prog Tryz.f6 false true false false) := by
  refine returnsInHanded_of_change (C := Tryz.checked) own started (by kernel_rfl) Tryz.func6
    (ChangeSpec.witness6 (enc := enc) (C := Tryz.checked) false ⟨#[], #[.agg #[.slice none 0 0, .int .i64 0, .int .i64 0, .int .i64 0, .int .i64 0, .slice none 0 0], .int .u8 0, .agg #[.int .i64 0, .int .i64 0, .int .i64 0, .slice none 0 0]], []⟩ 8 (by kernel_rfl) (by kernel_rfl) (by kernel_rfl) (by kernel_rfl)) ?_
  intro W base args ds gs before hval0 hW hcnd _
  have hval : ∀ (j : Nat) t v, Tryz.f6.params[j]? = some t → args[j]? = some v → Value.okWide Tryz.prog W .any base t v := hval0
  have hW' := hW
  obtain ⟨p, q, hA0, hV, rfl, hfz, hnd⟩ := hW
  have hA : DataW.TrodAll enc Tryz.prog W 0 (fun _ => true) true Tryz.f6.params.toList args.toList ds p := hA0
  rw [Tryz.params6] at hA hval
  obtain ⟨v0, vs1, d0, ds1, p0, q1, ea, rfl, rfl, h0, hA⟩ := trodAll_cons hA
  obtain ⟨v1, vs2, d1, ds2, p1, q2, rfl, rfl, rfl, h1, hA⟩ := trodAll_cons hA
  obtain ⟨v2, vs3, d2, ds3, p2, q3, rfl, rfl, rfl, h2, hA⟩ := trodAll_cons hA
  obtain ⟨rfl, rfl, rfl⟩ := trodAll_nil hA
  have ea' : args = #[v0, v1, v2] := by rw [← Array.toArray_toList (xs := args), ea]
  subst ea'
  obtain ⟨rfl, rfl⟩ := trodVars_none hV
  obtain ⟨x, rfl, cr, hC⟩ := open_cr (hval 0 33 v0 rfl rfl) h0
  obtain ⟨z, rfl, _, _, wfz⟩ := open_int ound_5 (hval 1 5 v1 rfl rfl) h1
  have hz := wf_u8 wfz
  obtain ⟨ph, rfl, pr, hPr⟩ := open_pr (hval 2 45 v2 rfl rfl) h2
  refine (RetV.law (w_eitherLaw hC z hz pr ph hPr)).mono fun e W' ⟨he, hB⟩ => ?_
  subst he
  exact ⟨_, rfl, post_law laidOut (by kernel_rfl) und_4 rfl rfl (by rw [Tryz.params6]; simp only [List.mem_cons, List.not_mem_nil, or_false, forall_eq_or_imp, forall_eq]; exact ⟨⟨by kernel_rfl, of_decide_eq_true (by kernel_rfl)⟩, ⟨by kernel_rfl, of_decide_eq_true (by kernel_rfl)⟩, ⟨by kernel_rfl, of_decide_eq_true (by kernel_rfl)⟩⟩) hW' hB⟩
theorem rehearseEither_holds : Rows.RehearseEitherSaid :=
  OpenClaim.holds_of_wide 6 Tryz.f6 rfl rfl rfl rfl rfl rfl rfl ⟨rfl, rfl, rfl, rfl, rfl⟩ rfl rfl rfl rfl rfl (by kernel_rfl) Tryz.func6 (by kernel_rfl)
    (of_decide_eq_true (by kernel_rfl)) (by unfold Func.isWrapper; first | (rw [if_pos (by decide +kernel)]; kernel_rfl) | (rw [if_neg (by decide +kernel)]; exact ⟨rfl, rfl⟩))
    (fun os started H enc _ => rehearseEither_lifted os started H enc)
#print axioms rehearseEither_holds
end Go.Proofs.YtehkiccapbkhnaaGreat
end
