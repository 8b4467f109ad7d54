/- rehearseProofSpec_holds, part G of the proof: what its theorems say holds without further conditions. -/
import Derived.ProofKit
import Derived.Deep.Slices
import Derived.Test.YtehkiccapbkhnaaGreatRows
import Derived.Test.YtehkiccapbkhnaaGreatRQF
section
namespace Go.Proofs.YtehkiccapbkhnaaGreat
open Go Go.Kn Go.Proofs
theorem fun_66 : Fun Tryz.prog 66 := .of Tryz.func66 (by kernel_rfl) (by kernel_rfl)
theorem w_ref_step {I : HMap} {x : CH} {cr : Cr} (hC : CrAt I x cr) (hr : rightF cr = true) (h16 : cr.days.length ≤ 16) (h8 : cr.ss.length ≤ 8) (hwh : ∀ s ∈ cr.ss, s.who.length ≤ 6) (hnd : ∀ s ∈ cr.ss, s.needs.length ≤ 100000) {last f : Nat} (hl9 : last ≤ cr.days.length) {av : Option Addr} {n c : Nat} {pl : List Int} (hS : Sl I 1 encI av n c pl) (hlen : pl.length + f = cr.ss.length) (hin : InR cr pl) (ih : ∀ f', f = f' + 1 → ∀ (I' : HMap), HLe I I' → ∀ (av' : Option Addr) (n' c' : Nat) (pl' : List Int), Sl I' 1 encI av' n' c' pl' → pl'.length + f' = cr.ss.length → InR cr pl' → RetM Tryz.prog 66 [encCHA x, .slice av' n' c', .int .i64 last] I' [] (RfQ cr last f' pl')) : RetM Tryz.prog 66 [encCHA x, .slice av n c, .int .i64 last] I [] (RfQ cr last f pl) := by
 intro g H w hw
 refine enter Tryz.func66 rfl Tryz.ntmps66 rfl hw ?_
 have hIc := HLe.refl I
 obtain ⟨hD, e1, e2, e3, e4, hss⟩ := id hC
 obtain ⟨hs, hH⟩ := hss
 have hSs := hH.1
 have hlD := hD.len
 have hlS := hH.len
 have hlP := hS.len
 have hl : pl.length ≤ cr.ss.length := by omega
 refine zR ?_
 refine XO_box rfl rfl rfl (fun b_3 => ?_)
 refine XO_alloc zt_45 rfl rfl (fun b_6 => ?_)
 refine zA ?_
 refine zN ?_
 refine X_seq ?_
 refine X_freeze (.there .here) (fun I1 hI1 hb1 => ?_)
 have hC := hC.mono hI1; have hS := hS.mono hI1; have hH := hH.mono hI1; have hIc := hIc.trans hI1
 have hb3 := ImmC.of hb1
 refine X_region ?_
 refine XO_v0 (ev_loadA rfl agt_33 (fun hg => by first | exact Cells.immC hb3 | (repeat (first | exact Cells.here | exact Cells.s0 (vs := [_, _, _, _, _, _]) rfl | apply Cells.there | apply Cells.app))) rfl) rfl rfl rfl ?_
 refine zM ?_
 refine XO_callM (cap := []) (vs := [_, _]) rfl rfl fun_98 .nil (w_rFir hC hr h16 h8 hwh hnd hS hl hin) rfl rfl ?_
 rintro vv2 I2 L2 hI2 ⟨rfl, rfl⟩
 have hC := hC.mono hI2; have hS := hS.mono hI2; have hH := hH.mono hI2; have hb3 := hb3.mono hI2; have hIc := hIc.trans hI2
 rw [List.nil_append]
 refine zM ?_
 refine XO_v0 (ev_extract rfl rfl) rfl rfl rfl ?_
 refine XO_v0 (ev_extract rfl rfl) rfl rfl rfl ?_
 refine XO_alloc zt_45 rfl rfl (fun b_8 => ?_)
 refine XO_storeA rfl rfl szt_45 rfl rfl rfl rfl (by repeat (first | exact Upd.here | apply Upd.there | apply upd_app)) ?_
 refine zA ?_
 refine zN ?_
 refine X_seq ?_
 refine zR ?_
 refine zM ?_
 refine zN ?_
 refine X_cond rfl (fun hc20 => ?_) (fun hc20 => ?_)
 ·
  obtain ⟨b0, l0, hbl0⟩ := fir_yes hc20
  refine zR ?_
  refine XO_v0 (ev_loadA rfl agt_45 (fun hg => by first | exact Cells.immC hb3 | (repeat (first | exact Cells.here | exact Cells.s0 (vs := [_, _, _, _]) rfl | apply Cells.there | apply Cells.app))) rfl) rfl rfl rfl ?_
  refine XO_storeA rfl rfl szt_45 rfl rfl rfl rfl (by repeat (first | exact Upd.here | apply Upd.there | apply upd_app)) ?_
  refine zA ?_
  refine zN ?_
  refine X_ret ?_
  refine at_then_r ?_
  first
  | (have hg9 := hbl0; exact at_ret2A rfl rfl rfl agt_45 (vs := encPH (firH cr pl)) (by repeat (first | exact Cells.here | apply Cells.there | apply Cells.app)) rfl (fun w hw => ⟨_, I2, [], rfl, hIc, hw.drop, RfQ.yes (by rw [srch_leaf hg9]) (by rw [srch_leaf hg9, (fir_cons hg9).2]; exact PrAt.leaf b0)⟩))
 have hnil := fir_no hc20
 refine X_skip ?_
 refine at_then ?_
 refine X_seq ?_
 refine zR ?_
 refine zM ?_
 refine XO_v0 (ev_lenS rfl slt_23) rfl rfl rfl ?_
 refine XO_v0 (ev_fieldAddr rfl fld_33_5) rfl rfl rfl ?_
 refine XO_v0 (ev_load rfl sct_27 (fun hg => by first | exact Cell.imm hb3 rfl | (repeat (first | exact Cell.here rfl | apply Cell.there | apply Cell.app)))) rfl rfl rfl ?_
 refine XO_v0 (ev_lenS rfl slt_27) rfl rfl rfl ?_
 refine zC ?_
 refine zN ?_
 refine X_cond rfl (fun hc27 => ?_) (fun hc27 => ?_)
 ·
  obtain rfl : f = 0 := by have h := hc27; simp at h; omega
  refine zR ?_
  refine XO_v0 (ev_buildL (ps := []) [_, _, _, _] plt_45 rfl rfl) rfl rfl rfl ?_
  refine XO_storeA rfl rfl szt_45 rfl rfl rfl rfl (by repeat (first | exact Upd.here | apply Upd.there | apply upd_app)) ?_
  refine zA ?_
  refine zN ?_
  refine X_ret ?_
  refine at_then_r ?_
  first
  | (have hg9 := hnil; exact at_ret2A rfl rfl rfl agt_45 (vs := encPH ⟨0, 0, 0, none, 0, 0⟩) (by repeat (first | exact Cells.here | apply Cells.there | apply Cells.app)) rfl (fun w hw => ⟨_, I2, [], rfl, hIc, hw.drop, RfQ.no (x := pl) (by rw [srch_full hg9])⟩))
 obtain ⟨f', rfl⟩ : ∃ f', f = f' + 1 := ⟨f - 1, by have h := hc27; simp at h; omega⟩
 refine X_skip ?_
 refine at_then ?_
 refine zR ?_
 refine XO_v0 (ev_buildL (ps := []) [_, _, _, _] plt_45 rfl rfl) rfl rfl rfl ?_
 refine XO_alloc zt_45 rfl rfl (fun b_10 => ?_)
 refine XO_storeA rfl rfl szt_45 rfl rfl rfl rfl (by repeat (first | exact Upd.here | apply Upd.there | apply upd_app)) ?_
 refine zN ?_
 refine X_seq ?_
 refine zR ?_
 refine zA ?_
 refine zN ?_
 refine X_block ?_
 refine X_loopT [(1, _), (2, _), (3, _), (6, _), (10, _)] (.cons rfl (.cons rfl (.cons rfl (.cons rfl (.cons rfl .nil))))) (fun T L0 mz E I' loc' => ∃ (d : Nat) (v : Value) (q : Nat) (L : Go.Kn.Loc) (hs9 : List PH) (ks : List Pr), mz = last - d ∧ E = (11, .int .i64 d) :: T ∧ HLe I2 I' ∧ L ++ [(b_10, .cells #[.int .i64 0, .int .i64 0, .int .i64 0, v] 45 (0, 0)), (b_8, .cells (encPH (firH cr pl)).toArray 45 (0, 0)), (b_6, .cells (encPH ⟨0, 0, 0, none, 0, 0⟩).toArray 45 (0, 0))] = loc' ∧ d ≤ last ∧ OwnS 45 4 v q (hs9.flatMap encPH) L ∧ q ≤ d ∧ PrsAt I' hs9 ks ∧ GoQ cr last f' pl d ks) _ _ _ _ ⟨0, _, 0, [], [], [], rfl, rfl, HLe.refl _, rfl, Nat.zero_le _, OwnS.nil, Nat.le_refl _, PrsAt.nil, goQ_0 hnil⟩ (.cons rfl (.cons rfl (.cons rfl (.cons rfl (.cons rfl (.cons rfl .nil)))))) (HLe.refl _) rfl ?_
 rintro mz E J3 loc' ⟨d, v, q, L, hs9, ks, rfl, rfl, hJ, rfl, hd, hO, hq, hks, hgo⟩
 have hC := hC.mono hJ; have hS := hS.mono hJ; have hH := hH.mono hJ; have hb3 := hb3.mono hJ; have hIc := hIc.trans hJ
 have hB0 := hJ
 refine X_seq ?_
 refine zR ?_
 refine zM ?_
 refine zM ?_
 refine zC ?_
 refine zN ?_
 refine X_cond rfl (fun hc32 => ?_) (fun hc32 => ?_)
 ·
  have hlt_d : d < last := by have h := hc32; simp at h; omega
  refine X_skip ?_
  refine at_then ?_
  refine X_seq ?_
  refine X_block ?_
  refine X_cutT [(1, _), (2, _), (3, _), (6, _), (10, _), (11, _)] (.cons rfl (.cons rfl (.cons rfl (.cons rfl (.cons rfl (.cons rfl .nil)))))) (fun T L0 E I' loc' => ∃ (b12 : Nat) (kh : PH) (kfd : Bool), E = (12, capP b12) :: (13, .bool kfd) :: T ∧ HLe J3 I' ∧ (b12, .cells (encPH kh).toArray 45 (0, 0)) :: (L ++ [(b_10, .cells #[.int .i64 0, .int .i64 0, .int .i64 0, v] 45 (0, 0)), (b_8, .cells (encPH (firH cr pl)).toArray 45 (0, 0)), (b_6, .cells (encPH ⟨0, 0, 0, none, 0, 0⟩).toArray 45 (0, 0))]) = loc' ∧ RfKid cr last f' (pl ++ [(d : Int)]) kh kfd I') ?_ ?_
  ·
   have hKc10 := HLe.refl J3
   have hD := HLe.refl J3
   refine X_noP ?_
   refine X_drawS J3 [] mixed ?_
   refine zT 0 rfl (ev_loadA rfl agt_33 (fun hg => by first | exact Cells.immC hb3 | (repeat (first | exact Cells.here | exact Cells.s0 (vs := [_, _, _, _, _, _]) rfl | apply Cells.there | apply Cells.app))) rfl) hD ?_
   refine zT 2 rfl (ev_move rfl) hD ?_
   refine zT 4 rfl (ev_move rfl) hD ?_
   refine zT 7 rfl (ev_move rfl) hD ?_
   refine XD_three 1 5 12 rfl rfl rfl (by kernel_rfl) ?_ ?_ ?_
   ·
    refine XO_buildSlice (ps := []) (m := []) elt_23 rfl (.nil) rfl (by simp) (by decide) (by decide) rfl rfl (fun b_37 => ?_)
    refine XO_nil ?_
    refine zD hD ?_
    refine XD_three 3 5 12 rfl rfl rfl (by kernel_rfl) ?_ ?_ ?_
    ·
     refine XO_append (v := _) (ys := pl.flatMap encI) (L := [(b_37, _)]) rfl rfl elt_23 OwnS.new (by repeat (first | exact .cons .here .nil | exact split_all | exact split_app | apply split_cons | apply split_skip)) (hS.src encI_len) (one_I _) (by omega) rfl rfl ?_
     intro v5 L5 hO5 _; rw [List.nil_append, Nat.zero_add] at hO5
     refine XO_nil ?_
     refine zD hD ?_
     refine XD_two 5 12 rfl rfl (by kernel_rfl) ?_ ?_
     ·
      refine XO_buildSlice (ps := [(0, _)]) (m := [encI (d : Int)]) elt_23 rfl (.cons rfl (.nil)) rfl (by simp [encI_len]) (by decide) (by decide) rfl rfl (fun b_41 => ?_)
      refine XO_nil ?_
      refine zD hD ?_
      refine XD_two 6 12 rfl rfl (by kernel_rfl) ?_ ?_
      ·
       refine XO_append (v := _) (ys := [(d : Int)].flatMap encI) (L := L5) rfl rfl elt_23 hO5 (by repeat (first | exact .cons .here .nil | exact split_all | exact split_app | apply split_cons | apply split_skip)) ⟨rfl, fun _ => rfl, by repeat (first | exact Cells.here | apply Cells.there | apply Cells.app)⟩ (one_I [(d : Int)]) (by omega) rfl rfl ?_
       intro v9 L9 hO9 _; rw [← List.flatMap_append] at hO9
       refine XO_nil ?_
       refine zD hD ?_
       refine XD_two 8 12 rfl rfl (by kernel_rfl) ?_ ?_
       ·
        refine XO_freezeO hO9 encI_len (by decide) (by repeat (first | exact .cons .here .nil | exact split_all | exact split_app | apply split_cons | apply split_skip)) (fun I4 hI4 af4 cf4 ef4 hZ => ?_)
        subst ef4
        have hC := hC.mono hI4; have hS := hS.mono hI4; have hH := hH.mono hI4; have hb3 := hb3.mono hI4; have hks := hks.mono hI4; have hIc := hIc.trans hI4; have hB0 := hB0.trans hI4; have hKc10 := hKc10.trans hI4; have hD := hD.trans hI4
        refine XO_callM (cap := []) (vs := [_, _, _]) rfl rfl fun_66 .nil (ih f' rfl I4 hIc _ _ _ _ hZ (by rw [List.length_append, List.length_singleton]; omega) (fun e he => by rcases List.mem_append.1 he with he | he; exact hin e he; (rw [List.mem_singleton] at he; subst he; exact ⟨by omega, by omega⟩))) rfl rfl ?_
        rintro vv5 I5 L5 hI5 ⟨rfl, kh, kfd, rfl, hkq⟩
        have hC := hC.mono hI5; have hS := hS.mono hI5; have hH := hH.mono hI5; have hb3 := hb3.mono hI5; have hks := hks.mono hI5; have hZ := hZ.mono hI5; have hIc := hIc.trans hI5; have hB0 := hB0.trans hI5; have hKc10 := hKc10.trans hI5; have hD := hD.trans hI5
        rw [List.nil_append]
        refine XO_nil ?_
        refine zD hD ?_
        refine zT 9 rfl (ev_move rfl) hD ?_
        refine zT 10 rfl (ev_extract rfl rfl) hD ?_
        refine zT 11 rfl (ev_extract rfl rfl) hD ?_
        refine XD_one 12 rfl (by kernel_rfl) ?_
        refine XO_alloc zt_45 rfl rfl (fun b_12 => ?_)
        refine XO_nil ?_
        refine zD hD ?_
        refine XD_one 13 rfl (by kernel_rfl) ?_
        refine XO_storeA rfl rfl szt_45 rfl rfl rfl rfl (by repeat (first | exact Upd.here | apply Upd.there | apply upd_app)) ?_
        refine XO_nil ?_
        refine zD hD ?_
        refine zT 14 rfl (ev_assign rfl) hD ?_
        refine XD_done (by kernel_rfl) ?_
        refine at_noP ?_
        exact at_met2 _ _ ⟨b_12, kh, kfd, rfl, hKc10, rfl, hkq⟩ (.cons rfl (.cons rfl (.cons rfl (.cons rfl (.cons rfl (.cons rfl (.cons rfl (.cons rfl .nil)))))))) (by repeat (first | exact .refl | refine .keep ?_ | refine .drop ?_))
       refine XO_alloc zt_45 rfl rfl (fun b_12 => ?_)
       refine XO_nil ?_
       refine zD hD ?_
       refine XD_one 8 rfl (by kernel_rfl) ?_
       refine XO_freezeO hO9 encI_len (by decide) (by repeat (first | exact .cons .here .nil | exact split_all | exact split_app | apply split_cons | apply split_skip)) (fun I6 hI6 af6 cf6 ef6 hZ => ?_)
       subst ef6
       have hC := hC.mono hI6; have hS := hS.mono hI6; have hH := hH.mono hI6; have hb3 := hb3.mono hI6; have hks := hks.mono hI6; have hIc := hIc.trans hI6; have hB0 := hB0.trans hI6; have hKc10 := hKc10.trans hI6; have hD := hD.trans hI6
       refine XO_callM (cap := []) (vs := [_, _, _]) rfl rfl fun_66 .nil (ih f' rfl I6 hIc _ _ _ _ hZ (by rw [List.length_append, List.length_singleton]; omega) (fun e he => by rcases List.mem_append.1 he with he | he; exact hin e he; (rw [List.mem_singleton] at he; subst he; exact ⟨by omega, by omega⟩))) rfl rfl ?_
       rintro vv7 I7 L7 hI7 ⟨rfl, kh, kfd, rfl, hkq⟩
       have hC := hC.mono hI7; have hS := hS.mono hI7; have hH := hH.mono hI7; have hb3 := hb3.mono hI7; have hks := hks.mono hI7; have hZ := hZ.mono hI7; have hIc := hIc.trans hI7; have hB0 := hB0.trans hI7; have hKc10 := hKc10.trans hI7; have hD := hD.trans hI7
       rw [List.nil_append]
       refine XO_nil ?_
       refine zD hD ?_
       refine zT 9 rfl (ev_move rfl) hD ?_
       refine zT 10 rfl (ev_extract rfl rfl) hD ?_
       refine zT 11 rfl (ev_extract rfl rfl) hD ?_
       refine XD_one 13 rfl (by kernel_rfl) ?_
       refine XO_storeA rfl rfl szt_45 rfl rfl rfl rfl (by repeat (first | exact Upd.here | apply Upd.there | apply upd_app)) ?_
       refine XO_nil ?_
       refine zD hD ?_
       refine zT 14 rfl (ev_assign rfl) hD ?_
       refine XD_done (by kernel_rfl) ?_
       refine at_noP ?_
       exact at_met2 _ _ ⟨b_12, kh, kfd, rfl, hKc10, rfl, hkq⟩ (.cons rfl (.cons rfl (.cons rfl (.cons rfl (.cons rfl (.cons rfl (.cons rfl (.cons rfl .nil)))))))) (by repeat (first | exact .refl | refine .keep ?_ | refine .drop ?_))
      refine XO_alloc zt_45 rfl rfl (fun b_12 => ?_)
      refine XO_nil ?_
      refine zD hD ?_
      refine XD_one 6 rfl (by kernel_rfl) ?_
      refine XO_append (v := _) (ys := [(d : Int)].flatMap encI) (L := L5) rfl rfl elt_23 hO5 (by repeat (first | exact .cons .here .nil | exact split_all | exact split_app | apply split_cons | apply split_skip)) ⟨rfl, fun _ => rfl, by repeat (first | exact Cells.here | apply Cells.there | apply Cells.app)⟩ (one_I [(d : Int)]) (by omega) rfl rfl ?_
      intro v9 L9 hO9 _; rw [← List.flatMap_append] at hO9
      refine XO_nil ?_
      refine zD hD ?_
      refine XD_one 8 rfl (by kernel_rfl) ?_
      refine XO_freezeO hO9 encI_len (by decide) (by repeat (first | exact .cons .here .nil | exact split_all | exact split_app | apply split_cons | apply split_skip)) (fun I8 hI8 af8 cf8 ef8 hZ => ?_)
      subst ef8
      have hC := hC.mono hI8; have hS := hS.mono hI8; have hH := hH.mono hI8; have hb3 := hb3.mono hI8; have hks := hks.mono hI8; have hIc := hIc.trans hI8; have hB0 := hB0.trans hI8; have hKc10 := hKc10.trans hI8; have hD := hD.trans hI8
      refine XO_callM (cap := []) (vs := [_, _, _]) rfl rfl fun_66 .nil (ih f' rfl I8 hIc _ _ _ _ hZ (by rw [List.length_append, List.length_singleton]; omega) (fun e he => by rcases List.mem_append.1 he with he | he; exact hin e he; (rw [List.mem_singleton] at he; subst he; exact ⟨by omega, by omega⟩))) rfl rfl ?_
      rintro vv9 I9 L9 hI9 ⟨rfl, kh, kfd, rfl, hkq⟩
      have hC := hC.mono hI9; have hS := hS.mono hI9; have hH := hH.mono hI9; have hb3 := hb3.mono hI9; have hks := hks.mono hI9; have hZ := hZ.mono hI9; have hIc := hIc.trans hI9; have hB0 := hB0.trans hI9; have hKc10 := hKc10.trans hI9; have hD := hD.trans hI9
      rw [List.nil_append]
      refine XO_nil ?_
      refine zD hD ?_
      refine zT 9 rfl (ev_move rfl) hD ?_
      refine zT 10 rfl (ev_extract rfl rfl) hD ?_
      refine zT 11 rfl (ev_extract rfl rfl) hD ?_
      refine XD_one 13 rfl (by kernel_rfl) ?_
      refine XO_storeA rfl rfl szt_45 rfl rfl rfl rfl (by repeat (first | exact Upd.here | apply Upd.there | apply upd_app)) ?_
      refine XO_nil ?_
      refine zD hD ?_
      refine zT 14 rfl (ev_assign rfl) hD ?_
      refine XD_done (by kernel_rfl) ?_
      refine at_noP ?_
      exact at_met2 _ _ ⟨b_12, kh, kfd, rfl, hKc10, rfl, hkq⟩ (.cons rfl (.cons rfl (.cons rfl (.cons rfl (.cons rfl (.cons rfl (.cons rfl (.cons rfl .nil)))))))) (by repeat (first | exact .refl | refine .keep ?_ | refine .drop ?_))
     refine XO_alloc zt_45 rfl rfl (fun b_12 => ?_)
     refine XO_nil ?_
     refine zD hD ?_
     refine XD_one 5 rfl (by kernel_rfl) ?_
     refine XO_buildSlice (ps := [(0, _)]) (m := [encI (d : Int)]) elt_23 rfl (.cons rfl (.nil)) rfl (by simp [encI_len]) (by decide) (by decide) rfl rfl (fun b_41 => ?_)
     refine XO_nil ?_
     refine zD hD ?_
     refine XD_one 6 rfl (by kernel_rfl) ?_
     refine XO_append (v := _) (ys := [(d : Int)].flatMap encI) (L := L5) rfl rfl elt_23 hO5 (by repeat (first | exact .cons .here .nil | exact split_all | exact split_app | apply split_cons | apply split_skip)) ⟨rfl, fun _ => rfl, by repeat (first | exact Cells.here | apply Cells.there | apply Cells.app)⟩ (one_I [(d : Int)]) (by omega) rfl rfl ?_
     intro v9 L9 hO9 _; rw [← List.flatMap_append] at hO9
     refine XO_nil ?_
     refine zD hD ?_
     refine XD_one 8 rfl (by kernel_rfl) ?_
     refine XO_freezeO hO9 encI_len (by decide) (by repeat (first | exact .cons .here .nil | exact split_all | exact split_app | apply split_cons | apply split_skip)) (fun I10 hI10 af10 cf10 ef10 hZ => ?_)
     subst ef10
     have hC := hC.mono hI10; have hS := hS.mono hI10; have hH := hH.mono hI10; have hb3 := hb3.mono hI10; have hks := hks.mono hI10; have hIc := hIc.trans hI10; have hB0 := hB0.trans hI10; have hKc10 := hKc10.trans hI10; have hD := hD.trans hI10
     refine XO_callM (cap := []) (vs := [_, _, _]) rfl rfl fun_66 .nil (ih f' rfl I10 hIc _ _ _ _ hZ (by rw [List.length_append, List.length_singleton]; omega) (fun e he => by rcases List.mem_append.1 he with he | he; exact hin e he; (rw [List.mem_singleton] at he; subst he; exact ⟨by omega, by omega⟩))) rfl rfl ?_
     rintro vv11 I11 L11 hI11 ⟨rfl, kh, kfd, rfl, hkq⟩
     have hC := hC.mono hI11; have hS := hS.mono hI11; have hH := hH.mono hI11; have hb3 := hb3.mono hI11; have hks := hks.mono hI11; have hZ := hZ.mono hI11; have hIc := hIc.trans hI11; have hB0 := hB0.trans hI11; have hKc10 := hKc10.trans hI11; have hD := hD.trans hI11
     rw [List.nil_append]
     refine XO_nil ?_
     refine zD hD ?_
     refine zT 9 rfl (ev_move rfl) hD ?_
     refine zT 10 rfl (ev_extract rfl rfl) hD ?_
     refine zT 11 rfl (ev_extract rfl rfl) hD ?_
     refine XD_one 13 rfl (by kernel_rfl) ?_
     refine XO_storeA rfl rfl szt_45 rfl rfl rfl rfl (by repeat (first | exact Upd.here | apply Upd.there | apply upd_app)) ?_
     refine XO_nil ?_
     refine zD hD ?_
     refine zT 14 rfl (ev_assign rfl) hD ?_
     refine XD_done (by kernel_rfl) ?_
     refine at_noP ?_
     exact at_met2 _ _ ⟨b_12, kh, kfd, rfl, hKc10, rfl, hkq⟩ (.cons rfl (.cons rfl (.cons rfl (.cons rfl (.cons rfl (.cons rfl (.cons rfl (.cons rfl .nil)))))))) (by repeat (first | exact .refl | refine .keep ?_ | refine .drop ?_))
    ·
     refine XO_buildSlice (ps := [(0, _)]) (m := [encI (d : Int)]) elt_23 rfl (.cons rfl (.nil)) rfl (by simp [encI_len]) (by decide) (by decide) rfl rfl (fun b_41 => ?_)
     refine XO_nil ?_
     refine zD hD ?_
     refine XD_two 3 12 rfl rfl (by kernel_rfl) ?_ ?_
     ·
      refine XO_append (v := _) (ys := pl.flatMap encI) (L := [(b_37, _)]) rfl rfl elt_23 OwnS.new (by repeat (first | exact .cons .here .nil | exact split_all | exact split_app | apply split_cons | apply split_skip)) (hS.src encI_len) (one_I _) (by omega) rfl rfl ?_
      intro v5 L5 hO5 _; rw [List.nil_append, Nat.zero_add] at hO5
      refine XO_nil ?_
      refine zD hD ?_
      refine XD_two 6 12 rfl rfl (by kernel_rfl) ?_ ?_
      ·
       refine XO_append (v := _) (ys := [(d : Int)].flatMap encI) (L := L5) rfl rfl elt_23 hO5 (by repeat (first | exact .cons .here .nil | exact split_all | exact split_app | apply split_cons | apply split_skip)) ⟨rfl, fun _ => rfl, by repeat (first | exact Cells.here | apply Cells.there | apply Cells.app)⟩ (one_I [(d : Int)]) (by omega) rfl rfl ?_
       intro v9 L9 hO9 _; rw [← List.flatMap_append] at hO9
       refine XO_nil ?_
       refine zD hD ?_
       refine XD_two 8 12 rfl rfl (by kernel_rfl) ?_ ?_
       ·
        refine XO_freezeO hO9 encI_len (by decide) (by repeat (first | exact .cons .here .nil | exact split_all | exact split_app | apply split_cons | apply split_skip)) (fun I12 hI12 af12 cf12 ef12 hZ => ?_)
        subst ef12
        have hC := hC.mono hI12; have hS := hS.mono hI12; have hH := hH.mono hI12; have hb3 := hb3.mono hI12; have hks := hks.mono hI12; have hIc := hIc.trans hI12; have hB0 := hB0.trans hI12; have hKc10 := hKc10.trans hI12; have hD := hD.trans hI12
        refine XO_callM (cap := []) (vs := [_, _, _]) rfl rfl fun_66 .nil (ih f' rfl I12 hIc _ _ _ _ hZ (by rw [List.length_append, List.length_singleton]; omega) (fun e he => by rcases List.mem_append.1 he with he | he; exact hin e he; (rw [List.mem_singleton] at he; subst he; exact ⟨by omega, by omega⟩))) rfl rfl ?_
        rintro vv13 I13 L13 hI13 ⟨rfl, kh, kfd, rfl, hkq⟩
        have hC := hC.mono hI13; have hS := hS.mono hI13; have hH := hH.mono hI13; have hb3 := hb3.mono hI13; have hks := hks.mono hI13; have hZ := hZ.mono hI13; have hIc := hIc.trans hI13; have hB0 := hB0.trans hI13; have hKc10 := hKc10.trans hI13; have hD := hD.trans hI13
        rw [List.nil_append]
        refine XO_nil ?_
        refine zD hD ?_
        refine zT 9 rfl (ev_move rfl) hD ?_
        refine zT 10 rfl (ev_extract rfl rfl) hD ?_
        refine zT 11 rfl (ev_extract rfl rfl) hD ?_
        refine XD_one 12 rfl (by kernel_rfl) ?_
        refine XO_alloc zt_45 rfl rfl (fun b_12 => ?_)
        refine XO_nil ?_
        refine zD hD ?_
        refine XD_one 13 rfl (by kernel_rfl) ?_
        refine XO_storeA rfl rfl szt_45 rfl rfl rfl rfl (by repeat (first | exact Upd.here | apply Upd.there | apply upd_app)) ?_
        refine XO_nil ?_
        refine zD hD ?_
        refine zT 14 rfl (ev_assign rfl) hD ?_
        refine XD_done (by kernel_rfl) ?_
        refine at_noP ?_
        exact at_met2 _ _ ⟨b_12, kh, kfd, rfl, hKc10, rfl, hkq⟩ (.cons rfl (.cons rfl (.cons rfl (.cons rfl (.cons rfl (.cons rfl (.cons rfl (.cons rfl .nil)))))))) (by repeat (first | exact .refl | refine .keep ?_ | refine .drop ?_))
       refine XO_alloc zt_45 rfl rfl (fun b_12 => ?_)
       refine XO_nil ?_
       refine zD hD ?_
       refine XD_one 8 rfl (by kernel_rfl) ?_
       refine XO_freezeO hO9 encI_len (by decide) (by repeat (first | exact .cons .here .nil | exact split_all | exact split_app | apply split_cons | apply split_skip)) (fun I14 hI14 af14 cf14 ef14 hZ => ?_)
       subst ef14
       have hC := hC.mono hI14; have hS := hS.mono hI14; have hH := hH.mono hI14; have hb3 := hb3.mono hI14; have hks := hks.mono hI14; have hIc := hIc.trans hI14; have hB0 := hB0.trans hI14; have hKc10 := hKc10.trans hI14; have hD := hD.trans hI14
       refine XO_callM (cap := []) (vs := [_, _, _]) rfl rfl fun_66 .nil (ih f' rfl I14 hIc _ _ _ _ hZ (by rw [List.length_append, List.length_singleton]; omega) (fun e he => by rcases List.mem_append.1 he with he | he; exact hin e he; (rw [List.mem_singleton] at he; subst he; exact ⟨by omega, by omega⟩))) rfl rfl ?_
       rintro vv15 I15 L15 hI15 ⟨rfl, kh, kfd, rfl, hkq⟩
       have hC := hC.mono hI15; have hS := hS.mono hI15; have hH := hH.mono hI15; have hb3 := hb3.mono hI15; have hks := hks.mono hI15; have hZ := hZ.mono hI15; have hIc := hIc.trans hI15; have hB0 := hB0.trans hI15; have hKc10 := hKc10.trans hI15; have hD := hD.trans hI15
       rw [List.nil_append]
       refine XO_nil ?_
       refine zD hD ?_
       refine zT 9 rfl (ev_move rfl) hD ?_
       refine zT 10 rfl (ev_extract rfl rfl) hD ?_
       refine zT 11 rfl (ev_extract rfl rfl) hD ?_
       refine XD_one 13 rfl (by kernel_rfl) ?_
       refine XO_storeA rfl rfl szt_45 rfl rfl rfl rfl (by repeat (first | exact Upd.here | apply Upd.there | apply upd_app)) ?_
       refine XO_nil ?_
       refine zD hD ?_
       refine zT 14 rfl (ev_assign rfl) hD ?_
       refine XD_done (by kernel_rfl) ?_
       refine at_noP ?_
       exact at_met2 _ _ ⟨b_12, kh, kfd, rfl, hKc10, rfl, hkq⟩ (.cons rfl (.cons rfl (.cons rfl (.cons rfl (.cons rfl (.cons rfl (.cons rfl (.cons rfl .nil)))))))) (by repeat (first | exact .refl | refine .keep ?_ | refine .drop ?_))
      refine XO_alloc zt_45 rfl rfl (fun b_12 => ?_)
      refine XO_nil ?_
      refine zD hD ?_
      refine XD_one 6 rfl (by kernel_rfl) ?_
      refine XO_append (v := _) (ys := [(d : Int)].flatMap encI) (L := L5) rfl rfl elt_23 hO5 (by repeat (first | exact .cons .here .nil | exact split_all | exact split_app | apply split_cons | apply split_skip)) ⟨rfl, fun _ => rfl, by repeat (first | exact Cells.here | apply Cells.there | apply Cells.app)⟩ (one_I [(d : Int)]) (by omega) rfl rfl ?_
      intro v9 L9 hO9 _; rw [← List.flatMap_append] at hO9
      refine XO_nil ?_
      refine zD hD ?_
      refine XD_one 8 rfl (by kernel_rfl) ?_
      refine XO_freezeO hO9 encI_len (by decide) (by repeat (first | exact .cons .here .nil | exact split_all | exact split_app | apply split_cons | apply split_skip)) (fun I16 hI16 af16 cf16 ef16 hZ => ?_)
      subst ef16
      have hC := hC.mono hI16; have hS := hS.mono hI16; have hH := hH.mono hI16; have hb3 := hb3.mono hI16; have hks := hks.mono hI16; have hIc := hIc.trans hI16; have hB0 := hB0.trans hI16; have hKc10 := hKc10.trans hI16; have hD := hD.trans hI16
      refine XO_callM (cap := []) (vs := [_, _, _]) rfl rfl fun_66 .nil (ih f' rfl I16 hIc _ _ _ _ hZ (by rw [List.length_append, List.length_singleton]; omega) (fun e he => by rcases List.mem_append.1 he with he | he; exact hin e he; (rw [List.mem_singleton] at he; subst he; exact ⟨by omega, by omega⟩))) rfl rfl ?_
      rintro vv17 I17 L17 hI17 ⟨rfl, kh, kfd, rfl, hkq⟩
      have hC := hC.mono hI17; have hS := hS.mono hI17; have hH := hH.mono hI17; have hb3 := hb3.mono hI17; have hks := hks.mono hI17; have hZ := hZ.mono hI17; have hIc := hIc.trans hI17; have hB0 := hB0.trans hI17; have hKc10 := hKc10.trans hI17; have hD := hD.trans hI17
      rw [List.nil_append]
      refine XO_nil ?_
      refine zD hD ?_
      refine zT 9 rfl (ev_move rfl) hD ?_
      refine zT 10 rfl (ev_extract rfl rfl) hD ?_
      refine zT 11 rfl (ev_extract rfl rfl) hD ?_
      refine XD_one 13 rfl (by kernel_rfl) ?_
      refine XO_storeA rfl rfl szt_45 rfl rfl rfl rfl (by repeat (first | exact Upd.here | apply Upd.there | apply upd_app)) ?_
      refine XO_nil ?_
      refine zD hD ?_
      refine zT 14 rfl (ev_assign rfl) hD ?_
      refine XD_done (by kernel_rfl) ?_
      refine at_noP ?_
      exact at_met2 _ _ ⟨b_12, kh, kfd, rfl, hKc10, rfl, hkq⟩ (.cons rfl (.cons rfl (.cons rfl (.cons rfl (.cons rfl (.cons rfl (.cons rfl (.cons rfl .nil)))))))) (by repeat (first | exact .refl | refine .keep ?_ | refine .drop ?_))
     refine XO_alloc zt_45 rfl rfl (fun b_12 => ?_)
     refine XO_nil ?_
     refine zD hD ?_
     refine XD_one 3 rfl (by kernel_rfl) ?_
     refine XO_append (v := _) (ys := pl.flatMap encI) (L := [(b_37, _)]) rfl rfl elt_23 OwnS.new (by repeat (first | exact .cons .here .nil | exact split_all | exact split_app | apply split_cons | apply split_skip)) (hS.src encI_len) (one_I _) (by omega) rfl rfl ?_
     intro v5 L5 hO5 _; rw [List.nil_append, Nat.zero_add] at hO5
     refine XO_nil ?_
     refine zD hD ?_
     refine XD_one 6 rfl (by kernel_rfl) ?_
     refine XO_append (v := _) (ys := [(d : Int)].flatMap encI) (L := L5) rfl rfl elt_23 hO5 (by repeat (first | exact .cons .here .nil | exact split_all | exact split_app | apply split_cons | apply split_skip)) ⟨rfl, fun _ => rfl, by repeat (first | exact Cells.here | apply Cells.there | apply Cells.app)⟩ (one_I [(d : Int)]) (by omega) rfl rfl ?_
     intro v9 L9 hO9 _; rw [← List.flatMap_append] at hO9
     refine XO_nil ?_
     refine zD hD ?_
     refine XD_one 8 rfl (by kernel_rfl) ?_
     refine XO_freezeO hO9 encI_len (by decide) (by repeat (first | exact .cons .here .nil | exact split_all | exact split_app | apply split_cons | apply split_skip)) (fun I18 hI18 af18 cf18 ef18 hZ => ?_)
     subst ef18
     have hC := hC.mono hI18; have hS := hS.mono hI18; have hH := hH.mono hI18; have hb3 := hb3.mono hI18; have hks := hks.mono hI18; have hIc := hIc.trans hI18; have hB0 := hB0.trans hI18; have hKc10 := hKc10.trans hI18; have hD := hD.trans hI18
     refine XO_callM (cap := []) (vs := [_, _, _]) rfl rfl fun_66 .nil (ih f' rfl I18 hIc _ _ _ _ hZ (by rw [List.length_append, List.length_singleton]; omega) (fun e he => by rcases List.mem_append.1 he with he | he; exact hin e he; (rw [List.mem_singleton] at he; subst he; exact ⟨by omega, by omega⟩))) rfl rfl ?_
     rintro vv19 I19 L19 hI19 ⟨rfl, kh, kfd, rfl, hkq⟩
     have hC := hC.mono hI19; have hS := hS.mono hI19; have hH := hH.mono hI19; have hb3 := hb3.mono hI19; have hks := hks.mono hI19; have hZ := hZ.mono hI19; have hIc := hIc.trans hI19; have hB0 := hB0.trans hI19; have hKc10 := hKc10.trans hI19; have hD := hD.trans hI19
     rw [List.nil_append]
     refine XO_nil ?_
     refine zD hD ?_
     refine zT 9 rfl (ev_move rfl) hD ?_
     refine zT 10 rfl (ev_extract rfl rfl) hD ?_
     refine zT 11 rfl (ev_extract rfl rfl) hD ?_
     refine XD_one 13 rfl (by kernel_rfl) ?_
     refine XO_storeA rfl rfl szt_45 rfl rfl rfl rfl (by repeat (first | exact Upd.here | apply Upd.there | apply upd_app)) ?_
     refine XO_nil ?_
     refine zD hD ?_
     refine zT 14 rfl (ev_assign rfl) hD ?_
     refine XD_done (by kernel_rfl) ?_
     refine at_noP ?_
     exact at_met2 _ _ ⟨b_12, kh, kfd, rfl, hKc10, rfl, hkq⟩ (.cons rfl (.cons rfl (.cons rfl (.cons rfl (.cons rfl (.cons rfl (.cons rfl (.cons rfl .nil)))))))) (by repeat (first | exact .refl | refine .keep ?_ | refine .drop ?_))
    refine XO_alloc zt_45 rfl rfl (fun b_12 => ?_)
    refine XO_nil ?_
    refine zD hD ?_
    refine XD_two 3 5 rfl rfl (by kernel_rfl) ?_ ?_
    ·
     refine XO_append (v := _) (ys := pl.flatMap encI) (L := [(b_37, _)]) rfl rfl elt_23 OwnS.new (by repeat (first | exact .cons .here .nil | exact split_all | exact split_app | apply split_cons | apply split_skip)) (hS.src encI_len) (one_I _) (by omega) rfl rfl ?_
     intro v5 L5 hO5 _; rw [List.nil_append, Nat.zero_add] at hO5
     refine XO_nil ?_
     refine zD hD ?_
     refine XD_one 5 rfl (by kernel_rfl) ?_
     refine XO_buildSlice (ps := [(0, _)]) (m := [encI (d : Int)]) elt_23 rfl (.cons rfl (.nil)) rfl (by simp [encI_len]) (by decide) (by decide) rfl rfl (fun b_41 => ?_)
     refine XO_nil ?_
     refine zD hD ?_
     refine XD_one 6 rfl (by kernel_rfl) ?_
     refine XO_append (v := _) (ys := [(d : Int)].flatMap encI) (L := L5) rfl rfl elt_23 hO5 (by repeat (first | exact .cons .here .nil | exact split_all | exact split_app | apply split_cons | apply split_skip)) ⟨rfl, fun _ => rfl, by repeat (first | exact Cells.here | apply Cells.there | apply Cells.app)⟩ (one_I [(d : Int)]) (by omega) rfl rfl ?_
     intro v9 L9 hO9 _; rw [← List.flatMap_append] at hO9
     refine XO_nil ?_
     refine zD hD ?_
     refine XD_one 8 rfl (by kernel_rfl) ?_
     refine XO_freezeO hO9 encI_len (by decide) (by repeat (first | exact .cons .here .nil | exact split_all | exact split_app | apply split_cons | apply split_skip)) (fun I20 hI20 af20 cf20 ef20 hZ => ?_)
     subst ef20
     have hC := hC.mono hI20; have hS := hS.mono hI20; have hH := hH.mono hI20; have hb3 := hb3.mono hI20; have hks := hks.mono hI20; have hIc := hIc.trans hI20; have hB0 := hB0.trans hI20; have hKc10 := hKc10.trans hI20; have hD := hD.trans hI20
     refine XO_callM (cap := []) (vs := [_, _, _]) rfl rfl fun_66 .nil (ih f' rfl I20 hIc _ _ _ _ hZ (by rw [List.length_append, List.length_singleton]; omega) (fun e he => by rcases List.mem_append.1 he with he | he; exact hin e he; (rw [List.mem_singleton] at he; subst he; exact ⟨by omega, by omega⟩))) rfl rfl ?_
     rintro vv21 I21 L21 hI21 ⟨rfl, kh, kfd, rfl, hkq⟩
     have hC := hC.mono hI21; have hS := hS.mono hI21; have hH := hH.mono hI21; have hb3 := hb3.mono hI21; have hks := hks.mono hI21; have hZ := hZ.mono hI21; have hIc := hIc.trans hI21; have hB0 := hB0.trans hI21; have hKc10 := hKc10.trans hI21; have hD := hD.trans hI21
     rw [List.nil_append]
     refine XO_nil ?_
     refine zD hD ?_
     refine zT 9 rfl (ev_move rfl) hD ?_
     refine zT 10 rfl (ev_extract rfl rfl) hD ?_
     refine zT 11 rfl (ev_extract rfl rfl) hD ?_
     refine XD_one 13 rfl (by kernel_rfl) ?_
     refine XO_storeA rfl rfl szt_45 rfl rfl rfl rfl (by repeat (first | exact Upd.here | apply Upd.there | apply upd_app)) ?_
     refine XO_nil ?_
     refine zD hD ?_
     refine zT 14 rfl (ev_assign rfl) hD ?_
     refine XD_done (by kernel_rfl) ?_
     refine at_noP ?_
     exact at_met2 _ _ ⟨b_12, kh, kfd, rfl, hKc10, rfl, hkq⟩ (.cons rfl (.cons rfl (.cons rfl (.cons rfl (.cons rfl (.cons rfl (.cons rfl (.cons rfl .nil)))))))) (by repeat (first | exact .refl | refine .keep ?_ | refine .drop ?_))
    refine XO_buildSlice (ps := [(0, _)]) (m := [encI (d : Int)]) elt_23 rfl (.cons rfl (.nil)) rfl (by simp [encI_len]) (by decide) (by decide) rfl rfl (fun b_41 => ?_)
    refine XO_nil ?_
    refine zD hD ?_
    refine XD_one 3 rfl (by kernel_rfl) ?_
    refine XO_append (v := _) (ys := pl.flatMap encI) (L := [(b_37, _)]) rfl rfl elt_23 OwnS.new (by repeat (first | exact .cons .here .nil | exact split_all | exact split_app | apply split_cons | apply split_skip)) (hS.src encI_len) (one_I _) (by omega) rfl rfl ?_
    intro v5 L5 hO5 _; rw [List.nil_append, Nat.zero_add] at hO5
    refine XO_nil ?_
    refine zD hD ?_
    refine XD_one 6 rfl (by kernel_rfl) ?_
    refine XO_append (v := _) (ys := [(d : Int)].flatMap encI) (L := L5) rfl rfl elt_23 hO5 (by repeat (first | exact .cons .here .nil | exact split_all | exact split_app | apply split_cons | apply split_skip)) ⟨rfl, fun _ => rfl, by repeat (first | exact Cells.here | apply Cells.there | apply Cells.app)⟩ (one_I [(d : Int)]) (by omega) rfl rfl ?_
    intro v9 L9 hO9 _; rw [← List.flatMap_append] at hO9
    refine XO_nil ?_
    refine zD hD ?_
    refine XD_one 8 rfl (by kernel_rfl) ?_
    refine XO_freezeO hO9 encI_len (by decide) (by repeat (first | exact .cons .here .nil | exact split_all | exact split_app | apply split_cons | apply split_skip)) (fun I22 hI22 af22 cf22 ef22 hZ => ?_)
    subst ef22
    have hC := hC.mono hI22; have hS := hS.mono hI22; have hH := hH.mono hI22; have hb3 := hb3.mono hI22; have hks := hks.mono hI22; have hIc := hIc.trans hI22; have hB0 := hB0.trans hI22; have hKc10 := hKc10.trans hI22; have hD := hD.trans hI22
    refine XO_callM (cap := []) (vs := [_, _, _]) rfl rfl fun_66 .nil (ih f' rfl I22 hIc _ _ _ _ hZ (by rw [List.length_append, List.length_singleton]; omega) (fun e he => by rcases List.mem_append.1 he with he | he; exact hin e he; (rw [List.mem_singleton] at he; subst he; exact ⟨by omega, by omega⟩))) rfl rfl ?_
    rintro vv23 I23 L23 hI23 ⟨rfl, kh, kfd, rfl, hkq⟩
    have hC := hC.mono hI23; have hS := hS.mono hI23; have hH := hH.mono hI23; have hb3 := hb3.mono hI23; have hks := hks.mono hI23; have hZ := hZ.mono hI23; have hIc := hIc.trans hI23; have hB0 := hB0.trans hI23; have hKc10 := hKc10.trans hI23; have hD := hD.trans hI23
    rw [List.nil_append]
    refine XO_nil ?_
    refine zD hD ?_
    refine zT 9 rfl (ev_move rfl) hD ?_
    refine zT 10 rfl (ev_extract rfl rfl) hD ?_
    refine zT 11 rfl (ev_extract rfl rfl) hD ?_
    refine XD_one 13 rfl (by kernel_rfl) ?_
    refine XO_storeA rfl rfl szt_45 rfl rfl rfl rfl (by repeat (first | exact Upd.here | apply Upd.there | apply upd_app)) ?_
    refine XO_nil ?_
    refine zD hD ?_
    refine zT 14 rfl (ev_assign rfl) hD ?_
    refine XD_done (by kernel_rfl) ?_
    refine at_noP ?_
    exact at_met2 _ _ ⟨b_12, kh, kfd, rfl, hKc10, rfl, hkq⟩ (.cons rfl (.cons rfl (.cons rfl (.cons rfl (.cons rfl (.cons rfl (.cons rfl (.cons rfl .nil)))))))) (by repeat (first | exact .refl | refine .keep ?_ | refine .drop ?_))
   ·
    refine XO_buildSlice (ps := [(0, _)]) (m := [encI (d : Int)]) elt_23 rfl (.cons rfl (.nil)) rfl (by simp [encI_len]) (by decide) (by decide) rfl rfl (fun b_41 => ?_)
    refine XO_nil ?_
    refine zD hD ?_
    refine XD_two 1 12 rfl rfl (by kernel_rfl) ?_ ?_
    ·
     refine XO_buildSlice (ps := []) (m := []) elt_23 rfl (.nil) rfl (by simp) (by decide) (by decide) rfl rfl (fun b_37 => ?_)
     refine XO_nil ?_
     refine zD hD ?_
     refine XD_two 3 12 rfl rfl (by kernel_rfl) ?_ ?_
     ·
      refine XO_append (v := _) (ys := pl.flatMap encI) (L := [(b_37, _)]) rfl rfl elt_23 OwnS.new (by repeat (first | exact .cons .here .nil | exact split_all | exact split_app | apply split_cons | apply split_skip)) (hS.src encI_len) (one_I _) (by omega) rfl rfl ?_
      intro v5 L5 hO5 _; rw [List.nil_append, Nat.zero_add] at hO5
      refine XO_nil ?_
      refine zD hD ?_
      refine XD_two 6 12 rfl rfl (by kernel_rfl) ?_ ?_
      ·
       refine XO_append (v := _) (ys := [(d : Int)].flatMap encI) (L := L5) rfl rfl elt_23 hO5 (by repeat (first | exact .cons .here .nil | exact split_all | exact split_app | apply split_cons | apply split_skip)) ⟨rfl, fun _ => rfl, by repeat (first | exact Cells.here | apply Cells.there | apply Cells.app)⟩ (one_I [(d : Int)]) (by omega) rfl rfl ?_
       intro v9 L9 hO9 _; rw [← List.flatMap_append] at hO9
       refine XO_nil ?_
       refine zD hD ?_
       refine XD_two 8 12 rfl rfl (by kernel_rfl) ?_ ?_
       ·
        refine XO_freezeO hO9 encI_len (by decide) (by repeat (first | exact .cons .here .nil | exact split_all | exact split_app | apply split_cons | apply split_skip)) (fun I24 hI24 af24 cf24 ef24 hZ => ?_)
        subst ef24
        have hC := hC.mono hI24; have hS := hS.mono hI24; have hH := hH.mono hI24; have hb3 := hb3.mono hI24; have hks := hks.mono hI24; have hIc := hIc.trans hI24; have hB0 := hB0.trans hI24; have hKc10 := hKc10.trans hI24; have hD := hD.trans hI24
        refine XO_callM (cap := []) (vs := [_, _, _]) rfl rfl fun_66 .nil (ih f' rfl I24 hIc _ _ _ _ hZ (by rw [List.length_append, List.length_singleton]; omega) (fun e he => by rcases List.mem_append.1 he with he | he; exact hin e he; (rw [List.mem_singleton] at he; subst he; exact ⟨by omega, by omega⟩))) rfl rfl ?_
        rintro vv25 I25 L25 hI25 ⟨rfl, kh, kfd, rfl, hkq⟩
        have hC := hC.mono hI25; have hS := hS.mono hI25; have hH := hH.mono hI25; have hb3 := hb3.mono hI25; have hks := hks.mono hI25; have hZ := hZ.mono hI25; have hIc := hIc.trans hI25; have hB0 := hB0.trans hI25; have hKc10 := hKc10.trans hI25; have hD := hD.trans hI25
        rw [List.nil_append]
        refine XO_nil ?_
        refine zD hD ?_
        refine zT 9 rfl (ev_move rfl) hD ?_
        refine zT 10 rfl (ev_extract rfl rfl) hD ?_
        refine zT 11 rfl (ev_extract rfl rfl) hD ?_
        refine XD_one 12 rfl (by kernel_rfl) ?_
        refine XO_alloc zt_45 rfl rfl (fun b_12 => ?_)
        refine XO_nil ?_
        refine zD hD ?_
        refine XD_one 13 rfl (by kernel_rfl) ?_
        refine XO_storeA rfl rfl szt_45 rfl rfl rfl rfl (by repeat (first | exact Upd.here | apply Upd.there | apply upd_app)) ?_
        refine XO_nil ?_
        refine zD hD ?_
        refine zT 14 rfl (ev_assign rfl) hD ?_
        refine XD_done (by kernel_rfl) ?_
        refine at_noP ?_
        exact at_met2 _ _ ⟨b_12, kh, kfd, rfl, hKc10, rfl, hkq⟩ (.cons rfl (.cons rfl (.cons rfl (.cons rfl (.cons rfl (.cons rfl (.cons rfl (.cons rfl .nil)))))))) (by repeat (first | exact .refl | refine .keep ?_ | refine .drop ?_))
       refine XO_alloc zt_45 rfl rfl (fun b_12 => ?_)
       refine XO_nil ?_
       refine zD hD ?_
       refine XD_one 8 rfl (by kernel_rfl) ?_
       refine XO_freezeO hO9 encI_len (by decide) (by repeat (first | exact .cons .here .nil | exact split_all | exact split_app | apply split_cons | apply split_skip)) (fun I26 hI26 af26 cf26 ef26 hZ => ?_)
       subst ef26
       have hC := hC.mono hI26; have hS := hS.mono hI26; have hH := hH.mono hI26; have hb3 := hb3.mono hI26; have hks := hks.mono hI26; have hIc := hIc.trans hI26; have hB0 := hB0.trans hI26; have hKc10 := hKc10.trans hI26; have hD := hD.trans hI26
       refine XO_callM (cap := []) (vs := [_, _, _]) rfl rfl fun_66 .nil (ih f' rfl I26 hIc _ _ _ _ hZ (by rw [List.length_append, List.length_singleton]; omega) (fun e he => by rcases List.mem_append.1 he with he | he; exact hin e he; (rw [List.mem_singleton] at he; subst he; exact ⟨by omega, by omega⟩))) rfl rfl ?_
       rintro vv27 I27 L27 hI27 ⟨rfl, kh, kfd, rfl, hkq⟩
       have hC := hC.mono hI27; have hS := hS.mono hI27; have hH := hH.mono hI27; have hb3 := hb3.mono hI27; have hks := hks.mono hI27; have hZ := hZ.mono hI27; have hIc := hIc.trans hI27; have hB0 := hB0.trans hI27; have hKc10 := hKc10.trans hI27; have hD := hD.trans hI27
       rw [List.nil_append]
       refine XO_nil ?_
       refine zD hD ?_
       refine zT 9 rfl (ev_move rfl) hD ?_
       refine zT 10 rfl (ev_extract rfl rfl) hD ?_
       refine zT 11 rfl (ev_extract rfl rfl) hD ?_
       refine XD_one 13 rfl (by kernel_rfl) ?_
       refine XO_storeA rfl rfl szt_45 rfl rfl rfl rfl (by repeat (first | exact Upd.here | apply Upd.there | apply upd_app)) ?_
       refine XO_nil ?_
       refine zD hD ?_
       refine zT 14 rfl (ev_assign rfl) hD ?_
       refine XD_done (by kernel_rfl) ?_
       refine at_noP ?_
       exact at_met2 _ _ ⟨b_12, kh, kfd, rfl, hKc10, rfl, hkq⟩ (.cons rfl (.cons rfl (.cons rfl (.cons rfl (.cons rfl (.cons rfl (.cons rfl (.cons rfl .nil)))))))) (by repeat (first | exact .refl | refine .keep ?_ | refine .drop ?_))
      refine XO_alloc zt_45 rfl rfl (fun b_12 => ?_)
      refine XO_nil ?_
      refine zD hD ?_
      refine XD_one 6 rfl (by kernel_rfl) ?_
      refine XO_append (v := _) (ys := [(d : Int)].flatMap encI) (L := L5) rfl rfl elt_23 hO5 (by repeat (first | exact .cons .here .nil | exact split_all | exact split_app | apply split_cons | apply split_skip)) ⟨rfl, fun _ => rfl, by repeat (first | exact Cells.here | apply Cells.there | apply Cells.app)⟩ (one_I [(d : Int)]) (by omega) rfl rfl ?_
      intro v9 L9 hO9 _; rw [← List.flatMap_append] at hO9
      refine XO_nil ?_
      refine zD hD ?_
      refine XD_one 8 rfl (by kernel_rfl) ?_
      refine XO_freezeO hO9 encI_len (by decide) (by repeat (first | exact .cons .here .nil | exact split_all | exact split_app | apply split_cons | apply split_skip)) (fun I28 hI28 af28 cf28 ef28 hZ => ?_)
      subst ef28
      have hC := hC.mono hI28; have hS := hS.mono hI28; have hH := hH.mono hI28; have hb3 := hb3.mono hI28; have hks := hks.mono hI28; have hIc := hIc.trans hI28; have hB0 := hB0.trans hI28; have hKc10 := hKc10.trans hI28; have hD := hD.trans hI28
      refine XO_callM (cap := []) (vs := [_, _, _]) rfl rfl fun_66 .nil (ih f' rfl I28 hIc _ _ _ _ hZ (by rw [List.length_append, List.length_singleton]; omega) (fun e he => by rcases List.mem_append.1 he with he | he; exact hin e he; (rw [List.mem_singleton] at he; subst he; exact ⟨by omega, by omega⟩))) rfl rfl ?_
      rintro vv29 I29 L29 hI29 ⟨rfl, kh, kfd, rfl, hkq⟩
      have hC := hC.mono hI29; have hS := hS.mono hI29; have hH := hH.mono hI29; have hb3 := hb3.mono hI29; have hks := hks.mono hI29; have hZ := hZ.mono hI29; have hIc := hIc.trans hI29; have hB0 := hB0.trans hI29; have hKc10 := hKc10.trans hI29; have hD := hD.trans hI29
      rw [List.nil_append]
      refine XO_nil ?_
      refine zD hD ?_
      refine zT 9 rfl (ev_move rfl) hD ?_
      refine zT 10 rfl (ev_extract rfl rfl) hD ?_
      refine zT 11 rfl (ev_extract rfl rfl) hD ?_
      refine XD_one 13 rfl (by kernel_rfl) ?_
      refine XO_storeA rfl rfl szt_45 rfl rfl rfl rfl (by repeat (first | exact Upd.here | apply Upd.there | apply upd_app)) ?_
      refine XO_nil ?_
      refine zD hD ?_
      refine zT 14 rfl (ev_assign rfl) hD ?_
      refine XD_done (by kernel_rfl) ?_
      refine at_noP ?_
      exact at_met2 _ _ ⟨b_12, kh, kfd, rfl, hKc10, rfl, hkq⟩ (.cons rfl (.cons rfl (.cons rfl (.cons rfl (.cons rfl (.cons rfl (.cons rfl (.cons rfl .nil)))))))) (by repeat (first | exact .refl | refine .keep ?_ | refine .drop ?_))
     refine XO_alloc zt_45 rfl rfl (fun b_12 => ?_)
     refine XO_nil ?_
     refine zD hD ?_
     refine XD_one 3 rfl (by kernel_rfl) ?_
     refine XO_append (v := _) (ys := pl.flatMap encI) (L := [(b_37, _)]) rfl rfl elt_23 OwnS.new (by repeat (first | exact .cons .here .nil | exact split_all | exact split_app | apply split_cons | apply split_skip)) (hS.src encI_len) (one_I _) (by omega) rfl rfl ?_
     intro v5 L5 hO5 _; rw [List.nil_append, Nat.zero_add] at hO5
     refine XO_nil ?_
     refine zD hD ?_
     refine XD_one 6 rfl (by kernel_rfl) ?_
     refine XO_append (v := _) (ys := [(d : Int)].flatMap encI) (L := L5) rfl rfl elt_23 hO5 (by repeat (first | exact .cons .here .nil | exact split_all | exact split_app | apply split_cons | apply split_skip)) ⟨rfl, fun _ => rfl, by repeat (first | exact Cells.here | apply Cells.there | apply Cells.app)⟩ (one_I [(d : Int)]) (by omega) rfl rfl ?_
     intro v9 L9 hO9 _; rw [← List.flatMap_append] at hO9
     refine XO_nil ?_
     refine zD hD ?_
     refine XD_one 8 rfl (by kernel_rfl) ?_
     refine XO_freezeO hO9 encI_len (by decide) (by repeat (first | exact .cons .here .nil | exact split_all | exact split_app | apply split_cons | apply split_skip)) (fun I30 hI30 af30 cf30 ef30 hZ => ?_)
     subst ef30
     have hC := hC.mono hI30; have hS := hS.mono hI30; have hH := hH.mono hI30; have hb3 := hb3.mono hI30; have hks := hks.mono hI30; have hIc := hIc.trans hI30; have hB0 := hB0.trans hI30; have hKc10 := hKc10.trans hI30; have hD := hD.trans hI30
     refine XO_callM (cap := []) (vs := [_, _, _]) rfl rfl fun_66 .nil (ih f' rfl I30 hIc _ _ _ _ hZ (by rw [List.length_append, List.length_singleton]; omega) (fun e he => by rcases List.mem_append.1 he with he | he; exact hin e he; (rw [List.mem_singleton] at he; subst he; exact ⟨by omega, by omega⟩))) rfl rfl ?_
     rintro vv31 I31 L31 hI31 ⟨rfl, kh, kfd, rfl, hkq⟩
     have hC := hC.mono hI31; have hS := hS.mono hI31; have hH := hH.mono hI31; have hb3 := hb3.mono hI31; have hks := hks.mono hI31; have hZ := hZ.mono hI31; have hIc := hIc.trans hI31; have hB0 := hB0.trans hI31; have hKc10 := hKc10.trans hI31; have hD := hD.trans hI31
     rw [List.nil_append]
     refine XO_nil ?_
     refine zD hD ?_
     refine zT 9 rfl (ev_move rfl) hD ?_
     refine zT 10 rfl (ev_extract rfl rfl) hD ?_
     refine zT 11 rfl (ev_extract rfl rfl) hD ?_
     refine XD_one 13 rfl (by kernel_rfl) ?_
     refine XO_storeA rfl rfl szt_45 rfl rfl rfl rfl (by repeat (first | exact Upd.here | apply Upd.there | apply upd_app)) ?_
     refine XO_nil ?_
     refine zD hD ?_
     refine zT 14 rfl (ev_assign rfl) hD ?_
     refine XD_done (by kernel_rfl) ?_
     refine at_noP ?_
     exact at_met2 _ _ ⟨b_12, kh, kfd, rfl, hKc10, rfl, hkq⟩ (.cons rfl (.cons rfl (.cons rfl (.cons rfl (.cons rfl (.cons rfl (.cons rfl (.cons rfl .nil)))))))) (by repeat (first | exact .refl | refine .keep ?_ | refine .drop ?_))
    refine XO_alloc zt_45 rfl rfl (fun b_12 => ?_)
    refine XO_nil ?_
    refine zD hD ?_
    refine XD_one 1 rfl (by kernel_rfl) ?_
    refine XO_buildSlice (ps := []) (m := []) elt_23 rfl (.nil) rfl (by simp) (by decide) (by decide) rfl rfl (fun b_37 => ?_)
    refine XO_nil ?_
    refine zD hD ?_
    refine XD_one 3 rfl (by kernel_rfl) ?_
    refine XO_append (v := _) (ys := pl.flatMap encI) (L := [(b_37, _)]) rfl rfl elt_23 OwnS.new (by repeat (first | exact .cons .here .nil | exact split_all | exact split_app | apply split_cons | apply split_skip)) (hS.src encI_len) (one_I _) (by omega) rfl rfl ?_
    intro v5 L5 hO5 _; rw [List.nil_append, Nat.zero_add] at hO5
    refine XO_nil ?_
    refine zD hD ?_
    refine XD_one 6 rfl (by kernel_rfl) ?_
    refine XO_append (v := _) (ys := [(d : Int)].flatMap encI) (L := L5) rfl rfl elt_23 hO5 (by repeat (first | exact .cons .here .nil | exact split_all | exact split_app | apply split_cons | apply split_skip)) ⟨rfl, fun _ => rfl, by repeat (first | exact Cells.here | apply Cells.there | apply Cells.app)⟩ (one_I [(d : Int)]) (by omega) rfl rfl ?_
    intro v9 L9 hO9 _; rw [← List.flatMap_append] at hO9
    refine XO_nil ?_
    refine zD hD ?_
    refine XD_one 8 rfl (by kernel_rfl) ?_
    refine XO_freezeO hO9 encI_len (by decide) (by repeat (first | exact .cons .here .nil | exact split_all | exact split_app | apply split_cons | apply split_skip)) (fun I32 hI32 af32 cf32 ef32 hZ => ?_)
    subst ef32
    have hC := hC.mono hI32; have hS := hS.mono hI32; have hH := hH.mono hI32; have hb3 := hb3.mono hI32; have hks := hks.mono hI32; have hIc := hIc.trans hI32; have hB0 := hB0.trans hI32; have hKc10 := hKc10.trans hI32; have hD := hD.trans hI32
    refine XO_callM (cap := []) (vs := [_, _, _]) rfl rfl fun_66 .nil (ih f' rfl I32 hIc _ _ _ _ hZ (by rw [List.length_append, List.length_singleton]; omega) (fun e he => by rcases List.mem_append.1 he with he | he; exact hin e he; (rw [List.mem_singleton] at he; subst he; exact ⟨by omega, by omega⟩))) rfl rfl ?_
    rintro vv33 I33 L33 hI33 ⟨rfl, kh, kfd, rfl, hkq⟩
    have hC := hC.mono hI33; have hS := hS.mono hI33; have hH := hH.mono hI33; have hb3 := hb3.mono hI33; have hks := hks.mono hI33; have hZ := hZ.mono hI33; have hIc := hIc.trans hI33; have hB0 := hB0.trans hI33; have hKc10 := hKc10.trans hI33; have hD := hD.trans hI33
    rw [List.nil_append]
    refine XO_nil ?_
    refine zD hD ?_
    refine zT 9 rfl (ev_move rfl) hD ?_
    refine zT 10 rfl (ev_extract rfl rfl) hD ?_
    refine zT 11 rfl (ev_extract rfl rfl) hD ?_
    refine XD_one 13 rfl (by kernel_rfl) ?_
    refine XO_storeA rfl rfl szt_45 rfl rfl rfl rfl (by repeat (first | exact Upd.here | apply Upd.there | apply upd_app)) ?_
    refine XO_nil ?_
    refine zD hD ?_
    refine zT 14 rfl (ev_assign rfl) hD ?_
    refine XD_done (by kernel_rfl) ?_
    refine at_noP ?_
    exact at_met2 _ _ ⟨b_12, kh, kfd, rfl, hKc10, rfl, hkq⟩ (.cons rfl (.cons rfl (.cons rfl (.cons rfl (.cons rfl (.cons rfl (.cons rfl (.cons rfl .nil)))))))) (by repeat (first | exact .refl | refine .keep ?_ | refine .drop ?_))
   refine XO_alloc zt_45 rfl rfl (fun b_12 => ?_)
   refine XO_nil ?_
   refine zD hD ?_
   refine XD_two 1 5 rfl rfl (by kernel_rfl) ?_ ?_
   ·
    refine XO_buildSlice (ps := []) (m := []) elt_23 rfl (.nil) rfl (by simp) (by decide) (by decide) rfl rfl (fun b_37 => ?_)
    refine XO_nil ?_
    refine zD hD ?_
    refine XD_two 3 5 rfl rfl (by kernel_rfl) ?_ ?_
    ·
     refine XO_append (v := _) (ys := pl.flatMap encI) (L := [(b_37, _)]) rfl rfl elt_23 OwnS.new (by repeat (first | exact .cons .here .nil | exact split_all | exact split_app | apply split_cons | apply split_skip)) (hS.src encI_len) (one_I _) (by omega) rfl rfl ?_
     intro v5 L5 hO5 _; rw [List.nil_append, Nat.zero_add] at hO5
     refine XO_nil ?_
     refine zD hD ?_
     refine XD_one 5 rfl (by kernel_rfl) ?_
     refine XO_buildSlice (ps := [(0, _)]) (m := [encI (d : Int)]) elt_23 rfl (.cons rfl (.nil)) rfl (by simp [encI_len]) (by decide) (by decide) rfl rfl (fun b_41 => ?_)
     refine XO_nil ?_
     refine zD hD ?_
     refine XD_one 6 rfl (by kernel_rfl) ?_
     refine XO_append (v := _) (ys := [(d : Int)].flatMap encI) (L := L5) rfl rfl elt_23 hO5 (by repeat (first | exact .cons .here .nil | exact split_all | exact split_app | apply split_cons | apply split_skip)) ⟨rfl, fun _ => rfl, by repeat (first | exact Cells.here | apply Cells.there | apply Cells.app)⟩ (one_I [(d : Int)]) (by omega) rfl rfl ?_
     intro v9 L9 hO9 _; rw [← List.flatMap_append] at hO9
     refine XO_nil ?_
     refine zD hD ?_
     refine XD_one 8 rfl (by kernel_rfl) ?_
     refine XO_freezeO hO9 encI_len (by decide) (by repeat (first | exact .cons .here .nil | exact split_all | exact split_app | apply split_cons | apply split_skip)) (fun I34 hI34 af34 cf34 ef34 hZ => ?_)
     subst ef34
     have hC := hC.mono hI34; have hS := hS.mono hI34; have hH := hH.mono hI34; have hb3 := hb3.mono hI34; have hks := hks.mono hI34; have hIc := hIc.trans hI34; have hB0 := hB0.trans hI34; have hKc10 := hKc10.trans hI34; have hD := hD.trans hI34
     refine XO_callM (cap := []) (vs := [_, _, _]) rfl rfl fun_66 .nil (ih f' rfl I34 hIc _ _ _ _ hZ (by rw [List.length_append, List.length_singleton]; omega) (fun e he => by rcases List.mem_append.1 he with he | he; exact hin e he; (rw [List.mem_singleton] at he; subst he; exact ⟨by omega, by omega⟩))) rfl rfl ?_
     rintro vv35 I35 L35 hI35 ⟨rfl, kh, kfd, rfl, hkq⟩
     have hC := hC.mono hI35; have hS := hS.mono hI35; have hH := hH.mono hI35; have hb3 := hb3.mono hI35; have hks := hks.mono hI35; have hZ := hZ.mono hI35; have hIc := hIc.trans hI35; have hB0 := hB0.trans hI35; have hKc10 := hKc10.trans hI35; have hD := hD.trans hI35
     rw [List.nil_append]
     refine XO_nil ?_
     refine zD hD ?_
     refine zT 9 rfl (ev_move rfl) hD ?_
     refine zT 10 rfl (ev_extract rfl rfl) hD ?_
     refine zT 11 rfl (ev_extract rfl rfl) hD ?_
     refine XD_one 13 rfl (by kernel_rfl) ?_
     refine XO_storeA rfl rfl szt_45 rfl rfl rfl rfl (by repeat (first | exact Upd.here | apply Upd.there | apply upd_app)) ?_
     refine XO_nil ?_
     refine zD hD ?_
     refine zT 14 rfl (ev_assign rfl) hD ?_
     refine XD_done (by kernel_rfl) ?_
     refine at_noP ?_
     exact at_met2 _ _ ⟨b_12, kh, kfd, rfl, hKc10, rfl, hkq⟩ (.cons rfl (.cons rfl (.cons rfl (.cons rfl (.cons rfl (.cons rfl (.cons rfl (.cons rfl .nil)))))))) (by repeat (first | exact .refl | refine .keep ?_ | refine .drop ?_))
    refine XO_buildSlice (ps := [(0, _)]) (m := [encI (d : Int)]) elt_23 rfl (.cons rfl (.nil)) rfl (by simp [encI_len]) (by decide) (by decide) rfl rfl (fun b_41 => ?_)
    refine XO_nil ?_
    refine zD hD ?_
    refine XD_one 3 rfl (by kernel_rfl) ?_
    refine XO_append (v := _) (ys := pl.flatMap encI) (L := [(b_37, _)]) rfl rfl elt_23 OwnS.new (by repeat (first | exact .cons .here .nil | exact split_all | exact split_app | apply split_cons | apply split_skip)) (hS.src encI_len) (one_I _) (by omega) rfl rfl ?_
    intro v5 L5 hO5 _; rw [List.nil_append, Nat.zero_add] at hO5
    refine XO_nil ?_
    refine zD hD ?_
    refine XD_one 6 rfl (by kernel_rfl) ?_
    refine XO_append (v := _) (ys := [(d : Int)].flatMap encI) (L := L5) rfl rfl elt_23 hO5 (by repeat (first | exact .cons .here .nil | exact split_all | exact split_app | apply split_cons | apply split_skip)) ⟨rfl, fun _ => rfl, by repeat (first | exact Cells.here | apply Cells.there | apply Cells.app)⟩ (one_I [(d : Int)]) (by omega) rfl rfl ?_
    intro v9 L9 hO9 _; rw [← List.flatMap_append] at hO9
    refine XO_nil ?_
    refine zD hD ?_
    refine XD_one 8 rfl (by kernel_rfl) ?_
    refine XO_freezeO hO9 encI_len (by decide) (by repeat (first | exact .cons .here .nil | exact split_all | exact split_app | apply split_cons | apply split_skip)) (fun I36 hI36 af36 cf36 ef36 hZ => ?_)
    subst ef36
    have hC := hC.mono hI36; have hS := hS.mono hI36; have hH := hH.mono hI36; have hb3 := hb3.mono hI36; have hks := hks.mono hI36; have hIc := hIc.trans hI36; have hB0 := hB0.trans hI36; have hKc10 := hKc10.trans hI36; have hD := hD.trans hI36
    refine XO_callM (cap := []) (vs := [_, _, _]) rfl rfl fun_66 .nil (ih f' rfl I36 hIc _ _ _ _ hZ (by rw [List.length_append, List.length_singleton]; omega) (fun e he => by rcases List.mem_append.1 he with he | he; exact hin e he; (rw [List.mem_singleton] at he; subst he; exact ⟨by omega, by omega⟩))) rfl rfl ?_
    rintro vv37 I37 L37 hI37 ⟨rfl, kh, kfd, rfl, hkq⟩
    have hC := hC.mono hI37; have hS := hS.mono hI37; have hH := hH.mono hI37; have hb3 := hb3.mono hI37; have hks := hks.mono hI37; have hZ := hZ.mono hI37; have hIc := hIc.trans hI37; have hB0 := hB0.trans hI37; have hKc10 := hKc10.trans hI37; have hD := hD.trans hI37
    rw [List.nil_append]
    refine XO_nil ?_
    refine zD hD ?_
    refine zT 9 rfl (ev_move rfl) hD ?_
    refine zT 10 rfl (ev_extract rfl rfl) hD ?_
    refine zT 11 rfl (ev_extract rfl rfl) hD ?_
    refine XD_one 13 rfl (by kernel_rfl) ?_
    refine XO_storeA rfl rfl szt_45 rfl rfl rfl rfl (by repeat (first | exact Upd.here | apply Upd.there | apply upd_app)) ?_
    refine XO_nil ?_
    refine zD hD ?_
    refine zT 14 rfl (ev_assign rfl) hD ?_
    refine XD_done (by kernel_rfl) ?_
    refine at_noP ?_
    exact at_met2 _ _ ⟨b_12, kh, kfd, rfl, hKc10, rfl, hkq⟩ (.cons rfl (.cons rfl (.cons rfl (.cons rfl (.cons rfl (.cons rfl (.cons rfl (.cons rfl .nil)))))))) (by repeat (first | exact .refl | refine .keep ?_ | refine .drop ?_))
   refine XO_buildSlice (ps := [(0, _)]) (m := [encI (d : Int)]) elt_23 rfl (.cons rfl (.nil)) rfl (by simp [encI_len]) (by decide) (by decide) rfl rfl (fun b_41 => ?_)
   refine XO_nil ?_
   refine zD hD ?_
   refine XD_one 1 rfl (by kernel_rfl) ?_
   refine XO_buildSlice (ps := []) (m := []) elt_23 rfl (.nil) rfl (by simp) (by decide) (by decide) rfl rfl (fun b_37 => ?_)
   refine XO_nil ?_
   refine zD hD ?_
   refine XD_one 3 rfl (by kernel_rfl) ?_
   refine XO_append (v := _) (ys := pl.flatMap encI) (L := [(b_37, _)]) rfl rfl elt_23 OwnS.new (by repeat (first | exact .cons .here .nil | exact split_all | exact split_app | apply split_cons | apply split_skip)) (hS.src encI_len) (one_I _) (by omega) rfl rfl ?_
   intro v5 L5 hO5 _; rw [List.nil_append, Nat.zero_add] at hO5
   refine XO_nil ?_
   refine zD hD ?_
   refine XD_one 6 rfl (by kernel_rfl) ?_
   refine XO_append (v := _) (ys := [(d : Int)].flatMap encI) (L := L5) rfl rfl elt_23 hO5 (by repeat (first | exact .cons .here .nil | exact split_all | exact split_app | apply split_cons | apply split_skip)) ⟨rfl, fun _ => rfl, by repeat (first | exact Cells.here | apply Cells.there | apply Cells.app)⟩ (one_I [(d : Int)]) (by omega) rfl rfl ?_
   intro v9 L9 hO9 _; rw [← List.flatMap_append] at hO9
   refine XO_nil ?_
   refine zD hD ?_
   refine XD_one 8 rfl (by kernel_rfl) ?_
   refine XO_freezeO hO9 encI_len (by decide) (by repeat (first | exact .cons .here .nil | exact split_all | exact split_app | apply split_cons | apply split_skip)) (fun I38 hI38 af38 cf38 ef38 hZ => ?_)
   subst ef38
   have hC := hC.mono hI38; have hS := hS.mono hI38; have hH := hH.mono hI38; have hb3 := hb3.mono hI38; have hks := hks.mono hI38; have hIc := hIc.trans hI38; have hB0 := hB0.trans hI38; have hKc10 := hKc10.trans hI38; have hD := hD.trans hI38
   refine XO_callM (cap := []) (vs := [_, _, _]) rfl rfl fun_66 .nil (ih f' rfl I38 hIc _ _ _ _ hZ (by rw [List.length_append, List.length_singleton]; omega) (fun e he => by rcases List.mem_append.1 he with he | he; exact hin e he; (rw [List.mem_singleton] at he; subst he; exact ⟨by omega, by omega⟩))) rfl rfl ?_
   rintro vv39 I39 L39 hI39 ⟨rfl, kh, kfd, rfl, hkq⟩
   have hC := hC.mono hI39; have hS := hS.mono hI39; have hH := hH.mono hI39; have hb3 := hb3.mono hI39; have hks := hks.mono hI39; have hZ := hZ.mono hI39; have hIc := hIc.trans hI39; have hB0 := hB0.trans hI39; have hKc10 := hKc10.trans hI39; have hD := hD.trans hI39
   rw [List.nil_append]
   refine XO_nil ?_
   refine zD hD ?_
   refine zT 9 rfl (ev_move rfl) hD ?_
   refine zT 10 rfl (ev_extract rfl rfl) hD ?_
   refine zT 11 rfl (ev_extract rfl rfl) hD ?_
   refine XD_one 13 rfl (by kernel_rfl) ?_
   refine XO_storeA rfl rfl szt_45 rfl rfl rfl rfl (by repeat (first | exact Upd.here | apply Upd.there | apply upd_app)) ?_
   refine XO_nil ?_
   refine zD hD ?_
   refine zT 14 rfl (ev_assign rfl) hD ?_
   refine XD_done (by kernel_rfl) ?_
   refine at_noP ?_
   exact at_met2 _ _ ⟨b_12, kh, kfd, rfl, hKc10, rfl, hkq⟩ (.cons rfl (.cons rfl (.cons rfl (.cons rfl (.cons rfl (.cons rfl (.cons rfl (.cons rfl .nil)))))))) (by repeat (first | exact .refl | refine .keep ?_ | refine .drop ?_))
  rintro E J40 loc' ⟨b12, kh, kfd, rfl, hJ, rfl, hkq⟩
  have hC := hC.mono hJ; have hS := hS.mono hJ; have hH := hH.mono hJ; have hb3 := hb3.mono hJ; have hks := hks.mono hJ; have hIc := hIc.trans hJ; have hB0 := hB0.trans hJ
  refine X_seq ?_
  refine zR ?_
  refine zM ?_
  refine XO_v0 (ev_not rfl) rfl rfl rfl ?_
  refine zN ?_
  refine X_cond rfl (fun hc48 => ?_) (fun hc48 => ?_)
  ·
   have hkf : kfd = false := by simpa using hc48
   subst hkf
   obtain ⟨⟨x9, hx9⟩, hz9⟩ := hkq.no
   refine zR ?_
   refine XO_v0 (ev_buildL (ps := []) [_, _, _, _] plt_45 rfl rfl) rfl rfl rfl ?_
   refine XO_storeA rfl rfl szt_45 rfl rfl rfl rfl (by repeat (first | exact Upd.here | apply Upd.there | apply upd_app)) ?_
   refine zA ?_
   refine zN ?_
   refine X_ret ?_
   refine at_then_r ?_
   refine at_block_r ?_
   refine at_then_r ?_
   refine at_then_r ?_
   refine at_block_r ?_
   refine at_then_r ?_
   first
   | (have hg9 := hx9; exact at_ret2A rfl rfl rfl agt_45 (vs := encPH ⟨0, 0, 0, none, 0, 0⟩) (by repeat (first | exact Cells.here | apply Cells.there | apply Cells.app)) rfl (fun w hw => ⟨_, J40, [], rfl, hIc, hw.drop, RfQ.no (by rw [goQ_yes hgo hlt_d hg9])⟩))
  have hkf : kfd = true := by simpa using hc48
  subst hkf
  have hkn := hkq.yes
  have hkp := hkn.2
  refine X_skip ?_
  refine at_then ?_
  refine X_region ?_
  refine XO_v0 (ev_fieldAddr rfl fld_45_3) rfl rfl rfl ?_
  refine XO_v0 (ev_load rfl sct_35 (fun hg => by first | exact Cell.imm hb3 rfl | (repeat (first | exact Cell.here rfl | apply Cell.there | apply Cell.app)))) rfl rfl rfl ?_
  refine XO_v0 (ev_loadA rfl agt_45 (fun hg => by first | exact Cells.immC hb3 | (repeat (first | exact Cells.here | exact Cells.s0 (vs := [_, _, _, _]) rfl | apply Cells.there | apply Cells.app))) rfl) rfl rfl rfl ?_
  refine XO_buildSlice (ps := [(0, _)]) (m := [encPH kh]) elt_35 rfl (.cons rfl (.nil)) rfl (by simp [encPH_len]) (by decide) (by decide) rfl rfl (fun b_53 => ?_)
  refine XO_append (v := _) (ys := [kh].flatMap encPH) (L := L) rfl rfl elt_35 hO (by repeat (first | exact .cons .here .nil | exact split_all | exact split_app | apply split_cons | apply split_skip)) ⟨rfl, fun _ => rfl, by repeat (first | exact Cells.here | apply Cells.there | apply Cells.app)⟩ (one_PH _) (by omega) rfl rfl ?_
  intro v9 L9 hO9 _; rw [← List.flatMap_append] at hO9
  refine XO_v0 (ev_fieldAddr rfl fld_45_3) rfl rfl rfl ?_
  refine XO_store rfl rfl szt_35 hO9.one rfl (by repeat (first | exact Upd.here | apply Upd.there | apply upd_app)) rfl ?_
  refine XO_nil ?_
  refine at_block_n ?_
  refine at_then ?_
  refine X_region ?_
  refine zM ?_
  refine zB ?_
  refine zA ?_
  refine XO_nil ?_
  exact at_met2 _ _ ⟨last - (d + 1), by omega, d + 1, v9, q + 1, L9, _, _, rfl, rfl, hB0, rfl, by omega, hO9, by omega, hks.snoc hkp, goQ_no hgo hlt_d hkn.1⟩ (.cons rfl (.cons rfl (.cons rfl (.cons rfl (.cons rfl (.cons rfl .nil)))))) (by repeat (first | exact .refl | exact subL_left | refine subL_app ?_ | refine .drop ?_ | refine subL_add ?_))
 have hge_d : last ≤ d := by have h := hc32; simp at h; omega
 refine X_exit ?_
 refine at_then_e ?_
 refine at_then_e ?_
 refine at_block_hit ?_
 refine at_then ?_
 refine zR ?_
 refine XO_v0 (ev_loadA rfl agt_45 (fun hg => by first | exact Cells.immC hb3 | (repeat (first | exact Cells.here | exact Cells.s0 (vs := [_, _, _, _]) rfl | apply Cells.there | apply Cells.app))) rfl) rfl rfl rfl ?_
 refine XO_storeA rfl rfl szt_45 rfl rfl (show allOne [.int .i64 0, .int .i64 0, .int .i64 0, v] = true from by obtain ⟨va, vm, vc, hv⟩ := hO.val; rw [hv]; rfl) rfl (by repeat (first | exact Upd.here | apply Upd.there | apply upd_app)) ?_
 refine zA ?_
 refine zN ?_
 refine X_ret ?_
 first
 | (have hg9 := hge_d; exact at_freezeO hO encPH_len (by decide) (by repeat (first | exact .cons .here .nil | exact split_all | exact split_app | apply split_cons | apply split_skip)) (fun I7 hI7 a7 c7 e7 hS7 => by subst e7; exact at_ret2A rfl rfl rfl agt_45 (vs := encPH ⟨0, 0, 0, a7, q, c7⟩) (by repeat (first | exact Cells.here | apply Cells.there | apply Cells.app)) rfl (fun w hw => ⟨_, I7, [], rfl, hIc.trans hI7, hw.drop, RfQ.yes (by rw [goQ_end hgo hg9]) (by rw [goQ_end hgo hg9]; exact PrAt.node hS7 (hks.mono hI7))⟩)))
theorem w_ref {x : CH} {cr : Cr} (hr : rightF cr = true) (h16 : cr.days.length ≤ 16) (h8 : cr.ss.length ≤ 8) (hwh : ∀ s ∈ cr.ss, s.who.length ≤ 6) (hnd : ∀ s ∈ cr.ss, s.needs.length ≤ 100000) {last : Nat} (hl9 : last ≤ cr.days.length) : ∀ (f : Nat) {I : HMap} (_ : CrAt I x cr) {av : Option Addr} {n c : Nat} {pl : List Int} (_ : Sl I 1 encI av n c pl) (_ : pl.length + f = cr.ss.length) (_ : InR cr pl), RetM Tryz.prog 66 [encCHA x, .slice av n c, .int .i64 last] I [] (RfQ cr last f pl) := by
 intro f
 induction f with
 | zero => intro I hC av n c pl hS hlen hin; exact w_ref_step hC hr h16 h8 hwh hnd hl9 hS hlen hin (fun f' e => by omega)
 | succ f ih => intro I hC av n c pl hS hlen hin; exact w_ref_step hC hr h16 h8 hwh hnd hl9 hS hlen hin (fun f' e I' hI' av' n' c' pl' hS' hlen' hin' => by
   obtain rfl : f' = f := by omega
   exact ih (hC.mono hI') hS' hlen' hin')
end Go.Proofs.YtehkiccapbkhnaaGreat
end
section
namespace Go.Proofs.YtehkiccapbkhnaaGreat
open Go Go.Kn Go.Proofs
theorem fun_69 : Fun Tryz.prog 69 := .of Tryz.func69 (by kernel_rfl) (by kernel_rfl)
theorem w_rRefute {I : HMap} {x : CH} {cr : Cr} (hC : CrAt I x cr) (hnd : ∀ s ∈ cr.ss, s.needs.length ≤ 100000) (hwh9 : ∀ s ∈ cr.ss, s.who.length ≤ 100000) (last : Int) : RetM Tryz.prog 26 [encCHA x, .int .i64 last] I [] (RefQ cr last) := by
 intro g H w hw
 refine enter Tryz.func26 rfl Tryz.ntmps26 rfl hw ?_
 have hIc := HLe.refl I
 have hlD : cr.days.length = x.n := hC.1.len
 refine zR ?_
 refine XO_box rfl rfl rfl (fun b_2 => ?_)
 refine XO_alloc zt_45 rfl rfl (fun b_4 => ?_)
 refine zA ?_
 refine zA ?_
 refine zN ?_
 refine X_seq ?_
 refine X_freeze (.there .here) (fun I1 hI1 hb1 => ?_)
 have hC := hC.mono hI1; have hIc := hIc.trans hI1
 have hb2 := ImmC.of hb1
 refine X_region ?_
 refine XO_v0 (ev_loadA rfl agt_33 (fun hg => by first | exact Cells.immC hb2 | exact Cells.h0 | (repeat (first | exact Cells.here | exact Cells.s0 (vs := [_, _, _, _, _, _]) rfl | apply Cells.there | apply Cells.app))) rfl) rfl rfl rfl ?_
 refine XO_callV0 (cap := []) (vs := [_]) rfl rfl fun_21 (w_rChk hC hnd hwh9) rfl rfl ?_
 refine zA ?_
 refine zN ?_
 refine X_seq ?_
 refine zR ?_
 refine zM ?_
 refine zC ?_
 refine zN ?_
 refine X_cond rfl (fun hc13 => ?_) (fun hc13 => ?_)
 ·
  have hk0 : chkC cr ≠ 0 := by simpa using hc13
  refine zR ?_
  refine XO_v0 (ev_buildL (ps := []) [_, _, _, _] plt_45 rfl rfl) rfl rfl rfl ?_
  refine zM ?_
  refine XO_storeA rfl rfl szt_45 rfl rfl rfl rfl (by repeat (first | exact Upd.here | apply Upd.there | apply upd_app)) ?_
  refine zA ?_
  refine zA ?_
  refine zN ?_
  refine X_ret ?_
  refine at_then_r ?_
  exact at_ret3L rfl rfl rfl rfl (.ag agt_45 (vs := encPH ⟨0, 0, 0, none, 0, 0⟩) (by repeat (first | exact Cells.here | apply Cells.there | apply Cells.app)) rfl) (fun w hw => ⟨_, I1, [], rfl, hIc, hw.drop, RefQ.bad (lastE_1 hk0) hk0⟩)
 have hk0 : chkC cr = 0 := by simpa using hc13
 obtain ⟨hr, h16, h8, hwh, hpl9⟩ := chkC_0 hk0
 refine X_skip ?_
 refine at_then ?_
 refine X_seq ?_
 refine zR ?_
 refine zM ?_
 refine zC ?_
 refine zM ?_
 refine XO_pushF 2 rfl rfl rfl ?_
 refine XO_v1 (ev_move rfl) (.some rfl rfl rfl rfl gbf) rfl rfl rfl ?_
 refine XO_v1 (ev_fieldAddr rfl fld_33_0) (.some rfl rfl rfl rfl gbf) rfl rfl rfl ?_
 refine XO_v1 (ev_load rfl sct_23 (fun hg => by first | exact Cell.imm hb2 rfl | (repeat (first | exact Cell.here rfl | apply Cell.there | apply Cell.app)))) (.some rfl rfl rfl rfl gbf) rfl rfl rfl ?_
 refine XO_v1 (ev_lenS rfl slt_23) (.some rfl rfl rfl rfl gbf) rfl rfl rfl ?_
 refine XO_v1 (ev_cmp rfl rfl rfl) (.some rfl rfl rfl rfl gbf) rfl rfl rfl ?_
 refine XO_or0 rfl rfl rfl rfl rfl ?_
 refine zN ?_
 refine X_cond rfl (fun hc24 => ?_) (fun hc24 => ?_)
 ·
  have hb9 : (decide (last < 0) || decide (last > (cr.days.length : Int))) = true := by rw [hlD]; exact hc24
  refine zR ?_
  refine XO_v0 (ev_buildL (ps := []) [_, _, _, _] plt_45 rfl rfl) rfl rfl rfl ?_
  refine XO_storeA rfl rfl szt_45 rfl rfl rfl rfl (by repeat (first | exact Upd.here | apply Upd.there | apply upd_app)) ?_
  refine zA ?_
  refine zA ?_
  refine zN ?_
  refine X_ret ?_
  refine at_then_r ?_
  exact at_ret3L rfl rfl rfl rfl (.ag agt_45 (vs := encPH ⟨0, 0, 0, none, 0, 0⟩) (by repeat (first | exact Cells.here | apply Cells.there | apply Cells.app)) rfl) (fun w hw => ⟨_, I1, [], rfl, hIc, hw.drop, RefQ.bad (lastE_2 hk0 hb9) (by decide)⟩)
 have hb9 : (decide (last < 0) || decide (last > (cr.days.length : Int))) = false := by rw [hlD]; exact hc24
 have hl0 : 0 ≤ last ∧ last ≤ cr.days.length := by simp at hb9; omega
 refine X_skip ?_
 refine at_then ?_
 refine zR ?_
 refine XO_v0 (ev_loadA rfl agt_33 (fun hg => by first | exact Cells.immC hb2 | exact Cells.h0 | (repeat (first | exact Cells.here | exact Cells.s0 (vs := [_, _, _, _, _, _]) rfl | apply Cells.there | apply Cells.app))) rfl) rfl rfl rfl ?_
 refine zM ?_
 refine XO_callM (cap := []) (vs := [_, _, _]) rfl rfl fun_66 .nil ((show RetM Tryz.prog 66 [encCHA x, .slice none 0 0, .int .i64 last] I1 [] (RfQ cr last.toNat cr.ss.length []) from by have h9 := w_ref hr h16 h8 hwh hnd (last := last.toNat) (by omega) cr.ss.length hC (Sl.nil (av := none) (c := 0)) (by simp) (fun e he => by cases he); rw [Int.toNat_of_nonneg (by omega)] at h9; exact h9)) rfl rfl ?_
 rintro vv2 I2 L2 hI2 ⟨rfl, kh, kfd, rfl, hkq⟩
 have hC := hC.mono hI2; have hb2 := hb2.mono hI2; have hIc := hIc.trans hI2
 rw [List.nil_append]
 refine zM ?_
 refine XO_v0 (ev_extract rfl rfl) rfl rfl rfl ?_
 refine XO_v0 (ev_extract rfl rfl) rfl rfl rfl ?_
 refine XO_alloc zt_45 rfl rfl (fun b_8 => ?_)
 refine XO_storeA rfl rfl szt_45 rfl rfl rfl rfl (by repeat (first | exact Upd.here | apply Upd.there | apply upd_app)) ?_
 refine zA ?_
 refine zN (zR ?_)
 refine XO_v0 (ev_loadA rfl agt_45 (fun hg => by first | exact Cells.immC hb2 | exact Cells.h0 | (repeat (first | exact Cells.here | exact Cells.s0 (vs := [_, _, _, _]) rfl | apply Cells.there | apply Cells.app))) rfl) rfl rfl rfl ?_
 refine zM ?_
 refine XO_storeA rfl rfl szt_45 rfl rfl rfl rfl (by repeat (first | exact Upd.here | apply Upd.there | apply upd_app)) ?_
 refine zA ?_
 refine zA ?_
 refine zN ?_
 refine X_ret ?_
 exact at_ret3L rfl rfl rfl rfl (.ag agt_45 (vs := encPH kh) (by repeat (first | exact Cells.here | apply Cells.there | apply Cells.app)) rfl) (fun w hw => ⟨_, I2, [], rfl, hIc, hw.drop, RefQ.of (lastE_3 hk0 hb9) hkq⟩)
theorem w_rpr_step {I : HMap} {x : CH} {cr : Cr} (hC : CrAt I x cr) (hr : rightF cr = true) (h16 : cr.days.length ≤ 16) (h8 : cr.ss.length ≤ 8) (hwh : ∀ s ∈ cr.ss, s.who.length ≤ 6) (hnd : ∀ s ∈ cr.ss, s.needs.length ≤ 100000) {last : Int} (hl9 : last ≤ cr.days.length) {av : Option Addr} {n c : Nat} {pl : List Int} (hS : Sl I 1 encI av n c pl) (hl : pl.length ≤ cr.ss.length) (hin : InR cr pl) {r d wz : Int} {ks : List Pr} {ka : Option Addr} {kn kc : Nat} {hs9 : List PH} (hK : Sl I 4 encPH ka kn kc hs9) (hks : PrsAt I hs9 ks) (hkn : kn ≤ 100000) (ih : ∀ k ∈ ks, ∀ (I' : HMap), HLe I I' → ∀ (av' : Option Addr) (n' c' : Nat) (pl' : List Int), Sl I' 1 encI av' n' c' pl' → pl'.length ≤ cr.ss.length → InR cr pl' → ∀ (h' : PH), PrAt I' h' k → RetV Tryz.prog 69 [encCHA x, .slice av' n' c', .int .i64 last, encPHA h'] I' (.bool (provesF cr last k pl'))) : RetV Tryz.prog 69 [encCHA x, .slice av n c, .int .i64 last, encPHA ⟨r, d, wz, ka, kn, kc⟩] I (.bool (provesF cr last (.mk r d wz ks) pl)) := by
 intro g H w hw
 refine enter Tryz.func69 rfl Tryz.ntmps69 rfl hw ?_
 have hIc := HLe.refl I
 obtain ⟨hD, e1, e2, e3, e4, hss⟩ := id hC
 obtain ⟨hs, hH⟩ := hss
 have hSs := hH.1
 have hlD := hD.len
 have hlS := hH.len
 have hlP := hS.len
 have hlK : ks.length = kn := by rw [← hks.len]; exact hK.len
 refine zR ?_
 refine XO_box rfl rfl rfl (fun b_4 => ?_)
 refine XO_box rfl rfl rfl (fun b_7 => ?_)
 refine zA ?_
 refine zN ?_
 refine X_seq ?_
 refine X_seq ?_
 refine X_freeze .here (fun I1 hI1 hb1 => ?_)
 have hC := hC.mono hI1; have hS := hS.mono hI1; have hH := hH.mono hI1; have hK := hK.mono hI1; have hks := hks.mono hI1; have hIc := hIc.trans hI1
 have hb7 := ImmC.of hb1
 refine X_freeze .here (fun I2 hI2 hb2 => ?_)
 have hC := hC.mono hI2; have hS := hS.mono hI2; have hH := hH.mono hI2; have hK := hK.mono hI2; have hks := hks.mono hI2; have hb7 := hb7.mono hI2; have hIc := hIc.trans hI2
 have hb4 := ImmC.of hb2
 refine X_region ?_
 refine XO_v0 (ev_fieldAddr rfl fld_45_0) rfl rfl rfl ?_
 refine XO_v0 (ev_load rfl sct_3 (fun hg => by first | exact Cell.imm hb7 rfl | exact Cell.imm hb4 rfl | (repeat (first | exact Cell.here rfl | apply Cell.there | apply Cell.app)))) rfl rfl rfl ?_
 refine zC ?_
 refine zN ?_
 refine X_cond rfl (fun hc13 => ?_) (fun hc13 => ?_)
 ·
  have hr0 : (r != 0) = true := hc13
  refine zR ?_
  refine XO_v0 (ev_fieldAddr rfl fld_45_3) rfl rfl rfl ?_
  refine XO_v0 (ev_load rfl sct_35 (fun hg => by first | exact Cell.imm hb7 rfl | exact Cell.imm hb4 rfl | (repeat (first | exact Cell.here rfl | apply Cell.there | apply Cell.app)))) rfl rfl rfl ?_
  refine XO_v0 (ev_lenS rfl slt_35) rfl rfl rfl ?_
  refine zC ?_
  refine zM ?_
  refine XO_pushT 4 rfl rfl rfl ?_
  refine XO_v1 (ev_fieldAddr rfl fld_45_1) (.some rfl rfl rfl rfl gbt) rfl rfl rfl ?_
  refine XO_v1 (ev_load rfl sct_3 (fun hg => by first | exact Cell.imm hb7 rfl | exact Cell.imm hb4 rfl | (repeat (first | exact Cell.here rfl | apply Cell.there | apply Cell.app)))) (.some rfl rfl rfl rfl gbt) rfl rfl rfl ?_
  refine XO_v1 (ev_cmp rfl rfl rfl) (.some rfl rfl rfl rfl gbt) rfl rfl rfl ?_
  refine XO_and0 rfl rfl rfl rfl rfl ?_
  refine zM ?_
  refine XO_pushT 9 rfl rfl rfl ?_
  refine XO_v1 (ev_fieldAddr rfl fld_45_1) (.some rfl rfl rfl rfl gbt) rfl rfl rfl ?_
  refine XO_v1 (ev_load rfl sct_3 (fun hg => by first | exact Cell.imm hb7 rfl | exact Cell.imm hb4 rfl | (repeat (first | exact Cell.here rfl | apply Cell.there | apply Cell.app)))) (.some rfl rfl rfl rfl gbt) rfl rfl rfl ?_
  refine XO_v1 (ev_fieldAddr rfl fld_33_0) (.some rfl rfl rfl rfl gbt) rfl rfl rfl ?_
  refine XO_v1 (ev_load rfl sct_23 (fun hg => by first | exact Cell.imm hb7 rfl | exact Cell.imm hb4 rfl | (repeat (first | exact Cell.here rfl | apply Cell.there | apply Cell.app)))) (.some rfl rfl rfl rfl gbt) rfl rfl rfl ?_
  refine XO_v1 (ev_lenS rfl slt_23) (.some rfl rfl rfl rfl gbt) rfl rfl rfl ?_
  refine XO_v1 (ev_cmp rfl rfl rfl) (.some rfl rfl rfl rfl gbt) rfl rfl rfl ?_
  refine XO_and0 rfl rfl rfl rfl rfl ?_
  refine zM ?_
  refine XO_pushT 17 rfl rfl rfl ?_
  refine XO_v1 (ev_fieldAddr rfl fld_45_2) (.some rfl rfl rfl rfl gbt) rfl rfl rfl ?_
  refine XO_v1 (ev_load rfl sct_3 (fun hg => by first | exact Cell.imm hb7 rfl | exact Cell.imm hb4 rfl | (repeat (first | exact Cell.here rfl | apply Cell.there | apply Cell.app)))) (.some rfl rfl rfl rfl gbt) rfl rfl rfl ?_
  refine XO_v1 (ev_cmp rfl rfl rfl) (.some rfl rfl rfl rfl gbt) rfl rfl rfl ?_
  refine XO_and0 rfl rfl rfl rfl rfl ?_
  refine zM ?_
  refine XO_pushT 22 rfl rfl rfl ?_
  refine XO_v1 (ev_fieldAddr rfl fld_45_2) (.some rfl rfl rfl rfl gbt) rfl rfl rfl ?_
  refine XO_v1 (ev_load rfl sct_3 (fun hg => by first | exact Cell.imm hb7 rfl | exact Cell.imm hb4 rfl | (repeat (first | exact Cell.here rfl | apply Cell.there | apply Cell.app)))) (.some rfl rfl rfl rfl gbt) rfl rfl rfl ?_
  refine XO_v1 (ev_cmp rfl rfl rfl) (.some rfl rfl rfl rfl gbt) rfl rfl rfl ?_
  refine XO_and0 rfl rfl rfl rfl rfl ?_
  refine zM ?_
  refine XO_pushT 27 rfl rfl rfl ?_
  refine XO_v1 (ev_loadA rfl agt_33 (fun hg => by first | exact Cells.immC hb4 | exact Sl.getA hK hkh | (repeat (first | exact Cells.here | exact Cells.s0 (vs := [_, _, _, _, _, _]) rfl | apply Cells.there | apply Cells.app))) rfl) (.some rfl rfl rfl rfl gbt) rfl rfl rfl ?_
  refine XO_v1 (ev_move rfl) (.some rfl rfl rfl rfl gbt) rfl rfl rfl ?_
  refine XO_v1 (ev_fieldAddr rfl fld_45_0) (.some rfl rfl rfl rfl gbt) rfl rfl rfl ?_
  refine XO_v1 (ev_load rfl sct_3 (fun hg => by first | exact Cell.imm hb7 rfl | exact Cell.imm hb4 rfl | (repeat (first | exact Cell.here rfl | apply Cell.there | apply Cell.app)))) (.some rfl rfl rfl rfl gbt) rfl rfl rfl ?_
  refine XO_v1 (ev_fieldAddr rfl fld_45_1) (.some rfl rfl rfl rfl gbt) rfl rfl rfl ?_
  refine XO_v1 (ev_load rfl sct_3 (fun hg => by first | exact Cell.imm hb7 rfl | exact Cell.imm hb4 rfl | (repeat (first | exact Cell.here rfl | apply Cell.there | apply Cell.app)))) (.some rfl rfl rfl rfl gbt) rfl rfl rfl ?_
  refine XO_v1 (ev_fieldAddr rfl fld_45_2) (.some rfl rfl rfl rfl gbt) rfl rfl rfl ?_
  refine XO_v1 (ev_load rfl sct_3 (fun hg => by first | exact Cell.imm hb7 rfl | exact Cell.imm hb4 rfl | (repeat (first | exact Cell.here rfl | apply Cell.there | apply Cell.app)))) (.some rfl rfl rfl rfl gbt) rfl rfl rfl ?_
  refine XO_callV1 (cap := []) (vs := [_, _, _, _, _]) rfl rfl fun_95 (fun hg => w_rBrk hC hr h16 h8 hwh hnd hS hl hin r d wz (by simp [conj] at hg; omega)) (.some rfl rfl rfl rfl gbt) rfl rfl ?_
  refine XO_and0 rfl rfl rfl rfl rfl ?_
  refine zA ?_
  refine zN ?_
  refine X_ret ?_
  refine at_then_r ?_
  exact at_ret1 rfl rfl (fun w hw => ⟨by rw [← proves_rule hr hlK hr0, hlD], (hw.mono hIc).drop⟩)
 have hr0 : (r != 0) = false := hc13
 refine X_skip ?_
 refine at_then ?_
 refine X_seq ?_
 refine zR ?_
 refine XO_v0 (ev_fieldAddr rfl fld_45_1) rfl rfl rfl ?_
 refine XO_v0 (ev_load rfl sct_3 (fun hg => by first | exact Cell.imm hb7 rfl | exact Cell.imm hb4 rfl | (repeat (first | exact Cell.here rfl | apply Cell.there | apply Cell.app)))) rfl rfl rfl ?_
 refine zC ?_
 refine zM ?_
 refine XO_pushF 3 rfl rfl rfl ?_
 refine XO_v1 (ev_fieldAddr rfl fld_45_2) (.some rfl rfl rfl rfl gbf) rfl rfl rfl ?_
 refine XO_v1 (ev_load rfl sct_3 (fun hg => by first | exact Cell.imm hb7 rfl | exact Cell.imm hb4 rfl | (repeat (first | exact Cell.here rfl | apply Cell.there | apply Cell.app)))) (.some rfl rfl rfl rfl gbf) rfl rfl rfl ?_
 refine XO_v1 (ev_cmp rfl rfl rfl) (.some rfl rfl rfl rfl gbf) rfl rfl rfl ?_
 refine XO_or0 rfl rfl rfl rfl rfl ?_
 refine zM ?_
 refine XO_pushF 8 rfl rfl rfl ?_
 refine XO_v1 (ev_move rfl) (.some rfl rfl rfl rfl gbf) rfl rfl rfl ?_
 refine XO_v1 (ev_lenS rfl slt_23) (.some rfl rfl rfl rfl gbf) rfl rfl rfl ?_
 refine XO_v1 (ev_fieldAddr rfl fld_33_5) (.some rfl rfl rfl rfl gbf) rfl rfl rfl ?_
 refine XO_v1 (ev_load rfl sct_27 (fun hg => by first | exact Cell.imm hb7 rfl | exact Cell.imm hb4 rfl | (repeat (first | exact Cell.here rfl | apply Cell.there | apply Cell.app)))) (.some rfl rfl rfl rfl gbf) rfl rfl rfl ?_
 refine XO_v1 (ev_lenS rfl slt_27) (.some rfl rfl rfl rfl gbf) rfl rfl rfl ?_
 refine XO_v1 (ev_cmp rfl rfl rfl) (.some rfl rfl rfl rfl gbf) rfl rfl rfl ?_
 refine XO_or0 rfl rfl rfl rfl rfl ?_
 refine zM ?_
 refine XO_pushF 16 rfl rfl rfl ?_
 refine XO_v1 (ev_fieldAddr rfl fld_45_3) (.some rfl rfl rfl rfl gbf) rfl rfl rfl ?_
 refine XO_v1 (ev_load rfl sct_35 (fun hg => by first | exact Cell.imm hb7 rfl | exact Cell.imm hb4 rfl | (repeat (first | exact Cell.here rfl | apply Cell.there | apply Cell.app)))) (.some rfl rfl rfl rfl gbf) rfl rfl rfl ?_
 refine XO_v1 (ev_lenS rfl slt_35) (.some rfl rfl rfl rfl gbf) rfl rfl rfl ?_
 refine XO_v1 (ev_move rfl) (.some rfl rfl rfl rfl gbf) rfl rfl rfl ?_
 refine XO_v1 (ev_cmp rfl rfl rfl) (.some rfl rfl rfl rfl gbf) rfl rfl rfl ?_
 refine XO_or0 rfl rfl rfl rfl rfl ?_
 refine zN ?_
 refine X_cond rfl (fun hc74 => ?_) (fun hc74 => ?_)
 ·
  have hq : (d != 0 || wz != 0 || (pl.length == cr.ss.length) || ((ks.length : Int) != last)) = true := by rw [hlK, hlP, hlS]; rw [nat_beq]; exact hc74
  refine zR ?_
  refine zA ?_
  refine zN ?_
  refine X_ret ?_
  refine at_then_r ?_
  first
  | exact at_ret1 rfl rfl (fun w hw => ⟨by rw [provesF, if_neg (by rw [hr0]; decide), if_pos hq], (hw.mono hIc).drop⟩)
 have hq : (d != 0 || wz != 0 || (pl.length == cr.ss.length) || ((ks.length : Int) != last)) = false := by rw [hlK, hlP, hlS]; rw [nat_beq]; exact hc74
 have hq2 : pl.length ≠ cr.ss.length ∧ (ks.length : Int) = last := by simp only [Bool.or_eq_false_iff, beq_eq_false_iff_ne, bne_eq_false_iff_eq] at hq; exact ⟨hq.1.2, hq.2⟩
 have hq3 := hq2.1
 have hq4 := hq2.2
 refine X_skip ?_
 refine at_then ?_
 refine X_seq ?_
 refine zR ?_
 refine zA ?_
 refine zN ?_
 refine X_block ?_
 refine X_loopT [(1, _), (2, _), (4, _), (7, _)] (.cons rfl (.cons rfl (.cons rfl (.cons rfl .nil)))) (fun T L0 mz E I' loc' => ∃ (k : Nat), mz = kn - k ∧ E = (9, .int .i64 k) :: T ∧ HLe I2 I' ∧ L0 = loc' ∧ k ≤ kn ∧ provesL cr last ks 0 pl = provesL cr last (ks.drop k) k pl) _ _ _ _ ⟨0, rfl, rfl, HLe.refl _, rfl, Nat.zero_le _, rfl⟩ (.cons rfl (.cons rfl (.cons rfl (.cons rfl (.cons rfl .nil))))) (HLe.refl _) rfl ?_
 rintro mz E J3 loc' ⟨k, rfl, rfl, hJ, rfl, hk, hpv⟩
 have hC := hC.mono hJ; have hS := hS.mono hJ; have hH := hH.mono hJ; have hK := hK.mono hJ; have hks := hks.mono hJ; have hb7 := hb7.mono hJ; have hb4 := hb4.mono hJ; have hIc := hIc.trans hJ
 have hB0 := hJ
 refine X_seq ?_
 refine zR ?_
 refine zM ?_
 refine zM ?_
 refine zC ?_
 refine zN ?_
 refine X_cond rfl (fun hc77 => ?_) (fun hc77 => ?_)
 ·
  have hlt_k : k < kn := by have h := hc77; simp at h; omega
  obtain ⟨kh, hkh⟩ := hK.at hlt_k
  obtain ⟨kk, hkk, hka⟩ := hks.at k kh hkh
  refine X_skip ?_
  refine at_then ?_
  refine X_seq ?_
  refine X_block ?_
  refine X_cutT [(1, _), (2, _), (4, _), (7, _), (9, _)] (.cons rfl (.cons rfl (.cons rfl (.cons rfl (.cons rfl .nil))))) (fun T L0 E I' loc' => E = (10, .bool (provesF cr last kk (pl ++ [(k : Int)]))) :: T ∧ HLe J3 I' ∧ L0 = loc' ∧ True) ?_ ?_
  ·
   have hKc8 := HLe.refl J3
   have hD := HLe.refl J3
   refine X_noP ?_
   refine X_drawS J3 [] mixed ?_
   refine zT 0 rfl (ev_loadA rfl agt_33 (fun hg => by first | exact Cells.immC hb4 | exact Sl.getA hK hkh | (repeat (first | exact Cells.here | exact Cells.s0 (vs := [_, _, _, _, _, _]) rfl | apply Cells.there | apply Cells.app))) rfl) hD ?_
   refine zT 2 rfl (ev_move rfl) hD ?_
   refine zT 4 rfl (ev_move rfl) hD ?_
   refine zT 7 rfl (ev_move rfl) hD ?_
   refine zT 8 rfl (ev_fieldAddr rfl fld_45_3) hD ?_
   refine zT 9 rfl (ev_load rfl sct_35 (fun hg => by first | exact Cell.imm hb7 rfl | exact Cell.imm hb4 rfl | (repeat (first | exact Cell.here rfl | apply Cell.there | apply Cell.app)))) hD ?_
   refine zT 10 rfl (ev_move rfl) hD ?_
   refine zT 11 rfl (ev_indexSl rfl rfl slt_35 hK (fun hg => by first | omega | (simp [conj] at hg; omega) | (dsimp only; omega) | (simp [conj] at hg; dsimp only at *; omega))) hD ?_
   refine zT 12 rfl (ev_loadA rfl agt_45 (fun hg => by first | exact Cells.immC hb4 | exact Sl.getA hK hkh | (repeat (first | exact Cells.here | exact Cells.s0 (vs := [_, _, _, _]) rfl | apply Cells.there | apply Cells.app))) rfl) hD ?_
   refine XD_two 1 5 rfl rfl (by kernel_rfl) ?_ ?_
   ·
    refine XO_buildSlice (ps := []) (m := []) elt_23 rfl (.nil) rfl (by simp) (by decide) (by decide) rfl rfl (fun b_81 => ?_)
    refine XO_nil ?_
    refine zD hD ?_
    refine XD_two 3 5 rfl rfl (by kernel_rfl) ?_ ?_
    ·
     refine XO_append (v := _) (ys := pl.flatMap encI) (L := [(b_81, _)]) rfl rfl elt_23 OwnS.new (by repeat (first | exact .cons .here .nil | exact split_all | exact split_app | apply split_cons | apply split_skip)) (hS.src encI_len) (one_I _) (by omega) rfl rfl ?_
     intro v5 L5 hO5 _; rw [List.nil_append, Nat.zero_add] at hO5
     refine XO_nil ?_
     refine zD hD ?_
     refine XD_one 5 rfl (by kernel_rfl) ?_
     refine XO_buildSlice (ps := [(0, _)]) (m := [encI (k : Int)]) elt_23 rfl (.cons rfl (.nil)) rfl (by simp [encI_len]) (by decide) (by decide) rfl rfl (fun b_85 => ?_)
     refine XO_nil ?_
     refine zD hD ?_
     refine XD_one 6 rfl (by kernel_rfl) ?_
     refine XO_append (v := _) (ys := [(k : Int)].flatMap encI) (L := L5) rfl rfl elt_23 hO5 (by repeat (first | exact .cons .here .nil | exact split_all | exact split_app | apply split_cons | apply split_skip)) ⟨rfl, fun _ => rfl, by repeat (first | exact Cells.here | apply Cells.there | apply Cells.app)⟩ (one_I [(k : Int)]) (by omega) rfl rfl ?_
     intro v9 L9 hO9 _; rw [← List.flatMap_append] at hO9
     refine XO_nil ?_
     refine zD hD ?_
     refine XD_one 13 rfl (by kernel_rfl) ?_
     refine XO_freezeO hO9 encI_len (by decide) (by repeat (first | exact .cons .here .nil | exact split_all | exact split_app | apply split_cons | apply split_skip)) (fun I4 hI4 af4 cf4 ef4 hZ => ?_)
     subst ef4
     have hC := hC.mono hI4; have hS := hS.mono hI4; have hH := hH.mono hI4; have hK := hK.mono hI4; have hks := hks.mono hI4; have hb7 := hb7.mono hI4; have hb4 := hb4.mono hI4; have hka := hka.mono hI4; have hIc := hIc.trans hI4; have hB0 := hB0.trans hI4; have hKc8 := hKc8.trans hI4; have hD := hD.trans hI4
     refine XO_callV0 (cap := []) (vs := [_, _, _, _]) rfl rfl fun_69 (ih kk (List.mem_of_getElem? hkk) _ hIc _ _ _ _ hZ (by rw [List.length_append, List.length_singleton]; omega) (fun e he => by rcases List.mem_append.1 he with he | he; exact hin e he; (rw [List.mem_singleton] at he; subst he; exact ⟨by omega, by omega⟩)) kh hka) rfl rfl ?_
     refine XO_nil ?_
     refine zD hD ?_
     refine zT 14 rfl (ev_assign rfl) hD ?_
     refine XD_done (by kernel_rfl) ?_
     refine at_noP ?_
     exact at_met2 _ _ ⟨rfl, hKc8, rfl, trivial⟩ (.cons rfl (.cons rfl (.cons rfl (.cons rfl (.cons rfl (.cons rfl .nil)))))) (by repeat (first | exact .refl | exact subL_left | refine subL_app ?_ | refine .drop ?_ | refine subL_add ?_))
    refine XO_buildSlice (ps := [(0, _)]) (m := [encI (k : Int)]) elt_23 rfl (.cons rfl (.nil)) rfl (by simp [encI_len]) (by decide) (by decide) rfl rfl (fun b_85 => ?_)
    refine XO_nil ?_
    refine zD hD ?_
    refine XD_one 3 rfl (by kernel_rfl) ?_
    refine XO_append (v := _) (ys := pl.flatMap encI) (L := [(b_81, _)]) rfl rfl elt_23 OwnS.new (by repeat (first | exact .cons .here .nil | exact split_all | exact split_app | apply split_cons | apply split_skip)) (hS.src encI_len) (one_I _) (by omega) rfl rfl ?_
    intro v5 L5 hO5 _; rw [List.nil_append, Nat.zero_add] at hO5
    refine XO_nil ?_
    refine zD hD ?_
    refine XD_one 6 rfl (by kernel_rfl) ?_
    refine XO_append (v := _) (ys := [(k : Int)].flatMap encI) (L := L5) rfl rfl elt_23 hO5 (by repeat (first | exact .cons .here .nil | exact split_all | exact split_app | apply split_cons | apply split_skip)) ⟨rfl, fun _ => rfl, by repeat (first | exact Cells.here | apply Cells.there | apply Cells.app)⟩ (one_I [(k : Int)]) (by omega) rfl rfl ?_
    intro v9 L9 hO9 _; rw [← List.flatMap_append] at hO9
    refine XO_nil ?_
    refine zD hD ?_
    refine XD_one 13 rfl (by kernel_rfl) ?_
    refine XO_freezeO hO9 encI_len (by decide) (by repeat (first | exact .cons .here .nil | exact split_all | exact split_app | apply split_cons | apply split_skip)) (fun I5 hI5 af5 cf5 ef5 hZ => ?_)
    subst ef5
    have hC := hC.mono hI5; have hS := hS.mono hI5; have hH := hH.mono hI5; have hK := hK.mono hI5; have hks := hks.mono hI5; have hb7 := hb7.mono hI5; have hb4 := hb4.mono hI5; have hka := hka.mono hI5; have hIc := hIc.trans hI5; have hB0 := hB0.trans hI5; have hKc8 := hKc8.trans hI5; have hD := hD.trans hI5
    refine XO_callV0 (cap := []) (vs := [_, _, _, _]) rfl rfl fun_69 (ih kk (List.mem_of_getElem? hkk) _ hIc _ _ _ _ hZ (by rw [List.length_append, List.length_singleton]; omega) (fun e he => by rcases List.mem_append.1 he with he | he; exact hin e he; (rw [List.mem_singleton] at he; subst he; exact ⟨by omega, by omega⟩)) kh hka) rfl rfl ?_
    refine XO_nil ?_
    refine zD hD ?_
    refine zT 14 rfl (ev_assign rfl) hD ?_
    refine XD_done (by kernel_rfl) ?_
    refine at_noP ?_
    exact at_met2 _ _ ⟨rfl, hKc8, rfl, trivial⟩ (.cons rfl (.cons rfl (.cons rfl (.cons rfl (.cons rfl (.cons rfl .nil)))))) (by repeat (first | exact .refl | exact subL_left | refine subL_app ?_ | refine .drop ?_ | refine subL_add ?_))
   refine XO_buildSlice (ps := [(0, _)]) (m := [encI (k : Int)]) elt_23 rfl (.cons rfl (.nil)) rfl (by simp [encI_len]) (by decide) (by decide) rfl rfl (fun b_85 => ?_)
   refine XO_nil ?_
   refine zD hD ?_
   refine XD_one 1 rfl (by kernel_rfl) ?_
   refine XO_buildSlice (ps := []) (m := []) elt_23 rfl (.nil) rfl (by simp) (by decide) (by decide) rfl rfl (fun b_81 => ?_)
   refine XO_nil ?_
   refine zD hD ?_
   refine XD_one 3 rfl (by kernel_rfl) ?_
   refine XO_append (v := _) (ys := pl.flatMap encI) (L := [(b_81, _)]) rfl rfl elt_23 OwnS.new (by repeat (first | exact .cons .here .nil | exact split_all | exact split_app | apply split_cons | apply split_skip)) (hS.src encI_len) (one_I _) (by omega) rfl rfl ?_
   intro v5 L5 hO5 _; rw [List.nil_append, Nat.zero_add] at hO5
   refine XO_nil ?_
   refine zD hD ?_
   refine XD_one 6 rfl (by kernel_rfl) ?_
   refine XO_append (v := _) (ys := [(k : Int)].flatMap encI) (L := L5) rfl rfl elt_23 hO5 (by repeat (first | exact .cons .here .nil | exact split_all | exact split_app | apply split_cons | apply split_skip)) ⟨rfl, fun _ => rfl, by repeat (first | exact Cells.here | apply Cells.there | apply Cells.app)⟩ (one_I [(k : Int)]) (by omega) rfl rfl ?_
   intro v9 L9 hO9 _; rw [← List.flatMap_append] at hO9
   refine XO_nil ?_
   refine zD hD ?_
   refine XD_one 13 rfl (by kernel_rfl) ?_
   refine XO_freezeO hO9 encI_len (by decide) (by repeat (first | exact .cons .here .nil | exact split_all | exact split_app | apply split_cons | apply split_skip)) (fun I6 hI6 af6 cf6 ef6 hZ => ?_)
   subst ef6
   have hC := hC.mono hI6; have hS := hS.mono hI6; have hH := hH.mono hI6; have hK := hK.mono hI6; have hks := hks.mono hI6; have hb7 := hb7.mono hI6; have hb4 := hb4.mono hI6; have hka := hka.mono hI6; have hIc := hIc.trans hI6; have hB0 := hB0.trans hI6; have hKc8 := hKc8.trans hI6; have hD := hD.trans hI6
   refine XO_callV0 (cap := []) (vs := [_, _, _, _]) rfl rfl fun_69 (ih kk (List.mem_of_getElem? hkk) _ hIc _ _ _ _ hZ (by rw [List.length_append, List.length_singleton]; omega) (fun e he => by rcases List.mem_append.1 he with he | he; exact hin e he; (rw [List.mem_singleton] at he; subst he; exact ⟨by omega, by omega⟩)) kh hka) rfl rfl ?_
   refine XO_nil ?_
   refine zD hD ?_
   refine zT 14 rfl (ev_assign rfl) hD ?_
   refine XD_done (by kernel_rfl) ?_
   refine at_noP ?_
   exact at_met2 _ _ ⟨rfl, hKc8, rfl, trivial⟩ (.cons rfl (.cons rfl (.cons rfl (.cons rfl (.cons rfl (.cons rfl .nil)))))) (by repeat (first | exact .refl | exact subL_left | refine subL_app ?_ | refine .drop ?_ | refine subL_add ?_))
  rintro E J7 loc' ⟨rfl, hJ, rfl, _⟩
  have hC := hC.mono hJ; have hS := hS.mono hJ; have hH := hH.mono hJ; have hK := hK.mono hJ; have hks := hks.mono hJ; have hb7 := hb7.mono hJ; have hb4 := hb4.mono hJ; have hka := hka.mono hJ; have hIc := hIc.trans hJ; have hB0 := hB0.trans hJ
  refine zR ?_
  refine zM ?_
  refine XO_v0 (ev_not rfl) rfl rfl rfl ?_
  refine zN ?_
  refine X_cond rfl (fun hc95 => ?_) (fun hc95 => ?_)
  ·
   refine zR ?_
   refine zA ?_
   refine zN ?_
   refine X_ret ?_
   refine at_block_r ?_
   refine at_then_r ?_
   refine at_then_r ?_
   refine at_block_r ?_
   refine at_then_r ?_
   first
   | exact at_ret1 rfl rfl (fun w hw => ⟨by rw [provesF, if_neg (by rw [hr0]; decide), if_neg (by rw [hq]; decide), hpv, provesL_bad hkk (by simpa using hc95)], (hw.mono hIc).drop⟩)
  refine X_skip ?_
  refine at_block_n ?_
  refine at_then ?_
  refine X_region ?_
  refine zM ?_
  refine zB ?_
  refine zA ?_
  refine XO_nil ?_
  exact at_met2 _ _ ⟨kn - (k + 1), by omega, k + 1, rfl, rfl, hB0, rfl, by omega, by rw [hpv, provesL_step hkk (by simpa using hc95)]⟩ (.cons rfl (.cons rfl (.cons rfl (.cons rfl (.cons rfl .nil))))) (by repeat (first | exact .refl | exact subL_left | refine subL_app ?_ | refine .drop ?_ | refine subL_add ?_))
 have hge_k : kn ≤ k := by have h := hc77; simp at h; omega
 refine X_exit ?_
 refine at_then_e ?_
 refine at_then_e ?_
 refine at_block_hit ?_
 refine at_then ?_
 refine zR ?_
 refine zA ?_
 refine zN ?_
 refine X_ret ?_
 first
 | exact at_ret1 rfl rfl (fun w hw => ⟨by rw [provesF, if_neg (by rw [hr0]; decide), if_neg (by rw [hq]; decide), hpv, provesL_end (by omega)], (hw.mono hIc).drop⟩)
theorem w_rpr {cr : Cr} (hr : rightF cr = true) (h16 : cr.days.length ≤ 16) (h8 : cr.ss.length ≤ 8) (hwh : ∀ s ∈ cr.ss, s.who.length ≤ 6) (hnd : ∀ s ∈ cr.ss, s.needs.length ≤ 100000) {last : Int} (hl9 : last ≤ cr.days.length) : ∀ (p : Pr) {I : HMap} {x : CH} (_ : CrAt I x cr) {av : Option Addr} {n c : Nat} {pl : List Int} (_ : Sl I 1 encI av n c pl) (_ : pl.length ≤ cr.ss.length) (_ : InR cr pl) (h : PH) (_ : PrAt I h p) (_ : smlP p), RetV Tryz.prog 69 [encCHA x, .slice av n c, .int .i64 last, encPHA h] I (.bool (provesF cr last p pl))
 | .mk r d w ks, I, x, hC, av, n, c, pl, hS, hl, hin, h, hP, hsm => by
  obtain ⟨hr0, hd0, hw0, ka, kn, kc⟩ := h
  unfold PrAt at hP
  obtain ⟨e1, e2, e3, hs9, hK, hks⟩ := hP
  simp only at e1 e2 e3 hK
  subst e1 e2 e3
  unfold smlP at hsm
  exact w_rpr_step hC hr h16 h8 hwh hnd hl9 hS hl hin hK hks (by have h1 := hks.len; have h2 := hK.len; omega) (fun k hk I' hI' av' n' c' pl' hS' hl' hin' h' hP' => w_rpr hr h16 h8 hwh hnd hl9 k (hC.mono hI') hS' hl' hin' h' hP' (smlL_mem hsm.2 hk))
termination_by p => SizeOf.sizeOf p
decreasing_by have := List.sizeOf_lt_of_mem hk; simp; omega
theorem w_rAccepts {I : HMap} {x : CH} {cr : Cr} (hC : CrAt I x cr) (hnd : ∀ s ∈ cr.ss, s.needs.length ≤ 100000) (hwh9 : ∀ s ∈ cr.ss, s.who.length ≤ 100000) (last : Int) (p : Pr) (h : PH) (hP : PrAt I h p) (hsm : smlP p) : RetV Tryz.prog 28 [encCHA x, .int .i64 last, encPHA h] I (.tuple #[.bool (accO cr last p), .int .i64 (lastE cr last)]) := by
 intro g H w hw
 refine enter Tryz.func28 rfl Tryz.ntmps28 rfl hw ?_
 have hIc := HLe.refl I
 have hlD : cr.days.length = x.n := hC.1.len
 refine zR ?_
 refine XO_box rfl rfl rfl (fun b_3 => ?_)
 refine XO_box rfl rfl rfl (fun b_5 => ?_)
 refine zA ?_
 refine zA ?_
 refine zN ?_
 refine X_seq ?_
 refine X_freeze .here (fun I1 hI1 hb1 => ?_)
 have hC := hC.mono hI1; have hP := hP.mono hI1; have hIc := hIc.trans hI1
 have hb5 := ImmC.of hb1
 refine X_freeze .here (fun I2 hI2 hb2 => ?_)
 have hC := hC.mono hI2; have hP := hP.mono hI2; have hb5 := hb5.mono hI2; have hIc := hIc.trans hI2
 have hb3 := ImmC.of hb2
 refine X_region ?_
 refine XO_v0 (ev_loadA rfl agt_33 (fun hg => by first | exact Cells.immC hb3 | exact Cells.immC (vs := encPH h) hb5 | (repeat (first | exact Cells.here | exact Cells.s0 (vs := [_, _, _, _, _, _]) rfl | apply Cells.there | apply Cells.app))) rfl) rfl rfl rfl ?_
 refine XO_callV0 (cap := []) (vs := [_]) rfl rfl fun_21 (w_rChk hC hnd hwh9) rfl rfl ?_
 refine zA ?_
 refine zN ?_
 refine X_seq ?_
 refine zR ?_
 refine zM ?_
 refine zC ?_
 refine zN ?_
 refine X_cond rfl (fun hc12 => ?_) (fun hc12 => ?_)
 ·
  have hk0 : chkC cr ≠ 0 := by simpa using hc12
  refine zR ?_
  refine zM ?_
  refine zA ?_
  refine zA ?_
  refine zN ?_
  refine X_ret ?_
  refine at_then_r ?_
  first
  | exact at_ret2 rfl rfl rfl (fun w hw => ⟨by unfold accO; rw [lastE_1 hk0, decide_eq_false hk0]; rfl, (hw.mono hIc).drop⟩)
 have hk0 : chkC cr = 0 := by simpa using hc12
 obtain ⟨hr, h16, h8, hwh, hpl9⟩ := chkC_0 hk0
 refine X_skip ?_
 refine at_then ?_
 refine X_seq ?_
 refine zR ?_
 refine zM ?_
 refine zC ?_
 refine zM ?_
 refine XO_pushF 2 rfl rfl rfl ?_
 refine XO_v1 (ev_move rfl) (.some rfl rfl rfl rfl gbf) rfl rfl rfl ?_
 refine XO_v1 (ev_fieldAddr rfl fld_33_0) (.some rfl rfl rfl rfl gbf) rfl rfl rfl ?_
 refine XO_v1 (ev_load rfl sct_23 (fun hg => by first | exact Cell.imm hb3 rfl | (repeat (first | exact Cell.here rfl | apply Cell.there | apply Cell.app)))) (.some rfl rfl rfl rfl gbf) rfl rfl rfl ?_
 refine XO_v1 (ev_lenS rfl slt_23) (.some rfl rfl rfl rfl gbf) rfl rfl rfl ?_
 refine XO_v1 (ev_cmp rfl rfl rfl) (.some rfl rfl rfl rfl gbf) rfl rfl rfl ?_
 refine XO_or0 rfl rfl rfl rfl rfl ?_
 refine zN ?_
 refine X_cond rfl (fun hc22 => ?_) (fun hc22 => ?_)
 ·
  have hb9 : (decide (last < 0) || decide (last > (cr.days.length : Int))) = true := by rw [hlD]; exact hc22
  refine zR ?_
  refine zA ?_
  refine zA ?_
  refine zN ?_
  refine X_ret ?_
  refine at_then_r ?_
  first
  | exact at_ret2 rfl rfl rfl (fun w hw => ⟨by unfold accO; rw [lastE_2 hk0 hb9]; rfl, (hw.mono hIc).drop⟩)
 have hb9 : (decide (last < 0) || decide (last > (cr.days.length : Int))) = false := by rw [hlD]; exact hc22
 have hl0 : 0 ≤ last ∧ last ≤ cr.days.length := by simp at hb9; omega
 refine X_skip ?_
 refine at_then ?_
 refine zR ?_
 refine XO_v0 (ev_loadA rfl agt_33 (fun hg => by first | exact Cells.immC hb3 | exact Cells.immC (vs := encPH h) hb5 | (repeat (first | exact Cells.here | exact Cells.s0 (vs := [_, _, _, _, _, _]) rfl | apply Cells.there | apply Cells.app))) rfl) rfl rfl rfl ?_
 refine zM ?_
 refine XO_v0 (ev_loadA rfl agt_45 (fun hg => by first | exact Cells.immC hb3 | exact Cells.immC (vs := encPH h) hb5 | (repeat (first | exact Cells.here | exact Cells.s0 (vs := [_, _, _, _]) rfl | apply Cells.there | apply Cells.app))) rfl) rfl rfl rfl ?_
 refine XO_callV0 (cap := []) (vs := [_, _, _, _]) rfl rfl fun_69 (w_rpr hr h16 h8 hwh hnd hl0.2 p hC (Sl.nil (av := none) (c := 0)) (Nat.zero_le _) (fun e he => by cases he) h hP hsm) rfl rfl ?_
 refine zA ?_
 refine zA ?_
 refine zN ?_
 refine X_ret ?_
 first
 | exact at_ret2 rfl rfl rfl (fun w hw => ⟨by unfold accO; rw [lastE_3 hk0 hb9]; rfl, (hw.mono hIc).drop⟩)
end Go.Proofs.YtehkiccapbkhnaaGreat
end
section
namespace Go.Proofs.YtehkiccapbkhnaaGreat
open Go Go.Kn Go.Proofs
theorem refO_last {c : Cr} {last : Int} (h : refO c last = true) : chkC c = 0 ∧ 0 ≤ last ∧ last ≤ c.days.length := by
  unfold refO at h
  rw [Bool.and_eq_true, decide_eq_true_eq] at h
  have h := h.1
  unfold lastE at h
  split at h
  · rename_i g; exact (g h).elim
  · rename_i g
    split at h
    · cases h
    · rename_i g2
      simp at g2
      exact ⟨by simpa using g, by omega, by omega⟩
theorem refP_sml (c : Cr) (last : Int) : smlP (refP c last) := by
  unfold refP
  split
  · rename_i h
    obtain ⟨h1, h2, h3⟩ := refO_last h
    have h4 := (chkC_0 h1).2.1
    exact srch_sml (by omega) _ _
  · exact zero_sml
theorem zero_dp : dpP (.mk 0 0 0 []) ≤ 20 := by simp [dpP, dpL]
theorem refP_dp (c : Cr) (last : Int) : dpP (refP c last) ≤ 20 := by
  unfold refP
  split
  · rename_i h
    obtain ⟨h1, h2, h3⟩ := refO_last h
    have h4 := (chkC_0 h1).2.2.1
    have := srch_dp (c := c) (last := last.toNat) c.ss.length []
    omega
  · exact zero_dp
theorem proofSpec_end (c : Cr) (last : Int) (p : Pr) : ((((samPs [refP c last] [refP c last] && (refO c last == refO c last)) && (lastE c last == lastE c last)) && (accO c last p == accO c last p)) && (lastE c last == lastE c last)) = true := by
  rw [samPs_self (fun p hp => by rw [List.mem_singleton] at hp; subst hp; exact refP_dp c last)]; simp
end Go.Proofs.YtehkiccapbkhnaaGreat
end
section
namespace Go.Proofs.YtehkiccapbkhnaaGreat
open Go Go.Kn Go.Proofs
theorem fun_26 : Fun Tryz.prog 26 := .of Tryz.func26 (by kernel_rfl) (by kernel_rfl)
theorem fun_28 : Fun Tryz.prog 28 := .of Tryz.func28 (by kernel_rfl) (by kernel_rfl)
theorem w_proofSpec {I : HMap} {x : CH} {cr : Cr} (hC : CrAt I x cr) (last : Int) (pr : Pr) (ph : PH) (hPr : PrAt I ph pr) : RetV Tryz.prog 5 [encCHA x, .int .i64 last, encPHA ph] I (.bool true) := by
 intro g H w hw
 refine enter Tryz.func5 rfl Tryz.ntmps5 rfl hw ?_
 have hIc := HLe.refl I
 refine zR ?_
 refine XO_box rfl rfl rfl (fun b_3 => ?_)
 refine XO_box rfl rfl rfl (fun b_5 => ?_)
 refine zA ?_
 refine zN ?_
 refine X_seq ?_
 refine X_seq ?_
 refine X_freeze .here (fun I1 hI1 hb1 => ?_)
 have hC := hC.mono hI1; have hPr := hPr.mono hI1; have hIc := hIc.trans hI1
 have hbkp := ImmC.of hb1
 refine X_freeze .here (fun I2 hI2 hb2 => ?_)
 have hC := hC.mono hI2; have hPr := hPr.mono hI2; have hbkp := hbkp.mono hI2; have hIc := hIc.trans hI2
 have hbkc := ImmC.of hb2
 refine X_region ?_
 refine XO_callV0 (cap := []) (vs := []) rfl rfl fun_10 (w_sane40 _) rfl rfl ?_
 refine XO_v0 (ev_not rfl) rfl rfl rfl ?_
 refine zN ?_
 refine X_cond rfl (fun hc18 => ?_) (fun hc18 => ?_)
 ·
  cases hc18
 refine X_skip ?_
 refine at_then ?_
 refine X_seq ?_
 refine zR ?_
 refine XO_v0 (ev_loadA rfl agt_33 (fun hg => by first | exact Cells.immC hbkc | exact Cells.immC (vs := encPH ph) hbkp | exact Cells.immC (vs := encPH kh1) hbka | exact Cells.immC (vs := encPH kh2) hbkb | (repeat (first | exact Cells.here | exact Cells.s0 (vs := [_, _, _, _, _, _]) rfl | apply Cells.there | apply Cells.app))) rfl) rfl rfl rfl ?_
 refine XO_callV0 (cap := []) (vs := [_]) rfl rfl fun_15 (w_rFew hC) rfl rfl ?_
 refine XO_v0 (ev_not rfl) rfl rfl rfl ?_
 refine zM ?_
 refine XO_pushF 3 rfl rfl rfl ?_
 refine XO_v1 (ev_loadA rfl agt_45 (fun hg => by first | exact Cells.immC hbkc | exact Cells.immC (vs := encPH ph) hbkp | exact Cells.immC (vs := encPH kh1) hbka | exact Cells.immC (vs := encPH kh2) hbkb | (repeat (first | exact Cells.here | exact Cells.s0 (vs := [_, _, _, _]) rfl | apply Cells.there | apply Cells.app))) rfl) (.some rfl rfl rfl rfl gbf) rfl rfl rfl ?_
 refine XO_callV1 (cap := []) (vs := [_]) rfl rfl fun_24 (fun hg => w_rFewP I2 pr ph hPr) (.some rfl rfl rfl rfl gbf) rfl rfl ?_
 refine XO_v1 (ev_not rfl) (.some rfl rfl rfl rfl gbf) rfl rfl rfl ?_
 refine XO_or0 rfl rfl rfl rfl rfl ?_
 refine zN ?_
 refine X_cond rfl (fun hc26 => ?_) (fun hc26 => ?_)
 ·
  refine zR ?_
  refine zA ?_
  refine zN ?_
  refine X_ret ?_
  refine at_then_r ?_
  exact at_ret1 rfl rfl (fun w hw => ⟨by rfl, (hw.mono hIc).drop⟩)
 have hrq : fewC cr = true ∧ sizeP pr 0 ≤ 2000 := by have h := hc26; simp at h; exact h
 have hfb := few_bd hrq.1
 have hnd : ∀ s ∈ cr.ss, s.needs.length ≤ 100000 := fun s hs => Nat.le_trans (hfb.2.2 s hs).2 (by decide)
 have hwh9 : ∀ s ∈ cr.ss, s.who.length ≤ 100000 := fun s hs => Nat.le_trans (hfb.2.2 s hs).1 (by decide)
 have hsm := sizeP_sml pr 0 (by decide) hrq.2
 refine X_skip ?_
 refine at_then ?_
 refine zR ?_
 refine XO_v0 (ev_loadA rfl agt_33 (fun hg => by first | exact Cells.immC hbkc | exact Cells.immC (vs := encPH ph) hbkp | exact Cells.immC (vs := encPH kh1) hbka | exact Cells.immC (vs := encPH kh2) hbkb | (repeat (first | exact Cells.here | exact Cells.s0 (vs := [_, _, _, _, _, _]) rfl | apply Cells.there | apply Cells.app))) rfl) rfl rfl rfl ?_
 refine zM ?_
 refine XO_callM (cap := []) (vs := [_, _]) rfl rfl fun_25 .nil (w_Refute hC hnd last) rfl rfl ?_
 rintro vv3 I3 L3 hI3 ⟨rfl, kh1, rfl, hR1⟩
 have hC := hC.mono hI3; have hPr := hPr.mono hI3; have hbkp := hbkp.mono hI3; have hbkc := hbkc.mono hI3; have hIc := hIc.trans hI3
 rw [List.nil_append]
 refine zM ?_
 refine XO_v0 (ev_extract rfl rfl) rfl rfl rfl ?_
 refine XO_v0 (ev_extract rfl rfl) rfl rfl rfl ?_
 refine XO_v0 (ev_extract rfl rfl) rfl rfl rfl ?_
 refine XO_alloc zt_45 rfl rfl (fun b_7 => ?_)
 refine XO_storeA rfl rfl szt_45 rfl rfl rfl rfl (by repeat (first | exact Upd.here | apply Upd.there | apply upd_app)) ?_
 refine zA ?_
 refine zA ?_
 refine zN (zR ?_)
 refine XO_v0 (ev_loadA rfl agt_33 (fun hg => by first | exact Cells.immC hbkc | exact Cells.immC (vs := encPH ph) hbkp | exact Cells.immC (vs := encPH kh1) hbka | exact Cells.immC (vs := encPH kh2) hbkb | (repeat (first | exact Cells.here | exact Cells.s0 (vs := [_, _, _, _, _, _]) rfl | apply Cells.there | apply Cells.app))) rfl) rfl rfl rfl ?_
 refine zM ?_
 refine XO_callM (cap := []) (vs := [_, _]) rfl rfl fun_26 .nil (w_rRefute hC hnd hwh9 last) rfl rfl ?_
 rintro vv4 I4 L4 hI4 ⟨rfl, kh2, rfl, hR2⟩
 have hC := hC.mono hI4; have hPr := hPr.mono hI4; have hbkp := hbkp.mono hI4; have hbkc := hbkc.mono hI4; have hR1 := hR1.mono hI4; have hIc := hIc.trans hI4
 rw [List.nil_append]
 refine zM ?_
 refine XO_v0 (ev_extract rfl rfl) rfl rfl rfl ?_
 refine XO_v0 (ev_extract rfl rfl) rfl rfl rfl ?_
 refine XO_v0 (ev_extract rfl rfl) rfl rfl rfl ?_
 refine XO_alloc zt_45 rfl rfl (fun b_10 => ?_)
 refine XO_storeA rfl rfl szt_45 rfl rfl rfl rfl (by repeat (first | exact Upd.here | apply Upd.there | apply upd_app)) ?_
 refine zA ?_
 refine zA ?_
 refine zN (zR ?_)
 refine XO_v0 (ev_loadA rfl agt_33 (fun hg => by first | exact Cells.immC hbkc | exact Cells.immC (vs := encPH ph) hbkp | exact Cells.immC (vs := encPH kh1) hbka | exact Cells.immC (vs := encPH kh2) hbkb | (repeat (first | exact Cells.here | exact Cells.s0 (vs := [_, _, _, _, _, _]) rfl | apply Cells.there | apply Cells.app))) rfl) rfl rfl rfl ?_
 refine zM ?_
 refine XO_v0 (ev_loadA rfl agt_45 (fun hg => by first | exact Cells.immC hbkc | exact Cells.immC (vs := encPH ph) hbkp | exact Cells.immC (vs := encPH kh1) hbka | exact Cells.immC (vs := encPH kh2) hbkb | (repeat (first | exact Cells.here | exact Cells.s0 (vs := [_, _, _, _]) rfl | apply Cells.there | apply Cells.app))) rfl) rfl rfl rfl ?_
 refine XO_callV0 (cap := []) (vs := [_, _, _]) rfl rfl fun_27 (w_Accepts hC hnd last pr ph hPr hsm) rfl rfl ?_
 refine zM ?_
 refine XO_v0 (ev_extract rfl rfl) rfl rfl rfl ?_
 refine XO_v0 (ev_extract rfl rfl) rfl rfl rfl ?_
 refine zA ?_
 refine zA ?_
 refine zN (zR ?_)
 refine XO_v0 (ev_loadA rfl agt_33 (fun hg => by first | exact Cells.immC hbkc | exact Cells.immC (vs := encPH ph) hbkp | exact Cells.immC (vs := encPH kh1) hbka | exact Cells.immC (vs := encPH kh2) hbkb | (repeat (first | exact Cells.here | exact Cells.s0 (vs := [_, _, _, _, _, _]) rfl | apply Cells.there | apply Cells.app))) rfl) rfl rfl rfl ?_
 refine zM ?_
 refine XO_v0 (ev_loadA rfl agt_45 (fun hg => by first | exact Cells.immC hbkc | exact Cells.immC (vs := encPH ph) hbkp | exact Cells.immC (vs := encPH kh1) hbka | exact Cells.immC (vs := encPH kh2) hbkb | (repeat (first | exact Cells.here | exact Cells.s0 (vs := [_, _, _, _]) rfl | apply Cells.there | apply Cells.app))) rfl) rfl rfl rfl ?_
 refine XO_callV0 (cap := []) (vs := [_, _, _]) rfl rfl fun_28 (w_rAccepts hC hnd hwh9 last pr ph hPr hsm) rfl rfl ?_
 refine zM ?_
 refine XO_v0 (ev_extract rfl rfl) rfl rfl rfl ?_
 refine XO_v0 (ev_extract rfl rfl) rfl rfl rfl ?_
 refine zA ?_
 refine zA ?_
 refine zN ?_
 refine X_seq ?_
 refine X_freeze .here (fun I5 hI5 hb5 => ?_)
 have hC := hC.mono hI5; have hPr := hPr.mono hI5; have hbkp := hbkp.mono hI5; have hbkc := hbkc.mono hI5; have hR1 := hR1.mono hI5; have hR2 := hR2.mono hI5; have hIc := hIc.trans hI5
 have hbkb := ImmC.of hb5
 refine X_freeze .here (fun I6 hI6 hb6 => ?_)
 have hC := hC.mono hI6; have hPr := hPr.mono hI6; have hbkp := hbkp.mono hI6; have hbkc := hbkc.mono hI6; have hR1 := hR1.mono hI6; have hR2 := hR2.mono hI6; have hbkb := hbkb.mono hI6; have hIc := hIc.trans hI6
 have hbka := ImmC.of hb6
 refine X_region ?_
 refine XO_v0 (ev_loadA rfl agt_45 (fun hg => by first | exact Cells.immC hbkc | exact Cells.immC (vs := encPH ph) hbkp | exact Cells.immC (vs := encPH kh1) hbka | exact Cells.immC (vs := encPH kh2) hbkb | (repeat (first | exact Cells.here | exact Cells.s0 (vs := [_, _, _, _]) rfl | apply Cells.there | apply Cells.app))) rfl) rfl rfl rfl ?_
 refine XO_buildSlice (ps := [(0, _)]) (m := [encPH kh1]) elt_35 rfl (.cons rfl (.nil)) rfl (by simp [encPH_len]) (by decide) (by decide) rfl rfl (fun b_56 => ?_)
 refine XO_freeze (by repeat (first | exact Take.here | apply Take.there)) (fun I7 hI7 hb7 => ?_)
 have hC := hC.mono hI7; have hPr := hPr.mono hI7; have hbkp := hbkp.mono hI7; have hbkc := hbkc.mono hI7; have hR1 := hR1.mono hI7; have hR2 := hR2.mono hI7; have hbkb := hbkb.mono hI7; have hbka := hbka.mono hI7; have hIc := hIc.trans hI7
 have hQ1 := Sl.lit ([kh1] : List PH) rfl encPH_len (show I7 b_56 = some (Obj.cells (([kh1] : List PH).flatMap encPH).toArray 45 (0, 0)) from hb7)
 have hQs1 : PrsAt I7 [kh1] [refP cr last] := ⟨hR1, trivial⟩
 refine XO_v0 (ev_loadA rfl agt_45 (fun hg => by first | exact Cells.immC hbkc | exact Cells.immC (vs := encPH ph) hbkp | exact Cells.immC (vs := encPH kh1) hbka | exact Cells.immC (vs := encPH kh2) hbkb | (repeat (first | exact Cells.here | exact Cells.s0 (vs := [_, _, _, _]) rfl | apply Cells.there | apply Cells.app))) rfl) rfl rfl rfl ?_
 refine XO_buildSlice (ps := [(0, _)]) (m := [encPH kh2]) elt_35 rfl (.cons rfl (.nil)) rfl (by simp [encPH_len]) (by decide) (by decide) rfl rfl (fun b_58 => ?_)
 refine XO_freeze (by repeat (first | exact Take.here | apply Take.there)) (fun I8 hI8 hb8 => ?_)
 have hC := hC.mono hI8; have hPr := hPr.mono hI8; have hbkp := hbkp.mono hI8; have hbkc := hbkc.mono hI8; have hR1 := hR1.mono hI8; have hR2 := hR2.mono hI8; have hbkb := hbkb.mono hI8; have hbka := hbka.mono hI8; have hQ1 := hQ1.mono hI8; have hQs1 := hQs1.mono hI8; have hIc := hIc.trans hI8
 have hQ2 := Sl.lit ([kh2] : List PH) rfl encPH_len (show I8 b_58 = some (Obj.cells (([kh2] : List PH).flatMap encPH).toArray 45 (0, 0)) from hb8)
 have hQs2 : PrsAt I8 [kh2] [refP cr last] := ⟨hR2, trivial⟩
 refine XO_callV0 (cap := []) (vs := [_, _]) rfl rfl fun_22 (w_samPs hQ1 hQs1 (by simp) (fun p hp => by rw [List.mem_singleton] at hp; subst hp; exact refP_sml cr last) hQ2 hQs2) rfl rfl ?_
 refine zM ?_
 refine XO_pushT 5 rfl rfl rfl ?_
 refine XO_v1 (ev_move rfl) (.some rfl rfl rfl rfl gbt) rfl rfl rfl ?_
 refine XO_v1 (ev_move rfl) (.some rfl rfl rfl rfl gbt) rfl rfl rfl ?_
 refine XO_v1 (ev_boolR rfl rfl und_4) (.some rfl rfl rfl rfl gbt) rfl rfl rfl ?_
 refine XO_and0 rfl rfl rfl rfl rfl ?_
 refine zM ?_
 refine XO_pushT 10 rfl rfl rfl ?_
 refine XO_v1 (ev_move rfl) (.some rfl rfl rfl rfl gbt) rfl rfl rfl ?_
 refine XO_v1 (ev_move rfl) (.some rfl rfl rfl rfl gbt) rfl rfl rfl ?_
 refine XO_v1 (ev_cmp rfl rfl rfl) (.some rfl rfl rfl rfl gbt) rfl rfl rfl ?_
 refine XO_and0 rfl rfl rfl rfl rfl ?_
 refine zM ?_
 refine XO_pushT 15 rfl rfl rfl ?_
 refine XO_v1 (ev_move rfl) (.some rfl rfl rfl rfl gbt) rfl rfl rfl ?_
 refine XO_v1 (ev_move rfl) (.some rfl rfl rfl rfl gbt) rfl rfl rfl ?_
 refine XO_v1 (ev_boolR rfl rfl und_4) (.some rfl rfl rfl rfl gbt) rfl rfl rfl ?_
 refine XO_and0 rfl rfl rfl rfl rfl ?_
 refine zM ?_
 refine XO_pushT 20 rfl rfl rfl ?_
 refine XO_v1 (ev_move rfl) (.some rfl rfl rfl rfl gbt) rfl rfl rfl ?_
 refine XO_v1 (ev_move rfl) (.some rfl rfl rfl rfl gbt) rfl rfl rfl ?_
 refine XO_v1 (ev_cmp rfl rfl rfl) (.some rfl rfl rfl rfl gbt) rfl rfl rfl ?_
 refine XO_and0 rfl rfl rfl rfl rfl ?_
 refine zA ?_
 refine zN ?_
 refine X_ret ?_
 exact at_ret1 rfl rfl (fun w hw => ⟨by rw [proofSpec_end], (hw.mono hIc).drop⟩)
end Go.Proofs.YtehkiccapbkhnaaGreat
end
section
namespace Go.Kn
open Go Go.ChangeShapes Go.WideShapes Go.ChangeAt Go.RowKit
/-- All that lies in the world is read only. -/
def heapI (W : World) : HMap := fun b => W.heap[b]?
theorem St.start (W : World) : St W (heapI W) (fun _ => none) [] W :=
  ⟨rfl, rfl, rfl, ⟨Nat.le_refl _, Nat.le_refl _⟩, fun _ _ h => h, (fun _ _ h => by cases h), (fun _ _ h => by cases h), fun _ => .inr rfl, (fun _ _ h => by cases h), by simp⟩
theorem St.below {W w : World} {H : HMap} {loc : Loc} (h : St W (heapI W) H loc w) : Below W.heap.size W w :=
  ⟨h.os, h.tape, h.out, h.size.1, fun k hk => by
    have e : W.heap[k]? = some W.heap[k] := Array.getElem?_eq_getElem hk
    rw [h.imm k _ e, e]⟩
theorem RetV.law {P : Program} {f : FuncId} {args : List Value} {W : World} {v : Value} (h : RetV P f args (heapI W) v) : Calls P f args.toArray W fun e w' => e = .returned v ∧ Below W.heap.size W w' :=
  (h W _ W (St.start W)).mono fun _ _ ⟨he, hs⟩ => ⟨he, hs.below⟩
theorem keptBut_below {W w : World} {may : MemPlace → Prop} (h : Below W.heap.size W w) : W.keptBut w may := by
  refine ⟨h.os, h.output, fun i hi => ?_⟩
  rw [h.block i hi]
  rw [Array.getElem?_eq_getElem hi]
  cases W.heap[i] <;> simp
theorem trodAll_stays {H : Type} {enc : TypeId × Value → H} {P : Program} {W W' : World} (hl : laidOutB P = true) (hB : Below W.heap.size W W') (sp : Nat → Bool) : ∀ (ts : List TypeId) (vs : List Value) (ds : List (DataW H)) (ps : List MemPlace), (∀ t ∈ ts, P.readableRec t = true ∧ t < P.types.size) →
    DataW.TrodAll enc P W 0 (fun _ => true) true ts vs ds ps → (∀ x ∈ ps, x.block < W.heap.size ∧ sp x.block = true) → DataW.TrodAll enc P W' 0 sp true ts vs ds ps
  | [], [], [], ps, _, h, _ => h
  | t :: ts, v :: vs, d :: ds, ps, hr, ⟨p, q, h1, h2, e⟩, hlt => by
    subst e
    exact ⟨p, q, WideElems.Trod_stays hl (hr t (List.mem_cons_self ..)).1 (hr t (List.mem_cons_self ..)).2 h1 (fun x hx => hB.same (hlt x (List.mem_append_left _ hx)).1) (fun x hx => (hlt x (List.mem_append_left _ hx)).2),
      trodAll_stays hl hB sp ts vs ds q (fun t ht => hr t (List.mem_cons_of_mem _ ht)) h2 (fun x hx => hlt x (List.mem_append_right _ hx)), rfl⟩
/-- A law's row: it hands back true; the input reads as it did. -/
theorem post_law {H : Type} {enc : TypeId × Value → H} {P : Program} {f : Func} {s : ChangeSpec} {again : Bool} {W W' : World} {args : Array Value} {ds : List (DataW H)} {before : List MemPlace} {tb : TypeId}
    (hl : laidOutB P = true) (hr : f.resultTypes = #[tb]) (hb : P.underlying tb = some .bool) (hv : s.vars = []) (hs : (s.fn H (ds ++ [])) = { results := [.lit (.bool true)], args := ds }) (hrd : ∀ t ∈ f.params.toList, P.readableRec t = true ∧ t < P.types.size)
    (hW : DataW.Whole enc P f.params.toList s.vars false W args.toList ds [] before) (hB : Below W.heap.size W W') : s.post enc P f false true false again W args (.bool true) W' := by
  have hlt : ∀ x ∈ before, x.block < W.heap.size := fun x hx => by simpa using hW.lt x hx
  have hW0 := hW
  obtain ⟨p, q, hA, hV, rfl, hfz, _⟩ := hW
  rw [hv] at hV
  obtain ⟨_, rfl⟩ := trodVars_none hV
  rw [List.append_nil] at hlt hfz hW0
  have hres : ∀ (b : Nat) (sp : Nat → Bool) (hd : Bool), DataW.TrodAll enc P W' b sp hd f.resultTypes.toList ((Value.bool true).resultList f.resultTypes.size) [.lit (.bool true)] [] := fun b sp hd => by
    rw [hr]; exact trodAll_mk1 (shut_bool hb true)
  have hargs : ∀ sp : Nat → Bool, (∀ x ∈ p, sp x.block = true) → DataW.TrodAll enc P W' 0 sp true f.params.toList args.toList ds p := fun sp h => trodAll_stays hl hB sp _ _ _ _ hrd hA (fun x hx => ⟨hlt x hx, h x hx⟩)
  have hnil : ∀ sp : Nat → Bool, DataW.TrodVars enc P W' sp s.vars [] [] := fun sp => by rw [hv]; rfl
  refine ⟨ds, [], p, [], p, [], hW0, ?_, ?_, ?_, keptBut_below hB, fun _ => ?_⟩
  · rw [hs]; exact hres _ _ _
  · rw [hs]; exact hargs _ (fun x hx => by simpa using hlt x hx)
  · rw [hs]; exact hnil _
  · refine ⟨fun j t r ht hr' => ?_, [.lit (.bool true)] ++ ds, [], [] ++ p, ⟨[] ++ p, [], trodAll_append (hargs _ (fun _ _ => rfl)) (hres _ _ _), hnil _, by simp, ?_, fun h => by cases h⟩, fun x hx _ => by simpa using hx⟩
    · rw [hr] at ht hr'
      cases j with
      | zero => simp [Value.resultList] at ht hr'; subst ht; subst hr'; exact okWide_bool_mk hb _
      | succ j => simp at ht
    · intro b off hx
      rw [hB.frozen (hlt _ (by simpa using hx))]
      exact hfz b off (by simpa using hx)
theorem cell_heap {W : World} {b o : Nat} {u : Value} (h : W.cell? ⟨b, o, none⟩ = some u) : Cell (heapI W) [] b o u := by
  unfold World.cell? at h
  split at h
  · rename_i c t fz hb
    simp only [Option.isSome_none, Bool.false_eq_true, if_false] at h
    exact ⟨c, t, fz, .inl hb, h⟩
  · cases h
/-- A slice that came in, as it is read. -/
theorem open_SlT {H : Type} {enc : TypeId × Value → H} {P : Program} {W : World} {t e : TypeId} {size fuel0 : Nat} {cs : List Value} {x0 : DataW H × List MemPlace} {α : Type} (enc' : α → List Value) (ok : α → Prop)
    (ht : P.underlying t = some (.slice e)) (hc : P.cellsOf e = size) (hpos : 0 < size) (hlen : ∀ y, (enc' y).length = size)
    (hel : ∀ fuel cs x, DataW.trod enc P W 0 (fun _ => true) true fuel e cs = some x → ∃ y, ok y ∧ enc' y = cs)
    (hf' : DataW.trod enc P W 0 (fun _ => true) true fuel0 t cs = some x0) : ∃ av n c xs, cs = [.slice av n c] ∧ Sl (heapI W) size enc' av n c xs ∧ (∀ x ∈ xs, ok x) ∧ c ≤ maxLen := by
  rcases Go.Deep.open_slice ht hf' with ⟨e1, _⟩ | ⟨a, len0, cap0, m, n, D, Pl, e1, hb, hl, hm, hmm, _, hx⟩
  · subst e1
    exact ⟨none, 0, 0, [], rfl, .nil, (fun x hx => by cases hx), Nat.zero_le _⟩
  · subst e1
    have hlm : len0 ≤ m := by rw [hmm]; simp; exact hl
    have each : ∀ i, i < len0 → ∃ y, ok y ∧ W.cells? 0 (a.add (i * size)) size = some (enc' y) := fun i hi => by
      obtain ⟨cs', h1, h2⟩ := hx i (by omega)
      obtain ⟨y, hy, e⟩ := hel _ _ _ h2
      rw [hc] at h1
      exact ⟨y, hy, by rw [h1, e]⟩
    have all : ∀ k, k ≤ len0 → ∃ xs : List α, xs.length = k ∧ ∀ i x, xs[i]? = some x → ok x ∧ W.cells? 0 (a.add (i * size)) size = some (enc' x) := by
      intro k
      induction k with
      | zero => intro _; exact ⟨[], rfl, fun i x h => by simp at h⟩
      | succ k ih =>
        intro hk
        obtain ⟨xs, hl', hxs⟩ := ih (by omega)
        obtain ⟨y, hy, hcy⟩ := each k (by omega)
        refine ⟨xs ++ [y], by simp [hl'], fun i x h => ?_⟩
        by_cases hi : i < xs.length
        · rw [List.getElem?_append_left hi] at h; exact hxs i x h
        · rw [List.getElem?_append_right (by omega)] at h
          have : i = k := by have := (List.getElem?_eq_some_iff.1 h).1; simp at this; omega
          subst this
          rw [hl'] at h; simp at h; subst h
          exact ⟨hy, hcy⟩
    obtain ⟨xs, hl', hxs⟩ := all len0 (Nat.le_refl _)
    have add0 : ∀ (b o n : Nat), (⟨b, o, none⟩ : Addr).add n = ⟨b, o + n, none⟩ := fun b o n => by
      unfold Addr.add
      split
      · rename_i e; subst e; rfl
      · rfl
    have hspot : 0 < xs.length → a.spot = none := fun hx => by
      have hx0 : xs[0]? = some xs[0] := List.getElem?_eq_getElem hx
      have hp0 : 0 < (enc' xs[0]).length := by rw [hlen]; exact hpos
      obtain ⟨_, h1, h2⟩ := World.cells?_some (hxs 0 _ hx0).2
      have h3 := h2 0 hpos
      rw [List.getElem?_eq_getElem hp0] at h3
      simpa [Addr.add] using World.cell?_spot h3
    have cellat : ∀ i x, xs[i]? = some x → ∀ j u, (enc' x)[j]? = some u → W.cell? ⟨a.block, a.off + i * size + j, none⟩ = some u := fun i x hx j u hu => by
      obtain ⟨_, h1, h2⟩ := World.cells?_some (hxs i x hx).2
      have hj : j < size := by rw [← hlen x]; exact (List.getElem?_eq_some_iff.1 hu).1
      have h3 := h2 j hj
      rw [hu] at h3
      have hsp := hspot (by have := (List.getElem?_eq_some_iff.1 hx).1; omega)
      obtain ⟨b, o, sp⟩ := a
      simp only at hsp
      subst hsp
      rw [add0, add0] at h3
      exact h3
    refine ⟨some a, len0, cap0, xs, rfl, ⟨hl', hl, fun hn => ?_, fun k x hx j u hu => ?_⟩, fun x hx => ?_, hm⟩
    · have := hspot (by omega)
      obtain ⟨b, o, sp⟩ := a
      simp only at this
      subst this; rfl
    · exact cell_heap (cellat k x hx j u hu)
    · obtain ⟨i, hi⟩ := List.getElem?_of_mem hx
      exact (hxs i x hi).1
/-- A slice of one-cell ints. -/
theorem el_int {H : Type} {enc : TypeId × Value → H} {P : Program} {W : World} {e : TypeId} {k : IntKind} (he : P.underlying e = some (.int k)) (hk : k = .i64) (fuel : Nat) (cs : List Value) (x : DataW H × List MemPlace) (h : DataW.trod enc P W 0 (fun _ => true) true fuel e cs = some x) :
    ∃ y : Int, (-9223372036854775808 ≤ y ∧ y ≤ 9223372036854775807) ∧ [Value.int .i64 y] = cs := by
  subst hk
  obtain ⟨v, hv⟩ : ∃ v, cs = [v] := by
    have := h
    cases fuel with
    | zero => simp [DataW.trod] at this
    | succ m => unfold DataW.trod at this; rw [he] at this; split at this <;> simp_all
  subst hv
  obtain ⟨n, e, _, w⟩ := DataW.trod_int he h
  cases e
  simp only [Lit.wf, Bool.and_eq_true, decide_eq_true_eq] at w
  exact ⟨n, w, rfl⟩
end Go.Kn
end
section
namespace Go.Kn
open Go
theorem trod_seg {H : Type} {enc : TypeId × Value → H} {P : Program} {W : World} {base : Nat} {spare : Nat → Bool} {held : Bool} {t C : Nat} {fs : Array Field} {fuel : Nat} {cs : List Value} {x : DataW H × List MemPlace} (hs : P.underlying t = some (.struct fs))
    (hC : P.cellsOf t = C) (h : DataW.trod enc P W base spare held fuel t cs = some x) :
    cs.length = C ∧ ∃ n, ∀ (i ty off k : Nat), ((fs[i]?).map fun f => (f.type, f.offset)) = some (ty, off) → P.cellsOf ty = k → ∃ y, DataW.trod enc P W base spare held n ty ((cs.drop off).take k) = some y := by
  obtain ⟨xs, n, _, _, hl, hxl, hf⟩ := DataW.trod_struct hs h
  refine ⟨hl.trans hC, n, fun i ty off k hi hk => ?_⟩
  obtain ⟨f, hfi, e⟩ := Option.map_eq_some_iff.1 hi
  cases e
  have g := hf i f hfi
  have hix : i < xs.length := by rw [hxl]; exact (Array.getElem?_eq_some_iff.1 hfi).1
  rw [hk, List.getElem?_eq_getElem hix] at g
  exact ⟨_, g⟩
end Go.Kn
end
section
namespace Go.Proofs.YtehkiccapbkhnaaGreat
open Go Go.Kn Go.Proofs
open Go.ChangeShapes Go.WideShapes Go.ChangeAt Go.RowKit
theorem trod_segF {H : Type} {enc : TypeId × Value → H} {P : Program} {W : World} {base : Nat} {spare : Nat → Bool} {held : Bool} {t C : Nat} {fs : Array Field} {fuel : Nat} {cs : List Value} {x : DataW H × List MemPlace} (hs : P.underlying t = some (.struct fs))
    (hC : P.cellsOf t = C) (h : DataW.trod enc P W base spare held fuel t cs = some x) :
    cs.length = C ∧ ∃ n, n < fuel ∧ ∀ (i ty off k : Nat), ((fs[i]?).map fun f => (f.type, f.offset)) = some (ty, off) → P.cellsOf ty = k → ∃ y, DataW.trod enc P W base spare held n ty ((cs.drop off).take k) = some y := by
  obtain ⟨xs, n, hn, _, hl, hxl, hf⟩ := DataW.trod_struct hs h
  refine ⟨hl.trans hC, n, by omega, fun i ty off k hi hk => ?_⟩
  obtain ⟨f, hfi, e⟩ := Option.map_eq_some_iff.1 hi
  cases e
  have g := hf i f hfi
  have hix : i < xs.length := by rw [hxl]; exact (Array.getElem?_eq_some_iff.1 hfi).1
  rw [hk, List.getElem?_eq_getElem hix] at g
  exact ⟨_, g⟩
theorem open_SlF {H : Type} {enc : TypeId × Value → H} {P : Program} {W : World} {t e : TypeId} {size fuel0 : Nat} {cs : List Value} {x0 : DataW H × List MemPlace} {α : Type} (enc' : α → List Value) (ok : α → Prop)
    (ht : P.underlying t = some (.slice e)) (hc : P.cellsOf e = size) (hpos : 0 < size) (hlen : ∀ y, (enc' y).length = size)
    (hel : ∀ fuel cs x, fuel < fuel0 → DataW.trod enc P W 0 (fun _ => true) true fuel e cs = some x → ∃ y, ok y ∧ enc' y = cs)
    (hf' : DataW.trod enc P W 0 (fun _ => true) true fuel0 t cs = some x0) : ∃ av n c xs, cs = [.slice av n c] ∧ Sl (heapI W) size enc' av n c xs ∧ (∀ x ∈ xs, ok x) ∧ c ≤ maxLen := by
  rcases DataW.trod_slice ht hf' with ⟨e1, _⟩ | ⟨a, len0, cap0, elems, rest, n, hfu, e1, _, hb, hl, hm, hle, hx, _, _⟩
  · subst e1
    exact ⟨none, 0, 0, [], rfl, .nil, (fun x hx => by cases hx), Nat.zero_le _⟩
  · subst e1
    have each : ∀ i, i < len0 → ∃ y, ok y ∧ W.cells? 0 (a.add (i * size)) size = some (enc' y) := fun i hi => by
      have hb9 := hx i hi
      rw [List.getElem?_eq_getElem (by omega)] at hb9
      obtain ⟨cs', h1, h2⟩ := Option.bind_eq_some_iff.1 hb9
      obtain ⟨y, hy, e⟩ := hel n _ _ (by omega) h2
      rw [hc] at h1
      exact ⟨y, hy, by rw [h1, e]⟩
    have all : ∀ k, k ≤ len0 → ∃ xs : List α, xs.length = k ∧ ∀ i x, xs[i]? = some x → ok x ∧ W.cells? 0 (a.add (i * size)) size = some (enc' x) := by
      intro k
      induction k with
      | zero => intro _; exact ⟨[], rfl, fun i x h => by simp at h⟩
      | succ k ih =>
        intro hk
        obtain ⟨xs, hl', hxs⟩ := ih (by omega)
        obtain ⟨y, hy, hcy⟩ := each k (by omega)
        refine ⟨xs ++ [y], by simp [hl'], fun i x h => ?_⟩
        by_cases hi : i < xs.length
        · rw [List.getElem?_append_left hi] at h; exact hxs i x h
        · rw [List.getElem?_append_right (by omega)] at h
          have : i = k := by have := (List.getElem?_eq_some_iff.1 h).1; simp at this; omega
          subst this
          rw [hl'] at h; simp at h; subst h
          exact ⟨hy, hcy⟩
    obtain ⟨xs, hl', hxs⟩ := all len0 (Nat.le_refl _)
    have add0 : ∀ (b o n : Nat), (⟨b, o, none⟩ : Addr).add n = ⟨b, o + n, none⟩ := fun b o n => by
      unfold Addr.add
      split
      · rename_i e; subst e; rfl
      · rfl
    have hspot : 0 < xs.length → a.spot = none := fun hx => by
      have hx0 : xs[0]? = some xs[0] := List.getElem?_eq_getElem hx
      have hp0 : 0 < (enc' xs[0]).length := by rw [hlen]; exact hpos
      obtain ⟨_, h1, h2⟩ := World.cells?_some (hxs 0 _ hx0).2
      have h3 := h2 0 hpos
      rw [List.getElem?_eq_getElem hp0] at h3
      simpa [Addr.add] using World.cell?_spot h3
    have cellat : ∀ i x, xs[i]? = some x → ∀ j u, (enc' x)[j]? = some u → W.cell? ⟨a.block, a.off + i * size + j, none⟩ = some u := fun i x hx j u hu => by
      obtain ⟨_, h1, h2⟩ := World.cells?_some (hxs i x hx).2
      have hj : j < size := by rw [← hlen x]; exact (List.getElem?_eq_some_iff.1 hu).1
      have h3 := h2 j hj
      rw [hu] at h3
      have hsp := hspot (by have := (List.getElem?_eq_some_iff.1 hx).1; omega)
      obtain ⟨b, o, sp⟩ := a
      simp only at hsp
      subst hsp
      rw [add0, add0] at h3
      exact h3
    refine ⟨some a, len0, cap0, xs, rfl, ⟨hl', hl, fun hn => ?_, fun k x hx j u hu => ?_⟩, fun x hx => ?_, hm⟩
    · have := hspot (by omega)
      obtain ⟨b, o, sp⟩ := a
      simp only at this
      subst this; rfl
    · exact cell_heap (cellat k x hx j u hu)
    · obtain ⟨i, hi⟩ := List.getElem?_of_mem hx
      exact (hxs i x hi).1
end Go.Proofs.YtehkiccapbkhnaaGreat
end
section
namespace Go.Proofs.YtehkiccapbkhnaaGreat
open Go Go.Kn Go.Proofs
open Go.ChangeShapes Go.WideShapes Go.ChangeAt Go.RowKit
set_option maxRecDepth 100000
theorem ound_3 : Tryz.prog.underlying 3 = some (.int .i64) := by kernel_rfl
theorem ound_23 : Tryz.prog.underlying 23 = some (.slice 3) := by kernel_rfl
theorem ostr_58 : Tryz.prog.underlying 58 = some (.struct (Tryz.prog.fieldsOf 58)) := by kernel_rfl
theorem ound_27 : Tryz.prog.underlying 27 = some (.slice 58) := by kernel_rfl
theorem ostr_33 : Tryz.prog.underlying 33 = some (.struct (Tryz.prog.fieldsOf 33)) := by kernel_rfl
theorem ostr_45 : Tryz.prog.underlying 45 = some (.struct (Tryz.prog.fieldsOf 45)) := by kernel_rfl
theorem ound_35 : Tryz.prog.underlying 35 = some (.slice 45) := by kernel_rfl
theorem relS_of {I : HMap} : ∀ {hs : List SH}, (∀ h ∈ hs, ∃ s, SesAt I h s) → ∃ ss, RelS I hs ss
  | [], _ => ⟨[], RelS.nil⟩
  | h :: hs, H => by
    obtain ⟨s, h0⟩ := H h (by simp)
    obtain ⟨ss, h1⟩ := relS_of (hs := hs) fun x hx => H x (by simp [hx])
    refine ⟨s :: ss, by simp [h1.1], fun k x y a b => ?_⟩
    cases k with
    | zero => simp at a b; subst a b; exact h0
    | succ k => simp at a b; exact h1.2 k x y a b
theorem crAt_of {I : HMap} {a a2 : Option Addr} {n c n2 c2 : Nat} {ds : List Int} {st da lo ru : Int} {hs : List SH} (h0 : Sl I 1 encI a n c ds) (h5 : Sl I 4 encSH a2 n2 c2 hs) (ho : ∀ h ∈ hs, ∃ s, SesAt I h s) : ∃ cr, CrAt I ⟨a, n, c, st, da, lo, ru, a2, n2, c2⟩ cr := by
  obtain ⟨ss, hr⟩ := relS_of ho
  exact ⟨⟨ds, st, da, lo, ru, ss⟩, h0, rfl, rfl, rfl, rfl, hs, h5, hr⟩
theorem el_ses {H : Type} {enc : TypeId × Value → H} {W : World} (fuel : Nat) (cs : List Value) (x : DataW H × List MemPlace) (h : DataW.trod enc Tryz.prog W 0 (fun _ => true) true fuel 58 cs = some x) : ∃ y : SH, (fun h => ∃ s, SesAt (heapI W) h s) y ∧ encSH y = cs := by
  obtain ⟨hl, n0_, f0⟩ := trod_seg (C := 4) ostr_58 (by kernel_rfl) h
  match cs, hl with
  | [c0, c1, c2, c3], _ =>
    obtain ⟨_, g0_0⟩ := f0 0 3 0 1 (by kernel_rfl) (by kernel_rfl)
    obtain ⟨n0, e0, _, w0⟩ := DataW.trod_int ound_3 (show DataW.trod enc Tryz.prog W 0 (fun _ => true) true n0_ 3 [c0] = some _ from g0_0)
    obtain ⟨_, g0_1⟩ := f0 1 3 1 1 (by kernel_rfl) (by kernel_rfl)
    obtain ⟨n1, e1, _, w1⟩ := DataW.trod_int ound_3 (show DataW.trod enc Tryz.prog W 0 (fun _ => true) true n0_ 3 [c1] = some _ from g0_1)
    obtain ⟨_, g0_2⟩ := f0 2 23 2 1 (by kernel_rfl) (by kernel_rfl)
    obtain ⟨a2, m2, q2, n2, e2, s2, o2, _⟩ := open_SlT (t := 23) (e := 3) encI (fun n : Int => -9223372036854775808 ≤ n ∧ n ≤ 9223372036854775807) ound_23 (by kernel_rfl) (by decide) encI_len (fun fuel cs x h => el_int ound_3 rfl fuel cs x h) (show DataW.trod enc Tryz.prog W 0 (fun _ => true) true n0_ 23 [c2] = some _ from g0_2)
    obtain ⟨_, g0_3⟩ := f0 3 23 3 1 (by kernel_rfl) (by kernel_rfl)
    obtain ⟨a3, m3, q3, n3, e3, s3, o3, _⟩ := open_SlT (t := 23) (e := 3) encI (fun n : Int => -9223372036854775808 ≤ n ∧ n ≤ 9223372036854775807) ound_23 (by kernel_rfl) (by decide) encI_len (fun fuel cs x h => el_int ound_3 rfl fuel cs x h) (show DataW.trod enc Tryz.prog W 0 (fun _ => true) true n0_ 23 [c3] = some _ from g0_3)
    cases e0; cases e1; cases e2; cases e3
    exact ⟨⟨n0, n1, a2, m2, q2, a3, m3, q3⟩, ⟨⟨n0, n1, n2, n3⟩, rfl, rfl, s2, s3⟩, rfl⟩
theorem el_cr {H : Type} {enc : TypeId × Value → H} {W : World} (fuel : Nat) (cs : List Value) (x : DataW H × List MemPlace) (h : DataW.trod enc Tryz.prog W 0 (fun _ => true) true fuel 33 cs = some x) : ∃ y : CH, (fun x => ∃ cr, CrAt (heapI W) x cr) y ∧ encCH y = cs := by
  obtain ⟨hl, n0_, f0⟩ := trod_seg (C := 6) ostr_33 (by kernel_rfl) h
  match cs, hl with
  | [c0, c1, c2, c3, c4, c5], _ =>
    obtain ⟨_, g0_0⟩ := f0 0 23 0 1 (by kernel_rfl) (by kernel_rfl)
    obtain ⟨a0, m0, q0, n0, e0, s0, o0, _⟩ := open_SlT (t := 23) (e := 3) encI (fun n : Int => -9223372036854775808 ≤ n ∧ n ≤ 9223372036854775807) ound_23 (by kernel_rfl) (by decide) encI_len (fun fuel cs x h => el_int ound_3 rfl fuel cs x h) (show DataW.trod enc Tryz.prog W 0 (fun _ => true) true n0_ 23 [c0] = some _ from g0_0)
    obtain ⟨_, g0_1⟩ := f0 1 3 1 1 (by kernel_rfl) (by kernel_rfl)
    obtain ⟨n1, e1, _, w1⟩ := DataW.trod_int ound_3 (show DataW.trod enc Tryz.prog W 0 (fun _ => true) true n0_ 3 [c1] = some _ from g0_1)
    obtain ⟨_, g0_2⟩ := f0 2 3 2 1 (by kernel_rfl) (by kernel_rfl)
    obtain ⟨n2, e2, _, w2⟩ := DataW.trod_int ound_3 (show DataW.trod enc Tryz.prog W 0 (fun _ => true) true n0_ 3 [c2] = some _ from g0_2)
    obtain ⟨_, g0_3⟩ := f0 3 3 3 1 (by kernel_rfl) (by kernel_rfl)
    obtain ⟨n3, e3, _, w3⟩ := DataW.trod_int ound_3 (show DataW.trod enc Tryz.prog W 0 (fun _ => true) true n0_ 3 [c3] = some _ from g0_3)
    obtain ⟨_, g0_4⟩ := f0 4 3 4 1 (by kernel_rfl) (by kernel_rfl)
    obtain ⟨n4, e4, _, w4⟩ := DataW.trod_int ound_3 (show DataW.trod enc Tryz.prog W 0 (fun _ => true) true n0_ 3 [c4] = some _ from g0_4)
    obtain ⟨_, g0_5⟩ := f0 5 27 5 1 (by kernel_rfl) (by kernel_rfl)
    obtain ⟨a5, m5, q5, n5, e5, s5, o5, _⟩ := open_SlT (t := 27) (e := 58) encSH (fun h => ∃ s, SesAt (heapI W) h s) ound_27 (by kernel_rfl) (by decide) encSH_len (fun fuel cs x h => el_ses fuel cs x h) (show DataW.trod enc Tryz.prog W 0 (fun _ => true) true n0_ 27 [c5] = some _ from g0_5)
    cases e0; cases e1; cases e2; cases e3; cases e4; cases e5
    exact ⟨⟨a0, m0, q0, n1, n2, n3, n4, a5, m5, q5⟩, crAt_of s0 s5 o5, rfl⟩
theorem open_cr {H : Type} {enc : TypeId × Value → H} {W : World} {base : Nat} {v : Value} {d : DataW H} {p : List MemPlace} (hv : Value.okWide Tryz.prog W .any base 33 v) (h : DataW.Trod enc Tryz.prog W 0 (fun _ => true) true 33 v d p) : ∃ y : CH, v = encCHA y ∧ (fun x => ∃ cr, CrAt (heapI W) x cr) y := by
  obtain ⟨cs, rfl, _⟩ := okWide_struct ostr_33 hv
  obtain ⟨fuel, hf⟩ := h
  obtain ⟨l⟩ := cs
  obtain ⟨y, hy, e⟩ := el_cr fuel l _ hf
  exact ⟨y, by rw [← e]; rfl, hy⟩
theorem prsAt_of {I : HMap} : ∀ {hs : List PH}, (∀ h ∈ hs, ∃ p, PrAt I h p) → ∃ ks, PrsAt I hs ks
  | [], _ => ⟨[], trivial⟩
  | h :: hs, H => by
    obtain ⟨p, h0⟩ := H h (by simp)
    obtain ⟨ks, h1⟩ := prsAt_of (hs := hs) fun x hx => H x (by simp [hx])
    exact ⟨p :: ks, h0, h1⟩
theorem el_pr {H : Type} {enc : TypeId × Value → H} {W : World} : ∀ (fuel : Nat) (cs : List Value) (x : DataW H × List MemPlace), DataW.trod enc Tryz.prog W 0 (fun _ => true) true fuel 45 cs = some x → ∃ y : PH, (fun h => ∃ p, PrAt (heapI W) h p) y ∧ encPH y = cs := by
  intro fuel
  induction fuel using Nat.strongRecOn with
  | ind fuel ih =>
    intro cs x h
    obtain ⟨hl, n0_, hn0, f0⟩ := trod_segF (C := 4) ostr_45 (by kernel_rfl) h
    match cs, hl with
    | [c0, c1, c2, c3], _ =>
      obtain ⟨_, g0⟩ := f0 0 3 0 1 (by kernel_rfl) (by kernel_rfl)
      obtain ⟨n0, e0, _, w0⟩ := DataW.trod_int ound_3 (show DataW.trod enc Tryz.prog W 0 (fun _ => true) true n0_ 3 [c0] = some _ from g0)
      obtain ⟨_, g1⟩ := f0 1 3 1 1 (by kernel_rfl) (by kernel_rfl)
      obtain ⟨n1, e1, _, w1⟩ := DataW.trod_int ound_3 (show DataW.trod enc Tryz.prog W 0 (fun _ => true) true n0_ 3 [c1] = some _ from g1)
      obtain ⟨_, g2⟩ := f0 2 3 2 1 (by kernel_rfl) (by kernel_rfl)
      obtain ⟨n2, e2, _, w2⟩ := DataW.trod_int ound_3 (show DataW.trod enc Tryz.prog W 0 (fun _ => true) true n0_ 3 [c2] = some _ from g2)
      obtain ⟨_, g3⟩ := f0 3 35 3 1 (by kernel_rfl) (by kernel_rfl)
      obtain ⟨a3, m3, q3, n3, e3, s3, o3, _⟩ := open_SlF (t := 35) (e := 45) encPH (fun h => ∃ p, PrAt (heapI W) h p) ound_35 (by kernel_rfl) (by decide) encPH_len (fun fuel' cs x hlt h => ih fuel' (by omega) cs x h) (show DataW.trod enc Tryz.prog W 0 (fun _ => true) true n0_ 35 [c3] = some _ from g3)
      cases e0; cases e1; cases e2; cases e3
      obtain ⟨ks, hks⟩ := prsAt_of o3
      exact ⟨⟨n0, n1, n2, a3, m3, q3⟩, ⟨.mk n0 n1 n2 ks, PrAt.node s3 hks⟩, rfl⟩
theorem open_pr {H : Type} {enc : TypeId × Value → H} {W : World} {base : Nat} {v : Value} {d : DataW H} {p : List MemPlace} (hv : Value.okWide Tryz.prog W .any base 45 v) (h : DataW.Trod enc Tryz.prog W 0 (fun _ => true) true 45 v d p) : ∃ y : PH, v = encPHA y ∧ (fun h => ∃ p, PrAt (heapI W) h p) y := by
  obtain ⟨cs, rfl, _⟩ := okWide_struct ostr_45 hv
  obtain ⟨fuel, hf⟩ := h
  obtain ⟨l⟩ := cs
  obtain ⟨y, hy, e⟩ := el_pr fuel l _ hf
  exact ⟨y, by rw [← e]; rfl, hy⟩
end Go.Proofs.YtehkiccapbkhnaaGreat
end
section
namespace Go.Proofs.YtehkiccapbkhnaaGreat
open Go Go.Kn Go.Proofs
open Go.ChangeShapes Go.WideShapes Go.ChangeAt Go.RowKit
theorem own : ownKnob Tryz.prog.godebug = none := by kernel_rfl
theorem laidOut : laidOutB Tryz.prog = true := by kernel_rfl
set_option maxRecDepth 100000 in
theorem rehearseProofSpec_lifted (os : Os) (started : os.Started) (H : Type) (enc : TypeId × Value → H) :
    ReturnsInHanded {} Tryz.checked os 5 .any (Rows.rehearseProofSpecSpec.pre6 enc Tryz.prog Tryz.f5 Rows.rehearseProofSpecRow.domain false) (Rows.rehearseProofSpecSpec.post enc Tryz.prog Tryz.f5 false true false false) := by
  refine returnsInHanded_of_change (C := Tryz.checked) own started (by kernel_rfl) Tryz.func5
    (ChangeSpec.witness6 (enc := enc) (C := Tryz.checked) false ⟨#[], #[.agg #[.slice none 0 0, .int .i64 0, .int .i64 0, .int .i64 0, .int .i64 0, .slice none 0 0], .int .i64 0, .agg #[.int .i64 0, .int .i64 0, .int .i64 0, .slice none 0 0]], []⟩ 8 (by kernel_rfl) (by kernel_rfl) (by kernel_rfl) (by kernel_rfl)) ?_
  intro W base args ds gs before hval0 hW hcnd _
  have hval : ∀ (j : Nat) t v, Tryz.f5.params[j]? = some t → args[j]? = some v → Value.okWide Tryz.prog W .any base t v := hval0
  have hW' := hW
  obtain ⟨p, q, hA0, hV, rfl, hfz, hnd⟩ := hW
  have hA : DataW.TrodAll enc Tryz.prog W 0 (fun _ => true) true Tryz.f5.params.toList args.toList ds p := hA0
  rw [Tryz.params5] at hA hval
  obtain ⟨v0, vs1, d0, ds1, p0, q1, ea, rfl, rfl, h0, hA⟩ := trodAll_cons hA
  obtain ⟨v1, vs2, d1, ds2, p1, q2, rfl, rfl, rfl, h1, hA⟩ := trodAll_cons hA
  obtain ⟨v2, vs3, d2, ds3, p2, q3, rfl, rfl, rfl, h2, hA⟩ := trodAll_cons hA
  obtain ⟨rfl, rfl, rfl⟩ := trodAll_nil hA
  have ea' : args = #[v0, v1, v2] := by rw [← Array.toArray_toList (xs := args), ea]
  subst ea'
  obtain ⟨rfl, rfl⟩ := trodVars_none hV
  obtain ⟨x, rfl, cr, hC⟩ := open_cr (hval 0 33 v0 rfl rfl) h0
  obtain ⟨last, rfl, _, _, wflast⟩ := open_int ound_3 (hval 1 3 v1 rfl rfl) h1
  obtain ⟨ph, rfl, pr, hPr⟩ := open_pr (hval 2 45 v2 rfl rfl) h2
  refine (RetV.law (w_proofSpec hC last pr ph hPr)).mono fun e W' ⟨he, hB⟩ => ?_
  subst he
  exact ⟨_, rfl, post_law laidOut (by kernel_rfl) und_4 rfl rfl (by rw [Tryz.params5]; simp only [List.mem_cons, List.not_mem_nil, or_false, forall_eq_or_imp, forall_eq]; exact ⟨⟨by kernel_rfl, of_decide_eq_true (by kernel_rfl)⟩, ⟨by kernel_rfl, of_decide_eq_true (by kernel_rfl)⟩, ⟨by kernel_rfl, of_decide_eq_true (by kernel_rfl)⟩⟩) hW' hB⟩
theorem rehearseProofSpec_holds : Rows.RehearseProofSpecSaid :=
  OpenClaim.holds_of_wide 5 Tryz.f5 rfl rfl rfl rfl rfl rfl rfl ⟨rfl, rfl, rfl, rfl, rfl⟩ rfl rfl rfl rfl rfl (by kernel_rfl) Tryz.func5 (by kernel_rfl)
    (of_decide_eq_true (by kernel_rfl)) (by unfold Func.isWrapper; first | (rw [if_pos (by decide +kernel)]; kernel_rfl) | (rw [if_neg (by decide +kernel)]; exact ⟨rfl, rfl⟩))
    (fun os started H enc _ => rehearseProofSpec_lifted os started H enc)
#print axioms rehearseProofSpec_holds
end Go.Proofs.YtehkiccapbkhnaaGreat
end
