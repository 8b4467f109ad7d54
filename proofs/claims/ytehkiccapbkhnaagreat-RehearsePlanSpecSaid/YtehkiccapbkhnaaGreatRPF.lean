/- rehearsePlanSpec_holds, part F of the proof: what its theorems say holds without further conditions. -/
import Derived.KernelRfl
import Derived.Test.YtehkiccapbkhnaaGreatRPE
section
namespace Go.Proofs.YtehkiccapbkhnaaGreat
open Go Go.Kn Go.Proofs
theorem elt_114 : ElT Tryz.prog 114 24 1 24 := .of (by kernel_rfl)
theorem elt_118 : ElT Tryz.prog 118 22 1 24 := .of (by kernel_rfl)
theorem elt_27 : ElT Tryz.prog 27 58 4 64 := .of (by kernel_rfl)
theorem fun_35 : Fun Tryz.prog 35 := .of Tryz.func35 (by kernel_rfl) (by kernel_rfl)
theorem fun_40 : Fun Tryz.prog 40 := .of Tryz.func40 (by kernel_rfl) (by kernel_rfl)
theorem fun_41 : Fun Tryz.prog 41 := .of Tryz.func41 (by kernel_rfl) (by kernel_rfl)
theorem fun_44 : Fun Tryz.prog 44 := .of Tryz.func44 (by kernel_rfl) (by kernel_rfl)
theorem fun_45 : Fun Tryz.prog 45 := .of Tryz.func45 (by kernel_rfl) (by kernel_rfl)
theorem fun_46 : Fun Tryz.prog 46 := .of Tryz.func46 (by kernel_rfl) (by kernel_rfl)
theorem plt_58 : PlT Tryz.prog 58 #[(0, 1), (1, 1), (2, 1), (3, 1)] (.agg #[(.int .i64 0), (.int .i64 0), (.slice none 0 0), (.slice none 0 0)]) := ⟨.of (by kernel_rfl), by kernel_rfl, fun w => by kernel_rfl⟩
theorem und_4 : Tryz.prog.underlying 4 = some .bool := by kernel_rfl
theorem w_From {I : HMap} {av : Option Addr} {n c : Nat} {ps : List Pt} (hP : SlP I av n c ps) (hn : n ≤ 100000) {bv : Option Addr} {n2 c2 : Nat} {tg : List Int} (hT : Sl I 1 encI bv n2 c2 tg) (hn2 : n2 ≤ 100000) {dv : Option Addr} {n3 c3 : Nat} {hsh : List Hd} {has : List (List Int)} (hV : SlHA I 1 encI dv n3 c3 hsh has) (hn3 : n3 ≤ 100000) (hvl : ∀ v ∈ has, v.length ≤ 100000) : RetM Tryz.prog 12 [.slice av n c, .slice bv n2 c2, .slice dv n3 c3] I [] (FroQ ps tg has) := by
 intro g H w hw
 refine enter Tryz.func12 rfl Tryz.ntmps12 rfl hw ?_
 have hIc := HLe.refl I
 have hlp := hP.1.len
 have hlT := hT.len
 have hlV := hV.len
 have hlH := hV.1.len
 refine X_seq (X_region ?_)
 refine zA ?_
 refine zA ?_
 refine XO_nil (at_then ?_)
 refine X_seq ?_
 refine X_seq (X_region ?_)
 refine zM ?_
 refine XO_callV0 (cap := []) (vs := [_]) rfl rfl fun_39 (w_chkR hP hn) rfl rfl ?_
 refine zA ?_
 refine XO_nil (at_then (X_seq (X_region ?_)))
 refine zM ?_
 refine zC ?_
 refine XO_nil (at_then ?_)
 refine X_cond rfl (fun hc31 => ?_) (fun hc31 => ?_)
 ·
  have hk0 : chkR ps ≠ 0 := by simpa using hc31
  refine X_seq (X_region ?_)
  refine zM ?_
  refine zA ?_
  refine zA ?_
  refine XO_nil (at_then ?_)
  refine X_ret ?_
  refine at_then_r ?_
  exact at_ret2 rfl rfl rfl (fun w hw => ⟨_, I, [], rfl, hIc, hw.drop, FroQ.bad (fromE_1 hk0) hk0⟩)
 ·
  have hk0 : chkR ps = 0 := by simpa using hc31
  have hL := chkR_lst hk0
  have hnd := nd_chk hP hk0
  refine X_skip ?_
  refine at_then ?_
  refine X_seq ?_
  refine X_seq (X_region ?_)
  refine zM ?_
  refine XO_v0 (ev_lenS rfl slt_24) rfl rfl rfl ?_
  refine zC ?_
  refine XO_nil (at_then ?_)
  refine X_cond rfl (fun hc35 => ?_) (fun hc35 => ?_)
  ·
   have h6 : has.length > 6 := by rw [hlV]; have h := hc35; simp at h; omega
   refine X_seq (X_region ?_)
   refine zA ?_
   refine zA ?_
   refine XO_nil (at_then ?_)
   refine X_ret ?_
   refine at_then_r ?_
   exact at_ret2 rfl rfl rfl (fun w hw => ⟨_, I, [], rfl, hIc, hw.drop, FroQ.bad (fromE_2 hk0 h6) (by decide)⟩)
  ·
   have h6 : ¬ has.length > 6 := by rw [hlV]; have h := hc35; simp at h; omega
   refine X_skip ?_
   refine at_then ?_
   refine X_seq ?_
   refine X_seq (X_region ?_)
   refine zM ?_
   refine XO_buildSlice (ps := [(0, _)]) (m := [encH (⟨bv, n2, c2⟩ : Hd)]) elt_24 rfl (.cons rfl (.nil)) rfl (by simp [encH_len]) (by decide) (by decide) rfl rfl (fun b_37 => ?_)
   refine XO_freeze (by repeat (first | exact Take.here | apply Take.there)) (fun I1 hI1 hb1 => ?_)
   have hP := hP.mono hI1
   have hT := hT.mono hI1
   have hV := hV.mono hI1
   have hIc := hIc.trans hI1
   have hG1 := Sl.lit [(⟨bv, n2, c2⟩ : Hd)] rfl encH_len (show I1 b_37 = some (Obj.cells ([(⟨bv, n2, c2⟩ : Hd)].flatMap encH).toArray 23 (0, 0)) from hb1)
   refine zM ?_
   refine XO_buildSlice (ps := [(0, _), (1, _)]) (m := [encH ⟨some ⟨b_37, 0, none⟩, 1, 1⟩, encH ⟨dv, n3, c3⟩]) elt_114 rfl (.cons rfl (.cons rfl (.nil))) rfl (by simp [encH_len]) (by decide) (by decide) rfl rfl (fun b_39 => ?_)
   refine XO_freeze (by repeat (first | exact Take.here | apply Take.there)) (fun I2 hI2 hb2 => ?_)
   have hP := hP.mono hI2
   have hT := hT.mono hI2
   have hV := hV.mono hI2
   have hG1 := hG1.mono hI2
   have hIc := hIc.trans hI2
   have hG2 := Sl.lit [(⟨some ⟨b_37, 0, none⟩, 1, 1⟩ : Hd), ⟨dv, n3, c3⟩] rfl encH_len (show I2 b_39 = some (Obj.cells ([(⟨some ⟨b_37, 0, none⟩, 1, 1⟩ : Hd), ⟨dv, n3, c3⟩].flatMap encH).toArray 24 (0, 0)) from hb2)
   refine XO_callM (cap := []) (vs := [_]) rfl rfl fun_40 .nil (w_concatH (vss := [[(⟨bv, n2, c2⟩ : Hd)], hsh]) ⟨hG2, .cons hG1 (.cons hV.1 .nil)⟩ (by omega) (by simp; omega)) rfl rfl ?_
   rintro vv3 I3 L3 hI3 ⟨rfl, hO⟩
   have hP := hP.mono hI3
   have hT := hT.mono hI3
   have hV := hV.mono hI3
   have hG1 := hG1.mono hI3
   have hG2 := hG2.mono hI3
   have hIc := hIc.trans hI3
   rw [show [[(⟨bv, n2, c2⟩ : Hd)], hsh].flatten = (⟨bv, n2, c2⟩ : Hd) :: hsh by simp, show ((⟨bv, n2, c2⟩ : Hd) :: hsh).length = n3 + 1 by simp; omega] at hO
   refine XO_freezeO hO encH_len (by decide) (by repeat (first | exact .cons .here .nil | exact split_all | exact split_app | apply split_cons | apply split_skip)) (fun I4 hI4 aa ac e4 hA => ?_)
   subst e4
   have hP := hP.mono hI4
   have hT := hT.mono hI4
   have hV := hV.mono hI4
   have hG1 := hG1.mono hI4
   have hG2 := hG2.mono hI4
   have hIc := hIc.trans hI4
   refine XO_v0 (ev_lenS rfl slt_24) rfl rfl rfl ?_
   refine zM ?_
   refine XO_nil (at_then ?_)
   refine X_block ?_
   refine X_loopT [(0, _), (1, _), (2, _), (40, _), (41, _)] (.cons rfl (.cons rfl (.cons rfl (.cons rfl (.cons rfl .nil))))) (fun T L0 mz E I' loc' => ∃ (k : Nat), mz = n3 + 1 - k ∧ E = (6, .slice none 0 0) :: (42, .int .i64 k) :: T ∧ HLe I4 I' ∧ L0 = loc' ∧ k ≤ n3 + 1 ∧ ((tg :: has).take k).all (verF ps) = true) _ _ _ _ ⟨0, rfl, rfl, HLe.refl _, rfl, Nat.zero_le _, rfl⟩ (.cons rfl (.cons rfl (.cons rfl (.cons rfl (.cons rfl (.cons rfl (.cons rfl .nil))))))) (HLe.refl _) rfl ?_
   rintro mz E J5 loc' ⟨k, rfl, rfl, hJ, rfl, hk, hall⟩
   have hP := hP.mono hJ
   have hT := hT.mono hJ
   have hV := hV.mono hJ
   have hG1 := hG1.mono hJ
   have hG2 := hG2.mono hJ
   have hA := hA.mono hJ
   have hIc := hIc.trans hJ
   have hB0 := hJ
   refine X_seq (X_region ?_)
   refine zC ?_
   refine XO_nil (at_then ?_)
   refine X_seq ?_
   refine X_cond rfl (fun hc43 => ?_) (fun hc43 => ?_)
   ·
    have hlt_k : k < n3 + 1 := by have h := hc43; simp at h; omega
    have hHA : SlHA J5 1 encI _ _ _ _ (tg :: has) := ⟨hA, RelA.cons (h := (⟨bv, n2, c2⟩ : Hd)) hT hV.2⟩
    obtain ⟨h0, v0, hh0, hv0, hS0⟩ := hHA.at hlt_k
    have hl0 := hS0.len
    have hv0l : v0.length ≤ 100000 := by rcases List.mem_cons.1 (List.mem_of_getElem? hv0) with e | e; (rw [e]; omega); exact hvl v0 e
    refine X_skip ?_
    refine at_then ?_
    refine X_seq ?_
    refine X_block ?_
    refine X_seq (X_region ?_)
    refine XO_v0 (ev_indexSl rfl rfl slt_24 hA (fun hg => by first | omega | (simp [conj] at hg; omega))) rfl rfl rfl ?_
    refine XO_v0 (ev_load rfl sct_23 (fun hg => by first | exact Sl.get0 hA hh0 rfl | exact Sl.get0 hV.1 hh0 rfl | exact Cell.imm h16 rfl | exact Cell.imm h20 rfl | exact Cell.imm h22 rfl | (repeat (first | exact Cell.here rfl | apply Cell.there | apply Cell.app)))) rfl rfl rfl ?_
    refine zA ?_
    refine XO_nil (at_then (X_seq (X_region ?_)))
    refine zM ?_
    refine zM ?_
    refine XO_callM (cap := []) (vs := [_, _]) rfl rfl fun_35 .nil (w_Closure hP hn hS0 (by omega)) rfl rfl ?_
    rintro vv6 I6 L6 hI6 ⟨rfl, xa, xc, rfl, hX⟩
    have hP := hP.mono hI6
    have hT := hT.mono hI6
    have hV := hV.mono hI6
    have hG1 := hG1.mono hI6
    have hG2 := hG2.mono hI6
    have hA := hA.mono hI6
    have hS0 := hS0.mono hI6
    have hIc := hIc.trans hI6
    have hB0 := hB0.trans hI6
    rw [List.nil_append]
    refine zM ?_
    refine XO_v0 (ev_extract rfl rfl) rfl rfl rfl ?_
    refine XO_v0 (ev_extract rfl rfl) rfl rfl rfl ?_
    refine zA ?_
    refine zA ?_
    refine XO_nil (at_then (X_seq (X_region ?_)))
    refine zM ?_
    refine zC ?_
    refine zM ?_
    refine XO_pushF 2 rfl rfl rfl ?_
    refine XO_v1 (ev_move rfl) (.some rfl rfl rfl rfl gbf) rfl rfl rfl ?_
    refine XO_v1 (ev_move rfl) (.some rfl rfl rfl rfl gbf) rfl rfl rfl ?_
    refine XO_callV1 (cap := []) (vs := [_, _]) rfl rfl fun_41 (fun hg => w_equalI hX hS0 (by have := clo_len_le ps v0; omega)) (.some rfl rfl rfl rfl gbf) rfl rfl ?_
    refine XO_v1 (ev_not rfl) (.some rfl rfl rfl rfl gbf) rfl rfl rfl ?_
    refine XO_or0 rfl rfl rfl rfl rfl ?_
    refine XO_nil (at_then ?_)
    refine X_cond rfl (fun hc59 => ?_) (fun hc59 => ?_)
    ·
     have hvf : verF ps v0 = false := by rw [ver_val hk0, hc59]; rfl
     refine X_seq (X_region ?_)
     refine zA ?_
     refine zA ?_
     refine XO_nil (at_then ?_)
     refine X_ret ?_
     refine at_block_r ?_
     refine at_then_r ?_
     refine at_then_r ?_
     refine at_block_r ?_
     refine at_then_r ?_
     exact at_ret2 rfl rfl rfl (fun w hw => ⟨_, I6, [], rfl, hIc, hw.drop, FroQ.bad (fromE_3 hk0 h6 (all_bad hv0 hvf)) (by decide)⟩)
    ·
     have hvf : verF ps v0 = true := by rw [ver_val hk0, hc59]; rfl
     refine X_skip ?_
     refine at_block_n ?_
     refine at_then ?_
     refine X_region ?_
     refine zB ?_
     refine zM ?_
     refine XO_nil ?_
     exact at_met2 _ _ ⟨n3 + 1 - (k + 1), by omega, k + 1, rfl, rfl, hB0, rfl, by omega, all_take hv0 hall hvf⟩ (.cons rfl (.cons rfl (.cons rfl (.cons rfl (.cons rfl (.cons rfl (.cons rfl .nil))))))) (by repeat (first | exact .refl | exact subL_left | refine subL_app ?_ | refine .drop ?_ | refine subL_add ?_))
   ·
    have hge_k : n3 + 1 ≤ k := by have h := hc43; simp at h; omega
    rw [take_all (show (tg :: has).length = n3 + 1 by simp; omega) hge_k] at hall
    have hvers := List.all_eq_true.1 hall
    have hTv := ver_iff hk0 (hvers tg (by simp))
    refine X_exit ?_
    refine at_then_e ?_
    refine at_then_e ?_
    refine at_block_hit ?_
    refine at_then ?_
    refine X_seq (X_region ?_)
    refine zA ?_
    refine XO_nil (at_then (X_seq (X_region ?_)))
    refine zA ?_
    refine zA ?_
    refine XO_nil (at_then ?_)
    refine X_seq ?_
    refine X_seq (X_region ?_)
    refine zM ?_
    refine XO_v0 (ev_lenS rfl slt_22) rfl rfl rfl ?_
    refine zM ?_
    refine XO_nil (at_then ?_)
    refine X_block ?_
    refine X_loopT [(0, _), (1, _), (2, _), (6, _), (12, _), (61, _), (62, _)] (.cons rfl (.cons rfl (.cons rfl (.cons rfl (.cons rfl (.cons rfl (.cons rfl .nil))))))) (fun T L0 mz E I' loc' => ∃ (k : Nat) (vl : Value) (ql : Nat) (Ll : Go.Kn.Loc) (vd : Value) (qd : Nat) (Ld : Go.Kn.Loc), mz = n - k ∧ E = (13, vl) :: (14, vd) :: (63, .int .i64 k) :: T ∧ HLe J5 I' ∧ Ll ++ Ld = loc' ∧ k ≤ n ∧ OwnS 65 19 vl ql (((ps.take k).filter fun p => tg.contains p.id).flatMap encP) Ll ∧ OwnS 65 19 vd qd (((ps.take k).filter fun p => !tg.contains p.id).flatMap encP) Ld ∧ ql ≤ k ∧ qd ≤ k) _ _ _ _ ⟨0, _, 0, [], _, 0, [], rfl, rfl, HLe.refl _, rfl, Nat.zero_le _, OwnS.nil, OwnS.nil, Nat.le_refl _, Nat.le_refl _⟩ (.cons rfl (.cons rfl (.cons rfl (.cons rfl (.cons rfl (.cons rfl (.cons rfl (.cons rfl (.cons rfl (.cons rfl .nil)))))))))) (HLe.refl _) rfl ?_
    rintro mz E J7 loc' ⟨k, vl, ql, Ll, vd, qd, Ld, rfl, rfl, hJ, rfl, hk, hOl, hOd, hql, hqd⟩
    have hP := hP.mono hJ
    have hT := hT.mono hJ
    have hV := hV.mono hJ
    have hG1 := hG1.mono hJ
    have hG2 := hG2.mono hJ
    have hA := hA.mono hJ
    have hIc := hIc.trans hJ
    have hB0 := hB0.trans hJ
    have hB2 := hJ
    refine X_seq (X_region ?_)
    refine zC ?_
    refine XO_nil (at_then ?_)
    refine X_seq ?_
    refine X_cond rfl (fun hc64 => ?_) (fun hc64 => ?_)
    ·
     have hlt_k : k < n := by have h := hc64; simp at h; omega
     obtain ⟨p, hp, hN⟩ := hP.at hlt_k
     refine X_skip ?_
     refine at_then ?_
     refine X_seq ?_
     refine X_block ?_
     refine X_seq (X_region ?_)
     refine XO_v0 (ev_indexSl rfl rfl slt_22 hP.1 (fun hg => by first | omega | (simp [conj] at hg; omega))) rfl rfl rfl ?_
     refine XO_v0 (ev_loadA rfl agt_65 (fun hg => by first | exact Sl.getA hP.1 hp | exact Cells.immC h16 | exact Sl.getA hOS hp | (repeat (first | exact Cells.here | exact Cells.s0 (vs := [_, _, _, _, _, _, _, _, _, _, _, _, _, _, _, _, _, _, _]) rfl | apply Cells.there | apply Cells.app))) rfl) rfl rfl rfl ?_
     refine XO_alloc zt_65 rfl rfl (fun b_16 => ?_)
     refine XO_storeA rfl rfl szt_65 rfl rfl rfl rfl (by repeat (first | exact Upd.here | apply Upd.there | apply upd_app)) ?_
     refine XO_nil (at_then ?_)
     refine X_block ?_
     refine X_seq ?_
     refine X_freeze .here (fun I8 hI8 hb8 => ?_)
     have hP := hP.mono hI8
     have hT := hT.mono hI8
     have hV := hV.mono hI8
     have hG1 := hG1.mono hI8
     have hG2 := hG2.mono hI8
     have hA := hA.mono hI8
     have hIc := hIc.trans hI8
     have hB0 := hB0.trans hI8
     have hB2 := hB2.trans hI8
     have h16 := ImmC.of hb8
     refine X_region ?_
     refine zM ?_
     refine zM ?_
     refine XO_v0 (ev_fieldAddr rfl fld_65_0) rfl rfl rfl ?_
     refine XO_v0 (ev_load rfl sct_3 (fun hg => by first | exact Sl.get0 hA hh0 rfl | exact Sl.get0 hV.1 hh0 rfl | exact Cell.imm h16 rfl | exact Cell.imm h20 rfl | exact Cell.imm h22 rfl | (repeat (first | exact Cell.here rfl | apply Cell.there | apply Cell.app)))) rfl rfl rfl ?_
     refine XO_callV0 (cap := []) (vs := [_, _]) rfl rfl fun_42 (w_in hT (by omega) hTv.inc p.id) rfl rfl ?_
     refine zA ?_
     refine XO_nil (at_then ?_)
     refine X_cond rfl (fun hc71 => ?_) (fun hc71 => ?_)
     ·
      refine X_region ?_
      refine zM ?_
      refine XO_v0 (ev_loadA rfl agt_65 (fun hg => by first | exact Sl.getA hP.1 hp | exact Cells.immC h16 | exact Sl.getA hOS hp | (repeat (first | exact Cells.here | exact Cells.s0 (vs := [_, _, _, _, _, _, _, _, _, _, _, _, _, _, _, _, _, _, _]) rfl | apply Cells.there | apply Cells.app))) rfl) rfl rfl rfl ?_
      refine XO_buildSlice (ps := [(0, _)]) (m := [encP p]) elt_22 rfl (.cons rfl (.nil)) rfl (by simp [encP_len]) (by decide) (by decide) rfl rfl (fun b_79 => ?_)
      refine XO_append (v := _) (ys := [p].flatMap encP) (L := Ll) rfl rfl elt_22 hOl (by repeat (first | exact .cons .here .nil | exact split_all | exact split_app | apply split_cons | apply split_skip)) ⟨rfl, fun _ => rfl, by repeat (first | exact Cells.here | apply Cells.there | apply Cells.app)⟩ (one_P _) (by omega) rfl rfl ?_
      intro v9 L9 hO9 _; rw [← List.flatMap_append] at hO9
      refine zA ?_
      refine XO_nil ?_
      refine at_block_n ?_
      refine at_block_n ?_
      refine at_then ?_
      refine X_region ?_
      refine zB ?_
      refine zM ?_
      refine XO_nil ?_
      first
      | exact at_met2 _ _ ⟨n - (k + 1), by omega, k + 1, v9, ql + 1, L9, vd, qd, Ld, rfl, rfl, hB2, rfl, by omega, by rw [filter_step hp, if_pos hc71]; exact hO9, by rw [filter_step hp, if_neg (by rw [hc71]; decide), List.append_nil]; exact hOd, by omega, by omega⟩ (.cons rfl (.cons rfl (.cons rfl (.cons rfl (.cons rfl (.cons rfl (.cons rfl (.cons rfl (.cons rfl (.cons rfl .nil)))))))))) (by repeat (first | exact .refl | exact subL_left | refine subL_app ?_ | refine .drop ?_ | refine subL_add ?_))
     ·
      refine X_region ?_
      refine zM ?_
      refine XO_v0 (ev_loadA rfl agt_65 (fun hg => by first | exact Sl.getA hP.1 hp | exact Cells.immC h16 | exact Sl.getA hOS hp | (repeat (first | exact Cells.here | exact Cells.s0 (vs := [_, _, _, _, _, _, _, _, _, _, _, _, _, _, _, _, _, _, _]) rfl | apply Cells.there | apply Cells.app))) rfl) rfl rfl rfl ?_
      refine XO_buildSlice (ps := [(0, _)]) (m := [encP p]) elt_22 rfl (.cons rfl (.nil)) rfl (by simp [encP_len]) (by decide) (by decide) rfl rfl (fun b_69 => ?_)
      refine XO_append (v := _) (ys := [p].flatMap encP) (L := Ld) rfl rfl elt_22 hOd (by repeat (first | exact .cons .here .nil | exact split_all | exact split_app | apply split_cons | apply split_skip)) ⟨rfl, fun _ => rfl, by repeat (first | exact Cells.here | apply Cells.there | apply Cells.app)⟩ (one_P _) (by omega) rfl rfl ?_
      intro v9 L9 hO9 _; rw [← List.flatMap_append] at hO9
      refine zA ?_
      refine XO_nil ?_
      refine at_block_n ?_
      refine at_block_n ?_
      refine at_then ?_
      refine X_region ?_
      refine zB ?_
      refine zM ?_
      refine XO_nil ?_
      first
      | exact at_metP _ (Ll ++ L9) (L9 ++ Ll) ⟨n - (k + 1), by omega, k + 1, vl, ql, Ll, v9, qd + 1, L9, rfl, rfl, hB2, rfl, by omega, by rw [filter_step hp, if_neg (by rw [hc71]; decide), List.append_nil]; exact hOl, by rw [filter_step hp, if_pos (by rw [hc71]; rfl)]; exact hO9, by omega, by omega⟩ (.cons rfl (.cons rfl (.cons rfl (.cons rfl (.cons rfl (.cons rfl (.cons rfl (.cons rfl (.cons rfl (.cons rfl .nil)))))))))) List.perm_append_comm (by simp only [List.append_nil]; exact subL_app (.drop .refl))
    ·
     have hge_k : n ≤ k := by have h := hc64; simp at h; omega
     rw [take_all hP.1.len hge_k] at hOl hOd
     have hord : [(ps.filter fun p => !tg.contains p.id).reverse, ps.filter fun p => tg.contains p.id].flatten = ordP ps tg := by simp [ordP]
     refine X_exit ?_
     refine at_then_e ?_
     refine at_then_e ?_
     refine at_block_hit ?_
     refine at_then ?_
     refine X_seq ?_
     refine X_freezeO hOl encP_len (by decide) (by repeat (first | exact .cons .here .nil | exact split_all | exact split_app | apply split_cons | apply split_skip)) (fun I9 hI9 ea ec e9 hLn => ?_)
     subst e9
     have hP := hP.mono hI9
     have hT := hT.mono hI9
     have hV := hV.mono hI9
     have hG1 := hG1.mono hI9
     have hG2 := hG2.mono hI9
     have hA := hA.mono hI9
     have hIc := hIc.trans hI9
     have hB0 := hB0.trans hI9
     have hB2 := hB2.trans hI9
     refine X_region ?_
     refine zM ?_
     refine XO_callM (cap := []) (vs := [_]) rfl rfl fun_44 (by repeat (first | exact .cons .here .nil | exact split_all | exact split_app | apply split_cons | apply split_skip)) (w_revP _ hOd (by omega) _) rfl rfl ?_
     rintro vv10 I10 L10 hI10 ⟨rfl, rfl, hOr⟩
     have hP := hP.mono hI10
     have hT := hT.mono hI10
     have hV := hV.mono hI10
     have hG1 := hG1.mono hI10
     have hG2 := hG2.mono hI10
     have hA := hA.mono hI10
     have hLn := hLn.mono hI10
     have hIc := hIc.trans hI10
     have hB0 := hB0.trans hI10
     have hB2 := hB2.trans hI10
     refine XO_nil (at_then ?_)
     refine X_seq ?_
     refine X_freezeO hOr encP_len (by decide) (by repeat (first | exact .cons .here .nil | exact split_all | exact split_app | apply split_cons | apply split_skip)) (fun I11 hI11 da dc e11 hDr => ?_)
     subst e11
     have hP := hP.mono hI11
     have hT := hT.mono hI11
     have hV := hV.mono hI11
     have hG1 := hG1.mono hI11
     have hG2 := hG2.mono hI11
     have hA := hA.mono hI11
     have hLn := hLn.mono hI11
     have hIc := hIc.trans hI11
     have hB0 := hB0.trans hI11
     have hB2 := hB2.trans hI11
     refine X_region ?_
     refine XO_makeMap rfl rfl (fun r_84 => ?_)
     refine XO_makeMap rfl rfl (fun r_85 => ?_)
     refine zA ?_
     refine zA ?_
     refine XO_nil (at_then ?_)
     refine X_seq ?_
     refine X_seq (X_region ?_)
     refine zM ?_
     refine XO_v0 (ev_lenS rfl slt_22) rfl rfl rfl ?_
     refine zM ?_
     refine XO_nil (at_then ?_)
     refine X_block ?_
     refine X_loopT [(1, _), (2, _), (6, _), (12, _), (13, _), (14, _), (17, _), (18, _), (86, _), (87, _)] (.cons rfl (.cons rfl (.cons rfl (.cons rfl (.cons rfl (.cons rfl (.cons rfl (.cons rfl (.cons rfl (.cons rfl .nil)))))))))) (fun T L0 mz E I' loc' => ∃ (k : Nat), mz = n - k ∧ E = (88, .int .i64 k) :: T ∧ HLe I11 I' ∧ [(r_85, mapO (Value.int .i64) needV (nmM (ps.take k))), (r_84, mapO (Value.int .i64) (Value.int .i64) (atM []))] = loc' ∧ k ≤ n) _ _ _ _ ⟨0, rfl, rfl, HLe.refl _, rfl, Nat.zero_le _⟩ (.cons rfl (.cons rfl (.cons rfl (.cons rfl (.cons rfl (.cons rfl (.cons rfl (.cons rfl (.cons rfl (.cons rfl (.cons rfl .nil))))))))))) (HLe.refl _) rfl ?_
     rintro mz E J12 loc' ⟨k, rfl, rfl, hJ, rfl, hk⟩
     have hP := hP.mono hJ
     have hT := hT.mono hJ
     have hV := hV.mono hJ
     have hG1 := hG1.mono hJ
     have hG2 := hG2.mono hJ
     have hA := hA.mono hJ
     have hLn := hLn.mono hJ
     have hDr := hDr.mono hJ
     have hIc := hIc.trans hJ
     have hB0 := hB0.trans hJ
     have hB2 := hB2.trans hJ
     have hB5 := hJ
     refine X_seq (X_region ?_)
     refine zC ?_
     refine XO_nil (at_then ?_)
     refine X_seq ?_
     refine X_cond rfl (fun hc89 => ?_) (fun hc89 => ?_)
     ·
      have hlt_k : k < n := by have h := hc89; simp at h; omega
      obtain ⟨p, hp, hN⟩ := hP.at hlt_k
      refine X_skip ?_
      refine at_then ?_
      refine X_seq ?_
      refine X_block ?_
      refine X_seq (X_region ?_)
      refine XO_v0 (ev_indexSl rfl rfl slt_22 hP.1 (fun hg => by first | omega | (simp [conj] at hg; omega))) rfl rfl rfl ?_
      refine XO_v0 (ev_loadA rfl agt_65 (fun hg => by first | exact Sl.getA hP.1 hp | exact Cells.immC h16 | exact Sl.getA hOS hp | (repeat (first | exact Cells.here | exact Cells.s0 (vs := [_, _, _, _, _, _, _, _, _, _, _, _, _, _, _, _, _, _, _]) rfl | apply Cells.there | apply Cells.app))) rfl) rfl rfl rfl ?_
      refine XO_alloc zt_65 rfl rfl (fun b_20 => ?_)
      refine XO_storeA rfl rfl szt_65 rfl rfl rfl rfl (by repeat (first | exact Upd.here | apply Upd.there | apply upd_app)) ?_
      refine XO_nil (at_then ?_)
      refine X_freeze .here (fun I13 hI13 hb13 => ?_)
      have hP := hP.mono hI13
      have hT := hT.mono hI13
      have hV := hV.mono hI13
      have hG1 := hG1.mono hI13
      have hG2 := hG2.mono hI13
      have hA := hA.mono hI13
      have hLn := hLn.mono hI13
      have hDr := hDr.mono hI13
      have hIc := hIc.trans hI13
      have hB0 := hB0.trans hI13
      have hB2 := hB2.trans hI13
      have hB5 := hB5.trans hI13
      have h20 := ImmC.of hb13
      refine X_region ?_
      refine zM ?_
      refine XO_v0 (ev_fieldAddr rfl fld_65_0) rfl rfl rfl ?_
      refine XO_v0 (ev_load rfl sct_3 (fun hg => by first | exact Sl.get0 hA hh0 rfl | exact Sl.get0 hV.1 hh0 rfl | exact Cell.imm h16 rfl | exact Cell.imm h20 rfl | exact Cell.imm h22 rfl | (repeat (first | exact Cell.here rfl | apply Cell.there | apply Cell.app)))) rfl rfl rfl ?_
      refine XO_v0 (ev_fieldAddr rfl fld_65_5) rfl rfl rfl ?_
      refine XO_v0 (ev_load rfl sct_23 (fun hg => by first | exact Sl.get0 hA hh0 rfl | exact Sl.get0 hV.1 hh0 rfl | exact Cell.imm h16 rfl | exact Cell.imm h20 rfl | exact Cell.imm h22 rfl | (repeat (first | exact Cell.here rfl | apply Cell.there | apply Cell.app)))) rfl rfl rfl ?_
      refine XO_mapUpdate (m := nmM (ps.take k)) (ek := Value.int .i64) (ev := needV) (a := p.id) p mpt_80 key_3 rfl rfl rfl rfl (by repeat (first | exact Upd.here | apply Upd.there | apply upd_app)) ?_
      rw [nmM_step hL hp]
      refine XO_nil ?_
      refine at_block_n ?_
      refine at_then ?_
      refine X_region ?_
      refine zB ?_
      refine zM ?_
      refine XO_nil ?_
      exact at_met2 _ _ ⟨n - (k + 1), by omega, k + 1, rfl, rfl, hB5, rfl, by omega⟩ (.cons rfl (.cons rfl (.cons rfl (.cons rfl (.cons rfl (.cons rfl (.cons rfl (.cons rfl (.cons rfl (.cons rfl (.cons rfl .nil))))))))))) (by repeat (first | exact .refl | exact subL_left | refine subL_app ?_ | refine .drop ?_ | refine subL_add ?_))
     ·
      have hge_k : n ≤ k := by have h := hc89; simp at h; omega
      rw [take_all hP.1.len hge_k]
      refine X_exit ?_
      refine at_then_e ?_
      refine at_then_e ?_
      refine at_block_hit ?_
      refine at_then ?_
      refine X_seq ?_
      refine X_seq ?_
      refine X_freeze .here (fun I14 hI14 hb14 => ?_)
      have hP := hP.mono hI14
      have hT := hT.mono hI14
      have hV := hV.mono hI14
      have hG1 := hG1.mono hI14
      have hG2 := hG2.mono hI14
      have hA := hA.mono hI14
      have hLn := hLn.mono hI14
      have hDr := hDr.mono hI14
      have hIc := hIc.trans hI14
      have hB0 := hB0.trans hI14
      have hB2 := hB2.trans hI14
      have hB5 := hB5.trans hI14
      have hnm := ImmC.of hb14
      refine X_region ?_
      refine zM ?_
      refine zM ?_
      refine XO_buildSlice (ps := [(0, _), (1, _)]) (m := [encH ⟨da, qd, dc⟩, encH ⟨ea, ql, ec⟩]) elt_118 rfl (.cons rfl (.cons rfl (.nil))) rfl (by simp [encH_len]) (by decide) (by decide) rfl rfl (fun b_100 => ?_)
      refine XO_freeze (by repeat (first | exact Take.here | apply Take.there)) (fun I15 hI15 hb15 => ?_)
      have hP := hP.mono hI15
      have hT := hT.mono hI15
      have hV := hV.mono hI15
      have hG1 := hG1.mono hI15
      have hG2 := hG2.mono hI15
      have hA := hA.mono hI15
      have hLn := hLn.mono hI15
      have hDr := hDr.mono hI15
      have hnm := hnm.mono hI15
      have hIc := hIc.trans hI15
      have hB0 := hB0.trans hI15
      have hB2 := hB2.trans hI15
      have hB5 := hB5.trans hI15
      have hG3 := Sl.lit [(⟨da, qd, dc⟩ : Hd), ⟨ea, ql, ec⟩] rfl encH_len (show I15 b_100 = some (Obj.cells ([(⟨da, qd, dc⟩ : Hd), ⟨ea, ql, ec⟩].flatMap encH).toArray 22 (0, 0)) from hb15)
      refine XO_callM (cap := []) (vs := [_]) rfl rfl fun_45 .nil (w_concatP (vss := [_, _]) ⟨hG3, .cons hDr (.cons hLn .nil)⟩ (by omega) (by rw [hord, ordP_len]; omega)) rfl rfl ?_
      rintro vv16 I16 L16 hI16 ⟨rfl, hO⟩
      have hP := hP.mono hI16
      have hT := hT.mono hI16
      have hV := hV.mono hI16
      have hG1 := hG1.mono hI16
      have hG2 := hG2.mono hI16
      have hA := hA.mono hI16
      have hLn := hLn.mono hI16
      have hDr := hDr.mono hI16
      have hnm := hnm.mono hI16
      have hG3 := hG3.mono hI16
      have hIc := hIc.trans hI16
      have hB0 := hB0.trans hI16
      have hB2 := hB2.trans hI16
      have hB5 := hB5.trans hI16
      rw [hord, ordP_len, hlp] at hO
      refine XO_freezeO hO encP_len (by decide) (by repeat (first | exact .cons .here .nil | exact split_all | exact split_app | apply split_cons | apply split_skip)) (fun I17 hI17 oa oc e17 hOS => ?_)
      subst e17
      have hP := hP.mono hI17
      have hT := hT.mono hI17
      have hV := hV.mono hI17
      have hG1 := hG1.mono hI17
      have hG2 := hG2.mono hI17
      have hA := hA.mono hI17
      have hLn := hLn.mono hI17
      have hDr := hDr.mono hI17
      have hnm := hnm.mono hI17
      have hG3 := hG3.mono hI17
      have hIc := hIc.trans hI17
      have hB0 := hB0.trans hI17
      have hB2 := hB2.trans hI17
      have hB5 := hB5.trans hI17
      refine XO_v0 (ev_lenS rfl slt_22) rfl rfl rfl ?_
      refine zM ?_
      refine XO_nil (at_then ?_)
      refine X_block ?_
      refine X_loopT [(1, _), (2, _), (12, _), (17, _), (18, _), (101, _), (102, _)] (.cons rfl (.cons rfl (.cons rfl (.cons rfl (.cons rfl (.cons rfl (.cons rfl .nil))))))) (fun T L0 mz E I' loc' => ∃ (k : Nat) (v6 : Value) (L : Go.Kn.Loc) (hs : List SH), mz = n - k ∧ E = (6, v6) :: (103, .int .i64 k) :: T ∧ HLe I17 I' ∧ L ++ [(r_84, mapO (Value.int .i64) (Value.int .i64) (atM (kpP tg has (ordP ps tg) k)))] = loc' ∧ k ≤ n ∧ OwnS 58 4 v6 (kpP tg has (ordP ps tg) k).length (hs.flatMap encSH) L ∧ RelS I' hs (sesL tg has (kpP tg has (ordP ps tg) k))) _ _ _ _ ⟨0, _, [], [], rfl, rfl, HLe.refl _, rfl, Nat.zero_le _, OwnS.nil, RelS.nil⟩ (.cons rfl (.cons rfl (.cons rfl (.cons rfl (.cons rfl (.cons rfl (.cons rfl (.cons rfl (.cons rfl .nil))))))))) (HLe.refl _) rfl ?_
      rintro mz E J18 loc' ⟨k, v6, L, hs, rfl, rfl, hJ, rfl, hk, hO6, hRl⟩
      have hP := hP.mono hJ
      have hT := hT.mono hJ
      have hV := hV.mono hJ
      have hG1 := hG1.mono hJ
      have hG2 := hG2.mono hJ
      have hA := hA.mono hJ
      have hLn := hLn.mono hJ
      have hDr := hDr.mono hJ
      have hnm := hnm.mono hJ
      have hG3 := hG3.mono hJ
      have hOS := hOS.mono hJ
      have hIc := hIc.trans hJ
      have hB0 := hB0.trans hJ
      have hB2 := hB2.trans hJ
      have hB5 := hB5.trans hJ
      have hB7 := hJ
      obtain ⟨la, lc, rfl⟩ := hO6.shape
      refine X_seq (X_region ?_)
      refine zC ?_
      refine XO_nil (at_then ?_)
      refine X_seq ?_
      refine X_cond rfl (fun hc104 => ?_) (fun hc104 => ?_)
      ·
       have hlt_k : k < n := by have h := hc104; simp at h; omega
       obtain ⟨p, hp⟩ := hOS.at hlt_k
       have hpm := mem_ordP.1 (List.mem_of_getElem? hp)
       have hN : Sl J18 1 encI p.a p.n p.c p.needs := hP.2 p hpm
       have hpn := hnd p hpm
       refine X_skip ?_
       refine at_then ?_
       refine X_seq ?_
       refine X_block ?_
       refine X_seq (X_region ?_)
       refine XO_v0 (ev_indexSl rfl rfl slt_22 hOS (fun hg => by first | omega | (simp [conj] at hg; omega))) rfl rfl rfl ?_
       refine XO_v0 (ev_loadA rfl agt_65 (fun hg => by first | exact Sl.getA hP.1 hp | exact Cells.immC h16 | exact Sl.getA hOS hp | (repeat (first | exact Cells.here | exact Cells.s0 (vs := [_, _, _, _, _, _, _, _, _, _, _, _, _, _, _, _, _, _, _]) rfl | apply Cells.there | apply Cells.app))) rfl) rfl rfl rfl ?_
       refine XO_alloc zt_65 rfl rfl (fun b_22 => ?_)
       refine XO_storeA rfl rfl szt_65 rfl rfl rfl rfl (by repeat (first | exact Upd.here | apply Upd.there | apply upd_app)) ?_
       refine XO_nil (at_then ?_)
       refine X_seq ?_
       refine X_freeze .here (fun I19 hI19 hb19 => ?_)
       have hP := hP.mono hI19
       have hT := hT.mono hI19
       have hV := hV.mono hI19
       have hG1 := hG1.mono hI19
       have hG2 := hG2.mono hI19
       have hA := hA.mono hI19
       have hLn := hLn.mono hI19
       have hDr := hDr.mono hI19
       have hnm := hnm.mono hI19
       have hG3 := hG3.mono hI19
       have hOS := hOS.mono hI19
       have hRl := hRl.mono hI19
       have hN := hN.mono hI19
       have hIc := hIc.trans hI19
       have hB0 := hB0.trans hI19
       have hB2 := hB2.trans hI19
       have hB5 := hB5.trans hI19
       have hB7 := hB7.trans hI19
       have h22 := ImmC.of hb19
       refine X_region ?_
       refine XO_v0 (ev_fieldAddr rfl fld_65_0) rfl rfl rfl ?_
       refine XO_v0 (ev_load rfl sct_3 (fun hg => by first | exact Sl.get0 hA hh0 rfl | exact Sl.get0 hV.1 hh0 rfl | exact Cell.imm h16 rfl | exact Cell.imm h20 rfl | exact Cell.imm h22 rfl | (repeat (first | exact Cell.here rfl | apply Cell.there | apply Cell.app)))) rfl rfl rfl ?_
       refine XO_v0 (ev_buildL (ps := [(0, _), (1, _)]) [_, _, _, _] plt_58 rfl rfl) rfl rfl rfl ?_
       refine XO_alloc zt_58 rfl rfl (fun b_23 => ?_)
       refine XO_storeA rfl rfl szt_58 rfl rfl rfl rfl (by repeat (first | exact Upd.here | apply Upd.there | apply upd_app)) ?_
       refine XO_nil (at_then ?_)
       refine X_seq ?_
       refine X_seq (X_region ?_)
       refine zM ?_
       refine XO_v0 (ev_lenS rfl slt_24) rfl rfl rfl ?_
       refine zM ?_
       refine XO_nil (at_then ?_)
       refine X_block ?_
       refine X_loopT [(1, _), (2, _), (6, _), (12, _), (17, _), (18, _), (22, _), (23, _), (101, _), (102, _), (103, _), (110, _), (111, _)] (.cons rfl (.cons rfl (.cons rfl (.cons rfl (.cons rfl (.cons rfl (.cons rfl (.cons rfl (.cons rfl (.cons rfl (.cons rfl (.cons rfl (.cons rfl .nil))))))))))))) (fun T L0 mz E I' loc' => ∃ (i : Nat) (vw : Value) (Lw : Go.Kn.Loc), mz = n3 - i ∧ E = (112, .int .i64 i) :: T ∧ I19 = I' ∧ Lw ++ ((b_23, .cells #[.int .i64 p.id, .int .i64 1, vw, .slice none 0 0] 58 (0, 0)) :: (L ++ [(r_84, mapO (Value.int .i64) (Value.int .i64) (atM (kpP tg has (ordP ps tg) k)))])) = loc' ∧ i ≤ n3 ∧ OwnS 3 1 vw (diffK tg has p.id i).length ((diffK tg has p.id i).flatMap encI) Lw) _ _ _ _ ⟨0, _, [], rfl, rfl, rfl, rfl, Nat.zero_le _, OwnS.nil⟩ (.cons rfl (.cons rfl (.cons rfl (.cons rfl (.cons rfl (.cons rfl (.cons rfl (.cons rfl (.cons rfl (.cons rfl (.cons rfl (.cons rfl (.cons rfl (.cons rfl .nil)))))))))))))) (HLe.refl _) rfl ?_
       rintro mz E I' loc' ⟨i, vw, Lw, rfl, rfl, rfl, rfl, hi, hOw⟩
       refine X_seq (X_region ?_)
       refine zC ?_
       refine XO_nil (at_then ?_)
       refine X_seq ?_
       refine X_cond rfl (fun hc113 => ?_) (fun hc113 => ?_)
       ·
        have hlt_i : i < n3 := by have h := hc113; simp at h; omega
        obtain ⟨h0, v0, hh0, hv0, hS0⟩ := hV.at hlt_i
        have hv0l := hvl v0 (List.mem_of_getElem? hv0)
        have hv0v := ver_iff hk0 (hvers v0 (List.mem_cons_of_mem _ (List.mem_of_getElem? hv0)))
        have hl0 := hS0.len
        have hdl9 := diffK_len tg has p.id i
        refine X_skip ?_
        refine at_then ?_
        refine X_seq ?_
        refine X_block ?_
        refine X_seq (X_region ?_)
        refine zM ?_
        refine XO_v0 (ev_indexSl rfl rfl slt_24 hV.1 (fun hg => by first | omega | (simp [conj] at hg; omega))) rfl rfl rfl ?_
        refine XO_v0 (ev_load rfl sct_23 (fun hg => by first | exact Sl.get0 hA hh0 rfl | exact Sl.get0 hV.1 hh0 rfl | exact Cell.imm h16 rfl | exact Cell.imm h20 rfl | exact Cell.imm h22 rfl | (repeat (first | exact Cell.here rfl | apply Cell.there | apply Cell.app)))) rfl rfl rfl ?_
        refine zA ?_
        refine zA ?_
        refine XO_nil (at_then ?_)
        refine X_seq ?_
        refine X_draw mixed (by kernel_rfl) ?_
        refine XQ_v0 (ev_move rfl) rfl rfl rfl ?_
        refine XQ_v0 (ev_move rfl) rfl rfl rfl ?_
        refine XQ_v0 (ev_fieldAddr rfl fld_65_0) rfl rfl rfl ?_
        refine XQ_v0 (ev_load rfl sct_3 (fun hg => by first | exact Sl.get0 hA hh0 rfl | exact Sl.get0 hV.1 hh0 rfl | exact Cell.imm h16 rfl | exact Cell.imm h20 rfl | exact Cell.imm h22 rfl | (repeat (first | exact Cell.here rfl | apply Cell.there | apply Cell.app)))) rfl rfl rfl ?_
        refine XQ_callV0 (cap := []) (vs := [_, _]) rfl rfl fun_42 (w_in hS0 (by omega) hv0v.inc p.id) rfl rfl ?_
        refine XQ_v0 (ev_move rfl) rfl rfl rfl ?_
        refine XQ_v0 (ev_move rfl) rfl rfl rfl ?_
        refine XQ_v0 (ev_fieldAddr rfl fld_65_0) rfl rfl rfl ?_
        refine XQ_v0 (ev_load rfl sct_3 (fun hg => by first | exact Sl.get0 hA hh0 rfl | exact Sl.get0 hV.1 hh0 rfl | exact Cell.imm h16 rfl | exact Cell.imm h20 rfl | exact Cell.imm h22 rfl | (repeat (first | exact Cell.here rfl | apply Cell.there | apply Cell.app)))) rfl rfl rfl ?_
        refine XQ_callV0 (cap := []) (vs := [_, _]) rfl rfl fun_42 (w_in hT (by omega) hTv.inc p.id) rfl rfl ?_
        refine XQ_v0 (ev_boolN rfl rfl und_4) rfl rfl rfl ?_
        refine XQ_nil ?_
        refine at_then ?_
        refine X_cond rfl (fun hc127 => ?_) (fun hc127 => ?_)
        ·
         refine X_region ?_
         refine XO_v0 (ev_fieldAddr rfl fld_58_2) rfl rfl rfl ?_
         refine XO_v0 (ev_load rfl sct_23 (fun hg => by first | exact Sl.get0 hA hh0 rfl | exact Sl.get0 hV.1 hh0 rfl | exact Cell.imm h16 rfl | exact Cell.imm h20 rfl | exact Cell.imm h22 rfl | (repeat (first | exact Cell.here rfl | apply Cell.there | apply Cell.app)))) rfl rfl rfl ?_
         refine zM ?_
         refine XO_buildSlice (ps := [(0, _)]) (m := [encI (i : Int)]) elt_23 rfl (.cons rfl (.nil)) rfl (by simp [encI_len]) (by decide) (by decide) rfl rfl (fun b_131 => ?_)
         refine XO_append (v := _) (ys := [(i : Int)].flatMap encI) (L := Lw) rfl rfl elt_23 hOw (by repeat (first | exact .cons .here .nil | exact split_all | exact split_app | apply split_cons | apply split_skip)) ⟨rfl, fun _ => rfl, by repeat (first | exact Cells.here | apply Cells.there | apply Cells.app)⟩ (one_I _) (by omega) rfl rfl ?_
         intro v9 L9 hO9 _; rw [← List.flatMap_append] at hO9
         refine XO_v0 (ev_fieldAddr rfl fld_58_2) rfl rfl rfl ?_
         refine XO_store rfl rfl szt_23 hO9.one rfl (by repeat (first | exact Upd.here | apply Upd.there | apply upd_app)) rfl ?_
         refine XO_nil ?_
         refine at_block_n ?_
         refine at_then ?_
         refine X_region ?_
         refine zB ?_
         refine zM ?_
         refine XO_nil ?_
         first
         | exact at_met2 _ _ ⟨n3 - (i + 1), by omega, i + 1, _, _, rfl, rfl, rfl, rfl, by omega, by rw [diffK_yes hv0 hc127, List.length_append, List.length_singleton]; exact hO9⟩ (.cons rfl (.cons rfl (.cons rfl (.cons rfl (.cons rfl (.cons rfl (.cons rfl (.cons rfl (.cons rfl (.cons rfl (.cons rfl (.cons rfl (.cons rfl (.cons rfl .nil)))))))))))))) (by repeat (first | exact .refl | exact subL_left | refine subL_app ?_ | refine .drop ?_ | refine subL_add ?_))
        ·
         refine X_skip ?_
         refine at_block_n ?_
         refine at_then ?_
         refine X_region ?_
         refine zB ?_
         refine zM ?_
         refine XO_nil ?_
         first
         | exact at_met2 _ _ ⟨n3 - (i + 1), by omega, i + 1, _, _, rfl, rfl, rfl, rfl, by omega, by rw [diffK_no hv0 hc127]; exact hOw⟩ (.cons rfl (.cons rfl (.cons rfl (.cons rfl (.cons rfl (.cons rfl (.cons rfl (.cons rfl (.cons rfl (.cons rfl (.cons rfl (.cons rfl (.cons rfl (.cons rfl .nil)))))))))))))) (by repeat (first | exact .refl | exact subL_left | refine subL_app ?_ | refine .drop ?_ | refine subL_add ?_))
       ·
        have hge_i : n3 ≤ i := by have h := hc113; simp at h; omega
        obtain rfl : i = has.length := by omega
        rw [diffK_all] at hOw
        refine X_exit ?_
        refine at_then_e ?_
        refine at_then_e ?_
        refine at_block_hit ?_
        refine at_then ?_
        refine X_seq ?_
        refine X_seq ?_
        refine X_freezeO hOw encI_len (by decide) (by repeat (first | exact .cons .here .nil | exact split_all | exact split_app | apply split_cons | apply split_skip)) (fun I21 hI21 wa wc e21 hW => ?_)
        subst e21
        have hP := hP.mono hI21
        have hT := hT.mono hI21
        have hV := hV.mono hI21
        have hG1 := hG1.mono hI21
        have hG2 := hG2.mono hI21
        have hA := hA.mono hI21
        have hLn := hLn.mono hI21
        have hDr := hDr.mono hI21
        have hnm := hnm.mono hI21
        have hG3 := hG3.mono hI21
        have hOS := hOS.mono hI21
        have hRl := hRl.mono hI21
        have hN := hN.mono hI21
        have h22 := h22.mono hI21
        have hIc := hIc.trans hI21
        have hB0 := hB0.trans hI21
        have hB2 := hB2.trans hI21
        have hB5 := hB5.trans hI21
        have hB7 := hB7.trans hI21
        refine X_region ?_
        refine XO_v0 (ev_fieldAddr rfl fld_58_2) rfl rfl rfl ?_
        refine XO_v0 (ev_load rfl sct_23 (fun hg => by first | exact Sl.get0 hA hh0 rfl | exact Sl.get0 hV.1 hh0 rfl | exact Cell.imm h16 rfl | exact Cell.imm h20 rfl | exact Cell.imm h22 rfl | (repeat (first | exact Cell.here rfl | apply Cell.there | apply Cell.app)))) rfl rfl rfl ?_
        refine XO_v0 (ev_lenS rfl slt_23) rfl rfl rfl ?_
        refine zC ?_
        refine XO_nil (at_then ?_)
        refine X_cond rfl (fun hc138 => ?_) (fun hc138 => ?_)
        ·
         have hw0 : diffW tg has p.id = [] := by simpa using hc138
         refine X_exit ?_
         refine at_then_e ?_
         refine at_block_hit ?_
         refine at_then ?_
         refine X_region ?_
         refine zB ?_
         refine zM ?_
         refine XO_nil ?_
         first
         | exact at_met2 _ (L ++ [(r_84, mapO (Value.int .i64) (Value.int .i64) (atM (kpP tg has (ordP ps tg) k)))]) ⟨n - (k + 1), by omega, k + 1, _, L, hs, rfl, rfl, hB7, by rw [kpP_no hp hw0], by omega, by rw [kpP_no hp hw0]; exact hO6, by rw [kpP_no hp hw0]; exact hRl⟩ (.cons rfl (.cons rfl (.cons rfl (.cons rfl (.cons rfl (.cons rfl (.cons rfl (.cons rfl (.cons rfl .nil))))))))) (by repeat (first | exact .refl | exact subL_left | refine subL_app ?_ | refine .drop ?_ | refine subL_add ?_))
        ·
         have hw1 : diffW tg has p.id ≠ [] := fun e => by rw [e] at hc138; simp at hc138
         refine X_skip ?_
         refine at_then ?_
         refine X_cutT [(1, _), (2, _), (6, _), (12, _), (17, _), (18, _), (22, _), (23, _), (101, _), (102, _), (103, _)] (.cons rfl (.cons rfl (.cons rfl (.cons rfl (.cons rfl (.cons rfl (.cons rfl (.cons rfl (.cons rfl (.cons rfl (.cons rfl .nil))))))))))) (fun T L0 E I' loc' => ∃ (ef : Int), E = T ∧ I21 = I' ∧ (b_23, .cells #[.int .i64 p.id, .int .i64 ef, (.slice wa (diffW tg has p.id).length wc), .slice none 0 0] 58 (0, 0)) :: (L ++ [(r_84, mapO (Value.int .i64) (Value.int .i64) (atM (kpP tg has (ordP ps tg) k)))]) = loc' ∧ ef = (if p.kind = 2 then 2 else 1)) ?_ ?_
         ·
          refine X_seq (X_region ?_)
          refine XO_v0 (ev_fieldAddr rfl fld_65_1) rfl rfl rfl ?_
          refine XO_v0 (ev_load rfl sct_3 (fun hg => by first | exact Sl.get0 hA hh0 rfl | exact Sl.get0 hV.1 hh0 rfl | exact Cell.imm h16 rfl | exact Cell.imm h20 rfl | exact Cell.imm h22 rfl | (repeat (first | exact Cell.here rfl | apply Cell.there | apply Cell.app)))) rfl rfl rfl ?_
          refine zC ?_
          refine XO_nil (at_then ?_)
          refine X_cond rfl (fun hc141 => ?_) (fun hc141 => ?_)
          ·
           refine X_region ?_
           refine XO_v0 (ev_fieldAddr rfl fld_58_1) rfl rfl rfl ?_
           refine zS szt_3 ?_
           refine XO_nil ?_
           exact at_met2 _ _ ⟨2, rfl, rfl, rfl, by rw [if_pos (by simpa using hc141)]⟩ (.cons rfl (.cons rfl (.cons rfl (.cons rfl (.cons rfl (.cons rfl (.cons rfl (.cons rfl (.cons rfl (.cons rfl (.cons rfl .nil))))))))))) .refl
          ·
           refine X_skip ?_
           exact at_met2 _ _ ⟨1, rfl, rfl, rfl, by rw [if_neg (by simpa using hc141)]⟩ (.cons rfl (.cons rfl (.cons rfl (.cons rfl (.cons rfl (.cons rfl (.cons rfl (.cons rfl (.cons rfl (.cons rfl (.cons rfl .nil))))))))))) .refl
         ·
          rintro E I' loc' ⟨ef, rfl, rfl, rfl, hef⟩
          refine X_seq ?_
          refine X_seq (X_region ?_)
          refine zM ?_
          refine XO_range (ek := Value.int .i64) (ev := Value.int .i64) (m := atM (kpP tg has (ordP ps tg) k)) rfl mpt_79 rfl rfl (.inr (by simp)) (fun b_144 => ?_)
          refine XO_nil (at_then ?_)
          refine X_block ?_
          refine X_loopT [(1, _), (2, _), (6, _), (12, _), (17, _), (18, _), (22, _), (23, _), (101, _), (102, _), (103, _), (144, _)] (.cons rfl (.cons rfl (.cons rfl (.cons rfl (.cons rfl (.cons rfl (.cons rfl (.cons rfl (.cons rfl (.cons rfl (.cons rfl (.cons rfl .nil)))))))))))) (fun T L0 mz E I' loc' => ∃ (seen : List Nat) (vn : Value) (Ln : Go.Kn.Loc), mz = (atM (kpP tg has (ordP ps tg) k)).length - seen.length ∧ E = T ∧ I21 = I' ∧ Ln ++ ((b_144, iterO r_84 (atM (kpP tg has (ordP ps tg) k)).length seen) :: (b_23, .cells #[.int .i64 p.id, .int .i64 ef, (.slice wa (diffW tg has p.id).length wc), vn] 58 (0, 0)) :: (L ++ [(r_84, mapO (Value.int .i64) (Value.int .i64) (atM (kpP tg has (ordP ps tg) k)))])) = loc' ∧ OwnS 3 1 vn (gthN tg (kpP tg has (ordP ps tg) k) p seen).length ((gthN tg (kpP tg has (ordP ps tg) k) p seen).flatMap encI) Ln ∧ seen.Nodup ∧ ∀ i ∈ seen, i < (atM (kpP tg has (ordP ps tg) k)).length) _ _ _ _ ⟨[], _, [], rfl, rfl, rfl, rfl, OwnS.nil, .nil, fun i h => by cases h⟩ (.cons rfl (.cons rfl (.cons rfl (.cons rfl (.cons rfl (.cons rfl (.cons rfl (.cons rfl (.cons rfl (.cons rfl (.cons rfl (.cons rfl .nil)))))))))))) (HLe.refl _) rfl ?_
          rintro mz E I' loc' ⟨seen, vn, Ln, rfl, rfl, rfl, rfl, hOn, hnd2, hlt2⟩
          have hsl := seen_lt hnd2 hlt2
          have hkl9 := kpP_len (tg := tg) (has := has) (os := ordP ps tg) (k := k)
          rw [ordP_len, hlp] at hkl9
          have hal9 := atM_len (kpP tg has (ordP ps tg) k)
          have hgl9 := gthN_len (tg := tg) (ks := (kpP tg has (ordP ps tg) k)) (p := p) seen
          refine X_seq (X_region ?_)
          refine XO_next2 (ek := Value.int .i64) (ev := Value.int .i64) (m := atM (kpP tg has (ordP ps tg) k)) (fun s' => Ln ++ ((b_144, iterO r_84 (atM (kpP tg has (ordP ps tg) k)).length s') :: (b_23, .cells #[.int .i64 p.id, .int .i64 ef, (.slice wa (diffW tg has p.id).length wc), vn] 58 (0, 0)) :: (L ++ [(r_84, mapO (Value.int .i64) (Value.int .i64) (atM (kpP tg has (ordP ps tg) k)))]))) rfl (fun s' => upd_app .here) rfl rfl rfl rfl rfl (.inr (by simp)) (by simp) ?_
          intro t tv s' hno hyes
          refine XO_nil (at_then ?_)
          refine X_seq ?_
          refine X_cond rfl (fun hc146 => ?_) (fun hc146 => ?_)
          ·
           obtain ⟨i, q, hq, hns, rfl⟩ := hyes hc146
           obtain ⟨pq, hpq, rfl⟩ := atM_at hq
           have hpqm := mem_ordP.1 (kpP_sub (List.mem_of_getElem? hpq))
           have hNq : Sl I21 1 encI pq.a pq.n pq.c pq.needs := hP.2 pq hpqm
           have hqn := hnd pq hpqm
           obtain ⟨hnd3, hlt3⟩ := seen_more hnd2 hlt2 hns (List.getElem?_eq_some_iff.1 hq).1
           have hsl2 := seen_lt hnd3 hlt3
           rw [List.length_append, List.length_singleton] at hsl2
           refine X_skip ?_
           refine at_then ?_
           refine X_block ?_
           refine X_seq (X_region ?_)
           refine XO_v0 (ev_entry (ek := Value.int .i64) (ev := Value.int .i64) (m := atM (kpP tg has (ordP ps tg) k)) (r := r_84) (b := b_144) (p := (pq.id, (i : Int))) (seen := seen) (i := i) rfl (.inr (by simp)) (.inr (by simp)) hq) rfl rfl rfl ?_
           refine XO_v0 (ev_extract rfl rfl) rfl rfl rfl ?_
           refine XO_v0 (ev_extract rfl rfl) rfl rfl rfl ?_
           refine zA ?_
           refine zA ?_
           refine XO_nil (at_then (X_seq (X_region ?_)))
           refine zM ?_
           refine zM ?_
           refine XO_v0 (ev_fieldAddr rfl fld_65_0) rfl rfl rfl ?_
           refine XO_v0 (ev_load rfl sct_3 (fun hg => by first | exact Sl.get0 hA hh0 rfl | exact Sl.get0 hV.1 hh0 rfl | exact Cell.imm h16 rfl | exact Cell.imm h20 rfl | exact Cell.imm h22 rfl | (repeat (first | exact Cell.here rfl | apply Cell.there | apply Cell.app)))) rfl rfl rfl ?_
           refine XO_callV0 (cap := []) (vs := [_, _]) rfl rfl fun_42 (w_in hT (by omega) hTv.inc p.id) rfl rfl ?_
           refine zM ?_
           refine XO_pushT 5 rfl rfl rfl ?_
           refine XO_v1 (ev_fieldAddr rfl fld_65_5) (.some rfl rfl rfl rfl gbt) rfl rfl rfl ?_
           refine XO_v1 (ev_load rfl sct_23 (fun hg => by first | exact Sl.get0 hA hh0 rfl | exact Sl.get0 hV.1 hh0 rfl | exact Cell.imm h16 rfl | exact Cell.imm h20 rfl | exact Cell.imm h22 rfl | (repeat (first | exact Cell.here rfl | apply Cell.there | apply Cell.app)))) (.some rfl rfl rfl rfl gbt) rfl rfl rfl ?_
           refine XO_v1 (ev_move rfl) (.some rfl rfl rfl rfl gbt) rfl rfl rfl ?_
           refine XO_callV1 (cap := []) (vs := [_, _]) rfl rfl fun_46 (fun hg => w_contains hN (by omega) pq.id) (.some rfl rfl rfl rfl gbt) rfl rfl ?_
           refine XO_and0 rfl rfl rfl rfl rfl ?_
           refine zM ?_
           refine XO_pushF 11 rfl rfl rfl ?_
           refine XO_v1 (ev_move rfl) (.some rfl rfl rfl rfl gbf) rfl rfl rfl ?_
           refine XO_v1 (ev_move rfl) (.some rfl rfl rfl rfl gbf) rfl rfl rfl ?_
           refine XO_v1 (ev_fieldAddr rfl fld_65_0) (.some rfl rfl rfl rfl gbf) rfl rfl rfl ?_
           refine XO_v1 (ev_load rfl sct_3 (fun hg => by first | exact Sl.get0 hA hh0 rfl | exact Sl.get0 hV.1 hh0 rfl | exact Cell.imm h16 rfl | exact Cell.imm h20 rfl | exact Cell.imm h22 rfl | (repeat (first | exact Cell.here rfl | apply Cell.there | apply Cell.app)))) (.some rfl rfl rfl rfl gbf) rfl rfl rfl ?_
           refine XO_callV1 (cap := []) (vs := [_, _]) rfl rfl fun_42 (fun hg => w_in hT (by omega) hTv.inc p.id) (.some rfl rfl rfl rfl gbf) rfl rfl ?_
           refine XO_v1 (ev_not rfl) (.some rfl rfl rfl rfl gbf) rfl rfl rfl ?_
           refine XO_v1 (ev_move rfl) (.some rfl rfl rfl rfl gbf) rfl rfl rfl ?_
           refine XO_pushT 18 rfl rfl rfl ?_
           refine XO_v1 (ev_move rfl) (.some rfl rfl rfl rfl gbt) rfl rfl rfl ?_
           refine XO_v1 (ev_move rfl) (.some rfl rfl rfl rfl gbt) rfl rfl rfl ?_
           refine XO_v1 (ev_lookupG (m := nmM ps) (ek := Value.int .i64) (ev := needV) (a := pq.id) (nmM_get hL hpqm) mpt_80 key_3 rfl rfl (fun _ => .inl hnm)) (.some rfl rfl rfl rfl gbt) rfl rfl rfl ?_
           refine XO_v1 (ev_fieldAddr rfl fld_65_0) (.some rfl rfl rfl rfl gbt) rfl rfl rfl ?_
           refine XO_v1 (ev_load rfl sct_3 (fun hg => by first | exact Sl.get0 hA hh0 rfl | exact Sl.get0 hV.1 hh0 rfl | exact Cell.imm h16 rfl | exact Cell.imm h20 rfl | exact Cell.imm h22 rfl | (repeat (first | exact Cell.here rfl | apply Cell.there | apply Cell.app)))) (.some rfl rfl rfl rfl gbt) rfl rfl rfl ?_
           refine XO_callV1 (cap := []) (vs := [_, _]) rfl rfl fun_46 (fun hg => w_contains hNq (by omega) p.id) (.some rfl rfl rfl rfl gbt) rfl rfl ?_
           refine XO_and1 rfl rfl rfl (.some rfl rfl rfl rfl gbf) rfl rfl ?_
           refine XO_or0 rfl rfl rfl rfl rfl ?_
           refine XO_nil (at_then ?_)
           refine X_cond rfl (fun hc176 => ?_) (fun hc176 => ?_)
           ·
            refine X_region ?_
            refine XO_v0 (ev_fieldAddr rfl fld_58_3) rfl rfl rfl ?_
            refine XO_v0 (ev_load rfl sct_23 (fun hg => by first | exact Sl.get0 hA hh0 rfl | exact Sl.get0 hV.1 hh0 rfl | exact Cell.imm h16 rfl | exact Cell.imm h20 rfl | exact Cell.imm h22 rfl | (repeat (first | exact Cell.here rfl | apply Cell.there | apply Cell.app)))) rfl rfl rfl ?_
            refine zM ?_
            refine XO_buildSlice (ps := [(0, _)]) (m := [encI (i : Int)]) elt_23 rfl (.cons rfl (.nil)) rfl (by simp [encI_len]) (by decide) (by decide) rfl rfl (fun b_180 => ?_)
            refine XO_append (v := _) (ys := [(i : Int)].flatMap encI) (L := Ln) rfl rfl elt_23 hOn (by repeat (first | exact .cons .here .nil | exact split_all | exact split_app | apply split_cons | apply split_skip)) ⟨rfl, fun _ => rfl, by repeat (first | exact Cells.here | apply Cells.there | apply Cells.app)⟩ (one_I _) (by omega) rfl rfl ?_
            intro v9 L9 hO9 _; rw [← List.flatMap_append] at hO9
            refine XO_v0 (ev_fieldAddr rfl fld_58_3) rfl rfl rfl ?_
            refine XO_store rfl rfl szt_23 hO9.one rfl (by repeat (first | exact Upd.here | apply Upd.there | apply upd_app)) rfl ?_
            refine XO_nil ?_
            refine at_block_n ?_
            first
            | exact at_met2 _ _ ⟨(atM (kpP tg has (ordP ps tg) k)).length - (seen ++ [i]).length, by rw [List.length_append, List.length_singleton]; omega, seen ++ [i], _, _, rfl, rfl, rfl, rfl, by rw [gthN_yes hpq (ndY_val hc176.symm).symm, List.length_append, List.length_singleton]; exact hO9, hnd3, hlt3⟩ (.cons rfl (.cons rfl (.cons rfl (.cons rfl (.cons rfl (.cons rfl (.cons rfl (.cons rfl (.cons rfl (.cons rfl (.cons rfl (.cons rfl .nil)))))))))))) (by repeat (first | exact .refl | exact subL_left | refine subL_app ?_ | refine .drop ?_ | refine subL_add ?_))
           ·
            refine X_skip ?_
            refine at_block_n ?_
            first
            | exact at_met2 _ _ ⟨(atM (kpP tg has (ordP ps tg) k)).length - (seen ++ [i]).length, by rw [List.length_append, List.length_singleton]; omega, seen ++ [i], _, _, rfl, rfl, rfl, rfl, by rw [gthN_no hpq (ndY_val hc176.symm).symm]; exact hOn, hnd3, hlt3⟩ (.cons rfl (.cons rfl (.cons rfl (.cons rfl (.cons rfl (.cons rfl (.cons rfl (.cons rfl (.cons rfl (.cons rfl (.cons rfl (.cons rfl .nil)))))))))))) (by repeat (first | exact .refl | exact subL_left | refine subL_app ?_ | refine .drop ?_ | refine subL_add ?_))
          ·
           obtain ⟨hs9, hall2⟩ := hno hc146
           have hs9 := hs9.symm
           subst hs9
           refine X_exit ?_
           refine at_then_e ?_
           refine at_then_e ?_
           refine at_block_hit ?_
           refine at_then ?_
           refine X_seq ?_
           have hOn2 := hOn
           rw [flat_int] at hOn2
           refine X_region ?_
           refine XO_v0 (ev_fieldAddr rfl fld_58_3) rfl rfl rfl ?_
           refine XO_v0 (ev_load rfl sct_23 (fun hg => by first | exact Sl.get0 hA hh0 rfl | exact Sl.get0 hV.1 hh0 rfl | exact Cell.imm h16 rfl | exact Cell.imm h20 rfl | exact Cell.imm h22 rfl | (repeat (first | exact Cell.here rfl | apply Cell.there | apply Cell.app)))) rfl rfl rfl ?_
           refine XO_callM (cap := []) (vs := [_]) rfl rfl fun_47 (by repeat (first | exact .cons .here .nil | exact split_all | exact split_app | apply split_cons | apply split_skip)) (w_sort 3 (gthN tg (kpP tg has (ordP ps tg) k) p seen) hOn2 (by omega) _) rfl rfl ?_
           rintro vv24 I24 L24 hI24 ⟨rfl, rfl, hOs⟩
           have hP := hP.mono hI24
           have hT := hT.mono hI24
           have hV := hV.mono hI24
           have hG1 := hG1.mono hI24
           have hG2 := hG2.mono hI24
           have hA := hA.mono hI24
           have hLn := hLn.mono hI24
           have hDr := hDr.mono hI24
           have hnm := hnm.mono hI24
           have hG3 := hG3.mono hI24
           have hOS := hOS.mono hI24
           have hRl := hRl.mono hI24
           have hN := hN.mono hI24
           have h22 := h22.mono hI24
           have hW := hW.mono hI24
           have hIc := hIc.trans hI24
           have hB0 := hB0.trans hI24
           have hB2 := hB2.trans hI24
           have hB5 := hB5.trans hI24
           have hB7 := hB7.trans hI24
           rw [sort_ndW (gthN_all hnd2 hlt2 hall2), ← flat_int] at hOs
           rw [(gthN_all hnd2 hlt2 hall2).length_eq] at hOs
           refine XO_nil (at_then ?_)
           refine X_seq ?_
           refine X_freezeO hOs encI_len (by decide) (by repeat (first | exact .cons .here .nil | exact split_all | exact split_app | apply split_cons | apply split_skip)) (fun I25 hI25 na nc e25 hNn => ?_)
           subst e25
           have hP := hP.mono hI25
           have hT := hT.mono hI25
           have hV := hV.mono hI25
           have hG1 := hG1.mono hI25
           have hG2 := hG2.mono hI25
           have hA := hA.mono hI25
           have hLn := hLn.mono hI25
           have hDr := hDr.mono hI25
           have hnm := hnm.mono hI25
           have hG3 := hG3.mono hI25
           have hOS := hOS.mono hI25
           have hRl := hRl.mono hI25
           have hN := hN.mono hI25
           have h22 := h22.mono hI25
           have hW := hW.mono hI25
           have hIc := hIc.trans hI25
           have hB0 := hB0.trans hI25
           have hB2 := hB2.trans hI25
           have hB5 := hB5.trans hI25
           have hB7 := hB7.trans hI25
           refine X_region ?_
           refine zM ?_
           refine XO_v0 (ev_fieldAddr rfl fld_65_0) rfl rfl rfl ?_
           refine XO_v0 (ev_load rfl sct_3 (fun hg => by first | exact Sl.get0 hA hh0 rfl | exact Sl.get0 hV.1 hh0 rfl | exact Cell.imm h16 rfl | exact Cell.imm h20 rfl | exact Cell.imm h22 rfl | (repeat (first | exact Cell.here rfl | apply Cell.there | apply Cell.app)))) rfl rfl rfl ?_
           refine zM ?_
           refine XO_v0 (ev_lenS rfl slt_27) rfl rfl rfl ?_
           refine XO_mapUpdate (m := atM (kpP tg has (ordP ps tg) k)) (ek := Value.int .i64) (ev := Value.int .i64) (a := p.id) (((kpP tg has (ordP ps tg) k).length : Nat) : Int) mpt_79 key_3 rfl rfl rfl rfl (by repeat (first | exact Upd.here | apply Upd.there | apply upd_app)) ?_
           rw [atM_new (kpP_new hL hp)]
           refine XO_nil (at_then ?_)
           refine X_region ?_
           refine zM ?_
           refine XO_v0 (ev_loadA rfl agt_58 (fun hg => by first | exact Sl.getA hP.1 hp | exact Cells.immC h16 | exact Sl.getA hOS hp | (repeat (first | exact Cells.here | exact Cells.s0 (vs := [_, _, _, _]) rfl | apply Cells.there | apply Cells.app))) rfl) rfl rfl rfl ?_
           refine XO_buildSlice (ps := [(0, _)]) (m := [encSH ⟨p.id, ef, wa, (diffW tg has p.id).length, wc, na, (ndW tg (kpP tg has (ordP ps tg) k) p).length, nc⟩]) elt_27 rfl (.cons rfl (.nil)) rfl (by simp [encSH_len]) (by decide) (by decide) rfl rfl (fun b_193 => ?_)
           refine XO_append (v := _) (ys := [(⟨p.id, ef, wa, (diffW tg has p.id).length, wc, na, (ndW tg (kpP tg has (ordP ps tg) k) p).length, nc⟩ : SH)].flatMap encSH) (L := L) rfl rfl elt_27 hO6 (by repeat (first | exact .cons .here .nil | exact split_all | exact split_app | apply split_cons | apply split_skip)) ⟨rfl, fun _ => rfl, by repeat (first | exact Cells.here | apply Cells.there | apply Cells.app)⟩ (one_SH _) (by omega) rfl rfl ?_
           intro v9 L9 hO9 _; rw [← List.flatMap_append] at hO9
           refine zA ?_
           refine XO_nil ?_
           refine at_block_n ?_
           refine at_then ?_
           refine X_region ?_
           refine zB ?_
           refine zM ?_
           refine XO_nil ?_
           first
           | exact at_met2 _ (L9 ++ [(r_84, mapO (Value.int .i64) (Value.int .i64) (atM ((kpP tg has (ordP ps tg) k) ++ [p])))]) ⟨n - (k + 1), by omega, k + 1, _, L9, hs ++ [⟨p.id, ef, wa, (diffW tg has p.id).length, wc, na, (ndW tg (kpP tg has (ordP ps tg) k) p).length, nc⟩], rfl, rfl, hB7, by rw [kpP_yes hp hw1], by omega, by rw [kpP_yes hp hw1, List.length_append, List.length_singleton]; exact hO9, by rw [kpP_yes hp hw1, sesL_snoc]; exact hRl.snoc ⟨rfl, hef, hW, hNn⟩⟩ (.cons rfl (.cons rfl (.cons rfl (.cons rfl (.cons rfl (.cons rfl (.cons rfl (.cons rfl (.cons rfl .nil))))))))) (subL_app (by repeat (first | exact .refl | refine .drop ?_)))
      ·
       have hge_k : n ≤ k := by have h := hc104; simp at h; omega
       have hka := kpP_all (has := has) (show (ordP ps tg).length ≤ k by rw [ordP_len]; omega)
       have hkl := congrArg List.length hka
       rw [hka] at hRl
       refine X_exit ?_
       refine at_then_e ?_
       refine at_then_e ?_
       refine at_block_hit ?_
       refine at_then ?_
       refine X_seq ?_
       refine X_seq (X_region ?_)
       refine zM ?_
       refine XO_v0 (ev_lenS rfl slt_27) rfl rfl rfl ?_
       refine zC ?_
       refine XO_nil (at_then ?_)
       refine X_cond rfl (fun hc198 => ?_) (fun hc198 => ?_)
       ·
        have hE : fromE ps tg has = 2 := by rw [fromE_4 hk0 h6 hall, if_pos (by unfold fromL; rw [sesL_len]; have h := hc198; simp at h; omega)]
        refine X_seq (X_region ?_)
        refine zA ?_
        refine zA ?_
        refine XO_nil (at_then ?_)
        refine X_ret ?_
        refine at_then_r ?_
        exact at_ret2 rfl rfl rfl (fun w hw => ⟨_, J18, [], rfl, hIc, hw.drop, FroQ.bad hE (by decide)⟩)
       ·
        have hE : fromE ps tg has = 0 := by rw [fromE_4 hk0 h6 hall, if_neg (by unfold fromL; rw [sesL_len]; have h := hc198; simp at h; omega)]
        refine X_skip ?_
        refine at_then ?_
        refine X_seq (X_region ?_)
        refine zM ?_
        refine zA ?_
        refine zA ?_
        refine XO_nil (at_then ?_)
        refine X_ret ?_
        first
        | exact at_freezeO hO6 encSH_len (by decide) (by repeat (first | exact .cons .here .nil | exact split_all | exact split_app | apply split_cons | apply split_skip)) (fun I7 hI7 a7 c7 e7 hS7 => by cases e7; exact at_ret2 rfl rfl rfl (fun w hw => ⟨_, I7, [], rfl, hIc.trans hI7, hw.drop, FroQ.good hE ⟨hs, hS7, hRl.mono hI7⟩⟩))
end Go.Proofs.YtehkiccapbkhnaaGreat
end
section
namespace Go.Proofs.YtehkiccapbkhnaaGreat
open Go Go.Kn Go.Proofs
theorem ris_iff {hi : Int} : ∀ {lo : Int} {l : List Int}, risF hi lo l = true ↔ (∀ x ∈ l, lo ≤ x ∧ x ≤ hi) ∧ l.Pairwise (· < ·)
  | lo, [] => by simp [risF]
  | lo, n :: l => by
    show (!(decide (n < lo) || decide (n > hi)) && risF hi (n + 1) l) = true ↔ _
    rw [Bool.and_eq_true, ris_iff, List.pairwise_cons]
    simp only [Bool.not_eq_true', Bool.or_eq_false_iff, decide_eq_false_iff_not, List.mem_cons, forall_eq_or_imp]
    constructor
    · rintro ⟨h1, h2, h3⟩
      exact ⟨⟨by omega, fun x hx => by have := h2 x hx; omega⟩, fun x hx => by have := h2 x hx; omega, h3⟩
    · rintro ⟨⟨h1, h2⟩, h3, h4⟩
      exact ⟨by omega, fun x hx => by have := h2 x hx; have := h3 x hx; omega, h4⟩
theorem ris_more {hi lo x : Int} {xs : List Int} {k : Nat} (hx : xs[k]? = some x) (h : risF hi lo (xs.take k) = true) (h1 : lo ≤ x ∧ x ≤ hi) (h2 : ∀ y, 0 < k → xs[k - 1]? = some y → y < x) : risF hi lo (xs.take (k + 1)) = true := by
  rw [ris_iff] at *
  rw [List.take_add_one, hx]
  simp only [Option.toList_some]
  refine ⟨fun y hy => ?_, List.pairwise_append.2 ⟨h.2, by simp, fun a ha b hb => ?_⟩⟩
  · rcases List.mem_append.1 hy with hy | hy
    · exact h.1 y hy
    · simp at hy; subst hy; exact h1
  · simp at hb; subst hb
    obtain ⟨i, hi'⟩ := List.mem_iff_getElem?.1 ha
    have hik : i < k := by have := (List.getElem?_eq_some_iff.1 hi').1; rw [List.length_take] at this; omega
    have hk1 := (List.getElem?_eq_some_iff.1 hx).1
    have hy : xs[k - 1]? = some (xs[k - 1]'(by omega)) := List.getElem?_eq_getElem (by omega)
    have h3 := h2 _ (by omega) hy
    by_cases e : i = k - 1
    · subst e
      rw [List.getElem?_take_of_lt hik, hy] at hi'
      cases hi'; exact h3
    · have h5 : (xs.take k)[k - 1]? = some (xs[k - 1]'(by omega)) := by rw [List.getElem?_take_of_lt (by omega)]; exact hy
      have := List.pairwise_iff_getElem.1 h.2 i (k - 1) (List.getElem?_eq_some_iff.1 hi').1 (List.getElem?_eq_some_iff.1 h5).1 (by omega)
      rw [(List.getElem?_eq_some_iff.1 hi').2, (List.getElem?_eq_some_iff.1 h5).2] at this
      omega
theorem ris_out {hi lo x : Int} {xs : List Int} {k : Nat} (hx : xs[k]? = some x) (h1 : ¬ (lo ≤ x ∧ x ≤ hi)) : risF hi lo xs = false := by
  cases e : risF hi lo xs with
  | false => rfl
  | true => exact (h1 ((ris_iff.1 e).1 x (List.mem_of_getElem? hx))).elim
theorem ris_back {hi lo x y : Int} {xs : List Int} {k : Nat} (hk : 0 < k) (hx : xs[k]? = some x) (hy : xs[k - 1]? = some y) (h1 : x ≤ y) : risF hi lo xs = false := by
  cases e : risF hi lo xs with
  | false => rfl
  | true =>
    have := List.pairwise_iff_getElem.1 (ris_iff.1 e).2 (k - 1) k (List.getElem?_eq_some_iff.1 hy).1 (List.getElem?_eq_some_iff.1 hx).1 (by omega)
    rw [(List.getElem?_eq_some_iff.1 hx).2, (List.getElem?_eq_some_iff.1 hy).2] at this
    omega
theorem within_neg (a l h : Int) : (!(decide (a ≥ l) && decide (a ≤ h))) = (decide (a < l) || decide (a > h)) := by
  rw [Bool.eq_iff_iff]; simp only [Bool.not_eq_true', Bool.and_eq_false_iff, decide_eq_false_iff_not, Bool.or_eq_true, decide_eq_true_eq]; omega
theorem ris_cond_bad {hi lo x : Int} {xs : List Int} {k : Nat} (hx : xs[k]? = some x) (h : ((decide (x < lo) || decide (x > hi)) || (decide ((k : Int) > 0) && decide (x ≤ xs.getD ((k : Int) - 1).toNat 0))) = true) : risF hi lo xs = false := by
  simp only [Bool.or_eq_true, Bool.and_eq_true, decide_eq_true_eq] at h
  rcases h with h | ⟨h1, h2⟩
  · exact ris_out hx (by omega)
  · have hk := (List.getElem?_eq_some_iff.1 hx).1
    have hy : xs[k - 1]? = some (xs[k - 1]'(by omega)) := List.getElem?_eq_getElem (by omega)
    rw [show ((k : Int) - 1).toNat = k - 1 by omega, List.getD_eq_getElem?_getD, hy] at h2
    exact ris_back (by omega) hx hy h2
theorem ris_cond_ok {hi lo x : Int} {xs : List Int} {k : Nat} (hx : xs[k]? = some x) (hr : risF hi lo (xs.take k) = true) (h : ((decide (x < lo) || decide (x > hi)) || (decide ((k : Int) > 0) && decide (x ≤ xs.getD ((k : Int) - 1).toNat 0))) = false) : risF hi lo (xs.take (k + 1)) = true := by
  simp only [Bool.or_eq_false_iff, decide_eq_false_iff_not, Bool.and_eq_false_iff] at h
  refine ris_more hx hr (by omega) fun y hk hy => ?_
  rcases h.2 with g | g
  · omega
  · rw [show ((k : Int) - 1).toNat = k - 1 by omega, List.getD_eq_getElem?_getD, hy] at g
    simp at g; omega
/-- May plans of a course be gone through? -/
def fewC (c : Cr) : Bool :=
  if (decide ((c.days.length : Int) > 40) || decide ((c.ss.length : Int) > 20)) = true then false else
  if c.ss.any (fun s => decide ((s.who.length : Int) > 80) || decide ((s.needs.length : Int) > 80)) = true then false else
  if (decide ((c.days.length : Int) > 16) || decide ((c.ss.length : Int) > 8)) = true then true else decide (plansF c ≤ 300) || decide (plansF c > 65536)
theorem few_bd {c : Cr} (h : fewC c = true) : c.days.length ≤ 40 ∧ c.ss.length ≤ 20 ∧ (∀ s ∈ c.ss, s.who.length ≤ 80 ∧ s.needs.length ≤ 80) := by
  unfold fewC at h
  split at h
  · cases h
  · rename_i h1
    split at h
    · cases h
    · rename_i h2
      simp only [Bool.or_eq_true, decide_eq_true_eq, not_or] at h1
      refine ⟨by omega, by omega, fun s hs => ?_⟩
      have h2 : c.ss.any (fun s => decide ((s.who.length : Int) > 80) || decide ((s.needs.length : Int) > 80)) = false := by simpa using h2
      have := List.any_eq_false.1 h2 s hs
      simp at this; omega
mutual
def samP : Nat → Pr → Pr → Bool
  | f, .mk r d w ks, .mk r' d' w' ks' => if (((((r != r') || (d != d')) || (w != w')) || ((ks.length : Int) != (ks'.length : Int))) || ((f : Int) == 0)) = true then false else match f with | 0 => false | f + 1 => samL f ks ks'
def samL : Nat → List Pr → List Pr → Bool
  | f, k :: ks, k' :: ks' => samP f k k' && samL f ks ks'
  | _, _, _ => true
end
mutual
/-- The depth of a proof. -/
def dpP : Pr → Nat
  | .mk _ _ _ ks => dpL ks + 1
def dpL : List Pr → Nat
  | [] => 0
  | k :: ks => max (dpP k) (dpL ks)
end
mutual
theorem samP_self : ∀ (p : Pr) (f : Nat), dpP p ≤ f → samP f p p = true
  | .mk r d w ks, f, h => by
    unfold dpP at h
    obtain ⟨f, rfl⟩ : ∃ g, f = g + 1 := ⟨f - 1, by omega⟩
    unfold samP
    rw [if_neg (by simp; omega)]
    exact samL_self ks f (by omega)
theorem samL_self : ∀ (ks : List Pr) (f : Nat), dpL ks ≤ f → samL f ks ks = true
  | [], _, _ => by unfold samL; rfl
  | k :: ks, f, h => by
    unfold dpL at h
    unfold samL
    rw [samP_self k f (by omega), samL_self ks f (by omega)]; rfl
end
theorem dpL_le {n : Nat} : ∀ {ks : List Pr}, (∀ k ∈ ks, dpP k ≤ n) → dpL ks ≤ n
  | [], _ => by unfold dpL; omega
  | k :: ks, h => by
    unfold dpL
    have h1 := h k (by simp)
    have h2 := dpL_le (n := n) (ks := ks) fun x hx => h x (by simp [hx])
    omega
theorem samL_bad {f : Nat} : ∀ {ks ks' : List Pr} {k : Nat} {p p' : Pr}, ks[k]? = some p → ks'[k]? = some p' → samP f p p' = false → samL f ks ks' = false
  | [], _, k, p, p', h, _, _ => by simp at h
  | _ :: _, [], k, p, p', _, h, _ => by simp at h
  | a :: ks, a' :: ks', k, p, p', h, h', hb => by
    rw [samL]
    cases k with
    | zero => simp at h h'; subst h h'; rw [hb]; rfl
    | succ k => rw [samL_bad (k := k) (by simpa using h) (by simpa using h') hb, Bool.and_false]
theorem samL_all {f : Nat} : ∀ {ks ks' : List Pr}, (∀ (k : Nat) (p p' : Pr), ks[k]? = some p → ks'[k]? = some p' → samP f p p' = true) → samL f ks ks' = true
  | [], _, _ => by unfold samL; rfl
  | _ :: _, [], _ => by unfold samL; rfl
  | a :: ks, a' :: ks', h => by
    rw [samL, h 0 a a' rfl rfl, samL_all fun k p p' h1 h2 => h (k + 1) p p' (by simpa using h1) (by simpa using h2)]; rfl
def SamT (f : Nat) (ks ks' : List Pr) (j : Nat) : Prop := ∀ (k : Nat) (p p' : Pr), k < j → ks[k]? = some p → ks'[k]? = some p' → samP f p p' = true
theorem samT_0 {f : Nat} {ks ks' : List Pr} : SamT f ks ks' 0 := fun k p p' h => by omega
theorem samT_step {f : Nat} {ks ks' : List Pr} {j : Nat} {p p' : Pr} (h : SamT f ks ks' j) (hp : ks[j]? = some p) (hp' : ks'[j]? = some p') (hb : samP f p p' = true) : SamT f ks ks' (j + 1) := fun k q q' hk h1 h2 => by
  by_cases e : k = j
  · subst e; rw [hp] at h1; rw [hp'] at h2; cases h1; cases h2; exact hb
  · exact h k q q' (by omega) h1 h2
theorem samT_end {f : Nat} {ks ks' : List Pr} {j : Nat} (h : SamT f ks ks' j) (hj : ks.length ≤ j) : samL f ks ks' = true := samL_all fun k p p' h1 h2 => h k p p' (by have := (List.getElem?_eq_some_iff.1 h1).1; omega) h1 h2
end Go.Proofs.YtehkiccapbkhnaaGreat
namespace Go.Proofs.YtehkiccapbkhnaaGreat
open Go Go.Kn Go.Proofs
def begB (c : Cr) (pl : List Int) : Bool := !(decide ((pl.length : Int) > (c.ss.length : Int)) || pl.any fun d => decide (d < 0) || decide (d ≥ (c.days.length : Int)))
end Go.Proofs.YtehkiccapbkhnaaGreat
end
section
namespace Go.Proofs.YtehkiccapbkhnaaGreat
open Go Go.Kn Go.Proofs
theorem fun_102 : Fun Tryz.prog 102 := .of Tryz.func102 (by kernel_rfl) (by kernel_rfl)
theorem fun_103 : Fun Tryz.prog 103 := .of Tryz.func103 (by kernel_rfl) (by kernel_rfl)
theorem fun_52 : Fun Tryz.prog 52 := .of Tryz.func52 (by kernel_rfl) (by kernel_rfl)
theorem fun_63 : Fun Tryz.prog 63 := .of Tryz.func63 (by kernel_rfl) (by kernel_rfl)
theorem w_rHas {I : HMap} {av : Option Addr} {n c : Nat} {xs : List Int} (hS : Sl I 1 encI av n c xs) (hn : n ≤ 100000) (v : Int) : RetV Tryz.prog 51 [.slice av n c, .int .i64 v] I (.bool (xs.contains v)) := by
 intro g H w hw
 refine enter Tryz.func51 rfl Tryz.ntmps51 rfl hw ?_
 refine X_seq (X_region ?_)
 refine zA ?_
 refine XO_nil (at_then ?_)
 refine X_seq ?_
 refine X_seq (X_region ?_)
 refine zA ?_
 refine XO_nil (at_then ?_)
 refine X_block ?_
 refine X_loopT [(0, _), (1, _)] (.cons rfl (.cons rfl .nil)) (fun T L0 mz E I' loc' => ∃ (k : Nat), mz = n - k ∧ E = (5, .int .i64 k) :: T ∧ I = I' ∧ L0 = loc' ∧ k ≤ n ∧ (xs.take k).any (fun y => y == v) = false) _ _ _ _ ⟨0, rfl, rfl, rfl, rfl, Nat.zero_le _, rfl⟩ (.cons rfl (.cons rfl (.cons rfl .nil))) (HLe.refl _) rfl ?_
 rintro mz E I' loc' ⟨k, rfl, rfl, rfl, rfl, hk, hno⟩
 refine X_seq ?_
 refine X_seq (X_region ?_)
 refine zM ?_
 refine zM ?_
 refine XO_v0 (ev_lenS rfl slt_23) rfl rfl rfl ?_
 refine zC ?_
 refine XO_nil (at_then ?_)
 refine X_cond rfl (fun hc9 => ?_) (fun hc9 => ?_)
 ·
  have hlt_k : k < n := by have h := hc9; simp at h; omega
  obtain ⟨x, hx⟩ := hS.at hlt_k
  refine X_skip ?_
  refine at_then ?_
  refine X_seq ?_
  refine X_block ?_
  refine X_seq (X_region ?_)
  refine zM ?_
  refine zM ?_
  refine XO_v0 (ev_indexSl rfl rfl slt_23 (by assumption) (fun hg => by first | omega | (simp [conj] at hg; omega))) rfl rfl rfl ?_
  refine XO_v0 (ev_load rfl sct_3 (fun hg => by first | exact Sl.get0 hS hx rfl | (repeat (first | exact Cell.here rfl | apply Cell.there | apply Cell.app)))) rfl rfl rfl ?_
  refine zM ?_
  refine zC ?_
  refine XO_nil (at_then ?_)
  refine X_cond rfl (fun hc17 => ?_) (fun hc17 => ?_)
  ·
   refine X_seq (X_region ?_)
   refine zA ?_
   refine XO_nil (at_then ?_)
   refine X_ret ?_
   refine at_block_r ?_
   refine at_then_r ?_
   refine at_then_r ?_
   refine at_block_r ?_
   refine at_then_r ?_
   exact at_ret1 rfl rfl (fun w hw => ⟨by rw [any_contI, any_yes hx hc17], hw.drop⟩)
  ·
   refine X_skip ?_
   refine at_block_n ?_
   refine at_then ?_
   refine X_region ?_
   refine zM ?_
   refine zB ?_
   refine zA ?_
   refine XO_nil ?_
   exact at_met2 _ _ ⟨n - (k + 1), by omega, k + 1, rfl, rfl, rfl, rfl, by omega, any_no hx hno hc17⟩ (.cons rfl (.cons rfl (.cons rfl .nil))) (by repeat (first | exact .refl | exact subL_left | refine subL_app ?_ | refine .drop ?_ | refine subL_add ?_))
 ·
  have hge_k : n ≤ k := by have h := hc9; simp at h; omega
  rw [take_all hS.len hge_k] at hno
  refine X_exit ?_
  refine at_then_e ?_
  refine at_then_e ?_
  refine at_block_hit ?_
  refine at_then ?_
  refine X_seq (X_region ?_)
  refine zA ?_
  refine XO_nil (at_then ?_)
  refine X_ret ?_
  exact at_ret1 rfl rfl (fun w hw => ⟨by rw [any_contI, hno], hw.drop⟩)
theorem w_rSame {I : HMap} {av : Option Addr} {n c : Nat} {xs : List Int} (hS : Sl I 1 encI av n c xs) (hn : n ≤ 100000) {bv : Option Addr} {n2 c2 : Nat} {ys : List Int} (hT : Sl I 1 encI bv n2 c2 ys) : RetV Tryz.prog 23 [.slice av n c, .slice bv n2 c2] I (.bool (xs == ys)) := by
 intro g H w hw
 refine enter Tryz.func23 rfl Tryz.ntmps23 rfl hw ?_
 have hl1 := hS.len
 have hl2 := hT.len
 refine X_seq (X_region ?_)
 refine zA ?_
 refine XO_nil (at_then ?_)
 refine X_seq ?_
 refine X_seq (X_region ?_)
 refine zM ?_
 refine XO_v0 (ev_lenS rfl slt_23) rfl rfl rfl ?_
 refine zM ?_
 refine XO_v0 (ev_lenS rfl slt_23) rfl rfl rfl ?_
 refine zC ?_
 refine XO_nil (at_then ?_)
 refine X_cond rfl (fun hc10 => ?_) (fun hc10 => ?_)
 ·
  have hne : xs ≠ ys := fun e => by have h := hc10; subst e; simp at h; omega
  refine X_seq (X_region ?_)
  refine zA ?_
  refine XO_nil (at_then ?_)
  refine X_ret ?_
  refine at_then_r ?_
  exact at_ret1 rfl rfl (fun w hw => ⟨by rw [beq_eq_false_iff_ne.2 hne], hw.drop⟩)
 ·
  have hnn : n = n2 := by have h := hc10; simp at h; omega
  refine X_skip ?_
  refine at_then ?_
  refine X_seq ?_
  refine X_seq (X_region ?_)
  refine zA ?_
  refine XO_nil (at_then ?_)
  refine X_block ?_
  refine X_loopT [(0, _), (1, _)] (.cons rfl (.cons rfl .nil)) (fun T L0 mz E I' loc' => ∃ (k : Nat), mz = n - k ∧ E = (5, .int .i64 k) :: T ∧ I = I' ∧ L0 = loc' ∧ k ≤ n ∧ xs.take k = ys.take k) _ _ _ _ ⟨0, rfl, rfl, rfl, rfl, Nat.zero_le _, rfl⟩ (.cons rfl (.cons rfl (.cons rfl .nil))) (HLe.refl _) rfl ?_
  rintro mz E I' loc' ⟨k, rfl, rfl, rfl, rfl, hk, hall⟩
  refine X_seq ?_
  refine X_seq (X_region ?_)
  refine zM ?_
  refine zM ?_
  refine XO_v0 (ev_lenS rfl slt_23) rfl rfl rfl ?_
  refine zC ?_
  refine XO_nil (at_then ?_)
  refine X_cond rfl (fun hc14 => ?_) (fun hc14 => ?_)
  ·
   have hlt_k : k < n := by have h := hc14; simp at h; omega
   obtain ⟨x, hx⟩ := hS.at hlt_k
   obtain ⟨y, hy⟩ := hT.at (show k < n2 by omega)
   refine X_skip ?_
   refine at_then ?_
   refine X_seq ?_
   refine X_block ?_
   refine X_seq ?_
   refine X_draw mixed (by kernel_rfl) ?_
   refine XQ_v0 (ev_move rfl) rfl rfl rfl ?_
   refine XQ_v0 (ev_move rfl) rfl rfl rfl ?_
   refine XQ_v0 (ev_indexSl rfl rfl slt_23 hS (fun hg => by first | omega | (simp [conj] at hg; omega))) rfl rfl rfl ?_
   refine XQ_v0 (ev_load rfl sct_3 (fun hg => by first | exact Sl.get0 hS hx rfl | exact Sl.get0 hT hy rfl | (repeat (first | exact Cell.here rfl | apply Cell.there | apply Cell.app)))) rfl rfl rfl ?_
   refine XQ_v0 (ev_move rfl) rfl rfl rfl ?_
   refine XQ_v0 (ev_move rfl) rfl rfl rfl ?_
   refine XQ_v0 (ev_indexSl rfl rfl slt_23 hT (fun hg => by first | omega | (simp [conj] at hg; omega))) rfl rfl rfl ?_
   refine XQ_v0 (ev_load rfl sct_3 (fun hg => by first | exact Sl.get0 hS hx rfl | exact Sl.get0 hT hy rfl | (repeat (first | exact Cell.here rfl | apply Cell.there | apply Cell.app)))) rfl rfl rfl ?_
   refine XQ_v0 (ev_cmp rfl rfl rfl) rfl rfl rfl ?_
   refine XQ_nil ?_
   refine at_then ?_
   refine X_cond rfl (fun hc25 => ?_) (fun hc25 => ?_)
   ·
    have hne : xs ≠ ys := fun e => by subst e; rw [hx] at hy; cases hy; simp at hc25
    refine X_seq (X_region ?_)
    refine zA ?_
    refine XO_nil (at_then ?_)
    refine X_ret ?_
    refine at_block_r ?_
    refine at_then_r ?_
    refine at_then_r ?_
    refine at_block_r ?_
    refine at_then_r ?_
    exact at_ret1 rfl rfl (fun w hw => ⟨by rw [beq_eq_false_iff_ne.2 hne], hw.drop⟩)
   ·
    have hxy : x = y := by simpa using hc25
    refine X_skip ?_
    refine at_block_n ?_
    refine at_then ?_
    refine X_region ?_
    refine zM ?_
    refine zB ?_
    refine zA ?_
    refine XO_nil ?_
    exact at_met2 _ _ ⟨n - (k + 1), by omega, k + 1, rfl, rfl, rfl, rfl, by omega, by rw [List.take_add_one, List.take_add_one, hall, hx, hy, hxy]⟩ (.cons rfl (.cons rfl (.cons rfl .nil))) (by repeat (first | exact .refl | exact subL_left | refine subL_app ?_ | refine .drop ?_ | refine subL_add ?_))
  ·
   have hge_k : n ≤ k := by have h := hc14; simp at h; omega
   have heq : xs = ys := by rw [List.take_of_length_le (by omega), List.take_of_length_le (by omega)] at hall; exact hall
   refine X_exit ?_
   refine at_then_e ?_
   refine at_then_e ?_
   refine at_block_hit ?_
   refine at_then ?_
   refine X_seq (X_region ?_)
   refine zA ?_
   refine XO_nil (at_then ?_)
   refine X_ret ?_
   exact at_ret1 rfl rfl (fun w hw => ⟨by rw [beq_iff_eq.2 heq], hw.drop⟩)
theorem w_rWith (I : HMap) (n lo hi : Int) : RetV Tryz.prog 103 [.int .i64 n, .int .i64 lo, .int .i64 hi] I (.bool (decide (n ≥ lo) && decide (n ≤ hi))) := by
 intro g H w hw
 refine enter Tryz.func103 rfl Tryz.ntmps103 rfl hw ?_
 refine X_seq (X_region ?_)
 refine zA ?_
 refine XO_nil (at_then (X_seq (X_region ?_)))
 refine zM ?_
 refine zM ?_
 refine zC ?_
 refine zM ?_
 refine XO_pushT 3 rfl rfl rfl ?_
 refine XO_v1 (ev_move rfl) (.some rfl rfl rfl rfl gbt) rfl rfl rfl ?_
 refine XO_v1 (ev_move rfl) (.some rfl rfl rfl rfl gbt) rfl rfl rfl ?_
 refine XO_v1 (ev_cmp rfl rfl rfl) (.some rfl rfl rfl rfl gbt) rfl rfl rfl ?_
 refine XO_and0 rfl rfl rfl rfl rfl ?_
 refine zA ?_
 refine XO_nil (at_then ?_)
 refine X_ret ?_
 exact at_ret1 rfl rfl (fun w hw => ⟨by rfl, hw.drop⟩)
theorem w_rInc {I : HMap} {av : Option Addr} {n c : Nat} {xs : List Int} (hS : Sl I 1 encI av n c xs) (hn : n ≤ 100000) (lo hi : Int) : RetV Tryz.prog 102 [.slice av n c, .int .i64 lo, .int .i64 hi] I (.bool (risF hi lo xs)) := by
 intro g H w hw
 refine enter Tryz.func102 rfl Tryz.ntmps102 rfl hw ?_
 refine X_seq (X_region ?_)
 refine zA ?_
 refine XO_nil (at_then ?_)
 refine X_seq ?_
 refine X_seq (X_region ?_)
 refine zA ?_
 refine XO_nil (at_then ?_)
 refine X_block ?_
 refine X_loopT [(0, _), (1, _), (2, _)] (.cons rfl (.cons rfl (.cons rfl .nil))) (fun T L0 mz E I' loc' => ∃ (k : Nat), mz = n - k ∧ E = (7, .int .i64 k) :: T ∧ I = I' ∧ L0 = loc' ∧ k ≤ n ∧ risF hi lo (xs.take k) = true) _ _ _ _ ⟨0, rfl, rfl, rfl, rfl, Nat.zero_le _, rfl⟩ (.cons rfl (.cons rfl (.cons rfl (.cons rfl .nil)))) (HLe.refl _) rfl ?_
 rintro mz E I' loc' ⟨k, rfl, rfl, rfl, rfl, hk, hr⟩
 refine X_seq ?_
 refine X_seq (X_region ?_)
 refine zM ?_
 refine zM ?_
 refine XO_v0 (ev_lenS rfl slt_23) rfl rfl rfl ?_
 refine zC ?_
 refine XO_nil (at_then ?_)
 refine X_cond rfl (fun hc11 => ?_) (fun hc11 => ?_)
 ·
  have hlt_k : k < n := by have h := hc11; simp at h; omega
  obtain ⟨x, hx⟩ := hS.at hlt_k
  refine X_skip ?_
  refine at_then ?_
  refine X_seq ?_
  refine X_block ?_
  refine X_seq ?_
  refine X_draw mixed (by kernel_rfl) ?_
  refine XQ_v0 (ev_move rfl) rfl rfl rfl ?_
  refine XQ_v0 (ev_move rfl) rfl rfl rfl ?_
  refine XQ_v0 (ev_indexSl rfl rfl slt_23 (by assumption) (fun hg => by first | omega | (simp [conj] at hg; omega))) rfl rfl rfl ?_
  refine XQ_v0 (ev_load rfl sct_3 (fun hg => by first | exact Sl.get0 hS hx rfl | exact Sl.getD0 hS (d := 0) (k := ((k : Int) - 1).toNat) (by first | omega | (simp [conj] at hg; omega)) rfl | (repeat (first | exact Cell.here rfl | apply Cell.there | apply Cell.app)))) rfl rfl rfl ?_
  refine XQ_v0 (ev_move rfl) rfl rfl rfl ?_
  refine XQ_v0 (ev_cmp rfl rfl rfl) rfl rfl rfl ?_
  refine XQ_v0 (ev_move rfl) rfl rfl rfl ?_
  refine XQ_pushF 6 rfl rfl rfl ?_
  refine XQ_v1 (ev_move rfl) (.some rfl rfl rfl rfl gbf) rfl rfl rfl ?_
  refine XQ_v1 (ev_move rfl) (.some rfl rfl rfl rfl gbf) rfl rfl rfl ?_
  refine XQ_v1 (ev_indexSl rfl rfl slt_23 (by assumption) (fun hg => by first | omega | (simp [conj] at hg; omega))) (.some rfl rfl rfl rfl gbf) rfl rfl rfl ?_
  refine XQ_v1 (ev_load rfl sct_3 (fun hg => by first | exact Sl.get0 hS hx rfl | exact Sl.getD0 hS (d := 0) (k := ((k : Int) - 1).toNat) (by first | omega | (simp [conj] at hg; omega)) rfl | (repeat (first | exact Cell.here rfl | apply Cell.there | apply Cell.app)))) (.some rfl rfl rfl rfl gbf) rfl rfl rfl ?_
  refine XQ_v1 (ev_move rfl) (.some rfl rfl rfl rfl gbf) rfl rfl rfl ?_
  refine XQ_v1 (ev_cmp rfl rfl rfl) (.some rfl rfl rfl rfl gbf) rfl rfl rfl ?_
  refine XQ_or0 rfl rfl rfl rfl rfl ?_
  refine XQ_v0 (ev_move rfl) rfl rfl rfl ?_
  refine XQ_pushF 14 rfl rfl rfl ?_
  refine XQ_v1 (ev_move rfl) (.some rfl rfl rfl rfl gbf) rfl rfl rfl ?_
  refine XQ_v1 (ev_cmp rfl rfl rfl) (.some rfl rfl rfl rfl gbf) rfl rfl rfl ?_
  refine XQ_v1 (ev_move rfl) (.some rfl rfl rfl rfl gbf) rfl rfl rfl ?_
  refine XQ_pushT 17 rfl rfl rfl ?_
  refine XQ_v1 (ev_move rfl) (.some rfl rfl rfl rfl gbt) rfl rfl rfl ?_
  refine XQ_v1 (ev_move rfl) (.some rfl rfl rfl rfl gbt) rfl rfl rfl ?_
  refine XQ_v1 (ev_indexSl rfl rfl slt_23 (by assumption) (fun hg => by first | omega | (simp [conj] at hg; omega))) (.some rfl rfl rfl rfl gbt) rfl rfl rfl ?_
  refine XQ_v1 (ev_load rfl sct_3 (fun hg => by first | exact Sl.get0 hS hx rfl | exact Sl.getD0 hS (d := 0) (k := ((k : Int) - 1).toNat) (by first | omega | (simp [conj] at hg; omega)) rfl | (repeat (first | exact Cell.here rfl | apply Cell.there | apply Cell.app)))) (.some rfl rfl rfl rfl gbt) rfl rfl rfl ?_
  refine XQ_v1 (ev_move rfl) (.some rfl rfl rfl rfl gbt) rfl rfl rfl ?_
  refine XQ_v1 (ev_move rfl) (.some rfl rfl rfl rfl gbt) rfl rfl rfl ?_
  refine XQ_v1 (ev_arB rfl rfl rfl (fun hg => by first | omega | (simp [conj] at hg; omega))) (.some rfl rfl rfl rfl gbt) rfl rfl rfl ?_
  refine XQ_v1 (ev_indexSl rfl rfl slt_23 (by assumption) (fun hg => by first | omega | (simp [conj] at hg; omega))) (.some rfl rfl rfl rfl gbt) rfl rfl rfl ?_
  refine XQ_v1 (ev_load rfl sct_3 (fun hg => by first | exact Sl.get0 hS hx rfl | exact Sl.getD0 hS (d := 0) (k := ((k : Int) - 1).toNat) (by first | omega | (simp [conj] at hg; omega)) rfl | (repeat (first | exact Cell.here rfl | apply Cell.there | apply Cell.app)))) (.some rfl rfl rfl rfl gbt) rfl rfl rfl ?_
  refine XQ_v1 (ev_cmp rfl rfl rfl) (.some rfl rfl rfl rfl gbt) rfl rfl rfl ?_
  refine XQ_and1 rfl rfl rfl (.some rfl rfl rfl rfl gbf) rfl rfl ?_
  refine XQ_or0 rfl rfl rfl rfl rfl ?_
  refine XQ_nil ?_
  refine at_then ?_
  refine X_cond rfl (fun hc43 => ?_) (fun hc43 => ?_)
  ·
   refine X_seq (X_region ?_)
   refine zA ?_
   refine XO_nil (at_then ?_)
   refine X_ret ?_
   refine at_block_r ?_
   refine at_then_r ?_
   refine at_then_r ?_
   refine at_block_r ?_
   refine at_then_r ?_
   exact at_ret1 rfl rfl (fun w hw => ⟨by rw [ris_cond_bad hx hc43], hw.drop⟩)
  ·
   refine X_skip ?_
   refine at_block_n ?_
   refine at_then ?_
   refine X_region ?_
   refine zM ?_
   refine zB ?_
   refine zA ?_
   refine XO_nil ?_
   exact at_met2 _ _ ⟨n - (k + 1), by omega, k + 1, rfl, rfl, rfl, rfl, by omega, ris_cond_ok hx hr hc43⟩ (.cons rfl (.cons rfl (.cons rfl (.cons rfl .nil)))) (by repeat (first | exact .refl | exact subL_left | refine subL_app ?_ | refine .drop ?_ | refine subL_add ?_))
 ·
  have hge_k : n ≤ k := by have h := hc11; simp at h; omega
  rw [take_all hS.len hge_k] at hr
  refine X_exit ?_
  refine at_then_e ?_
  refine at_then_e ?_
  refine at_block_hit ?_
  refine at_then ?_
  refine X_seq (X_region ?_)
  refine zA ?_
  refine XO_nil (at_then ?_)
  refine X_ret ?_
  exact at_ret1 rfl rfl (fun w hw => ⟨by rw [hr], hw.drop⟩)
theorem w_rRight {I : HMap} {x : CH} {cr : Cr} (hC : CrAt I x cr) (hn : x.n ≤ 100000) (hn2 : x.n2 ≤ 100000) (hwh : ∀ s ∈ cr.ss, s.who.length ≤ 100000) (hnd : ∀ s ∈ cr.ss, s.needs.length ≤ 100000) : RetV Tryz.prog 63 [encCHA x] I (.bool (rightF cr)) := by
 intro g H w hw
 refine enter Tryz.func63 rfl Tryz.ntmps63 rfl hw ?_
 have hIc := HLe.refl I
 obtain ⟨hD, e1, e2, e3, e4, hss⟩ := id hC
 obtain ⟨hs, hH⟩ := hss
 have hlS := hH.len
 refine X_seq (X_region ?_)
 refine XO_box rfl rfl rfl (fun b_1 => ?_)
 refine zA ?_
 refine XO_nil (at_then ?_)
 refine X_seq ?_
 refine X_seq ?_
 refine X_freeze .here (fun I1 hI1 hb1 => ?_)
 have hD := hD.mono hI1
 have hH := hH.mono hI1
 have hIc := hIc.trans hI1
 have h1 := ImmC.of hb1
 refine X_region ?_
 refine XO_v0 (ev_fieldAddr rfl fld_33_0) rfl rfl rfl ?_
 refine XO_v0 (ev_load rfl sct_23 (fun hg => by first | exact Cell.imm h1 rfl | exact Cell.imm h4s rfl | (repeat (first | exact Cell.here rfl | apply Cell.there | apply Cell.app)))) rfl rfl rfl ?_
 refine XO_callV0 (cap := []) (vs := [_, _, _]) rfl rfl fun_102 (w_rInc hD hn 0 73048) rfl rfl ?_
 refine XO_v0 (ev_not rfl) rfl rfl rfl ?_
 refine zM ?_
 refine XO_pushF 4 rfl rfl rfl ?_
 refine XO_v1 (ev_fieldAddr rfl fld_33_1) (.some rfl rfl rfl rfl gbf) rfl rfl rfl ?_
 refine XO_v1 (ev_load rfl sct_3 (fun hg => by first | exact Cell.imm h1 rfl | exact Cell.imm h4s rfl | (repeat (first | exact Cell.here rfl | apply Cell.there | apply Cell.app)))) (.some rfl rfl rfl rfl gbf) rfl rfl rfl ?_
 refine XO_callV1 (cap := []) (vs := [_, _, _]) rfl rfl fun_103 (fun hg => w_rWith _ _ _ _) (.some rfl rfl rfl rfl gbf) rfl rfl ?_
 refine XO_v1 (ev_not rfl) (.some rfl rfl rfl rfl gbf) rfl rfl rfl ?_
 refine XO_or0 rfl rfl rfl rfl rfl ?_
 refine zM ?_
 refine XO_pushF 10 rfl rfl rfl ?_
 refine XO_v1 (ev_fieldAddr rfl fld_33_2) (.some rfl rfl rfl rfl gbf) rfl rfl rfl ?_
 refine XO_v1 (ev_load rfl sct_3 (fun hg => by first | exact Cell.imm h1 rfl | exact Cell.imm h4s rfl | (repeat (first | exact Cell.here rfl | apply Cell.there | apply Cell.app)))) (.some rfl rfl rfl rfl gbf) rfl rfl rfl ?_
 refine XO_callV1 (cap := []) (vs := [_, _, _]) rfl rfl fun_103 (fun hg => w_rWith _ _ _ _) (.some rfl rfl rfl rfl gbf) rfl rfl ?_
 refine XO_v1 (ev_not rfl) (.some rfl rfl rfl rfl gbf) rfl rfl rfl ?_
 refine XO_or0 rfl rfl rfl rfl rfl ?_
 refine zM ?_
 refine XO_pushF 16 rfl rfl rfl ?_
 refine XO_v1 (ev_fieldAddr rfl fld_33_3) (.some rfl rfl rfl rfl gbf) rfl rfl rfl ?_
 refine XO_v1 (ev_load rfl sct_3 (fun hg => by first | exact Cell.imm h1 rfl | exact Cell.imm h4s rfl | (repeat (first | exact Cell.here rfl | apply Cell.there | apply Cell.app)))) (.some rfl rfl rfl rfl gbf) rfl rfl rfl ?_
 refine XO_callV1 (cap := []) (vs := [_, _, _]) rfl rfl fun_103 (fun hg => w_rWith _ _ _ _) (.some rfl rfl rfl rfl gbf) rfl rfl ?_
 refine XO_v1 (ev_not rfl) (.some rfl rfl rfl rfl gbf) rfl rfl rfl ?_
 refine XO_or0 rfl rfl rfl rfl rfl ?_
 refine zM ?_
 refine XO_pushF 22 rfl rfl rfl ?_
 refine XO_v1 (ev_fieldAddr rfl fld_33_4) (.some rfl rfl rfl rfl gbf) rfl rfl rfl ?_
 refine XO_v1 (ev_load rfl sct_3 (fun hg => by first | exact Cell.imm h1 rfl | exact Cell.imm h4s rfl | (repeat (first | exact Cell.here rfl | apply Cell.there | apply Cell.app)))) (.some rfl rfl rfl rfl gbf) rfl rfl rfl ?_
 refine XO_callV1 (cap := []) (vs := [_, _, _]) rfl rfl fun_103 (fun hg => w_rWith _ _ _ _) (.some rfl rfl rfl rfl gbf) rfl rfl ?_
 refine XO_v1 (ev_not rfl) (.some rfl rfl rfl rfl gbf) rfl rfl rfl ?_
 refine XO_or0 rfl rfl rfl rfl rfl ?_
 refine XO_nil (at_then ?_)
 refine X_cond rfl (fun hc32 => ?_) (fun hc32 => ?_)
 ·
  have hr : rightH cr = true := by unfold rightH; rw [← e1, ← e2, ← e3, ← e4]; exact hc32
  refine X_seq (X_region ?_)
  refine zA ?_
  refine XO_nil (at_then ?_)
  refine X_ret ?_
  refine at_then_r ?_
  first
  | exact at_ret1 rfl rfl (fun w hw => ⟨by unfold rightF; rw [hr]; rfl, (hw.mono hIc).drop⟩)
 ·
  have hr : rightH cr = false := by unfold rightH; rw [← e1, ← e2, ← e3, ← e4]; exact hc32
  refine X_skip ?_
  refine at_then ?_
  refine X_seq ?_
  refine X_seq (X_region ?_)
  refine zA ?_
  refine XO_nil (at_then ?_)
  refine X_block ?_
  refine X_loopT [(1, _)] (.cons rfl .nil) (fun T L0 mz E I' loc' => ∃ (k : Nat), mz = x.n2 - k ∧ E = (3, .int .i64 k) :: T ∧ HLe I1 I' ∧ L0 = loc' ∧ k ≤ x.n2 ∧ goodS 0 cr.ss = goodS k (cr.ss.drop k)) _ _ _ _ ⟨0, rfl, rfl, HLe.refl _, rfl, Nat.zero_le _, rfl⟩ (.cons rfl (.cons rfl .nil)) (HLe.refl _) rfl ?_
  rintro mz E J2 loc' ⟨k, rfl, rfl, hJ, rfl, hk, hg9⟩
  have hD := hD.mono hJ
  have hH := hH.mono hJ
  have h1 := h1.mono hJ
  have hIc := hIc.trans hJ
  have hB0 := hJ
  refine X_seq ?_
  refine X_seq (X_region ?_)
  refine zM ?_
  refine XO_v0 (ev_fieldAddr rfl fld_33_5) rfl rfl rfl ?_
  refine XO_v0 (ev_load rfl sct_27 (fun hg => by first | exact Cell.imm h1 rfl | exact Cell.imm h4s rfl | (repeat (first | exact Cell.here rfl | apply Cell.there | apply Cell.app)))) rfl rfl rfl ?_
  refine XO_v0 (ev_lenS rfl slt_27) rfl rfl rfl ?_
  refine zC ?_
  refine XO_nil (at_then ?_)
  refine X_cond rfl (fun hc37 => ?_) (fun hc37 => ?_)
  ·
   have hlt_k : k < x.n2 := by have h := hc37; simp at h; omega
   obtain ⟨y, s, hy, hs9, q1, q2, hW, hN⟩ := hH.at hlt_k
   have hwl := hwh s (List.mem_of_getElem? hs9)
   have hnl := hnd s (List.mem_of_getElem? hs9)
   have hWl := hW.len
   have hNl := hN.len
   refine X_skip ?_
   refine at_then ?_
   refine X_seq ?_
   refine X_block ?_
   refine X_seq (X_region ?_)
   refine XO_v0 (ev_fieldAddr rfl fld_33_5) rfl rfl rfl ?_
   refine XO_v0 (ev_load rfl sct_27 (fun hg => by first | exact Cell.imm h1 rfl | exact Cell.imm h4s rfl | (repeat (first | exact Cell.here rfl | apply Cell.there | apply Cell.app)))) rfl rfl rfl ?_
   refine zM ?_
   refine XO_v0 (ev_indexSl rfl rfl slt_27 hH.1 (fun hg => by first | omega | (simp [conj] at hg; omega))) rfl rfl rfl ?_
   refine XO_v0 (ev_loadA rfl agt_58 (fun hg => by first | exact Sl.getA hH.1 hy | (repeat (first | exact Cells.here | exact Cells.s0 (vs := [_, _, _, _]) rfl | apply Cells.there | apply Cells.app))) rfl) rfl rfl rfl ?_
   refine XO_alloc zt_58 rfl rfl (fun b_4 => ?_)
   refine XO_storeA rfl rfl szt_58 rfl rfl rfl rfl (by repeat (first | exact Upd.here | apply Upd.there | apply upd_app)) ?_
   refine XO_nil (at_then ?_)
   refine X_seq ?_
   refine X_freeze .here (fun I3 hI3 hb3 => ?_)
   have hD := hD.mono hI3
   have hH := hH.mono hI3
   have h1 := h1.mono hI3
   have hW := hW.mono hI3
   have hN := hN.mono hI3
   have hIc := hIc.trans hI3
   have hB0 := hB0.trans hI3
   have h4s := ImmC.of hb3
   refine X_region ?_
   refine XO_v0 (ev_fieldAddr rfl fld_58_0) rfl rfl rfl ?_
   refine XO_v0 (ev_load rfl sct_3 (fun hg => by first | exact Cell.imm h1 rfl | exact Cell.imm h4s rfl | (repeat (first | exact Cell.here rfl | apply Cell.there | apply Cell.app)))) rfl rfl rfl ?_
   refine XO_callV0 (cap := []) (vs := [_, _, _]) rfl rfl fun_103 (w_rWith _ _ _ _) rfl rfl ?_
   refine XO_v0 (ev_not rfl) rfl rfl rfl ?_
   refine zM ?_
   refine XO_pushF 4 rfl rfl rfl ?_
   refine XO_v1 (ev_fieldAddr rfl fld_58_1) (.some rfl rfl rfl rfl gbf) rfl rfl rfl ?_
   refine XO_v1 (ev_load rfl sct_3 (fun hg => by first | exact Cell.imm h1 rfl | exact Cell.imm h4s rfl | (repeat (first | exact Cell.here rfl | apply Cell.there | apply Cell.app)))) (.some rfl rfl rfl rfl gbf) rfl rfl rfl ?_
   refine XO_callV1 (cap := []) (vs := [_, _, _]) rfl rfl fun_103 (fun hg => w_rWith _ _ _ _) (.some rfl rfl rfl rfl gbf) rfl rfl ?_
   refine XO_v1 (ev_not rfl) (.some rfl rfl rfl rfl gbf) rfl rfl rfl ?_
   refine XO_or0 rfl rfl rfl rfl rfl ?_
   refine zM ?_
   refine XO_pushF 10 rfl rfl rfl ?_
   refine XO_v1 (ev_fieldAddr rfl fld_58_2) (.some rfl rfl rfl rfl gbf) rfl rfl rfl ?_
   refine XO_v1 (ev_load rfl sct_23 (fun hg => by first | exact Cell.imm h1 rfl | exact Cell.imm h4s rfl | (repeat (first | exact Cell.here rfl | apply Cell.there | apply Cell.app)))) (.some rfl rfl rfl rfl gbf) rfl rfl rfl ?_
   refine XO_v1 (ev_lenS rfl slt_23) (.some rfl rfl rfl rfl gbf) rfl rfl rfl ?_
   refine XO_v1 (ev_cmp rfl rfl rfl) (.some rfl rfl rfl rfl gbf) rfl rfl rfl ?_
   refine XO_or0 rfl rfl rfl rfl rfl ?_
   refine zM ?_
   refine XO_pushF 16 rfl rfl rfl ?_
   refine XO_v1 (ev_fieldAddr rfl fld_58_2) (.some rfl rfl rfl rfl gbf) rfl rfl rfl ?_
   refine XO_v1 (ev_load rfl sct_23 (fun hg => by first | exact Cell.imm h1 rfl | exact Cell.imm h4s rfl | (repeat (first | exact Cell.here rfl | apply Cell.there | apply Cell.app)))) (.some rfl rfl rfl rfl gbf) rfl rfl rfl ?_
   refine XO_callV1 (cap := []) (vs := [_, _, _]) rfl rfl fun_102 (fun hg => w_rInc hW (by omega) 0 63) (.some rfl rfl rfl rfl gbf) rfl rfl ?_
   refine XO_v1 (ev_not rfl) (.some rfl rfl rfl rfl gbf) rfl rfl rfl ?_
   refine XO_or0 rfl rfl rfl rfl rfl ?_
   refine zM ?_
   refine XO_pushF 22 rfl rfl rfl ?_
   refine XO_v1 (ev_fieldAddr rfl fld_58_3) (.some rfl rfl rfl rfl gbf) rfl rfl rfl ?_
   refine XO_v1 (ev_load rfl sct_23 (fun hg => by first | exact Cell.imm h1 rfl | exact Cell.imm h4s rfl | (repeat (first | exact Cell.here rfl | apply Cell.there | apply Cell.app)))) (.some rfl rfl rfl rfl gbf) rfl rfl rfl ?_
   refine XO_v1 (ev_move rfl) (.some rfl rfl rfl rfl gbf) rfl rfl rfl ?_
   refine XO_v1 (ev_arB rfl rfl rfl (fun hg => by first | omega | (simp [conj] at hg; omega))) (.some rfl rfl rfl rfl gbf) rfl rfl rfl ?_
   refine XO_callV1 (cap := []) (vs := [_, _, _]) rfl rfl fun_102 (fun hg => w_rInc hN (by omega) 0 _) (.some rfl rfl rfl rfl gbf) rfl rfl ?_
   refine XO_v1 (ev_not rfl) (.some rfl rfl rfl rfl gbf) rfl rfl rfl ?_
   refine XO_or0 rfl rfl rfl rfl rfl ?_
   refine XO_nil (at_then ?_)
   refine X_cond rfl (fun hc74 => ?_) (fun hc74 => ?_)
   ·
    have hb : sesP k s = true := by unfold sesP; rw [← q1, ← q2, hWl, ← within_neg]; exact hc74
    refine X_seq (X_region ?_)
    refine zA ?_
    refine XO_nil (at_then ?_)
    refine X_ret ?_
    refine at_block_r ?_
    refine at_then_r ?_
    refine at_then_r ?_
    refine at_block_r ?_
    refine at_then_r ?_
    first
    | exact at_ret1 rfl rfl (fun w hw => ⟨by unfold rightF; rw [hr, hg9, goodS_bad hs9 hb]; rfl, (hw.mono hIc).drop⟩)
   ·
    have hb : sesP k s = false := by unfold sesP; rw [← q1, ← q2, hWl, ← within_neg]; exact hc74
    refine X_skip ?_
    refine at_block_n ?_
    refine at_then ?_
    refine X_region ?_
    refine zM ?_
    refine zB ?_
    refine zA ?_
    refine XO_nil ?_
    exact at_met2 _ _ ⟨x.n2 - (k + 1), by omega, k + 1, rfl, rfl, hB0, rfl, by omega, by rw [hg9, goodS_step hs9 hb]⟩ (.cons rfl (.cons rfl .nil)) (by repeat (first | exact .refl | exact subL_left | refine subL_app ?_ | refine .drop ?_ | refine subL_add ?_))
  ·
   have hge_k : x.n2 ≤ k := by have h := hc37; simp at h; omega
   rw [goodS_end (by omega)] at hg9
   refine X_exit ?_
   refine at_then_e ?_
   refine at_then_e ?_
   refine at_block_hit ?_
   refine at_then ?_
   refine X_seq (X_region ?_)
   refine zA ?_
   refine XO_nil (at_then ?_)
   refine X_ret ?_
   first
   | exact at_ret1 rfl rfl (fun w hw => ⟨by unfold rightF; rw [hr, hg9]; rfl, (hw.mono hIc).drop⟩)
theorem w_rPlans {I : HMap} {x : CH} {cr : Cr} (hC : CrAt I x cr) (hn : x.n ≤ 16) (hn2 : x.n2 ≤ 8) : RetV Tryz.prog 52 [encCHA x] I (.int .i64 (plansF cr)) := by
 intro g H w hw
 refine enter Tryz.func52 rfl Tryz.ntmps52 rfl hw ?_
 have hIc := HLe.refl I
 have hlD : cr.days.length = x.n := hC.1.len
 have hlS : cr.ss.length = x.n2 := hC.2.2.2.2.2.len
 refine X_seq (X_region ?_)
 refine XO_box rfl rfl rfl (fun b_1 => ?_)
 refine zA ?_
 refine XO_nil (at_then ?_)
 refine X_seq ?_
 refine X_freeze .here (fun I1 hI1 hb1 => ?_)
 have hIc := hIc.trans hI1
 have h1 := ImmC.of hb1
 refine X_region ?_
 refine zA ?_
 refine XO_nil (at_then ?_)
 refine X_seq ?_
 refine X_seq (X_region ?_)
 refine zA ?_
 refine XO_nil (at_then ?_)
 refine X_block ?_
 refine X_loopT [(1, _)] (.cons rfl .nil) (fun T L0 mz E I' loc' => ∃ (k : Nat) (q : Int), mz = x.n2 - k ∧ E = (3, .int .i64 q) :: (4, .int .i64 k) :: T ∧ I1 = I' ∧ L0 = loc' ∧ k ≤ x.n2 ∧ q = ((x.n ^ k : Nat) : Int)) _ _ _ _ ⟨0, 1, rfl, rfl, rfl, rfl, Nat.zero_le _, rfl⟩ (.cons rfl (.cons rfl (.cons rfl .nil))) (HLe.refl _) rfl ?_
 rintro mz E I' loc' ⟨k, q, rfl, rfl, rfl, rfl, hk, hq⟩
 refine X_seq ?_
 refine X_seq (X_region ?_)
 refine zM ?_
 refine XO_v0 (ev_fieldAddr rfl fld_33_5) rfl rfl rfl ?_
 refine XO_v0 (ev_load rfl sct_27 (fun hg => by first | exact Cell.imm h1 rfl | (repeat (first | exact Cell.here rfl | apply Cell.there | apply Cell.app)))) rfl rfl rfl ?_
 refine XO_v0 (ev_lenS rfl slt_27) rfl rfl rfl ?_
 refine zC ?_
 refine XO_nil (at_then ?_)
 refine X_cond rfl (fun hc9 => ?_) (fun hc9 => ?_)
 ·
  have hlt_k : k < x.n2 := by have h := hc9; simp at h; omega
  have hp := pow16 (n := x.n) (k := k) hn (by omega)
  have hp2 := pow16 (n := x.n) (k := k + 1) hn (by omega)
  have hm : q * (x.n : Int) = ((x.n ^ (k + 1) : Nat) : Int) := by rw [hq, Nat.pow_succ]; simp
  refine X_skip ?_
  refine at_then ?_
  refine X_seq ?_
  refine X_block ?_
  refine X_region ?_
  refine zM ?_
  refine XO_v0 (ev_fieldAddr rfl fld_33_0) rfl rfl rfl ?_
  refine XO_v0 (ev_load rfl sct_23 (fun hg => by first | exact Cell.imm h1 rfl | (repeat (first | exact Cell.here rfl | apply Cell.there | apply Cell.app)))) rfl rfl rfl ?_
  refine XO_v0 (ev_lenS rfl slt_23) rfl rfl rfl ?_
  refine zB ?_
  refine zA ?_
  refine XO_nil ?_
  refine at_block_n ?_
  refine at_then ?_
  refine X_region ?_
  refine zM ?_
  refine zB ?_
  refine zA ?_
  refine XO_nil ?_
  exact at_met2 _ _ ⟨x.n2 - (k + 1), by omega, k + 1, _, rfl, rfl, rfl, rfl, by omega, by rw [hq, Nat.pow_succ]; simp⟩ (.cons rfl (.cons rfl (.cons rfl .nil))) (by repeat (first | exact .refl | exact subL_left | refine subL_app ?_ | refine .drop ?_ | refine subL_add ?_))
 ·
  have hge_k : x.n2 ≤ k := by have h := hc9; simp at h; omega
  obtain rfl : k = x.n2 := by omega
  refine X_exit ?_
  refine at_then_e ?_
  refine at_then_e ?_
  refine at_block_hit ?_
  refine at_then ?_
  refine X_seq (X_region ?_)
  refine zM ?_
  refine zA ?_
  refine XO_nil (at_then ?_)
  refine X_ret ?_
  exact at_ret1 rfl rfl (fun w hw => ⟨by unfold plansF; rw [hlD, hlS, hq], (hw.mono hIc).drop⟩)
theorem w_rChk {I : HMap} {x : CH} {cr : Cr} (hC : CrAt I x cr) (hnd : ∀ s ∈ cr.ss, s.needs.length ≤ 100000) (hwh : ∀ s ∈ cr.ss, s.who.length ≤ 100000) : RetV Tryz.prog 21 [encCHA x] I (.int .i64 (chkC cr)) := by
 intro g H w hw
 refine enter Tryz.func21 rfl Tryz.ntmps21 rfl hw ?_
 have hIc := HLe.refl I
 obtain ⟨hD, e1, e2, e3, e4, hss⟩ := id hC
 obtain ⟨hs, hH⟩ := hss
 have hlS := hH.len
 have hlD := hD.len
 refine X_seq (X_region ?_)
 refine XO_box rfl rfl rfl (fun b_1 => ?_)
 refine zA ?_
 refine XO_nil (at_then ?_)
 refine X_seq ?_
 refine X_seq ?_
 refine X_freeze .here (fun I1 hI1 hb1 => ?_)
 have hC := hC.mono hI1
 have hH := hH.mono hI1
 have hIc := hIc.trans hI1
 have hbx := ImmC.of hb1
 refine X_region ?_
 refine XO_v0 (ev_fieldAddr rfl fld_33_0) rfl rfl rfl ?_
 refine XO_v0 (ev_load rfl sct_23 (fun hg => by first | exact Cell.imm hbx rfl | exact Sl.get hH.1 hy (j := 2) rfl | (repeat (first | exact Cell.here rfl | apply Cell.there | apply Cell.app)))) rfl rfl rfl ?_
 refine XO_v0 (ev_lenS rfl slt_23) rfl rfl rfl ?_
 refine zC ?_
 refine zM ?_
 refine XO_pushF 4 rfl rfl rfl ?_
 refine XO_v1 (ev_fieldAddr rfl fld_33_5) (.some rfl rfl rfl rfl gbf) rfl rfl rfl ?_
 refine XO_v1 (ev_load rfl sct_27 (fun hg => by first | exact Cell.imm hbx rfl | exact Sl.get hH.1 hy (j := 2) rfl | (repeat (first | exact Cell.here rfl | apply Cell.there | apply Cell.app)))) (.some rfl rfl rfl rfl gbf) rfl rfl rfl ?_
 refine XO_v1 (ev_lenS rfl slt_27) (.some rfl rfl rfl rfl gbf) rfl rfl rfl ?_
 refine XO_v1 (ev_cmp rfl rfl rfl) (.some rfl rfl rfl rfl gbf) rfl rfl rfl ?_
 refine XO_or0 rfl rfl rfl rfl rfl ?_
 refine XO_nil (at_then ?_)
 refine X_cond rfl (fun hc13 => ?_) (fun hc13 => ?_)
 ·
  have h1 : ((decide ((cr.days.length : Int) > 16) || decide ((cr.ss.length : Int) > 8)) || cr.ss.any (fun s => decide ((s.who.length : Int) > 6))) = true := by rw [hlD, hlS, show (decide ((x.n : Int) > 16) || decide ((x.n2 : Int) > 8)) = true from hc13]; rfl
  refine X_seq (X_region ?_)
  refine zA ?_
  refine XO_nil (at_then ?_)
  refine X_ret ?_
  refine at_then_r ?_
  exact at_ret1 rfl rfl (fun w hw => ⟨by rw [chkC_1 h1], (hw.mono hIc).drop⟩)
 ·
  have hsm : (decide ((x.n : Int) > 16) || decide ((x.n2 : Int) > 8)) = false := hc13
  have hsm2 := hsm
  simp at hsm2
  refine X_skip ?_
  refine at_then ?_
  refine X_seq ?_
  refine X_seq (X_region ?_)
  refine zA ?_
  refine XO_nil (at_then ?_)
  refine X_block ?_
  refine X_loopT [(1, _)] (.cons rfl .nil) (fun T L0 mz E I' loc' => ∃ (k : Nat), mz = x.n2 - k ∧ E = (3, .int .i64 k) :: T ∧ I1 = I' ∧ L0 = loc' ∧ k ≤ x.n2 ∧ (cr.ss.take k).any (fun s => decide ((s.who.length : Int) > 6)) = false) _ _ _ _ ⟨0, rfl, rfl, rfl, rfl, Nat.zero_le _, rfl⟩ (.cons rfl (.cons rfl .nil)) (HLe.refl _) rfl ?_
  rintro mz E I' loc' ⟨k, rfl, rfl, rfl, rfl, hk, hno⟩
  refine X_seq ?_
  refine X_seq (X_region ?_)
  refine zM ?_
  refine XO_v0 (ev_fieldAddr rfl fld_33_5) rfl rfl rfl ?_
  refine XO_v0 (ev_load rfl sct_27 (fun hg => by first | exact Cell.imm hbx rfl | exact Sl.get hH.1 hy (j := 2) rfl | (repeat (first | exact Cell.here rfl | apply Cell.there | apply Cell.app)))) rfl rfl rfl ?_
  refine XO_v0 (ev_lenS rfl slt_27) rfl rfl rfl ?_
  refine zC ?_
  refine XO_nil (at_then ?_)
  refine X_cond rfl (fun hc18 => ?_) (fun hc18 => ?_)
  ·
   have hlt_k : k < x.n2 := by have h := hc18; simp at h; omega
   obtain ⟨y, s, hy, hs9, q1, q2, hW, hN⟩ := hH.at hlt_k
   have hWl := hW.len
   refine X_skip ?_
   refine at_then ?_
   refine X_seq ?_
   refine X_block ?_
   refine X_seq (X_region ?_)
   refine XO_v0 (ev_fieldAddr rfl fld_33_5) rfl rfl rfl ?_
   refine XO_v0 (ev_load rfl sct_27 (fun hg => by first | exact Cell.imm hbx rfl | exact Sl.get hH.1 hy (j := 2) rfl | (repeat (first | exact Cell.here rfl | apply Cell.there | apply Cell.app)))) rfl rfl rfl ?_
   refine zM ?_
   refine XO_v0 (ev_indexSl rfl rfl slt_27 hH.1 (fun hg => by first | omega | (simp [conj] at hg; omega))) rfl rfl rfl ?_
   refine XO_v0 (ev_fieldAddr rfl fld_58_2) rfl rfl rfl ?_
   refine XO_v0 (ev_load rfl sct_23 (fun hg => by first | exact Cell.imm hbx rfl | exact Sl.get hH.1 hy (j := 2) rfl | (repeat (first | exact Cell.here rfl | apply Cell.there | apply Cell.app)))) rfl rfl rfl ?_
   refine XO_v0 (ev_lenS rfl slt_23) rfl rfl rfl ?_
   refine zC ?_
   refine XO_nil (at_then ?_)
   refine X_cond rfl (fun hc28 => ?_) (fun hc28 => ?_)
   ·
    have h1 : ((decide ((cr.days.length : Int) > 16) || decide ((cr.ss.length : Int) > 8)) || cr.ss.any (fun s => decide ((s.who.length : Int) > 6))) = true := by rw [any_yes hs9 (by rw [hWl]; exact hc28), Bool.or_true]
    refine X_seq (X_region ?_)
    refine zA ?_
    refine XO_nil (at_then ?_)
    refine X_ret ?_
    refine at_block_r ?_
    refine at_then_r ?_
    refine at_then_r ?_
    refine at_block_r ?_
    refine at_then_r ?_
    exact at_ret1 rfl rfl (fun w hw => ⟨by rw [chkC_1 h1], (hw.mono hIc).drop⟩)
   ·
    refine X_skip ?_
    refine at_block_n ?_
    refine at_then ?_
    refine X_region ?_
    refine zM ?_
    refine zB ?_
    refine zA ?_
    refine XO_nil ?_
    exact at_met2 _ _ ⟨x.n2 - (k + 1), by omega, k + 1, rfl, rfl, rfl, rfl, by omega, any_no hs9 hno (by rw [hWl]; exact hc28)⟩ (.cons rfl (.cons rfl .nil)) (by repeat (first | exact .refl | exact subL_left | refine subL_app ?_ | refine .drop ?_ | refine subL_add ?_))
  ·
   have hge_k : x.n2 ≤ k := by have h := hc18; simp at h; omega
   rw [List.take_of_length_le (by omega)] at hno
   have h1 : ((decide ((cr.days.length : Int) > 16) || decide ((cr.ss.length : Int) > 8)) || cr.ss.any (fun s => decide ((s.who.length : Int) > 6))) = false := by rw [hlD, hlS, hsm, hno]; rfl
   refine X_exit ?_
   refine at_then_e ?_
   refine at_then_e ?_
   refine at_block_hit ?_
   refine at_then ?_
   refine X_seq ?_
   refine X_seq (X_region ?_)
   refine XO_v0 (ev_loadA rfl agt_33 (fun hg => by first | exact Cells.immC hbx | (repeat (first | exact Cells.here | exact Cells.s0 (vs := [_, _, _, _, _, _]) rfl | apply Cells.there | apply Cells.app))) rfl) rfl rfl rfl ?_
   refine XO_callV0 (cap := []) (vs := [_]) rfl rfl fun_63 (w_rRight hC (by omega) (by omega) hwh hnd) rfl rfl ?_
   refine XO_v0 (ev_not rfl) rfl rfl rfl ?_
   refine XO_nil (at_then ?_)
   refine X_cond rfl (fun hc31 => ?_) (fun hc31 => ?_)
   ·
    have h2 : rightF cr = false := by simpa using hc31
    refine X_seq (X_region ?_)
    refine zA ?_
    refine XO_nil (at_then ?_)
    refine X_ret ?_
    refine at_then_r ?_
    exact at_ret1 rfl rfl (fun w hw => ⟨by rw [chkC_2 h1 h2], (hw.mono hIc).drop⟩)
   ·
    have h2 : rightF cr = true := by simpa using hc31
    refine X_skip ?_
    refine at_then ?_
    refine X_seq ?_
    refine X_seq (X_region ?_)
    refine XO_v0 (ev_loadA rfl agt_33 (fun hg => by first | exact Cells.immC hbx | (repeat (first | exact Cells.here | exact Cells.s0 (vs := [_, _, _, _, _, _]) rfl | apply Cells.there | apply Cells.app))) rfl) rfl rfl rfl ?_
    refine XO_callV0 (cap := []) (vs := [_]) rfl rfl fun_52 (w_rPlans hC (by omega) (by omega)) rfl rfl ?_
    refine zC ?_
    refine XO_nil (at_then ?_)
    refine X_cond rfl (fun hc34 => ?_) (fun hc34 => ?_)
    ·
     have h3 : plansF cr > 65536 := by simpa using hc34
     refine X_seq (X_region ?_)
     refine zA ?_
     refine XO_nil (at_then ?_)
     refine X_ret ?_
     refine at_then_r ?_
     exact at_ret1 rfl rfl (fun w hw => ⟨by rw [chkC_3 h1 h2, if_pos h3], (hw.mono hIc).drop⟩)
    ·
     have h3 : ¬ plansF cr > 65536 := by simpa using hc34
     refine X_skip ?_
     refine at_then ?_
     refine X_seq (X_region ?_)
     refine zA ?_
     refine XO_nil (at_then ?_)
     refine X_ret ?_
     exact at_ret1 rfl rfl (fun w hw => ⟨by rw [chkC_3 h1 h2, if_neg h3], (hw.mono hIc).drop⟩)
theorem w_rFew {I : HMap} {x : CH} {cr : Cr} (hC : CrAt I x cr) : RetV Tryz.prog 15 [encCHA x] I (.bool (fewC cr)) := by
 intro g H w hw
 refine enter Tryz.func15 rfl Tryz.ntmps15 rfl hw ?_
 have hIc := HLe.refl I
 obtain ⟨hD, e1, e2, e3, e4, hss⟩ := id hC
 obtain ⟨hs, hH⟩ := hss
 have hlS := hH.len
 have hlD := hD.len
 refine X_seq (X_region ?_)
 refine XO_box rfl rfl rfl (fun b_1 => ?_)
 refine zA ?_
 refine XO_nil (at_then ?_)
 refine X_seq ?_
 refine X_seq ?_
 refine X_freeze .here (fun I1 hI1 hb1 => ?_)
 have hC := hC.mono hI1
 have hH := hH.mono hI1
 have hIc := hIc.trans hI1
 have hbx := ImmC.of hb1
 refine X_region ?_
 refine XO_v0 (ev_fieldAddr rfl fld_33_0) rfl rfl rfl ?_
 refine XO_v0 (ev_load rfl sct_23 (fun hg => by first | exact Cell.imm hbx rfl | exact Sl.get hH.1 hy (j := 2) rfl | exact Sl.get hH.1 hy (j := 3) rfl | (repeat (first | exact Cell.here rfl | apply Cell.there | apply Cell.app)))) rfl rfl rfl ?_
 refine XO_v0 (ev_lenS rfl slt_23) rfl rfl rfl ?_
 refine zC ?_
 refine zM ?_
 refine XO_pushF 4 rfl rfl rfl ?_
 refine XO_v1 (ev_fieldAddr rfl fld_33_5) (.some rfl rfl rfl rfl gbf) rfl rfl rfl ?_
 refine XO_v1 (ev_load rfl sct_27 (fun hg => by first | exact Cell.imm hbx rfl | exact Sl.get hH.1 hy (j := 2) rfl | exact Sl.get hH.1 hy (j := 3) rfl | (repeat (first | exact Cell.here rfl | apply Cell.there | apply Cell.app)))) (.some rfl rfl rfl rfl gbf) rfl rfl rfl ?_
 refine XO_v1 (ev_lenS rfl slt_27) (.some rfl rfl rfl rfl gbf) rfl rfl rfl ?_
 refine XO_v1 (ev_cmp rfl rfl rfl) (.some rfl rfl rfl rfl gbf) rfl rfl rfl ?_
 refine XO_or0 rfl rfl rfl rfl rfl ?_
 refine XO_nil (at_then ?_)
 refine X_cond rfl (fun hc13 => ?_) (fun hc13 => ?_)
 ·
  have h1 : (decide ((cr.days.length : Int) > 40) || decide ((cr.ss.length : Int) > 20)) = true := by rw [hlD, hlS]; exact hc13
  refine X_seq (X_region ?_)
  refine zA ?_
  refine XO_nil (at_then ?_)
  refine X_ret ?_
  refine at_then_r ?_
  first
  | exact at_ret1 rfl rfl (fun w hw => ⟨by unfold fewC; rw [if_pos h1], (hw.mono hIc).drop⟩)
 ·
  have h1 : (decide ((cr.days.length : Int) > 40) || decide ((cr.ss.length : Int) > 20)) = false := by rw [hlD, hlS]; exact hc13
  have hsm := h1
  simp at hsm
  refine X_skip ?_
  refine at_then ?_
  refine X_seq ?_
  refine X_seq (X_region ?_)
  refine zA ?_
  refine XO_nil (at_then ?_)
  refine X_block ?_
  refine X_loopT [(1, _)] (.cons rfl .nil) (fun T L0 mz E I' loc' => ∃ (k : Nat), mz = x.n2 - k ∧ E = (3, .int .i64 k) :: T ∧ I1 = I' ∧ L0 = loc' ∧ k ≤ x.n2 ∧ (cr.ss.take k).any (fun s => decide ((s.who.length : Int) > 80) || decide ((s.needs.length : Int) > 80)) = false) _ _ _ _ ⟨0, rfl, rfl, rfl, rfl, Nat.zero_le _, rfl⟩ (.cons rfl (.cons rfl .nil)) (HLe.refl _) rfl ?_
  rintro mz E I' loc' ⟨k, rfl, rfl, rfl, rfl, hk, hno⟩
  refine X_seq ?_
  refine X_seq (X_region ?_)
  refine zM ?_
  refine XO_v0 (ev_fieldAddr rfl fld_33_5) rfl rfl rfl ?_
  refine XO_v0 (ev_load rfl sct_27 (fun hg => by first | exact Cell.imm hbx rfl | exact Sl.get hH.1 hy (j := 2) rfl | exact Sl.get hH.1 hy (j := 3) rfl | (repeat (first | exact Cell.here rfl | apply Cell.there | apply Cell.app)))) rfl rfl rfl ?_
  refine XO_v0 (ev_lenS rfl slt_27) rfl rfl rfl ?_
  refine zC ?_
  refine XO_nil (at_then ?_)
  refine X_cond rfl (fun hc18 => ?_) (fun hc18 => ?_)
  ·
   have hlt_k : k < x.n2 := by have h := hc18; simp at h; omega
   obtain ⟨y, s, hy, hs9, q1, q2, hW, hN⟩ := hH.at hlt_k
   have hWl := hW.len
   have hNl := hN.len
   refine X_skip ?_
   refine at_then ?_
   refine X_seq ?_
   refine X_block ?_
   refine X_seq (X_region ?_)
   refine XO_v0 (ev_fieldAddr rfl fld_33_5) rfl rfl rfl ?_
   refine XO_v0 (ev_load rfl sct_27 (fun hg => by first | exact Cell.imm hbx rfl | exact Sl.get hH.1 hy (j := 2) rfl | exact Sl.get hH.1 hy (j := 3) rfl | (repeat (first | exact Cell.here rfl | apply Cell.there | apply Cell.app)))) rfl rfl rfl ?_
   refine zM ?_
   refine XO_v0 (ev_indexSl rfl rfl slt_27 hH.1 (fun hg => by first | omega | (simp [conj] at hg; omega))) rfl rfl rfl ?_
   refine XO_v0 (ev_fieldAddr rfl fld_58_2) rfl rfl rfl ?_
   refine XO_v0 (ev_load rfl sct_23 (fun hg => by first | exact Cell.imm hbx rfl | exact Sl.get hH.1 hy (j := 2) rfl | exact Sl.get hH.1 hy (j := 3) rfl | (repeat (first | exact Cell.here rfl | apply Cell.there | apply Cell.app)))) rfl rfl rfl ?_
   refine XO_v0 (ev_lenS rfl slt_23) rfl rfl rfl ?_
   refine zC ?_
   refine zM ?_
   refine XO_pushF 8 rfl rfl rfl ?_
   refine XO_v1 (ev_fieldAddr rfl fld_33_5) (.some rfl rfl rfl rfl gbf) rfl rfl rfl ?_
   refine XO_v1 (ev_load rfl sct_27 (fun hg => by first | exact Cell.imm hbx rfl | exact Sl.get hH.1 hy (j := 2) rfl | exact Sl.get hH.1 hy (j := 3) rfl | (repeat (first | exact Cell.here rfl | apply Cell.there | apply Cell.app)))) (.some rfl rfl rfl rfl gbf) rfl rfl rfl ?_
   refine XO_v1 (ev_move rfl) (.some rfl rfl rfl rfl gbf) rfl rfl rfl ?_
   refine XO_v1 (ev_indexSl rfl rfl slt_27 hH.1 (fun hg => by first | omega | (simp [conj] at hg; omega))) (.some rfl rfl rfl rfl gbf) rfl rfl rfl ?_
   refine XO_v1 (ev_fieldAddr rfl fld_58_3) (.some rfl rfl rfl rfl gbf) rfl rfl rfl ?_
   refine XO_v1 (ev_load rfl sct_23 (fun hg => by first | exact Cell.imm hbx rfl | exact Sl.get hH.1 hy (j := 2) rfl | exact Sl.get hH.1 hy (j := 3) rfl | (repeat (first | exact Cell.here rfl | apply Cell.there | apply Cell.app)))) (.some rfl rfl rfl rfl gbf) rfl rfl rfl ?_
   refine XO_v1 (ev_lenS rfl slt_23) (.some rfl rfl rfl rfl gbf) rfl rfl rfl ?_
   refine XO_v1 (ev_cmp rfl rfl rfl) (.some rfl rfl rfl rfl gbf) rfl rfl rfl ?_
   refine XO_or0 rfl rfl rfl rfl rfl ?_
   refine XO_nil (at_then ?_)
   refine X_cond rfl (fun hc38 => ?_) (fun hc38 => ?_)
   ·
    have h2 : cr.ss.any (fun s => decide ((s.who.length : Int) > 80) || decide ((s.needs.length : Int) > 80)) = true := any_yes hs9 (by rw [hWl, hNl]; exact hc38)
    refine X_seq (X_region ?_)
    refine zA ?_
    refine XO_nil (at_then ?_)
    refine X_ret ?_
    refine at_block_r ?_
    refine at_then_r ?_
    refine at_then_r ?_
    refine at_block_r ?_
    refine at_then_r ?_
    first
    | exact at_ret1 rfl rfl (fun w hw => ⟨by unfold fewC; rw [if_neg (by rw [h1]; decide), if_pos h2], (hw.mono hIc).drop⟩)
   ·
    refine X_skip ?_
    refine at_block_n ?_
    refine at_then ?_
    refine X_region ?_
    refine zM ?_
    refine zB ?_
    refine zA ?_
    refine XO_nil ?_
    exact at_met2 _ _ ⟨x.n2 - (k + 1), by omega, k + 1, rfl, rfl, rfl, rfl, by omega, any_no hs9 hno (by rw [hWl, hNl]; exact hc38)⟩ (.cons rfl (.cons rfl .nil)) (by repeat (first | exact .refl | exact subL_left | refine subL_app ?_ | refine .drop ?_ | refine subL_add ?_))
  ·
   have hge_k : x.n2 ≤ k := by have h := hc18; simp at h; omega
   rw [List.take_of_length_le (by omega)] at hno
   refine X_exit ?_
   refine at_then_e ?_
   refine at_then_e ?_
   refine at_block_hit ?_
   refine at_then ?_
   refine X_seq ?_
   refine X_seq (X_region ?_)
   refine XO_v0 (ev_fieldAddr rfl fld_33_0) rfl rfl rfl ?_
   refine XO_v0 (ev_load rfl sct_23 (fun hg => by first | exact Cell.imm hbx rfl | exact Sl.get hH.1 hy (j := 2) rfl | exact Sl.get hH.1 hy (j := 3) rfl | (repeat (first | exact Cell.here rfl | apply Cell.there | apply Cell.app)))) rfl rfl rfl ?_
   refine XO_v0 (ev_lenS rfl slt_23) rfl rfl rfl ?_
   refine zC ?_
   refine zM ?_
   refine XO_pushF 4 rfl rfl rfl ?_
   refine XO_v1 (ev_fieldAddr rfl fld_33_5) (.some rfl rfl rfl rfl gbf) rfl rfl rfl ?_
   refine XO_v1 (ev_load rfl sct_27 (fun hg => by first | exact Cell.imm hbx rfl | exact Sl.get hH.1 hy (j := 2) rfl | exact Sl.get hH.1 hy (j := 3) rfl | (repeat (first | exact Cell.here rfl | apply Cell.there | apply Cell.app)))) (.some rfl rfl rfl rfl gbf) rfl rfl rfl ?_
   refine XO_v1 (ev_lenS rfl slt_27) (.some rfl rfl rfl rfl gbf) rfl rfl rfl ?_
   refine XO_v1 (ev_cmp rfl rfl rfl) (.some rfl rfl rfl rfl gbf) rfl rfl rfl ?_
   refine XO_or0 rfl rfl rfl rfl rfl ?_
   refine XO_nil (at_then ?_)
   refine X_cond rfl (fun hc48 => ?_) (fun hc48 => ?_)
   ·
    have h3 : (decide ((cr.days.length : Int) > 16) || decide ((cr.ss.length : Int) > 8)) = true := by rw [hlD, hlS]; exact hc48
    refine X_seq (X_region ?_)
    refine zA ?_
    refine XO_nil (at_then ?_)
    refine X_ret ?_
    refine at_then_r ?_
    first
    | exact at_ret1 rfl rfl (fun w hw => ⟨by unfold fewC; rw [if_neg (by rw [h1]; decide), if_neg (by rw [hno]; decide), if_pos h3], (hw.mono hIc).drop⟩)
   ·
    have h3 : (decide ((cr.days.length : Int) > 16) || decide ((cr.ss.length : Int) > 8)) = false := by rw [hlD, hlS]; exact hc48
    have hsm3 := h3
    simp at hsm3
    refine X_skip ?_
    refine at_then ?_
    refine X_seq (X_region ?_)
    refine XO_v0 (ev_loadA rfl agt_33 (fun hg => by first | exact Cells.immC hbx | (repeat (first | exact Cells.here | exact Cells.s0 (vs := [_, _, _, _, _, _]) rfl | apply Cells.there | apply Cells.app))) rfl) rfl rfl rfl ?_
    refine XO_callV0 (cap := []) (vs := [_]) rfl rfl fun_52 (w_rPlans hC (by omega) (by omega)) rfl rfl ?_
    refine zC ?_
    refine zM ?_
    refine XO_pushF 3 rfl rfl rfl ?_
    refine XO_v1 (ev_loadA rfl agt_33 (fun hg => by first | exact Cells.immC hbx | (repeat (first | exact Cells.here | exact Cells.s0 (vs := [_, _, _, _, _, _]) rfl | apply Cells.there | apply Cells.app))) rfl) (.some rfl rfl rfl rfl gbf) rfl rfl rfl ?_
    refine XO_callV1 (cap := []) (vs := [_]) rfl rfl fun_52 (fun hg => w_rPlans hC (by omega) (by omega)) (.some rfl rfl rfl rfl gbf) rfl rfl ?_
    refine XO_v1 (ev_cmp rfl rfl rfl) (.some rfl rfl rfl rfl gbf) rfl rfl rfl ?_
    refine XO_or0 rfl rfl rfl rfl rfl ?_
    refine zA ?_
    refine XO_nil (at_then ?_)
    refine X_ret ?_
    first
    | exact at_ret1 rfl rfl (fun w hw => ⟨by unfold fewC; rw [if_neg (by rw [h1]; decide), if_neg (by rw [hno]; decide), if_neg (by rw [h3]; decide)], (hw.mono hIc).drop⟩)
theorem w_rBeg {I : HMap} {x : CH} {cr : Cr} (hC : CrAt I x cr) {av : Option Addr} {n c : Nat} {pl : List Int} (hS : Sl I 1 encI av n c pl) (hn : n ≤ 100000) : RetV Tryz.prog 31 [encCHA x, .slice av n c] I (.bool (begB cr pl)) := by
 intro g H w hw
 refine enter Tryz.func31 rfl Tryz.ntmps31 rfl hw ?_
 have hIc := HLe.refl I
 have hlS : cr.ss.length = x.n2 := hC.2.2.2.2.2.len
 have hlD : cr.days.length = x.n := hC.1.len
 have hlP := hS.len
 refine X_seq (X_region ?_)
 refine XO_box rfl rfl rfl (fun b_2 => ?_)
 refine zA ?_
 refine XO_nil (at_then ?_)
 refine X_seq ?_
 refine X_seq ?_
 refine X_freeze .here (fun I1 hI1 hb1 => ?_)
 have hS := hS.mono hI1
 have hIc := hIc.trans hI1
 have h2 := ImmC.of hb1
 refine X_region ?_
 refine zM ?_
 refine XO_v0 (ev_lenS rfl slt_23) rfl rfl rfl ?_
 refine XO_v0 (ev_fieldAddr rfl fld_33_5) rfl rfl rfl ?_
 refine XO_v0 (ev_load rfl sct_27 (fun hg => by first | exact Cell.imm h2 rfl | exact Sl.get0 hS hx rfl | (repeat (first | exact Cell.here rfl | apply Cell.there | apply Cell.app)))) rfl rfl rfl ?_
 refine XO_v0 (ev_lenS rfl slt_27) rfl rfl rfl ?_
 refine zC ?_
 refine XO_nil (at_then ?_)
 refine X_cond rfl (fun hc11 => ?_) (fun hc11 => ?_)
 ·
  have h1 : (decide ((pl.length : Int) > (cr.ss.length : Int))) = true := by rw [hlP, hlS]; exact hc11
  refine X_seq (X_region ?_)
  refine zA ?_
  refine XO_nil (at_then ?_)
  refine X_ret ?_
  refine at_then_r ?_
  first
  | exact at_ret1 rfl rfl (fun w hw => ⟨by unfold begB; rw [h1]; rfl, (hw.mono hIc).drop⟩)
 ·
  have h1 : (decide ((pl.length : Int) > (cr.ss.length : Int))) = false := by rw [hlP, hlS]; exact hc11
  refine X_skip ?_
  refine at_then ?_
  refine X_seq ?_
  refine X_seq (X_region ?_)
  refine zA ?_
  refine XO_nil (at_then ?_)
  refine X_block ?_
  refine X_loopT [(1, _), (2, _)] (.cons rfl (.cons rfl .nil)) (fun T L0 mz E I' loc' => ∃ (k : Nat), mz = n - k ∧ E = (5, .int .i64 k) :: T ∧ I1 = I' ∧ L0 = loc' ∧ k ≤ n ∧ (pl.take k).any (fun d => decide (d < 0) || decide (d ≥ (cr.days.length : Int))) = false) _ _ _ _ ⟨0, rfl, rfl, rfl, rfl, Nat.zero_le _, rfl⟩ (.cons rfl (.cons rfl (.cons rfl .nil))) (HLe.refl _) rfl ?_
  rintro mz E I' loc' ⟨k, rfl, rfl, rfl, rfl, hk, hno⟩
  refine X_seq ?_
  refine X_seq (X_region ?_)
  refine zM ?_
  refine zM ?_
  refine XO_v0 (ev_lenS rfl slt_23) rfl rfl rfl ?_
  refine zC ?_
  refine XO_nil (at_then ?_)
  refine X_cond rfl (fun hc15 => ?_) (fun hc15 => ?_)
  ·
   have hlt_k : k < n := by have h := hc15; simp at h; omega
   obtain ⟨x0, hx⟩ := hS.at hlt_k
   refine X_skip ?_
   refine at_then ?_
   refine X_seq ?_
   refine X_block ?_
   refine X_seq ?_
   refine X_draw mixed (by kernel_rfl) ?_
   refine XQ_v0 (ev_move rfl) rfl rfl rfl ?_
   refine XQ_v0 (ev_move rfl) rfl rfl rfl ?_
   refine XQ_v0 (ev_indexSl rfl rfl slt_23 (by assumption) (fun hg => by first | omega | (simp [conj] at hg; omega))) rfl rfl rfl ?_
   refine XQ_v0 (ev_load rfl sct_3 (fun hg => by first | exact Cell.imm h2 rfl | exact Sl.get0 hS hx rfl | (repeat (first | exact Cell.here rfl | apply Cell.there | apply Cell.app)))) rfl rfl rfl ?_
   refine XQ_v0 (ev_cmp rfl rfl rfl) rfl rfl rfl ?_
   refine XQ_v0 (ev_move rfl) rfl rfl rfl ?_
   refine XQ_pushF 5 rfl rfl rfl ?_
   refine XQ_v1 (ev_move rfl) (.some rfl rfl rfl rfl gbf) rfl rfl rfl ?_
   refine XQ_v1 (ev_move rfl) (.some rfl rfl rfl rfl gbf) rfl rfl rfl ?_
   refine XQ_v1 (ev_indexSl rfl rfl slt_23 (by assumption) (fun hg => by first | omega | (simp [conj] at hg; omega))) (.some rfl rfl rfl rfl gbf) rfl rfl rfl ?_
   refine XQ_v1 (ev_load rfl sct_3 (fun hg => by first | exact Cell.imm h2 rfl | exact Sl.get0 hS hx rfl | (repeat (first | exact Cell.here rfl | apply Cell.there | apply Cell.app)))) (.some rfl rfl rfl rfl gbf) rfl rfl rfl ?_
   refine XQ_v1 (ev_fieldAddr rfl fld_33_0) (.some rfl rfl rfl rfl gbf) rfl rfl rfl ?_
   refine XQ_v1 (ev_load rfl sct_23 (fun hg => by first | exact Cell.imm h2 rfl | exact Sl.get0 hS hx rfl | (repeat (first | exact Cell.here rfl | apply Cell.there | apply Cell.app)))) (.some rfl rfl rfl rfl gbf) rfl rfl rfl ?_
   refine XQ_v1 (ev_lenS rfl slt_23) (.some rfl rfl rfl rfl gbf) rfl rfl rfl ?_
   refine XQ_v1 (ev_cmp rfl rfl rfl) (.some rfl rfl rfl rfl gbf) rfl rfl rfl ?_
   refine XQ_or0 rfl rfl rfl rfl rfl ?_
   refine XQ_nil ?_
   refine at_then ?_
   refine X_cond rfl (fun hc32 => ?_) (fun hc32 => ?_)
   ·
    refine X_seq (X_region ?_)
    refine zA ?_
    refine XO_nil (at_then ?_)
    refine X_ret ?_
    refine at_block_r ?_
    refine at_then_r ?_
    refine at_then_r ?_
    refine at_block_r ?_
    refine at_then_r ?_
    first
    | exact at_ret1 rfl rfl (fun w hw => ⟨by unfold begB; rw [h1, any_yes hx (by rw [hlD]; exact hc32)]; rfl, (hw.mono hIc).drop⟩)
   ·
    refine X_skip ?_
    refine at_block_n ?_
    refine at_then ?_
    refine X_region ?_
    refine zM ?_
    refine zB ?_
    refine zA ?_
    refine XO_nil ?_
    exact at_met2 _ _ ⟨n - (k + 1), by omega, k + 1, rfl, rfl, rfl, rfl, by omega, any_no hx hno (by rw [hlD]; exact hc32)⟩ (.cons rfl (.cons rfl (.cons rfl .nil))) (by repeat (first | exact .refl | exact subL_left | refine subL_app ?_ | refine .drop ?_ | refine subL_add ?_))
  ·
   have hge_k : n ≤ k := by have h := hc15; simp at h; omega
   rw [take_all hS.len hge_k] at hno
   refine X_exit ?_
   refine at_then_e ?_
   refine at_then_e ?_
   refine at_block_hit ?_
   refine at_then ?_
   refine X_seq (X_region ?_)
   refine zA ?_
   refine XO_nil (at_then ?_)
   refine X_ret ?_
   first
   | exact at_ret1 rfl rfl (fun w hw => ⟨by unfold begB; rw [h1, hno]; rfl, (hw.mono hIc).drop⟩)
end Go.Proofs.YtehkiccapbkhnaaGreat
end
section
namespace Go.Proofs.YtehkiccapbkhnaaGreat
open Go Go.Kn Go.Proofs
def ssNe (a b : Ses) : Bool := (((a.pa != b.pa) || (a.ef != b.ef)) || !(a.who == b.who)) || !(a.needs == b.needs)
def samS (as' bs : List Ses) : Bool := decide (as'.length = bs.length) && !(as'.zip bs).any fun q => ssNe q.1 q.2
theorem samS_len {xs ys : List Ses} (h : xs.length ≠ ys.length) : samS xs ys = false := by unfold samS; rw [decide_eq_false h]; rfl
theorem samS_bad {xs ys : List Ses} {k : Nat} {x y : Ses} (hx : xs[k]? = some x) (hy : ys[k]? = some y) (h : ssNe x y = true) : samS xs ys = false := by
  unfold samS
  rw [List.any_eq_true.2 ⟨(x, y), zip_mem hx hy, h⟩]; simp
theorem samS_end {xs ys : List Ses} (hl : xs.length = ys.length) (h : ((xs.zip ys).take xs.length).any (fun q => ssNe q.1 q.2) = false) : samS xs ys = true := by
  unfold samS
  rw [List.take_of_length_le (by rw [List.length_zip]; omega)] at h
  rw [h, decide_eq_true hl]; rfl
def samPs (as' bs : List Pr) : Bool := decide (as'.length = bs.length) && samL 20 as' bs
theorem samPs_len {xs ys : List Pr} (h : xs.length ≠ ys.length) : samPs xs ys = false := by unfold samPs; rw [decide_eq_false h]; rfl
theorem samPs_self {xs : List Pr} (h : ∀ p ∈ xs, dpP p ≤ 20) : samPs xs xs = true := by
  unfold samPs; rw [decide_eq_true rfl, samL_self xs 20 (dpL_le h)]; rfl
end Go.Proofs.YtehkiccapbkhnaaGreat
namespace Go.Proofs.YtehkiccapbkhnaaGreat
open Go Go.Kn Go.Proofs
theorem samP_bad {f : Nat} {r d w r' d' w' : Int} {ks ks' : List Pr} (h : (((((r != r') || (d != d')) || (w != w')) || ((ks.length : Int) != (ks'.length : Int))) || ((f : Int) == 0)) = true) : samP f (.mk r d w ks) (.mk r' d' w' ks') = false := by
  unfold samP; rw [if_pos h]
theorem samP_good {f : Nat} {r d w r' d' w' : Int} {ks ks' : List Pr} (h : (((((r != r') || (d != d')) || (w != w')) || ((ks.length : Int) != (ks'.length : Int))) || (((f + 1 : Nat) : Int) == 0)) = false) : samP (f + 1) (.mk r d w ks) (.mk r' d' w' ks') = samL f ks ks' := by
  rw [samP, if_neg (by rw [h]; decide)]
end Go.Proofs.YtehkiccapbkhnaaGreat
namespace Go.Proofs.YtehkiccapbkhnaaGreat
open Go Go.Kn Go.Proofs
theorem prsAt_lf {I : HMap} : ∀ (bs : List Br), PrsAt I (bs.map lfH) (bs.map leafP)
  | [] => trivial
  | b :: bs => ⟨PrAt.leaf b, prsAt_lf bs⟩
theorem sml_lf (bs : List Br) : ∀ p ∈ bs.map leafP, smlP p := fun p hp => by
  obtain ⟨b, _, rfl⟩ := List.mem_map.1 hp
  unfold leafP smlP smlL; exact ⟨by simp, trivial⟩
theorem dp_lf (bs : List Br) : ∀ p ∈ bs.map leafP, dpP p ≤ 20 := fun p hp => by
  obtain ⟨b, _, rfl⟩ := List.mem_map.1 hp
  unfold leafP dpP dpL; omega
end Go.Proofs.YtehkiccapbkhnaaGreat
end
section
namespace Go.Proofs.YtehkiccapbkhnaaGreat
open Go Go.Kn Go.Proofs
theorem fun_23 : Fun Tryz.prog 23 := .of Tryz.func23 (by kernel_rfl) (by kernel_rfl)
theorem fun_64 : Fun Tryz.prog 64 := .of Tryz.func64 (by kernel_rfl) (by kernel_rfl)
theorem w_samP_step {I : HMap} {r d wz : Int} {ks : List Pr} {ka : Option Addr} {kn kc : Nat} {hs9 : List PH} (hK : Sl I 4 encPH ka kn kc hs9) (hks : PrsAt I hs9 ks) {r' d' wz' : Int} {ks' : List Pr} {ka' : Option Addr} {kn' kc' : Nat} {hs9' : List PH} (hK' : Sl I 4 encPH ka' kn' kc' hs9') (hks' : PrsAt I hs9' ks') (hkn : kn ≤ 100000) (f : Nat) (hf : f ≤ 100) (ih : ∀ f', f = f' + 1 → ∀ (k k' : Pr), k ∈ ks → k' ∈ ks' → ∀ (I' : HMap), HLe I I' → ∀ (h h' : PH), PrAt I' h k → PrAt I' h' k' → RetV Tryz.prog 64 [encPHA h, encPHA h', .int .i64 f'] I' (.bool (samP f' k k'))) : RetV Tryz.prog 64 [encPHA ⟨r, d, wz, ka, kn, kc⟩, encPHA ⟨r', d', wz', ka', kn', kc'⟩, .int .i64 f] I (.bool (samP f (.mk r d wz ks) (.mk r' d' wz' ks'))) := by
 intro g H w hw
 refine enter Tryz.func64 rfl Tryz.ntmps64 rfl hw ?_
 have hIc := HLe.refl I
 have hlK : ks.length = kn := by rw [← hks.len]; exact hK.len
 have hlK' : ks'.length = kn' := by rw [← hks'.len]; exact hK'.len
 refine X_seq (X_region ?_)
 refine XO_box rfl rfl rfl (fun b_3 => ?_)
 refine XO_box rfl rfl rfl (fun b_4 => ?_)
 refine zA ?_
 refine XO_nil (at_then ?_)
 refine X_seq ?_
 refine X_seq ?_
 refine X_freeze .here (fun I1 hI1 hb1 => ?_)
 have hK := hK.mono hI1
 have hks := hks.mono hI1
 have hK' := hK'.mono hI1
 have hks' := hks'.mono hI1
 have hIc := hIc.trans hI1
 have h4 := ImmC.of hb1
 refine X_freeze .here (fun I2 hI2 hb2 => ?_)
 have hK := hK.mono hI2
 have hks := hks.mono hI2
 have hK' := hK'.mono hI2
 have hks' := hks'.mono hI2
 have h4 := h4.mono hI2
 have hIc := hIc.trans hI2
 have h3 := ImmC.of hb2
 refine X_region ?_
 refine XO_v0 (ev_fieldAddr rfl fld_45_0) rfl rfl rfl ?_
 refine XO_v0 (ev_load rfl sct_3 (fun hg => by first | exact Cell.imm h3 rfl | exact Cell.imm h4 rfl | (repeat (first | exact Cell.here rfl | apply Cell.there | apply Cell.app)))) rfl rfl rfl ?_
 refine XO_v0 (ev_fieldAddr rfl fld_45_0) rfl rfl rfl ?_
 refine XO_v0 (ev_load rfl sct_3 (fun hg => by first | exact Cell.imm h3 rfl | exact Cell.imm h4 rfl | (repeat (first | exact Cell.here rfl | apply Cell.there | apply Cell.app)))) rfl rfl rfl ?_
 refine zC ?_
 refine zM ?_
 refine XO_pushF 5 rfl rfl rfl ?_
 refine XO_v1 (ev_fieldAddr rfl fld_45_1) (.some rfl rfl rfl rfl gbf) rfl rfl rfl ?_
 refine XO_v1 (ev_load rfl sct_3 (fun hg => by first | exact Cell.imm h3 rfl | exact Cell.imm h4 rfl | (repeat (first | exact Cell.here rfl | apply Cell.there | apply Cell.app)))) (.some rfl rfl rfl rfl gbf) rfl rfl rfl ?_
 refine XO_v1 (ev_fieldAddr rfl fld_45_1) (.some rfl rfl rfl rfl gbf) rfl rfl rfl ?_
 refine XO_v1 (ev_load rfl sct_3 (fun hg => by first | exact Cell.imm h3 rfl | exact Cell.imm h4 rfl | (repeat (first | exact Cell.here rfl | apply Cell.there | apply Cell.app)))) (.some rfl rfl rfl rfl gbf) rfl rfl rfl ?_
 refine XO_v1 (ev_cmp rfl rfl rfl) (.some rfl rfl rfl rfl gbf) rfl rfl rfl ?_
 refine XO_or0 rfl rfl rfl rfl rfl ?_
 refine zM ?_
 refine XO_pushF 12 rfl rfl rfl ?_
 refine XO_v1 (ev_fieldAddr rfl fld_45_2) (.some rfl rfl rfl rfl gbf) rfl rfl rfl ?_
 refine XO_v1 (ev_load rfl sct_3 (fun hg => by first | exact Cell.imm h3 rfl | exact Cell.imm h4 rfl | (repeat (first | exact Cell.here rfl | apply Cell.there | apply Cell.app)))) (.some rfl rfl rfl rfl gbf) rfl rfl rfl ?_
 refine XO_v1 (ev_fieldAddr rfl fld_45_2) (.some rfl rfl rfl rfl gbf) rfl rfl rfl ?_
 refine XO_v1 (ev_load rfl sct_3 (fun hg => by first | exact Cell.imm h3 rfl | exact Cell.imm h4 rfl | (repeat (first | exact Cell.here rfl | apply Cell.there | apply Cell.app)))) (.some rfl rfl rfl rfl gbf) rfl rfl rfl ?_
 refine XO_v1 (ev_cmp rfl rfl rfl) (.some rfl rfl rfl rfl gbf) rfl rfl rfl ?_
 refine XO_or0 rfl rfl rfl rfl rfl ?_
 refine zM ?_
 refine XO_pushF 19 rfl rfl rfl ?_
 refine XO_v1 (ev_fieldAddr rfl fld_45_3) (.some rfl rfl rfl rfl gbf) rfl rfl rfl ?_
 refine XO_v1 (ev_load rfl sct_35 (fun hg => by first | exact Cell.imm h3 rfl | exact Cell.imm h4 rfl | (repeat (first | exact Cell.here rfl | apply Cell.there | apply Cell.app)))) (.some rfl rfl rfl rfl gbf) rfl rfl rfl ?_
 refine XO_v1 (ev_lenS rfl slt_35) (.some rfl rfl rfl rfl gbf) rfl rfl rfl ?_
 refine XO_v1 (ev_fieldAddr rfl fld_45_3) (.some rfl rfl rfl rfl gbf) rfl rfl rfl ?_
 refine XO_v1 (ev_load rfl sct_35 (fun hg => by first | exact Cell.imm h3 rfl | exact Cell.imm h4 rfl | (repeat (first | exact Cell.here rfl | apply Cell.there | apply Cell.app)))) (.some rfl rfl rfl rfl gbf) rfl rfl rfl ?_
 refine XO_v1 (ev_lenS rfl slt_35) (.some rfl rfl rfl rfl gbf) rfl rfl rfl ?_
 refine XO_v1 (ev_cmp rfl rfl rfl) (.some rfl rfl rfl rfl gbf) rfl rfl rfl ?_
 refine XO_or0 rfl rfl rfl rfl rfl ?_
 refine zM ?_
 refine XO_pushF 28 rfl rfl rfl ?_
 refine XO_v1 (ev_move rfl) (.some rfl rfl rfl rfl gbf) rfl rfl rfl ?_
 refine XO_v1 (ev_cmp rfl rfl rfl) (.some rfl rfl rfl rfl gbf) rfl rfl rfl ?_
 refine XO_or0 rfl rfl rfl rfl rfl ?_
 refine XO_nil (at_then ?_)
 refine X_cond rfl (fun hc39 => ?_) (fun hc39 => ?_)
 ·
  have h1 : (((((r != r') || (d != d')) || (wz != wz')) || ((ks.length : Int) != (ks'.length : Int))) || ((f : Int) == 0)) = true := by rw [hlK, hlK']; exact hc39
  refine X_seq (X_region ?_)
  refine zA ?_
  refine XO_nil (at_then ?_)
  refine X_ret ?_
  refine at_then_r ?_
  exact at_ret1 rfl rfl (fun w hw => ⟨by rw [samP_bad h1], (hw.mono hIc).drop⟩)
 ·
  have h1 : (((((r != r') || (d != d')) || (wz != wz')) || ((ks.length : Int) != (ks'.length : Int))) || ((f : Int) == 0)) = false := by rw [hlK, hlK']; exact hc39
  have h1s := h1
  simp at h1s
  obtain ⟨f', rfl⟩ : ∃ f', f = f' + 1 := ⟨f - 1, by omega⟩
  refine X_skip ?_
  refine at_then ?_
  refine X_seq ?_
  refine X_seq (X_region ?_)
  refine zA ?_
  refine XO_nil (at_then ?_)
  refine X_block ?_
  refine X_loopT [(2, _), (3, _), (4, _)] (.cons rfl (.cons rfl (.cons rfl .nil))) (fun T L0 mz E I' loc' => ∃ (k : Nat), mz = kn - k ∧ E = (7, .int .i64 k) :: T ∧ I2 = I' ∧ L0 = loc' ∧ k ≤ kn ∧ SamT f' ks ks' k) _ _ _ _ ⟨0, rfl, rfl, rfl, rfl, Nat.zero_le _, samT_0⟩ (.cons rfl (.cons rfl (.cons rfl (.cons rfl .nil)))) (HLe.refl _) rfl ?_
  rintro mz E I' loc' ⟨k, rfl, rfl, rfl, rfl, hk, hsa⟩
  refine X_seq ?_
  refine X_seq (X_region ?_)
  refine zM ?_
  refine XO_v0 (ev_fieldAddr rfl fld_45_3) rfl rfl rfl ?_
  refine XO_v0 (ev_load rfl sct_35 (fun hg => by first | exact Cell.imm h3 rfl | exact Cell.imm h4 rfl | (repeat (first | exact Cell.here rfl | apply Cell.there | apply Cell.app)))) rfl rfl rfl ?_
  refine XO_v0 (ev_lenS rfl slt_35) rfl rfl rfl ?_
  refine zC ?_
  refine XO_nil (at_then ?_)
  refine X_cond rfl (fun hc44 => ?_) (fun hc44 => ?_)
  ·
   have hlt_k : k < kn := by have h := hc44; simp at h; omega
   obtain ⟨kh, hkh⟩ := hK.at hlt_k
   obtain ⟨kk, hkk, hka⟩ := hks.at k kh hkh
   obtain ⟨kh', hkh'⟩ := hK'.at (show k < kn' by omega)
   obtain ⟨kk', hkk', hka'⟩ := hks'.at k kh' hkh'
   refine X_skip ?_
   refine at_then ?_
   refine X_seq ?_
   refine X_block ?_
   refine X_seq ?_
   refine X_draw mixed (by kernel_rfl) ?_
   refine XQ_v0 (ev_fieldAddr rfl fld_45_3) rfl rfl rfl ?_
   refine XQ_v0 (ev_load rfl sct_35 (fun hg => by first | exact Cell.imm h3 rfl | exact Cell.imm h4 rfl | (repeat (first | exact Cell.here rfl | apply Cell.there | apply Cell.app)))) rfl rfl rfl ?_
   refine XQ_v0 (ev_move rfl) rfl rfl rfl ?_
   refine XQ_v0 (ev_indexSl rfl rfl slt_35 hK (fun hg => by first | omega | (simp [conj] at hg; omega) | (dsimp only; omega) | (simp [conj] at hg; dsimp only at *; omega))) rfl rfl rfl ?_
   refine XQ_v0 (ev_loadA rfl agt_45 (fun hg => by first | exact Sl.getA hK hkh | exact Sl.getA hK' hkh' | (repeat (first | exact Cells.here | exact Cells.s0 (vs := [_, _, _, _]) rfl | apply Cells.there | apply Cells.app))) rfl) rfl rfl rfl ?_
   refine XQ_v0 (ev_fieldAddr rfl fld_45_3) rfl rfl rfl ?_
   refine XQ_v0 (ev_load rfl sct_35 (fun hg => by first | exact Cell.imm h3 rfl | exact Cell.imm h4 rfl | (repeat (first | exact Cell.here rfl | apply Cell.there | apply Cell.app)))) rfl rfl rfl ?_
   refine XQ_v0 (ev_move rfl) rfl rfl rfl ?_
   refine XQ_v0 (ev_indexSl rfl rfl slt_35 hK' (fun hg => by first | omega | (simp [conj] at hg; omega) | (dsimp only; omega) | (simp [conj] at hg; dsimp only at *; omega))) rfl rfl rfl ?_
   refine XQ_v0 (ev_loadA rfl agt_45 (fun hg => by first | exact Sl.getA hK hkh | exact Sl.getA hK' hkh' | (repeat (first | exact Cells.here | exact Cells.s0 (vs := [_, _, _, _]) rfl | apply Cells.there | apply Cells.app))) rfl) rfl rfl rfl ?_
   refine XQ_v0 (ev_move rfl) rfl rfl rfl ?_
   refine XQ_v0 (ev_arB rfl rfl rfl (fun hg => by first | omega | (simp [conj] at hg; omega) | (dsimp only; omega) | (simp [conj] at hg; dsimp only at *; omega))) rfl rfl rfl ?_
   refine XQ_callV0 (cap := []) (vs := [_, _, _]) rfl rfl fun_64 ((show RetV Tryz.prog 64 [encPHA kh, encPHA kh', .int .i64 (((f' + 1 : Nat) : Int) - 1)] I2 (.bool (samP f' kk kk')) from by rw [show ((f' + 1 : Nat) : Int) - 1 = (f' : Int) by omega]; exact ih f' rfl kk kk' (List.mem_of_getElem? hkk) (List.mem_of_getElem? hkk') _ hIc kh kh' hka hka')) rfl rfl ?_
   refine XQ_v0 (ev_not rfl) rfl rfl rfl ?_
   refine XQ_nil ?_
   refine at_then ?_
   refine X_cond rfl (fun hc60 => ?_) (fun hc60 => ?_)
   ·
    have hsb : samP f' kk kk' = false := by simpa using hc60
    refine X_seq (X_region ?_)
    refine zA ?_
    refine XO_nil (at_then ?_)
    refine X_ret ?_
    refine at_block_r ?_
    refine at_then_r ?_
    refine at_then_r ?_
    refine at_block_r ?_
    refine at_then_r ?_
    exact at_ret1 rfl rfl (fun w hw => ⟨by rw [samP_good h1, samL_bad hkk hkk' hsb], (hw.mono hIc).drop⟩)
   ·
    refine X_skip ?_
    refine at_block_n ?_
    refine at_then ?_
    refine X_region ?_
    refine zM ?_
    refine XO_v0 (ev_arB rfl rfl rfl (fun hg => by first | omega | (simp [conj] at hg; omega) | (dsimp only; omega) | (simp [conj] at hg; dsimp only at *; omega))) rfl rfl rfl ?_
    refine zA ?_
    refine XO_nil ?_
    exact at_met2 _ _ ⟨kn - (k + 1), by omega, k + 1, rfl, rfl, rfl, rfl, by omega, samT_step hsa hkk hkk' (by simpa using hc60)⟩ (.cons rfl (.cons rfl (.cons rfl (.cons rfl .nil)))) (by repeat (first | exact .refl | exact subL_left | refine subL_app ?_ | refine .drop ?_ | refine subL_add ?_))
  ·
   have hge_k : kn ≤ k := by have h := hc44; simp at h; omega
   refine X_exit ?_
   refine at_then_e ?_
   refine at_then_e ?_
   refine at_block_hit ?_
   refine at_then ?_
   refine X_seq (X_region ?_)
   refine zA ?_
   refine XO_nil (at_then ?_)
   refine X_ret ?_
   exact at_ret1 rfl rfl (fun w hw => ⟨by rw [samP_good h1, samT_end hsa (by omega)], (hw.mono hIc).drop⟩)
theorem w_samP : ∀ (f : Nat) (hf : f ≤ 100) (p p' : Pr) {I : HMap} (h h' : PH) (_ : PrAt I h p) (_ : PrAt I h' p') (_ : smlP p), RetV Tryz.prog 64 [encPHA h, encPHA h', .int .i64 f] I (.bool (samP f p p')) := by
 intro f
 induction f with
 | zero =>
  rintro hf ⟨r, d, w, ks⟩ ⟨r', d', w', ks'⟩ I ⟨hr0, hd0, hw0, ka, kn, kc⟩ ⟨hr0', hd0', hw0', ka', kn', kc'⟩ hP hP' hsm
  unfold PrAt at hP hP'
  obtain ⟨e1, e2, e3, hs9, hK, hks⟩ := hP
  obtain ⟨e1', e2', e3', hs9', hK', hks'⟩ := hP'
  simp only at e1 e2 e3 hK e1' e2' e3' hK'
  subst e1 e2 e3 e1' e2' e3'
  unfold smlP at hsm
  exact w_samP_step hK hks hK' hks' (by have h1 := hks.len; have h2 := hK.len; omega) 0 hf (fun f' e => by omega)
 | succ f ih =>
  rintro hf ⟨r, d, w, ks⟩ ⟨r', d', w', ks'⟩ I ⟨hr0, hd0, hw0, ka, kn, kc⟩ ⟨hr0', hd0', hw0', ka', kn', kc'⟩ hP hP' hsm
  unfold PrAt at hP hP'
  obtain ⟨e1, e2, e3, hs9, hK, hks⟩ := hP
  obtain ⟨e1', e2', e3', hs9', hK', hks'⟩ := hP'
  simp only at e1 e2 e3 hK e1' e2' e3' hK'
  subst e1 e2 e3 e1' e2' e3'
  unfold smlP at hsm
  exact w_samP_step hK hks hK' hks' (by have h1 := hks.len; have h2 := hK.len; omega) (f + 1) hf (fun f' e k k' hk hk' I' hI' h h' hP hP' => by
   obtain rfl : f' = f := by omega
   exact ih (by omega) k k' h h' hP hP' (smlL_mem hsm.2 hk))
theorem w_samPs {I : HMap} {av : Option Addr} {n c : Nat} {hs : List PH} {xs : List Pr} (hS : Sl I 4 encPH av n c hs) (hxs : PrsAt I hs xs) (hn : n ≤ 100000) (hsm : ∀ p ∈ xs, smlP p) {bv : Option Addr} {n2 c2 : Nat} {hs2 : List PH} {ys : List Pr} (hT : Sl I 4 encPH bv n2 c2 hs2) (hys : PrsAt I hs2 ys) : RetV Tryz.prog 22 [.slice av n c, .slice bv n2 c2] I (.bool (samPs xs ys)) := by
 intro g H w hw
 refine enter Tryz.func22 rfl Tryz.ntmps22 rfl hw ?_
 have hlX : xs.length = n := by rw [← hxs.len]; exact hS.len
 have hlY : ys.length = n2 := by rw [← hys.len]; exact hT.len
 refine X_seq (X_region ?_)
 refine zA ?_
 refine XO_nil (at_then ?_)
 refine X_seq ?_
 refine X_seq (X_region ?_)
 refine zM ?_
 refine XO_v0 (ev_lenS rfl slt_35) rfl rfl rfl ?_
 refine zM ?_
 refine XO_v0 (ev_lenS rfl slt_35) rfl rfl rfl ?_
 refine zC ?_
 refine XO_nil (at_then ?_)
 refine X_cond rfl (fun hc10 => ?_) (fun hc10 => ?_)
 ·
  have hne : xs.length ≠ ys.length := fun e => by have h := hc10; simp at h; omega
  refine X_seq (X_region ?_)
  refine zA ?_
  refine XO_nil (at_then ?_)
  refine X_ret ?_
  refine at_then_r ?_
  exact at_ret1 rfl rfl (fun w hw => ⟨by rw [samPs_len hne], hw.drop⟩)
 ·
  have hnn : n = n2 := by have h := hc10; simp at h; omega
  refine X_skip ?_
  refine at_then ?_
  refine X_seq ?_
  refine X_seq (X_region ?_)
  refine zA ?_
  refine XO_nil (at_then ?_)
  refine X_block ?_
  refine X_loopT [(0, _), (1, _)] (.cons rfl (.cons rfl .nil)) (fun T L0 mz E I' loc' => ∃ (k : Nat), mz = n - k ∧ E = (5, .int .i64 k) :: T ∧ I = I' ∧ L0 = loc' ∧ k ≤ n ∧ SamT 20 xs ys k) _ _ _ _ ⟨0, rfl, rfl, rfl, rfl, Nat.zero_le _, samT_0⟩ (.cons rfl (.cons rfl (.cons rfl .nil))) (HLe.refl _) rfl ?_
  rintro mz E I' loc' ⟨k, rfl, rfl, rfl, rfl, hk, hsa⟩
  refine X_seq ?_
  refine X_seq (X_region ?_)
  refine zM ?_
  refine zM ?_
  refine XO_v0 (ev_lenS rfl slt_35) rfl rfl rfl ?_
  refine zC ?_
  refine XO_nil (at_then ?_)
  refine X_cond rfl (fun hc14 => ?_) (fun hc14 => ?_)
  ·
   have hlt_k : k < n := by have h := hc14; simp at h; omega
   obtain ⟨kh, hkh⟩ := hS.at hlt_k
   obtain ⟨kk, hkk, hka⟩ := hxs.at k kh hkh
   obtain ⟨kh', hkh'⟩ := hT.at (show k < n2 by omega)
   obtain ⟨kk', hkk', hka'⟩ := hys.at k kh' hkh'
   refine X_skip ?_
   refine at_then ?_
   refine X_seq ?_
   refine X_block ?_
   refine X_seq ?_
   refine X_draw mixed (by kernel_rfl) ?_
   refine XQ_v0 (ev_move rfl) rfl rfl rfl ?_
   refine XQ_v0 (ev_move rfl) rfl rfl rfl ?_
   refine XQ_v0 (ev_indexSl rfl rfl slt_35 hS (fun hg => by first | omega | (simp [conj] at hg; omega))) rfl rfl rfl ?_
   refine XQ_v0 (ev_loadA rfl agt_45 (fun hg => by first | exact Sl.getA hS hkh | exact Sl.getA hT hkh' | (repeat (first | exact Cells.here | exact Cells.s0 (vs := [_, _, _, _]) rfl | apply Cells.there | apply Cells.app))) rfl) rfl rfl rfl ?_
   refine XQ_v0 (ev_move rfl) rfl rfl rfl ?_
   refine XQ_v0 (ev_move rfl) rfl rfl rfl ?_
   refine XQ_v0 (ev_indexSl rfl rfl slt_35 hT (fun hg => by first | omega | (simp [conj] at hg; omega))) rfl rfl rfl ?_
   refine XQ_v0 (ev_loadA rfl agt_45 (fun hg => by first | exact Sl.getA hS hkh | exact Sl.getA hT hkh' | (repeat (first | exact Cells.here | exact Cells.s0 (vs := [_, _, _, _]) rfl | apply Cells.there | apply Cells.app))) rfl) rfl rfl rfl ?_
   refine XQ_callV0 (cap := []) (vs := [_, _, _]) rfl rfl fun_64 (w_samP 20 (by decide) kk kk' kh kh' hka hka' (hsm kk (List.mem_of_getElem? hkk))) rfl rfl ?_
   refine XQ_v0 (ev_not rfl) rfl rfl rfl ?_
   refine XQ_nil ?_
   refine at_then ?_
   refine X_cond rfl (fun hc26 => ?_) (fun hc26 => ?_)
   ·
    refine X_seq (X_region ?_)
    refine zA ?_
    refine XO_nil (at_then ?_)
    refine X_ret ?_
    refine at_block_r ?_
    refine at_then_r ?_
    refine at_then_r ?_
    refine at_block_r ?_
    refine at_then_r ?_
    first
    | exact at_ret1 rfl rfl (fun w hw => ⟨by unfold samPs; rw [samL_bad hkk hkk' (by simpa using hc26), Bool.and_false], hw.drop⟩)
   ·
    refine X_skip ?_
    refine at_block_n ?_
    refine at_then ?_
    refine X_region ?_
    refine zM ?_
    refine zB ?_
    refine zA ?_
    refine XO_nil ?_
    exact at_met2 _ _ ⟨n - (k + 1), by omega, k + 1, rfl, rfl, rfl, rfl, by omega, samT_step hsa hkk hkk' (by simpa using hc26)⟩ (.cons rfl (.cons rfl (.cons rfl .nil))) (by repeat (first | exact .refl | exact subL_left | refine subL_app ?_ | refine .drop ?_ | refine subL_add ?_))
  ·
   have hge_k : n ≤ k := by have h := hc14; simp at h; omega
   refine X_exit ?_
   refine at_then_e ?_
   refine at_then_e ?_
   refine at_block_hit ?_
   refine at_then ?_
   refine X_seq (X_region ?_)
   refine zA ?_
   refine XO_nil (at_then ?_)
   refine X_ret ?_
   first
   | exact at_ret1 rfl rfl (fun w hw => ⟨by unfold samPs; rw [decide_eq_true (show xs.length = ys.length by omega), samT_end hsa (by omega)]; rfl, hw.drop⟩)
theorem w_samS {I : HMap} {av : Option Addr} {n c : Nat} {hs : List SH} {xs : List Ses} (hS : SlSH I av n c hs xs) (hn : n ≤ 100000) (hwh : ∀ s ∈ xs, s.who.length ≤ 100000 ∧ s.needs.length ≤ 100000) {bv : Option Addr} {n2 c2 : Nat} {hs2 : List SH} {ys : List Ses} (hT : SlSH I bv n2 c2 hs2 ys) : RetV Tryz.prog 14 [.slice av n c, .slice bv n2 c2] I (.bool (samS xs ys)) := by
 intro g H w hw
 refine enter Tryz.func14 rfl Tryz.ntmps14 rfl hw ?_
 have hlX := hS.len
 have hlY := hT.len
 refine X_seq (X_region ?_)
 refine zA ?_
 refine XO_nil (at_then ?_)
 refine X_seq ?_
 refine X_seq (X_region ?_)
 refine zM ?_
 refine XO_v0 (ev_lenS rfl slt_27) rfl rfl rfl ?_
 refine zM ?_
 refine XO_v0 (ev_lenS rfl slt_27) rfl rfl rfl ?_
 refine zC ?_
 refine XO_nil (at_then ?_)
 refine X_cond rfl (fun hc10 => ?_) (fun hc10 => ?_)
 ·
  have hne : xs.length ≠ ys.length := fun e => by have h := hc10; simp at h; omega
  refine X_seq (X_region ?_)
  refine zA ?_
  refine XO_nil (at_then ?_)
  refine X_ret ?_
  refine at_then_r ?_
  exact at_ret1 rfl rfl (fun w hw => ⟨by rw [samS_len hne], hw.drop⟩)
 ·
  have hnn : n = n2 := by have h := hc10; simp at h; omega
  refine X_skip ?_
  refine at_then ?_
  refine X_seq ?_
  refine X_seq (X_region ?_)
  refine zA ?_
  refine XO_nil (at_then ?_)
  refine X_block ?_
  refine X_loopT [(0, _), (1, _)] (.cons rfl (.cons rfl .nil)) (fun T L0 mz E I' loc' => ∃ (k : Nat), mz = n - k ∧ E = (5, .int .i64 k) :: T ∧ I = I' ∧ L0 = loc' ∧ k ≤ n ∧ ((xs.zip ys).take k).any (fun q => ssNe q.1 q.2) = false) _ _ _ _ ⟨0, rfl, rfl, rfl, rfl, Nat.zero_le _, rfl⟩ (.cons rfl (.cons rfl (.cons rfl .nil))) (HLe.refl _) rfl ?_
  rintro mz E I' loc' ⟨k, rfl, rfl, rfl, rfl, hk, hno⟩
  refine X_seq ?_
  refine X_seq (X_region ?_)
  refine zM ?_
  refine zM ?_
  refine XO_v0 (ev_lenS rfl slt_27) rfl rfl rfl ?_
  refine zC ?_
  refine XO_nil (at_then ?_)
  refine X_cond rfl (fun hc14 => ?_) (fun hc14 => ?_)
  ·
   have hlt_k : k < n := by have h := hc14; simp at h; omega
   obtain ⟨x, s, hx, hx2, q1, q2, hW1, hN1⟩ := hS.at hlt_k
   obtain ⟨y, t, hy, hy2, p1, p2, hW2, hN2⟩ := hT.at (show k < n2 by omega)
   have hwl := hwh s (List.mem_of_getElem? hx2)
   have hl1 := hW1.len
   have hl2 := hN1.len
   refine X_skip ?_
   refine at_then ?_
   refine X_seq ?_
   refine X_block ?_
   refine X_seq ?_
   refine X_draw mixed (by kernel_rfl) ?_
   refine XQ_v0 (ev_move rfl) rfl rfl rfl ?_
   refine XQ_v0 (ev_move rfl) rfl rfl rfl ?_
   refine XQ_v0 (ev_indexSl rfl rfl slt_27 hS.1 (fun hg => by first | omega | (simp [conj] at hg; omega))) rfl rfl rfl ?_
   refine XQ_v0 (ev_fieldAddr rfl fld_58_0) rfl rfl rfl ?_
   refine XQ_v0 (ev_load rfl sct_3 (fun hg => by first | exact Sl.get0 hS.1 hx rfl | exact Sl.get0 hT.1 hy rfl | exact Sl.get hS.1 hx (j := 1) rfl | exact Sl.get hS.1 hx (j := 2) rfl | exact Sl.get hS.1 hx (j := 3) rfl | exact Sl.get hT.1 hy (j := 1) rfl | exact Sl.get hT.1 hy (j := 2) rfl | exact Sl.get hT.1 hy (j := 3) rfl | (repeat (first | exact Cell.here rfl | apply Cell.there | apply Cell.app)))) rfl rfl rfl ?_
   refine XQ_v0 (ev_move rfl) rfl rfl rfl ?_
   refine XQ_v0 (ev_move rfl) rfl rfl rfl ?_
   refine XQ_v0 (ev_indexSl rfl rfl slt_27 hT.1 (fun hg => by first | omega | (simp [conj] at hg; omega))) rfl rfl rfl ?_
   refine XQ_v0 (ev_fieldAddr rfl fld_58_0) rfl rfl rfl ?_
   refine XQ_v0 (ev_load rfl sct_3 (fun hg => by first | exact Sl.get0 hS.1 hx rfl | exact Sl.get0 hT.1 hy rfl | exact Sl.get hS.1 hx (j := 1) rfl | exact Sl.get hS.1 hx (j := 2) rfl | exact Sl.get hS.1 hx (j := 3) rfl | exact Sl.get hT.1 hy (j := 1) rfl | exact Sl.get hT.1 hy (j := 2) rfl | exact Sl.get hT.1 hy (j := 3) rfl | (repeat (first | exact Cell.here rfl | apply Cell.there | apply Cell.app)))) rfl rfl rfl ?_
   refine XQ_v0 (ev_cmp rfl rfl rfl) rfl rfl rfl ?_
   refine XQ_v0 (ev_move rfl) rfl rfl rfl ?_
   refine XQ_pushF 11 rfl rfl rfl ?_
   refine XQ_v1 (ev_move rfl) (.some rfl rfl rfl rfl gbf) rfl rfl rfl ?_
   refine XQ_v1 (ev_move rfl) (.some rfl rfl rfl rfl gbf) rfl rfl rfl ?_
   refine XQ_v1 (ev_indexSl rfl rfl slt_27 hS.1 (fun hg => by first | omega | (simp [conj] at hg; omega))) (.some rfl rfl rfl rfl gbf) rfl rfl rfl ?_
   refine XQ_v1 (ev_fieldAddr rfl fld_58_1) (.some rfl rfl rfl rfl gbf) rfl rfl rfl ?_
   refine XQ_v1 (ev_load rfl sct_3 (fun hg => by first | exact Sl.get0 hS.1 hx rfl | exact Sl.get0 hT.1 hy rfl | exact Sl.get hS.1 hx (j := 1) rfl | exact Sl.get hS.1 hx (j := 2) rfl | exact Sl.get hS.1 hx (j := 3) rfl | exact Sl.get hT.1 hy (j := 1) rfl | exact Sl.get hT.1 hy (j := 2) rfl | exact Sl.get hT.1 hy (j := 3) rfl | (repeat (first | exact Cell.here rfl | apply Cell.there | apply Cell.app)))) (.some rfl rfl rfl rfl gbf) rfl rfl rfl ?_
   refine XQ_v1 (ev_move rfl) (.some rfl rfl rfl rfl gbf) rfl rfl rfl ?_
   refine XQ_v1 (ev_move rfl) (.some rfl rfl rfl rfl gbf) rfl rfl rfl ?_
   refine XQ_v1 (ev_indexSl rfl rfl slt_27 hT.1 (fun hg => by first | omega | (simp [conj] at hg; omega))) (.some rfl rfl rfl rfl gbf) rfl rfl rfl ?_
   refine XQ_v1 (ev_fieldAddr rfl fld_58_1) (.some rfl rfl rfl rfl gbf) rfl rfl rfl ?_
   refine XQ_v1 (ev_load rfl sct_3 (fun hg => by first | exact Sl.get0 hS.1 hx rfl | exact Sl.get0 hT.1 hy rfl | exact Sl.get hS.1 hx (j := 1) rfl | exact Sl.get hS.1 hx (j := 2) rfl | exact Sl.get hS.1 hx (j := 3) rfl | exact Sl.get hT.1 hy (j := 1) rfl | exact Sl.get hT.1 hy (j := 2) rfl | exact Sl.get hT.1 hy (j := 3) rfl | (repeat (first | exact Cell.here rfl | apply Cell.there | apply Cell.app)))) (.some rfl rfl rfl rfl gbf) rfl rfl rfl ?_
   refine XQ_v1 (ev_cmp rfl rfl rfl) (.some rfl rfl rfl rfl gbf) rfl rfl rfl ?_
   refine XQ_or0 rfl rfl rfl rfl rfl ?_
   refine XQ_v0 (ev_move rfl) rfl rfl rfl ?_
   refine XQ_pushF 24 rfl rfl rfl ?_
   refine XQ_v1 (ev_move rfl) (.some rfl rfl rfl rfl gbf) rfl rfl rfl ?_
   refine XQ_v1 (ev_move rfl) (.some rfl rfl rfl rfl gbf) rfl rfl rfl ?_
   refine XQ_v1 (ev_indexSl rfl rfl slt_27 hS.1 (fun hg => by first | omega | (simp [conj] at hg; omega))) (.some rfl rfl rfl rfl gbf) rfl rfl rfl ?_
   refine XQ_v1 (ev_fieldAddr rfl fld_58_2) (.some rfl rfl rfl rfl gbf) rfl rfl rfl ?_
   refine XQ_v1 (ev_load rfl sct_23 (fun hg => by first | exact Sl.get0 hS.1 hx rfl | exact Sl.get0 hT.1 hy rfl | exact Sl.get hS.1 hx (j := 1) rfl | exact Sl.get hS.1 hx (j := 2) rfl | exact Sl.get hS.1 hx (j := 3) rfl | exact Sl.get hT.1 hy (j := 1) rfl | exact Sl.get hT.1 hy (j := 2) rfl | exact Sl.get hT.1 hy (j := 3) rfl | (repeat (first | exact Cell.here rfl | apply Cell.there | apply Cell.app)))) (.some rfl rfl rfl rfl gbf) rfl rfl rfl ?_
   refine XQ_v1 (ev_move rfl) (.some rfl rfl rfl rfl gbf) rfl rfl rfl ?_
   refine XQ_v1 (ev_move rfl) (.some rfl rfl rfl rfl gbf) rfl rfl rfl ?_
   refine XQ_v1 (ev_indexSl rfl rfl slt_27 hT.1 (fun hg => by first | omega | (simp [conj] at hg; omega))) (.some rfl rfl rfl rfl gbf) rfl rfl rfl ?_
   refine XQ_v1 (ev_fieldAddr rfl fld_58_2) (.some rfl rfl rfl rfl gbf) rfl rfl rfl ?_
   refine XQ_v1 (ev_load rfl sct_23 (fun hg => by first | exact Sl.get0 hS.1 hx rfl | exact Sl.get0 hT.1 hy rfl | exact Sl.get hS.1 hx (j := 1) rfl | exact Sl.get hS.1 hx (j := 2) rfl | exact Sl.get hS.1 hx (j := 3) rfl | exact Sl.get hT.1 hy (j := 1) rfl | exact Sl.get hT.1 hy (j := 2) rfl | exact Sl.get hT.1 hy (j := 3) rfl | (repeat (first | exact Cell.here rfl | apply Cell.there | apply Cell.app)))) (.some rfl rfl rfl rfl gbf) rfl rfl rfl ?_
   refine XQ_callV1 (cap := []) (vs := [_, _]) rfl rfl fun_23 (fun hg => w_rSame hW1 (by omega) hW2) (.some rfl rfl rfl rfl gbf) rfl rfl ?_
   refine XQ_v1 (ev_not rfl) (.some rfl rfl rfl rfl gbf) rfl rfl rfl ?_
   refine XQ_or0 rfl rfl rfl rfl rfl ?_
   refine XQ_v0 (ev_move rfl) rfl rfl rfl ?_
   refine XQ_pushF 38 rfl rfl rfl ?_
   refine XQ_v1 (ev_move rfl) (.some rfl rfl rfl rfl gbf) rfl rfl rfl ?_
   refine XQ_v1 (ev_move rfl) (.some rfl rfl rfl rfl gbf) rfl rfl rfl ?_
   refine XQ_v1 (ev_indexSl rfl rfl slt_27 hS.1 (fun hg => by first | omega | (simp [conj] at hg; omega))) (.some rfl rfl rfl rfl gbf) rfl rfl rfl ?_
   refine XQ_v1 (ev_fieldAddr rfl fld_58_3) (.some rfl rfl rfl rfl gbf) rfl rfl rfl ?_
   refine XQ_v1 (ev_load rfl sct_23 (fun hg => by first | exact Sl.get0 hS.1 hx rfl | exact Sl.get0 hT.1 hy rfl | exact Sl.get hS.1 hx (j := 1) rfl | exact Sl.get hS.1 hx (j := 2) rfl | exact Sl.get hS.1 hx (j := 3) rfl | exact Sl.get hT.1 hy (j := 1) rfl | exact Sl.get hT.1 hy (j := 2) rfl | exact Sl.get hT.1 hy (j := 3) rfl | (repeat (first | exact Cell.here rfl | apply Cell.there | apply Cell.app)))) (.some rfl rfl rfl rfl gbf) rfl rfl rfl ?_
   refine XQ_v1 (ev_move rfl) (.some rfl rfl rfl rfl gbf) rfl rfl rfl ?_
   refine XQ_v1 (ev_move rfl) (.some rfl rfl rfl rfl gbf) rfl rfl rfl ?_
   refine XQ_v1 (ev_indexSl rfl rfl slt_27 hT.1 (fun hg => by first | omega | (simp [conj] at hg; omega))) (.some rfl rfl rfl rfl gbf) rfl rfl rfl ?_
   refine XQ_v1 (ev_fieldAddr rfl fld_58_3) (.some rfl rfl rfl rfl gbf) rfl rfl rfl ?_
   refine XQ_v1 (ev_load rfl sct_23 (fun hg => by first | exact Sl.get0 hS.1 hx rfl | exact Sl.get0 hT.1 hy rfl | exact Sl.get hS.1 hx (j := 1) rfl | exact Sl.get hS.1 hx (j := 2) rfl | exact Sl.get hS.1 hx (j := 3) rfl | exact Sl.get hT.1 hy (j := 1) rfl | exact Sl.get hT.1 hy (j := 2) rfl | exact Sl.get hT.1 hy (j := 3) rfl | (repeat (first | exact Cell.here rfl | apply Cell.there | apply Cell.app)))) (.some rfl rfl rfl rfl gbf) rfl rfl rfl ?_
   refine XQ_callV1 (cap := []) (vs := [_, _]) rfl rfl fun_23 (fun hg => w_rSame hN1 (by omega) hN2) (.some rfl rfl rfl rfl gbf) rfl rfl ?_
   refine XQ_v1 (ev_not rfl) (.some rfl rfl rfl rfl gbf) rfl rfl rfl ?_
   refine XQ_or0 rfl rfl rfl rfl rfl ?_
   refine XQ_nil ?_
   refine at_then ?_
   refine X_cond rfl (fun hc68 => ?_) (fun hc68 => ?_)
   ·
    have hb : ssNe s t = true := by unfold ssNe; rw [← q1, ← q2, ← p1, ← p2]; exact hc68
    refine X_seq (X_region ?_)
    refine zA ?_
    refine XO_nil (at_then ?_)
    refine X_ret ?_
    refine at_block_r ?_
    refine at_then_r ?_
    refine at_then_r ?_
    refine at_block_r ?_
    refine at_then_r ?_
    exact at_ret1 rfl rfl (fun w hw => ⟨by rw [samS_bad hx2 hy2 hb], hw.drop⟩)
   ·
    have hb : ssNe s t = false := by unfold ssNe; rw [← q1, ← q2, ← p1, ← p2]; exact hc68
    refine X_skip ?_
    refine at_block_n ?_
    refine at_then ?_
    refine X_region ?_
    refine zM ?_
    refine zB ?_
    refine zA ?_
    refine XO_nil ?_
    exact at_met2 _ _ ⟨n - (k + 1), by omega, k + 1, rfl, rfl, rfl, rfl, by omega, any_no (show (xs.zip ys)[k]? = some (s, t) from List.getElem?_zip_eq_some.2 ⟨hx2, hy2⟩) hno hb⟩ (.cons rfl (.cons rfl (.cons rfl .nil))) (by repeat (first | exact .refl | exact subL_left | refine subL_app ?_ | refine .drop ?_ | refine subL_add ?_))
  ·
   have hge_k : n ≤ k := by have h := hc14; simp at h; omega
   have hkn : k = xs.length := by omega
   subst hkn
   refine X_exit ?_
   refine at_then_e ?_
   refine at_then_e ?_
   refine at_block_hit ?_
   refine at_then ?_
   refine X_seq (X_region ?_)
   refine zA ?_
   refine XO_nil (at_then ?_)
   refine X_ret ?_
   exact at_ret1 rfl rfl (fun w hw => ⟨by rw [samS_end (by omega) hno], hw.drop⟩)
end Go.Proofs.YtehkiccapbkhnaaGreat
end
section
namespace Go.Proofs.YtehkiccapbkhnaaGreat
open Go Go.Kn Go.Proofs
def twoC : Cr := ⟨[4, 5, 8], 1, 1, 9, 2, [⟨3, 1, [7], []⟩, ⟨4, 2, [7], [0]⟩]⟩
def two1C : Cr := ⟨[4, 5, 8], 1, 1, 9, 1, [⟨3, 1, [7], []⟩, ⟨4, 2, [7], [0]⟩]⟩
def empC : Cr := ⟨[], 1, 1, 1, 1, []⟩
def zerC : Cr := ⟨[], 0, 0, 0, 0, []⟩
def manC : Cr := ⟨List.replicate 17 0, 0, 0, 0, 0, []⟩
def patP : Pt := ⟨2, 1, 0, 5, ⟨0, 0, 0, 0, 0, 0, 1, 0, 0, 0, 0, 0, 0, 0⟩, none, 0, 0, []⟩
def prfP : Pr := .mk 0 0 0 [.mk 0 0 0 [.mk 1 0 0 []]]
theorem f_pl1 : planL twoC = [0, 1] := by kernel_rfl
theorem f_po1 : planO twoC = true := by kernel_rfl
theorem f_ck1 : chkC twoC = 0 := by kernel_rfl
theorem f_ro1 : refO twoC 1 = true := by kernel_rfl
theorem f_le1 : lastE twoC 1 = 0 := by kernel_rfl
theorem f_rp1 : refP twoC 1 = prfP := by kernel_rfl
theorem f_ro2 : refO twoC 2 = false := by kernel_rfl
theorem f_le2 : lastE twoC 2 = 0 := by kernel_rfl
theorem f_ac1 : accO twoC 1 prfP = true := by kernel_rfl
theorem f_ac2 : accO twoC 2 prfP = false := by kernel_rfl
theorem f_be1 : brokE twoC [1, 1] = 0 := by kernel_rfl
theorem f_bl1 : brokL twoC [1, 1] = [⟨1, 1, 0⟩, ⟨2, 1, 0⟩, ⟨3, 1, 7⟩] := by kernel_rfl
theorem f_pl2 : planL two1C = [0, 2] := by kernel_rfl
theorem f_po2 : planO two1C = true := by kernel_rfl
theorem f_ck2 : chkC two1C = 0 := by kernel_rfl
theorem f_be2 : brokE two1C [0, 0, 0] = 400 := by kernel_rfl
theorem f_pl3 : planL empC = [] := by kernel_rfl
theorem f_po3 : planO empC = true := by kernel_rfl
theorem f_ck3 : chkC empC = 0 := by kernel_rfl
theorem f_ck4 : chkC zerC = 400 := by kernel_rfl
theorem f_ck5 : chkC manC = 2 := by kernel_rfl
theorem f_fe1 : fromE [patP] [2] [[], [2], []] = 0 := by kernel_rfl
theorem f_fr1 : fromR [patP] [2] [[], [2], []] = [⟨2, 1, [0, 2], []⟩] := by kernel_rfl
theorem f_fe2 : fromE [patP] [3] [] = 400 := by kernel_rfl
theorem f_sp : samPs [prfP] [prfP] = true := by kernel_rfl
theorem f_sm : smlP prfP := by unfold prfP smlP smlL smlP smlL smlP smlL; exact ⟨by decide, ⟨by decide, ⟨by decide, trivial⟩, trivial⟩, trivial⟩
theorem d_two : ∀ s ∈ twoC.ss, s.needs.length ≤ 100000 := by decide
theorem d_two1 : ∀ s ∈ two1C.ss, s.needs.length ≤ 100000 := by decide
theorem d_emp : ∀ s ∈ empC.ss, s.needs.length ≤ 100000 := by decide
end Go.Proofs.YtehkiccapbkhnaaGreat
end
