/- topCourse_holds, part F of the proof: what its theorems say holds without further conditions. -/
import Derived.Test.YtclkmnidgdkekaaGreatProg
import Derived.KernelRfl
import Derived.Lib.Hide
import Derived.Test.YtclkmnidgdkekaaGreatTCE
section
namespace Go.Proofs.YtclkmnidgdkekaaGreat
open Go Go.Kn Go.Proofs
theorem w_From {I : HMap} {av : Option Addr} {n c : Nat} {ps : List Pt} (hP : SlP I av n c ps) (hn : n ≤ 100000) {bv : Option Addr} {n2 c2 : Nat} {tg : List Int} (hT : Sl I 1 encI bv n2 c2 tg) (hn2 : n2 ≤ 100000) {dv : Option Addr} {n3 c3 : Nat} {hsh : List Hd} {has : List (List Int)} (hV : SlHA I 1 encI dv n3 c3 hsh has) (hn3 : n3 ≤ 100000) (hvl : ∀ v ∈ has, v.length ≤ 100000) : RetM Tryz.prog 8 [.slice av n c, .slice bv n2 c2, .slice dv n3 c3] I [] (FroQ ps tg has) := by
 intro g H w hw
 refine enter Tryz.func8 rfl Tryz.ntmps8 rfl hw ?_
 have hIc := HLe.refl I
 have hlp := hP.1.len
 have hlT := hT.len
 have hlV := hV.len
 have hlH := hV.1.len
 refine zR ?_
 refine zA ?_
 refine zA ?_
 refine zN ?_
 refine X_seq ?_
 refine zR ?_
 refine zM ?_
 refine XO_callV0 (cap := []) (vs := [_]) rfl rfl fun_22 (w_chkR hP hn) rfl rfl ?_
 refine zA ?_
 refine zN (zR ?_)
 refine zM ?_
 refine zC ?_
 refine zN ?_
 refine zI ?_ ?_ <;> intro hc31
 ·
  have hk0 : chkR ps ≠ 0 := by simpa using hc31
  refine zR ?_
  refine zM ?_
  refine zA ?_
  refine zA ?_
  refine zN ?_
  refine X_ret ?_
  refine at_then_r ?_
  first
  | exact at_ret2 rfl rfl rfl (fun w hw => ⟨_, I, [], rfl, hIc, hw.drop, FroQ.bad (fromE_1 hk0) hk0⟩)
  | exact at_ret2 rfl rfl rfl (fun w hw => ⟨_, I, [], rfl, hIc, hw.drop, FroQ.bad (fromE_2 hk0 h6) (by decide)⟩)
  | exact at_ret2 rfl rfl rfl (fun w hw => ⟨_, I, [], rfl, hIc, hw.drop, FroQ.bad (fromE_3 hk0 h6 (all_bad hv0 hvf)) (by decide)⟩)
  | exact at_ret2 rfl rfl rfl (fun w hw => ⟨_, I, [], rfl, hIc, hw.drop, FroQ.bad hE (by decide)⟩)
  | exact at_freezeO hO6 encSH_len (by decide) (by repeat (first | exact .cons .here .nil | exact split_all | exact split_app | apply split_cons | apply split_skip)) (fun I7 hI7 a7 c7 e7 hS7 => by cases e7; exact at_ret2 rfl rfl rfl (fun w hw => ⟨_, I7, [], rfl, hIc.trans hI7, hw.drop, FroQ.good hE ⟨hs, hS7, hRl.mono hI7⟩⟩))
 have hk0 : chkR ps = 0 := by simpa using hc31
 have hL := chkR_lst hk0
 have hnd := nd_chk hP hk0
 refine X_skip ?_
 refine at_then ?_
 refine X_seq ?_
 refine zR ?_
 refine zM ?_
 refine zQ slt_23 ?_
 refine zC ?_
 refine zN ?_
 refine zI ?_ ?_ <;> intro hc35
 ·
  have h6 : has.length > 6 := by rw [hlV]; have h := hc35; simp at h; omega
  refine zR ?_
  refine zA ?_
  refine zA ?_
  refine zN ?_
  refine X_ret ?_
  refine at_then_r ?_
  first
  | exact at_ret2 rfl rfl rfl (fun w hw => ⟨_, I, [], rfl, hIc, hw.drop, FroQ.bad (fromE_1 hk0) hk0⟩)
  | exact at_ret2 rfl rfl rfl (fun w hw => ⟨_, I, [], rfl, hIc, hw.drop, FroQ.bad (fromE_2 hk0 h6) (by decide)⟩)
  | exact at_ret2 rfl rfl rfl (fun w hw => ⟨_, I, [], rfl, hIc, hw.drop, FroQ.bad (fromE_3 hk0 h6 (all_bad hv0 hvf)) (by decide)⟩)
  | exact at_ret2 rfl rfl rfl (fun w hw => ⟨_, I, [], rfl, hIc, hw.drop, FroQ.bad hE (by decide)⟩)
  | exact at_freezeO hO6 encSH_len (by decide) (by repeat (first | exact .cons .here .nil | exact split_all | exact split_app | apply split_cons | apply split_skip)) (fun I7 hI7 a7 c7 e7 hS7 => by cases e7; exact at_ret2 rfl rfl rfl (fun w hw => ⟨_, I7, [], rfl, hIc.trans hI7, hw.drop, FroQ.good hE ⟨hs, hS7, hRl.mono hI7⟩⟩))
 have h6 : ¬ has.length > 6 := by rw [hlV]; have h := hc35; simp at h; omega
 refine X_skip ?_
 refine at_then ?_
 refine X_seq ?_
 refine zR ?_
 refine zM ?_
 refine XO_buildSlice (ps := [(0, _)]) (m := [encH (⟨bv, n2, c2⟩ : Hd)]) elt_23 rfl (.cons rfl (.nil)) rfl (by simp [encH_len]) (by decide) (by decide) rfl rfl (fun b_37 => ?_)
 refine XO_freeze (by repeat (first | exact Take.here | apply Take.there)) (fun I1 hI1 hb1 => ?_)
 have hP := hP.mono hI1; have hT := hT.mono hI1; have hV := hV.mono hI1; have hIc := hIc.trans hI1
 have hG1 := Sl.lit [(⟨bv, n2, c2⟩ : Hd)] rfl encH_len (show I1 b_37 = some (Obj.cells ([(⟨bv, n2, c2⟩ : Hd)].flatMap encH).toArray 24 (0, 0)) from hb1)
 refine zM ?_
 refine XO_buildSlice (ps := [(0, _), (1, _)]) (m := [encH ⟨some ⟨b_37, 0, none⟩, 1, 1⟩, encH ⟨dv, n3, c3⟩]) elt_116 rfl (.cons rfl (.cons rfl (.nil))) rfl (by simp [encH_len]) (by decide) (by decide) rfl rfl (fun b_39 => ?_)
 refine XO_freeze (by repeat (first | exact Take.here | apply Take.there)) (fun I2 hI2 hb2 => ?_)
 have hP := hP.mono hI2; have hT := hT.mono hI2; have hV := hV.mono hI2; have hG1 := hG1.mono hI2; have hIc := hIc.trans hI2
 have hG2 := Sl.lit [(⟨some ⟨b_37, 0, none⟩, 1, 1⟩ : Hd), ⟨dv, n3, c3⟩] rfl encH_len (show I2 b_39 = some (Obj.cells ([(⟨some ⟨b_37, 0, none⟩, 1, 1⟩ : Hd), ⟨dv, n3, c3⟩].flatMap encH).toArray 23 (0, 0)) from hb2)
 refine XO_callM (cap := []) (vs := [_]) rfl rfl fun_23 .nil (w_concatH (vss := [[(⟨bv, n2, c2⟩ : Hd)], hsh]) ⟨hG2, .cons hG1 (.cons hV.1 .nil)⟩ (by omega) (by simp; omega)) rfl rfl ?_
 rintro vv3 I3 L3 hI3 ⟨rfl, hO⟩
 have hP := hP.mono hI3; have hT := hT.mono hI3; have hV := hV.mono hI3; have hG1 := hG1.mono hI3; have hG2 := hG2.mono hI3; have hIc := hIc.trans hI3
 rw [show [[(⟨bv, n2, c2⟩ : Hd)], hsh].flatten = (⟨bv, n2, c2⟩ : Hd) :: hsh by simp, show ((⟨bv, n2, c2⟩ : Hd) :: hsh).length = n3 + 1 by simp; omega] at hO
 refine XO_freezeO hO encH_len (by decide) (by repeat (first | exact .cons .here .nil | exact split_all | exact split_app | apply split_cons | apply split_skip)) (fun I4 hI4 aa ac e4 hA => ?_)
 subst e4
 have hP := hP.mono hI4; have hT := hT.mono hI4; have hV := hV.mono hI4; have hG1 := hG1.mono hI4; have hG2 := hG2.mono hI4; have hIc := hIc.trans hI4
 refine zQ slt_23 ?_
 refine zM ?_
 refine zN ?_
 refine X_block ?_
 refine X_loopT [(0, _), (1, _), (2, _), (40, _), (41, _)] (.cons rfl (.cons rfl (.cons rfl (.cons rfl (.cons rfl .nil))))) (fun T L0 mz E I' loc' => ∃ (k : Nat), mz = n3 + 1 - k ∧ E = (6, .slice none 0 0) :: (42, .int .i64 k) :: T ∧ HLe I4 I' ∧ L0 = loc' ∧ k ≤ n3 + 1 ∧ ((tg :: has).take k).all (verF ps) = true) _ _ _ _ ⟨0, rfl, rfl, HLe.refl _, rfl, Nat.zero_le _, rfl⟩ (.cons rfl (.cons rfl (.cons rfl (.cons rfl (.cons rfl (.cons rfl (.cons rfl .nil))))))) (HLe.refl _) rfl ?_
 rintro mz E J5 loc' ⟨k, rfl, rfl, hJ, rfl, hk, hall⟩
 have hP := hP.mono hJ; have hT := hT.mono hJ; have hV := hV.mono hJ; have hG1 := hG1.mono hJ; have hG2 := hG2.mono hJ; have hA := hA.mono hJ; have hIc := hIc.trans hJ
 have hB0 := hJ
 refine zR ?_
 refine zC ?_
 refine zN ?_
 refine X_seq ?_
 refine zI ?_ ?_ <;> intro hc43
 ·
  have hlt_k : k < n3 + 1 := by have h := hc43; simp at h; omega
  have hHA : SlHA J5 1 encI _ _ _ _ (tg :: has) := ⟨hA, RelA.cons (h := (⟨bv, n2, c2⟩ : Hd)) hT hV.2⟩
  obtain ⟨h0, v0, hh0, hv0, hS0⟩ := hHA.at hlt_k
  have hl0 := hS0.len
  have hv0l : v0.length ≤ 100000 := by rcases List.mem_cons.1 (List.mem_of_getElem? hv0) with e | e; (rw [e]; omega); exact hvl v0 e
  refine X_skip ?_
  refine at_then ?_
  refine X_seq ?_
  refine X_block ?_
  refine zR ?_
  refine zV (ev_indexSl rfl rfl slt_23 hA (fun hg => by first | omega | (simp [conj] at hg; omega))) ?_
  refine zV (ev_load rfl sct_24 (fun hg => by first | exact Sl.get0 hA hh0 rfl | exact Sl.get0 hV.1 hh0 rfl | exact Cell.imm h16 rfl | exact Cell.imm h20 rfl | exact Cell.imm h22 rfl | (repeat (first | exact Cell.here rfl | apply Cell.there | apply Cell.app)))) ?_
  refine zA ?_
  refine zN (zR ?_)
  refine zM ?_
  refine zM ?_
  refine XO_callM (cap := []) (vs := [_, _]) rfl rfl fun_24 .nil (w_Closure hP hn hS0 (by omega)) rfl rfl ?_
  rintro vv6 I6 L6 hI6 ⟨rfl, xa, xc, rfl, hX⟩
  have hP := hP.mono hI6; have hT := hT.mono hI6; have hV := hV.mono hI6; have hG1 := hG1.mono hI6; have hG2 := hG2.mono hI6; have hA := hA.mono hI6; have hS0 := hS0.mono hI6; have hIc := hIc.trans hI6; have hB0 := hB0.trans hI6
  rw [List.nil_append]
  refine zM ?_
  refine zE ?_
  refine zE ?_
  refine zA ?_
  refine zA ?_
  refine zN (zR ?_)
  refine zM ?_
  refine zC ?_
  refine zM ?_
  refine XO_pushF 2 rfl rfl rfl ?_
  refine zJ (ev_move rfl) ?_
  refine zJ (ev_move rfl) ?_
  refine XO_callV1 (cap := []) (vs := [_, _]) rfl rfl fun_25 (fun hg => w_equalI hX hS0 (by have := clo_len_le ps v0; omega)) (.some rfl rfl rfl rfl gbf) rfl rfl ?_
  refine zJ (ev_not rfl) ?_
  refine XO_or0 rfl rfl rfl rfl rfl ?_
  refine zN ?_
  refine zI ?_ ?_ <;> intro hc59
  ·
   have hvf : verF ps v0 = false := by rw [ver_val hk0, hc59]; rfl
   refine zR ?_
   refine zA ?_
   refine zA ?_
   refine zN ?_
   refine X_ret ?_
   refine at_block_r ?_
   refine at_then_r ?_
   refine at_then_r ?_
   refine at_block_r ?_
   refine at_then_r ?_
   first
   | exact at_ret2 rfl rfl rfl (fun w hw => ⟨_, I6, [], rfl, hIc, hw.drop, FroQ.bad (fromE_1 hk0) hk0⟩)
   | exact at_ret2 rfl rfl rfl (fun w hw => ⟨_, I6, [], rfl, hIc, hw.drop, FroQ.bad (fromE_2 hk0 h6) (by decide)⟩)
   | exact at_ret2 rfl rfl rfl (fun w hw => ⟨_, I6, [], rfl, hIc, hw.drop, FroQ.bad (fromE_3 hk0 h6 (all_bad hv0 hvf)) (by decide)⟩)
   | exact at_ret2 rfl rfl rfl (fun w hw => ⟨_, I6, [], rfl, hIc, hw.drop, FroQ.bad hE (by decide)⟩)
   | exact at_freezeO hO6 encSH_len (by decide) (by repeat (first | exact .cons .here .nil | exact split_all | exact split_app | apply split_cons | apply split_skip)) (fun I7 hI7 a7 c7 e7 hS7 => by cases e7; exact at_ret2 rfl rfl rfl (fun w hw => ⟨_, I7, [], rfl, hIc.trans hI7, hw.drop, FroQ.good hE ⟨hs, hS7, hRl.mono hI7⟩⟩))
  have hvf : verF ps v0 = true := by rw [ver_val hk0, hc59]; rfl
  refine X_skip ?_
  refine at_block_n ?_
  refine at_then ?_
  refine X_region ?_
  refine zB ?_
  refine zM ?_
  refine XO_nil ?_
  exact at_met2 _ _ ⟨n3 + 1 - (k + 1), by omega, k + 1, rfl, rfl, hB0, rfl, by omega, all_take hv0 hall hvf⟩ (.cons rfl (.cons rfl (.cons rfl (.cons rfl (.cons rfl (.cons rfl (.cons rfl .nil))))))) (by repeat (first | exact .refl | exact subL_left | refine subL_app ?_ | refine .drop ?_ | refine subL_add ?_))
 have hge_k : n3 + 1 ≤ k := by have h := hc43; simp at h; omega
 rw [take_all (show (tg :: has).length = n3 + 1 by simp; omega) hge_k] at hall
 have hvers := List.all_eq_true.1 hall
 have hTv := ver_iff hk0 (hvers tg (by simp))
 refine X_exit ?_
 refine at_then_e ?_
 refine at_then_e ?_
 refine at_block_hit ?_
 refine at_then ?_
 refine zR ?_
 refine zA ?_
 refine zN (zR ?_)
 refine zA ?_
 refine zA ?_
 refine zN ?_
 refine X_seq ?_
 refine zR ?_
 refine zM ?_
 refine zQ slt_22 ?_
 refine zM ?_
 refine zN ?_
 refine X_block ?_
 refine X_loopT [(0, _), (1, _), (2, _), (6, _), (12, _), (61, _), (62, _)] (.cons rfl (.cons rfl (.cons rfl (.cons rfl (.cons rfl (.cons rfl (.cons rfl .nil))))))) (fun T L0 mz E I' loc' => ∃ (k : Nat) (vl : Value) (ql : Nat) (Ll : Go.Kn.Loc) (vd : Value) (qd : Nat) (Ld : Go.Kn.Loc), mz = n - k ∧ E = (13, vl) :: (14, vd) :: (63, .int .i64 k) :: T ∧ HLe J5 I' ∧ Ll ++ Ld = loc' ∧ k ≤ n ∧ OwnS 66 19 vl ql (((ps.take k).filter fun p => tg.contains p.id).flatMap encP) Ll ∧ OwnS 66 19 vd qd (((ps.take k).filter fun p => !tg.contains p.id).flatMap encP) Ld ∧ ql ≤ k ∧ qd ≤ k) _ _ _ _ ⟨0, _, 0, [], _, 0, [], rfl, rfl, HLe.refl _, rfl, Nat.zero_le _, OwnS.nil, OwnS.nil, Nat.le_refl _, Nat.le_refl _⟩ (.cons rfl (.cons rfl (.cons rfl (.cons rfl (.cons rfl (.cons rfl (.cons rfl (.cons rfl (.cons rfl (.cons rfl .nil)))))))))) (HLe.refl _) rfl ?_
 rintro mz E J7 loc' ⟨k, vl, ql, Ll, vd, qd, Ld, rfl, rfl, hJ, rfl, hk, hOl, hOd, hql, hqd⟩
 have hP := hP.mono hJ; have hT := hT.mono hJ; have hV := hV.mono hJ; have hG1 := hG1.mono hJ; have hG2 := hG2.mono hJ; have hA := hA.mono hJ; have hIc := hIc.trans hJ; have hB0 := hB0.trans hJ
 have hB2 := hJ
 refine zR ?_
 refine zC ?_
 refine zN ?_
 refine X_seq ?_
 refine zI ?_ ?_ <;> intro hc64
 ·
  have hlt_k : k < n := by have h := hc64; simp at h; omega
  obtain ⟨p, hp, hN⟩ := hP.at hlt_k
  refine X_skip ?_
  refine at_then ?_
  refine X_seq ?_
  refine X_block ?_
  refine zR ?_
  refine zV (ev_indexSl rfl rfl slt_22 hP.1 (fun hg => by first | omega | (simp [conj] at hg; omega))) ?_
  refine zV (ev_loadA rfl agt_66 (fun hg => by first | exact Sl.getA hP.1 hp | exact Cells.immC h16 | exact Sl.getA hOS hp | (repeat (first | exact Cells.here | exact Cells.s0 (vs := [_, _, _, _, _, _, _, _, _, _, _, _, _, _, _, _, _, _, _]) rfl | apply Cells.there | apply Cells.app))) rfl) ?_
  refine XO_alloc zt_66 rfl rfl (fun b_16 => ?_)
  refine XO_storeA rfl rfl szt_66 rfl rfl rfl rfl (by repeat (first | exact Upd.here | apply Upd.there | apply upd_app)) ?_
  refine zN ?_
  refine X_block ?_
  refine X_seq ?_
  refine X_freeze .here (fun I8 hI8 hb8 => ?_)
  have hP := hP.mono hI8; have hT := hT.mono hI8; have hV := hV.mono hI8; have hG1 := hG1.mono hI8; have hG2 := hG2.mono hI8; have hA := hA.mono hI8; have hIc := hIc.trans hI8; have hB0 := hB0.trans hI8; have hB2 := hB2.trans hI8
  have h16 := ImmC.of hb8
  refine X_region ?_
  refine zM ?_
  refine zM ?_
  refine zF fld_66_0 ?_
  refine zV (ev_load rfl sct_3 (fun hg => by first | exact Sl.get0 hA hh0 rfl | exact Sl.get0 hV.1 hh0 rfl | exact Cell.imm h16 rfl | exact Cell.imm h20 rfl | exact Cell.imm h22 rfl | (repeat (first | exact Cell.here rfl | apply Cell.there | apply Cell.app)))) ?_
  refine XO_callV0 (cap := []) (vs := [_, _]) rfl rfl fun_26 (w_in hT (by omega) hTv.inc p.id) rfl rfl ?_
  refine zA ?_
  refine zN ?_
  refine zI ?_ ?_ <;> intro hc71
  ·
   refine X_region ?_
   refine zM ?_
   refine zV (ev_loadA rfl agt_66 (fun hg => by first | exact Sl.getA hP.1 hp | exact Cells.immC h16 | exact Sl.getA hOS hp | (repeat (first | exact Cells.here | exact Cells.s0 (vs := [_, _, _, _, _, _, _, _, _, _, _, _, _, _, _, _, _, _, _]) rfl | apply Cells.there | apply Cells.app))) rfl) ?_
   refine XO_buildSlice (ps := [(0, _)]) (m := [encP p]) elt_22 rfl (.cons rfl (.nil)) rfl (by simp [encP_len]) (by decide) (by decide) rfl rfl (fun b_79 => ?_)
   refine XO_append (v := _) (ys := [p].flatMap encP) (L := Ll) rfl rfl elt_22 hOl (by repeat (first | exact .cons .here .nil | exact split_all | exact split_app | apply split_cons | apply split_skip)) ⟨rfl, fun _ => rfl, by repeat (first | exact Cells.here | apply Cells.there | apply Cells.app)⟩ (one_P _) (by omega) rfl rfl ?_
   intro v9 L9 hO9 _; rw [← List.flatMap_append] at hO9
   refine zA ?_
   refine XO_nil ?_
   refine at_block_n ?_
   refine at_block_n ?_
   refine at_then ?_
   refine X_region ?_
   refine zB ?_
   refine zM ?_
   refine XO_nil ?_
   first
   | exact at_met2 _ _ ⟨n - (k + 1), by omega, k + 1, v9, ql + 1, L9, vd, qd, Ld, rfl, rfl, hB2, rfl, by omega, by rw [filter_step hp, if_pos hc71]; exact hO9, by rw [filter_step hp, if_neg (by rw [hc71]; decide), List.append_nil]; exact hOd, by omega, by omega⟩ (.cons rfl (.cons rfl (.cons rfl (.cons rfl (.cons rfl (.cons rfl (.cons rfl (.cons rfl (.cons rfl (.cons rfl .nil)))))))))) (by repeat (first | exact .refl | exact subL_left | refine subL_app ?_ | refine .drop ?_ | refine subL_add ?_))
   | exact at_metP _ (Ll ++ L9) (L9 ++ Ll) ⟨n - (k + 1), by omega, k + 1, vl, ql, Ll, v9, qd + 1, L9, rfl, rfl, hB2, rfl, by omega, by rw [filter_step hp, if_neg (by rw [hc71]; decide), List.append_nil]; exact hOl, by rw [filter_step hp, if_pos (by rw [hc71]; rfl)]; exact hO9, by omega, by omega⟩ (.cons rfl (.cons rfl (.cons rfl (.cons rfl (.cons rfl (.cons rfl (.cons rfl (.cons rfl (.cons rfl (.cons rfl .nil)))))))))) List.perm_append_comm (by simp only [List.append_nil]; exact subL_app (.drop .refl))
  refine X_region ?_
  refine zM ?_
  refine zV (ev_loadA rfl agt_66 (fun hg => by first | exact Sl.getA hP.1 hp | exact Cells.immC h16 | exact Sl.getA hOS hp | (repeat (first | exact Cells.here | exact Cells.s0 (vs := [_, _, _, _, _, _, _, _, _, _, _, _, _, _, _, _, _, _, _]) rfl | apply Cells.there | apply Cells.app))) rfl) ?_
  refine XO_buildSlice (ps := [(0, _)]) (m := [encP p]) elt_22 rfl (.cons rfl (.nil)) rfl (by simp [encP_len]) (by decide) (by decide) rfl rfl (fun b_69 => ?_)
  refine XO_append (v := _) (ys := [p].flatMap encP) (L := Ld) rfl rfl elt_22 hOd (by repeat (first | exact .cons .here .nil | exact split_all | exact split_app | apply split_cons | apply split_skip)) ⟨rfl, fun _ => rfl, by repeat (first | exact Cells.here | apply Cells.there | apply Cells.app)⟩ (one_P _) (by omega) rfl rfl ?_
  intro v9 L9 hO9 _; rw [← List.flatMap_append] at hO9
  refine zA ?_
  refine XO_nil ?_
  refine at_block_n ?_
  refine at_block_n ?_
  refine at_then ?_
  refine X_region ?_
  refine zB ?_
  refine zM ?_
  refine XO_nil ?_
  first
  | exact at_met2 _ _ ⟨n - (k + 1), by omega, k + 1, v9, ql + 1, L9, vd, qd, Ld, rfl, rfl, hB2, rfl, by omega, by rw [filter_step hp, if_pos hc71]; exact hO9, by rw [filter_step hp, if_neg (by rw [hc71]; decide), List.append_nil]; exact hOd, by omega, by omega⟩ (.cons rfl (.cons rfl (.cons rfl (.cons rfl (.cons rfl (.cons rfl (.cons rfl (.cons rfl (.cons rfl (.cons rfl .nil)))))))))) (by repeat (first | exact .refl | exact subL_left | refine subL_app ?_ | refine .drop ?_ | refine subL_add ?_))
  | exact at_metP _ (Ll ++ L9) (L9 ++ Ll) ⟨n - (k + 1), by omega, k + 1, vl, ql, Ll, v9, qd + 1, L9, rfl, rfl, hB2, rfl, by omega, by rw [filter_step hp, if_neg (by rw [hc71]; decide), List.append_nil]; exact hOl, by rw [filter_step hp, if_pos (by rw [hc71]; rfl)]; exact hO9, by omega, by omega⟩ (.cons rfl (.cons rfl (.cons rfl (.cons rfl (.cons rfl (.cons rfl (.cons rfl (.cons rfl (.cons rfl (.cons rfl .nil)))))))))) List.perm_append_comm (by simp only [List.append_nil]; exact subL_app (.drop .refl))
 have hge_k : n ≤ k := by have h := hc64; simp at h; omega
 rw [take_all hP.1.len hge_k] at hOl hOd
 have hord : [(ps.filter fun p => !tg.contains p.id).reverse, ps.filter fun p => tg.contains p.id].flatten = ordP ps tg := by simp [ordP]
 refine X_exit ?_
 refine at_then_e ?_
 refine at_then_e ?_
 refine at_block_hit ?_
 refine at_then ?_
 refine X_seq ?_
 refine X_freezeO hOl encP_len (by decide) (by repeat (first | exact .cons .here .nil | exact split_all | exact split_app | apply split_cons | apply split_skip)) (fun I9 hI9 ea ec e9 hLn => ?_)
 subst e9
 have hP := hP.mono hI9; have hT := hT.mono hI9; have hV := hV.mono hI9; have hG1 := hG1.mono hI9; have hG2 := hG2.mono hI9; have hA := hA.mono hI9; have hIc := hIc.trans hI9; have hB0 := hB0.trans hI9; have hB2 := hB2.trans hI9
 refine X_region ?_
 refine zM ?_
 refine XO_callM (cap := []) (vs := [_]) rfl rfl fun_28 (by repeat (first | exact .cons .here .nil | exact split_all | exact split_app | apply split_cons | apply split_skip)) (w_revP _ hOd (by omega) _) rfl rfl ?_
 rintro vv10 I10 L10 hI10 ⟨rfl, rfl, hOr⟩
 have hP := hP.mono hI10; have hT := hT.mono hI10; have hV := hV.mono hI10; have hG1 := hG1.mono hI10; have hG2 := hG2.mono hI10; have hA := hA.mono hI10; have hLn := hLn.mono hI10; have hIc := hIc.trans hI10; have hB0 := hB0.trans hI10; have hB2 := hB2.trans hI10
 refine zN ?_
 refine X_seq ?_
 refine X_freezeO hOr encP_len (by decide) (by repeat (first | exact .cons .here .nil | exact split_all | exact split_app | apply split_cons | apply split_skip)) (fun I11 hI11 da dc e11 hDr => ?_)
 subst e11
 have hP := hP.mono hI11; have hT := hT.mono hI11; have hV := hV.mono hI11; have hG1 := hG1.mono hI11; have hG2 := hG2.mono hI11; have hA := hA.mono hI11; have hLn := hLn.mono hI11; have hIc := hIc.trans hI11; have hB0 := hB0.trans hI11; have hB2 := hB2.trans hI11
 refine X_region ?_
 refine XO_makeMap rfl rfl (fun r_84 => ?_)
 refine XO_makeMap rfl rfl (fun r_85 => ?_)
 refine zA ?_
 refine zA ?_
 refine zN ?_
 refine X_seq ?_
 refine zR ?_
 refine zM ?_
 refine zQ slt_22 ?_
 refine zM ?_
 refine zN ?_
 refine X_block ?_
 refine X_loopT [(1, _), (2, _), (6, _), (12, _), (13, _), (14, _), (17, _), (18, _), (86, _), (87, _)] (.cons rfl (.cons rfl (.cons rfl (.cons rfl (.cons rfl (.cons rfl (.cons rfl (.cons rfl (.cons rfl (.cons rfl .nil)))))))))) (fun T L0 mz E I' loc' => ∃ (k : Nat), mz = n - k ∧ E = (88, .int .i64 k) :: T ∧ HLe I11 I' ∧ [(r_85, mapO (Value.int .i64) needV (nmM (ps.take k))), (r_84, mapO (Value.int .i64) (Value.int .i64) (atM []))] = loc' ∧ k ≤ n) _ _ _ _ ⟨0, rfl, rfl, HLe.refl _, rfl, Nat.zero_le _⟩ (.cons rfl (.cons rfl (.cons rfl (.cons rfl (.cons rfl (.cons rfl (.cons rfl (.cons rfl (.cons rfl (.cons rfl (.cons rfl .nil))))))))))) (HLe.refl _) rfl ?_
 rintro mz E J12 loc' ⟨k, rfl, rfl, hJ, rfl, hk⟩
 have hP := hP.mono hJ; have hT := hT.mono hJ; have hV := hV.mono hJ; have hG1 := hG1.mono hJ; have hG2 := hG2.mono hJ; have hA := hA.mono hJ; have hLn := hLn.mono hJ; have hDr := hDr.mono hJ; have hIc := hIc.trans hJ; have hB0 := hB0.trans hJ; have hB2 := hB2.trans hJ
 have hB5 := hJ
 refine zR ?_
 refine zC ?_
 refine zN ?_
 refine X_seq ?_
 refine zI ?_ ?_ <;> intro hc89
 ·
  have hlt_k : k < n := by have h := hc89; simp at h; omega
  obtain ⟨p, hp, hN⟩ := hP.at hlt_k
  refine X_skip ?_
  refine at_then ?_
  refine X_seq ?_
  refine X_block ?_
  refine zR ?_
  refine zV (ev_indexSl rfl rfl slt_22 hP.1 (fun hg => by first | omega | (simp [conj] at hg; omega))) ?_
  refine zV (ev_loadA rfl agt_66 (fun hg => by first | exact Sl.getA hP.1 hp | exact Cells.immC h16 | exact Sl.getA hOS hp | (repeat (first | exact Cells.here | exact Cells.s0 (vs := [_, _, _, _, _, _, _, _, _, _, _, _, _, _, _, _, _, _, _]) rfl | apply Cells.there | apply Cells.app))) rfl) ?_
  refine XO_alloc zt_66 rfl rfl (fun b_20 => ?_)
  refine XO_storeA rfl rfl szt_66 rfl rfl rfl rfl (by repeat (first | exact Upd.here | apply Upd.there | apply upd_app)) ?_
  refine zN ?_
  refine X_freeze .here (fun I13 hI13 hb13 => ?_)
  have hP := hP.mono hI13; have hT := hT.mono hI13; have hV := hV.mono hI13; have hG1 := hG1.mono hI13; have hG2 := hG2.mono hI13; have hA := hA.mono hI13; have hLn := hLn.mono hI13; have hDr := hDr.mono hI13; have hIc := hIc.trans hI13; have hB0 := hB0.trans hI13; have hB2 := hB2.trans hI13; have hB5 := hB5.trans hI13
  have h20 := ImmC.of hb13
  refine X_region ?_
  refine zM ?_
  refine zF fld_66_0 ?_
  refine zV (ev_load rfl sct_3 (fun hg => by first | exact Sl.get0 hA hh0 rfl | exact Sl.get0 hV.1 hh0 rfl | exact Cell.imm h16 rfl | exact Cell.imm h20 rfl | exact Cell.imm h22 rfl | (repeat (first | exact Cell.here rfl | apply Cell.there | apply Cell.app)))) ?_
  refine zF fld_66_5 ?_
  refine zV (ev_load rfl sct_24 (fun hg => by first | exact Sl.get0 hA hh0 rfl | exact Sl.get0 hV.1 hh0 rfl | exact Cell.imm h16 rfl | exact Cell.imm h20 rfl | exact Cell.imm h22 rfl | (repeat (first | exact Cell.here rfl | apply Cell.there | apply Cell.app)))) ?_
  refine XO_mapUpdate (m := nmM (ps.take k)) (ek := Value.int .i64) (ev := needV) (a := p.id) p mpt_82 key_3 rfl rfl rfl rfl (by repeat (first | exact Upd.here | apply Upd.there | apply upd_app)) ?_
  rw [nmM_step hL hp]
  refine XO_nil ?_
  refine at_block_n ?_
  refine at_then ?_
  refine X_region ?_
  refine zB ?_
  refine zM ?_
  refine XO_nil ?_
  exact at_met2 _ _ ⟨n - (k + 1), by omega, k + 1, rfl, rfl, hB5, rfl, by omega⟩ (.cons rfl (.cons rfl (.cons rfl (.cons rfl (.cons rfl (.cons rfl (.cons rfl (.cons rfl (.cons rfl (.cons rfl (.cons rfl .nil))))))))))) (by repeat (first | exact .refl | exact subL_left | refine subL_app ?_ | refine .drop ?_ | refine subL_add ?_))
 have hge_k : n ≤ k := by have h := hc89; simp at h; omega
 rw [take_all hP.1.len hge_k]
 refine X_exit ?_
 refine at_then_e ?_
 refine at_then_e ?_
 refine at_block_hit ?_
 refine at_then ?_
 refine X_seq ?_
 refine X_seq ?_
 refine X_freeze .here (fun I14 hI14 hb14 => ?_)
 have hP := hP.mono hI14; have hT := hT.mono hI14; have hV := hV.mono hI14; have hG1 := hG1.mono hI14; have hG2 := hG2.mono hI14; have hA := hA.mono hI14; have hLn := hLn.mono hI14; have hDr := hDr.mono hI14; have hIc := hIc.trans hI14; have hB0 := hB0.trans hI14; have hB2 := hB2.trans hI14; have hB5 := hB5.trans hI14
 have hnm := ImmC.of hb14
 refine X_region ?_
 refine zM ?_
 refine zM ?_
 refine XO_buildSlice (ps := [(0, _), (1, _)]) (m := [encH ⟨da, qd, dc⟩, encH ⟨ea, ql, ec⟩]) elt_119 rfl (.cons rfl (.cons rfl (.nil))) rfl (by simp [encH_len]) (by decide) (by decide) rfl rfl (fun b_100 => ?_)
 refine XO_freeze (by repeat (first | exact Take.here | apply Take.there)) (fun I15 hI15 hb15 => ?_)
 have hP := hP.mono hI15; have hT := hT.mono hI15; have hV := hV.mono hI15; have hG1 := hG1.mono hI15; have hG2 := hG2.mono hI15; have hA := hA.mono hI15; have hLn := hLn.mono hI15; have hDr := hDr.mono hI15; have hnm := hnm.mono hI15; have hIc := hIc.trans hI15; have hB0 := hB0.trans hI15; have hB2 := hB2.trans hI15
 have hB5 := hB5.trans hI15
 have hG3 := Sl.lit [(⟨da, qd, dc⟩ : Hd), ⟨ea, ql, ec⟩] rfl encH_len (show I15 b_100 = some (Obj.cells ([(⟨da, qd, dc⟩ : Hd), ⟨ea, ql, ec⟩].flatMap encH).toArray 22 (0, 0)) from hb15)
 refine XO_callM (cap := []) (vs := [_]) rfl rfl fun_29 .nil (w_concatP (vss := [_, _]) ⟨hG3, .cons hDr (.cons hLn .nil)⟩ (by omega) (by rw [hord, ordP_len]; omega)) rfl rfl ?_
 rintro vv16 I16 L16 hI16 ⟨rfl, hO⟩
 have hP := hP.mono hI16; have hT := hT.mono hI16; have hV := hV.mono hI16; have hG1 := hG1.mono hI16; have hG2 := hG2.mono hI16; have hA := hA.mono hI16; have hLn := hLn.mono hI16; have hDr := hDr.mono hI16; have hnm := hnm.mono hI16; have hG3 := hG3.mono hI16; have hIc := hIc.trans hI16; have hB0 := hB0.trans hI16
 have hB2 := hB2.trans hI16; have hB5 := hB5.trans hI16
 rw [hord, ordP_len, hlp] at hO
 refine XO_freezeO hO encP_len (by decide) (by repeat (first | exact .cons .here .nil | exact split_all | exact split_app | apply split_cons | apply split_skip)) (fun I17 hI17 oa oc e17 hOS => ?_)
 subst e17
 have hP := hP.mono hI17; have hT := hT.mono hI17; have hV := hV.mono hI17; have hG1 := hG1.mono hI17; have hG2 := hG2.mono hI17; have hA := hA.mono hI17; have hLn := hLn.mono hI17; have hDr := hDr.mono hI17; have hnm := hnm.mono hI17; have hG3 := hG3.mono hI17; have hIc := hIc.trans hI17; have hB0 := hB0.trans hI17
 have hB2 := hB2.trans hI17; have hB5 := hB5.trans hI17
 refine zQ slt_22 ?_
 refine zM ?_
 refine zN ?_
 refine X_block ?_
 refine X_loopT [(1, _), (2, _), (12, _), (17, _), (18, _), (101, _), (102, _)] (.cons rfl (.cons rfl (.cons rfl (.cons rfl (.cons rfl (.cons rfl (.cons rfl .nil))))))) (fun T L0 mz E I' loc' => ∃ (k : Nat) (v6 : Value) (L : Go.Kn.Loc) (hs : List SH), mz = n - k ∧ E = (6, v6) :: (103, .int .i64 k) :: T ∧ HLe I17 I' ∧ L ++ [(r_84, mapO (Value.int .i64) (Value.int .i64) (atM (kpP tg has (ordP ps tg) k)))] = loc' ∧ k ≤ n ∧ OwnS 40 4 v6 (kpP tg has (ordP ps tg) k).length (hs.flatMap encSH) L ∧ RelS I' hs (sesL tg has (kpP tg has (ordP ps tg) k))) _ _ _ _ ⟨0, _, [], [], rfl, rfl, HLe.refl _, rfl, Nat.zero_le _, OwnS.nil, RelS.nil⟩ (.cons rfl (.cons rfl (.cons rfl (.cons rfl (.cons rfl (.cons rfl (.cons rfl (.cons rfl (.cons rfl .nil))))))))) (HLe.refl _) rfl ?_
 rintro mz E J18 loc' ⟨k, v6, L, hs, rfl, rfl, hJ, rfl, hk, hO6, hRl⟩
 have hP := hP.mono hJ; have hT := hT.mono hJ; have hV := hV.mono hJ; have hG1 := hG1.mono hJ; have hG2 := hG2.mono hJ; have hA := hA.mono hJ; have hLn := hLn.mono hJ; have hDr := hDr.mono hJ; have hnm := hnm.mono hJ; have hG3 := hG3.mono hJ; have hOS := hOS.mono hJ; have hIc := hIc.trans hJ; have hB0 := hB0.trans hJ
 have hB2 := hB2.trans hJ; have hB5 := hB5.trans hJ
 have hB7 := hJ
 obtain ⟨la, lc, rfl⟩ := hO6.shape
 refine zR ?_
 refine zC ?_
 refine zN ?_
 refine X_seq ?_
 refine zI ?_ ?_ <;> intro hc104
 ·
  have hlt_k : k < n := by have h := hc104; simp at h; omega
  obtain ⟨p, hp⟩ := hOS.at hlt_k
  have hpm := mem_ordP.1 (List.mem_of_getElem? hp)
  have hN : Sl J18 1 encI p.a p.n p.c p.needs := hP.2 p hpm
  have hpn := hnd p hpm
  refine X_skip ?_
  refine at_then ?_
  refine X_seq ?_
  refine X_block ?_
  refine zR ?_
  refine zV (ev_indexSl rfl rfl slt_22 hOS (fun hg => by first | omega | (simp [conj] at hg; omega))) ?_
  refine zV (ev_loadA rfl agt_66 (fun hg => by first | exact Sl.getA hP.1 hp | exact Cells.immC h16 | exact Sl.getA hOS hp | (repeat (first | exact Cells.here | exact Cells.s0 (vs := [_, _, _, _, _, _, _, _, _, _, _, _, _, _, _, _, _, _, _]) rfl | apply Cells.there | apply Cells.app))) rfl) ?_
  refine XO_alloc zt_66 rfl rfl (fun b_22 => ?_)
  refine XO_storeA rfl rfl szt_66 rfl rfl rfl rfl (by repeat (first | exact Upd.here | apply Upd.there | apply upd_app)) ?_
  refine zN ?_
  refine X_seq ?_
  refine X_freeze .here (fun I19 hI19 hb19 => ?_)
  have hP := hP.mono hI19; have hT := hT.mono hI19; have hV := hV.mono hI19; have hG1 := hG1.mono hI19; have hG2 := hG2.mono hI19; have hA := hA.mono hI19; have hLn := hLn.mono hI19; have hDr := hDr.mono hI19; have hnm := hnm.mono hI19; have hG3 := hG3.mono hI19; have hOS := hOS.mono hI19; have hRl := hRl.mono hI19
  have hN := hN.mono hI19; have hIc := hIc.trans hI19; have hB0 := hB0.trans hI19; have hB2 := hB2.trans hI19; have hB5 := hB5.trans hI19; have hB7 := hB7.trans hI19
  have h22 := ImmC.of hb19
  refine X_region ?_
  refine zF fld_66_0 ?_
  refine zV (ev_load rfl sct_3 (fun hg => by first | exact Sl.get0 hA hh0 rfl | exact Sl.get0 hV.1 hh0 rfl | exact Cell.imm h16 rfl | exact Cell.imm h20 rfl | exact Cell.imm h22 rfl | (repeat (first | exact Cell.here rfl | apply Cell.there | apply Cell.app)))) ?_
  refine zV (ev_buildL (ps := [(0, _), (1, _)]) [_, _, _, _] plt_40 rfl rfl) ?_
  refine XO_alloc zt_40 rfl rfl (fun b_23 => ?_)
  refine XO_storeA rfl rfl szt_40 rfl rfl rfl rfl (by repeat (first | exact Upd.here | apply Upd.there | apply upd_app)) ?_
  refine zN ?_
  refine X_seq ?_
  refine zR ?_
  refine zM ?_
  refine zQ slt_23 ?_
  refine zM ?_
  refine zN ?_
  refine X_block ?_
  refine X_loopT [(1, _), (2, _), (6, _), (12, _), (17, _), (18, _), (22, _), (23, _), (101, _), (102, _), (103, _), (110, _), (111, _)] (.cons rfl (.cons rfl (.cons rfl (.cons rfl (.cons rfl (.cons rfl (.cons rfl (.cons rfl (.cons rfl (.cons rfl (.cons rfl (.cons rfl (.cons rfl .nil))))))))))))) (fun T L0 mz E I' loc' => ∃ (i : Nat) (vw : Value) (Lw : Go.Kn.Loc), mz = n3 - i ∧ E = (112, .int .i64 i) :: T ∧ I19 = I' ∧ Lw ++ ((b_23, .cells #[.int .i64 p.id, .int .i64 1, vw, .slice none 0 0] 40 (0, 0)) :: (L ++ [(r_84, mapO (Value.int .i64) (Value.int .i64) (atM (kpP tg has (ordP ps tg) k)))])) = loc' ∧ i ≤ n3 ∧ OwnS 3 1 vw (diffK tg has p.id i).length ((diffK tg has p.id i).flatMap encI) Lw) _ _ _ _ ⟨0, _, [], rfl, rfl, rfl, rfl, Nat.zero_le _, OwnS.nil⟩ (.cons rfl (.cons rfl (.cons rfl (.cons rfl (.cons rfl (.cons rfl (.cons rfl (.cons rfl (.cons rfl (.cons rfl (.cons rfl (.cons rfl (.cons rfl (.cons rfl .nil)))))))))))))) (HLe.refl _) rfl ?_
  rintro mz E I' loc' ⟨i, vw, Lw, rfl, rfl, rfl, rfl, hi, hOw⟩
  refine zR ?_
  refine zC ?_
  refine zN ?_
  refine X_seq ?_
  refine zI ?_ ?_ <;> intro hc113
  ·
   have hlt_i : i < n3 := by have h := hc113; simp at h; omega
   obtain ⟨h0, v0, hh0, hv0, hS0⟩ := hV.at hlt_i
   have hv0l := hvl v0 (List.mem_of_getElem? hv0)
   have hv0v := ver_iff hk0 (hvers v0 (List.mem_cons_of_mem _ (List.mem_of_getElem? hv0)))
   have hl0 := hS0.len
   have hdl9 := diffK_len tg has p.id i
   refine X_skip ?_
   refine at_then ?_
   refine X_seq ?_
   refine X_block ?_
   refine zR ?_
   refine zM ?_
   refine zV (ev_indexSl rfl rfl slt_23 hV.1 (fun hg => by first | omega | (simp [conj] at hg; omega))) ?_
   refine zV (ev_load rfl sct_24 (fun hg => by first | exact Sl.get0 hA hh0 rfl | exact Sl.get0 hV.1 hh0 rfl | exact Cell.imm h16 rfl | exact Cell.imm h20 rfl | exact Cell.imm h22 rfl | (repeat (first | exact Cell.here rfl | apply Cell.there | apply Cell.app)))) ?_
   refine zA ?_
   refine zA ?_
   refine zN ?_
   refine X_seq ?_
   refine X_draw mixed (by kernel_rfl) ?_
   refine XQ_v0 (ev_move rfl) rfl rfl rfl ?_
   refine XQ_v0 (ev_move rfl) rfl rfl rfl ?_
   refine XQ_v0 (ev_fieldAddr rfl fld_66_0) rfl rfl rfl ?_
   refine XQ_v0 (ev_load rfl sct_3 (fun hg => by first | exact Sl.get0 hA hh0 rfl | exact Sl.get0 hV.1 hh0 rfl | exact Cell.imm h16 rfl | exact Cell.imm h20 rfl | exact Cell.imm h22 rfl | (repeat (first | exact Cell.here rfl | apply Cell.there | apply Cell.app)))) rfl rfl rfl ?_
   refine XQ_callV0 (cap := []) (vs := [_, _]) rfl rfl fun_26 (w_in hS0 (by omega) hv0v.inc p.id) rfl rfl ?_
   refine XQ_v0 (ev_move rfl) rfl rfl rfl ?_
   refine XQ_v0 (ev_move rfl) rfl rfl rfl ?_
   refine XQ_v0 (ev_fieldAddr rfl fld_66_0) rfl rfl rfl ?_
   refine XQ_v0 (ev_load rfl sct_3 (fun hg => by first | exact Sl.get0 hA hh0 rfl | exact Sl.get0 hV.1 hh0 rfl | exact Cell.imm h16 rfl | exact Cell.imm h20 rfl | exact Cell.imm h22 rfl | (repeat (first | exact Cell.here rfl | apply Cell.there | apply Cell.app)))) rfl rfl rfl ?_
   refine XQ_callV0 (cap := []) (vs := [_, _]) rfl rfl fun_26 (w_in hT (by omega) hTv.inc p.id) rfl rfl ?_
   refine XQ_v0 (ev_boolN rfl rfl und_4) rfl rfl rfl ?_
   refine XQ_nil ?_
   refine at_then ?_
   refine zI ?_ ?_ <;> intro hc127
   ·
    refine X_region ?_
    refine zF fld_40_2 ?_
    refine zV (ev_load rfl sct_24 (fun hg => by first | exact Sl.get0 hA hh0 rfl | exact Sl.get0 hV.1 hh0 rfl | exact Cell.imm h16 rfl | exact Cell.imm h20 rfl | exact Cell.imm h22 rfl | (repeat (first | exact Cell.here rfl | apply Cell.there | apply Cell.app)))) ?_
    refine zM ?_
    refine XO_buildSlice (ps := [(0, _)]) (m := [encI (i : Int)]) elt_24 rfl (.cons rfl (.nil)) rfl (by simp [encI_len]) (by decide) (by decide) rfl rfl (fun b_131 => ?_)
    refine XO_append (v := _) (ys := [(i : Int)].flatMap encI) (L := Lw) rfl rfl elt_24 hOw (by repeat (first | exact .cons .here .nil | exact split_all | exact split_app | apply split_cons | apply split_skip)) ⟨rfl, fun _ => rfl, by repeat (first | exact Cells.here | apply Cells.there | apply Cells.app)⟩ (one_I _) (by omega) rfl rfl ?_
    intro v9 L9 hO9 _; rw [← List.flatMap_append] at hO9
    refine zF fld_40_2 ?_
    refine XO_store rfl rfl szt_24 hO9.one rfl (by repeat (first | exact Upd.here | apply Upd.there | apply upd_app)) rfl ?_
    refine XO_nil ?_
    refine at_block_n ?_
    refine at_then ?_
    refine X_region ?_
    refine zB ?_
    refine zM ?_
    refine XO_nil ?_
    first
    | exact at_met2 _ _ ⟨n3 - (i + 1), by omega, i + 1, _, _, rfl, rfl, rfl, rfl, by omega, by rw [diffK_yes hv0 hc127, List.length_append, List.length_singleton]; exact hO9⟩ (.cons rfl (.cons rfl (.cons rfl (.cons rfl (.cons rfl (.cons rfl (.cons rfl (.cons rfl (.cons rfl (.cons rfl (.cons rfl (.cons rfl (.cons rfl (.cons rfl .nil)))))))))))))) (by repeat (first | exact .refl | exact subL_left | refine subL_app ?_ | refine .drop ?_ | refine subL_add ?_))
    | exact at_met2 _ _ ⟨n3 - (i + 1), by omega, i + 1, _, _, rfl, rfl, rfl, rfl, by omega, by rw [diffK_no hv0 hc127]; exact hOw⟩ (.cons rfl (.cons rfl (.cons rfl (.cons rfl (.cons rfl (.cons rfl (.cons rfl (.cons rfl (.cons rfl (.cons rfl (.cons rfl (.cons rfl (.cons rfl (.cons rfl .nil)))))))))))))) (by repeat (first | exact .refl | exact subL_left | refine subL_app ?_ | refine .drop ?_ | refine subL_add ?_))
   refine X_skip ?_
   refine at_block_n ?_
   refine at_then ?_
   refine X_region ?_
   refine zB ?_
   refine zM ?_
   refine XO_nil ?_
   first
   | exact at_met2 _ _ ⟨n3 - (i + 1), by omega, i + 1, _, _, rfl, rfl, rfl, rfl, by omega, by rw [diffK_yes hv0 hc127, List.length_append, List.length_singleton]; exact hO9⟩ (.cons rfl (.cons rfl (.cons rfl (.cons rfl (.cons rfl (.cons rfl (.cons rfl (.cons rfl (.cons rfl (.cons rfl (.cons rfl (.cons rfl (.cons rfl (.cons rfl .nil)))))))))))))) (by repeat (first | exact .refl | exact subL_left | refine subL_app ?_ | refine .drop ?_ | refine subL_add ?_))
   | exact at_met2 _ _ ⟨n3 - (i + 1), by omega, i + 1, _, _, rfl, rfl, rfl, rfl, by omega, by rw [diffK_no hv0 hc127]; exact hOw⟩ (.cons rfl (.cons rfl (.cons rfl (.cons rfl (.cons rfl (.cons rfl (.cons rfl (.cons rfl (.cons rfl (.cons rfl (.cons rfl (.cons rfl (.cons rfl (.cons rfl .nil)))))))))))))) (by repeat (first | exact .refl | exact subL_left | refine subL_app ?_ | refine .drop ?_ | refine subL_add ?_))
  have hge_i : n3 ≤ i := by have h := hc113; simp at h; omega
  obtain rfl : i = has.length := by omega
  rw [diffK_all] at hOw
  refine X_exit ?_
  refine at_then_e ?_
  refine at_then_e ?_
  refine at_block_hit ?_
  refine at_then ?_
  refine X_seq ?_
  refine X_seq ?_
  refine X_freezeO hOw encI_len (by decide) (by repeat (first | exact .cons .here .nil | exact split_all | exact split_app | apply split_cons | apply split_skip)) (fun I21 hI21 wa wc e21 hW => ?_)
  subst e21
  have hP := hP.mono hI21; have hT := hT.mono hI21; have hV := hV.mono hI21; have hG1 := hG1.mono hI21; have hG2 := hG2.mono hI21; have hA := hA.mono hI21; have hLn := hLn.mono hI21; have hDr := hDr.mono hI21; have hnm := hnm.mono hI21; have hG3 := hG3.mono hI21; have hOS := hOS.mono hI21; have hRl := hRl.mono hI21
  have hN := hN.mono hI21; have h22 := h22.mono hI21; have hIc := hIc.trans hI21; have hB0 := hB0.trans hI21; have hB2 := hB2.trans hI21; have hB5 := hB5.trans hI21; have hB7 := hB7.trans hI21
  refine X_region ?_
  refine zF fld_40_2 ?_
  refine zV (ev_load rfl sct_24 (fun hg => by first | exact Sl.get0 hA hh0 rfl | exact Sl.get0 hV.1 hh0 rfl | exact Cell.imm h16 rfl | exact Cell.imm h20 rfl | exact Cell.imm h22 rfl | (repeat (first | exact Cell.here rfl | apply Cell.there | apply Cell.app)))) ?_
  refine zQ slt_24 ?_
  refine zC ?_
  refine zN ?_
  refine zI ?_ ?_ <;> intro hc138
  ·
   have hw0 : diffW tg has p.id = [] := by simpa using hc138
   refine X_exit ?_
   refine at_then_e ?_
   refine at_block_hit ?_
   refine at_then ?_
   refine X_region ?_
   refine zB ?_
   refine zM ?_
   refine XO_nil ?_
   first
   | exact at_met2 _ (L ++ [(r_84, mapO (Value.int .i64) (Value.int .i64) (atM (kpP tg has (ordP ps tg) k)))]) ⟨n - (k + 1), by omega, k + 1, _, L, hs, rfl, rfl, hB7, by rw [kpP_no hp hw0], by omega, by rw [kpP_no hp hw0]; exact hO6, by rw [kpP_no hp hw0]; exact hRl⟩ (.cons rfl (.cons rfl (.cons rfl (.cons rfl (.cons rfl (.cons rfl (.cons rfl (.cons rfl (.cons rfl .nil))))))))) (by repeat (first | exact .refl | exact subL_left | refine subL_app ?_ | refine .drop ?_ | refine subL_add ?_))
   | exact at_met2 _ (L9 ++ [(r_84, mapO (Value.int .i64) (Value.int .i64) (atM ((kpP tg has (ordP ps tg) k) ++ [p])))]) ⟨n - (k + 1), by omega, k + 1, _, L9, hs ++ [⟨p.id, ef, wa, (diffW tg has p.id).length, wc, na, (ndW tg (kpP tg has (ordP ps tg) k) p).length, nc⟩], rfl, rfl, hB7, by rw [kpP_yes hp hw1], by omega, by rw [kpP_yes hp hw1, List.length_append, List.length_singleton]; exact hO9, by rw [kpP_yes hp hw1, sesL_snoc]; exact hRl.snoc ⟨rfl, hef, hW, hNn⟩⟩ (.cons rfl (.cons rfl (.cons rfl (.cons rfl (.cons rfl (.cons rfl (.cons rfl (.cons rfl (.cons rfl .nil))))))))) (subL_app (by repeat (first | exact .refl | refine .drop ?_)))
  have hw1 : diffW tg has p.id ≠ [] := fun e => by rw [e] at hc138; simp at hc138
  refine X_skip ?_
  refine at_then ?_
  refine X_cutT [(1, _), (2, _), (6, _), (12, _), (17, _), (18, _), (22, _), (23, _), (101, _), (102, _), (103, _)] (.cons rfl (.cons rfl (.cons rfl (.cons rfl (.cons rfl (.cons rfl (.cons rfl (.cons rfl (.cons rfl (.cons rfl (.cons rfl .nil))))))))))) (fun T L0 E I' loc' => ∃ (ef : Int), E = T ∧ I21 = I' ∧ (b_23, .cells #[.int .i64 p.id, .int .i64 ef, (.slice wa (diffW tg has p.id).length wc), .slice none 0 0] 40 (0, 0)) :: (L ++ [(r_84, mapO (Value.int .i64) (Value.int .i64) (atM (kpP tg has (ordP ps tg) k)))]) = loc' ∧ ef = (if p.kind = 2 then 2 else 1)) ?_ ?_
  ·
   refine zR ?_
   refine zF fld_66_1 ?_
   refine zV (ev_load rfl sct_3 (fun hg => by first | exact Sl.get0 hA hh0 rfl | exact Sl.get0 hV.1 hh0 rfl | exact Cell.imm h16 rfl | exact Cell.imm h20 rfl | exact Cell.imm h22 rfl | (repeat (first | exact Cell.here rfl | apply Cell.there | apply Cell.app)))) ?_
   refine zC ?_
   refine zN ?_
   refine zI ?_ ?_ <;> intro hc141
   ·
    refine X_region ?_
    refine zF fld_40_1 ?_
    refine zS szt_3 ?_
    refine XO_nil ?_
    first
    | exact at_met2 _ _ ⟨2, rfl, rfl, rfl, by rw [if_pos (by simpa using hc141)]⟩ (.cons rfl (.cons rfl (.cons rfl (.cons rfl (.cons rfl (.cons rfl (.cons rfl (.cons rfl (.cons rfl (.cons rfl (.cons rfl .nil))))))))))) .refl
    | exact at_met2 _ _ ⟨1, rfl, rfl, rfl, by rw [if_neg (by simpa using hc141)]⟩ (.cons rfl (.cons rfl (.cons rfl (.cons rfl (.cons rfl (.cons rfl (.cons rfl (.cons rfl (.cons rfl (.cons rfl (.cons rfl .nil))))))))))) .refl
   refine X_skip ?_
   first
   | exact at_met2 _ _ ⟨2, rfl, rfl, rfl, by rw [if_pos (by simpa using hc141)]⟩ (.cons rfl (.cons rfl (.cons rfl (.cons rfl (.cons rfl (.cons rfl (.cons rfl (.cons rfl (.cons rfl (.cons rfl (.cons rfl .nil))))))))))) .refl
   | exact at_met2 _ _ ⟨1, rfl, rfl, rfl, by rw [if_neg (by simpa using hc141)]⟩ (.cons rfl (.cons rfl (.cons rfl (.cons rfl (.cons rfl (.cons rfl (.cons rfl (.cons rfl (.cons rfl (.cons rfl (.cons rfl .nil))))))))))) .refl
  rintro E I' loc' ⟨ef, rfl, rfl, rfl, hef⟩
  refine X_seq ?_
  refine zR ?_
  refine zM ?_
  refine XO_range (ek := Value.int .i64) (ev := Value.int .i64) (m := atM (kpP tg has (ordP ps tg) k)) rfl mpt_81 rfl rfl (.inr (by simp)) (fun b_144 => ?_)
  refine zN ?_
  refine X_block ?_
  refine X_loopT [(1, _), (2, _), (6, _), (12, _), (17, _), (18, _), (22, _), (23, _), (101, _), (102, _), (103, _), (144, _)] (.cons rfl (.cons rfl (.cons rfl (.cons rfl (.cons rfl (.cons rfl (.cons rfl (.cons rfl (.cons rfl (.cons rfl (.cons rfl (.cons rfl .nil)))))))))))) (fun T L0 mz E I' loc' => ∃ (seen : List Nat) (vn : Value) (Ln : Go.Kn.Loc), mz = (atM (kpP tg has (ordP ps tg) k)).length - seen.length ∧ E = T ∧ I21 = I' ∧ Ln ++ ((b_144, iterO r_84 (atM (kpP tg has (ordP ps tg) k)).length seen) :: (b_23, .cells #[.int .i64 p.id, .int .i64 ef, (.slice wa (diffW tg has p.id).length wc), vn] 40 (0, 0)) :: (L ++ [(r_84, mapO (Value.int .i64) (Value.int .i64) (atM (kpP tg has (ordP ps tg) k)))])) = loc' ∧ OwnS 3 1 vn (gthN tg (kpP tg has (ordP ps tg) k) p seen).length ((gthN tg (kpP tg has (ordP ps tg) k) p seen).flatMap encI) Ln ∧ seen.Nodup ∧ ∀ i ∈ seen, i < (atM (kpP tg has (ordP ps tg) k)).length) _ _ _ _ ⟨[], _, [], rfl, rfl, rfl, rfl, OwnS.nil, .nil, fun i h => by cases h⟩ (.cons rfl (.cons rfl (.cons rfl (.cons rfl (.cons rfl (.cons rfl (.cons rfl (.cons rfl (.cons rfl (.cons rfl (.cons rfl (.cons rfl .nil)))))))))))) (HLe.refl _) rfl ?_
  rintro mz E I' loc' ⟨seen, vn, Ln, rfl, rfl, rfl, rfl, hOn, hnd2, hlt2⟩
  have hsl := seen_lt hnd2 hlt2
  have hkl9 := kpP_len (tg := tg) (has := has) (os := ordP ps tg) (k := k)
  rw [ordP_len, hlp] at hkl9
  have hal9 := atM_len (kpP tg has (ordP ps tg) k)
  have hgl9 := gthN_len (tg := tg) (ks := (kpP tg has (ordP ps tg) k)) (p := p) seen
  refine zR ?_
  refine XO_next2 (ek := Value.int .i64) (ev := Value.int .i64) (m := atM (kpP tg has (ordP ps tg) k)) (fun s' => Ln ++ ((b_144, iterO r_84 (atM (kpP tg has (ordP ps tg) k)).length s') :: (b_23, .cells #[.int .i64 p.id, .int .i64 ef, (.slice wa (diffW tg has p.id).length wc), vn] 40 (0, 0)) :: (L ++ [(r_84, mapO (Value.int .i64) (Value.int .i64) (atM (kpP tg has (ordP ps tg) k)))]))) rfl (fun s' => upd_app .here) rfl rfl rfl rfl rfl (.inr (by simp)) (by simp) ?_
  intro t tv s' hno hyes
  refine zN ?_
  refine X_seq ?_
  refine zI ?_ ?_ <;> intro hc146
  ·
   obtain ⟨i, q, hq, hns, rfl⟩ := hyes hc146
   obtain ⟨pq, hpq, rfl⟩ := atM_at hq
   have hpqm := mem_ordP.1 (kpP_sub (List.mem_of_getElem? hpq))
   have hNq : Sl I21 1 encI pq.a pq.n pq.c pq.needs := hP.2 pq hpqm
   have hqn := hnd pq hpqm
   obtain ⟨hnd3, hlt3⟩ := seen_more hnd2 hlt2 hns (List.getElem?_eq_some_iff.1 hq).1
   have hsl2 := seen_lt hnd3 hlt3
   rw [List.length_append, List.length_singleton] at hsl2
   refine X_skip ?_
   refine at_then ?_
   refine X_block ?_
   refine zR ?_
   refine zV (ev_entry (ek := Value.int .i64) (ev := Value.int .i64) (m := atM (kpP tg has (ordP ps tg) k)) (r := r_84) (b := b_144) (p := (pq.id, (i : Int))) (seen := seen) (i := i) rfl (.inr (by simp)) (.inr (by simp)) hq) ?_
   refine zE ?_
   refine zE ?_
   refine zA ?_
   refine zA ?_
   refine zN (zR ?_)
   refine zM ?_
   refine zM ?_
   refine zF fld_66_0 ?_
   refine zV (ev_load rfl sct_3 (fun hg => by first | exact Sl.get0 hA hh0 rfl | exact Sl.get0 hV.1 hh0 rfl | exact Cell.imm h16 rfl | exact Cell.imm h20 rfl | exact Cell.imm h22 rfl | (repeat (first | exact Cell.here rfl | apply Cell.there | apply Cell.app)))) ?_
   refine XO_callV0 (cap := []) (vs := [_, _]) rfl rfl fun_26 (w_in hT (by omega) hTv.inc p.id) rfl rfl ?_
   refine zM ?_
   refine XO_pushT 5 rfl rfl rfl ?_
   refine zK (ev_fieldAddr rfl fld_66_5) ?_
   refine zK (ev_load rfl sct_24 (fun hg => by first | exact Sl.get0 hA hh0 rfl | exact Sl.get0 hV.1 hh0 rfl | exact Cell.imm h16 rfl | exact Cell.imm h20 rfl | exact Cell.imm h22 rfl | (repeat (first | exact Cell.here rfl | apply Cell.there | apply Cell.app)))) ?_
   refine zK (ev_move rfl) ?_
   refine XO_callV1 (cap := []) (vs := [_, _]) rfl rfl fun_30 (fun hg => w_contains hN (by omega) pq.id) (.some rfl rfl rfl rfl gbt) rfl rfl ?_
   refine XO_and0 rfl rfl rfl rfl rfl ?_
   refine zM ?_
   refine XO_pushF 11 rfl rfl rfl ?_
   refine zJ (ev_move rfl) ?_
   refine zJ (ev_move rfl) ?_
   refine zJ (ev_fieldAddr rfl fld_66_0) ?_
   refine zJ (ev_load rfl sct_3 (fun hg => by first | exact Sl.get0 hA hh0 rfl | exact Sl.get0 hV.1 hh0 rfl | exact Cell.imm h16 rfl | exact Cell.imm h20 rfl | exact Cell.imm h22 rfl | (repeat (first | exact Cell.here rfl | apply Cell.there | apply Cell.app)))) ?_
   refine XO_callV1 (cap := []) (vs := [_, _]) rfl rfl fun_26 (fun hg => w_in hT (by omega) hTv.inc p.id) (.some rfl rfl rfl rfl gbf) rfl rfl ?_
   refine zJ (ev_not rfl) ?_
   refine zJ (ev_move rfl) ?_
   refine XO_pushT 18 rfl rfl rfl ?_
   refine zK (ev_move rfl) ?_
   refine zK (ev_move rfl) ?_
   refine zK (ev_lookupG (m := nmM ps) (ek := Value.int .i64) (ev := needV) (a := pq.id) (nmM_get hL hpqm) mpt_82 key_3 rfl rfl (fun _ => .inl hnm)) ?_
   refine zK (ev_fieldAddr rfl fld_66_0) ?_
   refine zK (ev_load rfl sct_3 (fun hg => by first | exact Sl.get0 hA hh0 rfl | exact Sl.get0 hV.1 hh0 rfl | exact Cell.imm h16 rfl | exact Cell.imm h20 rfl | exact Cell.imm h22 rfl | (repeat (first | exact Cell.here rfl | apply Cell.there | apply Cell.app)))) ?_
   refine XO_callV1 (cap := []) (vs := [_, _]) rfl rfl fun_30 (fun hg => w_contains hNq (by omega) p.id) (.some rfl rfl rfl rfl gbt) rfl rfl ?_
   refine XO_and1 rfl rfl rfl (.some rfl rfl rfl rfl gbf) rfl rfl ?_
   refine XO_or0 rfl rfl rfl rfl rfl ?_
   refine zN ?_
   refine zI ?_ ?_ <;> intro hc176
   ·
    refine X_region ?_
    refine zF fld_40_3 ?_
    refine zV (ev_load rfl sct_24 (fun hg => by first | exact Sl.get0 hA hh0 rfl | exact Sl.get0 hV.1 hh0 rfl | exact Cell.imm h16 rfl | exact Cell.imm h20 rfl | exact Cell.imm h22 rfl | (repeat (first | exact Cell.here rfl | apply Cell.there | apply Cell.app)))) ?_
    refine zM ?_
    refine XO_buildSlice (ps := [(0, _)]) (m := [encI (i : Int)]) elt_24 rfl (.cons rfl (.nil)) rfl (by simp [encI_len]) (by decide) (by decide) rfl rfl (fun b_180 => ?_)
    refine XO_append (v := _) (ys := [(i : Int)].flatMap encI) (L := Ln) rfl rfl elt_24 hOn (by repeat (first | exact .cons .here .nil | exact split_all | exact split_app | apply split_cons | apply split_skip)) ⟨rfl, fun _ => rfl, by repeat (first | exact Cells.here | apply Cells.there | apply Cells.app)⟩ (one_I _) (by omega) rfl rfl ?_
    intro v9 L9 hO9 _; rw [← List.flatMap_append] at hO9
    refine zF fld_40_3 ?_
    refine XO_store rfl rfl szt_24 hO9.one rfl (by repeat (first | exact Upd.here | apply Upd.there | apply upd_app)) rfl ?_
    refine XO_nil ?_
    refine at_block_n ?_
    first
    | exact at_met2 _ _ ⟨(atM (kpP tg has (ordP ps tg) k)).length - (seen ++ [i]).length, by rw [List.length_append, List.length_singleton]; omega, seen ++ [i], _, _, rfl, rfl, rfl, rfl, by rw [gthN_yes hpq (ndY_val hc176.symm).symm, List.length_append, List.length_singleton]; exact hO9, hnd3, hlt3⟩ (.cons rfl (.cons rfl (.cons rfl (.cons rfl (.cons rfl (.cons rfl (.cons rfl (.cons rfl (.cons rfl (.cons rfl (.cons rfl (.cons rfl .nil)))))))))))) (by repeat (first | exact .refl | exact subL_left | refine subL_app ?_ | refine .drop ?_ | refine subL_add ?_))
    | exact at_met2 _ _ ⟨(atM (kpP tg has (ordP ps tg) k)).length - (seen ++ [i]).length, by rw [List.length_append, List.length_singleton]; omega, seen ++ [i], _, _, rfl, rfl, rfl, rfl, by rw [gthN_no hpq (ndY_val hc176.symm).symm]; exact hOn, hnd3, hlt3⟩ (.cons rfl (.cons rfl (.cons rfl (.cons rfl (.cons rfl (.cons rfl (.cons rfl (.cons rfl (.cons rfl (.cons rfl (.cons rfl (.cons rfl .nil)))))))))))) (by repeat (first | exact .refl | exact subL_left | refine subL_app ?_ | refine .drop ?_ | refine subL_add ?_))
   refine X_skip ?_
   refine at_block_n ?_
   first
   | exact at_met2 _ _ ⟨(atM (kpP tg has (ordP ps tg) k)).length - (seen ++ [i]).length, by rw [List.length_append, List.length_singleton]; omega, seen ++ [i], _, _, rfl, rfl, rfl, rfl, by rw [gthN_yes hpq (ndY_val hc176.symm).symm, List.length_append, List.length_singleton]; exact hO9, hnd3, hlt3⟩ (.cons rfl (.cons rfl (.cons rfl (.cons rfl (.cons rfl (.cons rfl (.cons rfl (.cons rfl (.cons rfl (.cons rfl (.cons rfl (.cons rfl .nil)))))))))))) (by repeat (first | exact .refl | exact subL_left | refine subL_app ?_ | refine .drop ?_ | refine subL_add ?_))
   | exact at_met2 _ _ ⟨(atM (kpP tg has (ordP ps tg) k)).length - (seen ++ [i]).length, by rw [List.length_append, List.length_singleton]; omega, seen ++ [i], _, _, rfl, rfl, rfl, rfl, by rw [gthN_no hpq (ndY_val hc176.symm).symm]; exact hOn, hnd3, hlt3⟩ (.cons rfl (.cons rfl (.cons rfl (.cons rfl (.cons rfl (.cons rfl (.cons rfl (.cons rfl (.cons rfl (.cons rfl (.cons rfl (.cons rfl .nil)))))))))))) (by repeat (first | exact .refl | exact subL_left | refine subL_app ?_ | refine .drop ?_ | refine subL_add ?_))
  obtain ⟨hs9, hall2⟩ := hno hc146
  have hs9 := hs9.symm
  subst hs9
  refine X_exit ?_
  refine at_then_e ?_
  refine at_then_e ?_
  refine at_block_hit ?_
  refine at_then ?_
  refine X_seq ?_
  have hOn2 := hOn
  rw [flat_int] at hOn2
  refine X_region ?_
  refine zF fld_40_3 ?_
  refine zV (ev_load rfl sct_24 (fun hg => by first | exact Sl.get0 hA hh0 rfl | exact Sl.get0 hV.1 hh0 rfl | exact Cell.imm h16 rfl | exact Cell.imm h20 rfl | exact Cell.imm h22 rfl | (repeat (first | exact Cell.here rfl | apply Cell.there | apply Cell.app)))) ?_
  refine XO_callM (cap := []) (vs := [_]) rfl rfl fun_31 (by repeat (first | exact .cons .here .nil | exact split_all | exact split_app | apply split_cons | apply split_skip)) (w_sort 3 (gthN tg (kpP tg has (ordP ps tg) k) p seen) hOn2 (by omega) _) rfl rfl ?_
  rintro vv24 I24 L24 hI24 ⟨rfl, rfl, hOs⟩
  have hP := hP.mono hI24; have hT := hT.mono hI24; have hV := hV.mono hI24; have hG1 := hG1.mono hI24; have hG2 := hG2.mono hI24; have hA := hA.mono hI24; have hLn := hLn.mono hI24; have hDr := hDr.mono hI24; have hnm := hnm.mono hI24; have hG3 := hG3.mono hI24; have hOS := hOS.mono hI24; have hRl := hRl.mono hI24
  have hN := hN.mono hI24; have h22 := h22.mono hI24; have hW := hW.mono hI24; have hIc := hIc.trans hI24; have hB0 := hB0.trans hI24; have hB2 := hB2.trans hI24; have hB5 := hB5.trans hI24; have hB7 := hB7.trans hI24
  rw [sort_ndW (gthN_all hnd2 hlt2 hall2), ← flat_int] at hOs
  rw [(gthN_all hnd2 hlt2 hall2).length_eq] at hOs
  refine zN ?_
  refine X_seq ?_
  refine X_freezeO hOs encI_len (by decide) (by repeat (first | exact .cons .here .nil | exact split_all | exact split_app | apply split_cons | apply split_skip)) (fun I25 hI25 na nc e25 hNn => ?_)
  subst e25
  have hP := hP.mono hI25; have hT := hT.mono hI25; have hV := hV.mono hI25; have hG1 := hG1.mono hI25; have hG2 := hG2.mono hI25; have hA := hA.mono hI25; have hLn := hLn.mono hI25; have hDr := hDr.mono hI25; have hnm := hnm.mono hI25; have hG3 := hG3.mono hI25; have hOS := hOS.mono hI25; have hRl := hRl.mono hI25
  have hN := hN.mono hI25; have h22 := h22.mono hI25; have hW := hW.mono hI25; have hIc := hIc.trans hI25; have hB0 := hB0.trans hI25; have hB2 := hB2.trans hI25; have hB5 := hB5.trans hI25; have hB7 := hB7.trans hI25
  refine X_region ?_
  refine zM ?_
  refine zF fld_66_0 ?_
  refine zV (ev_load rfl sct_3 (fun hg => by first | exact Sl.get0 hA hh0 rfl | exact Sl.get0 hV.1 hh0 rfl | exact Cell.imm h16 rfl | exact Cell.imm h20 rfl | exact Cell.imm h22 rfl | (repeat (first | exact Cell.here rfl | apply Cell.there | apply Cell.app)))) ?_
  refine zM ?_
  refine zQ slt_26 ?_
  refine XO_mapUpdate (m := atM (kpP tg has (ordP ps tg) k)) (ek := Value.int .i64) (ev := Value.int .i64) (a := p.id) (((kpP tg has (ordP ps tg) k).length : Nat) : Int) mpt_81 key_3 rfl rfl rfl rfl (by repeat (first | exact Upd.here | apply Upd.there | apply upd_app)) ?_
  rw [atM_new (kpP_new hL hp)]
  refine zN ?_
  refine X_region ?_
  refine zM ?_
  refine zV (ev_loadA rfl agt_40 (fun hg => by first | exact Sl.getA hP.1 hp | exact Cells.immC h16 | exact Sl.getA hOS hp | (repeat (first | exact Cells.here | exact Cells.s0 (vs := [_, _, _, _]) rfl | apply Cells.there | apply Cells.app))) rfl) ?_
  refine XO_buildSlice (ps := [(0, _)]) (m := [encSH ⟨p.id, ef, wa, (diffW tg has p.id).length, wc, na, (ndW tg (kpP tg has (ordP ps tg) k) p).length, nc⟩]) elt_26 rfl (.cons rfl (.nil)) rfl (by simp [encSH_len]) (by decide) (by decide) rfl rfl (fun b_193 => ?_)
  refine XO_append (v := _) (ys := [(⟨p.id, ef, wa, (diffW tg has p.id).length, wc, na, (ndW tg (kpP tg has (ordP ps tg) k) p).length, nc⟩ : SH)].flatMap encSH) (L := L) rfl rfl elt_26 hO6 (by repeat (first | exact .cons .here .nil | exact split_all | exact split_app | apply split_cons | apply split_skip)) ⟨rfl, fun _ => rfl, by repeat (first | exact Cells.here | apply Cells.there | apply Cells.app)⟩ (one_SH _) (by omega) rfl rfl ?_
  intro v9 L9 hO9 _; rw [← List.flatMap_append] at hO9
  refine zA ?_
  refine XO_nil ?_
  refine at_block_n ?_
  refine at_then ?_
  refine X_region ?_
  refine zB ?_
  refine zM ?_
  refine XO_nil ?_
  first
  | exact at_met2 _ (L ++ [(r_84, mapO (Value.int .i64) (Value.int .i64) (atM (kpP tg has (ordP ps tg) k)))]) ⟨n - (k + 1), by omega, k + 1, _, L, hs, rfl, rfl, hB7, by rw [kpP_no hp hw0], by omega, by rw [kpP_no hp hw0]; exact hO6, by rw [kpP_no hp hw0]; exact hRl⟩ (.cons rfl (.cons rfl (.cons rfl (.cons rfl (.cons rfl (.cons rfl (.cons rfl (.cons rfl (.cons rfl .nil))))))))) (by repeat (first | exact .refl | exact subL_left | refine subL_app ?_ | refine .drop ?_ | refine subL_add ?_))
  | exact at_met2 _ (L9 ++ [(r_84, mapO (Value.int .i64) (Value.int .i64) (atM ((kpP tg has (ordP ps tg) k) ++ [p])))]) ⟨n - (k + 1), by omega, k + 1, _, L9, hs ++ [⟨p.id, ef, wa, (diffW tg has p.id).length, wc, na, (ndW tg (kpP tg has (ordP ps tg) k) p).length, nc⟩], rfl, rfl, hB7, by rw [kpP_yes hp hw1], by omega, by rw [kpP_yes hp hw1, List.length_append, List.length_singleton]; exact hO9, by rw [kpP_yes hp hw1, sesL_snoc]; exact hRl.snoc ⟨rfl, hef, hW, hNn⟩⟩ (.cons rfl (.cons rfl (.cons rfl (.cons rfl (.cons rfl (.cons rfl (.cons rfl (.cons rfl (.cons rfl .nil))))))))) (subL_app (by repeat (first | exact .refl | refine .drop ?_)))
 have hge_k : n ≤ k := by have h := hc104; simp at h; omega
 have hka := kpP_all (has := has) (show (ordP ps tg).length ≤ k by rw [ordP_len]; omega)
 have hkl := congrArg List.length hka
 rw [hka] at hRl
 refine X_exit ?_
 refine at_then_e ?_
 refine at_then_e ?_
 refine at_block_hit ?_
 refine at_then ?_
 refine X_seq ?_
 refine zR ?_
 refine zM ?_
 refine zQ slt_26 ?_
 refine zC ?_
 refine zN ?_
 refine zI ?_ ?_ <;> intro hc198
 ·
  have hE : fromE ps tg has = 2 := by rw [fromE_4 hk0 h6 hall, if_pos (by unfold fromL; rw [sesL_len]; have h := hc198; simp at h; omega)]
  refine zR ?_
  refine zA ?_
  refine zA ?_
  refine zN ?_
  refine X_ret ?_
  refine at_then_r ?_
  first
  | exact at_ret2 rfl rfl rfl (fun w hw => ⟨_, J18, [], rfl, hIc, hw.drop, FroQ.bad (fromE_1 hk0) hk0⟩)
  | exact at_ret2 rfl rfl rfl (fun w hw => ⟨_, J18, [], rfl, hIc, hw.drop, FroQ.bad (fromE_2 hk0 h6) (by decide)⟩)
  | exact at_ret2 rfl rfl rfl (fun w hw => ⟨_, J18, [], rfl, hIc, hw.drop, FroQ.bad (fromE_3 hk0 h6 (all_bad hv0 hvf)) (by decide)⟩)
  | exact at_ret2 rfl rfl rfl (fun w hw => ⟨_, J18, [], rfl, hIc, hw.drop, FroQ.bad hE (by decide)⟩)
  | exact at_freezeO hO6 encSH_len (by decide) (by repeat (first | exact .cons .here .nil | exact split_all | exact split_app | apply split_cons | apply split_skip)) (fun I7 hI7 a7 c7 e7 hS7 => by cases e7; exact at_ret2 rfl rfl rfl (fun w hw => ⟨_, I7, [], rfl, hIc.trans hI7, hw.drop, FroQ.good hE ⟨hs, hS7, hRl.mono hI7⟩⟩))
 have hE : fromE ps tg has = 0 := by rw [fromE_4 hk0 h6 hall, if_neg (by unfold fromL; rw [sesL_len]; have h := hc198; simp at h; omega)]
 refine X_skip ?_
 refine at_then ?_
 refine zR ?_
 refine zM ?_
 refine zA ?_
 refine zA ?_
 refine zN ?_
 refine X_ret ?_
 first
 | exact at_ret2 rfl rfl rfl (fun w hw => ⟨_, J18, [], rfl, hIc, hw.drop, FroQ.bad (fromE_1 hk0) hk0⟩)
 | exact at_ret2 rfl rfl rfl (fun w hw => ⟨_, J18, [], rfl, hIc, hw.drop, FroQ.bad (fromE_2 hk0 h6) (by decide)⟩)
 | exact at_ret2 rfl rfl rfl (fun w hw => ⟨_, J18, [], rfl, hIc, hw.drop, FroQ.bad (fromE_3 hk0 h6 (all_bad hv0 hvf)) (by decide)⟩)
 | exact at_ret2 rfl rfl rfl (fun w hw => ⟨_, J18, [], rfl, hIc, hw.drop, FroQ.bad hE (by decide)⟩)
 | exact at_freezeO hO6 encSH_len (by decide) (by repeat (first | exact .cons .here .nil | exact split_all | exact split_app | apply split_cons | apply split_skip)) (fun I7 hI7 a7 c7 e7 hS7 => by cases e7; exact at_ret2 rfl rfl rfl (fun w hw => ⟨_, I7, [], rfl, hIc.trans hI7, hw.drop, FroQ.good hE ⟨hs, hS7, hRl.mono hI7⟩⟩))
end Go.Proofs.YtclkmnidgdkekaaGreat
end
section
namespace Go.Proofs.YtclkmnidgdkekaaGreat
open Go Go.Kn Go.Proofs
theorem ris_iff {hi : Int} : ∀ {lo : Int} {l : List Int}, risF hi lo l = true ↔ (∀ x ∈ l, lo ≤ x ∧ x ≤ hi) ∧ l.Pairwise (· < ·)
  | lo, [] => by simp [risF]
  | lo, n :: l => by
    show (!(decide (n < lo) || decide (n > hi)) && risF hi (n + 1) l) = true ↔ _
    rw [Bool.and_eq_true, ris_iff, List.pairwise_cons]
    simp only [Bool.not_eq_true', Bool.or_eq_false_iff, decide_eq_false_iff_not, List.mem_cons, forall_eq_or_imp]
    constructor
    · rintro ⟨h1, h2, h3⟩
      exact ⟨⟨by omega, fun x hx => by have := h2 x hx; omega⟩, fun x hx => by have := h2 x hx; omega, h3⟩
    · rintro ⟨⟨h1, h2⟩, h3, h4⟩
      exact ⟨by omega, fun x hx => by have := h2 x hx; have := h3 x hx; omega, h4⟩
theorem ris_more {hi lo x : Int} {xs : List Int} {k : Nat} (hx : xs[k]? = some x) (h : risF hi lo (xs.take k) = true) (h1 : lo ≤ x ∧ x ≤ hi) (h2 : ∀ y, 0 < k → xs[k - 1]? = some y → y < x) : risF hi lo (xs.take (k + 1)) = true := by
  rw [ris_iff] at *
  rw [List.take_add_one, hx]
  simp only [Option.toList_some]
  refine ⟨fun y hy => ?_, List.pairwise_append.2 ⟨h.2, by simp, fun a ha b hb => ?_⟩⟩
  · rcases List.mem_append.1 hy with hy | hy
    · exact h.1 y hy
    · simp at hy; subst hy; exact h1
  · simp at hb; subst hb
    obtain ⟨i, hi'⟩ := List.mem_iff_getElem?.1 ha
    have hik : i < k := by have := (List.getElem?_eq_some_iff.1 hi').1; rw [List.length_take] at this; omega
    have hk1 := (List.getElem?_eq_some_iff.1 hx).1
    have hy : xs[k - 1]? = some (xs[k - 1]'(by omega)) := List.getElem?_eq_getElem (by omega)
    have h3 := h2 _ (by omega) hy
    by_cases e : i = k - 1
    · subst e
      rw [List.getElem?_take_of_lt hik, hy] at hi'
      cases hi'; exact h3
    · have h5 : (xs.take k)[k - 1]? = some (xs[k - 1]'(by omega)) := by rw [List.getElem?_take_of_lt (by omega)]; exact hy
      have := List.pairwise_iff_getElem.1 h.2 i (k - 1) (List.getElem?_eq_some_iff.1 hi').1 (List.getElem?_eq_some_iff.1 h5).1 (by omega)
      rw [(List.getElem?_eq_some_iff.1 hi').2, (List.getElem?_eq_some_iff.1 h5).2] at this
      omega
theorem ris_out {hi lo x : Int} {xs : List Int} {k : Nat} (hx : xs[k]? = some x) (h1 : ¬ (lo ≤ x ∧ x ≤ hi)) : risF hi lo xs = false := by
  cases e : risF hi lo xs with
  | false => rfl
  | true => exact (h1 ((ris_iff.1 e).1 x (List.mem_of_getElem? hx))).elim
theorem ris_back {hi lo x y : Int} {xs : List Int} {k : Nat} (hk : 0 < k) (hx : xs[k]? = some x) (hy : xs[k - 1]? = some y) (h1 : x ≤ y) : risF hi lo xs = false := by
  cases e : risF hi lo xs with
  | false => rfl
  | true =>
    have := List.pairwise_iff_getElem.1 (ris_iff.1 e).2 (k - 1) k (List.getElem?_eq_some_iff.1 hy).1 (List.getElem?_eq_some_iff.1 hx).1 (by omega)
    rw [(List.getElem?_eq_some_iff.1 hx).2, (List.getElem?_eq_some_iff.1 hy).2] at this
    omega
theorem within_neg (a l h : Int) : (!(decide (a ≥ l) && decide (a ≤ h))) = (decide (a < l) || decide (a > h)) := by
  rw [Bool.eq_iff_iff]; simp only [Bool.not_eq_true', Bool.and_eq_false_iff, decide_eq_false_iff_not, Bool.or_eq_true, decide_eq_true_eq]; omega
theorem ris_cond_bad {hi lo x : Int} {xs : List Int} {k : Nat} (hx : xs[k]? = some x) (h : ((decide (x < lo) || decide (x > hi)) || (decide ((k : Int) > 0) && decide (x ≤ xs.getD ((k : Int) - 1).toNat 0))) = true) : risF hi lo xs = false := by
  simp only [Bool.or_eq_true, Bool.and_eq_true, decide_eq_true_eq] at h
  rcases h with h | ⟨h1, h2⟩
  · exact ris_out hx (by omega)
  · have hk := (List.getElem?_eq_some_iff.1 hx).1
    have hy : xs[k - 1]? = some (xs[k - 1]'(by omega)) := List.getElem?_eq_getElem (by omega)
    rw [show ((k : Int) - 1).toNat = k - 1 by omega, List.getD_eq_getElem?_getD, hy] at h2
    exact ris_back (by omega) hx hy h2
theorem ris_cond_ok {hi lo x : Int} {xs : List Int} {k : Nat} (hx : xs[k]? = some x) (hr : risF hi lo (xs.take k) = true) (h : ((decide (x < lo) || decide (x > hi)) || (decide ((k : Int) > 0) && decide (x ≤ xs.getD ((k : Int) - 1).toNat 0))) = false) : risF hi lo (xs.take (k + 1)) = true := by
  simp only [Bool.or_eq_false_iff, decide_eq_false_iff_not, Bool.and_eq_false_iff] at h
  refine ris_more hx hr (by omega) fun y hk hy => ?_
  rcases h.2 with g | g
  · omega
  · rw [show ((k : Int) - 1).toNat = k - 1 by omega, List.getD_eq_getElem?_getD, hy] at g
    simp at g; omega
/-- May plans of a course be gone through? -/
def fewC (c : Cr) : Bool :=
  if (decide ((c.days.length : Int) > 40) || decide ((c.ss.length : Int) > 20)) = true then false else
  if c.ss.any (fun s => decide ((s.who.length : Int) > 80) || decide ((s.needs.length : Int) > 80)) = true then false else
  if (decide ((c.days.length : Int) > 16) || decide ((c.ss.length : Int) > 8)) = true then true else decide (plansF c ≤ 300) || decide (plansF c > 65536)
end Go.Proofs.YtclkmnidgdkekaaGreat
namespace Go.Proofs.YtclkmnidgdkekaaGreat
open Go Go.Kn Go.Proofs
end Go.Proofs.YtclkmnidgdkekaaGreat
end
section
namespace Go.Proofs.YtclkmnidgdkekaaGreat
open Go Go.Kn Go.Proofs
theorem w_rWith (I : HMap) (n lo hi : Int) : RetV Tryz.prog 68 [.int .i64 n, .int .i64 lo, .int .i64 hi] I (.bool (decide (n ≥ lo) && decide (n ≤ hi))) := by
 intro g H w hw
 refine enter Tryz.func68 rfl Tryz.ntmps68 rfl hw ?_
 refine zR ?_
 refine zA ?_
 refine zN (zR ?_)
 refine zM ?_
 refine zM ?_
 refine zC ?_
 refine zM ?_
 refine XO_pushT 3 rfl rfl rfl ?_
 refine zK (ev_move rfl) ?_
 refine zK (ev_move rfl) ?_
 refine zK (ev_cmp rfl rfl rfl) ?_
 refine XO_and0 rfl rfl rfl rfl rfl ?_
 refine zA ?_
 refine zN ?_
 refine X_ret ?_
 exact at_ret1 rfl rfl (fun w hw => ⟨by rfl, hw.drop⟩)
theorem w_rInc {I : HMap} {av : Option Addr} {n c : Nat} {xs : List Int} (hS : Sl I 1 encI av n c xs) (hn : n ≤ 100000) (lo hi : Int) : RetV Tryz.prog 67 [.slice av n c, .int .i64 lo, .int .i64 hi] I (.bool (risF hi lo xs)) := by
 intro g H w hw
 refine enter Tryz.func67 rfl Tryz.ntmps67 rfl hw ?_
 refine zR ?_
 refine zA ?_
 refine zN ?_
 refine X_seq ?_
 refine zR ?_
 refine zA ?_
 refine zN ?_
 refine X_block ?_
 refine X_loopT [(0, _), (1, _), (2, _)] (.cons rfl (.cons rfl (.cons rfl .nil))) (fun T L0 mz E I' loc' => ∃ (k : Nat), mz = n - k ∧ E = (7, .int .i64 k) :: T ∧ I = I' ∧ L0 = loc' ∧ k ≤ n ∧ risF hi lo (xs.take k) = true) _ _ _ _ ⟨0, rfl, rfl, rfl, rfl, Nat.zero_le _, rfl⟩ (.cons rfl (.cons rfl (.cons rfl (.cons rfl .nil)))) (HLe.refl _) rfl ?_
 rintro mz E I' loc' ⟨k, rfl, rfl, rfl, rfl, hk, hr⟩
 refine X_seq ?_
 refine zR ?_
 refine zM ?_
 refine zM ?_
 refine zQ slt_24 ?_
 refine zC ?_
 refine zN ?_
 refine zI ?_ ?_ <;> intro hc11
 ·
  have hlt_k : k < n := by have h := hc11; simp at h; omega
  obtain ⟨x, hx⟩ := hS.at hlt_k
  refine X_skip ?_
  refine at_then ?_
  refine X_seq ?_
  refine X_block ?_
  refine X_seq ?_
  refine X_draw mixed (by kernel_rfl) ?_
  refine XQ_v0 (ev_move rfl) rfl rfl rfl ?_
  refine XQ_v0 (ev_move rfl) rfl rfl rfl ?_
  refine XQ_v0 (ev_indexSl rfl rfl slt_24 (by assumption) (fun hg => by first | omega | (simp [conj] at hg; omega))) rfl rfl rfl ?_
  refine XQ_v0 (ev_load rfl sct_3 (fun hg => by first | exact Sl.get0 hS hx rfl | exact Sl.getD0 hS (d := 0) (k := ((k : Int) - 1).toNat) (by first | omega | (simp [conj] at hg; omega)) rfl | (repeat (first | exact Cell.here rfl | apply Cell.there | apply Cell.app)))) rfl rfl rfl ?_
  refine XQ_v0 (ev_move rfl) rfl rfl rfl ?_
  refine XQ_v0 (ev_cmp rfl rfl rfl) rfl rfl rfl ?_
  refine XQ_v0 (ev_move rfl) rfl rfl rfl ?_
  refine XQ_pushF 6 rfl rfl rfl ?_
  refine XQ_v1 (ev_move rfl) (.some rfl rfl rfl rfl gbf) rfl rfl rfl ?_
  refine XQ_v1 (ev_move rfl) (.some rfl rfl rfl rfl gbf) rfl rfl rfl ?_
  refine XQ_v1 (ev_indexSl rfl rfl slt_24 (by assumption) (fun hg => by first | omega | (simp [conj] at hg; omega))) (.some rfl rfl rfl rfl gbf) rfl rfl rfl ?_
  refine XQ_v1 (ev_load rfl sct_3 (fun hg => by first | exact Sl.get0 hS hx rfl | exact Sl.getD0 hS (d := 0) (k := ((k : Int) - 1).toNat) (by first | omega | (simp [conj] at hg; omega)) rfl | (repeat (first | exact Cell.here rfl | apply Cell.there | apply Cell.app)))) (.some rfl rfl rfl rfl gbf) rfl rfl rfl ?_
  refine XQ_v1 (ev_move rfl) (.some rfl rfl rfl rfl gbf) rfl rfl rfl ?_
  refine XQ_v1 (ev_cmp rfl rfl rfl) (.some rfl rfl rfl rfl gbf) rfl rfl rfl ?_
  refine XQ_or0 rfl rfl rfl rfl rfl ?_
  refine XQ_v0 (ev_move rfl) rfl rfl rfl ?_
  refine XQ_pushF 14 rfl rfl rfl ?_
  refine XQ_v1 (ev_move rfl) (.some rfl rfl rfl rfl gbf) rfl rfl rfl ?_
  refine XQ_v1 (ev_cmp rfl rfl rfl) (.some rfl rfl rfl rfl gbf) rfl rfl rfl ?_
  refine XQ_v1 (ev_move rfl) (.some rfl rfl rfl rfl gbf) rfl rfl rfl ?_
  refine XQ_pushT 17 rfl rfl rfl ?_
  refine XQ_v1 (ev_move rfl) (.some rfl rfl rfl rfl gbt) rfl rfl rfl ?_
  refine XQ_v1 (ev_move rfl) (.some rfl rfl rfl rfl gbt) rfl rfl rfl ?_
  refine XQ_v1 (ev_indexSl rfl rfl slt_24 (by assumption) (fun hg => by first | omega | (simp [conj] at hg; omega))) (.some rfl rfl rfl rfl gbt) rfl rfl rfl ?_
  refine XQ_v1 (ev_load rfl sct_3 (fun hg => by first | exact Sl.get0 hS hx rfl | exact Sl.getD0 hS (d := 0) (k := ((k : Int) - 1).toNat) (by first | omega | (simp [conj] at hg; omega)) rfl | (repeat (first | exact Cell.here rfl | apply Cell.there | apply Cell.app)))) (.some rfl rfl rfl rfl gbt) rfl rfl rfl ?_
  refine XQ_v1 (ev_move rfl) (.some rfl rfl rfl rfl gbt) rfl rfl rfl ?_
  refine XQ_v1 (ev_move rfl) (.some rfl rfl rfl rfl gbt) rfl rfl rfl ?_
  refine XQ_v1 (ev_arB rfl rfl rfl (fun hg => by first | omega | (simp [conj] at hg; omega))) (.some rfl rfl rfl rfl gbt) rfl rfl rfl ?_
  refine XQ_v1 (ev_indexSl rfl rfl slt_24 (by assumption) (fun hg => by first | omega | (simp [conj] at hg; omega))) (.some rfl rfl rfl rfl gbt) rfl rfl rfl ?_
  refine XQ_v1 (ev_load rfl sct_3 (fun hg => by first | exact Sl.get0 hS hx rfl | exact Sl.getD0 hS (d := 0) (k := ((k : Int) - 1).toNat) (by first | omega | (simp [conj] at hg; omega)) rfl | (repeat (first | exact Cell.here rfl | apply Cell.there | apply Cell.app)))) (.some rfl rfl rfl rfl gbt) rfl rfl rfl ?_
  refine XQ_v1 (ev_cmp rfl rfl rfl) (.some rfl rfl rfl rfl gbt) rfl rfl rfl ?_
  refine XQ_and1 rfl rfl rfl (.some rfl rfl rfl rfl gbf) rfl rfl ?_
  refine XQ_or0 rfl rfl rfl rfl rfl ?_
  refine XQ_nil ?_
  refine at_then ?_
  refine zI ?_ ?_ <;> intro hc43
  ·
   refine zR ?_
   refine zA ?_
   refine zN ?_
   refine X_ret ?_
   refine at_block_r ?_
   refine at_then_r ?_
   refine at_then_r ?_
   refine at_block_r ?_
   refine at_then_r ?_
   first
   | exact at_ret1 rfl rfl (fun w hw => ⟨by rw [ris_cond_bad hx hc43], hw.drop⟩)
   | exact at_ret1 rfl rfl (fun w hw => ⟨by rw [hr], hw.drop⟩)
  refine X_skip ?_
  refine at_block_n ?_
  refine at_then ?_
  refine X_region ?_
  refine zM ?_
  refine zB ?_
  refine zA ?_
  refine XO_nil ?_
  exact at_met2 _ _ ⟨n - (k + 1), by omega, k + 1, rfl, rfl, rfl, rfl, by omega, ris_cond_ok hx hr hc43⟩ (.cons rfl (.cons rfl (.cons rfl (.cons rfl .nil)))) (by repeat (first | exact .refl | exact subL_left | refine subL_app ?_ | refine .drop ?_ | refine subL_add ?_))
 have hge_k : n ≤ k := by have h := hc11; simp at h; omega
 rw [take_all hS.len hge_k] at hr
 refine X_exit ?_
 refine at_then_e ?_
 refine at_then_e ?_
 refine at_block_hit ?_
 refine at_then ?_
 refine zR ?_
 refine zA ?_
 refine zN ?_
 refine X_ret ?_
 first
 | exact at_ret1 rfl rfl (fun w hw => ⟨by rw [ris_cond_bad hx hc43], hw.drop⟩)
 | exact at_ret1 rfl rfl (fun w hw => ⟨by rw [hr], hw.drop⟩)
theorem w_rRight {I : HMap} {x : CH} {cr : Cr} (hC : CrAt I x cr) (hn : x.n ≤ 100000) (hn2 : x.n2 ≤ 100000) (hwh : ∀ s ∈ cr.ss, s.who.length ≤ 100000) (hnd : ∀ s ∈ cr.ss, s.needs.length ≤ 100000) : RetV Tryz.prog 39 [encCHA x] I (.bool (rightF cr)) := by
 intro g H w hw
 refine enter Tryz.func39 rfl Tryz.ntmps39 rfl hw ?_
 have hIc := HLe.refl I
 obtain ⟨hD, e1, e2, e3, e4, hss⟩ := id hC
 obtain ⟨hs, hH⟩ := hss
 have hlS := hH.len
 refine zR ?_
 refine XO_box rfl rfl rfl (fun b_1 => ?_)
 refine zA ?_
 refine zN ?_
 refine X_seq ?_
 refine X_seq ?_
 refine X_freeze .here (fun I1 hI1 hb1 => ?_)
 have hD := hD.mono hI1; have hH := hH.mono hI1; have hIc := hIc.trans hI1
 have h1 := ImmC.of hb1
 refine X_region ?_
 refine zF fld_28_0 ?_
 refine zV (ev_load rfl sct_24 (fun hg => by first | exact Cell.imm h1 rfl | exact Cell.imm h4s rfl | (repeat (first | exact Cell.here rfl | apply Cell.there | apply Cell.app)))) ?_
 refine XO_callV0 (cap := []) (vs := [_, _, _]) rfl rfl fun_67 (w_rInc hD hn 0 73048) rfl rfl ?_
 refine zO ?_
 refine zM ?_
 refine XO_pushF 4 rfl rfl rfl ?_
 refine zJ (ev_fieldAddr rfl fld_28_1) ?_
 refine zJ (ev_load rfl sct_3 (fun hg => by first | exact Cell.imm h1 rfl | exact Cell.imm h4s rfl | (repeat (first | exact Cell.here rfl | apply Cell.there | apply Cell.app)))) ?_
 refine XO_callV1 (cap := []) (vs := [_, _, _]) rfl rfl fun_68 (fun hg => w_rWith _ _ _ _) (.some rfl rfl rfl rfl gbf) rfl rfl ?_
 refine zJ (ev_not rfl) ?_
 refine XO_or0 rfl rfl rfl rfl rfl ?_
 refine zM ?_
 refine XO_pushF 10 rfl rfl rfl ?_
 refine zJ (ev_fieldAddr rfl fld_28_2) ?_
 refine zJ (ev_load rfl sct_3 (fun hg => by first | exact Cell.imm h1 rfl | exact Cell.imm h4s rfl | (repeat (first | exact Cell.here rfl | apply Cell.there | apply Cell.app)))) ?_
 refine XO_callV1 (cap := []) (vs := [_, _, _]) rfl rfl fun_68 (fun hg => w_rWith _ _ _ _) (.some rfl rfl rfl rfl gbf) rfl rfl ?_
 refine zJ (ev_not rfl) ?_
 refine XO_or0 rfl rfl rfl rfl rfl ?_
 refine zM ?_
 refine XO_pushF 16 rfl rfl rfl ?_
 refine zJ (ev_fieldAddr rfl fld_28_3) ?_
 refine zJ (ev_load rfl sct_3 (fun hg => by first | exact Cell.imm h1 rfl | exact Cell.imm h4s rfl | (repeat (first | exact Cell.here rfl | apply Cell.there | apply Cell.app)))) ?_
 refine XO_callV1 (cap := []) (vs := [_, _, _]) rfl rfl fun_68 (fun hg => w_rWith _ _ _ _) (.some rfl rfl rfl rfl gbf) rfl rfl ?_
 refine zJ (ev_not rfl) ?_
 refine XO_or0 rfl rfl rfl rfl rfl ?_
 refine zM ?_
 refine XO_pushF 22 rfl rfl rfl ?_
 refine zJ (ev_fieldAddr rfl fld_28_4) ?_
 refine zJ (ev_load rfl sct_3 (fun hg => by first | exact Cell.imm h1 rfl | exact Cell.imm h4s rfl | (repeat (first | exact Cell.here rfl | apply Cell.there | apply Cell.app)))) ?_
 refine XO_callV1 (cap := []) (vs := [_, _, _]) rfl rfl fun_68 (fun hg => w_rWith _ _ _ _) (.some rfl rfl rfl rfl gbf) rfl rfl ?_
 refine zJ (ev_not rfl) ?_
 refine XO_or0 rfl rfl rfl rfl rfl ?_
 refine zN ?_
 refine zI ?_ ?_ <;> intro hc32
 ·
  have hr : rightH cr = true := by unfold rightH; rw [← e1, ← e2, ← e3, ← e4]; exact hc32
  refine zR ?_
  refine zA ?_
  refine zN ?_
  refine X_ret ?_
  refine at_then_r ?_
  first
  | exact at_ret1 rfl rfl (fun w hw => ⟨by unfold rightF; rw [hr]; rfl, (hw.mono hIc).drop⟩)
  | exact at_ret1 rfl rfl (fun w hw => ⟨by unfold rightF; rw [hr, hg9, goodS_bad hs9 hb]; rfl, (hw.mono hIc).drop⟩)
  | exact at_ret1 rfl rfl (fun w hw => ⟨by unfold rightF; rw [hr, hg9]; rfl, (hw.mono hIc).drop⟩)
 have hr : rightH cr = false := by unfold rightH; rw [← e1, ← e2, ← e3, ← e4]; exact hc32
 refine X_skip ?_
 refine at_then ?_
 refine X_seq ?_
 refine zR ?_
 refine zA ?_
 refine zN ?_
 refine X_block ?_
 refine X_loopT [(1, _)] (.cons rfl .nil) (fun T L0 mz E I' loc' => ∃ (k : Nat), mz = x.n2 - k ∧ E = (3, .int .i64 k) :: T ∧ HLe I1 I' ∧ L0 = loc' ∧ k ≤ x.n2 ∧ goodS 0 cr.ss = goodS k (cr.ss.drop k)) _ _ _ _ ⟨0, rfl, rfl, HLe.refl _, rfl, Nat.zero_le _, rfl⟩ (.cons rfl (.cons rfl .nil)) (HLe.refl _) rfl ?_
 rintro mz E J2 loc' ⟨k, rfl, rfl, hJ, rfl, hk, hg9⟩
 have hD := hD.mono hJ; have hH := hH.mono hJ; have h1 := h1.mono hJ; have hIc := hIc.trans hJ
 have hB0 := hJ
 refine X_seq ?_
 refine zR ?_
 refine zM ?_
 refine zF fld_28_5 ?_
 refine zV (ev_load rfl sct_26 (fun hg => by first | exact Cell.imm h1 rfl | exact Cell.imm h4s rfl | (repeat (first | exact Cell.here rfl | apply Cell.there | apply Cell.app)))) ?_
 refine zQ slt_26 ?_
 refine zC ?_
 refine zN ?_
 refine zI ?_ ?_ <;> intro hc37
 ·
  have hlt_k : k < x.n2 := by have h := hc37; simp at h; omega
  obtain ⟨y, s, hy, hs9, q1, q2, hW, hN⟩ := hH.at hlt_k
  have hwl := hwh s (List.mem_of_getElem? hs9)
  have hnl := hnd s (List.mem_of_getElem? hs9)
  have hWl := hW.len
  have hNl := hN.len
  refine X_skip ?_
  refine at_then ?_
  refine X_seq ?_
  refine X_block ?_
  refine zR ?_
  refine zF fld_28_5 ?_
  refine zV (ev_load rfl sct_26 (fun hg => by first | exact Cell.imm h1 rfl | exact Cell.imm h4s rfl | (repeat (first | exact Cell.here rfl | apply Cell.there | apply Cell.app)))) ?_
  refine zM ?_
  refine zV (ev_indexSl rfl rfl slt_26 hH.1 (fun hg => by first | omega | (simp [conj] at hg; omega))) ?_
  refine zV (ev_loadA rfl agt_40 (fun hg => by first | exact Sl.getA hH.1 hy | (repeat (first | exact Cells.here | exact Cells.s0 (vs := [_, _, _, _]) rfl | apply Cells.there | apply Cells.app))) rfl) ?_
  refine XO_alloc zt_40 rfl rfl (fun b_4 => ?_)
  refine XO_storeA rfl rfl szt_40 rfl rfl rfl rfl (by repeat (first | exact Upd.here | apply Upd.there | apply upd_app)) ?_
  refine zN ?_
  refine X_seq ?_
  refine X_freeze .here (fun I3 hI3 hb3 => ?_)
  have hD := hD.mono hI3; have hH := hH.mono hI3; have h1 := h1.mono hI3; have hW := hW.mono hI3; have hN := hN.mono hI3; have hIc := hIc.trans hI3; have hB0 := hB0.trans hI3
  have h4s := ImmC.of hb3
  refine X_region ?_
  refine zF fld_40_0 ?_
  refine zV (ev_load rfl sct_3 (fun hg => by first | exact Cell.imm h1 rfl | exact Cell.imm h4s rfl | (repeat (first | exact Cell.here rfl | apply Cell.there | apply Cell.app)))) ?_
  refine XO_callV0 (cap := []) (vs := [_, _, _]) rfl rfl fun_68 (w_rWith _ _ _ _) rfl rfl ?_
  refine zO ?_
  refine zM ?_
  refine XO_pushF 4 rfl rfl rfl ?_
  refine zJ (ev_fieldAddr rfl fld_40_1) ?_
  refine zJ (ev_load rfl sct_3 (fun hg => by first | exact Cell.imm h1 rfl | exact Cell.imm h4s rfl | (repeat (first | exact Cell.here rfl | apply Cell.there | apply Cell.app)))) ?_
  refine XO_callV1 (cap := []) (vs := [_, _, _]) rfl rfl fun_68 (fun hg => w_rWith _ _ _ _) (.some rfl rfl rfl rfl gbf) rfl rfl ?_
  refine zJ (ev_not rfl) ?_
  refine XO_or0 rfl rfl rfl rfl rfl ?_
  refine zM ?_
  refine XO_pushF 10 rfl rfl rfl ?_
  refine zJ (ev_fieldAddr rfl fld_40_2) ?_
  refine zJ (ev_load rfl sct_24 (fun hg => by first | exact Cell.imm h1 rfl | exact Cell.imm h4s rfl | (repeat (first | exact Cell.here rfl | apply Cell.there | apply Cell.app)))) ?_
  refine zJ (ev_lenS rfl slt_24) ?_
  refine zJ (ev_cmp rfl rfl rfl) ?_
  refine XO_or0 rfl rfl rfl rfl rfl ?_
  refine zM ?_
  refine XO_pushF 16 rfl rfl rfl ?_
  refine zJ (ev_fieldAddr rfl fld_40_2) ?_
  refine zJ (ev_load rfl sct_24 (fun hg => by first | exact Cell.imm h1 rfl | exact Cell.imm h4s rfl | (repeat (first | exact Cell.here rfl | apply Cell.there | apply Cell.app)))) ?_
  refine XO_callV1 (cap := []) (vs := [_, _, _]) rfl rfl fun_67 (fun hg => w_rInc hW (by omega) 0 63) (.some rfl rfl rfl rfl gbf) rfl rfl ?_
  refine zJ (ev_not rfl) ?_
  refine XO_or0 rfl rfl rfl rfl rfl ?_
  refine zM ?_
  refine XO_pushF 22 rfl rfl rfl ?_
  refine zJ (ev_fieldAddr rfl fld_40_3) ?_
  refine zJ (ev_load rfl sct_24 (fun hg => by first | exact Cell.imm h1 rfl | exact Cell.imm h4s rfl | (repeat (first | exact Cell.here rfl | apply Cell.there | apply Cell.app)))) ?_
  refine zJ (ev_move rfl) ?_
  refine zJ (ev_arB rfl rfl rfl (fun hg => by first | omega | (simp [conj] at hg; omega))) ?_
  refine XO_callV1 (cap := []) (vs := [_, _, _]) rfl rfl fun_67 (fun hg => w_rInc hN (by omega) 0 _) (.some rfl rfl rfl rfl gbf) rfl rfl ?_
  refine zJ (ev_not rfl) ?_
  refine XO_or0 rfl rfl rfl rfl rfl ?_
  refine zN ?_
  refine zI ?_ ?_ <;> intro hc74
  ·
   have hb : sesP k s = true := by unfold sesP; rw [← q1, ← q2, hWl, ← within_neg]; exact hc74
   refine zR ?_
   refine zA ?_
   refine zN ?_
   refine X_ret ?_
   refine at_block_r ?_
   refine at_then_r ?_
   refine at_then_r ?_
   refine at_block_r ?_
   refine at_then_r ?_
   first
   | exact at_ret1 rfl rfl (fun w hw => ⟨by unfold rightF; rw [hr]; rfl, (hw.mono hIc).drop⟩)
   | exact at_ret1 rfl rfl (fun w hw => ⟨by unfold rightF; rw [hr, hg9, goodS_bad hs9 hb]; rfl, (hw.mono hIc).drop⟩)
   | exact at_ret1 rfl rfl (fun w hw => ⟨by unfold rightF; rw [hr, hg9]; rfl, (hw.mono hIc).drop⟩)
  have hb : sesP k s = false := by unfold sesP; rw [← q1, ← q2, hWl, ← within_neg]; exact hc74
  refine X_skip ?_
  refine at_block_n ?_
  refine at_then ?_
  refine X_region ?_
  refine zM ?_
  refine zB ?_
  refine zA ?_
  refine XO_nil ?_
  exact at_met2 _ _ ⟨x.n2 - (k + 1), by omega, k + 1, rfl, rfl, hB0, rfl, by omega, by rw [hg9, goodS_step hs9 hb]⟩ (.cons rfl (.cons rfl .nil)) (by repeat (first | exact .refl | exact subL_left | refine subL_app ?_ | refine .drop ?_ | refine subL_add ?_))
 have hge_k : x.n2 ≤ k := by have h := hc37; simp at h; omega
 rw [goodS_end (by omega)] at hg9
 refine X_exit ?_
 refine at_then_e ?_
 refine at_then_e ?_
 refine at_block_hit ?_
 refine at_then ?_
 refine zR ?_
 refine zA ?_
 refine zN ?_
 refine X_ret ?_
 first
 | exact at_ret1 rfl rfl (fun w hw => ⟨by unfold rightF; rw [hr]; rfl, (hw.mono hIc).drop⟩)
 | exact at_ret1 rfl rfl (fun w hw => ⟨by unfold rightF; rw [hr, hg9, goodS_bad hs9 hb]; rfl, (hw.mono hIc).drop⟩)
 | exact at_ret1 rfl rfl (fun w hw => ⟨by unfold rightF; rw [hr, hg9]; rfl, (hw.mono hIc).drop⟩)
theorem w_rPlans {I : HMap} {x : CH} {cr : Cr} (hC : CrAt I x cr) (hn : x.n ≤ 16) (hn2 : x.n2 ≤ 8) : RetV Tryz.prog 38 [encCHA x] I (.int .i64 (plansF cr)) := by
 intro g H w hw
 refine enter Tryz.func38 rfl Tryz.ntmps38 rfl hw ?_
 have hIc := HLe.refl I
 have hlD : cr.days.length = x.n := hC.1.len
 have hlS : cr.ss.length = x.n2 := hC.2.2.2.2.2.len
 refine zR ?_
 refine XO_box rfl rfl rfl (fun b_1 => ?_)
 refine zA ?_
 refine zN ?_
 refine X_seq ?_
 refine X_freeze .here (fun I1 hI1 hb1 => ?_)
 have hIc := hIc.trans hI1
 have h1 := ImmC.of hb1
 refine X_region ?_
 refine zA ?_
 refine zN ?_
 refine X_seq ?_
 refine zR ?_
 refine zA ?_
 refine zN ?_
 refine X_block ?_
 refine X_loopT [(1, _)] (.cons rfl .nil) (fun T L0 mz E I' loc' => ∃ (k : Nat) (q : Int), mz = x.n2 - k ∧ E = (3, .int .i64 q) :: (4, .int .i64 k) :: T ∧ I1 = I' ∧ L0 = loc' ∧ k ≤ x.n2 ∧ q = ((x.n ^ k : Nat) : Int)) _ _ _ _ ⟨0, 1, rfl, rfl, rfl, rfl, Nat.zero_le _, rfl⟩ (.cons rfl (.cons rfl (.cons rfl .nil))) (HLe.refl _) rfl ?_
 rintro mz E I' loc' ⟨k, q, rfl, rfl, rfl, rfl, hk, hq⟩
 refine X_seq ?_
 refine zR ?_
 refine zM ?_
 refine zF fld_28_5 ?_
 refine zV (ev_load rfl sct_26 (fun hg => by first | exact Cell.imm h1 rfl | (repeat (first | exact Cell.here rfl | apply Cell.there | apply Cell.app)))) ?_
 refine zQ slt_26 ?_
 refine zC ?_
 refine zN ?_
 refine zI ?_ ?_ <;> intro hc9
 ·
  have hlt_k : k < x.n2 := by have h := hc9; simp at h; omega
  have hp := pow16 (n := x.n) (k := k) hn (by omega)
  have hp2 := pow16 (n := x.n) (k := k + 1) hn (by omega)
  have hm : q * (x.n : Int) = ((x.n ^ (k + 1) : Nat) : Int) := by rw [hq, Nat.pow_succ]; simp
  refine X_skip ?_
  refine at_then ?_
  refine X_seq ?_
  refine X_block ?_
  refine X_region ?_
  refine zM ?_
  refine zF fld_28_0 ?_
  refine zV (ev_load rfl sct_24 (fun hg => by first | exact Cell.imm h1 rfl | (repeat (first | exact Cell.here rfl | apply Cell.there | apply Cell.app)))) ?_
  refine zQ slt_24 ?_
  refine zB ?_
  refine zA ?_
  refine XO_nil ?_
  refine at_block_n ?_
  refine at_then ?_
  refine X_region ?_
  refine zM ?_
  refine zB ?_
  refine zA ?_
  refine XO_nil ?_
  exact at_met2 _ _ ⟨x.n2 - (k + 1), by omega, k + 1, _, rfl, rfl, rfl, rfl, by omega, by rw [hq, Nat.pow_succ]; simp⟩ (.cons rfl (.cons rfl (.cons rfl .nil))) (by repeat (first | exact .refl | exact subL_left | refine subL_app ?_ | refine .drop ?_ | refine subL_add ?_))
 have hge_k : x.n2 ≤ k := by have h := hc9; simp at h; omega
 obtain rfl : k = x.n2 := by omega
 refine X_exit ?_
 refine at_then_e ?_
 refine at_then_e ?_
 refine at_block_hit ?_
 refine at_then ?_
 refine zR ?_
 refine zM ?_
 refine zA ?_
 refine zN ?_
 refine X_ret ?_
 exact at_ret1 rfl rfl (fun w hw => ⟨by unfold plansF; rw [hlD, hlS, hq], (hw.mono hIc).drop⟩)
theorem w_rChk {I : HMap} {x : CH} {cr : Cr} (hC : CrAt I x cr) (hnd : ∀ s ∈ cr.ss, s.needs.length ≤ 100000) (hwh : ∀ s ∈ cr.ss, s.who.length ≤ 100000) : RetV Tryz.prog 11 [encCHA x] I (.int .i64 (chkC cr)) := by
 intro g H w hw
 refine enter Tryz.func11 rfl Tryz.ntmps11 rfl hw ?_
 have hIc := HLe.refl I
 obtain ⟨hD, e1, e2, e3, e4, hss⟩ := id hC
 obtain ⟨hs, hH⟩ := hss
 have hlS := hH.len
 have hlD := hD.len
 refine zR ?_
 refine XO_box rfl rfl rfl (fun b_1 => ?_)
 refine zA ?_
 refine zN ?_
 refine X_seq ?_
 refine X_seq ?_
 refine X_freeze .here (fun I1 hI1 hb1 => ?_)
 have hC := hC.mono hI1; have hH := hH.mono hI1; have hIc := hIc.trans hI1
 have hbx := ImmC.of hb1
 refine X_region ?_
 refine zF fld_28_0 ?_
 refine zV (ev_load rfl sct_24 (fun hg => by first | exact Cell.imm hbx rfl | exact Sl.get hH.1 hy (j := 2) rfl | (repeat (first | exact Cell.here rfl | apply Cell.there | apply Cell.app)))) ?_
 refine zQ slt_24 ?_
 refine zC ?_
 refine zM ?_
 refine XO_pushF 4 rfl rfl rfl ?_
 refine zJ (ev_fieldAddr rfl fld_28_5) ?_
 refine zJ (ev_load rfl sct_26 (fun hg => by first | exact Cell.imm hbx rfl | exact Sl.get hH.1 hy (j := 2) rfl | (repeat (first | exact Cell.here rfl | apply Cell.there | apply Cell.app)))) ?_
 refine zJ (ev_lenS rfl slt_26) ?_
 refine zJ (ev_cmp rfl rfl rfl) ?_
 refine XO_or0 rfl rfl rfl rfl rfl ?_
 refine zN ?_
 refine zI ?_ ?_ <;> intro hc13
 ·
  have h1 : ((decide ((cr.days.length : Int) > 16) || decide ((cr.ss.length : Int) > 8)) || cr.ss.any (fun s => decide ((s.who.length : Int) > 6))) = true := by rw [hlD, hlS, show (decide ((x.n : Int) > 16) || decide ((x.n2 : Int) > 8)) = true from hc13]; rfl
  refine zR ?_
  refine zA ?_
  refine zN ?_
  refine X_ret ?_
  refine at_then_r ?_
  first
  | exact at_ret1 rfl rfl (fun w hw => ⟨by rw [chkC_1 h1], (hw.mono hIc).drop⟩)
  | exact at_ret1 rfl rfl (fun w hw => ⟨by rw [chkC_2 h1 h2], (hw.mono hIc).drop⟩)
  | exact at_ret1 rfl rfl (fun w hw => ⟨by rw [chkC_3 h1 h2, if_pos h3], (hw.mono hIc).drop⟩)
  | exact at_ret1 rfl rfl (fun w hw => ⟨by rw [chkC_3 h1 h2, if_neg h3], (hw.mono hIc).drop⟩)
 have hsm : (decide ((x.n : Int) > 16) || decide ((x.n2 : Int) > 8)) = false := hc13
 have hsm2 := hsm
 simp at hsm2
 refine X_skip ?_
 refine at_then ?_
 refine X_seq ?_
 refine zR ?_
 refine zA ?_
 refine zN ?_
 refine X_block ?_
 refine X_loopT [(1, _)] (.cons rfl .nil) (fun T L0 mz E I' loc' => ∃ (k : Nat), mz = x.n2 - k ∧ E = (3, .int .i64 k) :: T ∧ I1 = I' ∧ L0 = loc' ∧ k ≤ x.n2 ∧ (cr.ss.take k).any (fun s => decide ((s.who.length : Int) > 6)) = false) _ _ _ _ ⟨0, rfl, rfl, rfl, rfl, Nat.zero_le _, rfl⟩ (.cons rfl (.cons rfl .nil)) (HLe.refl _) rfl ?_
 rintro mz E I' loc' ⟨k, rfl, rfl, rfl, rfl, hk, hno⟩
 refine X_seq ?_
 refine zR ?_
 refine zM ?_
 refine zF fld_28_5 ?_
 refine zV (ev_load rfl sct_26 (fun hg => by first | exact Cell.imm hbx rfl | exact Sl.get hH.1 hy (j := 2) rfl | (repeat (first | exact Cell.here rfl | apply Cell.there | apply Cell.app)))) ?_
 refine zQ slt_26 ?_
 refine zC ?_
 refine zN ?_
 refine zI ?_ ?_ <;> intro hc18
 ·
  have hlt_k : k < x.n2 := by have h := hc18; simp at h; omega
  obtain ⟨y, s, hy, hs9, q1, q2, hW, hN⟩ := hH.at hlt_k
  have hWl := hW.len
  refine X_skip ?_
  refine at_then ?_
  refine X_seq ?_
  refine X_block ?_
  refine zR ?_
  refine zF fld_28_5 ?_
  refine zV (ev_load rfl sct_26 (fun hg => by first | exact Cell.imm hbx rfl | exact Sl.get hH.1 hy (j := 2) rfl | (repeat (first | exact Cell.here rfl | apply Cell.there | apply Cell.app)))) ?_
  refine zM ?_
  refine zV (ev_indexSl rfl rfl slt_26 hH.1 (fun hg => by first | omega | (simp [conj] at hg; omega))) ?_
  refine zF fld_40_2 ?_
  refine zV (ev_load rfl sct_24 (fun hg => by first | exact Cell.imm hbx rfl | exact Sl.get hH.1 hy (j := 2) rfl | (repeat (first | exact Cell.here rfl | apply Cell.there | apply Cell.app)))) ?_
  refine zQ slt_24 ?_
  refine zC ?_
  refine zN ?_
  refine zI ?_ ?_ <;> intro hc28
  ·
   have h1 : ((decide ((cr.days.length : Int) > 16) || decide ((cr.ss.length : Int) > 8)) || cr.ss.any (fun s => decide ((s.who.length : Int) > 6))) = true := by rw [any_yes hs9 (by rw [hWl]; exact hc28), Bool.or_true]
   refine zR ?_
   refine zA ?_
   refine zN ?_
   refine X_ret ?_
   refine at_block_r ?_
   refine at_then_r ?_
   refine at_then_r ?_
   refine at_block_r ?_
   refine at_then_r ?_
   first
   | exact at_ret1 rfl rfl (fun w hw => ⟨by rw [chkC_1 h1], (hw.mono hIc).drop⟩)
   | exact at_ret1 rfl rfl (fun w hw => ⟨by rw [chkC_2 h1 h2], (hw.mono hIc).drop⟩)
   | exact at_ret1 rfl rfl (fun w hw => ⟨by rw [chkC_3 h1 h2, if_pos h3], (hw.mono hIc).drop⟩)
   | exact at_ret1 rfl rfl (fun w hw => ⟨by rw [chkC_3 h1 h2, if_neg h3], (hw.mono hIc).drop⟩)
  refine X_skip ?_
  refine at_block_n ?_
  refine at_then ?_
  refine X_region ?_
  refine zM ?_
  refine zB ?_
  refine zA ?_
  refine XO_nil ?_
  exact at_met2 _ _ ⟨x.n2 - (k + 1), by omega, k + 1, rfl, rfl, rfl, rfl, by omega, any_no hs9 hno (by rw [hWl]; exact hc28)⟩ (.cons rfl (.cons rfl .nil)) (by repeat (first | exact .refl | exact subL_left | refine subL_app ?_ | refine .drop ?_ | refine subL_add ?_))
 have hge_k : x.n2 ≤ k := by have h := hc18; simp at h; omega
 rw [List.take_of_length_le (by omega)] at hno
 have h1 : ((decide ((cr.days.length : Int) > 16) || decide ((cr.ss.length : Int) > 8)) || cr.ss.any (fun s => decide ((s.who.length : Int) > 6))) = false := by rw [hlD, hlS, hsm, hno]; rfl
 refine X_exit ?_
 refine at_then_e ?_
 refine at_then_e ?_
 refine at_block_hit ?_
 refine at_then ?_
 refine X_seq ?_
 refine zR ?_
 refine zV (ev_loadA rfl agt_28 (fun hg => by first | exact Cells.immC hbx | (repeat (first | exact Cells.here | exact Cells.s0 (vs := [_, _, _, _, _, _]) rfl | apply Cells.there | apply Cells.app))) rfl) ?_
 refine XO_callV0 (cap := []) (vs := [_]) rfl rfl fun_39 (w_rRight hC (by omega) (by omega) hwh hnd) rfl rfl ?_
 refine zO ?_
 refine zN ?_
 refine zI ?_ ?_ <;> intro hc31
 ·
  have h2 : rightF cr = false := by simpa using hc31
  refine zR ?_
  refine zA ?_
  refine zN ?_
  refine X_ret ?_
  refine at_then_r ?_
  first
  | exact at_ret1 rfl rfl (fun w hw => ⟨by rw [chkC_1 h1], (hw.mono hIc).drop⟩)
  | exact at_ret1 rfl rfl (fun w hw => ⟨by rw [chkC_2 h1 h2], (hw.mono hIc).drop⟩)
  | exact at_ret1 rfl rfl (fun w hw => ⟨by rw [chkC_3 h1 h2, if_pos h3], (hw.mono hIc).drop⟩)
  | exact at_ret1 rfl rfl (fun w hw => ⟨by rw [chkC_3 h1 h2, if_neg h3], (hw.mono hIc).drop⟩)
 have h2 : rightF cr = true := by simpa using hc31
 refine X_skip ?_
 refine at_then ?_
 refine X_seq ?_
 refine zR ?_
 refine zV (ev_loadA rfl agt_28 (fun hg => by first | exact Cells.immC hbx | (repeat (first | exact Cells.here | exact Cells.s0 (vs := [_, _, _, _, _, _]) rfl | apply Cells.there | apply Cells.app))) rfl) ?_
 refine XO_callV0 (cap := []) (vs := [_]) rfl rfl fun_38 (w_rPlans hC (by omega) (by omega)) rfl rfl ?_
 refine zC ?_
 refine zN ?_
 refine zI ?_ ?_ <;> intro hc34
 ·
  have h3 : plansF cr > 65536 := by simpa using hc34
  refine zR ?_
  refine zA ?_
  refine zN ?_
  refine X_ret ?_
  refine at_then_r ?_
  first
  | exact at_ret1 rfl rfl (fun w hw => ⟨by rw [chkC_1 h1], (hw.mono hIc).drop⟩)
  | exact at_ret1 rfl rfl (fun w hw => ⟨by rw [chkC_2 h1 h2], (hw.mono hIc).drop⟩)
  | exact at_ret1 rfl rfl (fun w hw => ⟨by rw [chkC_3 h1 h2, if_pos h3], (hw.mono hIc).drop⟩)
  | exact at_ret1 rfl rfl (fun w hw => ⟨by rw [chkC_3 h1 h2, if_neg h3], (hw.mono hIc).drop⟩)
 have h3 : ¬ plansF cr > 65536 := by simpa using hc34
 refine X_skip ?_
 refine at_then ?_
 refine zR ?_
 refine zA ?_
 refine zN ?_
 refine X_ret ?_
 first
 | exact at_ret1 rfl rfl (fun w hw => ⟨by rw [chkC_1 h1], (hw.mono hIc).drop⟩)
 | exact at_ret1 rfl rfl (fun w hw => ⟨by rw [chkC_2 h1 h2], (hw.mono hIc).drop⟩)
 | exact at_ret1 rfl rfl (fun w hw => ⟨by rw [chkC_3 h1 h2, if_pos h3], (hw.mono hIc).drop⟩)
 | exact at_ret1 rfl rfl (fun w hw => ⟨by rw [chkC_3 h1 h2, if_neg h3], (hw.mono hIc).drop⟩)
theorem w_rFew {I : HMap} {x : CH} {cr : Cr} (hC : CrAt I x cr) : RetV Tryz.prog 10 [encCHA x] I (.bool (fewC cr)) := by
 intro g H w hw
 refine enter Tryz.func10 rfl Tryz.ntmps10 rfl hw ?_
 have hIc := HLe.refl I
 obtain ⟨hD, e1, e2, e3, e4, hss⟩ := id hC
 obtain ⟨hs, hH⟩ := hss
 have hlS := hH.len
 have hlD := hD.len
 refine zR ?_
 refine XO_box rfl rfl rfl (fun b_1 => ?_)
 refine zA ?_
 refine zN ?_
 refine X_seq ?_
 refine X_seq ?_
 refine X_freeze .here (fun I1 hI1 hb1 => ?_)
 have hC := hC.mono hI1; have hH := hH.mono hI1; have hIc := hIc.trans hI1
 have hbx := ImmC.of hb1
 refine X_region ?_
 refine zF fld_28_0 ?_
 refine zV (ev_load rfl sct_24 (fun hg => by first | exact Cell.imm hbx rfl | exact Sl.get hH.1 hy (j := 2) rfl | exact Sl.get hH.1 hy (j := 3) rfl | (repeat (first | exact Cell.here rfl | apply Cell.there | apply Cell.app)))) ?_
 refine zQ slt_24 ?_
 refine zC ?_
 refine zM ?_
 refine XO_pushF 4 rfl rfl rfl ?_
 refine zJ (ev_fieldAddr rfl fld_28_5) ?_
 refine zJ (ev_load rfl sct_26 (fun hg => by first | exact Cell.imm hbx rfl | exact Sl.get hH.1 hy (j := 2) rfl | exact Sl.get hH.1 hy (j := 3) rfl | (repeat (first | exact Cell.here rfl | apply Cell.there | apply Cell.app)))) ?_
 refine zJ (ev_lenS rfl slt_26) ?_
 refine zJ (ev_cmp rfl rfl rfl) ?_
 refine XO_or0 rfl rfl rfl rfl rfl ?_
 refine zN ?_
 refine zI ?_ ?_ <;> intro hc13
 ·
  have h1 : (decide ((cr.days.length : Int) > 40) || decide ((cr.ss.length : Int) > 20)) = true := by rw [hlD, hlS]; exact hc13
  refine zR ?_
  refine zA ?_
  refine zN ?_
  refine X_ret ?_
  refine at_then_r ?_
  first
  | exact at_ret1 rfl rfl (fun w hw => ⟨by unfold fewC; rw [if_pos h1], (hw.mono hIc).drop⟩)
  | exact at_ret1 rfl rfl (fun w hw => ⟨by unfold fewC; rw [if_neg (by rw [h1]; decide), if_pos h2], (hw.mono hIc).drop⟩)
  | exact at_ret1 rfl rfl (fun w hw => ⟨by unfold fewC; rw [if_neg (by rw [h1]; decide), if_neg (by rw [hno]; decide), if_pos h3], (hw.mono hIc).drop⟩)
  | exact at_ret1 rfl rfl (fun w hw => ⟨by unfold fewC; rw [if_neg (by rw [h1]; decide), if_neg (by rw [hno]; decide), if_neg (by rw [h3]; decide)], (hw.mono hIc).drop⟩)
 have h1 : (decide ((cr.days.length : Int) > 40) || decide ((cr.ss.length : Int) > 20)) = false := by rw [hlD, hlS]; exact hc13
 have hsm := h1
 simp at hsm
 refine X_skip ?_
 refine at_then ?_
 refine X_seq ?_
 refine zR ?_
 refine zA ?_
 refine zN ?_
 refine X_block ?_
 refine X_loopT [(1, _)] (.cons rfl .nil) (fun T L0 mz E I' loc' => ∃ (k : Nat), mz = x.n2 - k ∧ E = (3, .int .i64 k) :: T ∧ I1 = I' ∧ L0 = loc' ∧ k ≤ x.n2 ∧ (cr.ss.take k).any (fun s => decide ((s.who.length : Int) > 80) || decide ((s.needs.length : Int) > 80)) = false) _ _ _ _ ⟨0, rfl, rfl, rfl, rfl, Nat.zero_le _, rfl⟩ (.cons rfl (.cons rfl .nil)) (HLe.refl _) rfl ?_
 rintro mz E I' loc' ⟨k, rfl, rfl, rfl, rfl, hk, hno⟩
 refine X_seq ?_
 refine zR ?_
 refine zM ?_
 refine zF fld_28_5 ?_
 refine zV (ev_load rfl sct_26 (fun hg => by first | exact Cell.imm hbx rfl | exact Sl.get hH.1 hy (j := 2) rfl | exact Sl.get hH.1 hy (j := 3) rfl | (repeat (first | exact Cell.here rfl | apply Cell.there | apply Cell.app)))) ?_
 refine zQ slt_26 ?_
 refine zC ?_
 refine zN ?_
 refine zI ?_ ?_ <;> intro hc18
 ·
  have hlt_k : k < x.n2 := by have h := hc18; simp at h; omega
  obtain ⟨y, s, hy, hs9, q1, q2, hW, hN⟩ := hH.at hlt_k
  have hWl := hW.len
  have hNl := hN.len
  refine X_skip ?_
  refine at_then ?_
  refine X_seq ?_
  refine X_block ?_
  refine zR ?_
  refine zF fld_28_5 ?_
  refine zV (ev_load rfl sct_26 (fun hg => by first | exact Cell.imm hbx rfl | exact Sl.get hH.1 hy (j := 2) rfl | exact Sl.get hH.1 hy (j := 3) rfl | (repeat (first | exact Cell.here rfl | apply Cell.there | apply Cell.app)))) ?_
  refine zM ?_
  refine zV (ev_indexSl rfl rfl slt_26 hH.1 (fun hg => by first | omega | (simp [conj] at hg; omega))) ?_
  refine zF fld_40_2 ?_
  refine zV (ev_load rfl sct_24 (fun hg => by first | exact Cell.imm hbx rfl | exact Sl.get hH.1 hy (j := 2) rfl | exact Sl.get hH.1 hy (j := 3) rfl | (repeat (first | exact Cell.here rfl | apply Cell.there | apply Cell.app)))) ?_
  refine zQ slt_24 ?_
  refine zC ?_
  refine zM ?_
  refine XO_pushF 8 rfl rfl rfl ?_
  refine zJ (ev_fieldAddr rfl fld_28_5) ?_
  refine zJ (ev_load rfl sct_26 (fun hg => by first | exact Cell.imm hbx rfl | exact Sl.get hH.1 hy (j := 2) rfl | exact Sl.get hH.1 hy (j := 3) rfl | (repeat (first | exact Cell.here rfl | apply Cell.there | apply Cell.app)))) ?_
  refine zJ (ev_move rfl) ?_
  refine zJ (ev_indexSl rfl rfl slt_26 hH.1 (fun hg => by first | omega | (simp [conj] at hg; omega))) ?_
  refine zJ (ev_fieldAddr rfl fld_40_3) ?_
  refine zJ (ev_load rfl sct_24 (fun hg => by first | exact Cell.imm hbx rfl | exact Sl.get hH.1 hy (j := 2) rfl | exact Sl.get hH.1 hy (j := 3) rfl | (repeat (first | exact Cell.here rfl | apply Cell.there | apply Cell.app)))) ?_
  refine zJ (ev_lenS rfl slt_24) ?_
  refine zJ (ev_cmp rfl rfl rfl) ?_
  refine XO_or0 rfl rfl rfl rfl rfl ?_
  refine zN ?_
  refine zI ?_ ?_ <;> intro hc38
  ·
   have h2 : cr.ss.any (fun s => decide ((s.who.length : Int) > 80) || decide ((s.needs.length : Int) > 80)) = true := any_yes hs9 (by rw [hWl, hNl]; exact hc38)
   refine zR ?_
   refine zA ?_
   refine zN ?_
   refine X_ret ?_
   refine at_block_r ?_
   refine at_then_r ?_
   refine at_then_r ?_
   refine at_block_r ?_
   refine at_then_r ?_
   first
   | exact at_ret1 rfl rfl (fun w hw => ⟨by unfold fewC; rw [if_pos h1], (hw.mono hIc).drop⟩)
   | exact at_ret1 rfl rfl (fun w hw => ⟨by unfold fewC; rw [if_neg (by rw [h1]; decide), if_pos h2], (hw.mono hIc).drop⟩)
   | exact at_ret1 rfl rfl (fun w hw => ⟨by unfold fewC; rw [if_neg (by rw [h1]; decide), if_neg (by rw [hno]; decide), if_pos h3], (hw.mono hIc).drop⟩)
   | exact at_ret1 rfl rfl (fun w hw => ⟨by unfold fewC; rw [if_neg (by rw [h1]; decide), if_neg (by rw [hno]; decide), if_neg (by rw [h3]; decide)], (hw.mono hIc).drop⟩)
  refine X_skip ?_
  refine at_block_n ?_
  refine at_then ?_
  refine X_region ?_
  refine zM ?_
  refine zB ?_
  refine zA ?_
  refine XO_nil ?_
  exact at_met2 _ _ ⟨x.n2 - (k + 1), by omega, k + 1, rfl, rfl, rfl, rfl, by omega, any_no hs9 hno (by rw [hWl, hNl]; exact hc38)⟩ (.cons rfl (.cons rfl .nil)) (by repeat (first | exact .refl | exact subL_left | refine subL_app ?_ | refine .drop ?_ | refine subL_add ?_))
 have hge_k : x.n2 ≤ k := by have h := hc18; simp at h; omega
 rw [List.take_of_length_le (by omega)] at hno
 refine X_exit ?_
 refine at_then_e ?_
 refine at_then_e ?_
 refine at_block_hit ?_
 refine at_then ?_
 refine X_seq ?_
 refine zR ?_
 refine zF fld_28_0 ?_
 refine zV (ev_load rfl sct_24 (fun hg => by first | exact Cell.imm hbx rfl | exact Sl.get hH.1 hy (j := 2) rfl | exact Sl.get hH.1 hy (j := 3) rfl | (repeat (first | exact Cell.here rfl | apply Cell.there | apply Cell.app)))) ?_
 refine zQ slt_24 ?_
 refine zC ?_
 refine zM ?_
 refine XO_pushF 4 rfl rfl rfl ?_
 refine zJ (ev_fieldAddr rfl fld_28_5) ?_
 refine zJ (ev_load rfl sct_26 (fun hg => by first | exact Cell.imm hbx rfl | exact Sl.get hH.1 hy (j := 2) rfl | exact Sl.get hH.1 hy (j := 3) rfl | (repeat (first | exact Cell.here rfl | apply Cell.there | apply Cell.app)))) ?_
 refine zJ (ev_lenS rfl slt_26) ?_
 refine zJ (ev_cmp rfl rfl rfl) ?_
 refine XO_or0 rfl rfl rfl rfl rfl ?_
 refine zN ?_
 refine zI ?_ ?_ <;> intro hc48
 ·
  have h3 : (decide ((cr.days.length : Int) > 16) || decide ((cr.ss.length : Int) > 8)) = true := by rw [hlD, hlS]; exact hc48
  refine zR ?_
  refine zA ?_
  refine zN ?_
  refine X_ret ?_
  refine at_then_r ?_
  first
  | exact at_ret1 rfl rfl (fun w hw => ⟨by unfold fewC; rw [if_pos h1], (hw.mono hIc).drop⟩)
  | exact at_ret1 rfl rfl (fun w hw => ⟨by unfold fewC; rw [if_neg (by rw [h1]; decide), if_pos h2], (hw.mono hIc).drop⟩)
  | exact at_ret1 rfl rfl (fun w hw => ⟨by unfold fewC; rw [if_neg (by rw [h1]; decide), if_neg (by rw [hno]; decide), if_pos h3], (hw.mono hIc).drop⟩)
  | exact at_ret1 rfl rfl (fun w hw => ⟨by unfold fewC; rw [if_neg (by rw [h1]; decide), if_neg (by rw [hno]; decide), if_neg (by rw [h3]; decide)], (hw.mono hIc).drop⟩)
 have h3 : (decide ((cr.days.length : Int) > 16) || decide ((cr.ss.length : Int) > 8)) = false := by rw [hlD, hlS]; exact hc48
 have hsm3 := h3
 simp at hsm3
 refine X_skip ?_
 refine at_then ?_
 refine zR ?_
 refine zV (ev_loadA rfl agt_28 (fun hg => by first | exact Cells.immC hbx | (repeat (first | exact Cells.here | exact Cells.s0 (vs := [_, _, _, _, _, _]) rfl | apply Cells.there | apply Cells.app))) rfl) ?_
 refine XO_callV0 (cap := []) (vs := [_]) rfl rfl fun_38 (w_rPlans hC (by omega) (by omega)) rfl rfl ?_
 refine zC ?_
 refine zM ?_
 refine XO_pushF 3 rfl rfl rfl ?_
 refine zJ (ev_loadA rfl agt_28 (fun hg => by first | exact Cells.immC hbx | (repeat (first | exact Cells.here | exact Cells.s0 (vs := [_, _, _, _, _, _]) rfl | apply Cells.there | apply Cells.app))) rfl) ?_
 refine XO_callV1 (cap := []) (vs := [_]) rfl rfl fun_38 (fun hg => w_rPlans hC (by omega) (by omega)) (.some rfl rfl rfl rfl gbf) rfl rfl ?_
 refine zJ (ev_cmp rfl rfl rfl) ?_
 refine XO_or0 rfl rfl rfl rfl rfl ?_
 refine zA ?_
 refine zN ?_
 refine X_ret ?_
 first
 | exact at_ret1 rfl rfl (fun w hw => ⟨by unfold fewC; rw [if_pos h1], (hw.mono hIc).drop⟩)
 | exact at_ret1 rfl rfl (fun w hw => ⟨by unfold fewC; rw [if_neg (by rw [h1]; decide), if_pos h2], (hw.mono hIc).drop⟩)
 | exact at_ret1 rfl rfl (fun w hw => ⟨by unfold fewC; rw [if_neg (by rw [h1]; decide), if_neg (by rw [hno]; decide), if_pos h3], (hw.mono hIc).drop⟩)
 | exact at_ret1 rfl rfl (fun w hw => ⟨by unfold fewC; rw [if_neg (by rw [h1]; decide), if_neg (by rw [hno]; decide), if_neg (by rw [h3]; decide)], (hw.mono hIc).drop⟩)
end Go.Proofs.YtclkmnidgdkekaaGreat
end
section
namespace Go.Proofs.YtclkmnidgdkekaaGreat
open Go Go.Kn Go.Proofs
/-- Are a store, a target and versions small? -/
def fewS (ps : List Pt) (tg : List Int) (has : List (List Int)) : Bool :=
  if (((decide ((ps.length : Int) > 40) && (decide ((ps.length : Int) ≤ 512) || decide ((ps.length : Int) > 600))) || decide ((tg.length : Int) > 600)) || decide ((has.length : Int) > 20)) = true then false else
  if has.any (fun v => decide ((v.length : Int) > 600)) = true then false else !ps.any fun p => decide ((p.needs.length : Int) > 80)
theorem fewS_bd {ps : List Pt} {tg : List Int} {has : List (List Int)} (h : fewS ps tg has = true) : ps.length ≤ 600 ∧ tg.length ≤ 600 ∧ has.length ≤ 20 ∧ (∀ v ∈ has, v.length ≤ 600) ∧ ∀ p ∈ ps, p.needs.length ≤ 80 := by
  unfold fewS at h
  split at h
  · cases h
  · rename_i h1
    split at h
    · cases h
    · rename_i h2
      simp only [Bool.or_eq_true, Bool.and_eq_true, decide_eq_true_eq, not_or] at h1
      have h2 : has.any (fun v => decide ((v.length : Int) > 600)) = false := by simpa using h2
      have h3 : ps.any (fun p => decide ((p.needs.length : Int) > 80)) = false := by simpa using h
      refine ⟨by omega, by omega, by omega, fun v hv => ?_, fun p hp => ?_⟩
      · have := List.any_eq_false.1 h2 v hv; simp at this; omega
      · have := List.any_eq_false.1 h3 p hp; simp at this; omega
theorem goS_sml {g : Nat → Pr × Option (List Int)} (hg : ∀ d, smlP (g d).1) : ∀ (m d : Nat) (ks : List Pr), smlL ks → ks.length + m ≤ 100000 → smlP (goS g m d ks).1
  | 0, _, ks, h, hl => by unfold goS smlP; exact ⟨by omega, h⟩
  | m + 1, d, ks, h, hl => by
    cases e : (g d).2 with
    | some x => rw [goS_some e]; show smlP (.mk 0 0 0 ks); unfold smlP; exact ⟨by omega, h⟩
    | none =>
      rw [goS_none e]
      refine goS_sml hg m (d + 1) _ ?_ (by simp; omega)
      have app : ∀ l : List Pr, smlL l → smlL (l ++ [(g d).1]) := by
        intro l
        induction l with
        | nil => intro _; exact ⟨hg d, trivial⟩
        | cons a l ih => intro h; exact ⟨h.1, ih h.2⟩
      exact app ks h
theorem srch_sml {c : Cr} {last : Nat} (hl : last ≤ 100000) : ∀ (f : Nat) (pl : List Int), smlP (srch c last f pl).1
  | f, pl => by
    cases e : brkL c pl with
    | cons b l => rw [srch_leaf e]; show smlP (leafP b); unfold leafP smlP smlL; exact ⟨by simp, trivial⟩
    | nil =>
      cases f with
      | zero => rw [srch_full e]; show smlP (.mk 0 0 0 []); unfold smlP smlL; exact ⟨by simp, trivial⟩
      | succ f => rw [srch_step e]; exact goS_sml (fun d => srch_sml hl f _) _ _ _ trivial (by simpa using hl)
theorem zero_sml : smlP (.mk 0 0 0 []) := by unfold smlP smlL; exact ⟨by simp, trivial⟩
end Go.Proofs.YtclkmnidgdkekaaGreat
namespace Go.Proofs.YtclkmnidgdkekaaGreat
open Go Go.Kn Go.Proofs
end Go.Proofs.YtclkmnidgdkekaaGreat
namespace Go.Proofs.YtclkmnidgdkekaaGreat
open Go Go.Kn Go.Proofs
end Go.Proofs.YtclkmnidgdkekaaGreat
end
section
namespace Go.Proofs.YtclkmnidgdkekaaGreat
open Go Go.Kn Go.Proofs
theorem w_rFewS {I : HMap} {av : Option Addr} {n c : Nat} {ps : List Pt} (hP : SlP I av n c ps) {bv : Option Addr} {n2 c2 : Nat} {tg : List Int} (hT : Sl I 1 encI bv n2 c2 tg) {dv : Option Addr} {n3 c3 : Nat} {hsh : List Hd} {has : List (List Int)} (hV : SlHA I 1 encI dv n3 c3 hsh has) : RetV Tryz.prog 5 [.slice av n c, .slice bv n2 c2, .slice dv n3 c3] I (.bool (fewS ps tg has)) := by
 intro g H w hw
 refine enter Tryz.func5 rfl Tryz.ntmps5 rfl hw ?_
 have hlP := hP.1.len
 have hlT := hT.len
 have hlV := hV.len
 refine zR ?_
 refine zA ?_
 refine zN ?_
 refine X_seq ?_
 refine zR ?_
 refine zM ?_
 refine zQ slt_22 ?_
 refine zC ?_
 refine zM ?_
 refine XO_pushT 3 rfl rfl rfl ?_
 refine zK (ev_move rfl) ?_
 refine zK (ev_lenS rfl slt_22) ?_
 refine zK (ev_cmp rfl rfl rfl) ?_
 refine zK (ev_move rfl) ?_
 refine XO_pushF 7 rfl rfl rfl ?_
 refine zJ (ev_move rfl) ?_
 refine zJ (ev_lenS rfl slt_22) ?_
 refine zJ (ev_cmp rfl rfl rfl) ?_
 refine XO_or1 rfl rfl rfl (.some rfl rfl rfl rfl gbt) rfl rfl ?_
 refine XO_and0 rfl rfl rfl rfl rfl ?_
 refine zM ?_
 refine XO_pushF 13 rfl rfl rfl ?_
 refine zJ (ev_move rfl) ?_
 refine zJ (ev_lenS rfl slt_24) ?_
 refine zJ (ev_cmp rfl rfl rfl) ?_
 refine XO_or0 rfl rfl rfl rfl rfl ?_
 refine zM ?_
 refine XO_pushF 18 rfl rfl rfl ?_
 refine zJ (ev_move rfl) ?_
 refine zJ (ev_lenS rfl slt_23) ?_
 refine zJ (ev_cmp rfl rfl rfl) ?_
 refine XO_or0 rfl rfl rfl rfl rfl ?_
 refine zN ?_
 refine zI ?_ ?_ <;> intro hc31
 ·
  have h1 : (((decide ((ps.length : Int) > 40) && (decide ((ps.length : Int) ≤ 512) || decide ((ps.length : Int) > 600))) || decide ((tg.length : Int) > 600)) || decide ((has.length : Int) > 20)) = true := by rw [hlP, hlT, hlV]; exact hc31
  refine zR ?_
  refine zA ?_
  refine zN ?_
  refine X_ret ?_
  refine at_then_r ?_
  first
  | exact at_ret1 rfl rfl (fun w hw => ⟨by unfold fewS; rw [if_pos h1], hw.drop⟩)
  | exact at_ret1 rfl rfl (fun w hw => ⟨by unfold fewS; rw [if_neg (by rw [h1]; decide), if_pos h2], hw.drop⟩)
  | exact at_ret1 rfl rfl (fun w hw => ⟨by unfold fewS; rw [if_neg (by rw [h1]; decide), if_neg (by rw [hno]; decide), h3]; rfl, hw.drop⟩)
  | exact at_ret1 rfl rfl (fun w hw => ⟨by unfold fewS; rw [if_neg (by rw [h1]; decide), if_neg (by rw [hno]; decide), hno2]; rfl, hw.drop⟩)
 have h1 : (((decide ((ps.length : Int) > 40) && (decide ((ps.length : Int) ≤ 512) || decide ((ps.length : Int) > 600))) || decide ((tg.length : Int) > 600)) || decide ((has.length : Int) > 20)) = false := by rw [hlP, hlT, hlV]; exact hc31
 have h1s := h1
 simp at h1s
 refine X_skip ?_
 refine at_then ?_
 refine X_seq ?_
 refine zR ?_
 refine zA ?_
 refine zN ?_
 refine X_block ?_
 refine X_loopT [(0, _), (2, _)] (.cons rfl (.cons rfl .nil)) (fun T L0 mz E I' loc' => ∃ (k : Nat), mz = n3 - k ∧ E = (7, .int .i64 k) :: T ∧ I = I' ∧ L0 = loc' ∧ k ≤ n3 ∧ (has.take k).any (fun v => decide ((v.length : Int) > 600)) = false) _ _ _ _ ⟨0, rfl, rfl, rfl, rfl, Nat.zero_le _, rfl⟩ (.cons rfl (.cons rfl (.cons rfl .nil))) (HLe.refl _) rfl ?_
 rintro mz E I' loc' ⟨k, rfl, rfl, rfl, rfl, hk, hno⟩
 refine X_seq ?_
 refine zR ?_
 refine zM ?_
 refine zM ?_
 refine zQ slt_23 ?_
 refine zC ?_
 refine zN ?_
 refine zI ?_ ?_ <;> intro hc35
 ·
  have hlt_k : k < n3 := by have h := hc35; simp at h; omega
  obtain ⟨h0, v0, hh0, hv0, hS0⟩ := hV.at hlt_k
  have hl0 := hS0.len
  refine X_skip ?_
  refine at_then ?_
  refine X_seq ?_
  refine X_block ?_
  refine zR ?_
  refine zM ?_
  refine zM ?_
  refine zV (ev_indexSl rfl rfl slt_23 hV.1 (fun hg => by first | omega | (simp [conj] at hg; omega))) ?_
  refine zV (ev_load rfl sct_24 (fun hg => by first | exact Sl.get0 hV.1 hh0 rfl | exact Sl.get hP.1 hp (j := 18) rfl | (repeat (first | exact Cell.here rfl | apply Cell.there | apply Cell.app)))) ?_
  refine zQ slt_24 ?_
  refine zC ?_
  refine zN ?_
  refine zI ?_ ?_ <;> intro hc43
  ·
   have h2 : has.any (fun v => decide ((v.length : Int) > 600)) = true := any_yes hv0 (by rw [hl0]; exact hc43)
   refine zR ?_
   refine zA ?_
   refine zN ?_
   refine X_ret ?_
   refine at_block_r ?_
   refine at_then_r ?_
   refine at_then_r ?_
   refine at_block_r ?_
   refine at_then_r ?_
   first
   | exact at_ret1 rfl rfl (fun w hw => ⟨by unfold fewS; rw [if_pos h1], hw.drop⟩)
   | exact at_ret1 rfl rfl (fun w hw => ⟨by unfold fewS; rw [if_neg (by rw [h1]; decide), if_pos h2], hw.drop⟩)
   | exact at_ret1 rfl rfl (fun w hw => ⟨by unfold fewS; rw [if_neg (by rw [h1]; decide), if_neg (by rw [hno]; decide), h3]; rfl, hw.drop⟩)
   | exact at_ret1 rfl rfl (fun w hw => ⟨by unfold fewS; rw [if_neg (by rw [h1]; decide), if_neg (by rw [hno]; decide), hno2]; rfl, hw.drop⟩)
  refine X_skip ?_
  refine at_block_n ?_
  refine at_then ?_
  refine X_region ?_
  refine zM ?_
  refine zB ?_
  refine zA ?_
  refine XO_nil ?_
  exact at_met2 _ _ ⟨n3 - (k + 1), by omega, k + 1, rfl, rfl, rfl, rfl, by omega, any_no hv0 hno (by rw [hl0]; exact hc43)⟩ (.cons rfl (.cons rfl (.cons rfl .nil))) (by repeat (first | exact .refl | exact subL_left | refine subL_app ?_ | refine .drop ?_ | refine subL_add ?_))
 have hge_k : n3 ≤ k := by have h := hc35; simp at h; omega
 rw [take_all hlV hge_k] at hno
 refine X_exit ?_
 refine at_then_e ?_
 refine at_then_e ?_
 refine at_block_hit ?_
 refine at_then ?_
 refine X_seq ?_
 refine zR ?_
 refine zA ?_
 refine zN ?_
 refine X_block ?_
 refine X_loopT [(0, _)] (.cons rfl .nil) (fun T L0 mz E I' loc' => ∃ (k : Nat), mz = n - k ∧ E = (8, .int .i64 k) :: T ∧ I = I' ∧ L0 = loc' ∧ k ≤ n ∧ (ps.take k).any (fun p => decide ((p.needs.length : Int) > 80)) = false) _ _ _ _ ⟨0, rfl, rfl, rfl, rfl, Nat.zero_le _, rfl⟩ (.cons rfl (.cons rfl .nil)) (HLe.refl _) rfl ?_
 rintro mz E I' loc' ⟨k, rfl, rfl, rfl, rfl, hk, hno2⟩
 refine X_seq ?_
 refine zR ?_
 refine zM ?_
 refine zM ?_
 refine zQ slt_22 ?_
 refine zC ?_
 refine zN ?_
 refine zI ?_ ?_ <;> intro hc47
 ·
  have hlt_k : k < n := by have h := hc47; simp at h; omega
  obtain ⟨p, hp, hN⟩ := hP.at hlt_k
  have hlN := Sl.len hN
  refine X_skip ?_
  refine at_then ?_
  refine X_seq ?_
  refine X_block ?_
  refine zR ?_
  refine zM ?_
  refine zM ?_
  refine zV (ev_indexSl rfl rfl slt_22 hP.1 (fun hg => by first | omega | (simp [conj] at hg; omega))) ?_
  refine zF fld_66_5 ?_
  refine zV (ev_load rfl sct_24 (fun hg => by first | exact Sl.get0 hV.1 hh0 rfl | exact Sl.get hP.1 hp (j := 18) rfl | (repeat (first | exact Cell.here rfl | apply Cell.there | apply Cell.app)))) ?_
  refine zQ slt_24 ?_
  refine zC ?_
  refine zN ?_
  refine zI ?_ ?_ <;> intro hc56
  ·
   have h3 : ps.any (fun p => decide ((p.needs.length : Int) > 80)) = true := any_yes hp (by rw [hlN]; exact hc56)
   refine zR ?_
   refine zA ?_
   refine zN ?_
   refine X_ret ?_
   refine at_block_r ?_
   refine at_then_r ?_
   refine at_then_r ?_
   refine at_block_r ?_
   refine at_then_r ?_
   first
   | exact at_ret1 rfl rfl (fun w hw => ⟨by unfold fewS; rw [if_pos h1], hw.drop⟩)
   | exact at_ret1 rfl rfl (fun w hw => ⟨by unfold fewS; rw [if_neg (by rw [h1]; decide), if_pos h2], hw.drop⟩)
   | exact at_ret1 rfl rfl (fun w hw => ⟨by unfold fewS; rw [if_neg (by rw [h1]; decide), if_neg (by rw [hno]; decide), h3]; rfl, hw.drop⟩)
   | exact at_ret1 rfl rfl (fun w hw => ⟨by unfold fewS; rw [if_neg (by rw [h1]; decide), if_neg (by rw [hno]; decide), hno2]; rfl, hw.drop⟩)
  refine X_skip ?_
  refine at_block_n ?_
  refine at_then ?_
  refine X_region ?_
  refine zM ?_
  refine zB ?_
  refine zA ?_
  refine XO_nil ?_
  exact at_met2 _ _ ⟨n - (k + 1), by omega, k + 1, rfl, rfl, rfl, rfl, by omega, any_no hp hno2 (by rw [hlN]; exact hc56)⟩ (.cons rfl (.cons rfl .nil)) (by repeat (first | exact .refl | exact subL_left | refine subL_app ?_ | refine .drop ?_ | refine subL_add ?_))
 have hge_k : n ≤ k := by have h := hc47; simp at h; omega
 rw [take_all hlP hge_k] at hno2
 refine X_exit ?_
 refine at_then_e ?_
 refine at_then_e ?_
 refine at_block_hit ?_
 refine at_then ?_
 refine zR ?_
 refine zA ?_
 refine zN ?_
 refine X_ret ?_
 first
 | exact at_ret1 rfl rfl (fun w hw => ⟨by unfold fewS; rw [if_pos h1], hw.drop⟩)
 | exact at_ret1 rfl rfl (fun w hw => ⟨by unfold fewS; rw [if_neg (by rw [h1]; decide), if_pos h2], hw.drop⟩)
 | exact at_ret1 rfl rfl (fun w hw => ⟨by unfold fewS; rw [if_neg (by rw [h1]; decide), if_neg (by rw [hno]; decide), h3]; rfl, hw.drop⟩)
 | exact at_ret1 rfl rfl (fun w hw => ⟨by unfold fewS; rw [if_neg (by rw [h1]; decide), if_neg (by rw [hno]; decide), hno2]; rfl, hw.drop⟩)
end Go.Proofs.YtclkmnidgdkekaaGreat
end
section
namespace Go.Proofs.YtclkmnidgdkekaaGreat.L
open Go Go.Kn Go.Proofs
theorem agt_55 : AgT Tryz.prog 55 5 := .of (by kernel_rfl)
theorem agt_70 : AgT Tryz.prog 70 5 := .of (by kernel_rfl)
theorem elt_25 : ElT Tryz.prog 25 55 5 40 := .of (by kernel_rfl)
theorem fld_55_0 : FieldAt Tryz.prog 55 0 0 := .of (by kernel_rfl)
theorem fld_55_1 : FieldAt Tryz.prog 55 1 1 := .of (by kernel_rfl)
theorem fld_55_2 : FieldAt Tryz.prog 55 2 2 := .of (by kernel_rfl)
theorem fld_55_3 : FieldAt Tryz.prog 55 3 3 := .of (by kernel_rfl)
theorem fld_55_4 : FieldAt Tryz.prog 55 4 4 := .of (by kernel_rfl)
theorem fld_70_0 : FieldAt Tryz.prog 70 0 0 := .of (by kernel_rfl)
theorem fld_70_1 : FieldAt Tryz.prog 70 1 1 := .of (by kernel_rfl)
theorem fld_70_2 : FieldAt Tryz.prog 70 2 2 := .of (by kernel_rfl)
theorem fld_70_3 : FieldAt Tryz.prog 70 3 3 := .of (by kernel_rfl)
theorem fld_70_4 : FieldAt Tryz.prog 70 4 4 := .of (by kernel_rfl)
theorem fun_17 : Fun Tryz.prog 17 := .of Tryz.func17 (by kernel_rfl) (by kernel_rfl)
theorem fun_18 : Fun Tryz.prog 18 := .of Tryz.func18 (by kernel_rfl) (by kernel_rfl)
theorem fun_19 : Fun Tryz.prog 19 := .of Tryz.func19 (by kernel_rfl) (by kernel_rfl)
theorem fun_20 : Fun Tryz.prog 20 := .of Tryz.func20 (by kernel_rfl) (by kernel_rfl)
theorem fun_21 : Fun Tryz.prog 21 := .of Tryz.func21 (by kernel_rfl) (by kernel_rfl)
theorem fun_32 : Fun Tryz.prog 32 := .of Tryz.func32 (by kernel_rfl) (by kernel_rfl)
theorem fun_33 : Fun Tryz.prog 33 := .of Tryz.func33 (by kernel_rfl) (by kernel_rfl)
theorem fun_34 : Fun Tryz.prog 34 := .of Tryz.func34 (by kernel_rfl) (by kernel_rfl)
theorem fun_35 : Fun Tryz.prog 35 := .of Tryz.func35 (by kernel_rfl) (by kernel_rfl)
theorem fun_36 : Fun Tryz.prog 36 := .of Tryz.func36 (by kernel_rfl) (by kernel_rfl)
theorem fun_37 : Fun Tryz.prog 37 := .of Tryz.func37 (by kernel_rfl) (by kernel_rfl)
theorem fun_45 : Fun Tryz.prog 45 := .of Tryz.func45 (by kernel_rfl) (by kernel_rfl)
theorem fun_46 : Fun Tryz.prog 46 := .of Tryz.func46 (by kernel_rfl) (by kernel_rfl)
theorem fun_47 : Fun Tryz.prog 47 := .of Tryz.func47 (by kernel_rfl) (by kernel_rfl)
theorem fun_49 : Fun Tryz.prog 49 := .of Tryz.func49 (by kernel_rfl) (by kernel_rfl)
theorem fun_50 : Fun Tryz.prog 50 := .of Tryz.func50 (by kernel_rfl) (by kernel_rfl)
theorem fun_51 : Fun Tryz.prog 51 := .of Tryz.func51 (by kernel_rfl) (by kernel_rfl)
theorem fun_52 : Fun Tryz.prog 52 := .of Tryz.func52 (by kernel_rfl) (by kernel_rfl)
theorem fun_53 : Fun Tryz.prog 53 := .of Tryz.func53 (by kernel_rfl) (by kernel_rfl)
theorem fun_66 : Fun Tryz.prog 66 := .of Tryz.func66 (by kernel_rfl) (by kernel_rfl)
theorem fun_7 : Fun Tryz.prog 7 := .of Tryz.func7 (by kernel_rfl) (by kernel_rfl)
theorem fun_84 : Fun Tryz.prog 84 := .of Tryz.func84 (by kernel_rfl) (by kernel_rfl)
theorem mpt_71 : MpT Tryz.prog 71 3 70 (.agg #[(.int .i64 0), (.int .i64 0), (.int .i64 0), (.int .i64 0), (.int .i64 0)]) := ⟨by kernel_rfl, .of (by kernel_rfl)⟩
theorem sct_105 : ScT Tryz.prog 105 := .of (by kernel_rfl)
theorem sct_25 : ScT Tryz.prog 25 := .of (by kernel_rfl)
theorem sct_71 : ScT Tryz.prog 71 := .of (by kernel_rfl)
theorem slt_25 : SlT Tryz.prog 25 55 5 := .of (by kernel_rfl)
theorem szt_105 : SzT Tryz.prog 105 1 := .of (by kernel_rfl)
theorem szt_55 : SzT Tryz.prog 55 5 := .of (by kernel_rfl)
theorem szt_70 : SzT Tryz.prog 70 5 := .of (by kernel_rfl)
theorem szt_71 : SzT Tryz.prog 71 1 := .of (by kernel_rfl)
theorem vfl_70_2 : FieldV Tryz.prog 70 2 2 := .of (by kernel_rfl)
theorem zt_105 : ZeroT Tryz.prog 105 .nilFunc := .of (by kernel_rfl)
theorem zt_55 : ZeroT Tryz.prog 55 (.agg #[(.int .i64 0), (.int .i64 0), (.int .i64 0), (.int .i64 0), (.int .i64 0)]) := .of (by kernel_rfl)
theorem zt_70 : ZeroT Tryz.prog 70 (.agg #[(.int .i64 0), (.int .i64 0), (.int .i64 0), (.int .i64 0), (.int .i64 0)]) := .of (by kernel_rfl)
theorem zt_71 : ZeroT Tryz.prog 71 (.map none) := .of (by kernel_rfl)
end Go.Proofs.YtclkmnidgdkekaaGreat.L
end
section
namespace Go.Proofs.YtclkmnidgdkekaaGreat.L
open Go Go.Kn Go.Proofs
structure Ls where
  no : Int
  person : Int
  version : Int
  at_ : Int
  known : Int
def encL (x : Ls) : List Value := [.int .i64 x.no, .int .i64 x.person, .int .i64 x.version, .int .i64 x.at_, .int .i64 x.known]
def encA (x : Ls) : Value := .agg (encL x).toArray
def zeroL : Ls := ⟨0, 0, 0, 0, 0⟩
theorem encL_len (x : Ls) : (encL x).length = 5 := rfl
theorem one_L (xs : List Ls) : allOne (xs.flatMap encL) = true := allOne_flat (fun _ => rfl) xs
def lsEq (x y : Ls) : Bool := x.no == y.no && (x.person == y.person && (x.version == y.version && (x.at_ == y.at_ && (x.known == y.known && true))))
theorem lsEq_iff {x y : Ls} : lsEq x y = true ↔ x = y := by
  obtain ⟨a, b, c, d, e⟩ := x
  obtain ⟨a', b', c', d', e'⟩ := y
  simp [lsEq]
instance : DecidableEq Ls := fun a b => decidable_of_iff (lsEq a b = true) lsEq_iff
def rightF (x : Ls) : Bool := within x.no 0 1048576 && within x.person 0 63 && within x.version 0 512 && within x.at_ 0 73048 && within x.known 0 134217727
def prevL (xs : List Ls) (i : Nat) : Ls := xs.getD ((i : Int) - 1).toNat zeroL
/-- The i-th lesson is right and behind the one before. -/
def ckP (xs : List Ls) (i : Nat) : Bool := !(!rightF (xs.getD i zeroL) || (decide ((i : Int) > 0) && decide ((xs.getD i zeroL).no ≤ (prevL xs i).no)))
def ckB (xs : List Ls) : Bool := (List.range xs.length).all (ckP xs)
def chk (xs : List Ls) : Int := if xs.length > 4096 then 2 else if ckB xs then 0 else 390
def thenF (day time : Int) : Bool := within day 0 73048 && within time 0 134217727
def laterF (a b : Ls) : Bool := if a.at_ ≠ b.at_ then decide (a.at_ > b.at_) else if a.known ≠ b.known then decide (a.known > b.known) else decide (a.no > b.no)
def eligF (person day time : Int) (x : Ls) : Bool := x.person == person && decide (x.known ≤ time) && decide (x.at_ ≤ day)
def bestO (b : Option Ls) (x : Ls) : Bool := match b with | none => true | some y => laterF x y
def bestF (person day time : Int) (b : Option Ls) (x : Ls) : Option Ls := if eligF person day time x && bestO b x then some x else b
def hasO (xs : List Ls) (person day time : Int) : Option Ls := xs.foldl (bestF person day time) none
def verF (b : Option Ls) : Int := match b with | none => 0 | some x => x.version
def hasF (xs : List Ls) (person day time : Int) : Int := verF (hasO xs person day time)
def hasE (chkv person day time : Int) : Int := if chkv ≠ 0 then chkv else if !within person 0 63 || !thenF day time then 1 else 0
def castE (chkv version day time : Int) : Int := if chkv ≠ 0 then chkv else if !within version 1 512 || !thenF day time then 1 else 0
def castF (xs : List Ls) (version day time : Int) : List Int := ((List.range 64).map (fun p : Nat => (p : Int))).filter (fun p => hasF xs p day time == version)
def insF (xs : List Ls) (x : Ls) : List Ls := xs.takeWhile (fun y => decide (y.no < x.no)) ++ x :: xs.dropWhile (fun y => decide (y.no < x.no))
def addE (xs : List Ls) (x : Ls) : Int := if chk xs ≠ 0 then chk xs else if !rightF x then 390 else if xs.any (fun y => y.no == x.no) then 171 else if xs.length = 4096 then 2 else 0
def addF (xs : List Ls) (x : Ls) : List Ls := resF (addE xs x) (insF xs x)
def hasV (xs : List Ls) (person day time : Int) : Int := if hasE (chk xs) person day time ≠ 0 then 0 else hasF xs person day time
/-- A version's form. -/
def vP (v : List Int) (i : Nat) : Bool := !(!within (v.getD i 0) 1 1048576 || (decide ((i : Int) > 0) && decide (v.getD i 0 ≤ v.getD ((i : Int) - 1).toNat 0)))
def verB (v : List Int) : Bool := (List.range v.length).all (vP v)
def lessF (a b : List Int) : List Int := a.filter fun n => !b.any (fun m => n == m)
def gapE (xs : List Ls) (vss : List (List Int)) (person day time : Int) (target : List Int) : Int :=
  if chk xs ≠ 0 then chk xs else if vss.length > 512 || target.length > 512 || vss.any (fun v => decide (v.length > 512)) then 2
  else if !(verB target && vss.all verB) then 390 else if hasE 0 person day time ≠ 0 then hasE 0 person day time else if hasF xs person day time > vss.length then 390 else 0
def ownF (xs : List Ls) (vss : List (List Int)) (person day time : Int) : List Int := if hasF xs person day time > 0 then vss.getD (hasF xs person day time - 1).toNat [] else []
def fewP (v : List Int) : Bool := !((decide ((v.length : Int) > 40) && decide ((v.length : Int) ≤ 512)) || decide ((v.length : Int) > 600))
def fewF (xs : List Ls) (vss : List (List Int)) (target : List Int) : Bool :=
  !(((((((decide ((xs.length : Int) > 60) && decide ((xs.length : Int) ≤ 4096)) || decide ((xs.length : Int) > 5000)) || (decide ((vss.length : Int) > 20) && decide ((vss.length : Int) ≤ 512))) || decide ((vss.length : Int) > 600)) || (decide ((target.length : Int) > 40) && decide ((target.length : Int) ≤ 512))) || decide ((target.length : Int) > 600))) &&
  vss.all fewP
/-- Two slices of numbers and an error. -/
def GpE (e : Int) (a b : List Int) : Value → HMap → Go.Kn.Loc → Prop := fun v I' L => L = [] ∧ ∃ av n c bv m d, v = .tuple #[.slice av n c, .slice bv m d, .int .i64 e] ∧ Sl I' 1 encI av n c a ∧ Sl I' 1 encI bv m d b
theorem GpE.bad {I : HMap} {e e' : Int} {a b : List Int} (he : e = e') (h0 : e' ≠ 0) : GpE e (resF e a) (resF e b) (.tuple #[.slice none 0 0, .slice none 0 0, .int .i64 e']) I [] := by
  subst he
  unfold resF
  rw [if_pos h0, if_pos h0]
  exact ⟨rfl, _, _, _, _, _, _, rfl, .nil, .nil⟩
theorem GpE.good {I : HMap} {e : Int} {a b a' b' : List Int} {av bv : Option Addr} {n c m d : Nat} (he : e = 0) (ha : a = a') (hb : b = b') (hA : Sl I 1 encI av n c a') (hB : Sl I 1 encI bv m d b') : GpE e (resF e a) (resF e b) (.tuple #[.slice av n c, .slice bv m d, .int .i64 0]) I [] := by
  subst he; subst ha; subst hb
  exact ⟨rfl, _, _, _, _, _, _, rfl, hA, hB⟩
theorem hasE_chk {c person day time : Int} (h : c ≠ 0) : hasE c person day time = c := by unfold hasE; rw [if_pos h]
theorem hasE_arg {c person day time : Int} (h : c = 0) (h2 : (!within person 0 63 || !thenF day time) = true) : hasE c person day time = 1 := by unfold hasE; rw [if_neg (by omega), if_pos h2]
theorem hasE_ok {c person day time : Int} (h : c = 0) (h2 : (!within person 0 63 || !thenF day time) = false) : hasE c person day time = 0 := by unfold hasE; rw [if_neg (by omega), h2]; rfl
theorem castE_chk {c version day time : Int} (h : c ≠ 0) : castE c version day time = c := by unfold castE; rw [if_pos h]
theorem castE_arg {c version day time : Int} (h : c = 0) (h2 : (!within version 1 512 || !thenF day time) = true) : castE c version day time = 1 := by unfold castE; rw [if_neg (by omega), if_pos h2]
theorem castE_ok {c version day time : Int} (h : c = 0) (h2 : (!within version 1 512 || !thenF day time) = false) : castE c version day time = 0 := by unfold castE; rw [if_neg (by omega), h2]; rfl
theorem addE_chk {xs : List Ls} {x : Ls} (h : chk xs ≠ 0) : addE xs x = chk xs := by unfold addE; rw [if_pos h]
theorem addE_right {xs : List Ls} {x : Ls} (h : chk xs = 0) (h2 : rightF x = false) : addE xs x = 390 := by unfold addE; rw [if_neg (by omega), h2]; rfl
theorem addE_twice {xs : List Ls} {x : Ls} (h : chk xs = 0) (h2 : rightF x = true) (h3 : xs.any (fun y => y.no == x.no) = true) : addE xs x = 171 := by unfold addE; rw [if_neg (by omega), h2, h3]; rfl
theorem addE_full {xs : List Ls} {x : Ls} (h : chk xs = 0) (h2 : rightF x = true) (h3 : xs.any (fun y => y.no == x.no) = false) (h4 : xs.length = 4096) : addE xs x = 2 := by unfold addE; rw [if_neg (by omega), h2, h3, if_pos h4]; rfl
theorem addE_ok {xs : List Ls} {x : Ls} (h : chk xs = 0) (h2 : rightF x = true) (h3 : xs.any (fun y => y.no == x.no) = false) (h4 : xs.length ≠ 4096) : addE xs x = 0 := by unfold addE; rw [if_neg (by omega), h2, h3, if_neg h4]; rfl
section
variable {xs : List Ls} {vss : List (List Int)} {person day time : Int} {ts : List Int}
theorem gapE_chk (h : chk xs ≠ 0) : gapE xs vss person day time ts = chk xs := by unfold gapE; rw [if_pos h]
theorem gapE_many (h : chk xs = 0) (h2 : (vss.length > 512 ∨ ts.length > 512) ∨ vss.any (fun v => decide (v.length > 512)) = true) : gapE xs vss person day time ts = 2 := by
  unfold gapE
  rw [if_neg (by omega), if_pos (by simpa [or_assoc] using h2)]
theorem gapE_form (h : chk xs = 0) (h2 : ¬ ((vss.length > 512 ∨ ts.length > 512) ∨ vss.any (fun v => decide (v.length > 512)) = true)) (h3 : (verB ts && vss.all verB) = false) : gapE xs vss person day time ts = 390 := by
  unfold gapE
  rw [if_neg (by omega), if_neg (by simpa [or_assoc] using h2), h3]; rfl
theorem gapE_arg (h : chk xs = 0) (h2 : ¬ ((vss.length > 512 ∨ ts.length > 512) ∨ vss.any (fun v => decide (v.length > 512)) = true)) (h3 : (verB ts && vss.all verB) = true) (h4 : hasE 0 person day time ≠ 0) : gapE xs vss person day time ts = hasE 0 person day time := by
  unfold gapE
  rw [if_neg (by omega), if_neg (by simpa [or_assoc] using h2), h3, if_pos h4]; rfl
theorem gapE_high (h : chk xs = 0) (h2 : ¬ ((vss.length > 512 ∨ ts.length > 512) ∨ vss.any (fun v => decide (v.length > 512)) = true)) (h3 : (verB ts && vss.all verB) = true) (h4 : hasE 0 person day time = 0) (h5 : hasF xs person day time > vss.length) : gapE xs vss person day time ts = 390 := by
  unfold gapE
  rw [if_neg (by omega), if_neg (by simpa [or_assoc] using h2), h3, if_neg (show ¬ ((!true) = true) by decide), if_neg (by omega), if_pos h5]
theorem gapE_ok (h : chk xs = 0) (h2 : ¬ ((vss.length > 512 ∨ ts.length > 512) ∨ vss.any (fun v => decide (v.length > 512)) = true)) (h3 : (verB ts && vss.all verB) = true) (h4 : hasE 0 person day time = 0) (h5 : ¬ hasF xs person day time > vss.length) : gapE xs vss person day time ts = 0 := by
  unfold gapE
  rw [if_neg (by omega), if_neg (by simpa [or_assoc] using h2), h3, if_neg (show ¬ ((!true) = true) by decide), if_neg (by omega), if_neg h5]
theorem hasV_ok (h : chk xs = 0) (h4 : hasE 0 person day time = 0) : hasV xs person day time = hasF xs person day time := by unfold hasV; rw [h, if_neg (by omega)]
theorem own_pos {v : List Int} (h : hasF xs person day time > 0) (hv : vss[(hasF xs person day time - 1).toNat]? = some v) : ownF xs vss person day time = v := by unfold ownF; rw [if_pos h, getD_of hv]
theorem own_zero (h : ¬ hasF xs person day time > 0) : ownF xs vss person day time = [] := by unfold ownF; rw [if_neg h]
end
theorem bad_add {I : HMap} {xs : List Ls} {x : Ls} {e' : Int} (h : addE xs x = e') (h0 : e' ≠ 0) : SlE 5 encL (addF xs x) (addE xs x) (.tuple #[.slice none 0 0, .int .i64 e']) I [] := .bad h (by unfold addF; exact resF_bad (by rw [h]; exact h0))
theorem chk_ok {xs : List Ls} (h : chk xs = 0) : xs.length ≤ 4096 ∧ ckB xs = true := by
  unfold chk at h
  split at h
  · cases h
  · split at h
    · rename_i h1 h2; exact ⟨by omega, h2⟩
    · cases h
theorem ckB_at {xs : List Ls} (h : ckB xs = true) {k : Nat} (hk : k < xs.length) : ckP xs k = true := by
  unfold ckB at h
  rw [List.all_eq_true] at h
  exact h k (List.mem_range.2 hk)
theorem ckB_right {xs : List Ls} (h : ckB xs = true) {x : Ls} (hx : x ∈ xs) : rightF x = true := by
  obtain ⟨k, hk⟩ := List.getElem?_of_mem hx
  have h1 := ckB_at h (List.getElem?_eq_some_iff.1 hk).1
  unfold ckP at h1
  rw [getD_of hk] at h1
  simp at h1
  exact h1.1
theorem ckB_sorted {xs : List Ls} (h : ckB xs = true) : xs.Pairwise (fun a b => a.no < b.no) :=
  pair_of_next (R := fun a b : Ls => a.no < b.no) (fun a b c h1 h2 => Int.lt_trans h1 h2) fun k hk => by
    have h1 := ckB_at h hk
    unfold ckP prevL at h1
    have e1 : xs.getD (k + 1) zeroL = xs[k + 1] := by simp [List.getD, hk]
    have e2 : xs.getD (((k + 1 : Nat) : Int) - 1).toNat zeroL = xs[k]'(by omega) := by
      rw [show (((k + 1 : Nat) : Int) - 1).toNat = k by omega]; simp [List.getD, show k < xs.length by omega]
    rw [e1, e2] at h1
    simp at h1
    have := h1.2
    omega
theorem add_miss {xs : List Ls} {x : Ls} (hc : ckB xs = true) {k : Nat} (h : (xs.take k).all (fun y => decide (y.no < x.no)) = true) (h2 : ∀ y, xs[k]? = some y → x.no < y.no) : xs.any (fun y => y.no == x.no) = false := by
  rw [List.any_eq_false]
  intro y hy e
  have e : y.no = x.no := by simpa using e
  obtain ⟨i, hi⟩ := List.getElem?_of_mem hy
  obtain ⟨hil, hie⟩ := List.getElem?_eq_some_iff.1 hi
  by_cases hik : i < k
  · rw [List.all_eq_true] at h
    have := h y (by rw [List.mem_iff_getElem?]; exact ⟨i, by rw [List.getElem?_take_of_lt hik]; exact hi⟩)
    simp at this; omega
  · have hkl : k < xs.length := by omega
    have h3 := h2 _ (List.getElem?_eq_getElem hkl)
    by_cases e2 : i = k
    · subst e2; rw [hie] at h3; omega
    · have := List.pairwise_iff_getElem.1 (ckB_sorted hc) k i hkl hil (by omega)
      rw [hie] at this; omega
end Go.Proofs.YtclkmnidgdkekaaGreat.L
end
section
namespace Go.Proofs.YtclkmnidgdkekaaGreat.L
open Go Go.Kn Go.Proofs
theorem w_within (I : HMap) (n lo hi : Int) : RetV Tryz.prog 19 [.int .i64 n, .int .i64 lo, .int .i64 hi] I (.bool (within n lo hi)) := by
 intro g H w hw
 refine enter Tryz.func19 rfl Tryz.ntmps19 rfl hw ?_
 refine zR ?_
 refine zA ?_
 refine zN (zR ?_)
 refine zM ?_
 refine zM ?_
 refine zC ?_
 refine zM ?_
 refine XO_pushT 3 rfl rfl rfl ?_
 refine zK (ev_move rfl) ?_
 refine zK (ev_move rfl) ?_
 refine zK (ev_cmp rfl rfl rfl) ?_
 refine XO_and0 rfl rfl rfl rfl rfl ?_
 refine zA ?_
 refine zN ?_
 refine X_ret ?_
 exact at_ret1 rfl rfl (fun w hw => ⟨by first | rfl | simp_all, hw.drop⟩)
theorem w_rwithin (I : HMap) (n lo hi : Int) : RetV Tryz.prog 51 [.int .i64 n, .int .i64 lo, .int .i64 hi] I (.bool (within n lo hi)) := by
 intro g H w hw
 refine enter Tryz.func51 rfl Tryz.ntmps51 rfl hw ?_
 refine zR ?_
 refine zA ?_
 refine zN (zR ?_)
 refine zM ?_
 refine zM ?_
 refine zC ?_
 refine zM ?_
 refine XO_pushT 3 rfl rfl rfl ?_
 refine zK (ev_move rfl) ?_
 refine zK (ev_move rfl) ?_
 refine zK (ev_cmp rfl rfl rfl) ?_
 refine XO_and0 rfl rfl rfl rfl rfl ?_
 refine zA ?_
 refine zN ?_
 refine X_ret ?_
 exact at_ret1 rfl rfl (fun w hw => ⟨by first | rfl | simp_all, hw.drop⟩)
theorem w_then (I : HMap) (day time : Int) : RetV Tryz.prog 20 [.int .i64 day, .int .i64 time] I (.bool (thenF day time)) := by
 intro g H w hw
 refine enter Tryz.func20 rfl Tryz.ntmps20 rfl hw ?_
 refine zR ?_
 refine zA ?_
 refine zN (zR ?_)
 refine zM ?_
 refine XO_callV0 (cap := []) (vs := [_, _, _]) rfl rfl fun_19 (w_within I _ _ _) rfl rfl ?_
 refine zM ?_
 refine XO_pushT 2 rfl rfl rfl ?_
 refine zK (ev_move rfl) ?_
 refine XO_callV1 (cap := []) (vs := [_, _, _]) rfl rfl fun_19 (fun hg => w_within I _ _ _) (.some rfl rfl rfl rfl gbt) rfl rfl ?_
 refine XO_and0 rfl rfl rfl rfl rfl ?_
 refine zA ?_
 refine zN ?_
 refine X_ret ?_
 exact at_ret1 rfl rfl (fun w hw => ⟨by first | rfl | simp_all, hw.drop⟩)
theorem w_right (I : HMap) (x : Ls) : RetV Tryz.prog 45 [encA x] I (.bool (rightF x)) := by
 intro g H w hw
 refine enter Tryz.func45 rfl Tryz.ntmps45 rfl hw ?_
 refine zR ?_
 refine XO_box rfl rfl rfl (fun b_1 => ?_)
 refine zA ?_
 refine zN (zR ?_)
 refine zF fld_70_0 ?_
 refine zL sct_3 ?_
 refine XO_callV0 (cap := []) (vs := [_, _, _]) rfl rfl fun_19 (w_within I _ _ _) rfl rfl ?_
 refine zM ?_
 refine XO_pushT 3 rfl rfl rfl ?_
 refine zK (ev_fieldAddr rfl fld_70_1) ?_
 refine zK (ev_load rfl sct_3 (fun hg => by repeat (first | exact Cell.here rfl | apply Cell.there | apply Cell.app))) ?_
 refine XO_callV1 (cap := []) (vs := [_, _, _]) rfl rfl fun_19 (fun hg => w_within I _ _ _) (.some rfl rfl rfl rfl gbt) rfl rfl ?_
 refine XO_and0 rfl rfl rfl rfl rfl ?_
 refine zM ?_
 refine XO_pushT 8 rfl rfl rfl ?_
 refine zK (ev_fieldAddr rfl fld_70_2) ?_
 refine zK (ev_load rfl sct_3 (fun hg => by repeat (first | exact Cell.here rfl | apply Cell.there | apply Cell.app))) ?_
 refine XO_callV1 (cap := []) (vs := [_, _, _]) rfl rfl fun_19 (fun hg => w_within I _ _ _) (.some rfl rfl rfl rfl gbt) rfl rfl ?_
 refine XO_and0 rfl rfl rfl rfl rfl ?_
 refine zM ?_
 refine XO_pushT 13 rfl rfl rfl ?_
 refine zK (ev_fieldAddr rfl fld_70_3) ?_
 refine zK (ev_load rfl sct_3 (fun hg => by repeat (first | exact Cell.here rfl | apply Cell.there | apply Cell.app))) ?_
 refine XO_callV1 (cap := []) (vs := [_, _, _]) rfl rfl fun_19 (fun hg => w_within I _ _ _) (.some rfl rfl rfl rfl gbt) rfl rfl ?_
 refine XO_and0 rfl rfl rfl rfl rfl ?_
 refine zM ?_
 refine XO_pushT 18 rfl rfl rfl ?_
 refine zK (ev_fieldAddr rfl fld_70_4) ?_
 refine zK (ev_load rfl sct_3 (fun hg => by repeat (first | exact Cell.here rfl | apply Cell.there | apply Cell.app))) ?_
 refine XO_callV1 (cap := []) (vs := [_, _, _]) rfl rfl fun_19 (fun hg => w_within I _ _ _) (.some rfl rfl rfl rfl gbt) rfl rfl ?_
 refine XO_and0 rfl rfl rfl rfl rfl ?_
 refine zA ?_
 refine zN ?_
 refine X_ret ?_
 exact at_ret1 rfl rfl (fun w hw => ⟨by first | rfl | simp_all, hw.drop⟩)
theorem w_rright (I : HMap) (x : Ls) : RetV Tryz.prog 17 [encA x] I (.bool (rightF x)) := by
 intro g H w hw
 refine enter Tryz.func17 rfl Tryz.ntmps17 rfl hw ?_
 refine zR ?_
 refine XO_box rfl rfl rfl (fun b_1 => ?_)
 refine zA ?_
 refine zN (zR ?_)
 refine zF fld_55_0 ?_
 refine zL sct_3 ?_
 refine XO_callV0 (cap := []) (vs := [_, _, _]) rfl rfl fun_51 (w_rwithin I _ _ _) rfl rfl ?_
 refine zM ?_
 refine XO_pushT 3 rfl rfl rfl ?_
 refine zK (ev_fieldAddr rfl fld_55_1) ?_
 refine zK (ev_load rfl sct_3 (fun hg => by repeat (first | exact Cell.here rfl | apply Cell.there | apply Cell.app))) ?_
 refine XO_callV1 (cap := []) (vs := [_, _, _]) rfl rfl fun_51 (fun hg => w_rwithin I _ _ _) (.some rfl rfl rfl rfl gbt) rfl rfl ?_
 refine XO_and0 rfl rfl rfl rfl rfl ?_
 refine zM ?_
 refine XO_pushT 8 rfl rfl rfl ?_
 refine zK (ev_fieldAddr rfl fld_55_2) ?_
 refine zK (ev_load rfl sct_3 (fun hg => by repeat (first | exact Cell.here rfl | apply Cell.there | apply Cell.app))) ?_
 refine XO_callV1 (cap := []) (vs := [_, _, _]) rfl rfl fun_51 (fun hg => w_rwithin I _ _ _) (.some rfl rfl rfl rfl gbt) rfl rfl ?_
 refine XO_and0 rfl rfl rfl rfl rfl ?_
 refine zM ?_
 refine XO_pushT 13 rfl rfl rfl ?_
 refine zK (ev_fieldAddr rfl fld_55_3) ?_
 refine zK (ev_load rfl sct_3 (fun hg => by repeat (first | exact Cell.here rfl | apply Cell.there | apply Cell.app))) ?_
 refine XO_callV1 (cap := []) (vs := [_, _, _]) rfl rfl fun_51 (fun hg => w_rwithin I _ _ _) (.some rfl rfl rfl rfl gbt) rfl rfl ?_
 refine XO_and0 rfl rfl rfl rfl rfl ?_
 refine zM ?_
 refine XO_pushT 18 rfl rfl rfl ?_
 refine zK (ev_fieldAddr rfl fld_55_4) ?_
 refine zK (ev_load rfl sct_3 (fun hg => by repeat (first | exact Cell.here rfl | apply Cell.there | apply Cell.app))) ?_
 refine XO_callV1 (cap := []) (vs := [_, _, _]) rfl rfl fun_51 (fun hg => w_rwithin I _ _ _) (.some rfl rfl rfl rfl gbt) rfl rfl ?_
 refine XO_and0 rfl rfl rfl rfl rfl ?_
 refine zA ?_
 refine zN ?_
 refine X_ret ?_
 exact at_ret1 rfl rfl (fun w hw => ⟨by first | rfl | simp_all, hw.drop⟩)
theorem w_addc (I : HMap) (x : Ls) (no : Int) : RetV Tryz.prog 47 [encA x, .int .i64 no] I (.int .i64 (cmpF x.no no)) := by
 intro g H w hw
 refine enter Tryz.func47 rfl Tryz.ntmps47 rfl hw ?_
 refine zR ?_
 refine XO_box rfl rfl rfl (fun b_2 => ?_)
 refine zA ?_
 refine zN (zR ?_)
 refine zF fld_55_0 ?_
 refine zL sct_3 ?_
 refine zM ?_
 refine XO_callV0 (cap := []) (vs := [_, _]) rfl rfl fun_48 (w_cmp I _ _) rfl rfl ?_
 refine zA ?_
 refine zN ?_
 refine X_ret ?_
 exact at_ret1 rfl rfl (fun w hw => ⟨by first | rfl | simp_all, hw.drop⟩)
theorem w_rcheck {I : HMap} {av : Option Addr} {n c : Nat} {xs : List Ls} (hS : Sl I 5 encL av n c xs) (hn : n ≤ 100000) : RetV Tryz.prog 6 [.slice av n c] I (.int .i64 (chk xs)) := by
 intro g H w hw
 refine enter Tryz.func6 rfl Tryz.ntmps6 rfl hw ?_
 refine zR ?_
 refine zA ?_
 refine zN ?_
 refine X_seq ?_
 refine zR ?_
 refine zM ?_
 refine zQ slt_25 ?_
 refine zC ?_
 refine zN ?_
 refine zI ?_ ?_ <;> intro hc6
 ·
  have h6 : xs.length > 4096 := by rw [hS.len]; simp at hc6; omega
  refine zR ?_
  refine zA ?_
  refine zN ?_
  refine X_ret ?_
  refine at_then_r ?_
  first
  | exact at_ret1 rfl rfl (fun w hw => ⟨by unfold chk; rw [if_pos h6], hw.drop⟩)
  | exact at_ret1 rfl rfl (fun w hw => ⟨by unfold chk ckB; rw [if_neg h6, range_bad (k := k) (by rw [hS.len]; exact hlt_k) (by have := getD_of (d := zeroL) hx; unfold ckP prevL; rw [this, hc36]; rfl)]; rfl, hw.drop⟩)
  | exact at_ret1 rfl rfl (fun w hw => ⟨by unfold chk ckB; rw [if_neg h6, hS.len, show n = k by omega, hall]; rfl, hw.drop⟩)
 have h6 : ¬ xs.length > 4096 := by rw [hS.len]; simp at hc6; omega
 refine X_skip ?_
 refine at_then ?_
 refine X_seq ?_
 refine zR ?_
 refine zA ?_
 refine zN ?_
 refine X_block ?_
 refine X_loopT [(0, _)] (.cons rfl .nil) (fun T L0 mz E I' loc' => ∃ (k : Nat), mz = n - k ∧ E = (3, .int .i64 k) :: T ∧ I = I' ∧ L0 = loc' ∧ k ≤ n ∧ (List.range k).all (ckP xs) = true) _ _ _ _ ⟨0, rfl, rfl, rfl, rfl, Nat.zero_le _, rfl⟩ (.cons rfl (.cons rfl .nil)) (HLe.refl _) rfl ?_
 rintro mz E I' loc' ⟨k, rfl, rfl, rfl, rfl, hk, hall⟩
 refine X_seq ?_
 refine zR ?_
 refine zM ?_
 refine zM ?_
 refine zQ slt_25 ?_
 refine zC ?_
 refine zN ?_
 refine zI ?_ ?_ <;> intro hc10
 ·
  have hlt_k : k < n := by have h := hc10; simp at h; omega
  obtain ⟨x, hx⟩ := hS.at hlt_k
  refine X_skip ?_
  refine at_then ?_
  refine X_seq ?_
  refine X_block ?_
  refine X_seq ?_
  refine X_draw mixed (by kernel_rfl) ?_
  refine XQ_v0 (ev_move rfl) rfl rfl rfl ?_
  refine XQ_v0 (ev_move rfl) rfl rfl rfl ?_
  refine XQ_v0 (ev_indexSl rfl rfl slt_25 (by assumption) (fun hg => by first | omega | (simp [conj] at hg; omega))) rfl rfl rfl ?_
  refine XQ_v0 (ev_loadA rfl agt_55 (fun hg => by first | exact Sl.getA hS hx | (repeat (first | exact Cells.here | exact Cells.s0 (vs := [_, _, _, _, _]) rfl | apply Cells.there | apply Cells.app))) rfl) rfl rfl rfl ?_
  refine XQ_callV0 (cap := []) (vs := [_]) rfl rfl fun_17 (w_rright I _) rfl rfl ?_
  refine XQ_v0 (ev_not rfl) rfl rfl rfl ?_
  refine XQ_v0 (ev_move rfl) rfl rfl rfl ?_
  refine XQ_pushF 6 rfl rfl rfl ?_
  refine XQ_v1 (ev_move rfl) (.some rfl rfl rfl rfl gbf) rfl rfl rfl ?_
  refine XQ_v1 (ev_cmp rfl rfl rfl) (.some rfl rfl rfl rfl gbf) rfl rfl rfl ?_
  refine XQ_v1 (ev_move rfl) (.some rfl rfl rfl rfl gbf) rfl rfl rfl ?_
  refine XQ_pushT 9 rfl rfl rfl ?_
  refine XQ_v1 (ev_move rfl) (.some rfl rfl rfl rfl gbt) rfl rfl rfl ?_
  refine XQ_v1 (ev_move rfl) (.some rfl rfl rfl rfl gbt) rfl rfl rfl ?_
  refine XQ_v1 (ev_indexSl rfl rfl slt_25 (by assumption) (fun hg => by first | omega | (simp [conj] at hg; omega))) (.some rfl rfl rfl rfl gbt) rfl rfl rfl ?_
  refine XQ_v1 (ev_fieldAddr rfl fld_55_0) (.some rfl rfl rfl rfl gbt) rfl rfl rfl ?_
  refine XQ_v1 (ev_load rfl sct_3 (fun hg => by first | exact Sl.get hS hx rfl | exact Sl.get (k := ((k : Int) - 1).toNat) hS (some_getD (d := zeroL) hS.len (by omega)) rfl | (repeat (first | exact Cell.here rfl | apply Cell.there | apply Cell.app)))) (.some rfl rfl rfl rfl gbt) rfl rfl rfl ?_
  refine XQ_v1 (ev_move rfl) (.some rfl rfl rfl rfl gbt) rfl rfl rfl ?_
  refine XQ_v1 (ev_move rfl) (.some rfl rfl rfl rfl gbt) rfl rfl rfl ?_
  refine XQ_v1 (ev_arB rfl rfl rfl (fun _ => by omega)) (.some rfl rfl rfl rfl gbt) rfl rfl rfl ?_
  refine XQ_v1 (ev_indexSl rfl rfl slt_25 (by assumption) (fun hg => by first | omega | (simp [conj] at hg; omega))) (.some rfl rfl rfl rfl gbt) rfl rfl rfl ?_
  refine XQ_v1 (ev_fieldAddr rfl fld_55_0) (.some rfl rfl rfl rfl gbt) rfl rfl rfl ?_
  refine XQ_v1 (ev_load rfl sct_3 (fun hg => by first | exact Sl.get hS hx rfl | exact Sl.get (k := ((k : Int) - 1).toNat) hS (some_getD (d := zeroL) hS.len (by omega)) rfl | (repeat (first | exact Cell.here rfl | apply Cell.there | apply Cell.app)))) (.some rfl rfl rfl rfl gbt) rfl rfl rfl ?_
  refine XQ_v1 (ev_cmp rfl rfl rfl) (.some rfl rfl rfl rfl gbt) rfl rfl rfl ?_
  refine XQ_and1 rfl rfl rfl (.some rfl rfl rfl rfl gbf) rfl rfl ?_
  refine XQ_or0 rfl rfl rfl rfl rfl ?_
  refine XQ_nil ?_
  refine at_then ?_
  refine zI ?_ ?_ <;> intro hc36
  ·
   refine zR ?_
   refine zA ?_
   refine zN ?_
   refine X_ret ?_
   refine at_block_r ?_
   refine at_then_r ?_
   refine at_then_r ?_
   refine at_block_r ?_
   refine at_then_r ?_
   first
   | exact at_ret1 rfl rfl (fun w hw => ⟨by unfold chk; rw [if_pos h6], hw.drop⟩)
   | exact at_ret1 rfl rfl (fun w hw => ⟨by unfold chk ckB; rw [if_neg h6, range_bad (k := k) (by rw [hS.len]; exact hlt_k) (by have := getD_of (d := zeroL) hx; unfold ckP prevL; rw [this, hc36]; rfl)]; rfl, hw.drop⟩)
   | exact at_ret1 rfl rfl (fun w hw => ⟨by unfold chk ckB; rw [if_neg h6, hS.len, show n = k by omega, hall]; rfl, hw.drop⟩)
  refine X_skip ?_
  refine at_block_n ?_
  refine at_then ?_
  refine X_region ?_
  refine zM ?_
  refine zV (ev_arB rfl rfl rfl (fun _ => by omega)) ?_
  refine zA ?_
  refine XO_nil ?_
  exact at_met2 _ _ ⟨n - (k + 1), by omega, k + 1, rfl, rfl, rfl, rfl, by omega, range_step hall (by have := getD_of (d := zeroL) hx; unfold ckP prevL; rw [this, hc36]; rfl)⟩ (.cons rfl (.cons rfl .nil)) (by repeat (first | exact .refl | exact subL_left | refine subL_app ?_ | refine .drop ?_ | refine subL_add ?_))
 have hge_k : n ≤ k := by have h := hc10; simp at h; omega
 refine X_exit ?_
 refine at_then_e ?_
 refine at_then_e ?_
 refine at_block_hit ?_
 refine at_then ?_
 refine zR ?_
 refine zA ?_
 refine zN ?_
 refine X_ret ?_
 first
 | exact at_ret1 rfl rfl (fun w hw => ⟨by unfold chk; rw [if_pos h6], hw.drop⟩)
 | exact at_ret1 rfl rfl (fun w hw => ⟨by unfold chk ckB; rw [if_neg h6, range_bad (k := k) (by rw [hS.len]; exact hlt_k) (by have := getD_of (d := zeroL) hx; unfold ckP prevL; rw [this, hc36]; rfl)]; rfl, hw.drop⟩)
 | exact at_ret1 rfl rfl (fun w hw => ⟨by unfold chk ckB; rw [if_neg h6, hS.len, show n = k by omega, hall]; rfl, hw.drop⟩)
theorem ck_first {xs : List Ls} {x : Ls} (hx : xs[0]? = some x) : ckP xs 0 = !(!rightF x || decide (x.no ≤ -1)) := by
 unfold ckP
 rw [getD_of hx]
 rw [show decide (((0 : Nat) : Int) > 0) = false from rfl, Bool.false_and, Bool.or_false]
 cases h : rightF x with
 | false => rfl
 | true =>
  have : 0 ≤ x.no := by
   unfold rightF within at h
   simp only [Bool.and_eq_true, decide_eq_true_eq] at h
   omega
  rw [show decide (x.no ≤ -1) = false from decide_eq_false (by omega)]; rfl
theorem ck_next {xs : List Ls} {k : Nat} {x y : Ls} (hx : xs[k + 1]? = some x) (hy : xs[k]? = some y) : ckP xs (k + 1) = !(!rightF x || decide (x.no ≤ y.no)) := by
 unfold ckP prevL
 rw [getD_of hx, show (((k + 1 : Nat) : Int) - 1).toNat = k by omega, getD_of hy, show decide (((k + 1 : Nat) : Int) > 0) = true from decide_eq_true (by omega), Bool.true_and]
/-- The number before. -/
def lastN (xs : List Ls) (k : Nat) (l : Int) : Prop := (k = 0 → l = -1) ∧ ∀ y, xs[k - 1]? = some y → k ≠ 0 → l = y.no
theorem ck_at {xs : List Ls} {k : Nat} {x : Ls} {l : Int} (hx : xs[k]? = some x) (hl : lastN xs k l) : ckP xs k = !(!rightF x || decide (x.no ≤ l)) := by
 cases k with
 | zero => rw [hl.1 rfl]; exact ck_first hx
 | succ k =>
  have hk := (List.getElem?_eq_some_iff.1 hx).1
  have hy : xs[k]? = some (xs[k]'(by omega)) := List.getElem?_eq_getElem _
  rw [hl.2 _ (by rw [Nat.add_sub_cancel]; exact hy) (by omega)]; exact ck_next hx hy
theorem last_step {xs : List Ls} {k : Nat} {x : Ls} (hx : xs[k]? = some x) : lastN xs (k + 1) x.no := ⟨fun h => by omega, fun y hy _ => by simp at hy; rw [hx] at hy; cases hy; rfl⟩
theorem w_check {I : HMap} {av : Option Addr} {n c : Nat} {xs : List Ls} (hS : Sl I 5 encL av n c xs) (hn : n ≤ 100000) : RetV Tryz.prog 18 [.slice av n c] I (.int .i64 (chk xs)) := by
 intro g H w hw
 refine enter Tryz.func18 rfl Tryz.ntmps18 rfl hw ?_
 refine zR ?_
 refine zA ?_
 refine zN ?_
 refine X_seq ?_
 refine zR ?_
 refine zM ?_
 refine zQ slt_25 ?_
 refine zC ?_
 refine zN ?_
 refine zI ?_ ?_ <;> intro hc8
 ·
  have h6 : xs.length > 4096 := by rw [hS.len]; simp at hc8; omega
  refine zR ?_
  refine zA ?_
  refine zN ?_
  refine X_ret ?_
  refine at_then_r ?_
  first
  | exact at_ret1 rfl rfl (fun w hw => ⟨by unfold chk; rw [if_pos h6], hw.drop⟩)
  | exact at_ret1 rfl rfl (fun w hw => ⟨by unfold chk ckB; rw [if_neg h6, range_bad (k := k) (by rw [hS.len]; exact hlt_k) (by rw [ck_at hx hl, hc23]; rfl)]; rfl, hw.drop⟩)
  | exact at_ret1 rfl rfl (fun w hw => ⟨by unfold chk ckB; rw [if_neg h6, hS.len, show n = k by omega, hall]; rfl, hw.drop⟩)
 have h6 : ¬ xs.length > 4096 := by rw [hS.len]; simp at hc8; omega
 refine X_skip ?_
 refine at_then ?_
 refine zR ?_
 refine zA ?_
 refine zN ?_
 refine X_seq ?_
 refine zR ?_
 refine zM ?_
 refine zQ slt_25 ?_
 refine zM ?_
 refine zN ?_
 refine X_block ?_
 refine X_loopT [(9, _), (10, _)] (.cons rfl (.cons rfl .nil)) (fun T L0 mz E I' loc' => ∃ (k : Nat) (l : Int), mz = n - k ∧ E = (3, .int .i64 l) :: (11, .int .i64 k) :: T ∧ I = I' ∧ L0 = loc' ∧ k ≤ n ∧ (List.range k).all (ckP xs) = true ∧ lastN xs k l) _ _ _ _ ⟨0, -1, rfl, rfl, rfl, rfl, Nat.zero_le _, rfl, ⟨fun _ => rfl, fun _ _ h => absurd rfl h⟩⟩ (.cons rfl (.cons rfl (.cons rfl (.cons rfl .nil)))) (HLe.refl _) rfl ?_
 rintro mz E I' loc' ⟨k, l, rfl, rfl, rfl, rfl, hk, hall, hl⟩
 refine zR ?_
 refine zC ?_
 refine zN ?_
 refine X_seq ?_
 refine zI ?_ ?_ <;> intro hc12
 ·
  have hlt_k : k < n := by have h := hc12; simp at h; omega
  obtain ⟨x, hx⟩ := hS.at hlt_k
  refine X_skip ?_
  refine at_then ?_
  refine X_seq ?_
  refine X_block ?_
  refine zR ?_
  refine zV (ev_indexSl rfl rfl slt_25 (by assumption) (fun hg => by first | omega | (simp [conj] at hg; omega))) ?_
  refine zV (ev_loadA rfl agt_55 (fun hg => by first | exact Sl.getA hS hx | (repeat (first | exact Cells.here | exact Cells.s0 (vs := [_, _, _, _, _]) rfl | apply Cells.there | apply Cells.app))) rfl) ?_
  refine XO_alloc zt_55 rfl rfl (fun b_5 => ?_)
  refine XO_storeA rfl rfl szt_55 rfl rfl rfl rfl (by repeat (first | exact Upd.here | apply Upd.there | apply upd_app)) ?_
  refine zN ?_
  refine X_seq ?_
  refine zR ?_
  refine zV (ev_loadA rfl agt_55 (fun hg => by first | exact Sl.getA hS hx | (repeat (first | exact Cells.here | exact Cells.s0 (vs := [_, _, _, _, _]) rfl | apply Cells.there | apply Cells.app))) rfl) ?_
  refine XO_callV0 (cap := []) (vs := [_]) rfl rfl fun_45 (w_right I _) rfl rfl ?_
  refine zO ?_
  refine zM ?_
  refine XO_pushF 3 rfl rfl rfl ?_
  refine zJ (ev_fieldAddr rfl fld_55_0) ?_
  refine zJ (ev_load rfl sct_3 (fun hg => by repeat (first | exact Cell.here rfl | apply Cell.there | apply Cell.app))) ?_
  refine zJ (ev_move rfl) ?_
  refine zJ (ev_cmp rfl rfl rfl) ?_
  refine XO_or0 rfl rfl rfl rfl rfl ?_
  refine zN ?_
  refine zI ?_ ?_ <;> intro hc23
  ·
   refine zR ?_
   refine zA ?_
   refine zN ?_
   refine X_ret ?_
   refine at_then_r ?_
   refine at_block_r ?_
   refine at_then_r ?_
   refine at_then_r ?_
   refine at_block_r ?_
   refine at_then_r ?_
   first
   | exact at_ret1 rfl rfl (fun w hw => ⟨by unfold chk; rw [if_pos h6], hw.drop⟩)
   | exact at_ret1 rfl rfl (fun w hw => ⟨by unfold chk ckB; rw [if_neg h6, range_bad (k := k) (by rw [hS.len]; exact hlt_k) (by rw [ck_at hx hl, hc23]; rfl)]; rfl, hw.drop⟩)
   | exact at_ret1 rfl rfl (fun w hw => ⟨by unfold chk ckB; rw [if_neg h6, hS.len, show n = k by omega, hall]; rfl, hw.drop⟩)
  refine X_skip ?_
  refine at_then ?_
  refine X_region ?_
  refine zF fld_55_0 ?_
  refine zL sct_3 ?_
  refine zA ?_
  refine XO_nil ?_
  refine at_block_n ?_
  refine at_then ?_
  refine X_region ?_
  refine zV (ev_arB rfl rfl rfl (fun _ => by omega)) ?_
  refine zM ?_
  refine XO_nil ?_
  exact at_met2 _ _ ⟨n - (k + 1), by omega, k + 1, x.no, rfl, rfl, rfl, rfl, by omega, range_step hall (by rw [ck_at hx hl, hc23]; rfl), last_step hx⟩ (.cons rfl (.cons rfl (.cons rfl (.cons rfl .nil)))) (by repeat (first | exact .refl | exact subL_left | refine subL_app ?_ | refine .drop ?_ | refine subL_add ?_))
 have hge_k : n ≤ k := by have h := hc12; simp at h; omega
 refine X_exit ?_
 refine at_then_e ?_
 refine at_then_e ?_
 refine at_block_hit ?_
 refine at_then ?_
 refine zR ?_
 refine zA ?_
 refine zN ?_
 refine X_ret ?_
 first
 | exact at_ret1 rfl rfl (fun w hw => ⟨by unfold chk; rw [if_pos h6], hw.drop⟩)
 | exact at_ret1 rfl rfl (fun w hw => ⟨by unfold chk ckB; rw [if_neg h6, range_bad (k := k) (by rw [hS.len]; exact hlt_k) (by rw [ck_at hx hl, hc23]; rfl)]; rfl, hw.drop⟩)
 | exact at_ret1 rfl rfl (fun w hw => ⟨by unfold chk ckB; rw [if_neg h6, hS.len, show n = k by omega, hall]; rfl, hw.drop⟩)
end Go.Proofs.YtclkmnidgdkekaaGreat.L
end
section
namespace Go.Proofs.YtclkmnidgdkekaaGreat.L
open Go Go.Kn Go.Proofs
theorem all_next {α : Type} {xs : List α} {k : Nat} {x : α} {p : α → Bool} (hx : xs[k]? = some x) (h : (xs.take k).all p = true) (hp : p x = true) : (xs.take (k + 1)).all p = true := by
 rw [List.take_add_one, hx, List.all_append, h]; simpa using hp
theorem all_bad {α : Type} {xs : List α} {k : Nat} {x : α} {p : α → Bool} (hx : xs[k]? = some x) (hp : p x = false) : xs.all p = false := by
 cases h : xs.all p with
 | false => rfl
 | true => rw [List.all_eq_true] at h; rw [h x (List.mem_of_getElem? hx)] at hp; cases hp
end Go.Proofs.YtclkmnidgdkekaaGreat.L
end
section
namespace Go.Proofs.YtclkmnidgdkekaaGreat.L
open Go Go.Kn Go.Proofs
theorem all_take {α : Type} {xs : List α} {k : Nat} {x : α} (h : xs[k]? = some x) (p : α → Bool) : (xs.take (k + 1)).all p = ((xs.take k).all p && p x) := by
 rw [List.take_add_one, h, List.all_append]; simp
theorem gp_bad {I : HMap} {e e' : Int} {a b : List Int} (he : e = e') (h0 : e' ≠ 0) : GpE e (resF e a) (resF e b) (.tuple #[.slice none 0 0, .slice none 0 0, .int .i64 e']) I [] := .bad he h0
end Go.Proofs.YtclkmnidgdkekaaGreat.L
end
section
namespace Go.Proofs.YtclkmnidgdkekaaGreat.L
open Go Go.Kn Go.Proofs
/-- The first place where p holds, -1 if there is none. -/
def idxF {α : Type} (p : α → Bool) (xs : List α) : Int := if xs.any p then ((xs.takeWhile fun x => !p x).length : Int) else -1
theorem idx_hit {α : Type} {p : α → Bool} {xs : List α} {k : Nat} {x : α} (h : (xs.take k).any p = false) (hx : xs[k]? = some x) (hp : p x = true) : idxF p xs = k := by
 have hk := (List.getElem?_eq_some_iff.1 hx).1
 have h1 : (xs.take k).all (fun x => !p x) = true := by
  rw [List.all_eq_true]; intro y hy
  rw [List.any_eq_false] at h
  simpa using h y hy
 have h2 := (tw_eq h1 (by omega) (fun y hy => by rw [hx] at hy; cases hy; simp [hp])).1
 unfold idxF
 rw [if_pos (List.any_eq_true.2 ⟨x, List.mem_of_getElem? hx, hp⟩), h2, List.length_take, Nat.min_eq_left (by omega)]
theorem idx_none {α : Type} {p : α → Bool} {xs : List α} {k n : Nat} (hl : xs.length = n) (hk : n ≤ k) (h : (xs.take k).any p = false) : idxF p xs = -1 := by
 rw [take_all hl hk] at h
 unfold idxF
 rw [h]; rfl
theorem idx_any {α : Type} {p : α → Bool} {xs : List α} : decide (idxF p xs ≥ 0) = xs.any p := by
 unfold idxF
 cases h : xs.any p
 ·
  rfl
 simp
theorem w_index {I : HMap} {av : Option Addr} {n c : Nat} {xs : List Int} (hS : Sl I 1 encI av n c xs) (hn : n ≤ 100000) (v : Int) : RetV Tryz.prog 63 [.slice av n c, .int .i64 v] I (.int .i64 (idxF (fun y => v == y) xs)) := by
 intro g H w hw
 refine enter Tryz.func63 rfl Tryz.ntmps63 rfl hw ?_
 refine zR ?_
 refine zA ?_
 refine zN ?_
 refine X_seq ?_
 refine zR ?_
 refine zM ?_
 refine zQ slt_24 ?_
 refine zM ?_
 refine zN ?_
 refine X_block ?_
 refine X_loopT [(0, _), (1, _), (7, _)] (.cons rfl (.cons rfl (.cons rfl .nil))) (fun T L0 mz E I' loc' => ∃ (k : Nat), mz = n - k ∧ E = (8, .int .i64 k) :: T ∧ I = I' ∧ L0 = loc' ∧ k ≤ n ∧ (xs.take k).any (fun y => v == y) = false) _ _ _ _ ⟨0, rfl, rfl, rfl, rfl, Nat.zero_le _, rfl⟩ (.cons rfl (.cons rfl (.cons rfl (.cons rfl .nil)))) (HLe.refl _) rfl ?_
 rintro mz E I' loc' ⟨k, rfl, rfl, rfl, rfl, hk, hno⟩
 refine zR ?_
 refine zC ?_
 refine zN ?_
 refine X_seq ?_
 refine zI ?_ ?_ <;> intro hc9
 ·
  have hlt_k : k < n := by have h := hc9; simp at h; omega
  obtain ⟨x, hx⟩ := hS.at hlt_k
  refine X_skip ?_
  refine at_then ?_
  refine X_seq ?_
  refine X_block ?_
  refine zR ?_
  refine zM ?_
  refine zA ?_
  refine zN (zR ?_)
  refine zM ?_
  refine zM ?_
  refine zM ?_
  refine zV (ev_indexSl rfl rfl slt_24 (by assumption) (fun hg => by first | omega | (simp [conj] at hg; omega))) ?_
  refine zV (ev_load rfl sct_3 (fun hg => by first | exact Sl.get0 hS hx rfl | (repeat (first | exact Cell.here rfl | apply Cell.there | apply Cell.app)))) ?_
  refine zC ?_
  refine zN ?_
  refine zI ?_ ?_ <;> intro hc16
  ·
   refine zR ?_
   refine zM ?_
   refine zA ?_
   refine zN ?_
   refine X_ret ?_
   refine at_block_r ?_
   refine at_then_r ?_
   refine at_then_r ?_
   refine at_block_r ?_
   refine at_then_r ?_
   first
   | exact at_ret1 rfl rfl (fun w hw => ⟨by rw [idx_hit hno hx hc16], hw.drop⟩)
   | exact at_ret1 rfl rfl (fun w hw => ⟨by rw [idx_none hS.len hge_k hno], hw.drop⟩)
  refine X_skip ?_
  refine at_block_n ?_
  refine at_then ?_
  refine X_region ?_
  refine zV (ev_arB rfl rfl rfl (fun _ => by omega)) ?_
  refine zM ?_
  refine XO_nil ?_
  exact at_met2 _ _ ⟨n - (k + 1), by omega, k + 1, rfl, rfl, rfl, rfl, by omega, any_no hx hno hc16⟩ (.cons rfl (.cons rfl (.cons rfl (.cons rfl .nil)))) (by repeat (first | exact .refl | exact subL_left | refine subL_app ?_ | refine .drop ?_ | refine subL_add ?_))
 have hge_k : n ≤ k := by have h := hc9; simp at h; omega
 refine X_exit ?_
 refine at_then_e ?_
 refine at_then_e ?_
 refine at_block_hit ?_
 refine at_then ?_
 refine zR ?_
 refine zA ?_
 refine zN ?_
 refine X_ret ?_
 first
 | exact at_ret1 rfl rfl (fun w hw => ⟨by rw [idx_hit hno hx hc16], hw.drop⟩)
 | exact at_ret1 rfl rfl (fun w hw => ⟨by rw [idx_none hS.len hge_k hno], hw.drop⟩)
theorem w_contains {I : HMap} {av : Option Addr} {n c : Nat} {xs : List Int} (hS : Sl I 1 encI av n c xs) (hn : n ≤ 100000) (v : Int) : RetV Tryz.prog 30 [.slice av n c, .int .i64 v] I (.bool (xs.any (fun y => v == y))) := by
 intro g H w hw
 refine enter Tryz.func30 rfl Tryz.ntmps30 rfl hw ?_
 refine zR ?_
 refine zA ?_
 refine zN (zR ?_)
 refine zM ?_
 refine zM ?_
 refine XO_callV0 (cap := []) (vs := [_, _]) rfl rfl fun_63 (w_index hS hn v) rfl rfl ?_
 refine zC ?_
 refine zA ?_
 refine zN ?_
 refine X_ret ?_
 exact at_ret1 rfl rfl (fun w hw => ⟨by rw [← idx_any], hw.drop⟩)
theorem w_long (I : HMap) (a : Option Addr) (n c : Nat) : RetV Tryz.prog 34 [.slice a n c] I (.bool (decide ((n : Int) > 512))) := by
 intro g H w hw
 refine enter Tryz.func34 rfl Tryz.ntmps34 rfl hw ?_
 refine zR ?_
 refine zA ?_
 refine zN (zR ?_)
 refine zM ?_
 refine zQ slt_24 ?_
 refine zC ?_
 refine zA ?_
 refine zN ?_
 refine X_ret ?_
 exact at_ret1 rfl rfl (fun w hw => ⟨by first | rfl | simp_all, hw.drop⟩)
theorem w_indexF {I : HMap} {bv : Option Addr} {n2 c2 : Nat} {hs : List Hd} (hH : Sl I 1 encH bv n2 c2 hs) (hn : n2 ≤ 100000) : RetV Tryz.prog 66 [.slice bv n2 c2, .func (.func 34) #[] #[]] I (.int .i64 (idxF (fun h : Hd => decide ((h.n : Int) > 512)) hs)) := by
 intro g H w hw
 refine enter Tryz.func66 rfl Tryz.ntmps66 rfl hw ?_
 refine zR ?_
 refine zA ?_
 refine zN ?_
 refine X_seq ?_
 refine zR ?_
 refine zM ?_
 refine zQ slt_23 ?_
 refine zM ?_
 refine zN ?_
 refine X_block ?_
 refine X_loopT [(0, _), (1, _), (7, _)] (.cons rfl (.cons rfl (.cons rfl .nil))) (fun T L0 mz E I' loc' => ∃ (k : Nat), mz = n2 - k ∧ E = (8, .int .i64 k) :: T ∧ I = I' ∧ L0 = loc' ∧ k ≤ n2 ∧ (hs.take k).any (fun h : Hd => decide ((h.n : Int) > 512)) = false) _ _ _ _ ⟨0, rfl, rfl, rfl, rfl, Nat.zero_le _, rfl⟩ (.cons rfl (.cons rfl (.cons rfl (.cons rfl .nil)))) (HLe.refl _) rfl ?_
 rintro mz E I' loc' ⟨k, rfl, rfl, rfl, rfl, hk, hno⟩
 refine zR ?_
 refine zC ?_
 refine zN ?_
 refine X_seq ?_
 refine zI ?_ ?_ <;> intro hc9
 ·
  have hlt_k : k < n2 := by have h := hc9; simp at h; omega
  obtain ⟨x, hx⟩ := hH.at hlt_k
  refine X_skip ?_
  refine at_then ?_
  refine X_seq ?_
  refine X_block ?_
  refine zR ?_
  refine zM ?_
  refine zA ?_
  refine zN (zR ?_)
  refine zM ?_
  refine zM ?_
  refine zM ?_
  refine zV (ev_indexSl rfl rfl slt_23 (by assumption) (fun hg => by first | omega | (simp [conj] at hg; omega))) ?_
  refine zV (ev_load rfl sct_24 (fun hg => by first | exact Sl.get0 hH hx rfl | (repeat (first | exact Cell.here rfl | apply Cell.there | apply Cell.app)))) ?_
  refine XO_callV0 (cap := []) (vs := [_]) rfl rfl fun_34 (w_long I x.a x.n x.c) rfl rfl ?_
  refine zN ?_
  refine zI ?_ ?_ <;> intro hc16
  ·
   refine zR ?_
   refine zM ?_
   refine zA ?_
   refine zN ?_
   refine X_ret ?_
   refine at_block_r ?_
   refine at_then_r ?_
   refine at_then_r ?_
   refine at_block_r ?_
   refine at_then_r ?_
   first
   | exact at_ret1 rfl rfl (fun w hw => ⟨by rw [idx_hit hno hx hc16], hw.drop⟩)
   | exact at_ret1 rfl rfl (fun w hw => ⟨by rw [idx_none hH.len hge_k hno], hw.drop⟩)
  refine X_skip ?_
  refine at_block_n ?_
  refine at_then ?_
  refine X_region ?_
  refine zV (ev_arB rfl rfl rfl (fun _ => by omega)) ?_
  refine zM ?_
  refine XO_nil ?_
  exact at_met2 _ _ ⟨n2 - (k + 1), by omega, k + 1, rfl, rfl, rfl, rfl, by omega, any_no hx hno hc16⟩ (.cons rfl (.cons rfl (.cons rfl (.cons rfl .nil)))) (by repeat (first | exact .refl | exact subL_left | refine subL_app ?_ | refine .drop ?_ | refine subL_add ?_))
 have hge_k : n2 ≤ k := by have h := hc9; simp at h; omega
 refine X_exit ?_
 refine at_then_e ?_
 refine at_then_e ?_
 refine at_block_hit ?_
 refine at_then ?_
 refine zR ?_
 refine zA ?_
 refine zN ?_
 refine X_ret ?_
 first
 | exact at_ret1 rfl rfl (fun w hw => ⟨by rw [idx_hit hno hx hc16], hw.drop⟩)
 | exact at_ret1 rfl rfl (fun w hw => ⟨by rw [idx_none hH.len hge_k hno], hw.drop⟩)
theorem w_containsF {I : HMap} {bv : Option Addr} {n2 c2 : Nat} {hs : List Hd} (hH : Sl I 1 encH bv n2 c2 hs) (hn : n2 ≤ 100000) : RetV Tryz.prog 33 [.slice bv n2 c2, .func (.func 34) #[] #[]] I (.bool (hs.any (fun h : Hd => decide ((h.n : Int) > 512)))) := by
 intro g H w hw
 refine enter Tryz.func33 rfl Tryz.ntmps33 rfl hw ?_
 refine zR ?_
 refine zA ?_
 refine zN (zR ?_)
 refine zM ?_
 refine zM ?_
 refine XO_callV0 (cap := []) (vs := [_, _]) rfl rfl fun_66 (w_indexF hH hn) rfl rfl ?_
 refine zC ?_
 refine zA ?_
 refine zN ?_
 refine X_ret ?_
 exact at_ret1 rfl rfl (fun w hw => ⟨by rw [← idx_any], hw.drop⟩)
theorem w_lack {I : HMap} {b : Nat} {av : Option Addr} {n c : Nat} {xs : List Int} (hc : Cell I [] b 0 (.slice av n c)) (hS : Sl I 1 encI av n c xs) (hn : n ≤ 100000) (v : Int) : RetV Tryz.prog 36 [.int .i64 v, .pointer (some ⟨b, 0, none⟩)] I (.bool (!xs.any (fun y => v == y))) := by
 intro g H w hw
 refine enter Tryz.func36 rfl Tryz.ntmps36 rfl hw ?_
 refine zR ?_
 refine zA ?_
 refine zN (zR ?_)
 refine zV (ev_load rfl sct_24 (fun hg => by first | exact hc.any | (repeat (first | exact Cell.here rfl | apply Cell.there | apply Cell.app)))) ?_
 refine zM ?_
 refine XO_callV0 (cap := []) (vs := [_, _]) rfl rfl fun_30 (w_contains hS hn v) rfl rfl ?_
 refine zO ?_
 refine zA ?_
 refine zN ?_
 refine X_ret ?_
 exact at_ret1 rfl rfl (fun w hw => ⟨by first | rfl | simp_all, hw.drop⟩)
theorem w_lacks (I : HMap) (av : Option Addr) (n c : Nat) : RetM Tryz.prog 35 [.slice av n c] I [] (fun v I' L => L = [] ∧ ∃ b, v = .func (.func 36) #[] [.pointer (some ⟨b, 0, none⟩)].toArray ∧ Cell I' [] b 0 (.slice av n c)) := by
 intro g H w hw
 refine enter Tryz.func35 rfl Tryz.ntmps35 rfl hw ?_
 have hIc := HLe.refl I
 refine zR ?_
 refine XO_box rfl rfl rfl (fun b_1 => ?_)
 refine zA ?_
 refine zN ?_
 refine X_seq ?_
 refine X_freeze .here (fun I1 hI1 hb1 => ?_)
 have hIc := hIc.trans hI1
 have hbx := hb1
 refine X_region ?_
 refine zV (ev_makeFunc (us := []) (vs := [_]) rfl rfl) ?_
 refine zA ?_
 refine zN ?_
 refine X_ret ?_
 exact at_ret1 rfl rfl (fun w hw => ⟨_, I1, [], rfl, hIc, hw.drop, rfl, b_1, rfl, .imm hbx rfl⟩)
theorem w_filter {I : HMap} {av : Option Addr} {n c : Nat} {xs : List Int} (hS : Sl I 1 encI av n c xs) (hn : n ≤ 100000) {p : Int → Bool} {f : Nat} {cap : List Value} (hF : Fun Tryz.prog f) (hcall : ∀ x : Int, RetV Tryz.prog f ([.int .i64 x] ++ cap) I (.bool (p x))) : RetM Tryz.prog 37 [.slice av n c, .func (.func f) #[] cap.toArray] I [] (SlRes 1 encI (xs.filter p)) := by
 intro g H w hw
 refine enter Tryz.func37 rfl Tryz.ntmps37 rfl hw ?_
 have hIc := HLe.refl I
 refine zR ?_
 refine zA ?_
 refine zN ?_
 refine X_seq ?_
 refine zR ?_
 refine zM ?_
 refine zQ slt_24 ?_
 refine zM ?_
 refine zN ?_
 refine X_block ?_
 refine X_loopT [(1, _), (7, _), (8, _)] (.cons rfl (.cons rfl (.cons rfl .nil))) (fun T L0 mz E I' loc' => ∃ (k : Nat) (v : Value) (q : Nat) (L : Go.Kn.Loc), mz = n - k ∧ E = (4, v) :: (9, .int .i64 k) :: T ∧ I = I' ∧ L = loc' ∧ k ≤ n ∧ OwnS 3 1 v q (((xs.take k).filter p).flatMap encI) L ∧ q ≤ k) _ _ _ _ ⟨0, _, 0, [], rfl, rfl, rfl, rfl, Nat.zero_le _, OwnS.nil, Nat.le_refl _⟩ (.cons rfl (.cons rfl (.cons rfl (.cons rfl (.cons rfl .nil))))) (HLe.refl _) rfl ?_
 rintro mz E I' loc' ⟨k, v, q, L, rfl, rfl, rfl, rfl, hk, hO, hq⟩
 refine zR ?_
 refine zC ?_
 refine zN ?_
 refine X_seq ?_
 refine zI ?_ ?_ <;> intro hc10
 ·
  have hlt_k : k < n := by have h := hc10; simp at h; omega
  obtain ⟨x, hx⟩ := hS.at hlt_k
  refine X_skip ?_
  refine at_then ?_
  refine X_seq ?_
  refine X_block ?_
  refine zR ?_
  refine zV (ev_indexSl rfl rfl slt_24 (by assumption) (fun hg => by first | omega | (simp [conj] at hg; omega))) ?_
  refine zV (ev_load rfl sct_3 (fun hg => by first | exact Sl.get0 hS hx rfl | (repeat (first | exact Cell.here rfl | apply Cell.there | apply Cell.app)))) ?_
  refine zA ?_
  refine zN (zR ?_)
  refine zM ?_
  refine zM ?_
  refine XO_callV0 (cap := cap) (vs := [_]) rfl rfl hF (hcall x) rfl rfl ?_
  refine zN ?_
  refine zI ?_ ?_ <;> intro hc15
  ·
   refine X_region ?_
   refine zM ?_
   refine zM ?_
   refine XO_buildSlice (ps := [(0, _)]) (m := [encI x]) elt_24 rfl (.cons rfl (.nil)) rfl (by simp [encI_len]) (by decide) (by decide) rfl rfl (fun b_18 => ?_)
   refine XO_append (v := v) (ys := [encI x].flatten) (L := L) rfl rfl elt_24 hO (by repeat (first | exact .cons .here .nil | exact split_all | exact split_app | apply split_cons | apply split_skip)) ⟨rfl, fun _ => rfl, Cells.here⟩ rfl (by omega) rfl rfl ?_
   intro v' L' hO' _
   refine zA ?_
   refine XO_nil ?_
   refine at_block_n ?_
   refine at_then ?_
   refine X_region ?_
   refine zV (ev_arB rfl rfl rfl (fun _ => by omega)) ?_
   refine zM ?_
   refine XO_nil ?_
   first
   | exact at_met2 _ _ ⟨n - (k + 1), by omega, k + 1, v', q + 1, L', rfl, rfl, rfl, rfl, by omega, fil_yes hx hc15 hO', by omega⟩ (.cons rfl (.cons rfl (.cons rfl (.cons rfl (.cons rfl .nil))))) (by repeat (first | exact .refl | exact subL_left | refine subL_app ?_ | refine .drop ?_ | refine subL_add ?_))
   | exact at_met2 _ _ ⟨n - (k + 1), by omega, k + 1, v, q, L, rfl, rfl, rfl, rfl, by omega, fil_no hx hc15 hO, by omega⟩ (.cons rfl (.cons rfl (.cons rfl (.cons rfl (.cons rfl .nil))))) (by repeat (first | exact .refl | exact subL_left | refine subL_app ?_ | refine .drop ?_ | refine subL_add ?_))
  refine X_skip ?_
  refine at_block_n ?_
  refine at_then ?_
  refine X_region ?_
  refine zV (ev_arB rfl rfl rfl (fun _ => by omega)) ?_
  refine zM ?_
  refine XO_nil ?_
  first
  | exact at_met2 _ _ ⟨n - (k + 1), by omega, k + 1, v', q + 1, L', rfl, rfl, rfl, rfl, by omega, fil_yes hx hc15 hO', by omega⟩ (.cons rfl (.cons rfl (.cons rfl (.cons rfl (.cons rfl .nil))))) (by repeat (first | exact .refl | exact subL_left | refine subL_app ?_ | refine .drop ?_ | refine subL_add ?_))
  | exact at_met2 _ _ ⟨n - (k + 1), by omega, k + 1, v, q, L, rfl, rfl, rfl, rfl, by omega, fil_no hx hc15 hO, by omega⟩ (.cons rfl (.cons rfl (.cons rfl (.cons rfl (.cons rfl .nil))))) (by repeat (first | exact .refl | exact subL_left | refine subL_app ?_ | refine .drop ?_ | refine subL_add ?_))
 have hge_k : n ≤ k := by have h := hc10; simp at h; omega
 refine X_exit ?_
 refine at_then_e ?_
 refine at_then_e ?_
 refine at_block_hit ?_
 refine at_then ?_
 refine X_seq ?_
 refine X_freezeO hO encI_len (by decide) split_all (fun I2 hI2 af2 cf2 ef2 hR => ?_)
 subst ef2
 have hS := hS.mono hI2; have hIc := hIc.trans hI2
 refine X_region ?_
 refine zM ?_
 refine zA ?_
 refine zN ?_
 refine X_ret ?_
 exact at_ret1 rfl rfl (fun w hw => ⟨_, I2, [], rfl, hIc, hw.drop, .good (by rw [take_all hS.len hge_k]) hR⟩)
theorem w_cloneL {I : HMap} {av : Option Addr} {n c : Nat} {xs : List Ls} (hS : Sl I 5 encL av n c xs) (hn : n ≤ 100000) : RetM Tryz.prog 50 [.slice av n c] I [] (fun v I' L => I' = I ∧ OwnS 55 5 v n (xs.flatMap encL) L) := by
 intro g H w hw
 refine enter Tryz.func50 rfl Tryz.ntmps50 rfl hw ?_
 refine zR ?_
 refine zA ?_
 refine zN ?_
 refine X_seq ?_
 refine zR ?_
 refine zM ?_
 refine zV (ev_eqNil rfl rfl slt_25) ?_
 refine zN ?_
 refine zI ?_ ?_ <;> intro hc4
 ·
  have hn0 : n = 0 := Decidable.byContradiction fun h => by have := hS.base h; rw [this] at hc4; cases hc4
  have hl := hS.len
  subst hn0
  have hx0 := List.eq_nil_of_length_eq_zero hl
  subst hx0
  refine zR ?_
  refine zA ?_
  refine zN ?_
  refine X_ret ?_
  refine at_then_r ?_
  first
  | exact at_ret1 rfl rfl (fun w hw => ⟨_, I, _, rfl, HLe.refl _, hw, rfl, OwnS.nil⟩)
  | exact at_ret1 rfl rfl (fun w hw => ⟨_, I, _, rfl, HLe.refl _, hw.subL subL_left, rfl, hO1⟩)
 refine X_skip ?_
 refine at_then ?_
 refine zR ?_
 refine XO_buildSlice (ps := []) (m := []) elt_25 rfl (.nil) rfl (by simp) (by decide) (by decide) rfl rfl (fun b_5 => ?_)
 refine zM ?_
 refine XO_append (v := _) (ys := xs.flatMap encL) (L := [(b_5, _)]) rfl rfl elt_25 OwnS.new (by repeat (first | exact .cons .here .nil | exact split_all | exact split_app | apply split_cons | apply split_skip)) (hS.src encL_len) (one_L _) (by omega) rfl rfl ?_
 intro v1 L1 hO1 _; rw [List.nil_append, Nat.zero_add] at hO1
 refine zA ?_
 refine zN ?_
 refine X_ret ?_
 first
 | exact at_ret1 rfl rfl (fun w hw => ⟨_, I, _, rfl, HLe.refl _, hw, rfl, OwnS.nil⟩)
 | exact at_ret1 rfl rfl (fun w hw => ⟨_, I, _, rfl, HLe.refl _, hw.subL subL_left, rfl, hO1⟩)
theorem w_cloneH {I : HMap} {av : Option Addr} {n c : Nat} {xs : List Hd} (hS : Sl I 1 encH av n c xs) (hn : n ≤ 100000) : RetM Tryz.prog 32 [.slice av n c] I [] (fun v I' L => I' = I ∧ OwnS 24 1 v n (xs.flatMap encH) L) := by
 intro g H w hw
 refine enter Tryz.func32 rfl Tryz.ntmps32 rfl hw ?_
 refine zR ?_
 refine zA ?_
 refine zN ?_
 refine X_seq ?_
 refine zR ?_
 refine zM ?_
 refine zV (ev_eqNil rfl rfl slt_23) ?_
 refine zN ?_
 refine zI ?_ ?_ <;> intro hc4
 ·
  have hn0 : n = 0 := Decidable.byContradiction fun h => by have := hS.base h; rw [this] at hc4; cases hc4
  have hl := hS.len
  subst hn0
  have hx0 := List.eq_nil_of_length_eq_zero hl
  subst hx0
  refine zR ?_
  refine zA ?_
  refine zN ?_
  refine X_ret ?_
  refine at_then_r ?_
  first
  | exact at_ret1 rfl rfl (fun w hw => ⟨_, I, _, rfl, HLe.refl _, hw, rfl, OwnS.nil⟩)
  | exact at_ret1 rfl rfl (fun w hw => ⟨_, I, _, rfl, HLe.refl _, hw.subL subL_left, rfl, hO1⟩)
 refine X_skip ?_
 refine at_then ?_
 refine zR ?_
 refine XO_buildSlice (ps := []) (m := []) elt_23 rfl (.nil) rfl (by simp) (by decide) (by decide) rfl rfl (fun b_5 => ?_)
 refine zM ?_
 refine XO_append (v := _) (ys := xs.flatMap encH) (L := [(b_5, _)]) rfl rfl elt_23 OwnS.new (by repeat (first | exact .cons .here .nil | exact split_all | exact split_app | apply split_cons | apply split_skip)) (hS.src encH_len) (one_H _) (by omega) rfl rfl ?_
 intro v1 L1 hO1 _; rw [List.nil_append, Nat.zero_add] at hO1
 refine zA ?_
 refine zN ?_
 refine X_ret ?_
 first
 | exact at_ret1 rfl rfl (fun w hw => ⟨_, I, _, rfl, HLe.refl _, hw, rfl, OwnS.nil⟩)
 | exact at_ret1 rfl rfl (fun w hw => ⟨_, I, _, rfl, HLe.refl _, hw.subL subL_left, rfl, hO1⟩)
end Go.Proofs.YtclkmnidgdkekaaGreat.L
end
section
namespace Go.Proofs.YtclkmnidgdkekaaGreat.L
open Go Go.Kn Go.Proofs
theorem half_eq (i j : Nat) (h : i + j ≤ 1000000) : IntKind.i64.wrap ((IntKind.u64.wrap ((i : Int) + (j : Int))).fdiv (2 ^ 1)) = (((i + j) / 2 : Nat) : Int) := by
 have h1 : IntKind.u64.wrap ((i : Int) + (j : Int)) = ((i + j : Nat) : Int) := by
  rw [show ((i : Int) + (j : Int)) = ((i + j : Nat) : Int) by omega]
  unfold IntKind.wrap IntKind.signed IntKind.bits
  simp
  omega
 rw [h1, show ((2 : Int) ^ 1) = ((2 : Nat) : Int) from rfl, Int.fdiv_eq_ediv_of_nonneg _ (by omega), ← Int.natCast_ediv]
 exact wrap_in ⟨by omega, by omega⟩
theorem cmp_eq {x y : Int} : (cmpF x y == 0) = (x == y) := by
 unfold cmpF
 by_cases h : x < y
 ·
  rw [if_pos h]; have : x ≠ y := by omega
  simp [this]
 rw [if_neg h]
 by_cases h2 : x > y
 ·
  rw [if_pos h2]; have : x ≠ y := by omega
  simp [this]
 rw [if_neg h2]; have : x = y := by omega
 simp [this]
theorem bs_low {xs : List Ls} (hc : ckB xs = true) {no : Int} {h : Nat} {y : Ls} (hy : xs[h]? = some y) (hlt : y.no < no) : (xs.take (h + 1)).all (fun y => decide (y.no < no)) = true := by
 rw [List.all_eq_true]
 intro z hz
 obtain ⟨q, hq⟩ := List.getElem?_of_mem hz
 have hq1 : q < h + 1 := by have := (List.getElem?_eq_some_iff.1 hq).1; rw [List.length_take] at this; omega
 rw [List.getElem?_take_of_lt hq1] at hq
 obtain ⟨h1, h2⟩ := List.getElem?_eq_some_iff.1 hq
 obtain ⟨h3, h4⟩ := List.getElem?_eq_some_iff.1 hy
 by_cases e : q = h
 ·
  subst e; rw [hy] at hq; cases hq; simpa using hlt
 have := List.pairwise_iff_getElem.1 (ckB_sorted hc) q h h1 h3 (by omega)
 rw [h2, h4] at this
 simp; omega
theorem bs_high {xs : List Ls} (hc : ckB xs = true) {no : Int} {h : Nat} {y : Ls} (hy : xs[h]? = some y) (hlt : ¬ y.no < no) : ∀ q z, h ≤ q → xs[q]? = some z → ¬ z.no < no := fun q z hq hz => by
 obtain ⟨h1, h2⟩ := List.getElem?_eq_some_iff.1 hz
 obtain ⟨h3, h4⟩ := List.getElem?_eq_some_iff.1 hy
 by_cases e : q = h
 ·
  subst e; rw [hy] at hz; cases hz; exact hlt
 have := List.pairwise_iff_getElem.1 (ckB_sorted hc) h q h3 h1 (by omega)
 rw [h2, h4] at this
 omega
def lowI (xs : List Ls) (no : Int) : Nat := (xs.takeWhile (fun y => decide (y.no < no))).length
theorem low_eq {xs : List Ls} {no : Int} {i n : Nat} (hl : xs.length = n) (hi : i ≤ n) (h : (xs.take i).all (fun y => decide (y.no < no)) = true) (h2 : ∀ q z, i ≤ q → xs[q]? = some z → ¬ z.no < no) : lowI xs no = i := by
 unfold lowI
 rw [(tw_eq h (by omega) (fun y hy => decide_eq_false (h2 i y (Nat.le_refl _) hy))).1, List.length_take]; omega
theorem low_found {xs : List Ls} (hc : ckB xs = true) {no : Int} {i n : Nat} (hl : xs.length = n) (h : (xs.take i).all (fun y => decide (y.no < no)) = true) (h2 : ∀ q z, i ≤ q → xs[q]? = some z → ¬ z.no < no) :
  (decide ((i : Int) < (n : Int)) && (cmpF (xs.getD i zeroL).no no == 0)) = xs.any (fun y => y.no == no) := by
 rw [cmp_eq]
 by_cases hi : i < n
 ·
  have hy := some_getD (d := zeroL) hl hi
  by_cases e : (xs.getD i zeroL).no = no
  ·
   rw [show decide ((i : Int) < (n : Int)) = true from decide_eq_true (by omega), Bool.true_and, show ((xs.getD i zeroL).no == no) = true by simpa using e]
   exact (List.any_eq_true.2 ⟨_, List.mem_of_getElem? hy, by simpa using e⟩).symm
  rw [beq_false_of_ne e, Bool.and_false]
  refine ((add_miss (x := ⟨no, 0, 0, 0, 0⟩) hc h fun y hy2 => ?_)).symm
  rw [hy] at hy2; cases hy2
  have := h2 i _ (Nat.le_refl _) hy
  show no < _
  omega
 rw [show decide ((i : Int) < (n : Int)) = false from decide_eq_false (by omega), Bool.false_and]
 exact (add_miss (x := ⟨no, 0, 0, 0, 0⟩) hc h fun y hy2 => by have := (List.getElem?_eq_some_iff.1 hy2).1; omega).symm
theorem w_search {I : HMap} {av : Option Addr} {n c : Nat} {xs : List Ls} (hS : Sl I 5 encL av n c xs) (hn : n ≤ 100000) (hck : ckB xs = true) (no : Int) : RetV Tryz.prog 46 [.slice av n c, .int .i64 no, .func (.func 47) #[] #[]] I (.tuple #[.int .i64 (lowI xs no : Nat), .bool (xs.any (fun y => y.no == no))]) := by
 intro g H w hw
 refine enter Tryz.func46 rfl Tryz.ntmps46 rfl hw ?_
 refine zR ?_
 refine zA ?_
 refine zA ?_
 refine zN (zR ?_)
 refine zM ?_
 refine zQ slt_25 ?_
 refine zA ?_
 refine zN (zR ?_)
 refine zM ?_
 refine zA ?_
 refine zA ?_
 refine zN ?_
 refine X_seq ?_
 refine X_block ?_
 refine X_loopT [(0, _), (1, _), (2, _), (8, _)] (.cons rfl (.cons rfl (.cons rfl (.cons rfl .nil)))) (fun T L0 mz E I' loc' => ∃ (i j : Nat), mz = j - i ∧ E = (9, .int .i64 i) :: (10, .int .i64 j) :: T ∧ I = I' ∧ L0 = loc' ∧ i ≤ j ∧ j ≤ n ∧ (xs.take i).all (fun y => decide (y.no < no)) = true ∧ ∀ q z, j ≤ q → xs[q]? = some z → ¬ z.no < no) _ _ _ _ ⟨0, n, rfl, rfl, rfl, rfl, Nat.zero_le _, Nat.le_refl _, rfl, fun q z h1 h2 => by have := (List.getElem?_eq_some_iff.1 h2).1; rw [hS.len] at this; omega⟩ (.cons rfl (.cons rfl (.cons rfl (.cons rfl (.cons rfl (.cons rfl .nil)))))) (HLe.refl _) rfl ?_
 rintro mz E I' loc' ⟨i, j, rfl, rfl, rfl, rfl, hij, hjn, hlo, hhi⟩
 refine X_seq ?_
 refine zR ?_
 refine zM ?_
 refine zM ?_
 refine zC ?_
 refine zN ?_
 refine zI ?_ ?_ <;> intro hc17
 ·
  have hlt : i < j := by have h := hc17; simp at h; omega
  obtain ⟨y, hy⟩ := hS.at (k := (i + j) / 2) (by omega)
  refine X_skip ?_
  refine at_then ?_
  refine X_block ?_
  refine zR ?_
  refine zM ?_
  refine zM ?_
  refine zV (ev_arB rfl rfl rfl (fun _ => by omega)) ?_
  refine zV (ev_convI rfl cvt_3_118) ?_
  refine zV (ev_shr rfl rfl (by decide) (rfl : min _ _ = 1)) ?_
  refine zV (ev_convI rfl cvt_118_3) ?_
  refine zA ?_
  refine XO_nil ?_
  rw [half_eq i j (by omega)]
  refine at_then ?_
  refine zR ?_
  refine zM ?_
  refine zM ?_
  refine zM ?_
  refine zV (ev_indexSl rfl rfl slt_25 (by assumption) (fun hg => by first | omega | (simp [conj] at hg; omega))) ?_
  refine zV (ev_loadA rfl agt_55 (fun hg => by first | exact Sl.getA (k := (i + j) / 2) hS hy | exact Sl.getA (k := i) hS (some_getD (d := zeroL) hS.len (by simp [conj] at hg; omega)) | exact Sl.getA (k := j) hS (some_getD (d := zeroL) hS.len (by simp [conj] at hg; omega)) | (repeat (first | exact Cells.here | exact Cells.s0 (vs := [_, _, _, _, _]) rfl | apply Cells.there | apply Cells.app))) rfl) ?_
  refine zM ?_
  refine XO_callV0 (cap := []) (vs := [_, _]) rfl rfl fun_47 (w_addc I _ _) rfl rfl ?_
  refine zC ?_
  refine zN ?_
  refine zI ?_ ?_ <;> intro hc31
  ·
   refine X_region ?_
   refine zM ?_
   refine zV (ev_arB rfl rfl rfl (fun _ => by omega)) ?_
   refine zA ?_
   refine XO_nil ?_
   refine at_block_n ?_
   first
   | exact at_met2 _ _ ⟨j - ((i + j) / 2 + 1), by omega, (i + j) / 2 + 1, j, rfl, rfl, rfl, rfl, by omega, hjn, bs_low hck hy (by rw [cmp_lt] at hc31; simpa using hc31), hhi⟩ (.cons rfl (.cons rfl (.cons rfl (.cons rfl (.cons rfl (.cons rfl .nil)))))) (by repeat (first | exact .refl | exact subL_left | refine subL_app ?_ | refine .drop ?_ | refine subL_add ?_))
   | exact at_met2 _ _ ⟨(i + j) / 2 - i, by omega, i, (i + j) / 2, rfl, rfl, rfl, rfl, by omega, by omega, hlo, bs_high hck hy (by rw [cmp_lt] at hc31; simpa using hc31)⟩ (.cons rfl (.cons rfl (.cons rfl (.cons rfl (.cons rfl (.cons rfl .nil)))))) (by repeat (first | exact .refl | exact subL_left | refine subL_app ?_ | refine .drop ?_ | refine subL_add ?_))
  refine X_region ?_
  refine zM ?_
  refine zA ?_
  refine XO_nil ?_
  refine at_block_n ?_
  first
  | exact at_met2 _ _ ⟨j - ((i + j) / 2 + 1), by omega, (i + j) / 2 + 1, j, rfl, rfl, rfl, rfl, by omega, hjn, bs_low hck hy (by rw [cmp_lt] at hc31; simpa using hc31), hhi⟩ (.cons rfl (.cons rfl (.cons rfl (.cons rfl (.cons rfl (.cons rfl .nil)))))) (by repeat (first | exact .refl | exact subL_left | refine subL_app ?_ | refine .drop ?_ | refine subL_add ?_))
  | exact at_met2 _ _ ⟨(i + j) / 2 - i, by omega, i, (i + j) / 2, rfl, rfl, rfl, rfl, by omega, by omega, hlo, bs_high hck hy (by rw [cmp_lt] at hc31; simpa using hc31)⟩ (.cons rfl (.cons rfl (.cons rfl (.cons rfl (.cons rfl (.cons rfl .nil)))))) (by repeat (first | exact .refl | exact subL_left | refine subL_app ?_ | refine .drop ?_ | refine subL_add ?_))
 have hge : j ≤ i := by have h := hc17; simp at h; omega
 have hje : j = i := by omega
 subst hje
 refine X_exit ?_
 refine at_then_e ?_
 refine at_then_e ?_
 refine at_block_hit ?_
 refine at_then ?_
 refine zR ?_
 refine zM ?_
 refine zM ?_
 refine zM ?_
 refine zC ?_
 refine zM ?_
 refine XO_pushT 4 rfl rfl rfl ?_
 refine zK (ev_move rfl) ?_
 refine zK (ev_move rfl) ?_
 refine zK (ev_move rfl) ?_
 refine zK (ev_indexSl rfl rfl slt_25 (by assumption) (fun hg => by first | omega | (simp [conj] at hg; omega))) ?_
 refine zK (ev_loadA rfl agt_55 (fun hg => by first | exact Sl.getA (k := (i + j) / 2) hS hy | exact Sl.getA (k := i) hS (some_getD (d := zeroL) hS.len (by simp [conj] at hg; omega)) | exact Sl.getA (k := j) hS (some_getD (d := zeroL) hS.len (by simp [conj] at hg; omega)) | (repeat (first | exact Cells.here | exact Cells.s0 (vs := [_, _, _, _, _]) rfl | apply Cells.there | apply Cells.app))) rfl) ?_
 refine zK (ev_move rfl) ?_
 refine XO_callV1 (cap := []) (vs := [_, _]) rfl rfl fun_47 (fun hg => w_addc I _ _) (.some rfl rfl rfl rfl gbt) rfl rfl ?_
 refine zK (ev_cmp rfl rfl rfl) ?_
 refine XO_and0 rfl rfl rfl rfl rfl ?_
 refine zA ?_
 refine zA ?_
 refine zN ?_
 refine X_ret ?_
 exact at_ret2 rfl rfl rfl (fun w hw => ⟨by rw [low_found hck hS.len hlo hhi, low_eq hS.len hjn hlo hhi], hw.drop⟩)
theorem split3 {zs : List Value} {a b : Nat} (h : a + b ≤ zs.length) : ∃ p q r, zs = p ++ (q ++ r) ∧ p.length = a ∧ q.length = b :=
 ⟨zs.take a, (zs.drop a).take b, (zs.drop a).drop b, by rw [List.take_append_drop, List.take_append_drop], by rw [List.length_take]; omega, by rw [List.length_take, List.length_drop]; omega⟩
theorem lenL (xs : List Ls) : (xs.flatMap encL).length = xs.length * 5 := flat_len encL_len xs
theorem own_row {b n c : Nat} {xs : List Ls} {cur rest : List Value} (hl : xs.length = n) (hn : n ≤ c) (hc : c ≤ maxLen) (hcur : cur = xs.flatMap encL ++ rest) (hs : cur.length = c * 5) : OwnS 55 5 (.slice (some ⟨b, 0, none⟩) n c) n (xs.flatMap encL) [(b, .cells cur.toArray 55 (0, 0))] := by
 subst hcur
 refine ⟨by rw [lenL, hl], .inr ⟨b, c, _, rfl, rfl, hn, hc, by simpa using hs, ?_⟩⟩
 rw [List.take_left' (by rw [lenL, hl])]
theorem w_ins_end {I : HMap} {av : Option Addr} {n c : Nat} {xs : List Ls} {L : Go.Kn.Loc} (hO : OwnS 55 5 (.slice av n c) n (xs.flatMap encL) L) (hn : n ≤ 100000) (hl : xs.length = n) (b2 : Nat) (y : Ls) : RetM Tryz.prog 49 [.slice av n c, .int .i64 n, .slice (some ⟨b2, 0, none⟩) 1 1] I (L ++ [(b2, .cells [encL y].flatten.toArray 55 (0, 0))]) (fun v' I' L' => I' = I ∧ OwnS 55 5 v' (n + 1) ((xs.take n ++ y :: xs.drop n).flatMap encL) L') := by
 intro g H w hw
 refine enter Tryz.func49 rfl Tryz.ntmps49 rfl hw ?_
 refine zR ?_
 refine zA ?_
 refine zN (zR ?_)
 refine zM ?_
 refine zM ?_
 refine zV (ev_sliceLo rfl rfl slt_25 (fun hg => by omega)) ?_
 refine zN (zR ?_)
 refine zM ?_
 refine zQ slt_25 ?_
 refine zA ?_
 refine zN ?_
 refine X_seq ?_
 refine zR ?_
 refine zM ?_
 refine zC ?_
 refine zN ?_
 refine zI ?_ ?_ <;> intro hc16
 ·
  exact absurd hc16 (by decide)
 refine X_skip ?_
 refine at_then ?_
 refine zR ?_
 refine zM ?_
 refine zQ slt_25 ?_
 refine zA ?_
 refine zN ?_
 refine X_seq ?_
 refine zR ?_
 refine zM ?_
 refine zM ?_
 refine zC ?_
 refine zN ?_
 refine zI ?_ ?_ <;> intro hc22
 ·
  refine zR ?_
  refine zM ?_
  refine zM ?_
  refine XO_append (v := _) (ys := [encL y].flatten) (L := L) rfl rfl elt_25 hO (by repeat (first | exact .cons .here .nil | exact split_all | exact split_app | apply split_cons | apply split_skip)) ⟨rfl, fun _ => rfl, .app Cells.here⟩ rfl (by omega) rfl rfl ?_
  intro v' L' hO' _
  refine zA ?_
  refine zN ?_
  refine X_ret ?_
  refine at_then_r ?_
  exact at_ret1 rfl rfl (fun w hw => ⟨_, I, _, rfl, HLe.refl _, hw.subL subL_left, rfl, by rw [List.take_of_length_le (by omega), List.drop_eq_nil_of_le (by omega)]; simpa [List.flatMap_append] using hO'⟩)
 exact absurd hc22 (by simp)
theorem w_ins_in {I : HMap} {b n c i : Nat} {xs : List Ls} {R : List Value} (hl : xs.length = n) (hi : i < n) (hn : n ≤ 100000) (hnc : n ≤ c) (hcm : c ≤ maxLen) (hR : (((xs.take i).flatMap encL) ++ ((xs.drop i).flatMap encL) ++ R).length = c * 5) (b2 : Nat) (hne : b2 ≠ b) (y : Ls) : RetM Tryz.prog 49 [.slice (some ⟨b, 0, none⟩) n c, .int .i64 i, .slice (some ⟨b2, 0, none⟩) 1 1] I ([(b, .cells (((xs.take i).flatMap encL) ++ ((xs.drop i).flatMap encL) ++ R).toArray 55 (0, 0)), (b2, .cells [encL y].flatten.toArray 55 (0, 0))]) (fun v' I' L' => I' = I ∧ OwnS 55 5 v' (n + 1) ((xs.take i ++ y :: xs.drop i).flatMap encL) L') := by
 intro g H w hw
 refine enter Tryz.func49 rfl Tryz.ntmps49 rfl hw ?_
 have hA : ((xs.take i).flatMap encL).length = i * 5 := by rw [lenL, List.length_take]; omega
 have hB : ((xs.drop i).flatMap encL).length = (n - i) * 5 := by rw [lenL, List.length_drop]; omega
 refine zR ?_
 refine zA ?_
 refine zN (zR ?_)
 refine zM ?_
 refine zM ?_
 refine zV (ev_sliceLoB rfl rfl slt_25 (by omega)) ?_
 refine zN (zR ?_)
 refine zM ?_
 refine zQ slt_25 ?_
 refine zA ?_
 refine zN ?_
 refine X_seq ?_
 refine zR ?_
 refine zM ?_
 refine zC ?_
 refine zN ?_
 refine zI ?_ ?_ <;> intro hc16
 ·
  exact absurd hc16 (by decide)
 refine X_skip ?_
 refine at_then ?_
 refine zR ?_
 refine zM ?_
 refine zQ slt_25 ?_
 refine zA ?_
 refine zN ?_
 refine X_seq ?_
 refine zR ?_
 refine zM ?_
 refine zM ?_
 refine zC ?_
 refine zN ?_
 refine zI ?_ ?_ <;> intro hc22
 ·
  have h := hc22; simp at h; omega
 refine X_skip ?_
 refine at_then ?_
 refine X_seq ?_
 refine zR ?_
 refine zM ?_
 refine zM ?_
 refine zV (ev_arB rfl rfl rfl (fun _ => by omega)) ?_
 refine zM ?_
 refine zV (ev_cap rfl slt_25) ?_
 refine zC ?_
 refine zN ?_
 refine zI ?_ ?_ <;> intro hc31
 ·
  have hgr : c < n + 1 := by have h := hc31; simp at h; omega
  refine zR ?_
  refine zM ?_
  refine zM ?_
  refine zV (ev_sliceHi rfl rfl slt_25 (fun hg => by omega)) ?_
  refine zM ?_
  refine zM ?_
  refine zV (ev_arB rfl rfl rfl (fun _ => by omega)) ?_
  refine zM ?_
  refine zV (ev_arB rfl rfl rfl (fun _ => by omega)) ?_
  refine XO_appendZ (ys := ((xs.take i).flatMap encL)) rfl rfl elt_25 und_3 (by omega) (by decide) (by omega) hA (Cells.part (pre := []) (post := ((xs.drop i).flatMap encL) ++ R) (by rw [List.nil_append, ← List.append_assoc]; exact .here) rfl) (by omega) rfl rfl (fun b3 c3 zs hc3 hm3 hz3 => ?_)
  obtain ⟨z1, z2, z3, rfl, hz1, hz2⟩ := split3 (zs := zs) (a := 5) (b := (n - i) * 5) (by rw [List.length_append, hA] at hz3; omega)
  refine zA ?_
  refine zN (zR ?_)
  refine zM ?_
  refine zM ?_
  refine zV (ev_sliceLoB rfl rfl slt_25 (by omega)) ?_
  refine zM ?_
  refine XO_copy (pre := ((xs.take i).flatMap encL)) (old := z1) (post := z2 ++ z3) (vs := [encL y].flatten) (cur' := (((xs.take i).flatMap encL) ++ [encL y].flatten ++ (z2 ++ z3)).toArray) (by rw [List.append_assoc]) rfl rfl rfl slt_25 (by show 5 = _; simp only [Nat.min_def]; split <;> omega) (by rw [hz1]; rfl) (by omega) (fun _ => rfl) (.there (.there .here)) rfl rfl rfl .here ?_
  refine zN ?_
  refine X_seq ?_
  have hD := HLe.refl I
  refine X_noP ?_
  refine X_drawS I [] mixed ?_
  refine zT 0 rfl (ev_move rfl) hD ?_
  refine zT 1 rfl (ev_move rfl) hD ?_
  refine zT 2 rfl (ev_move rfl) hD ?_
  refine zT 3 rfl (ev_arB rfl rfl rfl (fun _ => by omega)) hD ?_
  refine zT 4 rfl (ev_sliceLoB rfl rfl slt_25 (by omega)) hD ?_
  refine zT 5 rfl (ev_move rfl) hD ?_
  refine zT 6 rfl (ev_move rfl) hD ?_
  refine zT 7 rfl (ev_sliceLoB rfl rfl slt_25 (by omega)) hD ?_
  refine XD_one 8 rfl (by kernel_rfl) ?_
  refine XO_copy (pre := ((xs.take i).flatMap encL) ++ [encL y].flatten) (old := z2) (post := z3) (vs := ((xs.drop i).flatMap encL)) (cur' := (((xs.take i).flatMap encL) ++ [encL y].flatten ++ ((xs.drop i).flatMap encL) ++ z3).toArray) (by rw [List.append_assoc, List.append_assoc, List.append_assoc]) rfl rfl rfl slt_25 (by rw [hB]; simp only [Nat.min_def]; split <;> omega) (by rw [hz2, hB]) (by rw [List.length_append, hA]; show i * 5 + 5 = _; omega) (fun _ => rfl) (.there (Cells.part (pre := ((xs.take i).flatMap encL)) (post := R) .here (by show 0 + _ = _; rw [hA]; omega))) (one_L _) rfl rfl .here ?_
  refine XO_nil ?_
  refine zD hD ?_
  refine XD_done (by kernel_rfl) ?_
  refine at_noP ?_
  refine at_then ?_
  refine zR ?_
  refine zM ?_
  refine zA ?_
  refine zN ?_
  refine X_ret ?_
  refine at_then_r ?_
  first
  | exact at_ret1 rfl rfl (fun w hw => ⟨_, I, _, rfl, HLe.refl _, hw.subL (.keep subL_nil), rfl, by rw [show (i : Int).toNat + ((n : Int) + ((1 : Nat) : Int) - (i : Int)).toNat = n + 1 by omega]; exact own_row (rest := z3) (by simp [hl]; omega) (by omega) hm3 (by simp [List.flatMap_append, List.flatMap_cons]) (by simp only [List.length_append, hA, hB, hz1, hz2] at hz3 ⊢; show _ + 5 + _ + _ = _; omega)⟩)
  | exact at_ret1 rfl rfl (fun w hw => ⟨_, I, _, rfl, HLe.refl _, hw.subL (.keep subL_nil), rfl, by rw [show ((n : Int) + ((1 : Nat) : Int)).toNat = n + 1 by omega]; exact own_row (rest := R2) (by simp [hl]; omega) hgr hcm (by simp [List.flatMap_append, List.flatMap_cons]) (by simp only [List.length_append, hA, hB, hr5] at hR ⊢; show _ + 5 + _ = _; omega)⟩)
 have hgr : n + 1 ≤ c := by have h := hc31; simp at h; omega
 refine X_skip ?_
 refine at_then ?_
 refine X_seq ?_
 obtain ⟨r5, R2, rfl, hr5⟩ : ∃ r5 R2, R = r5 ++ R2 ∧ r5.length = 5 := ⟨R.take 5, R.drop 5, by rw [List.take_append_drop], by rw [List.length_take]; simp only [List.length_append, hA, hB] at hR; omega⟩
 obtain ⟨p1, p2, hpp, hp1, hp2⟩ : ∃ p1 p2, ((xs.drop i).flatMap encL) ++ r5 = p1 ++ p2 ∧ p1.length = 5 ∧ p2.length = (n - i) * 5 := ⟨(((xs.drop i).flatMap encL) ++ r5).take 5, (((xs.drop i).flatMap encL) ++ r5).drop 5, by rw [List.take_append_drop], by rw [List.length_take, List.length_append, hB, hr5]; omega, by rw [List.length_drop, List.length_append, hB, hr5]; omega⟩
 have hcur : (((xs.take i).flatMap encL) ++ ((xs.drop i).flatMap encL) ++ (r5 ++ R2)).toArray = (((xs.take i).flatMap encL) ++ p1 ++ p2 ++ R2).toArray := by rw [List.append_assoc (((xs.take i).flatMap encL) ++ p1), List.append_assoc ((xs.take i).flatMap encL) p1, ← List.append_assoc p1, ← hpp]; simp only [List.append_assoc]
 refine X_region ?_
 refine zM ?_
 refine zM ?_
 refine zM ?_
 refine zV (ev_arB rfl rfl rfl (fun _ => by omega)) ?_
 refine zV (ev_sliceHi rfl rfl slt_25 (fun hg => by omega)) ?_
 refine zA ?_
 refine zN ?_
 refine X_seq ?_
 refine zR ?_
 refine zM ?_
 refine zM ?_
 refine zM ?_
 refine zM ?_
 refine zV (ev_arB rfl rfl rfl (fun _ => by omega)) ?_
 refine zV (ev_sliceLoB rfl rfl slt_25 (by omega)) ?_
 refine XO_overlaps rfl rfl rfl Tryz.func81 (by kernel_rfl) (by kernel_rfl) (by kernel_rfl) (by kernel_rfl : Extern.find Tryz.f81 = some (Extern.SlicesOverlaps.overlaps #[25, 25] #[4])) slt_25 hne (List.mem_cons_of_mem _ (List.mem_cons_self ..)) (List.mem_cons_self ..) (by rw [List.size_toArray, hR]; omega) rfl rfl ?_
 refine zO ?_
 refine zN ?_
 refine zI ?_ ?_ <;> intro hc68
 ·
  refine X_seq ?_
  have hD := HLe.refl I
  refine X_noP ?_
  refine X_drawS I [] mixed ?_
  refine zT 0 rfl (ev_move rfl) hD ?_
  refine zT 1 rfl (ev_move rfl) hD ?_
  refine zT 2 rfl (ev_move rfl) hD ?_
  refine zT 3 rfl (ev_arB rfl rfl rfl (fun _ => by omega)) hD ?_
  refine zT 4 rfl (ev_sliceLoB rfl rfl slt_25 (by omega)) hD ?_
  refine zT 5 rfl (ev_move rfl) hD ?_
  refine zT 6 rfl (ev_move rfl) hD ?_
  refine zT 7 rfl (ev_sliceLoB rfl rfl slt_25 (by omega)) hD ?_
  refine XD_one 8 rfl (by kernel_rfl) ?_
  refine XO_copy (pre := ((xs.take i).flatMap encL) ++ p1) (old := p2) (post := R2) (vs := ((xs.drop i).flatMap encL)) (cur' := (((xs.take i).flatMap encL) ++ p1 ++ ((xs.drop i).flatMap encL) ++ R2).toArray) hcur rfl rfl rfl slt_25 (by rw [hB]; simp only [Nat.min_def]; split <;> omega) (by rw [hp2, hB]) (by rw [List.length_append, hA, hp1]; omega) (fun _ => rfl) (Cells.part (pre := ((xs.take i).flatMap encL)) (post := r5 ++ R2) .here (by show 0 + _ = _; rw [hA]; omega)) (one_L _) rfl rfl .here ?_
  refine XO_nil ?_
  refine zD hD ?_
  refine XD_done (by kernel_rfl) ?_
  refine at_noP ?_
  refine at_then ?_
  refine zR ?_
  refine zM ?_
  refine zM ?_
  refine zV (ev_sliceLoB rfl rfl slt_25 (by omega)) ?_
  refine zM ?_
  refine XO_copy (pre := ((xs.take i).flatMap encL)) (old := p1) (post := ((xs.drop i).flatMap encL) ++ R2) (vs := [encL y].flatten) (cur' := (((xs.take i).flatMap encL) ++ [encL y].flatten ++ (((xs.drop i).flatMap encL) ++ R2)).toArray) (by rw [List.append_assoc (_ ++ _)]) rfl rfl rfl slt_25 (by show 5 = _; simp only [Nat.min_def]; split <;> omega) (by rw [hp1]; rfl) (by omega) (fun _ => rfl) (.there .here) rfl rfl rfl .here ?_
  refine zN (zR ?_)
  refine zM ?_
  refine zA ?_
  refine zN ?_
  refine X_ret ?_
  refine at_then_r ?_
  first
  | exact at_ret1 rfl rfl (fun w hw => ⟨_, I, _, rfl, HLe.refl _, hw.subL (.keep subL_nil), rfl, by rw [show (i : Int).toNat + ((n : Int) + ((1 : Nat) : Int) - (i : Int)).toNat = n + 1 by omega]; exact own_row (rest := z3) (by simp [hl]; omega) (by omega) hm3 (by simp [List.flatMap_append, List.flatMap_cons]) (by simp only [List.length_append, hA, hB, hz1, hz2] at hz3 ⊢; show _ + 5 + _ + _ = _; omega)⟩)
  | exact at_ret1 rfl rfl (fun w hw => ⟨_, I, _, rfl, HLe.refl _, hw.subL (.keep subL_nil), rfl, by rw [show ((n : Int) + ((1 : Nat) : Int)).toNat = n + 1 by omega]; exact own_row (rest := R2) (by simp [hl]; omega) hgr hcm (by simp [List.flatMap_append, List.flatMap_cons]) (by simp only [List.length_append, hA, hB, hr5] at hR ⊢; show _ + 5 + _ = _; omega)⟩)
 cases hc68
end Go.Proofs.YtclkmnidgdkekaaGreat.L
end
section
namespace Go.Proofs.YtclkmnidgdkekaaGreat.L
open Go Go.Kn Go.Proofs
def cmpG (x y : Int) : Int := if x < y then -1 else if x > y then 1 else 0
/-- The first that is not zero. -/
def orF : List Int → Int
  | [] => 0
  | x :: xs => if x ≠ 0 then x else orF xs
def cmp3 (x y : Ls) : Int := orF [cmpG x.at_ y.at_, cmpG x.known y.known, cmpG x.no y.no]
theorem cmp3_later (x y : Ls) : decide (cmp3 x y > 0) = laterF x y := by
  unfold cmp3 laterF
  have key : ∀ a b : Int, (a < b → cmpG a b = -1) ∧ (a > b → cmpG a b = 1) ∧ (a = b → cmpG a b = 0) := fun a b => by
    unfold cmpG
    refine ⟨fun h => by rw [if_pos h], fun h => by rw [if_neg (by omega), if_pos h], fun h => by rw [if_neg (by omega), if_neg (by omega)]⟩
  rcases Int.lt_trichotomy x.at_ y.at_ with h | h | h
  · rw [(key _ _).1 h, if_pos (by omega)]; simp [orF]; omega
  · rw [(key _ _).2.2 h, if_neg (by omega)]
    rcases Int.lt_trichotomy x.known y.known with h2 | h2 | h2
    · rw [(key _ _).1 h2, if_pos (by omega)]; simp [orF]; omega
    · rw [(key _ _).2.2 h2, if_neg (by omega)]
      rcases Int.lt_trichotomy x.no y.no with h3 | h3 | h3
      · rw [(key _ _).1 h3]; simp [orF]; omega
      · rw [(key _ _).2.2 h3]; simp [orF]; omega
      · rw [(key _ _).2.1 h3]; simp [orF]; omega
    · rw [(key _ _).2.1 h2, if_pos (by omega)]; simp [orF]; omega
  · rw [(key _ _).2.1 h, if_pos (by omega)]; simp [orF]; omega
def knownP (day time : Int) (x : Ls) : Bool := decide (x.known ≤ time) && decide (x.at_ ≤ day)
def vStep (m : List (Int × Ls)) (x : Ls) : List (Int × Ls) := if bestO (mget m x.person) x then mset m x.person x else m
def versM (l : List Ls) : List (Int × Ls) := l.foldl vStep []
theorem versM_snoc (l : List Ls) (x : Ls) : versM (l ++ [x]) = vStep (versM l) x := by unfold versM; rw [List.foldl_append]; rfl
theorem mget_mset {α β : Type} [DecidableEq α] (m : List (α × β)) (a k : α) (b : β) : mget (mset m a b) k = if a = k then some b else mget m k := by
  induction m with
  | nil => simp [mset, mget]
  | cons p m ih =>
    obtain ⟨q, v⟩ := p
    simp only [mset]
    split
    · rename_i h; subst h; simp only [mget]; split <;> rfl
    · rename_i h
      simp only [mget, ih]
      by_cases e : q = k
      · subst e; rw [if_pos rfl, if_pos rfl, if_neg (fun h2 => h h2.symm)]
      · rw [if_neg e, if_neg e]
theorem vers_get (day time : Int) (p : Int) : ∀ (xs : List Ls), mget (versM (xs.filter (knownP day time))) p = hasO xs p day time := by
  intro xs
  unfold versM hasO
  suffices h : ∀ (m : List (Int × Ls)) (b : Option Ls), mget m p = b → mget ((xs.filter (knownP day time)).foldl vStep m) p = xs.foldl (bestF p day time) b from h [] none rfl
  induction xs with
  | nil => intro m b h; exact h
  | cons x xs ih =>
    intro m b h
    rw [List.filter_cons, List.foldl_cons]
    have hel : eligF p day time x = ((x.person == p) && knownP day time x) := by unfold eligF knownP; rw [Bool.and_assoc]
    by_cases hk : knownP day time x = true
    · rw [if_pos hk, List.foldl_cons]
      apply ih
      unfold vStep bestF
      by_cases hp : x.person = p
      · rw [hel, hk, hp, show (p == p) = true by simp, Bool.true_and, Bool.true_and, h]
        by_cases hb : bestO b x = true
        · rw [if_pos hb, if_pos hb, mget_mset, if_pos rfl]
        · rw [if_neg hb, if_neg hb, h]
      · rw [hel, beq_false_of_ne hp, Bool.false_and, Bool.false_and, if_neg Bool.false_ne_true]
        split
        · rw [mget_mset, if_neg hp, h]
        · exact h
    · rw [if_neg hk]
      apply ih
      unfold bestF
      rw [hel, show knownP day time x = false by simpa using hk, Bool.and_false, Bool.false_and, if_neg Bool.false_ne_true]
      exact h
theorem has_vers (xs : List Ls) (p day time : Int) : ((mget (versM (xs.filter (knownP day time))) p).getD zeroL).version = hasF xs p day time := by
  rw [vers_get]
  unfold hasF verF
  cases hasO xs p day time <;> rfl
theorem mset_len {α β : Type} [DecidableEq α] : ∀ (m : List (α × β)) (a : α) (b : β), (mset m a b).length ≤ m.length + 1
  | [], _, _ => Nat.le_refl _
  | p :: m, a, b => by
    simp only [mset]
    split
    · simp
    · have := mset_len m a b; simp; omega
theorem versM_len (l : List Ls) : (versM l).length ≤ l.length := by
  unfold versM
  suffices h : ∀ (m : List (Int × Ls)), (l.foldl vStep m).length ≤ m.length + l.length by simpa using h []
  induction l with
  | nil => intro m; simp
  | cons x l ih =>
    intro m
    rw [List.foldl_cons]
    have h1 := ih (vStep m x)
    have h2 : (vStep m x).length ≤ m.length + 1 := by
      unfold vStep
      split
      · exact mset_len _ _ _
      · omega
    rw [List.length_cons]; omega
/-- The keys are all different. -/
def Keys {α β : Type} (m : List (α × β)) : Prop := (m.map (·.1)).Nodup
theorem mset_keys {α β : Type} [DecidableEq α] : ∀ (m : List (α × β)) (a : α) (b : β), (mset m a b).map (·.1) = if a ∈ m.map (·.1) then m.map (·.1) else m.map (·.1) ++ [a]
  | [], a, b => by simp [mset]
  | p :: m, a, b => by
    simp only [mset]
    by_cases h : p.1 = a
    · rw [if_pos h, if_pos (by simp [h])]; simp [h]
    · rw [if_neg h, List.map_cons, mset_keys m a b]
      by_cases h2 : a ∈ m.map (·.1)
      · rw [if_pos h2, if_pos (by simp only [List.map_cons, List.mem_cons]; exact .inr h2)]; rfl
      · rw [if_neg h2, if_neg (by simp only [List.map_cons, List.mem_cons, not_or]; exact ⟨fun e => h e.symm, h2⟩)]; rfl
theorem Keys.mset {α β : Type} [DecidableEq α] {m : List (α × β)} (h : Keys m) (a : α) (b : β) : Keys (mset m a b) := by
  unfold Keys
  rw [mset_keys]
  split
  · exact h
  · rename_i h2
    exact List.nodup_append.2 ⟨h, by simp, fun x hx y hy e => by simp at hy; subst hy; subst e; exact h2 hx⟩
theorem versM_keys (l : List Ls) : Keys (versM l) := by
  unfold versM
  suffices h : ∀ (m : List (Int × Ls)), Keys m → Keys (l.foldl vStep m) from h [] (by simp [Keys])
  induction l with
  | nil => intro m h; exact h
  | cons x l ih =>
    intro m h
    rw [List.foldl_cons]
    refine ih _ ?_
    unfold vStep
    split
    · exact h.mset _ _
    · exact h
theorem mget_mem {α β : Type} [DecidableEq α] : ∀ {m : List (α × β)}, Keys m → ∀ {a : α} {b : β}, (a, b) ∈ m ↔ mget m a = some b
  | [], _, a, b => by simp [mget]
  | p :: m, h, a, b => by
    obtain ⟨h1, h2⟩ := List.nodup_cons.1 h
    have ih := mget_mem (m := m) h2 (a := a) (b := b)
    simp only [mget]
    by_cases e : p.1 = a
    · rw [if_pos e, List.mem_cons]
      constructor
      · rintro (rfl | hm)
        · rfl
        · subst e; exact absurd (List.mem_map.2 ⟨_, hm, rfl⟩) h1
      · intro e2
        have : p.2 = b := Option.some.inj e2
        left
        rw [← e, ← this]
    · rw [if_neg e, List.mem_cons, ih]
      constructor
      · rintro (rfl | hm)
        · exact absurd rfl e
        · exact hm
      · exact .inr
/-- The people of a map who have a version, in any order. -/
def pickP (version : Int) (p : Int × Ls) : Bool := p.2.version == version
def pickL (version : Int) (l : List (Int × Ls)) : List Int := (l.filter (pickP version)).map fun p => p.1
def pickS (m : List (Int × Ls)) (version : Int) (seen : List Nat) : List Int := pickL version (seen.filterMap fun i => m[i]?)
theorem pickS_yes {m : List (Int × Ls)} {version : Int} {seen : List Nat} {i : Nat} {p : Int × Ls} (hp : m[i]? = some p) (h : pickP version p = true) : pickS m version (seen ++ [i]) = pickS m version seen ++ [p.1] := by
  unfold pickS pickL
  rw [List.filterMap_append]
  simp [hp, h]
theorem pickS_no {m : List (Int × Ls)} {version : Int} {seen : List Nat} {i : Nat} {p : Int × Ls} (hp : m[i]? = some p) (h : pickP version p = false) : pickS m version (seen ++ [i]) = pickS m version seen := by
  unfold pickS pickL
  rw [List.filterMap_append]
  simp [hp, h]
theorem pickS_perm {m : List (Int × Ls)} {version : Int} {seen : List Nat} (h : seen.Perm (List.range m.length)) : (pickS m version seen).Perm (pickL version m) := by
  unfold pickS pickL
  have h1 := h.filterMap (fun i => m[i]?)
  rw [range_all] at h1
  exact (h1.filter _).map _
theorem sort_perm {a b : List Int} (h : a.Perm b) : sortI a = sortI b := by
  unfold sortI
  refine List.Perm.eq_of_pairwise (le := fun a b => decide (a ≤ b) = true) (fun a b _ _ h1 h2 => ?_) (List.pairwise_mergeSort ?_ ?_ a) (List.pairwise_mergeSort ?_ ?_ b) ((List.mergeSort_perm _ _).trans (h.trans (List.mergeSort_perm _ _).symm))
  · simp at h1 h2; omega
  · intro a b c; simp; omega
  · intro a b; simp; omega
  · intro a b c; simp; omega
  · intro a b; simp; omega
theorem strict_eq {a b : List Int} (ha : a.Pairwise (· < ·)) (hb : b.Pairwise (· < ·)) (h : ∀ x, x ∈ a ↔ x ∈ b) : a = b := by
  refine List.Perm.eq_of_pairwise (le := (· < ·)) (fun a b _ _ h1 h2 => by omega) ha hb ?_
  exact (List.perm_ext_iff_of_nodup (ha.imp fun h => by omega) (hb.imp fun h => by omega)).2 h
theorem sort_strict {a : List Int} (h : a.Nodup) : (sortI a).Pairwise (· < ·) := by
  have hp : (sortI a).Perm a := List.mergeSort_perm _ _
  have h1 : (sortI a).Pairwise (fun a b => decide (a ≤ b) = true) := List.pairwise_mergeSort (by intro a b c; simp; omega) (by intro a b; simp; omega) a
  have h2 : (sortI a).Nodup := hp.nodup_iff.2 h
  exact (h1.and h2).imp fun hab => by have := hab.1; simp at this; have := hab.2; omega
theorem best_right {xs : List Ls} (hc : ckB xs = true) {p day time : Int} {y : Ls} (h : hasO xs p day time = some y) : y ∈ xs ∧ y.person = p := by
  unfold hasO at h
  suffices key : ∀ (l : List Ls) (b : Option Ls), (∀ z, b = some z → z ∈ xs ∧ z.person = p) → (∀ z ∈ l, z ∈ xs) → ∀ z, l.foldl (bestF p day time) b = some z → z ∈ xs ∧ z.person = p from key xs none (fun z e => by cases e) (fun z h => h) y h
  intro l
  induction l with
  | nil => intro b hb _ z hz; exact hb z hz
  | cons x l ih =>
    intro b hb hl z hz
    rw [List.foldl_cons] at hz
    refine ih _ (fun w hw => ?_) (fun w hw => hl w (List.mem_cons_of_mem _ hw)) z hz
    unfold bestF at hw
    split at hw
    · rename_i h2
      cases hw
      refine ⟨hl _ (List.mem_cons_self ..), ?_⟩
      unfold eligF at h2
      simp only [Bool.and_eq_true, beq_iff_eq] at h2
      exact h2.1.1.1
    · exact hb w hw
/-- The people in order are the reference's. -/
theorem cast_eq {xs : List Ls} (hc : ckB xs = true) {version : Int} (hv : 1 ≤ version) (day time : Int) : sortI (pickL version (versM (xs.filter (knownP day time)))) = castF xs version day time := by
  have hkeys := versM_keys (xs.filter (knownP day time))
  have hm : ∀ p, p ∈ pickL version (versM (xs.filter (knownP day time))) ↔ hasF xs p day time = version := fun p => by
    unfold pickL
    simp only [List.mem_map, List.mem_filter]
    constructor
    · rintro ⟨⟨q, y⟩, ⟨h1, h2⟩, rfl⟩
      rw [mget_mem hkeys, vers_get] at h1
      unfold hasF; rw [h1]
      simpa [pickP, verF] using h2
    · intro h
      unfold hasF at h
      cases e : hasO xs p day time with
      | none => rw [e] at h; simp [verF] at h; omega
      | some y =>
        rw [e] at h
        exact ⟨(p, y), ⟨(mget_mem hkeys).2 (by rw [vers_get]; exact e), by simpa [pickP, verF] using h⟩, rfl⟩
  have hnd : (pickL version (versM (xs.filter (knownP day time)))).Nodup := by
    unfold pickL
    exact List.Nodup.sublist (List.Sublist.map _ List.filter_sublist) hkeys
  refine strict_eq (sort_strict hnd) ?_ fun p => ?_
  · unfold castF
    refine List.Pairwise.sublist List.filter_sublist ?_
    rw [List.pairwise_map]
    exact List.pairwise_lt_range.imp fun h => by omega
  · rw [show p ∈ sortI (pickL version (versM (xs.filter (knownP day time)))) ↔ p ∈ pickL version (versM (xs.filter (knownP day time))) from (List.mergeSort_perm _ _).mem_iff, hm]
    unfold castF
    simp only [List.mem_filter, List.mem_map, List.mem_range, beq_iff_eq]
    constructor
    · intro h
      refine ⟨?_, h⟩
      unfold hasF at h
      cases e : hasO xs p day time with
      | none => rw [e] at h; simp [verF] at h; omega
      | some y =>
        obtain ⟨hy, hp⟩ := best_right hc e
        have hr := ckB_right hc hy
        unfold rightF within at hr
        simp only [Bool.and_eq_true, decide_eq_true_eq] at hr
        exact ⟨p.toNat, by omega, by omega⟩
    · exact fun h => h.2
end Go.Proofs.YtclkmnidgdkekaaGreat.L
end
section
namespace Go.Proofs.YtclkmnidgdkekaaGreat.L
open Go Go.Kn Go.Proofs
theorem w_insert {I : HMap} {v : Value} {n : Nat} {xs : List Ls} {L : Go.Kn.Loc} (hO : OwnS 55 5 v n (xs.flatMap encL) L) (hn : n ≤ 100000) (hl : xs.length = n) {i : Nat} (hi : i ≤ n) (b2 : Nat) (y : Ls) :
  RetM Tryz.prog 49 [v, .int .i64 i, .slice (some ⟨b2, 0, none⟩) 1 1] I (L ++ [(b2, .cells [encL y].flatten.toArray 55 (0, 0))]) (fun v' I' L' => I' = I ∧ OwnS 55 5 v' (n + 1) ((xs.take i ++ y :: xs.drop i).flatMap encL) L') := by
 by_cases hin : i = n
 ·
  subst hin
  obtain ⟨av, c, rfl⟩ := hO.shape
  exact w_ins_end hO hn hl b2 y
 rcases hO.2 with ⟨_, h0, _⟩ | ⟨b, c, cur, rfl, rfl, hnc, hcm, hcs, ht⟩
 ·
  omega
 intro g H w hw
 have hne : b2 ≠ b := fun e => by
  have := hw.nodup
  subst e
  simp at this
 have hsplit : (xs.take i).flatMap encL ++ (xs.drop i).flatMap encL = xs.flatMap encL := by rw [← List.flatMap_append, List.take_append_drop]
 have hcur : cur = ((xs.take i).flatMap encL ++ (xs.drop i).flatMap encL ++ cur.toList.drop (n * 5)).toArray := by
  rw [hsplit, ← ht, List.take_append_drop, Array.toArray_toList]
 rw [hcur] at hw
 exact w_ins_in hl (by omega) hn hnc hcm (by rw [hsplit, ← ht, List.take_append_drop, Array.length_toList, hcs]) b2 hne y g H w hw
theorem w_cmpG (I : HMap) (x y : Int) : RetV Tryz.prog 48 [.int .i64 x, .int .i64 y] I (.int .i64 (cmpG x y)) := w_cmp I x y
theorem w_or {I : HMap} {av : Option Addr} {n c : Nat} {xs : List Int} (hS : Sl I 1 encI av n c xs) (hn : n ≤ 100000) : RetV Tryz.prog 83 [.slice av n c] I (.int .i64 (orF xs)) := by
 intro g H w hw
 refine enter Tryz.func83 rfl Tryz.ntmps83 rfl hw ?_
 refine zR ?_
 refine zA ?_
 refine zN (zR ?_)
 refine zA ?_
 refine zN ?_
 refine X_seq ?_
 refine zR ?_
 refine zM ?_
 refine zQ slt_24 ?_
 refine zM ?_
 refine zN ?_
 refine X_block ?_
 refine X_loopT [(3, _), (6, _), (7, _)] (.cons rfl (.cons rfl (.cons rfl .nil))) (fun T L0 mz E I' loc' => ∃ (k : Nat), mz = n - k ∧ E = (8, .int .i64 k) :: T ∧ I = I' ∧ L0 = loc' ∧ k ≤ n ∧ orF xs = orF (xs.drop k)) _ _ _ _ ⟨0, rfl, rfl, rfl, rfl, Nat.zero_le _, rfl⟩ (.cons rfl (.cons rfl (.cons rfl (.cons rfl .nil)))) (HLe.refl _) rfl ?_
 rintro mz E I' loc' ⟨k, rfl, rfl, rfl, rfl, hk, ho⟩
 refine zR ?_
 refine zC ?_
 refine zN ?_
 refine X_seq ?_
 refine zI ?_ ?_ <;> intro hc9
 ·
  have hlt_k : k < n := by have h := hc9; simp at h; omega
  obtain ⟨x, hx⟩ := hS.at hlt_k
  refine X_skip ?_
  refine at_then ?_
  refine X_seq ?_
  refine X_block ?_
  refine zR ?_
  refine zV (ev_indexSl rfl rfl slt_24 (by assumption) (fun hg => by first | omega | (simp [conj] at hg; omega))) ?_
  refine zV (ev_load rfl sct_3 (fun hg => by first | exact Sl.get0 hS hx rfl | (repeat (first | exact Cell.here rfl | apply Cell.there | apply Cell.app)))) ?_
  refine zA ?_
  refine zN (zR ?_)
  refine zM ?_
  refine zM ?_
  refine zC ?_
  refine zN ?_
  refine zI ?_ ?_ <;> intro hc14
  ·
   refine zR ?_
   refine zM ?_
   refine zA ?_
   refine zN ?_
   refine X_ret ?_
   refine at_block_r ?_
   refine at_then_r ?_
   refine at_then_r ?_
   refine at_block_r ?_
   refine at_then_r ?_
   first
   | exact at_ret1 rfl rfl (fun w hw => ⟨by rw [ho, drop_cons hx, orF, if_pos (by simpa using hc14)], hw.drop⟩)
   | exact at_ret1 rfl rfl (fun w hw => ⟨by rw [ho, List.drop_eq_nil_of_le (by rw [hS.len]; omega)]; rfl, hw.drop⟩)
  refine X_skip ?_
  refine at_block_n ?_
  refine at_then ?_
  refine X_region ?_
  refine zV (ev_arB rfl rfl rfl (fun _ => by omega)) ?_
  refine zM ?_
  refine XO_nil ?_
  exact at_met2 _ _ ⟨n - (k + 1), by omega, k + 1, rfl, rfl, rfl, rfl, by omega, by rw [ho, drop_cons hx, orF, if_neg (by simpa using hc14)]⟩ (.cons rfl (.cons rfl (.cons rfl (.cons rfl .nil)))) (by repeat (first | exact .refl | exact subL_left | refine subL_app ?_ | refine .drop ?_ | refine subL_add ?_))
 have hge_k : n ≤ k := by have h := hc9; simp at h; omega
 refine X_exit ?_
 refine at_then_e ?_
 refine at_then_e ?_
 refine at_block_hit ?_
 refine at_then ?_
 refine zR ?_
 refine zM ?_
 refine zA ?_
 refine zN ?_
 refine X_ret ?_
 first
 | exact at_ret1 rfl rfl (fun w hw => ⟨by rw [ho, drop_cons hx, orF, if_pos (by simpa using hc14)], hw.drop⟩)
 | exact at_ret1 rfl rfl (fun w hw => ⟨by rw [ho, List.drop_eq_nil_of_le (by rw [hS.len]; omega)]; rfl, hw.drop⟩)
theorem w_compare (I : HMap) (x y : Ls) : RetV Tryz.prog 52 [encA x, encA y] I (.int .i64 (cmp3 x y)) := by
 intro g H w hw
 refine enter Tryz.func52 rfl Tryz.ntmps52 rfl hw ?_
 have hIc := HLe.refl I
 refine zR ?_
 refine XO_box rfl rfl rfl (fun b_2 => ?_)
 refine XO_box rfl rfl rfl (fun b_3 => ?_)
 refine zA ?_
 refine zN ?_
 refine X_seq ?_
 have hD := HLe.refl I
 refine X_drawC mixed ?_
 refine zT 0 rfl (ev_fieldAddr rfl fld_70_3) hD ?_
 refine zT 1 rfl (ev_load rfl sct_3 (fun hg => by repeat (first | exact Cell.here rfl | apply Cell.there | apply Cell.app))) hD ?_
 refine zT 2 rfl (ev_fieldAddr rfl fld_70_3) hD ?_
 refine zT 3 rfl (ev_load rfl sct_3 (fun hg => by repeat (first | exact Cell.here rfl | apply Cell.there | apply Cell.app))) hD ?_
 refine zT 5 rfl (ev_fieldAddr rfl fld_70_4) hD ?_
 refine zT 6 rfl (ev_load rfl sct_3 (fun hg => by repeat (first | exact Cell.here rfl | apply Cell.there | apply Cell.app))) hD ?_
 refine zT 7 rfl (ev_fieldAddr rfl fld_70_4) hD ?_
 refine zT 8 rfl (ev_load rfl sct_3 (fun hg => by repeat (first | exact Cell.here rfl | apply Cell.there | apply Cell.app))) hD ?_
 refine zT 10 rfl (ev_fieldAddr rfl fld_70_0) hD ?_
 refine zT 11 rfl (ev_load rfl sct_3 (fun hg => by repeat (first | exact Cell.here rfl | apply Cell.there | apply Cell.app))) hD ?_
 refine zT 12 rfl (ev_fieldAddr rfl fld_70_0) hD ?_
 refine zT 13 rfl (ev_load rfl sct_3 (fun hg => by repeat (first | exact Cell.here rfl | apply Cell.there | apply Cell.app))) hD ?_
 refine XD_one 4 rfl (by kernel_rfl) ?_
 refine XO_callV0 (cap := []) (vs := [_, _]) rfl rfl fun_48 (w_cmpG _ _ _) rfl rfl ?_
 refine XO_nil ?_
 refine zD hD ?_
 refine XD_one 9 rfl (by kernel_rfl) ?_
 refine XO_callV0 (cap := []) (vs := [_, _]) rfl rfl fun_48 (w_cmpG _ _ _) rfl rfl ?_
 refine XO_nil ?_
 refine zD hD ?_
 refine XD_one 14 rfl (by kernel_rfl) ?_
 refine XO_callV0 (cap := []) (vs := [_, _]) rfl rfl fun_48 (w_cmpG _ _ _) rfl rfl ?_
 refine XO_nil ?_
 refine zD hD ?_
 refine XD_one 15 rfl (by kernel_rfl) ?_
 refine XO_buildSlice (ps := [(0, _), (1, _), (2, _)]) (m := [encI (cmpG x.at_ y.at_), encI (cmpG x.known y.known), encI (cmpG x.no y.no)]) elt_24 rfl (.cons rfl (.cons rfl (.cons rfl (.nil)))) rfl (by simp [encI_len]) (by decide) (by decide) rfl rfl (fun b_20 => ?_)
 refine XO_nil ?_
 refine zD hD ?_
 refine XD_one 16 rfl (by kernel_rfl) ?_
 refine XO_freeze .here (fun I1 hI1 hb1 => ?_)
 have hIc := hIc.trans hI1; have hD := hD.trans hI1
 have hN := Sl.lit [cmpG x.at_ y.at_, cmpG x.known y.known, cmpG x.no y.no] rfl encI_len (show _ = some (Obj.cells (([cmpG x.at_ y.at_, cmpG x.known y.known, cmpG x.no y.no] : List Int).flatMap encI).toArray 3 (0, 0)) from hb1)
 refine XO_callV0 (cap := []) (vs := [_]) rfl rfl fun_83 (w_or hN (by decide)) rfl rfl ?_
 refine XO_nil ?_
 refine zD hD ?_
 refine zT 17 rfl (ev_assign rfl) hD ?_
 refine XD_done (by kernel_rfl) ?_
 refine at_noP ?_
 refine at_then ?_
 refine X_ret ?_
 exact at_ret1 rfl rfl (fun w hw => ⟨by first | rfl | simp_all, (hw.mono hIc).drop⟩)
/-- What the iterator of 'known' has taken in. -/
def KCap (I : HMap) (av : Option Addr) (n c : Nat) (day time : Int) (b1 b2 b3 : Nat) : Prop := I b1 = some (.cells #[.slice av n c] 25 (0, 0)) ∧ I b2 = some (.cells #[.int .i64 time] 3 (0, 0)) ∧ I b3 = some (.cells #[.int .i64 day] 3 (0, 0))
theorem w_known (I : HMap) (av : Option Addr) (n c : Nat) (day time : Int) : RetM Tryz.prog 53 [.slice av n c, .int .i64 day, .int .i64 time] I [] (fun v I' L => L = [] ∧ ∃ b1 b2 b3, v = .func (.func 84) #[] [capP b1, capP b2, capP b3].toArray ∧ KCap I' av n c day time b1 b2 b3) := by
 intro g H w hw
 refine enter Tryz.func53 rfl Tryz.ntmps53 rfl hw ?_
 have hIc := HLe.refl I
 refine zR ?_
 refine XO_box rfl rfl rfl (fun b_3 => ?_)
 refine XO_box rfl rfl rfl (fun b_4 => ?_)
 refine XO_box rfl rfl rfl (fun b_5 => ?_)
 refine zA ?_
 refine zN ?_
 refine X_seq ?_
 refine X_freeze .here (fun I1 hI1 hb1 => ?_)
 have hIc := hIc.trans hI1
 have h5 := hb1
 refine X_freeze .here (fun I2 hI2 hb2 => ?_)
 have hIc := hIc.trans hI2
 have h4 := hb2
 have h5 := hI2 _ _ h5
 refine X_freeze .here (fun I3 hI3 hb3 => ?_)
 have hIc := hIc.trans hI3
 have h3 := hb3
 have h4 := hI3 _ _ h4; have h5 := hI3 _ _ h5
 refine X_region ?_
 refine zV (ev_makeFunc (us := []) (vs := [_, _, _]) rfl rfl) ?_
 refine zA ?_
 refine zN ?_
 refine X_ret ?_
 exact at_ret1 rfl rfl (fun w hw => ⟨_, I3, [], rfl, hIc, hw.drop, rfl, b_3, b_5, b_4, rfl, h3, h5, h4⟩)
theorem w_iter {I : HMap} {av : Option Addr} {n c : Nat} {xs : List Ls} (hS : Sl I 5 encL av n c xs) (hn : n ≤ 100000) {day time : Int} {b1 b2 b3 : Nat} (hcap : KCap I av n c day time b1 b2 b3) : SeqC Tryz.prog 84 [capP b1, capP b2, capP b3] I encA (xs.filter (knownP day time)) := by
 intro g l J Jx hY I0 H w h0 hJ hw
 obtain ⟨h1, h2, h3⟩ := hcap
 have hS := hS.mono h0
 have h1 := h0 _ _ h1; have h2 := h0 _ _ h2; have h3 := h0 _ _ h3
 refine enter Tryz.func84 rfl Tryz.ntmps84 rfl hw ?_
 refine zR ?_
 refine zV (ev_load rfl sct_25 (fun hg => by first | exact Cell.imm h1 rfl | exact Cell.imm h2 rfl | exact Cell.imm h3 rfl | exact Cell.h0 rfl | exact Cell.h1 rfl | exact Cell.h2 rfl | exact Cell.h3 rfl | exact Cell.h4 rfl | exact Cell.h5 rfl)) ?_
 refine zQ slt_25 ?_
 refine zM ?_
 refine zN ?_
 refine X_block ?_
 refine X_loopH (fun m E I' H' loc' => ∃ k : Nat, m = n - k ∧ E = [(0, .func (.yield l) #[] #[]), (1, capP b1), (2, capP b2), (3, capP b3), (7, .slice av n c), (8, .int .i64 n), (9, .int .i64 k)] ∧ loc' = [] ∧ HLe I0 I' ∧ k ≤ n ∧ J ((xs.take k).filter (knownP day time)) I' H') _ _ _ ⟨0, rfl, rfl, rfl, HLe.refl _, Nat.zero_le _, hJ⟩ (.cons rfl (.cons rfl (.cons rfl (.cons rfl (.cons rfl (.cons rfl (.cons rfl .nil))))))) rfl ?_
 rintro m E I' H' loc' ⟨k, rfl, rfl, rfl, hI1, hk, hJk⟩
 have hS := hS.mono hI1
 have h1 := hI1 _ _ h1; have h2 := hI1 _ _ h2; have h3 := hI1 _ _ h3
 have hI0 := h0.trans hI1
 refine zR ?_
 refine zC ?_
 refine zN ?_
 refine X_seq ?_
 refine zI ?_ ?_ <;> intro hc10
 ·
  have hlt : k < n := by simpa using hc10
  obtain ⟨x, hx⟩ := hS.at hlt
  refine X_skip ?_
  refine at_then ?_
  refine X_seq ?_
  refine X_block ?_
  refine zR ?_
  refine zV (ev_indexSl rfl rfl slt_25 (by assumption) (fun hg => by omega)) ?_
  refine zV (ev_loadA rfl agt_55 (fun hg => by first | exact Sl.getA hS hx | exact Cells.g0 | exact Cells.g1 | exact Cells.g2 | exact Cells.g3 | exact Cells.g4 | exact Cells.g5 | exact Cells.s0 (vs := [_, _, _, _, _]) rfl | exact Cells.s1 (vs := [_, _, _, _, _]) rfl | exact Cells.s2 (vs := [_, _, _, _, _]) rfl | exact Cells.s3 (vs := [_, _, _, _, _]) rfl | exact Cells.s4 (vs := [_, _, _, _, _]) rfl | exact Cells.s5 (vs := [_, _, _, _, _]) rfl) rfl) ?_
  refine XO_alloc zt_55 rfl rfl (fun b_6 => ?_)
  refine XO_storeA rfl rfl szt_55 rfl rfl rfl rfl (by first | exact Upd.u0 | exact Upd.u1 | exact Upd.u2 | exact Upd.u3 | exact Upd.u4 | exact Upd.u5) ?_
  refine zN ?_
  refine X_seq ?_
  have hp : ∀ {b : Bool} {G : Env}, conj [(b, G)] = true → b = (decide (x.known ≤ time) && decide (x.at_ ≤ day)) → knownP day time x = true := fun h e => by unfold knownP; rw [← e]; simpa [conj] using h
  refine X_region ?_
  refine zF fld_55_4 ?_
  refine zV (ev_load rfl sct_3 (fun hg => by first | exact Cell.imm h1 rfl | exact Cell.imm h2 rfl | exact Cell.imm h3 rfl | exact Cell.h0 rfl | exact Cell.h1 rfl | exact Cell.h2 rfl | exact Cell.h3 rfl | exact Cell.h4 rfl | exact Cell.h5 rfl)) ?_
  refine zV (ev_load rfl sct_3 (fun hg => by first | exact Cell.imm h1 rfl | exact Cell.imm h2 rfl | exact Cell.imm h3 rfl | exact Cell.h0 rfl | exact Cell.h1 rfl | exact Cell.h2 rfl | exact Cell.h3 rfl | exact Cell.h4 rfl | exact Cell.h5 rfl)) ?_
  refine zC ?_
  refine zM ?_
  refine XO_pushT 4 rfl rfl rfl ?_
  refine zK (ev_fieldAddr rfl fld_55_3) ?_
  refine zK (ev_load rfl sct_3 (fun hg => by first | exact Cell.imm h1 rfl | exact Cell.imm h2 rfl | exact Cell.imm h3 rfl | exact Cell.h0 rfl | exact Cell.h1 rfl | exact Cell.h2 rfl | exact Cell.h3 rfl | exact Cell.h4 rfl | exact Cell.h5 rfl)) ?_
  refine zK (ev_load rfl sct_3 (fun hg => by first | exact Cell.imm h1 rfl | exact Cell.imm h2 rfl | exact Cell.imm h3 rfl | exact Cell.h0 rfl | exact Cell.h1 rfl | exact Cell.h2 rfl | exact Cell.h3 rfl | exact Cell.h4 rfl | exact Cell.h5 rfl)) ?_
  refine zK (ev_cmp rfl rfl rfl) ?_
  refine XO_and0 rfl rfl rfl rfl rfl ?_
  refine zM ?_
  refine XO_pushT 10 rfl rfl rfl ?_
  refine zK (ev_move rfl) ?_
  refine zK (ev_loadA rfl agt_55 (fun hg => by first | exact Sl.getA hS hx | exact Cells.g0 | exact Cells.g1 | exact Cells.g2 | exact Cells.g3 | exact Cells.g4 | exact Cells.g5 | exact Cells.s0 (vs := [_, _, _, _, _]) rfl | exact Cells.s1 (vs := [_, _, _, _, _]) rfl | exact Cells.s2 (vs := [_, _, _, _, _]) rfl | exact Cells.s3 (vs := [_, _, _, _, _]) rfl | exact Cells.s4 (vs := [_, _, _, _, _]) rfl | exact Cells.s5 (vs := [_, _, _, _, _]) rfl) rfl) ?_
  refine XO_yield1 (vs := [_]) (Post := fun b I2 H2 => if b then J ((xs.take k).filter (knownP day time) ++ [x]) I2 H2 else Jx ((xs.take k).filter (knownP day time) ++ [x]) I2 H2) rfl rfl (.some rfl rfl rfl rfl gbt) rfl rfl (fun hcj => hY _ x _ _ (fil_pre hx (hp hcj rfl)) hI0 hJk) ?_
  rintro b I2 H2 hI2 hyes hno
  refine zK (ev_not rfl) ?_
  refine XO_and0 rfl rfl rfl rfl rfl ?_
  refine zN ?_
  refine zI ?_ ?_ <;> intro hc28
  ·
   refine X_ret ?_
   refine at_block_r ?_
   refine at_then_r ?_
   refine at_then_r ?_
   refine at_block_r ?_
   first
   | (exact at_ret0 rfl (fun w hw => ⟨_, I2, H2, rfl, hI1.trans hI2, hw.drop, .inr ⟨_, fil_pre hx (by have hPx : (decide (x.known ≤ time) && decide (x.at_ ≤ day)) = knownP day time x := rfl; rw [hPx, Bool.and_eq_true] at hc28; exact hc28.1), by have hPx : (decide (x.known ≤ time) && decide (x.at_ ≤ day)) = knownP day time x := rfl; rw [hPx] at hc28 hyes; rw [Bool.and_eq_true, Bool.not_eq_true'] at hc28; rw [hc28.1, hc28.2] at hyes; exact hyes rfl⟩⟩))
   | (exact at_norm (at_ret0 rfl (fun w hw => ⟨_, I', H', rfl, hI1, hw, .inl (by rw [fil_end (by rw [hS.len]; omega)] at hJk; exact hJk)⟩)))
  refine X_skip ?_
  refine at_block_n ?_
  refine at_then ?_
  refine X_region ?_
  refine zV (ev_arB rfl rfl rfl (fun _ => by omega)) ?_
  refine zM ?_
  refine XO_nil ?_
  have hJ2 : J ((xs.take (k + 1)).filter (knownP day time)) I2 H2 := by
   rw [filter_step hx]
   have hPx : (decide (x.known ≤ time) && decide (x.at_ ≤ day)) = knownP day time x := rfl
   rw [hPx] at hc28 hyes hno
   cases hA : knownP day time x with
   | true =>
    rw [hA] at hc28 hyes; have hb : b = true := by simpa using hc28
    subst hb; exact hyes rfl
   | false => rw [hA] at hno; obtain ⟨e1, e2⟩ := hno rfl; rw [if_neg Bool.false_ne_true, List.append_nil, e1, e2]; exact hJk
  exact at_metH2 rfl rfl rfl _ [] ⟨n - (k + 1), by omega, k + 1, rfl, rfl, rfl, hI1.trans hI2, by omega, hJ2⟩ (.cons rfl (.cons rfl (.cons rfl (.cons rfl (.cons rfl (.cons rfl (.cons rfl .nil))))))) (.drop .refl)
 have hge : n ≤ k := by simpa using hc10
 refine X_exit ?_
 refine at_then_e ?_
 refine at_then_e ?_
 refine at_block_hit ?_
 first
 | (exact at_ret0 rfl (fun w hw => ⟨_, I2, H2, rfl, hI1.trans hI2, hw.drop, .inr ⟨_, fil_pre hx (by have hPx : (decide (x.known ≤ time) && decide (x.at_ ≤ day)) = knownP day time x := rfl; rw [hPx, Bool.and_eq_true] at hc28; exact hc28.1), by have hPx : (decide (x.known ≤ time) && decide (x.at_ ≤ day)) = knownP day time x := rfl; rw [hPx] at hc28 hyes; rw [Bool.and_eq_true, Bool.not_eq_true'] at hc28; rw [hc28.1, hc28.2] at hyes; exact hyes rfl⟩⟩))
 | (exact at_norm (at_ret0 rfl (fun w hw => ⟨_, I', H', rfl, hI1, hw, .inl (by rw [fil_end (by rw [hS.len]; omega)] at hJk; exact hJk)⟩)))
end Go.Proofs.YtclkmnidgdkekaaGreat.L
end
section
namespace Go.Proofs.YtclkmnidgdkekaaGreat.L
open Go Go.Kn Go.Proofs
theorem w_versions {I : HMap} {av : Option Addr} {n c : Nat} {xs : List Ls} (hS : Sl I 5 encL av n c xs) (hn : n ≤ 100000) (day time : Int) : RetM Tryz.prog 21 [.slice av n c, .int .i64 day, .int .i64 time] I [] (fun v I' L => L = [] ∧ ∃ r, v = .map (some r) ∧ I' r = some (mapO (.int .i64) encA (versM (xs.filter (knownP day time))))) := by
 intro g H w hw
 refine enterM Tryz.func21 rfl Tryz.ntmps21 rfl hw ?_
 refine zR ?_
 refine zA ?_
 refine zN (zR ?_)
 refine XO_alloc zt_105 rfl rfl (fun b_7 => ?_)
 refine zS szt_105 ?_
 refine zN (zR ?_)
 refine XO_makeMap rfl rfl (fun r_12 => ?_)
 refine XO_alloc zt_71 rfl rfl (fun b_8 => ?_)
 refine zS szt_71 ?_
 refine zN ?_
 refine X_seq ?_
 refine zR ?_
 refine zM ?_
 refine zM ?_
 refine zM ?_
 refine XO_callM (cap := []) (vs := [_, _, _]) rfl rfl fun_53 .nil (w_known _ _ _ _ _ _) rfl rfl ?_
 rintro v I' L' hI' ⟨rfl, b1, b2, b3, rfl, hcap⟩
 refine zN ?_
 refine X_block ?_
 refine X_rangeFunc (enc := encA) (fun pre I' loc' => loc' = [(b_8, .cells #[.map (some r_12)] 71 (0, 0)), (r_12, mapO (.int .i64) encA (versM pre)), (b_7, .cells #[.func (.func 52) #[] #[]] 105 (0, 0))]) (fun _ _ _ _ => False) (fun pre x E2 I2 loc2 => ∃ b9, E2 = [(7, .pointer (some ⟨b_7, 0, none⟩)), (8, .pointer (some ⟨b_8, 0, none⟩)), (9, .pointer (some ⟨b9, 0, none⟩))] ∧ loc2 = (b9, .cells (encL x).toArray 70 (0, 0)) :: [(b_8, .cells #[.map (some r_12)] 71 (0, 0)), (r_12, mapO (.int .i64) encA (versM pre)), (b_7, .cells #[.func (.func 52) #[] #[]] 105 (0, 0))]) rfl fun_84 (w_iter (hS.mono hI') hn hcap) rfl rfl ?_ ?_ ?_ ?_
 ·
  rintro l pre x I1 loc1 H1 hpre hI1 rfl
  refine X_region ?_
  refine XO_alloc zt_70 rfl rfl (fun b_9 => ?_)
  refine XO_storeA rfl rfl szt_70 rfl rfl rfl rfl (by repeat (first | exact Upd.here | apply Upd.there | apply upd_app)) ?_
  refine XO_nil ?_
  exact at_met' _ ⟨HLe.refl _, b_9, rfl, rfl⟩ (.cons rfl (.cons rfl (.cons rfl .nil)))
 ·
  rintro l pre x E2 I2 loc2 H2 hpre hI2 ⟨b9, rfl, rfl⟩
  cases hm : mget (versM pre) x.person with
  | none =>
   refine X_block ?_
   refine zR ?_
   refine zL sct_71 ?_
   refine zF fld_70_1 ?_
   refine zL sct_3 ?_
   refine zV (ev_lookupOkN hm (m := versM pre) (ek := Value.int .i64) (ev := encA) (a := x.person) mpt_71 key_3 rfl rfl (fun _ => (by repeat (first | exact Mem.m0 | apply Mem.there | apply Mem.app)))) ?_
   refine zM ?_
   refine zE ?_
   refine zE ?_
   refine XO_alloc zt_70 rfl rfl (fun b_10 => ?_)
   refine XO_storeA rfl rfl szt_70 rfl rfl rfl rfl (by repeat (first | exact Upd.here | apply Upd.there | apply upd_app)) ?_
   refine zA ?_
   refine zN (zR ?_)
   refine zM ?_
   refine zO ?_
   refine zM ?_
   refine XO_pushF 2 rfl rfl rfl ?_
   refine zJ (ev_load rfl sct_105 (fun hg => by repeat (first | exact Cell.here rfl | apply Cell.there | apply Cell.app))) ?_
   refine zJ (ev_loadA rfl agt_70 (fun hg => by first | (repeat (first | exact Cells.here | exact Cells.s0 (vs := [_, _, _, _, _]) rfl | apply Cells.there | apply Cells.app))) rfl) ?_
   refine zJ (ev_loadA rfl agt_70 (fun hg => by first | (repeat (first | exact Cells.here | exact Cells.s0 (vs := [_, _, _, _, _]) rfl | apply Cells.there | apply Cells.app))) rfl) ?_
   refine XO_callV1 (cap := []) (vs := [_, _]) rfl rfl fun_52 (fun hg => w_compare _ x zeroL) (.some rfl rfl rfl rfl gbf) rfl rfl ?_
   refine zJ (ev_cmp rfl rfl rfl) ?_
   refine XO_or0 rfl rfl rfl rfl rfl ?_
   refine zN ?_
   refine zI ?_ ?_ <;> intro hc33
   ·
    refine X_region ?_
    refine zL sct_71 ?_
    refine zF fld_70_1 ?_
    refine zL sct_3 ?_
    refine zV (ev_loadA rfl agt_70 (fun hg => by first | (repeat (first | exact Cells.here | exact Cells.s0 (vs := [_, _, _, _, _]) rfl | apply Cells.there | apply Cells.app))) rfl) ?_
    refine XO_mapUpdate (m := versM pre) (ek := Value.int .i64) (ev := encA) (a := x.person) x mpt_71 key_3 rfl rfl rfl rfl (by repeat (first | exact Upd.here | apply Upd.there | apply upd_app)) ?_
    refine XO_nil ?_
    refine at_block_n ?_
    first
    | exact at_round2 ⟨HLe.refl _, by rw [versM_snoc, vStep, if_pos (by rw [hm]; first | rfl | (rw [cmp3_later] at hc33; simpa [bestO] using hc33))]⟩ (.drop (.drop .refl))
    | exact at_round2 ⟨HLe.refl _, by rw [versM_snoc, vStep, if_neg (by rw [hm]; rw [cmp3_later] at hc33; simpa [bestO] using hc33)]⟩ (.drop (.drop .refl))
   exact absurd hc33 (by simp)
  | some y =>
   refine X_block ?_
   refine zR ?_
   refine zL sct_71 ?_
   refine zF fld_70_1 ?_
   refine zL sct_3 ?_
   refine zV (ev_lookupOkS hm (m := versM pre) (ek := Value.int .i64) (ev := encA) (a := x.person) mpt_71 key_3 rfl rfl (fun _ => (by repeat (first | exact Mem.m0 | apply Mem.there | apply Mem.app)))) ?_
   refine zM ?_
   refine zE ?_
   refine zE ?_
   refine XO_alloc zt_70 rfl rfl (fun b_10 => ?_)
   refine XO_storeA rfl rfl szt_70 rfl rfl rfl rfl (by repeat (first | exact Upd.here | apply Upd.there | apply upd_app)) ?_
   refine zA ?_
   refine zN (zR ?_)
   refine zM ?_
   refine zO ?_
   refine zM ?_
   refine XO_pushF 2 rfl rfl rfl ?_
   refine zJ (ev_load rfl sct_105 (fun hg => by repeat (first | exact Cell.here rfl | apply Cell.there | apply Cell.app))) ?_
   refine zJ (ev_loadA rfl agt_70 (fun hg => by first | (repeat (first | exact Cells.here | exact Cells.s0 (vs := [_, _, _, _, _]) rfl | apply Cells.there | apply Cells.app))) rfl) ?_
   refine zJ (ev_loadA rfl agt_70 (fun hg => by first | (repeat (first | exact Cells.here | exact Cells.s0 (vs := [_, _, _, _, _]) rfl | apply Cells.there | apply Cells.app))) rfl) ?_
   refine XO_callV1 (cap := []) (vs := [_, _]) rfl rfl fun_52 (fun hg => w_compare _ x y) (.some rfl rfl rfl rfl gbf) rfl rfl ?_
   refine zJ (ev_cmp rfl rfl rfl) ?_
   refine XO_or0 rfl rfl rfl rfl rfl ?_
   refine zN ?_
   refine zI ?_ ?_ <;> intro hc33
   ·
    refine X_region ?_
    refine zL sct_71 ?_
    refine zF fld_70_1 ?_
    refine zL sct_3 ?_
    refine zV (ev_loadA rfl agt_70 (fun hg => by first | (repeat (first | exact Cells.here | exact Cells.s0 (vs := [_, _, _, _, _]) rfl | apply Cells.there | apply Cells.app))) rfl) ?_
    refine XO_mapUpdate (m := versM pre) (ek := Value.int .i64) (ev := encA) (a := x.person) x mpt_71 key_3 rfl rfl rfl rfl (by repeat (first | exact Upd.here | apply Upd.there | apply upd_app)) ?_
    refine XO_nil ?_
    refine at_block_n ?_
    first
    | exact at_round2 ⟨HLe.refl _, by rw [versM_snoc, vStep, if_pos (by rw [hm]; first | rfl | (rw [cmp3_later] at hc33; simpa [bestO] using hc33))]⟩ (.drop (.drop .refl))
    | exact at_round2 ⟨HLe.refl _, by rw [versM_snoc, vStep, if_neg (by rw [hm]; rw [cmp3_later] at hc33; simpa [bestO] using hc33)]⟩ (.drop (.drop .refl))
   refine X_skip ?_
   refine at_block_n ?_
   first
   | exact at_round2 ⟨HLe.refl _, by rw [versM_snoc, vStep, if_pos (by rw [hm]; first | rfl | (rw [cmp3_later] at hc33; simpa [bestO] using hc33))]⟩ (.drop (.drop .refl))
   | exact at_round2 ⟨HLe.refl _, by rw [versM_snoc, vStep, if_neg (by rw [hm]; rw [cmp3_later] at hc33; simpa [bestO] using hc33)]⟩ (.drop (.drop .refl))
 ·
  rintro bd I1 loc1 hI1 rfl
  refine at_block_n ?_
  refine at_then ?_
  refine zR ?_
  refine zL sct_71 ?_
  refine zA ?_
  refine zN ?_
  refine X_ret ?_
  exact at_retM (fun a ha w _ => res1 rfl rfl a ha w) (upd_app (A := [_, _, _]) .here) (fun w hw => by obtain ⟨I2, h1, h2, h3⟩ := hw.freezeAll; exact ⟨_, I2, [], rfl, hI'.trans (hI1.trans h1), h2, rfl, r_12, rfl, h3 _ _ (by simp)⟩)
 rintro c bd pre I1 loc1 hI1 hpre hF; exact hF.elim
theorem vers_val {m : List (Int × Ls)} {a : Int} : ((mget m a).map encA).getD (.agg #[.int .i64 0, .int .i64 0, .int .i64 0, .int .i64 0, .int .i64 0]) = encA ((mget m a).getD zeroL) := by
 cases mget m a <;> rfl
theorem w_Has {I : HMap} {av : Option Addr} {n c : Nat} {xs : List Ls} (hS : Sl I 5 encL av n c xs) (hn : n ≤ 100000) (person day time : Int) : RetV Tryz.prog 7 [.slice av n c, .int .i64 person, .int .i64 day, .int .i64 time] I (.tuple #[.int .i64 (hasV xs person day time), .int .i64 (hasE (chk xs) person day time)]) := by
 intro g H w hw
 refine enter Tryz.func7 rfl Tryz.ntmps7 rfl hw ?_
 have hIc := HLe.refl I
 refine zR ?_
 refine zA ?_
 refine zA ?_
 refine zN ?_
 refine X_seq ?_
 refine zR ?_
 refine zM ?_
 refine XO_callV0 (cap := []) (vs := [_]) rfl rfl fun_18 (w_check hS hn) rfl rfl ?_
 refine zA ?_
 refine zN (zR ?_)
 refine zM ?_
 refine zC ?_
 refine zN ?_
 refine zI ?_ ?_ <;> intro hc14
 ·
  refine zR ?_
  refine zM ?_
  refine zA ?_
  refine zA ?_
  refine zN ?_
  refine X_ret ?_
  refine at_then_r ?_
  first
  | exact at_ret2 rfl rfl rfl (fun w hw => ⟨by rw [hasV, hasE_chk (by simpa using hc14), if_pos (by simpa using hc14)], (hw.mono hIc).drop⟩)
  | exact at_ret2 rfl rfl rfl (fun w hw => ⟨by rw [hasV, hasE_arg (by simpa using hc14) hc24]; rfl, (hw.mono hIc).drop⟩)
  | exact at_ret2 rfl rfl rfl (fun w hw => ⟨by rw [hasV, hasE_ok (by simpa using hc14) hc24, has_vers]; rfl, (hw.mono hIc).drop⟩)
 refine X_skip ?_
 refine at_then ?_
 refine X_seq ?_
 refine zR ?_
 refine zM ?_
 refine XO_callV0 (cap := []) (vs := [_, _, _]) rfl rfl fun_19 (w_within I _ _ _) rfl rfl ?_
 refine zO ?_
 refine zM ?_
 refine XO_pushF 3 rfl rfl rfl ?_
 refine zJ (ev_move rfl) ?_
 refine zJ (ev_move rfl) ?_
 refine XO_callV1 (cap := []) (vs := [_, _]) rfl rfl fun_20 (fun hg => w_then I _ _) (.some rfl rfl rfl rfl gbf) rfl rfl ?_
 refine zJ (ev_not rfl) ?_
 refine XO_or0 rfl rfl rfl rfl rfl ?_
 refine zN ?_
 refine zI ?_ ?_ <;> intro hc24
 ·
  refine zR ?_
  refine zA ?_
  refine zA ?_
  refine zN ?_
  refine X_ret ?_
  refine at_then_r ?_
  first
  | exact at_ret2 rfl rfl rfl (fun w hw => ⟨by rw [hasV, hasE_chk (by simpa using hc14), if_pos (by simpa using hc14)], (hw.mono hIc).drop⟩)
  | exact at_ret2 rfl rfl rfl (fun w hw => ⟨by rw [hasV, hasE_arg (by simpa using hc14) hc24]; rfl, (hw.mono hIc).drop⟩)
  | exact at_ret2 rfl rfl rfl (fun w hw => ⟨by rw [hasV, hasE_ok (by simpa using hc14) hc24, has_vers]; rfl, (hw.mono hIc).drop⟩)
 refine X_skip ?_
 refine at_then ?_
 refine zR ?_
 refine zM ?_
 refine zM ?_
 refine zM ?_
 refine XO_callM (cap := []) (vs := [_, _, _]) rfl rfl fun_21 .nil (w_versions hS hn _ _) rfl rfl ?_
 rintro vv1 I1 L1 hI1 ⟨rfl, r, rfl, hr⟩
 have hS := hS.mono hI1; have hIc := hIc.trans hI1
 refine zM ?_
 refine zV (ev_lookup (m := versM (xs.filter (knownP day time))) (ek := Value.int .i64) (ev := encA) (a := person) mpt_71 key_3 rfl rfl (fun _ => .inl hr)) ?_
 rw [vers_val]
 refine zV (ev_field rfl vfl_70_2 rfl) ?_
 refine zA ?_
 refine zA ?_
 refine zN ?_
 refine X_ret ?_
 first
 | exact at_ret2 rfl rfl rfl (fun w hw => ⟨by rw [hasV, hasE_chk (by simpa using hc14), if_pos (by simpa using hc14)], (hw.mono hIc).drop⟩)
 | exact at_ret2 rfl rfl rfl (fun w hw => ⟨by rw [hasV, hasE_arg (by simpa using hc14) hc24]; rfl, (hw.mono hIc).drop⟩)
 | exact at_ret2 rfl rfl rfl (fun w hw => ⟨by rw [hasV, hasE_ok (by simpa using hc14) hc24, has_vers]; rfl, (hw.mono hIc).drop⟩)
end Go.Proofs.YtclkmnidgdkekaaGreat.L
end
