/- The walks of the register of rights, fourth part: each function comes to its Lean function. -/
import Derived.Test.YtmflfccincbnaaaWalkC
import Derived.Test.YtmflfccincbnaaaPlain
namespace Go.Proofs.Ytmflfccincbnaaa
open Go Go.Kn Go.Proofs
theorem w_check {I : HMap} {av : Option Addr} {n c : Nat} {xs : List Rt} (hS : Sl I 11 encR av n c xs) (hn : n ≤ 100000) : RetV Try.prog 14 [.slice av n c] I (.int .i64 (rCheck xs)) := by
  intro g H w hw
  refine enter Try.func14 rfl Try.ntmps14 rfl hw ?_
  refine X_seq ?_
  refine X_region ?_
  refine XO_v0 (ev_assign rfl) rfl rfl rfl ?_
  refine XO_nil ?_
  refine at_then ?_
  refine X_seq ?_
  refine X_seq ?_
  refine X_region ?_
  refine XO_v0 (ev_move rfl) rfl rfl rfl ?_
  refine XO_v0 (ev_lenS rfl slt_22) rfl rfl rfl ?_
  refine XO_v0 (ev_cmp rfl rfl rfl) rfl rfl rfl ?_
  refine XO_nil ?_
  refine at_then ?_
  refine X_cond rfl (fun hc12 => ?_) (fun hc12 => ?_)
  · skip
    have h5 : xs.length > 512 := by rw [hS.len]; simp at hc12; omega
    refine X_seq ?_
    refine X_region ?_
    refine XO_v0 (ev_assign rfl) rfl rfl rfl ?_
    refine XO_nil ?_
    refine at_then ?_
    refine X_ret ?_
    refine at_then_r ?_
    exact at_ret1 rfl rfl (fun w hw => ⟨by unfold rCheck; first | (rw [if_pos h5]) | (rw [if_neg h5, hfin]) | (rw [if_neg h5, ← hinv, drop_cons hx, rGo, if_pos (by unfold rBad; rw [← known_eq, hc53])]), hw.drop⟩)
  · skip
    have h5 : ¬ xs.length > 512 := by rw [hS.len]; simp at hc12; omega
    refine X_skip ?_
    refine at_then ?_
    refine X_seq ?_
    refine X_region ?_
    refine XO_makeMap rfl rfl (fun r_13 => ?_)
    refine XO_callM (cap := []) (vs := []) rfl rfl fun_30 .nil (w_asks I) rfl rfl ?_
    rintro v I1 L' hI' ⟨rk, rfl, hI1, rfl⟩
    obtain rfl := hI1.symm
    refine XO_v0 (ev_assign rfl) rfl rfl rfl ?_
    refine XO_v0 (ev_assign rfl) rfl rfl rfl ?_
    refine XO_v0 (ev_assign rfl) rfl rfl rfl ?_
    refine XO_nil ?_
    refine at_then ?_
    refine X_cut (fun E I' loc' => ∃ bs : List (Int × Rt), E = [(0, .slice av n c)] ∧ I' = I ∧ loc' = [(rk, mapO (.int .i64) evF kindsM), (r_13, mapO (.int .i64) encA bs)] ∧ rGo xs [] (-1) = 0) ?_ ?_
    · skip
      refine X_seq ?_
      refine X_region ?_
      refine XO_v0 (ev_move rfl) rfl rfl rfl ?_
      refine XO_v0 (ev_lenS rfl slt_22) rfl rfl rfl ?_
      refine XO_v0 (ev_move rfl) rfl rfl rfl ?_
      refine XO_nil ?_
      refine at_then ?_
      refine X_block ?_
      refine X_loop (fun m E I' loc' => ∃ (k : Nat) (bs : List (Int × Rt)) (last : Int), m = n - k ∧ E = [(0, .slice av n c), (3, .map (some r_13)), (4, .map (some rk)), (5, .int .i64 last), (15, .slice av n c), (16, .int .i64 n), (17, .int .i64 k)] ∧ I' = I ∧ loc' = [(rk, mapO (.int .i64) evF kindsM), (r_13, mapO (.int .i64) encA bs)] ∧ k ≤ n ∧ rGo (xs.drop k) bs last = rGo xs [] (-1)) _ _ _ _ ⟨0, [], -1, rfl, rfl, rfl, rfl, Nat.zero_le _, rfl⟩ (.cons rfl (.cons rfl (.cons rfl (.cons rfl (.cons rfl (.cons rfl (.cons rfl .nil))))))) (HLe.refl _) rfl ?_
      rintro m E I' loc' ⟨k, bs, last, rfl, rfl, rfl, rfl, hk, hinv⟩
      refine X_seq ?_
      refine X_region ?_
      refine XO_v0 (ev_cmp rfl rfl rfl) rfl rfl rfl ?_
      refine XO_nil ?_
      refine at_then ?_
      refine X_seq ?_
      refine X_cond rfl (fun hc18 => ?_) (fun hc18 => ?_)
      · skip
        have hlt : k < n := by simpa using hc18
        obtain ⟨x, hx⟩ := hS.at hlt
        refine X_skip ?_
        refine at_then ?_
        refine X_seq ?_
        refine X_block ?_
        refine X_seq ?_
        refine X_region ?_
        refine XO_v0 (ev_indexSl rfl rfl slt_22 (by assumption) (fun hg => by omega)) rfl rfl rfl ?_
        refine XO_v0 (ev_loadA rfl agt_45 (fun _ => by first | exact Sl.getA hS hx | exact Cells.g0 | exact Cells.g1 | exact Cells.g2 | exact Cells.g3 | exact Cells.g4 | exact Cells.g5) rfl) rfl rfl rfl ?_
        refine XO_alloc zt_45 rfl rfl (fun b_7 => ?_)
        refine XO_storeA rfl rfl szt_45 rfl rfl rfl rfl (by first | exact Upd.u0 | exact Upd.u1 | exact Upd.u2 | exact Upd.u3 | exact Upd.u4 | exact Upd.u5) ?_
        refine XO_nil ?_
        refine at_then ?_
        refine X_seq ?_
        refine X_region ?_
        refine XO_v0 (ev_move rfl) rfl rfl rfl ?_
        refine XO_v0 (ev_fieldAddr rfl fld_45_1) rfl rfl rfl ?_
        refine XO_v0 (ev_load rfl sct_3 (fun hg => by first | exact Sl.get hS hx rfl | exact Cell.h0 rfl | exact Cell.h1 rfl | exact Cell.h2 rfl | exact Cell.h3 rfl | exact Cell.h4 rfl | exact Cell.h5 rfl)) rfl rfl rfl ?_
        refine XO_v0 (ev_lookupOk  mpt_57 key_3 rfl rfl (fun _ => Mem.m1)) rfl rfl rfl ?_
        refine XO_v0 (ev_move rfl) rfl rfl rfl ?_
        refine XO_v0 (ev_extract rfl rfl) rfl rfl rfl ?_
        refine XO_v0 (ev_extract rfl rfl) rfl rfl rfl ?_
        refine XO_v0 (ev_assign rfl) rfl rfl rfl ?_
        refine XO_v0 (ev_assign rfl) rfl rfl rfl ?_
        refine XO_nil ?_
        refine at_then ?_
        refine X_seq ?_
        refine X_seq ?_
        refine X_region ?_
        refine XO_v0 (ev_move rfl) rfl rfl rfl ?_
        refine XO_v0 (ev_not rfl) rfl rfl rfl ?_
        refine XO_v0 (ev_move rfl) rfl rfl rfl ?_
        refine XO_pushF 2 rfl rfl rfl ?_
        refine XO_v1 (ev_fieldAddr rfl fld_45_0) (.some rfl rfl rfl rfl gbf) rfl rfl rfl ?_
        refine XO_v1 (ev_load rfl sct_3 (fun hg => by first | exact Sl.get hS hx rfl | exact Cell.h0 rfl | exact Cell.h1 rfl | exact Cell.h2 rfl | exact Cell.h3 rfl | exact Cell.h4 rfl | exact Cell.h5 rfl)) (.some rfl rfl rfl rfl gbf) rfl rfl rfl ?_
        refine XO_v1 (ev_move rfl) (.some rfl rfl rfl rfl gbf) rfl rfl rfl ?_
        refine XO_v1 (ev_cmp rfl rfl rfl) (.some rfl rfl rfl rfl gbf) rfl rfl rfl ?_
        refine XO_or0 rfl rfl rfl rfl rfl ?_
        refine XO_v0 (ev_move rfl) rfl rfl rfl ?_
        refine XO_pushF 8 rfl rfl rfl ?_
        refine XO_v1 (ev_fieldAddr rfl fld_45_0) (.some rfl rfl rfl rfl gbf) rfl rfl rfl ?_
        refine XO_v1 (ev_load rfl sct_3 (fun hg => by first | exact Sl.get hS hx rfl | exact Cell.h0 rfl | exact Cell.h1 rfl | exact Cell.h2 rfl | exact Cell.h3 rfl | exact Cell.h4 rfl | exact Cell.h5 rfl)) (.some rfl rfl rfl rfl gbf) rfl rfl rfl ?_
        refine XO_v1 (ev_cmp rfl rfl rfl) (.some rfl rfl rfl rfl gbf) rfl rfl rfl ?_
        refine XO_or0 rfl rfl rfl rfl rfl ?_
        refine XO_v0 (ev_move rfl) rfl rfl rfl ?_
        refine XO_pushF 13 rfl rfl rfl ?_
        refine XO_v1 (ev_fieldAddr rfl fld_45_10) (.some rfl rfl rfl rfl gbf) rfl rfl rfl ?_
        refine XO_v1 (ev_load rfl sct_3 (fun hg => by first | exact Sl.get hS hx rfl | exact Cell.h0 rfl | exact Cell.h1 rfl | exact Cell.h2 rfl | exact Cell.h3 rfl | exact Cell.h4 rfl | exact Cell.h5 rfl)) (.some rfl rfl rfl rfl gbf) rfl rfl rfl ?_
        refine XO_callV1 (cap := []) (vs := [_, _, _]) rfl rfl fun_31 (fun hg => w_within _ _ _ _) (.some rfl rfl rfl rfl gbf) rfl rfl ?_
        refine XO_v1 (ev_not rfl) (.some rfl rfl rfl rfl gbf) rfl rfl rfl ?_
        refine XO_or0 rfl rfl rfl rfl rfl ?_
        refine XO_v0 (ev_move rfl) rfl rfl rfl ?_
        refine XO_pushF 19 rfl rfl rfl ?_
        refine XO_v1 (ev_move rfl) (.some rfl rfl rfl rfl gbf) rfl rfl rfl ?_
        refine XO_v1 (ev_loadA rfl agt_45 (fun _ => by first | exact Sl.getA hS hx | exact Cells.g0 | exact Cells.g1 | exact Cells.g2 | exact Cells.g3 | exact Cells.g4 | exact Cells.g5) rfl) (.some rfl rfl rfl rfl gbf) rfl rfl rfl ?_
        refine XO_v1 (ev_move rfl) (.some rfl rfl rfl rfl gbf) rfl rfl rfl ?_
        refine XO_callD1 (L := [(r_13, mapO (.int .i64) encA bs)]) (vs := [_, _]) (v := .bool (askF x.kind x bs)) rfl rfl (.cons (.there (.there .here)) .nil) (fun hcj => ?_) (.some rfl rfl rfl rfl gbf) rfl rfl ?_
        · simp only [conj, Bool.and_true, Bool.not_eq_true', Bool.or_eq_false_iff] at hcj
          obtain ⟨f, hf⟩ := Option.isSome_iff_exists.1 (show (mget kindsM x.kind).isSome = true by simpa using hcj.1.1.1)
          exact ⟨f, by rw [hf]; rfl, fun_asks hf, w_ask hf _ x r_13 bs⟩
        refine XO_v1 (ev_not rfl) (.some rfl rfl rfl rfl gbf) rfl rfl rfl ?_
        refine XO_or0 rfl rfl rfl rfl rfl ?_
        refine XO_nil ?_
        refine at_then ?_
        refine X_cond rfl (fun hc53 => ?_) (fun hc53 => ?_)
        · skip
          refine X_seq ?_
          refine X_region ?_
          refine XO_v0 (ev_assign rfl) rfl rfl rfl ?_
          refine XO_nil ?_
          refine at_then ?_
          refine X_ret ?_
          refine at_then_r ?_
          refine at_block_r ?_
          refine at_then_r ?_
          refine at_then_r ?_
          refine at_block_r ?_
          refine at_then_r ?_
          exact at_ret1 rfl rfl (fun w hw => ⟨by unfold rCheck; first | (rw [if_pos h5]) | (rw [if_neg h5, hfin]) | (rw [if_neg h5, ← hinv, drop_cons hx, rGo, if_pos (by unfold rBad; rw [← known_eq, hc53])]), hw.drop⟩)
        · skip
          refine X_skip ?_
          refine at_then ?_
          refine X_noP ?_
          refine X_drawS I' [(b_7, .cells (encR x).toArray 45 (0, 0))] mixed ?_
          refine XD_take 0 rfl (ev_move rfl) (.none rfl) rfl rfl rfl (by kernel_rfl) (by kernel_rfl) (by kernel_rfl) noP_ok (HLe.refl _) (.keep (.drop (.drop .refl))) ?_
          refine XD_take 1 rfl (ev_fieldAddr rfl fld_45_0) (.none rfl) rfl rfl rfl (by kernel_rfl) (by kernel_rfl) (by kernel_rfl) noP_ok (HLe.refl _) (.keep (.drop (.drop .refl))) ?_
          refine XD_take 2 rfl (ev_load rfl sct_3 (fun _ => Cell.h0 rfl)) (.none rfl) rfl rfl rfl (by kernel_rfl) (by kernel_rfl) (by kernel_rfl) noP_ok (HLe.refl _) (.keep (.drop (.drop .refl))) ?_
          refine XD_take 3 rfl (ev_loadA rfl agt_45 (fun _ => Cells.g0) rfl) (.none rfl) rfl rfl rfl (by kernel_rfl) (by kernel_rfl) (by kernel_rfl) noP_ok (HLe.refl _) (.keep (.drop (.drop .refl))) ?_
          refine XD_take 4 rfl (ev_fieldAddr rfl fld_45_0) (.none rfl) rfl rfl rfl (by kernel_rfl) (by kernel_rfl) (by kernel_rfl) noP_ok (HLe.refl _) (.keep (.drop (.drop .refl))) ?_
          refine XD_take 5 rfl (ev_load rfl sct_3 (fun _ => Cell.h0 rfl)) (.none rfl) rfl rfl rfl (by kernel_rfl) (by kernel_rfl) (by kernel_rfl) noP_ok (HLe.refl _) (.keep (.drop (.drop .refl))) ?_
          refine XD_one 6 rfl (by kernel_rfl) ?_
          refine XO_mapUpdate x mpt_56 key_3 rfl rfl rfl rfl Upd.u2 ?_
          refine XO_nil ?_
          refine at_D (HLe.refl _) (.keep (.drop (.drop .refl))) ?_
          refine XD_one 7 rfl (by kernel_rfl) ?_
          refine XO_v0 (ev_assign rfl) rfl rfl rfl ?_
          refine XO_nil ?_
          refine at_D (HLe.refl _) (.keep (.drop (.drop .refl))) ?_
          refine XD_done (by kernel_rfl) ?_
          refine at_noP ?_
          refine at_block_n ?_
          refine at_then ?_
          refine X_region ?_
          refine XO_v0 (ev_arB rfl rfl rfl (fun _ => by omega)) rfl rfl rfl ?_
          refine XO_v0 (ev_move rfl) rfl rfl rfl ?_
          refine XO_nil ?_
          exact at_met2 _ _ ⟨n - (k + 1), by omega, k + 1, mset bs x.no x, x.no, rfl, rfl, rfl, rfl, by omega, by rw [← hinv, drop_cons hx, rGo, if_neg (by unfold rBad; rw [← known_eq, hc53]; simp)]⟩ (.cons rfl (.cons rfl (.cons rfl (.cons rfl (.cons rfl (.cons rfl (.cons rfl .nil))))))) (.drop .refl)
      · skip
        have hge : n ≤ k := by simpa using hc18
        refine X_exit ?_
        refine at_then_e ?_
        refine at_then_e ?_
        refine at_block_hit ?_
        exact at_met' _ ⟨bs, rfl, rfl, rfl, by rw [← hinv, List.drop_of_length_le (by rw [hS.len]; omega)]; rfl⟩ (.cons rfl .nil)
    · rintro E I' loc' ⟨bs, rfl, rfl, rfl, hfin⟩
      refine X_seq ?_
      refine X_region ?_
      refine XO_v0 (ev_assign rfl) rfl rfl rfl ?_
      refine XO_nil ?_
      refine at_then ?_
      refine X_ret ?_
      exact at_ret1 rfl rfl (fun w hw => ⟨by unfold rCheck; first | (rw [if_pos h5]) | (rw [if_neg h5, hfin]) | (rw [if_neg h5, ← hinv, drop_cons hx, rGo, if_pos (by unfold rBad; rw [← known_eq, hc53])]), hw.drop⟩)
end Go.Proofs.Ytmflfccincbnaaa
