/- The walks of the register of rights, seventh part: each function comes to its Lean function. -/
import Derived.Test.YtmflfccincbnaaaWalkF
import Derived.Test.YtmflfccincbnaaaPlain
namespace Go.Proofs.Ytmflfccincbnaaa
open Go Go.Kn Go.Proofs
theorem w_appendSeq (I : HMap) {f : Nat} {cap : List Value} {ys : List Rt} (hF : Fun Try.prog f) (hseq : SeqC Try.prog f cap I encA ys) (hy : ys.length ≤ 100000) : RetM Try.prog 38 [.slice none 0 0, .func (.func f) #[] cap.toArray] I [] (SlRes 11 encR ys) := by
  intro g H w hw
  refine enterM Try.func38 rfl Try.ntmps38 rfl hw ?_
  refine X_seq ?_
  refine X_region ?_
  refine XO_box rfl rfl rfl (fun b_2 => ?_)
  refine XO_v0 (ev_assign rfl) rfl rfl rfl ?_
  refine XO_nil ?_
  refine at_then ?_
  refine X_seq ?_
  refine X_seq ?_
  refine X_region ?_
  refine XO_v0 (ev_move rfl) rfl rfl rfl ?_
  refine XO_nil ?_
  refine at_then ?_
  refine X_block ?_
  refine X_rangeFunc (enc := encA) (fun pre I' loc' => ∃ v q L, loc' = L ++ [(b_2, .cells #[v] 22 (0, 0))] ∧ OwnS 45 11 v q (pre.flatMap encR) L ∧ q = pre.length) (fun _ _ _ _ => False) (fun pre x E2 I2 loc2 => ∃ v q L b5, E2 = [(2, .pointer (some ⟨b_2, 0, none⟩)), (5, .pointer (some ⟨b5, 0, none⟩))] ∧ loc2 = (b5, .cells (encR x).toArray 45 (0, 0)) :: (L ++ [(b_2, .cells #[v] 22 (0, 0))]) ∧ OwnS 45 11 v q (pre.flatMap encR) L ∧ q = pre.length) rfl hF hseq rfl ⟨_, 0, [], rfl, OwnS.nil, rfl⟩ ?_ ?_ ?_ ?_
  · rintro l pre x I1 loc1 H1 hpre hI1 ⟨v, q, L, rfl, hO, hq⟩
    refine X_region ?_
    refine XO_alloc zt_45 rfl rfl (fun b_5 => ?_)
    refine XO_storeA rfl rfl szt_45 rfl rfl rfl rfl (by first | exact upd_app Upd.u2 | exact Upd.u0 | exact Upd.u1 | exact Upd.u2 | exact Upd.u3 | exact Upd.u4 | exact Upd.u5) ?_
    refine XO_nil ?_
    exact at_met' _ ⟨HLe.refl _, v, q, L, b_5, rfl, rfl, hO, hq⟩ (.cons rfl (.cons rfl .nil))
  · rintro l pre x E2 I2 loc2 H2 hpre hI2 ⟨v, q, L, b5, rfl, rfl, hO, hq⟩
    have hlen := hpre.length_le
    rw [List.length_append, List.length_singleton] at hlen
    refine X_block ?_
    refine X_region ?_
    refine XO_v0 (ev_load rfl sct_22 (fun hg => by first | exact Cell.lft (Cell.app (Cell.here rfl)) | exact (Cell.app (Cell.here rfl)).there | exact Cell.h0 rfl | exact Cell.h1 rfl | exact Cell.h2 rfl | exact Cell.h3 rfl | exact Cell.h4 rfl | exact Cell.h5 rfl)) rfl rfl rfl ?_
    refine XO_v0 (ev_loadA rfl agt_45 (fun _ => by first | exact Cells.g0 | exact Cells.g1 | exact Cells.g2 | exact Cells.g3 | exact Cells.g4 | exact Cells.g5) rfl) rfl rfl rfl ?_
    refine XO_buildSlice (ps := [(0, _)]) (m := [encR x]) elt_22 rfl (.cons rfl (.nil)) rfl (by simp [encR_len, encI_len, encP_len]) (by decide) (by decide) rfl rfl (fun b_10 => ?_)
    refine XO_append (v := v) (ys := [encR x].flatten) (L := L) rfl rfl elt_22 hO (split_mid (A := [_, _]) (B := [_])) ⟨rfl, fun _ => rfl, Cells.here⟩ rfl (by omega) rfl rfl ?_
    intro v' L' hO' _
    refine XO_store rfl rfl szt_22 hO'.one rfl (by first | exact upd_app Upd.u2 | exact Upd.u0 | exact Upd.u1 | exact Upd.u2 | exact Upd.u3 | exact Upd.u4 | exact Upd.u5) rfl ?_
    refine XO_nil ?_
    refine at_block_n ?_
    exact at_round2 ⟨HLe.refl _, v', q + 1, L', rfl, by rw [List.flatMap_append]; simpa using hO', by rw [List.length_append, List.length_singleton, hq]⟩ (subL_app (.drop (.drop .refl)))
  · rintro bd I1 loc1 hI1 ⟨v, q, L, rfl, hO, hq⟩
    refine at_block_n ?_
    refine at_then ?_
    refine X_seq ?_
    refine X_region ?_
    refine XO_v0 (ev_load rfl sct_22 (fun hg => by first | exact Cell.lft (Cell.app (Cell.here rfl)) | exact (Cell.app (Cell.here rfl)).there | exact Cell.h0 rfl | exact Cell.h1 rfl | exact Cell.h2 rfl | exact Cell.h3 rfl | exact Cell.h4 rfl | exact Cell.h5 rfl)) rfl rfl rfl ?_
    refine XO_v0 (ev_assign rfl) rfl rfl rfl ?_
    refine XO_nil ?_
    refine at_then ?_
    refine X_ret ?_
    exact at_retM (fun a ha w _ => res1 rfl rfl a ha w) (upd_app .here) (fun w hw => by obtain ⟨I2, h1, h2, h3⟩ := OwnS.res hO encR_len (by decide) (hw.subL (by rw [List.append_assoc]; exact subL_left)); exact ⟨_, I2, [], rfl, hI1.trans h1, h2, h3⟩)
  · rintro c bd pre I1 loc1 hI1 hpre hF; exact hF.elim

theorem w_collect (I : HMap) {f : Nat} {cap : List Value} {ys : List Rt} (hF : Fun Try.prog f) (hseq : SeqC Try.prog f cap I encA ys) (hy : ys.length ≤ 100000) : RetM Try.prog 26 [.func (.func f) #[] cap.toArray] I [] (SlRes 11 encR ys) := by
  intro g H w hw
  refine enter Try.func26 rfl Try.ntmps26 rfl hw ?_
  refine X_seq ?_
  refine X_region ?_
  refine XO_v0 (ev_assign rfl) rfl rfl rfl ?_
  refine XO_nil ?_
  refine at_then ?_
  refine X_seq ?_
  refine X_region ?_
  refine XO_v0 (ev_move rfl) rfl rfl rfl ?_
  refine XO_callM (cap := []) (vs := [_, _]) rfl rfl fun_38 .nil (w_appendSeq I hF hseq hy) rfl rfl ?_
  rintro v I' L' hI' ⟨rfl, av', c', rfl, hS'⟩
  refine XO_v0 (ev_assign rfl) rfl rfl rfl ?_
  refine XO_nil ?_
  refine at_then ?_
  refine X_ret ?_
  exact at_ret1 rfl rfl (fun w hw => ⟨_, _, [], rfl, hI', hw, rfl, av', c', rfl, hS'⟩)

theorem standF_len {xs : List Rt} {day time : Int} : (standF xs day time).length ≤ xs.length := List.length_filter_le ..
theorem fun39 : Fun Try.prog 39 := fun_39

theorem w_standing_all {I : HMap} {av : Option Addr} {n c : Nat} {xs : List Rt} (hS : Sl I 11 encR av n c xs) (hn : n ≤ 100000) (day time : Int) : RetM Try.prog 12 [.slice av n c, .int .i64 day, .int .i64 time] I [] (SlE 11 encR (resF (askedF (rCheck xs) day time) (standF xs day time)) (askedF (rCheck xs) day time)) := by
  intro g H w hw
  refine enter Try.func12 rfl Try.ntmps12 rfl hw ?_
  refine X_seq ?_
  refine X_region ?_
  refine XO_v0 (ev_assign rfl) rfl rfl rfl ?_
  refine XO_v0 (ev_assign rfl) rfl rfl rfl ?_
  refine XO_nil ?_
  refine at_then ?_
  refine X_seq ?_
  refine X_seq ?_
  refine X_region ?_
  refine XO_v0 (ev_move rfl) rfl rfl rfl ?_
  refine XO_v0 (ev_move rfl) rfl rfl rfl ?_
  refine XO_v0 (ev_move rfl) rfl rfl rfl ?_
  refine XO_callV0 (cap := []) (vs := [_, _, _]) rfl rfl fun_25 (w_asked hS hn _ _) rfl rfl ?_
  refine XO_v0 (ev_assign rfl) rfl rfl rfl ?_
  refine XO_nil ?_
  refine at_then ?_
  refine X_seq ?_
  refine X_region ?_
  refine XO_v0 (ev_move rfl) rfl rfl rfl ?_
  refine XO_v0 (ev_cmp rfl rfl rfl) rfl rfl rfl ?_
  refine XO_nil ?_
  refine at_then ?_
  refine X_cond rfl (fun hc13 => ?_) (fun hc13 => ?_)
  · skip
    refine X_seq ?_
    refine X_region ?_
    refine XO_v0 (ev_move rfl) rfl rfl rfl ?_
    refine XO_v0 (ev_assign rfl) rfl rfl rfl ?_
    refine XO_v0 (ev_assign rfl) rfl rfl rfl ?_
    refine XO_nil ?_
    refine at_then ?_
    refine X_ret ?_
    refine at_then_r ?_
    first | exact at_ret2 rfl rfl rfl (fun w hw => ⟨_, I, [], rfl, HLe.refl _, hw, by unfold resF; rw [if_pos (by simpa using hc13)]; exact ⟨rfl, none, 0, rfl, .nil⟩⟩) | exact at_ret2 rfl rfl rfl (fun w hw => ⟨_, _, [], rfl, hI'.trans hI2, hw, by unfold resF; rw [if_neg (by simpa using hc13)]; exact ⟨rfl, av', c', by rw [show askedF (rCheck xs) day time = 0 by simpa using hc13], hS'⟩⟩)
  · skip
    refine X_skip ?_
    refine at_then ?_
    refine X_seq ?_
    refine X_region ?_
    refine XO_v0 (ev_move rfl) rfl rfl rfl ?_
    refine XO_v0 (ev_move rfl) rfl rfl rfl ?_
    refine XO_v0 (ev_move rfl) rfl rfl rfl ?_
    refine XO_callM (cap := []) (vs := [_, _, _]) rfl rfl fun_27 .nil (w_standing hS hn _ _) rfl rfl ?_
    rintro v I' L' hI' ⟨rfl, b1, b2, b3, b4, rfl, hcap⟩
    refine XO_callM (cap := []) (vs := [_]) rfl rfl fun_26 .nil (w_collect _ fun39 (w_iter (hS.mono hI') hn hcap) (by have h1 := @standF_len xs day time; rw [hS.len] at h1; omega)) rfl rfl ?_
    rintro v I2 L' hI2 ⟨rfl, av', c', rfl, hS'⟩
    refine XO_v0 (ev_assign rfl) rfl rfl rfl ?_
    refine XO_v0 (ev_assign rfl) rfl rfl rfl ?_
    refine XO_nil ?_
    refine at_then ?_
    refine X_ret ?_
    first | exact at_ret2 rfl rfl rfl (fun w hw => ⟨_, I, [], rfl, HLe.refl _, hw, by unfold resF; rw [if_pos (by simpa using hc13)]; exact ⟨rfl, none, 0, rfl, .nil⟩⟩) | exact at_ret2 rfl rfl rfl (fun w hw => ⟨_, _, [], rfl, hI'.trans hI2, hw, by unfold resF; rw [if_neg (by simpa using hc13)]; exact ⟨rfl, av', c', by rw [show askedF (rCheck xs) day time = 0 by simpa using hc13], hS'⟩⟩)
end Go.Proofs.Ytmflfccincbnaaa
