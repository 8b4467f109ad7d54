/- The walks of the register of rights, the laws, first part: each function comes to its Lean function. -/
import Derived.Test.YtmflfccincbnaaaWalkO
import Derived.Test.YtmflfccincbnaaaPlainM
namespace Go.Proofs.Ytmflfccincbnaaa
open Go Go.Kn Go.Proofs
theorem w_spec {I : HMap} {av : Option Addr} {n c : Nat} {xs : List Rt} (hS : Sl I 11 encR av n c xs) (hx : ∀ x ∈ xs, okR x) (day time : Int) : RetV Try.prog 3 [.slice av n c, .int .i64 day, .int .i64 time] I (.bool true) := by
  intro g H w hw
  refine enter Try.func3 rfl Try.ntmps3 rfl hw ?_
  refine X_seq ?_
  refine X_region ?_
  refine XO_v0 (ev_assign rfl) rfl rfl rfl ?_
  refine XO_nil ?_
  refine at_then ?_
  refine X_seq ?_
  refine X_seq ?_
  refine X_region ?_
  refine XO_callV0 (cap := []) (vs := []) rfl rfl fun_10 (w_sane _) rfl rfl ?_
  refine XO_v0 (ev_not rfl) rfl rfl rfl ?_
  refine XO_nil ?_
  refine at_then ?_
  refine X_cond rfl (fun hc12 => ?_) (fun hc12 => ?_)
  · skip
    exact absurd hc12 (by decide)
  · skip
    refine X_skip ?_
    refine at_then ?_
    refine X_seq ?_
    refine X_seq ?_
    refine X_region ?_
    refine XO_v0 (ev_move rfl) rfl rfl rfl ?_
    refine XO_callV0 (cap := []) (vs := [_]) rfl rfl fun_11 (w_few hS) rfl rfl ?_
    refine XO_v0 (ev_not rfl) rfl rfl rfl ?_
    refine XO_nil ?_
    refine at_then ?_
    refine X_cond rfl (fun hc15 => ?_) (fun hc15 => ?_)
    · skip
      refine X_seq ?_
      refine X_region ?_
      refine XO_v0 (ev_assign rfl) rfl rfl rfl ?_
      refine XO_nil ?_
      refine at_then ?_
      refine X_ret ?_
      refine at_then_r ?_
      first
      | exact at_ret1 rfl rfl (fun w hw => ⟨rfl, hw.drop⟩)
      | exact at_ret1 rfl rfl (fun w hw => ⟨by rw [check_eq hx, stand_res hx, same_self]; simp, (hw.mono (hI5.trans hI6)).drop⟩)
    · skip
      have hn : n ≤ 100000 := by have := few_len (xs := xs) (by simpa using hc15); rw [hS.len] at this; omega
      refine X_skip ?_
      refine at_then ?_
      refine X_seq ?_
      refine X_region ?_
      refine XO_v0 (ev_move rfl) rfl rfl rfl ?_
      refine XO_v0 (ev_move rfl) rfl rfl rfl ?_
      refine XO_v0 (ev_move rfl) rfl rfl rfl ?_
      refine XO_callM (cap := []) (vs := [_, _, _]) rfl rfl fun_12 .nil (w_standing_all hS hn _ _) rfl rfl ?_
      rintro vv I5 L' hI5 ⟨rfl, a5, c5, rfl, h5⟩
      have hS := hS.mono hI5
      refine XO_v0 (ev_move rfl) rfl rfl rfl ?_
      refine XO_v0 (ev_extract rfl rfl) rfl rfl rfl ?_
      refine XO_v0 (ev_extract rfl rfl) rfl rfl rfl ?_
      refine XO_v0 (ev_assign rfl) rfl rfl rfl ?_
      refine XO_v0 (ev_assign rfl) rfl rfl rfl ?_
      refine XO_nil ?_
      refine at_then ?_
      refine X_seq ?_
      refine X_region ?_
      refine XO_v0 (ev_move rfl) rfl rfl rfl ?_
      refine XO_v0 (ev_move rfl) rfl rfl rfl ?_
      refine XO_v0 (ev_move rfl) rfl rfl rfl ?_
      refine XO_callM (cap := []) (vs := [_, _, _]) rfl rfl fun_13 .nil (w_rstanding hS hn _ _) rfl rfl ?_
      rintro vv I6 L' hI6 ⟨rfl, a6, c6, rfl, h6⟩
      have hS := hS.mono hI6; have h5 := h5.mono hI6
      refine XO_v0 (ev_move rfl) rfl rfl rfl ?_
      refine XO_v0 (ev_extract rfl rfl) rfl rfl rfl ?_
      refine XO_v0 (ev_extract rfl rfl) rfl rfl rfl ?_
      refine XO_v0 (ev_assign rfl) rfl rfl rfl ?_
      refine XO_v0 (ev_assign rfl) rfl rfl rfl ?_
      refine XO_nil ?_
      refine at_then ?_
      refine X_seq ?_
      refine X_region ?_
      refine XO_v0 (ev_move rfl) rfl rfl rfl ?_
      refine XO_callV0 (cap := []) (vs := [_]) rfl rfl fun_14 (w_check hS hn) rfl rfl ?_
      refine XO_v0 (ev_move rfl) rfl rfl rfl ?_
      refine XO_callV0 (cap := []) (vs := [_]) rfl rfl fun_15 (w_rcheck hS hn) rfl rfl ?_
      refine XO_v0 (ev_cmp rfl rfl rfl) rfl rfl rfl ?_
      refine XO_v0 (ev_move rfl) rfl rfl rfl ?_
      refine XO_pushT 5 rfl rfl rfl ?_
      refine XO_v1 (ev_move rfl) (.some rfl rfl rfl rfl gbt) rfl rfl rfl ?_
      refine XO_v1 (ev_move rfl) (.some rfl rfl rfl rfl gbt) rfl rfl rfl ?_
      refine XO_callV1 (cap := []) (vs := [_, _]) rfl rfl fun_16 (fun hg => w_same h5 h6 (Nat.le_trans resF_len (Nat.le_trans standF_len (by rw [hS.len]; exact hn)))) (.some rfl rfl rfl rfl gbt) rfl rfl ?_
      refine XO_and0 rfl rfl rfl rfl rfl ?_
      refine XO_v0 (ev_move rfl) rfl rfl rfl ?_
      refine XO_pushT 10 rfl rfl rfl ?_
      refine XO_v1 (ev_move rfl) (.some rfl rfl rfl rfl gbt) rfl rfl rfl ?_
      refine XO_v1 (ev_move rfl) (.some rfl rfl rfl rfl gbt) rfl rfl rfl ?_
      refine XO_v1 (ev_cmp rfl rfl rfl) (.some rfl rfl rfl rfl gbt) rfl rfl rfl ?_
      refine XO_and0 rfl rfl rfl rfl rfl ?_
      refine XO_v0 (ev_assign rfl) rfl rfl rfl ?_
      refine XO_nil ?_
      refine at_then ?_
      refine X_ret ?_
      first
      | exact at_ret1 rfl rfl (fun w hw => ⟨rfl, hw.drop⟩)
      | exact at_ret1 rfl rfl (fun w hw => ⟨by rw [check_eq hx, stand_res hx, same_self]; simp, (hw.mono (hI5.trans hI6)).drop⟩)
end Go.Proofs.Ytmflfccincbnaaa
