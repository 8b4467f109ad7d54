/- The walks of the register of rights, eighth part: each function comes to its Lean function. -/
import Derived.Test.YtmflfccincbnaaaWalkG
import Derived.Test.YtmflfccincbnaaaPlain
namespace Go.Proofs.Ytmflfccincbnaaa
open Go Go.Kn Go.Proofs
theorem w_may {I : HMap} {av : Option Addr} {n c : Nat} {xs : List Rt} (hS : Sl I 11 encR av n c xs) (hn : n ≤ 100000) (no : Int) (name town : ByteArray) (day time : Int) : RetV Try.prog 17 [.slice av n c, .int .i64 no, .string name, .string town, .int .i64 day, .int .i64 time] I (.tuple #[.bool (mayF (askedF (rCheck xs) day time) no name town (standF xs day time)), .int .i64 (askedF (rCheck xs) day time)]) := by
  intro g H w hw
  refine enterM Try.func17 rfl Try.ntmps17 rfl hw ?_
  refine X_seq ?_
  refine X_region ?_
  refine XO_box rfl rfl rfl (fun b_7 => ?_)
  refine XO_box rfl rfl rfl (fun b_8 => ?_)
  refine XO_box rfl rfl rfl (fun b_9 => ?_)
  refine XO_alloc zt_4 rfl rfl (fun b_12 => ?_)
  refine XO_alloc zt_25 rfl rfl (fun b_13 => ?_)
  refine XO_nil ?_
  refine at_then ?_
  refine X_seq ?_
  refine X_seq ?_
  refine X_region ?_
  refine XO_v0 (ev_move rfl) rfl rfl rfl ?_
  refine XO_v0 (ev_move rfl) rfl rfl rfl ?_
  refine XO_v0 (ev_move rfl) rfl rfl rfl ?_
  refine XO_callV0 (cap := []) (vs := [_, _, _]) rfl rfl fun_25 (w_asked hS hn _ _) rfl rfl ?_
  refine XO_store rfl rfl szt_25 rfl rfl (by first | exact Upd.u0 | exact Upd.u1 | exact Upd.u2 | exact Upd.u3 | exact Upd.u4 | exact Upd.u5) rfl ?_
  refine XO_nil ?_
  refine at_then ?_
  refine X_seq ?_
  refine X_region ?_
  refine XO_v0 (ev_load rfl sct_25 (fun hg => by first | exact Cell.h0 rfl | exact Cell.h1 rfl | exact Cell.h2 rfl | exact Cell.h3 rfl | exact Cell.h4 rfl | exact Cell.h5 rfl)) rfl rfl rfl ?_
  refine XO_v0 (ev_cmp rfl rfl rfl) rfl rfl rfl ?_
  refine XO_nil ?_
  refine at_then ?_
  refine X_cond rfl (fun hc20 => ?_) (fun hc20 => ?_)
  · skip
    have hc20 := hc20
    refine X_seq ?_
    refine X_noP ?_
    refine X_drawS I [(b_13, .cells #[.int .i64 (askedF (rCheck xs) day time)] 25 (0, 0))] mixed ?_
    refine XD_take 0 rfl (ev_load rfl sct_25 (fun _ => Cell.h0 rfl)) (.none rfl) rfl rfl rfl (by kernel_rfl) (by kernel_rfl) (by kernel_rfl) noP_ok (HLe.refl _) (.keep (.drop (.drop (.drop (.drop .refl))))) ?_
    refine XD_one 1 rfl (by kernel_rfl) ?_
    refine XO_store rfl rfl szt_4 rfl rfl Upd.u1 rfl ?_
    refine XO_nil ?_
    refine at_D (HLe.refl _) (.keep (.drop (.drop (.drop (.drop .refl))))) ?_
    refine XD_one 2 rfl (by kernel_rfl) ?_
    refine XO_store rfl rfl szt_25 rfl rfl Upd.u0 rfl ?_
    refine XO_nil ?_
    refine at_D (HLe.refl _) (.keep (.drop (.drop (.drop (.drop .refl))))) ?_
    refine XD_done (by kernel_rfl) ?_
    refine at_noP ?_
    refine at_then ?_
    refine X_ret ?_
    refine at_then_r ?_
    first
    | (exact at_retM0 (fun a ha w hw => res2c rfl rfl rfl sct_4 sct_25 (Cell.h1 rfl) (Cell.h0 rfl) a ha w hw) (fun w hw => ⟨by unfold mayF; rw [if_pos (by simpa using hc20)], hw.drop⟩))
    | (exact at_retM (fun a ha w hw => res2c rfl rfl rfl sct_4 sct_25 (Cell.lft (Cell.h1 rfl)) (Cell.lft (Cell.h0 rfl)) a ha w hw) (upd_app (A := [_, _, _, _, _]) .here) (fun w hw => ⟨by unfold mayF; rw [if_neg (by simpa using hc20), show askedF (rCheck xs) day time = 0 by simpa using hc20]; unfold standF at hany ⊢; rw [hany], (hw.mono (hI'.trans hI1)).drop⟩))
  · skip
    have h0 : askedF (rCheck xs) day time = 0 := by simpa using hc20
    refine X_skip ?_
    refine at_then ?_
    refine X_seq ?_
    refine X_seq ?_
    refine X_region ?_
    refine XO_v0 (ev_move rfl) rfl rfl rfl ?_
    refine XO_v0 (ev_move rfl) rfl rfl rfl ?_
    refine XO_v0 (ev_move rfl) rfl rfl rfl ?_
    refine XO_callM (cap := []) (vs := [_, _, _]) rfl rfl fun_27 .nil (w_standing hS hn _ _) rfl rfl ?_
    rintro v I' L' hI' ⟨rfl, b1, b2, b3, b4, rfl, hcap⟩
    refine XO_nil ?_
    refine at_then ?_
    refine X_block ?_
    refine X_rangeFunc (enc := encA) (fun pre I' loc' => loc' = [(b_13, .cells #[.int .i64 (askedF (rCheck xs) day time)] 25 (0, 0)), (b_12, .cells #[.bool false] 4 (0, 0)), (b_9, .cells #[.string town] 9 (0, 0)), (b_8, .cells #[.string name] 9 (0, 0)), (b_7, .cells #[.int .i64 no] 3 (0, 0))] ∧ pre.any (mayP no name town) = false) (fun c pre I' loc' => c = .ret ∧ loc' = [(b_13, .cells #[.int .i64 0] 25 (0, 0)), (b_12, .cells #[.bool true] 4 (0, 0)), (b_9, .cells #[.string town] 9 (0, 0)), (b_8, .cells #[.string name] 9 (0, 0)), (b_7, .cells #[.int .i64 no] 3 (0, 0))] ∧ pre.any (mayP no name town) = true) (fun pre x E2 I2 loc2 => ∃ b14, E2 = [(7, .pointer (some ⟨b_7, 0, none⟩)), (8, .pointer (some ⟨b_8, 0, none⟩)), (9, .pointer (some ⟨b_9, 0, none⟩)), (12, .pointer (some ⟨b_12, 0, none⟩)), (13, .pointer (some ⟨b_13, 0, none⟩)), (14, .pointer (some ⟨b14, 0, none⟩))] ∧ loc2 = (b14, .cells (encR x).toArray 45 (0, 0)) :: [(b_13, .cells #[.int .i64 (askedF (rCheck xs) day time)] 25 (0, 0)), (b_12, .cells #[.bool false] 4 (0, 0)), (b_9, .cells #[.string town] 9 (0, 0)), (b_8, .cells #[.string name] 9 (0, 0)), (b_7, .cells #[.int .i64 no] 3 (0, 0))] ∧ pre.any (mayP no name town) = false) rfl fun39 (w_iter (hS.mono hI') hn hcap) rfl ⟨rfl, rfl⟩ ?_ ?_ ?_ ?_
    · rintro l pre x I1 loc1 H1 hpre hI1 ⟨rfl, hany⟩
      refine X_region ?_
      refine XO_alloc zt_45 rfl rfl (fun b_14 => ?_)
      refine XO_storeA rfl rfl szt_45 rfl rfl rfl rfl (by first | exact Upd.u0 | exact Upd.u1 | exact Upd.u2 | exact Upd.u3 | exact Upd.u4 | exact Upd.u5) ?_
      refine XO_nil ?_
      exact at_met' _ ⟨HLe.refl _, b_14, rfl, rfl, hany⟩ (.cons rfl (.cons rfl (.cons rfl (.cons rfl (.cons rfl (.cons rfl .nil))))))
    · rintro l pre x E2 I2 loc2 H2 hpre hI2 ⟨b14, rfl, rfl, hany⟩
      refine X_block ?_
      refine X_seq ?_
      refine X_region ?_
      refine XO_v0 (ev_fieldAddr rfl fld_45_1) rfl rfl rfl ?_
      refine XO_v0 (ev_load rfl sct_3 (fun hg => by first | exact Cell.h0 rfl | exact Cell.h1 rfl | exact Cell.h2 rfl | exact Cell.h3 rfl | exact Cell.h4 rfl | exact Cell.h5 rfl)) rfl rfl rfl ?_
      refine XO_v0 (ev_cmp rfl rfl rfl) rfl rfl rfl ?_
      refine XO_v0 (ev_move rfl) rfl rfl rfl ?_
      refine XO_pushT 3 rfl rfl rfl ?_
      refine XO_v1 (ev_fieldAddr rfl fld_45_2) (.some rfl rfl rfl rfl gbt) rfl rfl rfl ?_
      refine XO_v1 (ev_load rfl sct_3 (fun hg => by first | exact Cell.h0 rfl | exact Cell.h1 rfl | exact Cell.h2 rfl | exact Cell.h3 rfl | exact Cell.h4 rfl | exact Cell.h5 rfl)) (.some rfl rfl rfl rfl gbt) rfl rfl rfl ?_
      refine XO_v1 (ev_load rfl sct_3 (fun hg => by first | exact Cell.h0 rfl | exact Cell.h1 rfl | exact Cell.h2 rfl | exact Cell.h3 rfl | exact Cell.h4 rfl | exact Cell.h5 rfl)) (.some rfl rfl rfl rfl gbt) rfl rfl rfl ?_
      refine XO_v1 (ev_cmp rfl rfl rfl) (.some rfl rfl rfl rfl gbt) rfl rfl rfl ?_
      refine XO_and0 rfl rfl rfl rfl rfl ?_
      refine XO_v0 (ev_move rfl) rfl rfl rfl ?_
      refine XO_pushT 9 rfl rfl rfl ?_
      refine XO_v1 (ev_fieldAddr rfl fld_45_6) (.some rfl rfl rfl rfl gbt) rfl rfl rfl ?_
      refine XO_v1 (ev_load rfl sct_9 (fun hg => by first | exact Cell.h0 rfl | exact Cell.h1 rfl | exact Cell.h2 rfl | exact Cell.h3 rfl | exact Cell.h4 rfl | exact Cell.h5 rfl)) (.some rfl rfl rfl rfl gbt) rfl rfl rfl ?_
      refine XO_v1 (ev_load rfl sct_9 (fun hg => by first | exact Cell.h0 rfl | exact Cell.h1 rfl | exact Cell.h2 rfl | exact Cell.h3 rfl | exact Cell.h4 rfl | exact Cell.h5 rfl)) (.some rfl rfl rfl rfl gbt) rfl rfl rfl ?_
      refine XO_v1 (ev_str rfl rfl rfl) (.some rfl rfl rfl rfl gbt) rfl rfl rfl ?_
      refine XO_and0 rfl rfl rfl rfl rfl ?_
      refine XO_v0 (ev_move rfl) rfl rfl rfl ?_
      refine XO_pushT 15 rfl rfl rfl ?_
      refine XO_v1 (ev_fieldAddr rfl fld_45_7) (.some rfl rfl rfl rfl gbt) rfl rfl rfl ?_
      refine XO_v1 (ev_load rfl sct_9 (fun hg => by first | exact Cell.h0 rfl | exact Cell.h1 rfl | exact Cell.h2 rfl | exact Cell.h3 rfl | exact Cell.h4 rfl | exact Cell.h5 rfl)) (.some rfl rfl rfl rfl gbt) rfl rfl rfl ?_
      refine XO_v1 (ev_load rfl sct_9 (fun hg => by first | exact Cell.h0 rfl | exact Cell.h1 rfl | exact Cell.h2 rfl | exact Cell.h3 rfl | exact Cell.h4 rfl | exact Cell.h5 rfl)) (.some rfl rfl rfl rfl gbt) rfl rfl rfl ?_
      refine XO_v1 (ev_str rfl rfl rfl) (.some rfl rfl rfl rfl gbt) rfl rfl rfl ?_
      refine XO_and0 rfl rfl rfl rfl rfl ?_
      refine XO_nil ?_
      refine at_then ?_
      refine X_cond rfl (fun hc47 => ?_) (fun hc47 => ?_)
      · skip
        refine X_seq ?_
        refine X_region ?_
        refine XO_store rfl rfl szt_4 rfl rfl (by first | exact Upd.u0 | exact Upd.u1 | exact Upd.u2 | exact Upd.u3 | exact Upd.u4 | exact Upd.u5) rfl ?_
        refine XO_store rfl rfl szt_25 rfl rfl (by first | exact Upd.u0 | exact Upd.u1 | exact Upd.u2 | exact Upd.u3 | exact Upd.u4 | exact Upd.u5) rfl ?_
        refine XO_nil ?_
        refine at_then ?_
        refine X_ret ?_
        refine at_block_r ?_
        exact at_round_ret2 ⟨HLe.refl _, rfl, rfl, by rw [any_snoc hany]; exact hc47⟩ (.drop .refl)
      · skip
        refine X_skip ?_
        refine at_block_n ?_
        exact at_round2 ⟨HLe.refl _, rfl, by rw [any_snoc hany]; exact hc47⟩ (.drop .refl)
    · rintro bd I1 loc1 hI1 ⟨rfl, hany⟩
      refine at_block_n ?_
      refine at_then ?_
      refine X_seq ?_
      refine X_region ?_
      refine XO_store rfl rfl szt_4 rfl rfl (by first | exact Upd.u0 | exact Upd.u1 | exact Upd.u2 | exact Upd.u3 | exact Upd.u4 | exact Upd.u5) rfl ?_
      refine XO_store rfl rfl szt_25 rfl rfl (by first | exact Upd.u0 | exact Upd.u1 | exact Upd.u2 | exact Upd.u3 | exact Upd.u4 | exact Upd.u5) rfl ?_
      refine XO_nil ?_
      refine at_then ?_
      refine X_ret ?_
      first
      | (exact at_retM0 (fun a ha w hw => res2c rfl rfl rfl sct_4 sct_25 (Cell.h1 rfl) (Cell.h0 rfl) a ha w hw) (fun w hw => ⟨by unfold mayF; rw [if_pos (by simpa using hc20)], hw.drop⟩))
      | (exact at_retM (fun a ha w hw => res2c rfl rfl rfl sct_4 sct_25 (Cell.lft (Cell.h1 rfl)) (Cell.lft (Cell.h0 rfl)) a ha w hw) (upd_app (A := [_, _, _, _, _]) .here) (fun w hw => ⟨by unfold mayF; rw [if_neg (by simpa using hc20), show askedF (rCheck xs) day time = 0 by simpa using hc20]; unfold standF at hany ⊢; rw [hany], (hw.mono (hI'.trans hI1)).drop⟩))
    · rintro c bd pre I1 loc1 hI1 hpre ⟨rfl, rfl, hany⟩
      have hany := any_pre hpre hany
      refine X_ret ?_
      refine at_block_r ?_
      refine at_then_r ?_
      first
      | (exact at_retM0 (fun a ha w hw => res2c rfl rfl rfl sct_4 sct_25 (Cell.h1 rfl) (Cell.h0 rfl) a ha w hw) (fun w hw => ⟨by unfold mayF; rw [if_pos (by simpa using hc20)], hw.drop⟩))
      | (exact at_retM (fun a ha w hw => res2c rfl rfl rfl sct_4 sct_25 (Cell.lft (Cell.h1 rfl)) (Cell.lft (Cell.h0 rfl)) a ha w hw) (upd_app (A := [_, _, _, _, _]) .here) (fun w hw => ⟨by unfold mayF; rw [if_neg (by simpa using hc20), show askedF (rCheck xs) day time = 0 by simpa using hc20]; unfold standF at hany ⊢; rw [hany], (hw.mono (hI'.trans hI1)).drop⟩))
end Go.Proofs.Ytmflfccincbnaaa
