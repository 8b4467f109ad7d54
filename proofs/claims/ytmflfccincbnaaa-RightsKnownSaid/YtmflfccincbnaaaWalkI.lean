/- The walks of the register of rights, ninth part: each function comes to its Lean function. -/
import Derived.Test.YtmflfccincbnaaaWalkH
import Derived.Test.YtmflfccincbnaaaPlain
namespace Go.Proofs.Ytmflfccincbnaaa
open Go Go.Kn Go.Proofs
theorem resF_some {α : Type} {chk : Int} {xs : List α} {k : Nat} {x : α} (h : (resF chk xs)[k]? = some x) : chk = 0 ∧ resF chk xs = xs := by
  unfold resF at *
  split at h
  · simp at h
  · rename_i hc; exact ⟨Decidable.not_not.1 hc, by rw [if_neg hc]⟩
theorem resF_len {α : Type} {chk : Int} {xs : List α} : (resF chk xs).length ≤ xs.length := by
  unfold resF; split <;> simp
theorem standsF_len {xs : List Rt} {day time : Int} : (standsF xs day time).length ≤ xs.length := List.length_filter_le ..
theorem mayF_res {chk no : Int} {name town : ByteArray} {xs : List Rt} : mayF chk no name town xs = (resF chk xs).any (mayP no name town) := by
  unfold mayF resF; split <;> rfl

theorem w_rmay {I : HMap} {av : Option Addr} {n c : Nat} {xs : List Rt} (hS : Sl I 11 encR av n c xs) (hn : n ≤ 100000) (no : Int) (name town : ByteArray) (day time : Int) : RetV Try.prog 18 [.slice av n c, .int .i64 no, .string name, .string town, .int .i64 day, .int .i64 time] I (.tuple #[.bool (mayF (askedF (fCheck xs) day time) no name town (standsF xs day time)), .int .i64 (askedF (fCheck xs) day time)]) := by
  intro g H w hw
  refine enter Try.func18 rfl Try.ntmps18 rfl hw ?_
  refine X_seq ?_
  refine X_region ?_
  refine XO_v0 (ev_assign rfl) rfl rfl rfl ?_
  refine XO_v0 (ev_assign rfl) rfl rfl rfl ?_
  refine XO_nil ?_
  refine at_then ?_
  refine X_seq ?_
  refine X_region ?_
  refine XO_v0 (ev_move rfl) rfl rfl rfl ?_
  refine XO_v0 (ev_move rfl) rfl rfl rfl ?_
  refine XO_v0 (ev_move rfl) rfl rfl rfl ?_
  refine XO_callM (cap := []) (vs := [_, _, _]) rfl rfl fun_13 .nil (w_rstanding hS hn _ _) rfl rfl ?_
  rintro v J1 L' hJ1 ⟨rfl, av', c', rfl, hS'⟩
  have hz : (resF (askedF (fCheck xs) day time) (standsF xs day time)).length ≤ 100000 := Nat.le_trans resF_len (Nat.le_trans standsF_len (by rw [hS.len]; exact hn))
  generalize hzs : resF (askedF (fCheck xs) day time) (standsF xs day time) = zs at hS' hz
  refine XO_v0 (ev_move rfl) rfl rfl rfl ?_
  refine XO_v0 (ev_extract rfl rfl) rfl rfl rfl ?_
  refine XO_v0 (ev_extract rfl rfl) rfl rfl rfl ?_
  refine XO_v0 (ev_assign rfl) rfl rfl rfl ?_
  refine XO_v0 (ev_assign rfl) rfl rfl rfl ?_
  refine XO_nil ?_
  refine at_then ?_
  refine X_cut (fun E I' loc' => E = [(0, .slice av n c), (1, .int .i64 no), (2, .string name), (3, .string town), (15, .int .i64 (askedF (fCheck xs) day time))] ∧ I' = J1 ∧ loc' = [] ∧ zs.any (mayP no name town) = false) ?_ ?_
  · skip
    refine X_seq ?_
    refine X_region ?_
    refine XO_v0 (ev_assign rfl) rfl rfl rfl ?_
    refine XO_nil ?_
    refine at_then ?_
    refine X_block ?_
    refine X_loop (fun m E I' loc' => ∃ k : Nat, m = zs.length - k ∧ E = [(0, .slice av n c), (1, .int .i64 no), (2, .string name), (3, .string town), (14, .slice av' zs.length c'), (15, .int .i64 (askedF (fCheck xs) day time)), (16, .int .i64 k)] ∧ I' = J1 ∧ loc' = [] ∧ k ≤ zs.length ∧ (zs.take k).any (mayP no name town) = false) _ _ _ _ ⟨0, rfl, rfl, rfl, rfl, Nat.zero_le _, rfl⟩ (.cons rfl (.cons rfl (.cons rfl (.cons rfl (.cons rfl (.cons rfl (.cons rfl .nil))))))) (HLe.refl _) rfl ?_
    rintro m E I' loc' ⟨k, rfl, rfl, rfl, rfl, hk, hinv⟩
    refine X_seq ?_
    refine X_seq ?_
    refine X_region ?_
    refine XO_v0 (ev_move rfl) rfl rfl rfl ?_
    refine XO_v0 (ev_move rfl) rfl rfl rfl ?_
    refine XO_v0 (ev_lenS rfl slt_22) rfl rfl rfl ?_
    refine XO_v0 (ev_cmp rfl rfl rfl) rfl rfl rfl ?_
    refine XO_nil ?_
    refine at_then ?_
    refine X_cond rfl (fun hc27 => ?_) (fun hc27 => ?_)
    · skip
      have hlt : k < zs.length := by simpa using hc27
      obtain ⟨x, hx⟩ := hS'.at hlt
      refine X_skip ?_
      refine at_then ?_
      refine X_seq ?_
      refine X_block ?_
      refine X_seq ?_
      refine X_region ?_
      refine XO_v0 (ev_move rfl) rfl rfl rfl ?_
      refine XO_v0 (ev_move rfl) rfl rfl rfl ?_
      refine XO_v0 (ev_indexSl rfl rfl slt_22 hS' (fun hg => by omega)) rfl rfl rfl ?_
      refine XO_v0 (ev_fieldAddr rfl fld_45_1) rfl rfl rfl ?_
      refine XO_v0 (ev_load rfl sct_3 (fun hg => by first | exact Sl.get hS' hx rfl | exact Cell.h0 rfl | exact Cell.h1 rfl | exact Cell.h2 rfl | exact Cell.h3 rfl | exact Cell.h4 rfl | exact Cell.h5 rfl)) rfl rfl rfl ?_
      refine XO_v0 (ev_cmp rfl rfl rfl) rfl rfl rfl ?_
      refine XO_v0 (ev_move rfl) rfl rfl rfl ?_
      refine XO_pushT 6 rfl rfl rfl ?_
      refine XO_v1 (ev_move rfl) (.some rfl rfl rfl rfl gbt) rfl rfl rfl ?_
      refine XO_v1 (ev_move rfl) (.some rfl rfl rfl rfl gbt) rfl rfl rfl ?_
      refine XO_v1 (ev_indexSl rfl rfl slt_22 hS' (fun hg => by omega)) (.some rfl rfl rfl rfl gbt) rfl rfl rfl ?_
      refine XO_v1 (ev_fieldAddr rfl fld_45_2) (.some rfl rfl rfl rfl gbt) rfl rfl rfl ?_
      refine XO_v1 (ev_load rfl sct_3 (fun hg => by first | exact Sl.get hS' hx rfl | exact Cell.h0 rfl | exact Cell.h1 rfl | exact Cell.h2 rfl | exact Cell.h3 rfl | exact Cell.h4 rfl | exact Cell.h5 rfl)) (.some rfl rfl rfl rfl gbt) rfl rfl rfl ?_
      refine XO_v1 (ev_move rfl) (.some rfl rfl rfl rfl gbt) rfl rfl rfl ?_
      refine XO_v1 (ev_cmp rfl rfl rfl) (.some rfl rfl rfl rfl gbt) rfl rfl rfl ?_
      refine XO_and0 rfl rfl rfl rfl rfl ?_
      refine XO_v0 (ev_move rfl) rfl rfl rfl ?_
      refine XO_pushT 15 rfl rfl rfl ?_
      refine XO_v1 (ev_move rfl) (.some rfl rfl rfl rfl gbt) rfl rfl rfl ?_
      refine XO_v1 (ev_move rfl) (.some rfl rfl rfl rfl gbt) rfl rfl rfl ?_
      refine XO_v1 (ev_indexSl rfl rfl slt_22 hS' (fun hg => by omega)) (.some rfl rfl rfl rfl gbt) rfl rfl rfl ?_
      refine XO_v1 (ev_fieldAddr rfl fld_45_6) (.some rfl rfl rfl rfl gbt) rfl rfl rfl ?_
      refine XO_v1 (ev_load rfl sct_9 (fun hg => by first | exact Sl.get hS' hx rfl | exact Cell.h0 rfl | exact Cell.h1 rfl | exact Cell.h2 rfl | exact Cell.h3 rfl | exact Cell.h4 rfl | exact Cell.h5 rfl)) (.some rfl rfl rfl rfl gbt) rfl rfl rfl ?_
      refine XO_v1 (ev_move rfl) (.some rfl rfl rfl rfl gbt) rfl rfl rfl ?_
      refine XO_v1 (ev_str rfl rfl rfl) (.some rfl rfl rfl rfl gbt) rfl rfl rfl ?_
      refine XO_and0 rfl rfl rfl rfl rfl ?_
      refine XO_v0 (ev_move rfl) rfl rfl rfl ?_
      refine XO_pushT 24 rfl rfl rfl ?_
      refine XO_v1 (ev_move rfl) (.some rfl rfl rfl rfl gbt) rfl rfl rfl ?_
      refine XO_v1 (ev_move rfl) (.some rfl rfl rfl rfl gbt) rfl rfl rfl ?_
      refine XO_v1 (ev_indexSl rfl rfl slt_22 hS' (fun hg => by omega)) (.some rfl rfl rfl rfl gbt) rfl rfl rfl ?_
      refine XO_v1 (ev_fieldAddr rfl fld_45_7) (.some rfl rfl rfl rfl gbt) rfl rfl rfl ?_
      refine XO_v1 (ev_load rfl sct_9 (fun hg => by first | exact Sl.get hS' hx rfl | exact Cell.h0 rfl | exact Cell.h1 rfl | exact Cell.h2 rfl | exact Cell.h3 rfl | exact Cell.h4 rfl | exact Cell.h5 rfl)) (.some rfl rfl rfl rfl gbt) rfl rfl rfl ?_
      refine XO_v1 (ev_move rfl) (.some rfl rfl rfl rfl gbt) rfl rfl rfl ?_
      refine XO_v1 (ev_str rfl rfl rfl) (.some rfl rfl rfl rfl gbt) rfl rfl rfl ?_
      refine XO_and0 rfl rfl rfl rfl rfl ?_
      refine XO_nil ?_
      refine at_then ?_
      refine X_cond rfl (fun hc62 => ?_) (fun hc62 => ?_)
      · skip
        refine X_seq ?_
        refine X_region ?_
        refine XO_v0 (ev_assign rfl) rfl rfl rfl ?_
        refine XO_v0 (ev_assign rfl) rfl rfl rfl ?_
        refine XO_nil ?_
        refine at_then ?_
        refine X_ret ?_
        refine at_block_r ?_
        refine at_then_r ?_
        refine at_then_r ?_
        refine at_block_r ?_
        refine at_then_r ?_
        exact at_ret2 rfl rfl rfl (fun w hw => ⟨by rw [mayF_res, hzs]; first | rw [hfin] | rw [show zs.any (mayP no name town) = true from any_hit hx hc62, show askedF (fCheck xs) day time = 0 from (resF_some (xs := standsF xs day time) (k := k) (x := x) (by rw [hzs]; exact hx)).1], (hw.mono hJ1).drop⟩)
      · skip
        refine X_skip ?_
        refine at_block_n ?_
        refine at_then ?_
        refine X_region ?_
        refine XO_v0 (ev_move rfl) rfl rfl rfl ?_
        refine XO_v0 (ev_arB rfl rfl rfl (fun _ => by omega)) rfl rfl rfl ?_
        refine XO_v0 (ev_assign rfl) rfl rfl rfl ?_
        refine XO_nil ?_
        exact at_met' _ ⟨zs.length - (k + 1), by omega, k + 1, rfl, rfl, rfl, rfl, by omega, any_step hx hinv hc62⟩ (.cons rfl (.cons rfl (.cons rfl (.cons rfl (.cons rfl (.cons rfl (.cons rfl .nil)))))))
    · skip
      have hge : zs.length ≤ k := by simpa using hc27
      refine X_exit ?_
      refine at_then_e ?_
      refine at_then_e ?_
      refine at_block_hit ?_
      exact at_met' _ ⟨rfl, rfl, rfl, any_end hinv (by omega)⟩ (.cons rfl (.cons rfl (.cons rfl (.cons rfl (.cons rfl .nil)))))
  · rintro E I' loc' ⟨rfl, rfl, rfl, hfin⟩
    refine X_seq ?_
    refine X_region ?_
    refine XO_v0 (ev_move rfl) rfl rfl rfl ?_
    refine XO_v0 (ev_assign rfl) rfl rfl rfl ?_
    refine XO_v0 (ev_assign rfl) rfl rfl rfl ?_
    refine XO_nil ?_
    refine at_then ?_
    refine X_ret ?_
    exact at_ret2 rfl rfl rfl (fun w hw => ⟨by rw [mayF_res, hzs]; first | rw [hfin] | rw [show zs.any (mayP no name town) = true from any_hit hx hc62, show askedF (fCheck xs) day time = 0 from (resF_some (xs := standsF xs day time) (k := k) (x := x) (by rw [hzs]; exact hx)).1], (hw.mono hJ1).drop⟩)
end Go.Proofs.Ytmflfccincbnaaa
