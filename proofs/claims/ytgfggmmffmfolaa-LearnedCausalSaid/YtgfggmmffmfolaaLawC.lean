/- Lessons: the walks, LawC: each function comes to its Lean function. -/
import Derived.Test.YtgfggmmffmfolaaLawA
import Derived.Test.YtgfggmmffmfolaaPlainX
namespace Go.Proofs.Ytgfggmmffmfolaa
open Go Go.Kn Go.Proofs
theorem w_causalLaw {I : HMap} {av : Option Addr} {n c : Nat} {xs : List Ls} (hS : Sl I 5 encL av n c xs) (person day time : Int) : RetV Try.prog 6 [.slice av n c, .int .i64 person, .int .i64 day, .int .i64 time] I (.bool true) := by
  intro g H w hw
  refine enter Try.func6 rfl Try.ntmps6 rfl hw ?_
  have hIc := HLe.refl I
  refine X_seq ?_
  refine X_region ?_
  refine XO_v0 (ev_assign rfl) rfl rfl rfl ?_
  refine XO_nil ?_
  refine at_then ?_
  refine X_seq ?_
  refine X_seq ?_
  refine X_region ?_
  refine XO_callV0 (cap := []) (vs := []) rfl rfl fun_10 (w_sane _) rfl rfl ?_
  refine XO_v0 (ev_not rfl) rfl rfl rfl ?_
  refine XO_nil ?_
  refine at_then ?_
  refine X_cond rfl (fun hc17 => ?_) (fun hc17 => ?_)
  · skip
    exact absurd hc17 (by decide)
  · skip
    refine X_skip ?_
    refine at_then ?_
    refine X_seq ?_
    refine X_seq ?_
    refine X_region ?_
    refine XO_v0 (ev_move rfl) rfl rfl rfl ?_
    refine XO_callV0 (cap := []) (vs := [_, _, _]) rfl rfl fun_11 (w_few hS SlN.nil (ts := []) .nil) rfl rfl ?_
    refine XO_v0 (ev_not rfl) rfl rfl rfl ?_
    refine XO_nil ?_
    refine at_then ?_
    refine X_cond rfl (fun hc20 => ?_) (fun hc20 => ?_)
    · skip
      refine X_seq ?_
      refine X_region ?_
      refine XO_v0 (ev_assign rfl) rfl rfl rfl ?_
      refine XO_nil ?_
      refine at_then ?_
      refine X_ret ?_
      refine at_then_r ?_
      first
      | exact at_ret1 rfl rfl (fun w hw => ⟨by rfl, (hw.mono hIc).drop⟩)
      | exact at_ret1 rfl rfl (fun w hw => ⟨by rw [hasV, if_pos (by simpa using hc30)]; rfl, (hw.mono hIc).drop⟩)
      | exact at_ret1 rfl rfl (fun w hw => ⟨by have h := causal_law hE; rw [hW.len] at h; rw [← h], (hw.mono hIc).drop⟩)
    · skip
      have hfw : fewF xs [] [] = true := by simpa using hc20
      have hfew := few_len hfw
      have hn5 : n ≤ 5000 := by have := hS.len; omega
      have hn : n ≤ 100000 := by omega
      refine X_skip ?_
      refine at_then ?_
      refine X_seq ?_
      refine X_region ?_
      refine XO_v0 (ev_move rfl) rfl rfl rfl ?_
      refine XO_v0 (ev_move rfl) rfl rfl rfl ?_
      refine XO_v0 (ev_move rfl) rfl rfl rfl ?_
      refine XO_v0 (ev_move rfl) rfl rfl rfl ?_
      refine XO_callV0 (cap := []) (vs := [_, _, _, _]) rfl rfl fun_17 (w_Has hS hn _ _ _) rfl rfl ?_
      refine XO_v0 (ev_move rfl) rfl rfl rfl ?_
      refine XO_v0 (ev_extract rfl rfl) rfl rfl rfl ?_
      refine XO_v0 (ev_extract rfl rfl) rfl rfl rfl ?_
      refine XO_v0 (ev_assign rfl) rfl rfl rfl ?_
      refine XO_v0 (ev_assign rfl) rfl rfl rfl ?_
      refine XO_nil ?_
      refine at_then ?_
      refine X_seq ?_
      refine X_seq ?_
      refine X_region ?_
      refine XO_v0 (ev_move rfl) rfl rfl rfl ?_
      refine XO_v0 (ev_cmp rfl rfl rfl) rfl rfl rfl ?_
      refine XO_nil ?_
      refine at_then ?_
      refine X_cond rfl (fun hc30 => ?_) (fun hc30 => ?_)
      · skip
        refine X_seq ?_
        refine X_region ?_
        refine XO_v0 (ev_move rfl) rfl rfl rfl ?_
        refine XO_v0 (ev_cmp rfl rfl rfl) rfl rfl rfl ?_
        refine XO_v0 (ev_assign rfl) rfl rfl rfl ?_
        refine XO_nil ?_
        refine at_then ?_
        refine X_ret ?_
        refine at_then_r ?_
        first
        | exact at_ret1 rfl rfl (fun w hw => ⟨by rfl, (hw.mono hIc).drop⟩)
        | exact at_ret1 rfl rfl (fun w hw => ⟨by rw [hasV, if_pos (by simpa using hc30)]; rfl, (hw.mono hIc).drop⟩)
        | exact at_ret1 rfl rfl (fun w hw => ⟨by have h := causal_law hE; rw [hW.len] at h; rw [← h], (hw.mono hIc).drop⟩)
      · skip
        have hE : hasE (chk xs) person day time = 0 := by simpa using hc30
        refine X_skip ?_
        refine at_then ?_
        refine X_seq ?_
        refine X_region ?_
        refine XO_v0 (ev_assign rfl) rfl rfl rfl ?_
        refine XO_nil ?_
        refine at_then ?_
        refine X_seq ?_
        refine X_seq ?_
        refine X_region ?_
        refine XO_v0 (ev_move rfl) rfl rfl rfl ?_
        refine XO_v0 (ev_lenS rfl slt_22) rfl rfl rfl ?_
        refine XO_v0 (ev_move rfl) rfl rfl rfl ?_
        refine XO_nil ?_
        refine at_then ?_
        refine X_block ?_
        refine X_loopT [(1, _), (2, _), (3, _), (9, _), (33, _), (34, _)] (.cons rfl (.cons rfl (.cons rfl (.cons rfl (.cons rfl (.cons rfl .nil)))))) (fun T L0 mz E I' loc' => ∃ (k : Nat) (v : Value) (q : Nat) (L : Go.Kn.Loc), mz = n - k ∧ E = (11, v) :: (35, .int .i64 k) :: T ∧ I = I' ∧ L = loc' ∧ k ≤ n ∧ OwnS 24 5 v q (((xs.take k).filter (partP person day time)).flatMap encL) L ∧ q ≤ k) _ _ _ _ ⟨0, _, 0, [], rfl, rfl, rfl, rfl, Nat.zero_le _, OwnS.nil, Nat.le_refl _⟩ (.cons rfl (.cons rfl (.cons rfl (.cons rfl (.cons rfl (.cons rfl (.cons rfl (.cons rfl .nil)))))))) (HLe.refl _) rfl ?_
        rintro mz E I' loc' ⟨k, v, q, L, rfl, rfl, rfl, rfl, hk, hO, hq⟩
        refine X_seq ?_
        refine X_region ?_
        refine XO_v0 (ev_cmp rfl rfl rfl) rfl rfl rfl ?_
        refine XO_nil ?_
        refine at_then ?_
        refine X_seq ?_
        refine X_cond rfl (fun hc36 => ?_) (fun hc36 => ?_)
        · skip
          have hlt_k : k < n := by have h := hc36; simp at h; omega
          obtain ⟨x, hx⟩ := hS.at hlt_k
          refine X_skip ?_
          refine at_then ?_
          refine X_seq ?_
          refine X_block ?_
          refine X_seq ?_
          refine X_region ?_
          refine XO_v0 (ev_indexSl rfl rfl slt_22 (by assumption) (fun hg => by first | omega | (simp [conj] at hg; omega))) rfl rfl rfl ?_
          refine XO_v0 (ev_loadA rfl agt_24 (fun hg => by first | exact Sl.getA hS hx | exact Cells.g0 | exact Cells.g1 | exact Cells.g2 | exact Cells.g3 | exact Cells.g4 | exact Cells.g5 | (repeat (first | exact Cells.here | apply Cells.there | apply Cells.app))) rfl) rfl rfl rfl ?_
          refine XO_alloc zt_24 rfl rfl (fun b_13 => ?_)
          refine XO_storeA rfl rfl szt_24 rfl rfl rfl rfl (by first | exact Upd.u0 | exact Upd.u1 | exact Upd.u2 | exact Upd.u3 | exact Upd.u4 | exact Upd.u5 | (repeat (first | exact Upd.here | apply Upd.there | apply upd_app))) ?_
          refine XO_nil ?_
          refine at_then ?_
          refine X_seq ?_
          refine X_region ?_
          refine XO_v0 (ev_fieldAddr rfl fld_24_4) rfl rfl rfl ?_
          refine XO_v0 (ev_load rfl sct_3 (fun hg => by first | exact Cell.h0 rfl | exact Cell.h1 rfl | exact Cell.h2 rfl | exact Cell.h3 rfl | exact Cell.h4 rfl | exact Cell.h5 rfl | (repeat (first | exact Cell.here rfl | apply Cell.there | apply Cell.app)))) rfl rfl rfl ?_
          refine XO_v0 (ev_move rfl) rfl rfl rfl ?_
          refine XO_v0 (ev_cmp rfl rfl rfl) rfl rfl rfl ?_
          refine XO_v0 (ev_move rfl) rfl rfl rfl ?_
          refine XO_pushT 4 rfl rfl rfl ?_
          refine XO_v1 (ev_fieldAddr rfl fld_24_3) (.some rfl rfl rfl rfl gbt) rfl rfl rfl ?_
          refine XO_v1 (ev_load rfl sct_3 (fun hg => by first | exact Cell.h0 rfl | exact Cell.h1 rfl | exact Cell.h2 rfl | exact Cell.h3 rfl | exact Cell.h4 rfl | exact Cell.h5 rfl | (repeat (first | exact Cell.here rfl | apply Cell.there | apply Cell.app)))) (.some rfl rfl rfl rfl gbt) rfl rfl rfl ?_
          refine XO_v1 (ev_move rfl) (.some rfl rfl rfl rfl gbt) rfl rfl rfl ?_
          refine XO_v1 (ev_cmp rfl rfl rfl) (.some rfl rfl rfl rfl gbt) rfl rfl rfl ?_
          refine XO_and0 rfl rfl rfl rfl rfl ?_
          refine XO_v0 (ev_move rfl) rfl rfl rfl ?_
          refine XO_pushT 10 rfl rfl rfl ?_
          refine XO_v1 (ev_fieldAddr rfl fld_24_1) (.some rfl rfl rfl rfl gbt) rfl rfl rfl ?_
          refine XO_v1 (ev_load rfl sct_3 (fun hg => by first | exact Cell.h0 rfl | exact Cell.h1 rfl | exact Cell.h2 rfl | exact Cell.h3 rfl | exact Cell.h4 rfl | exact Cell.h5 rfl | (repeat (first | exact Cell.here rfl | apply Cell.there | apply Cell.app)))) (.some rfl rfl rfl rfl gbt) rfl rfl rfl ?_
          refine XO_v1 (ev_move rfl) (.some rfl rfl rfl rfl gbt) rfl rfl rfl ?_
          refine XO_v1 (ev_cmp rfl rfl rfl) (.some rfl rfl rfl rfl gbt) rfl rfl rfl ?_
          refine XO_and0 rfl rfl rfl rfl rfl ?_
          refine XO_nil ?_
          refine at_then ?_
          refine X_cond rfl (fun hc54 => ?_) (fun hc54 => ?_)
          · skip
            refine X_region ?_
            refine XO_v0 (ev_move rfl) rfl rfl rfl ?_
            refine XO_v0 (ev_loadA rfl agt_24 (fun hg => by first | exact Sl.getA hS hx | exact Cells.g0 | exact Cells.g1 | exact Cells.g2 | exact Cells.g3 | exact Cells.g4 | exact Cells.g5 | (repeat (first | exact Cells.here | apply Cells.there | apply Cells.app))) rfl) rfl rfl rfl ?_
            refine XO_buildSlice (ps := [(0, _)]) (m := [encL x]) elt_22 rfl (.cons rfl (.nil)) rfl (by simp [encL_len, encI_len, encH_len]) (by decide) (by decide) rfl rfl (fun b_57 => ?_)
            refine XO_append (v := v) (ys := [encL x].flatten) (L := L) rfl rfl elt_22 hO (by repeat (first | exact .cons .here .nil | exact split_all | exact split_app | apply split_cons | apply split_skip)) ⟨rfl, fun _ => rfl, Cells.here⟩ rfl (by omega) rfl rfl ?_
            intro v' L' hO' _
            refine XO_v0 (ev_assign rfl) rfl rfl rfl ?_
            refine XO_nil ?_
            refine at_block_n ?_
            refine at_then ?_
            refine X_region ?_
            refine XO_v0 (ev_arB rfl rfl rfl (fun _ => by omega)) rfl rfl rfl ?_
            refine XO_v0 (ev_move rfl) rfl rfl rfl ?_
            refine XO_nil ?_
            first
            | exact at_met2 _ _ ⟨n - (k + 1), by omega, k + 1, v', q + 1, L', rfl, rfl, rfl, rfl, by omega, fil_yes hx hc54 hO', by omega⟩ (.cons rfl (.cons rfl (.cons rfl (.cons rfl (.cons rfl (.cons rfl (.cons rfl (.cons rfl .nil)))))))) (by repeat (first | exact .refl | exact subL_left | refine subL_app ?_ | refine .drop ?_ | refine subL_add ?_))
            | exact at_met2 _ _ ⟨n - (k + 1), by omega, k + 1, v, q, L, rfl, rfl, rfl, rfl, by omega, fil_no hx hc54 hO, by omega⟩ (.cons rfl (.cons rfl (.cons rfl (.cons rfl (.cons rfl (.cons rfl (.cons rfl (.cons rfl .nil)))))))) (by repeat (first | exact .refl | exact subL_left | refine subL_app ?_ | refine .drop ?_ | refine subL_add ?_))
          · skip
            refine X_skip ?_
            refine at_block_n ?_
            refine at_then ?_
            refine X_region ?_
            refine XO_v0 (ev_arB rfl rfl rfl (fun _ => by omega)) rfl rfl rfl ?_
            refine XO_v0 (ev_move rfl) rfl rfl rfl ?_
            refine XO_nil ?_
            first
            | exact at_met2 _ _ ⟨n - (k + 1), by omega, k + 1, v', q + 1, L', rfl, rfl, rfl, rfl, by omega, fil_yes hx hc54 hO', by omega⟩ (.cons rfl (.cons rfl (.cons rfl (.cons rfl (.cons rfl (.cons rfl (.cons rfl (.cons rfl .nil)))))))) (by repeat (first | exact .refl | exact subL_left | refine subL_app ?_ | refine .drop ?_ | refine subL_add ?_))
            | exact at_met2 _ _ ⟨n - (k + 1), by omega, k + 1, v, q, L, rfl, rfl, rfl, rfl, by omega, fil_no hx hc54 hO, by omega⟩ (.cons rfl (.cons rfl (.cons rfl (.cons rfl (.cons rfl (.cons rfl (.cons rfl (.cons rfl .nil)))))))) (by repeat (first | exact .refl | exact subL_left | refine subL_app ?_ | refine .drop ?_ | refine subL_add ?_))
        · skip
          have hge_k : n ≤ k := by have h := hc36; simp at h; omega
          rw [take_all hS.len hge_k] at hO
          refine X_exit ?_
          refine at_then_e ?_
          refine at_then_e ?_
          refine at_block_hit ?_
          refine at_then ?_
          refine X_seq ?_
          refine X_freezeO hO encL_len (by decide) split_all (fun I2 hI2 af2 cf2 ef2 hW => ?_)
          subst ef2
          have hS := hS.mono hI2
          have hIc := hIc.trans hI2
          refine X_region ?_
          refine XO_v0 (ev_move rfl) rfl rfl rfl ?_
          refine XO_v0 (ev_move rfl) rfl rfl rfl ?_
          refine XO_v0 (ev_move rfl) rfl rfl rfl ?_
          refine XO_v0 (ev_move rfl) rfl rfl rfl ?_
          refine XO_callV0 (cap := []) (vs := [_, _, _, _]) rfl rfl fun_17 (w_Has hW (by omega) _ _ _) rfl rfl ?_
          refine XO_v0 (ev_move rfl) rfl rfl rfl ?_
          refine XO_v0 (ev_extract rfl rfl) rfl rfl rfl ?_
          refine XO_v0 (ev_extract rfl rfl) rfl rfl rfl ?_
          refine XO_v0 (ev_assign rfl) rfl rfl rfl ?_
          refine XO_v0 (ev_assign rfl) rfl rfl rfl ?_
          refine XO_nil ?_
          refine at_then ?_
          refine X_seq ?_
          refine X_region ?_
          refine XO_v0 (ev_move rfl) rfl rfl rfl ?_
          refine XO_v0 (ev_cmp rfl rfl rfl) rfl rfl rfl ?_
          refine XO_v0 (ev_move rfl) rfl rfl rfl ?_
          refine XO_pushT 2 rfl rfl rfl ?_
          refine XO_v1 (ev_move rfl) (.some rfl rfl rfl rfl gbt) rfl rfl rfl ?_
          refine XO_v1 (ev_move rfl) (.some rfl rfl rfl rfl gbt) rfl rfl rfl ?_
          refine XO_v1 (ev_cmp rfl rfl rfl) (.some rfl rfl rfl rfl gbt) rfl rfl rfl ?_
          refine XO_and0 rfl rfl rfl rfl rfl ?_
          refine XO_v0 (ev_move rfl) rfl rfl rfl ?_
          refine XO_pushT 7 rfl rfl rfl ?_
          refine XO_v1 (ev_move rfl) (.some rfl rfl rfl rfl gbt) rfl rfl rfl ?_
          refine XO_v1 (ev_lenS rfl slt_22) (.some rfl rfl rfl rfl gbt) rfl rfl rfl ?_
          refine XO_v1 (ev_cmp rfl rfl rfl) (.some rfl rfl rfl rfl gbt) rfl rfl rfl ?_
          refine XO_v1 (ev_move rfl) (.some rfl rfl rfl rfl gbt) rfl rfl rfl ?_
          refine XO_pushF 11 rfl rfl rfl ?_
          refine XO_v1 (ev_move rfl) (.some rfl rfl rfl rfl gbf) rfl rfl rfl ?_
          refine XO_v1 (ev_cmp rfl rfl rfl) (.some rfl rfl rfl rfl gbf) rfl rfl rfl ?_
          refine XO_or1 rfl rfl rfl (.some rfl rfl rfl rfl gbt) rfl rfl ?_
          refine XO_and0 rfl rfl rfl rfl rfl ?_
          refine XO_v0 (ev_assign rfl) rfl rfl rfl ?_
          refine XO_nil ?_
          refine at_then ?_
          refine X_ret ?_
          first
          | exact at_ret1 rfl rfl (fun w hw => ⟨by rfl, (hw.mono hIc).drop⟩)
          | exact at_ret1 rfl rfl (fun w hw => ⟨by rw [hasV, if_pos (by simpa using hc30)]; rfl, (hw.mono hIc).drop⟩)
          | exact at_ret1 rfl rfl (fun w hw => ⟨by have h := causal_law hE; rw [hW.len] at h; rw [← h], (hw.mono hIc).drop⟩)
end Go.Proofs.Ytgfggmmffmfolaa
