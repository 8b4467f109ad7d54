/- Lessons: the walks, LawE: each function comes to its Lean function. -/
import Derived.Test.YtgfggmmffmfolaaLawA
import Derived.Test.YtgfggmmffmfolaaPlainX
namespace Go.Proofs.Ytgfggmmffmfolaa
open Go Go.Kn Go.Proofs
theorem w_castLaw {I : HMap} {av : Option Addr} {n c : Nat} {xs : List Ls} (hS : Sl I 5 encL av n c xs) (version day time : Int) : RetV Try.prog 8 [.slice av n c, .int .i64 version, .int .i64 day, .int .i64 time] I (.bool true) := by
  intro g H w hw
  refine enter Try.func8 rfl Try.ntmps8 rfl hw ?_
  have hIc := HLe.refl I
  refine X_seq ?_
  refine X_region ?_
  refine XO_v0 (ev_assign rfl) rfl rfl rfl ?_
  refine XO_nil ?_
  refine at_then ?_
  refine X_seq ?_
  refine X_seq ?_
  refine X_region ?_
  refine XO_callV0 (cap := []) (vs := []) rfl rfl fun_10 (w_sane _) rfl rfl ?_
  refine XO_v0 (ev_not rfl) rfl rfl rfl ?_
  refine XO_nil ?_
  refine at_then ?_
  refine X_cond rfl (fun hc15 => ?_) (fun hc15 => ?_)
  · skip
    exact absurd hc15 (by decide)
  · skip
    refine X_skip ?_
    refine at_then ?_
    refine X_seq ?_
    refine X_seq ?_
    refine X_region ?_
    refine XO_v0 (ev_move rfl) rfl rfl rfl ?_
    refine XO_callV0 (cap := []) (vs := [_, _, _]) rfl rfl fun_11 (w_few hS SlN.nil (ts := []) .nil) rfl rfl ?_
    refine XO_v0 (ev_not rfl) rfl rfl rfl ?_
    refine XO_nil ?_
    refine at_then ?_
    refine X_cond rfl (fun hc18 => ?_) (fun hc18 => ?_)
    · skip
      refine X_seq ?_
      refine X_region ?_
      refine XO_v0 (ev_assign rfl) rfl rfl rfl ?_
      refine XO_nil ?_
      refine at_then ?_
      refine X_ret ?_
      refine at_then_r ?_
      first
      | exact at_ret1 rfl rfl (fun w hw => ⟨by rfl, (hw.mono hIc).drop⟩)
      | exact at_ret1 rfl rfl (fun w hw => ⟨by rw [hps0]; rfl, (hw.mono hIc).drop⟩)
      | exact at_ret1 rfl rfl (fun w hw => ⟨by rw [hq0]; rfl, (hw.mono hIc).drop⟩)
    · skip
      have hfw : fewF xs [] [] = true := by simpa using hc18
      have hfew := few_len hfw
      have hn5 : n ≤ 5000 := by have := hS.len; omega
      have hn : n ≤ 100000 := by omega
      refine X_skip ?_
      refine at_then ?_
      refine X_seq ?_
      refine X_region ?_
      refine XO_v0 (ev_move rfl) rfl rfl rfl ?_
      refine XO_v0 (ev_move rfl) rfl rfl rfl ?_
      refine XO_v0 (ev_move rfl) rfl rfl rfl ?_
      refine XO_v0 (ev_move rfl) rfl rfl rfl ?_
      refine XO_callM (cap := []) (vs := [_, _, _, _]) rfl rfl fun_19 .nil ((w_Cast hS hn _ _ _).absS) rfl rfl ?_
      rintro vv1 I1 L1 hI1 ⟨ps, e5, hps, he5, rfl, a1, c1, rfl, hA⟩
      have hS := hS.mono hI1
      have hIc := hIc.trans hI1
      refine XO_v0 (ev_move rfl) rfl rfl rfl ?_
      refine XO_v0 (ev_extract rfl rfl) rfl rfl rfl ?_
      refine XO_v0 (ev_extract rfl rfl) rfl rfl rfl ?_
      refine XO_v0 (ev_assign rfl) rfl rfl rfl ?_
      refine XO_v0 (ev_assign rfl) rfl rfl rfl ?_
      refine XO_nil ?_
      refine at_then ?_
      refine X_seq ?_
      refine X_seq ?_
      refine X_region ?_
      refine XO_v0 (ev_move rfl) rfl rfl rfl ?_
      refine XO_v0 (ev_cmp rfl rfl rfl) rfl rfl rfl ?_
      refine XO_nil ?_
      refine at_then ?_
      refine X_cond rfl (fun hc28 => ?_) (fun hc28 => ?_)
      · skip
        have hps0 : ps = [] := by rw [hps, ← he5]; exact resF_bad (by simpa using hc28)
        refine X_seq ?_
        refine X_region ?_
        refine XO_v0 (ev_move rfl) rfl rfl rfl ?_
        refine XO_v0 (ev_lenS rfl slt_35) rfl rfl rfl ?_
        refine XO_v0 (ev_cmp rfl rfl rfl) rfl rfl rfl ?_
        refine XO_v0 (ev_assign rfl) rfl rfl rfl ?_
        refine XO_nil ?_
        refine at_then ?_
        refine X_ret ?_
        refine at_then_r ?_
        first
        | exact at_ret1 rfl rfl (fun w hw => ⟨by rfl, (hw.mono hIc).drop⟩)
        | exact at_ret1 rfl rfl (fun w hw => ⟨by rw [hps0]; rfl, (hw.mono hIc).drop⟩)
        | exact at_ret1 rfl rfl (fun w hw => ⟨by rw [hq0]; rfl, (hw.mono hIc).drop⟩)
      · skip
        have hE : e5 = 0 := by simpa using hc28
        have hE2 : castE (chk xs) version day time = 0 := by rw [← he5]; exact hE
        have hps2 : ps = castR xs version day time 0 := by rw [hps, hE2, resF_ok rfl]; exact castR_zero ..
        have hA0 : Sl I1 1 encI a1 ps.length c1 (castR xs version day time 0) := by rw [← hps2]; exact hA
        refine X_skip ?_
        refine at_then ?_
        refine X_seq ?_
        refine X_seq ?_
        refine X_region ?_
        refine XO_v0 (ev_move rfl) rfl rfl rfl ?_
        refine XO_nil ?_
        refine at_then ?_
        refine X_block ?_
        refine X_loopT [(0, _), (1, _), (2, _), (3, _)] (.cons rfl (.cons rfl (.cons rfl (.cons rfl .nil)))) (fun T L0 mz E I' loc' => ∃ (k : Nat) (qv : Option Addr) (qn : Nat) (qc : Nat), mz = 64 - k ∧ E = (9, .slice qv qn qc) :: (32, .int .i64 k) :: T ∧ I1 = I' ∧ L0 = loc' ∧ k ≤ 64 ∧ Sl I1 1 encI qv qn qc (castR xs version day time k)) _ _ _ _ ⟨0, _, _, _, rfl, rfl, rfl, rfl, Nat.zero_le _, hA0⟩ (.cons rfl (.cons rfl (.cons rfl (.cons rfl (.cons rfl (.cons rfl .nil)))))) (HLe.refl _) rfl ?_
        rintro mz E I' loc' ⟨k, qv, qn, qc, rfl, rfl, rfl, rfl, hk, hQ⟩
        refine X_seq ?_
        refine X_region ?_
        refine XO_v0 (ev_cmp rfl rfl rfl) rfl rfl rfl ?_
        refine XO_nil ?_
        refine at_then ?_
        refine X_seq ?_
        refine X_cond rfl (fun hc33 => ?_) (fun hc33 => ?_)
        · skip
          have hlt_k : k < 64 := by have h := hc33; simp at h; omega
          refine X_skip ?_
          refine at_then ?_
          refine X_seq ?_
          refine X_block ?_
          refine X_seq ?_
          refine X_region ?_
          refine XO_v0 (ev_move rfl) rfl rfl rfl ?_
          refine XO_v0 (ev_assign rfl) rfl rfl rfl ?_
          refine XO_nil ?_
          refine at_then ?_
          refine X_seq ?_
          refine X_region ?_
          refine XO_v0 (ev_move rfl) rfl rfl rfl ?_
          refine XO_v0 (ev_move rfl) rfl rfl rfl ?_
          refine XO_v0 (ev_move rfl) rfl rfl rfl ?_
          refine XO_v0 (ev_move rfl) rfl rfl rfl ?_
          refine XO_callV0 (cap := []) (vs := [_, _, _, _]) rfl rfl fun_17 (w_Has hS hn _ _ _) rfl rfl ?_
          refine XO_v0 (ev_move rfl) rfl rfl rfl ?_
          refine XO_v0 (ev_extract rfl rfl) rfl rfl rfl ?_
          refine XO_v0 (ev_extract rfl rfl) rfl rfl rfl ?_
          refine XO_v0 (ev_assign rfl) rfl rfl rfl ?_
          refine XO_v0 (ev_assign rfl) rfl rfl rfl ?_
          refine XO_nil ?_
          refine at_then ?_
          refine X_seq ?_
          refine X_seq ?_
          refine X_region ?_
          refine XO_v0 (ev_move rfl) rfl rfl rfl ?_
          refine XO_v0 (ev_cmp rfl rfl rfl) rfl rfl rfl ?_
          refine XO_nil ?_
          refine at_then ?_
          refine X_cond rfl (fun hc44 => ?_) (fun hc44 => ?_)
          · skip
            exact absurd (cast_has hE2 hlt_k).2 (by simpa using hc44)
          · skip
            refine X_skip ?_
            refine at_then ?_
            refine X_seq ?_
            refine X_seq ?_
            refine X_region ?_
            refine XO_v0 (ev_move rfl) rfl rfl rfl ?_
            refine XO_v0 (ev_move rfl) rfl rfl rfl ?_
            refine XO_v0 (ev_cmp rfl rfl rfl) rfl rfl rfl ?_
            refine XO_nil ?_
            refine at_then ?_
            refine X_cond rfl (fun hc47 => ?_) (fun hc47 => ?_)
            · skip
              have hv : ¬ hasF xs k day time = version := by rw [← cast_hasV hE2 hlt_k]; simpa using hc47
              have hQ1 := hQ
              rw [castR_step hlt_k, if_neg hv] at hQ1
              refine X_exit ?_
              refine at_then_e ?_
              refine at_block_hit ?_
              refine at_then ?_
              refine X_region ?_
              refine XO_v0 (ev_arB rfl rfl rfl (fun _ => by omega)) rfl rfl rfl ?_
              refine XO_v0 (ev_move rfl) rfl rfl rfl ?_
              refine XO_nil ?_
              first
              | exact at_met2 _ _ ⟨64 - (k + 1), by omega, k + 1, _, _, _, rfl, rfl, rfl, rfl, by omega, hQ2⟩ (.cons rfl (.cons rfl (.cons rfl (.cons rfl (.cons rfl (.cons rfl .nil)))))) (by repeat (first | exact .refl | exact subL_left | refine subL_app ?_ | refine .drop ?_ | refine subL_add ?_))
              | exact at_met2 _ _ ⟨64 - (k + 1), by omega, k + 1, qv, qn, qc, rfl, rfl, rfl, rfl, by omega, hQ1⟩ (.cons rfl (.cons rfl (.cons rfl (.cons rfl (.cons rfl (.cons rfl .nil)))))) (by repeat (first | exact .refl | exact subL_left | refine subL_app ?_ | refine .drop ?_ | refine subL_add ?_))
            · skip
              have hv : hasF xs k day time = version := by rw [← cast_hasV hE2 hlt_k]; simpa using hc47
              have hQc := hQ
              rw [castR_step hlt_k, if_pos hv] at hQc
              have hqn : 0 < qn := by have h := hQc.len; simp at h; omega
              refine X_skip ?_
              refine at_then ?_
              refine X_seq ?_
              refine X_seq ?_
              refine X_region ?_
              refine XO_v0 (ev_move rfl) rfl rfl rfl ?_
              refine XO_v0 (ev_lenS rfl slt_35) rfl rfl rfl ?_
              refine XO_v0 (ev_cmp rfl rfl rfl) rfl rfl rfl ?_
              refine XO_v0 (ev_move rfl) rfl rfl rfl ?_
              refine XO_pushF 3 rfl rfl rfl ?_
              refine XO_v1 (ev_move rfl) (.some rfl rfl rfl rfl gbf) rfl rfl rfl ?_
              refine XO_v1 (ev_indexSl rfl rfl slt_35 (by assumption) (fun hg => by first | omega | (simp [conj] at hg; omega))) (.some rfl rfl rfl rfl gbf) rfl rfl rfl ?_
              refine XO_v1 (ev_load rfl sct_3 (fun hg => by first | exact Sl.get0 (k := 0) hQc rfl rfl | exact Cell.h0 rfl | exact Cell.h1 rfl | exact Cell.h2 rfl | exact Cell.h3 rfl | exact Cell.h4 rfl | exact Cell.h5 rfl | (repeat (first | exact Cell.here rfl | apply Cell.there | apply Cell.app)))) (.some rfl rfl rfl rfl gbf) rfl rfl rfl ?_
              refine XO_v1 (ev_move rfl) (.some rfl rfl rfl rfl gbf) rfl rfl rfl ?_
              refine XO_v1 (ev_cmp rfl rfl rfl) (.some rfl rfl rfl rfl gbf) rfl rfl rfl ?_
              refine XO_or0 rfl rfl rfl rfl rfl ?_
              refine XO_nil ?_
              refine at_then ?_
              refine X_cond rfl (fun hc57 => ?_) (fun hc57 => ?_)
              · skip
                have hqn0 : qn ≠ 0 := by omega
                simp [hqn0] at hc57
              · skip
                have hQ2 := hQc.drop (k := 1) hqn
                refine X_skip ?_
                refine at_then ?_
                refine X_region ?_
                refine XO_v0 (ev_move rfl) rfl rfl rfl ?_
                refine XO_v0 (ev_sliceLo rfl rfl slt_35 (fun hg => by first | omega | (simp [conj] at hg; omega))) rfl rfl rfl ?_
                refine XO_v0 (ev_assign rfl) rfl rfl rfl ?_
                refine XO_nil ?_
                refine at_block_n ?_
                refine at_then ?_
                refine X_region ?_
                refine XO_v0 (ev_arB rfl rfl rfl (fun _ => by omega)) rfl rfl rfl ?_
                refine XO_v0 (ev_move rfl) rfl rfl rfl ?_
                refine XO_nil ?_
                first
                | exact at_met2 _ _ ⟨64 - (k + 1), by omega, k + 1, _, _, _, rfl, rfl, rfl, rfl, by omega, hQ2⟩ (.cons rfl (.cons rfl (.cons rfl (.cons rfl (.cons rfl (.cons rfl .nil)))))) (by repeat (first | exact .refl | exact subL_left | refine subL_app ?_ | refine .drop ?_ | refine subL_add ?_))
                | exact at_met2 _ _ ⟨64 - (k + 1), by omega, k + 1, qv, qn, qc, rfl, rfl, rfl, rfl, by omega, hQ1⟩ (.cons rfl (.cons rfl (.cons rfl (.cons rfl (.cons rfl (.cons rfl .nil)))))) (by repeat (first | exact .refl | exact subL_left | refine subL_app ?_ | refine .drop ?_ | refine subL_add ?_))
        · skip
          have hge_k : 64 ≤ k := by have h := hc33; simp at h; omega
          have hk64 : k = 64 := by omega
          rw [hk64] at hQ
          have hq0 : qn = 0 := by have h := hQ.len; rw [show castR xs version day time 64 = [] from rfl] at h; exact h.symm
          refine X_exit ?_
          refine at_then_e ?_
          refine at_then_e ?_
          refine at_block_hit ?_
          refine at_then ?_
          refine X_seq ?_
          refine X_region ?_
          refine XO_v0 (ev_move rfl) rfl rfl rfl ?_
          refine XO_v0 (ev_lenS rfl slt_35) rfl rfl rfl ?_
          refine XO_v0 (ev_cmp rfl rfl rfl) rfl rfl rfl ?_
          refine XO_v0 (ev_assign rfl) rfl rfl rfl ?_
          refine XO_nil ?_
          refine at_then ?_
          refine X_ret ?_
          first
          | exact at_ret1 rfl rfl (fun w hw => ⟨by rfl, (hw.mono hIc).drop⟩)
          | exact at_ret1 rfl rfl (fun w hw => ⟨by rw [hps0]; rfl, (hw.mono hIc).drop⟩)
          | exact at_ret1 rfl rfl (fun w hw => ⟨by rw [hq0]; rfl, (hw.mono hIc).drop⟩)
end Go.Proofs.Ytgfggmmffmfolaa
