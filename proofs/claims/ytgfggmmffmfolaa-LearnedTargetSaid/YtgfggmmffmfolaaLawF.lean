/- Lessons: the walks, LawF: each function comes to its Lean function. -/
import Derived.Test.YtgfggmmffmfolaaLawA
import Derived.Test.YtgfggmmffmfolaaPlainY
namespace Go.Proofs.Ytgfggmmffmfolaa
open Go Go.Kn Go.Proofs
theorem w_targetLaw {I : HMap} {av : Option Addr} {n c : Nat} {xs : List Ls} (hS : Sl I 5 encL av n c xs) {bv : Option Addr} {n2 c2 : Nat} {vss : List (List Int)} (hV : SlN I bv n2 c2 vss) (person day time : Int) {dv : Option Addr} {n3 c3 : Nat} {ts : List Int} (hT : Sl I 1 encI dv n3 c3 ts) : RetV Try.prog 9 [.slice av n c, .slice bv n2 c2, .int .i64 person, .int .i64 day, .int .i64 time, .slice dv n3 c3] I (.bool true) := by
  intro g H w hw
  refine enter Try.func9 rfl Try.ntmps9 rfl hw ?_
  have hIc := HLe.refl I
  refine X_seq ?_
  refine X_region ?_
  refine XO_v0 (ev_assign rfl) rfl rfl rfl ?_
  refine XO_nil ?_
  refine at_then ?_
  refine X_seq ?_
  refine X_seq ?_
  refine X_region ?_
  refine XO_callV0 (cap := []) (vs := []) rfl rfl fun_10 (w_sane _) rfl rfl ?_
  refine XO_v0 (ev_not rfl) rfl rfl rfl ?_
  refine XO_nil ?_
  refine at_then ?_
  refine X_cond rfl (fun hc28 => ?_) (fun hc28 => ?_)
  · skip
    exact absurd hc28 (by decide)
  · skip
    refine X_skip ?_
    refine at_then ?_
    refine X_seq ?_
    refine X_seq ?_
    refine X_region ?_
    refine XO_v0 (ev_move rfl) rfl rfl rfl ?_
    refine XO_v0 (ev_move rfl) rfl rfl rfl ?_
    refine XO_v0 (ev_move rfl) rfl rfl rfl ?_
    refine XO_callV0 (cap := []) (vs := [_, _, _]) rfl rfl fun_11 (w_few hS hV hT) rfl rfl ?_
    refine XO_v0 (ev_not rfl) rfl rfl rfl ?_
    refine XO_nil ?_
    refine at_then ?_
    refine X_cond rfl (fun hc33 => ?_) (fun hc33 => ?_)
    · skip
      refine X_seq ?_
      refine X_region ?_
      refine XO_v0 (ev_assign rfl) rfl rfl rfl ?_
      refine XO_nil ?_
      refine at_then ?_
      refine X_ret ?_
      refine at_then_r ?_
      first
      | exact at_ret1 rfl rfl (fun w hw => ⟨by rfl, (hw.mono hIc).drop⟩)
      | exact at_ret1 rfl rfl (fun w hw => ⟨by rw [hz1, hz2]; rfl, (hw.mono hIc).drop⟩)
      | exact at_ret1 rfl rfl (fun w hw => ⟨by rw [st3_len hnt hm3, hT.len]; simp, (hw.mono hIc).drop⟩)
    · skip
      have hfw : fewF xs vss ts = true := by simpa using hc33
      have hfew := few_len hfw
      have hn5 : n ≤ 5000 := by have := hS.len; omega
      have hn : n ≤ 100000 := by omega
      refine X_skip ?_
      refine at_then ?_
      refine X_seq ?_
      refine X_region ?_
      refine XO_v0 (ev_move rfl) rfl rfl rfl ?_
      refine XO_v0 (ev_move rfl) rfl rfl rfl ?_
      refine XO_v0 (ev_move rfl) rfl rfl rfl ?_
      refine XO_v0 (ev_move rfl) rfl rfl rfl ?_
      refine XO_v0 (ev_move rfl) rfl rfl rfl ?_
      refine XO_v0 (ev_move rfl) rfl rfl rfl ?_
      refine XO_callM (cap := []) (vs := [_, _, _, _, _, _]) rfl rfl fun_22 .nil (w_Gap hS hn hV (by have := hV.len; omega) _ _ _ hT) rfl rfl ?_
      rintro vv1 I1 L1 hI1 ⟨rfl, aa, na, ca, ab, nb, cb, rfl, hA, hB⟩
      have hS := hS.mono hI1
      have hV := hV.mono hI1
      have hT := hT.mono hI1
      have hIc := hIc.trans hI1
      refine XO_v0 (ev_move rfl) rfl rfl rfl ?_
      refine XO_v0 (ev_extract rfl rfl) rfl rfl rfl ?_
      refine XO_v0 (ev_extract rfl rfl) rfl rfl rfl ?_
      refine XO_v0 (ev_extract rfl rfl) rfl rfl rfl ?_
      refine XO_v0 (ev_assign rfl) rfl rfl rfl ?_
      refine XO_v0 (ev_assign rfl) rfl rfl rfl ?_
      refine XO_v0 (ev_assign rfl) rfl rfl rfl ?_
      refine XO_nil ?_
      refine at_then ?_
      refine X_seq ?_
      refine X_seq ?_
      refine X_region ?_
      refine XO_v0 (ev_move rfl) rfl rfl rfl ?_
      refine XO_v0 (ev_cmp rfl rfl rfl) rfl rfl rfl ?_
      refine XO_nil ?_
      refine at_then ?_
      refine X_cond rfl (fun hc46 => ?_) (fun hc46 => ?_)
      · skip
        have hz1 : na = 0 := by rw [← hA.len, resF_bad (by simpa using hc46)]; rfl
        have hz2 : nb = 0 := by rw [← hB.len, resF_bad (by simpa using hc46)]; rfl
        refine X_seq ?_
        refine X_region ?_
        refine XO_v0 (ev_move rfl) rfl rfl rfl ?_
        refine XO_v0 (ev_lenS rfl slt_35) rfl rfl rfl ?_
        refine XO_v0 (ev_cmp rfl rfl rfl) rfl rfl rfl ?_
        refine XO_v0 (ev_move rfl) rfl rfl rfl ?_
        refine XO_pushT 3 rfl rfl rfl ?_
        refine XO_v1 (ev_move rfl) (.some rfl rfl rfl rfl gbt) rfl rfl rfl ?_
        refine XO_v1 (ev_lenS rfl slt_35) (.some rfl rfl rfl rfl gbt) rfl rfl rfl ?_
        refine XO_v1 (ev_cmp rfl rfl rfl) (.some rfl rfl rfl rfl gbt) rfl rfl rfl ?_
        refine XO_and0 rfl rfl rfl rfl rfl ?_
        refine XO_v0 (ev_assign rfl) rfl rfl rfl ?_
        refine XO_nil ?_
        refine at_then ?_
        refine X_ret ?_
        refine at_then_r ?_
        first
        | exact at_ret1 rfl rfl (fun w hw => ⟨by rfl, (hw.mono hIc).drop⟩)
        | exact at_ret1 rfl rfl (fun w hw => ⟨by rw [hz1, hz2]; rfl, (hw.mono hIc).drop⟩)
        | exact at_ret1 rfl rfl (fun w hw => ⟨by rw [st3_len hnt hm3, hT.len]; simp, (hw.mono hIc).drop⟩)
      · skip
        have hE : gapE xs vss person day time ts = 0 := by simpa using hc46
        rw [resF_ok hE] at hA hB
        obtain ⟨hg1, hg2, hg3, hg4, hg5, hg6, hg7⟩ := gap_facts hE
        have hno := own_nodup (xs := xs) hg3 person day time
        have hnt := verB_nodup hg2
        have hVl := hV.len
        have hnb : nb ≤ 600 := by rw [← hB.len]; exact Nat.le_trans (by unfold lessF; exact List.length_filter_le ..) (own_len hfw person day time)
        have hna : na ≤ 600 := by rw [← hA.len]; exact Nat.le_trans (by unfold lessF; exact List.length_filter_le ..) hfew.2.2
        have hn3 : n3 ≤ 600 := by rw [← hT.len]; exact hfew.2.2
        refine X_skip ?_
        refine at_then ?_
        refine X_seq ?_
        refine X_region ?_
        refine XO_v0 (ev_move rfl) rfl rfl rfl ?_
        refine XO_v0 (ev_move rfl) rfl rfl rfl ?_
        refine XO_v0 (ev_move rfl) rfl rfl rfl ?_
        refine XO_v0 (ev_move rfl) rfl rfl rfl ?_
        refine XO_callV0 (cap := []) (vs := [_, _, _, _]) rfl rfl fun_17 (w_Has hS hn _ _ _) rfl rfl ?_
        refine XO_v0 (ev_move rfl) rfl rfl rfl ?_
        refine XO_v0 (ev_extract rfl rfl) rfl rfl rfl ?_
        refine XO_v0 (ev_extract rfl rfl) rfl rfl rfl ?_
        refine XO_v0 (ev_assign rfl) rfl rfl rfl ?_
        refine XO_v0 (ev_assign rfl) rfl rfl rfl ?_
        refine XO_nil ?_
        refine at_then ?_
        refine X_seq ?_
        refine X_seq ?_
        refine X_region ?_
        refine XO_v0 (ev_move rfl) rfl rfl rfl ?_
        refine XO_v0 (ev_cmp rfl rfl rfl) rfl rfl rfl ?_
        refine XO_v0 (ev_move rfl) rfl rfl rfl ?_
        refine XO_pushF 2 rfl rfl rfl ?_
        refine XO_v1 (ev_move rfl) (.some rfl rfl rfl rfl gbf) rfl rfl rfl ?_
        refine XO_v1 (ev_cmp rfl rfl rfl) (.some rfl rfl rfl rfl gbf) rfl rfl rfl ?_
        refine XO_or0 rfl rfl rfl rfl rfl ?_
        refine XO_v0 (ev_move rfl) rfl rfl rfl ?_
        refine XO_pushF 6 rfl rfl rfl ?_
        refine XO_v1 (ev_move rfl) (.some rfl rfl rfl rfl gbf) rfl rfl rfl ?_
        refine XO_v1 (ev_move rfl) (.some rfl rfl rfl rfl gbf) rfl rfl rfl ?_
        refine XO_v1 (ev_lenS rfl slt_40) (.some rfl rfl rfl rfl gbf) rfl rfl rfl ?_
        refine XO_v1 (ev_cmp rfl rfl rfl) (.some rfl rfl rfl rfl gbf) rfl rfl rfl ?_
        refine XO_or0 rfl rfl rfl rfl rfl ?_
        refine XO_nil ?_
        refine at_then ?_
        refine X_cond rfl (fun hc74 => ?_) (fun hc74 => ?_)
        · skip
          exact absurd hc74 (by rw [hg4, hg5]; simp; omega)
        · skip
          refine X_skip ?_
          refine at_then ?_
          refine X_seq ?_
          refine X_region ?_
          refine XO_makeMap rfl rfl (fun r_75 => ?_)
          refine XO_v0 (ev_assign rfl) rfl rfl rfl ?_
          refine XO_nil ?_
          refine at_then ?_
          refine X_cutT [(5, _), (13, _), (14, _), (18, _)] (.cons rfl (.cons rfl (.cons rfl (.cons rfl .nil)))) (fun T L0 E I' loc' => ∃ (m : List (Int × Nat)) (mc : Nat), E = T ∧ I1 = I' ∧ [(r_75, setO m mc)] = loc' ∧ m.map (·.1) = (ownF xs vss person day time)) ?_ ?_
          · skip
            refine X_seq ?_
            refine X_region ?_
            refine XO_v0 (ev_move rfl) rfl rfl rfl ?_
            refine XO_v0 (ev_cmp rfl rfl rfl) rfl rfl rfl ?_
            refine XO_nil ?_
            refine at_then ?_
            refine X_cond rfl (fun hc77 => ?_) (fun hc77 => ?_)
            · skip
              have hpos : hasF xs person day time > 0 := by rw [← hg5]; simpa using hc77
              refine X_seq ?_
              obtain ⟨hs, hd, v, hH, hh, hv, hQ⟩ := hV.at (k := (hasV xs person day time - 1).toNat) (by omega)
              have hov : ownF xs vss person day time = v := own_pos (by omega) (by rw [← hg5]; exact hv)
              have hqn : hd.n ≤ 600 := by rw [← hQ.len, ← hov]; exact own_len hfw person day time
              refine X_region ?_
              refine XO_v0 (ev_move rfl) rfl rfl rfl ?_
              refine XO_v0 (ev_move rfl) rfl rfl rfl ?_
              refine XO_v0 (ev_arB rfl rfl rfl (fun _ => by omega)) rfl rfl rfl ?_
              refine XO_v0 (ev_indexSl rfl rfl slt_40 (by assumption) (fun hg => by first | omega | (simp [conj] at hg; omega))) rfl rfl rfl ?_
              refine XO_v0 (ev_load rfl sct_35 (fun hg => by first | exact Sl.get0 (k := (hasV xs person day time - 1).toNat) hH hh rfl | exact Sl.get0 hQ hx rfl | exact Sl.get0 hB hx rfl | exact Sl.get0 hA hx rfl | exact Sl.get0 hT hx rfl | exact Cell.h0 rfl | exact Cell.h1 rfl | exact Cell.h2 rfl | exact Cell.h3 rfl | exact Cell.h4 rfl | exact Cell.h5 rfl | (repeat (first | exact Cell.here rfl | apply Cell.there | apply Cell.app)))) rfl rfl rfl ?_
              refine XO_v0 (ev_lenS rfl slt_35) rfl rfl rfl ?_
              refine XO_v0 (ev_move rfl) rfl rfl rfl ?_
              refine XO_nil ?_
              refine at_then ?_
              refine X_block ?_
              refine X_loopT [(5, _), (13, _), (14, _), (18, _), (82, _), (83, _)] (.cons rfl (.cons rfl (.cons rfl (.cons rfl (.cons rfl (.cons rfl .nil)))))) (fun T L0 mz E I' loc' => ∃ (k : Nat) (m : List (Int × Nat)) (mc : Nat), mz = hd.n - k ∧ E = (84, .int .i64 k) :: T ∧ I1 = I' ∧ [(r_75, setO m mc)] = loc' ∧ k ≤ hd.n ∧ St1 m v k) _ _ _ _ ⟨0, [], 0, rfl, rfl, rfl, rfl, Nat.zero_le _, rfl⟩ (.cons rfl (.cons rfl (.cons rfl (.cons rfl (.cons rfl (.cons rfl (.cons rfl .nil))))))) (HLe.refl _) rfl ?_
              rintro mz E I' loc' ⟨k, m, mc, rfl, rfl, rfl, rfl, hk, hm⟩
              refine X_seq ?_
              refine X_region ?_
              refine XO_v0 (ev_cmp rfl rfl rfl) rfl rfl rfl ?_
              refine XO_nil ?_
              refine at_then ?_
              refine X_seq ?_
              refine X_cond rfl (fun hc85 => ?_) (fun hc85 => ?_)
              · skip
                have hlt_k : k < hd.n := by have h := hc85; simp at h; omega
                obtain ⟨x, hx⟩ := hQ.at hlt_k
                refine X_skip ?_
                refine at_then ?_
                refine X_seq ?_
                refine X_block ?_
                refine X_seq ?_
                refine X_region ?_
                refine XO_v0 (ev_indexSl rfl rfl slt_35 (by assumption) (fun hg => by first | omega | (simp [conj] at hg; omega))) rfl rfl rfl ?_
                refine XO_v0 (ev_load rfl sct_3 (fun hg => by first | exact Sl.get0 (k := (hasV xs person day time - 1).toNat) hH hh rfl | exact Sl.get0 hQ hx rfl | exact Sl.get0 hB hx rfl | exact Sl.get0 hA hx rfl | exact Sl.get0 hT hx rfl | exact Cell.h0 rfl | exact Cell.h1 rfl | exact Cell.h2 rfl | exact Cell.h3 rfl | exact Cell.h4 rfl | exact Cell.h5 rfl | (repeat (first | exact Cell.here rfl | apply Cell.there | apply Cell.app)))) rfl rfl rfl ?_
                refine XO_v0 (ev_assign rfl) rfl rfl rfl ?_
                refine XO_nil ?_
                refine at_then ?_
                refine X_region ?_
                refine XO_v0 (ev_move rfl) rfl rfl rfl ?_
                refine XO_v0 (ev_move rfl) rfl rfl rfl ?_
                refine XO_putS (m := m) (c := mc) (a := x) mpt_45 und_3 rfl rfl rfl rfl .here ?_
                refine XO_nil ?_
                refine at_block_n ?_
                refine at_then ?_
                refine X_region ?_
                refine XO_v0 (ev_arB rfl rfl rfl (fun _ => by omega)) rfl rfl rfl ?_
                refine XO_v0 (ev_move rfl) rfl rfl rfl ?_
                refine XO_nil ?_
                exact at_met2 _ _ ⟨hd.n - (k + 1), by omega, k + 1, _, _, rfl, rfl, rfl, rfl, by omega, st1_step (by rw [← hov]; exact hno) hx hm⟩ (.cons rfl (.cons rfl (.cons rfl (.cons rfl (.cons rfl (.cons rfl (.cons rfl .nil))))))) (by repeat (first | exact .refl | exact subL_left | refine subL_app ?_ | refine .drop ?_ | refine subL_add ?_))
              · skip
                have hge_k : hd.n ≤ k := by have h := hc85; simp at h; omega
                rw [St1, take_all hQ.len hge_k, ← hov] at hm
                refine X_exit ?_
                refine at_then_e ?_
                refine at_then_e ?_
                refine at_block_hit ?_
                first
                | exact at_met2 _ _ ⟨m, mc, rfl, rfl, rfl, hm⟩ (.cons rfl (.cons rfl (.cons rfl (.cons rfl .nil)))) .refl
                | exact at_met2 _ [(r_75, setO [] 0)] ⟨[], 0, rfl, rfl, rfl, hm0⟩ (.cons rfl (.cons rfl (.cons rfl (.cons rfl .nil)))) .refl
            · skip
              have hzero : ¬ hasF xs person day time > 0 := by rw [← hg5]; simpa using hc77
              have hm0 : ([] : List (Int × Nat)).map (·.1) = ownF xs vss person day time := by rw [own_zero hzero]; rfl
              refine X_skip ?_
              first
              | exact at_met2 _ _ ⟨m, mc, rfl, rfl, rfl, hm⟩ (.cons rfl (.cons rfl (.cons rfl (.cons rfl .nil)))) .refl
              | exact at_met2 _ [(r_75, setO [] 0)] ⟨[], 0, rfl, rfl, rfl, hm0⟩ (.cons rfl (.cons rfl (.cons rfl (.cons rfl .nil)))) .refl
          · rintro E I' loc' ⟨m, mc, rfl, rfl, rfl, hm⟩
            refine X_seq ?_
            refine X_seq ?_
            refine X_region ?_
            refine XO_v0 (ev_move rfl) rfl rfl rfl ?_
            refine XO_v0 (ev_lenS rfl slt_35) rfl rfl rfl ?_
            refine XO_v0 (ev_move rfl) rfl rfl rfl ?_
            refine XO_nil ?_
            refine at_then ?_
            refine X_block ?_
            refine X_loopT [(5, _), (13, _), (18, _), (91, _), (92, _)] (.cons rfl (.cons rfl (.cons rfl (.cons rfl (.cons rfl .nil))))) (fun T L0 mz E I' loc' => ∃ (j : Nat) (m : List (Int × Nat)) (mc : Nat), mz = nb - j ∧ E = (93, .int .i64 j) :: T ∧ I1 = I' ∧ [(r_75, setO m mc)] = loc' ∧ j ≤ nb ∧ St2 m (ownF xs vss person day time) ((lessF (ownF xs vss person day time) ts).take j)) _ _ _ _ ⟨0, m, mc, rfl, rfl, rfl, rfl, Nat.zero_le _, st2_zero hno hm⟩ (.cons rfl (.cons rfl (.cons rfl (.cons rfl (.cons rfl (.cons rfl .nil)))))) (HLe.refl _) rfl ?_
            rintro mz E I' loc' ⟨j, m, mc, rfl, rfl, rfl, rfl, hj, hm2⟩
            refine X_seq ?_
            refine X_region ?_
            refine XO_v0 (ev_cmp rfl rfl rfl) rfl rfl rfl ?_
            refine XO_nil ?_
            refine at_then ?_
            refine X_seq ?_
            refine X_cond rfl (fun hc94 => ?_) (fun hc94 => ?_)
            · skip
              have hlt_j : j < nb := by have h := hc94; simp at h; omega
              obtain ⟨x, hx⟩ := hB.at hlt_j
              refine X_skip ?_
              refine at_then ?_
              refine X_seq ?_
              refine X_block ?_
              refine X_seq ?_
              refine X_region ?_
              refine XO_v0 (ev_indexSl rfl rfl slt_35 (by assumption) (fun hg => by first | omega | (simp [conj] at hg; omega))) rfl rfl rfl ?_
              refine XO_v0 (ev_load rfl sct_3 (fun hg => by first | exact Sl.get0 (k := (hasV xs person day time - 1).toNat) hH hh rfl | exact Sl.get0 hQ hx rfl | exact Sl.get0 hB hx rfl | exact Sl.get0 hA hx rfl | exact Sl.get0 hT hx rfl | exact Cell.h0 rfl | exact Cell.h1 rfl | exact Cell.h2 rfl | exact Cell.h3 rfl | exact Cell.h4 rfl | exact Cell.h5 rfl | (repeat (first | exact Cell.here rfl | apply Cell.there | apply Cell.app)))) rfl rfl rfl ?_
              refine XO_v0 (ev_assign rfl) rfl rfl rfl ?_
              refine XO_nil ?_
              refine at_then ?_
              refine X_seq ?_
              refine X_seq ?_
              refine X_region ?_
              refine XO_v0 (ev_move rfl) rfl rfl rfl ?_
              refine XO_v0 (ev_move rfl) rfl rfl rfl ?_
              refine XO_v0 (ev_lookupS (m := m) (c := mc) (a := x) mpt_45 und_3 rfl rfl (fun _ => .m0)) rfl rfl rfl ?_
              refine XO_v0 (ev_not rfl) rfl rfl rfl ?_
              refine XO_nil ?_
              refine at_then ?_
              refine X_cond rfl (fun hc100 => ?_) (fun hc100 => ?_)
              · skip
                exact absurd (st2_in hno hx hm2) (by simpa using hc100)
              · skip
                refine X_skip ?_
                refine at_then ?_
                refine X_region ?_
                refine XO_v0 (ev_move rfl) rfl rfl rfl ?_
                refine XO_v0 (ev_move rfl) rfl rfl rfl ?_
                refine XO_delS (m := m) (c := mc) (a := x) mpt_45 und_3 rfl rfl rfl .here ?_
                refine XO_nil ?_
                refine at_block_n ?_
                refine at_then ?_
                refine X_region ?_
                refine XO_v0 (ev_arB rfl rfl rfl (fun _ => by omega)) rfl rfl rfl ?_
                refine XO_v0 (ev_move rfl) rfl rfl rfl ?_
                refine XO_nil ?_
                exact at_met2 _ _ ⟨nb - (j + 1), by omega, j + 1, _, _, rfl, rfl, rfl, rfl, by omega, st2_step hx hm2⟩ (.cons rfl (.cons rfl (.cons rfl (.cons rfl (.cons rfl (.cons rfl .nil)))))) (by repeat (first | exact .refl | exact subL_left | refine subL_app ?_ | refine .drop ?_ | refine subL_add ?_))
            · skip
              have hge_j : nb ≤ j := by have h := hc94; simp at h; omega
              rw [take_all hB.len hge_j] at hm2
              refine X_exit ?_
              refine at_then_e ?_
              refine at_then_e ?_
              refine at_block_hit ?_
              refine at_then ?_
              refine X_seq ?_
              refine X_seq ?_
              refine X_region ?_
              refine XO_v0 (ev_move rfl) rfl rfl rfl ?_
              refine XO_v0 (ev_lenS rfl slt_35) rfl rfl rfl ?_
              refine XO_v0 (ev_move rfl) rfl rfl rfl ?_
              refine XO_nil ?_
              refine at_then ?_
              refine X_block ?_
              refine X_loopT [(5, _), (18, _), (104, _), (105, _)] (.cons rfl (.cons rfl (.cons rfl (.cons rfl .nil)))) (fun T L0 mz E I' loc' => ∃ (i : Nat) (m : List (Int × Nat)) (mc : Nat), mz = na - i ∧ E = (106, .int .i64 i) :: T ∧ I1 = I' ∧ [(r_75, setO m mc)] = loc' ∧ i ≤ na ∧ St3 m (ownF xs vss person day time) (lessF (ownF xs vss person day time) ts) ((lessF ts (ownF xs vss person day time)).take i)) _ _ _ _ ⟨0, m, mc, rfl, rfl, rfl, rfl, Nat.zero_le _, st3_zero hm2⟩ (.cons rfl (.cons rfl (.cons rfl (.cons rfl (.cons rfl .nil))))) (HLe.refl _) rfl ?_
              rintro mz E I' loc' ⟨i, m, mc, rfl, rfl, rfl, rfl, hi, hm3⟩
              refine X_seq ?_
              refine X_region ?_
              refine XO_v0 (ev_cmp rfl rfl rfl) rfl rfl rfl ?_
              refine XO_nil ?_
              refine at_then ?_
              refine X_seq ?_
              refine X_cond rfl (fun hc107 => ?_) (fun hc107 => ?_)
              · skip
                have hlt_i : i < na := by have h := hc107; simp at h; omega
                obtain ⟨x, hx⟩ := hA.at hlt_i
                refine X_skip ?_
                refine at_then ?_
                refine X_seq ?_
                refine X_block ?_
                refine X_seq ?_
                refine X_region ?_
                refine XO_v0 (ev_indexSl rfl rfl slt_35 (by assumption) (fun hg => by first | omega | (simp [conj] at hg; omega))) rfl rfl rfl ?_
                refine XO_v0 (ev_load rfl sct_3 (fun hg => by first | exact Sl.get0 (k := (hasV xs person day time - 1).toNat) hH hh rfl | exact Sl.get0 hQ hx rfl | exact Sl.get0 hB hx rfl | exact Sl.get0 hA hx rfl | exact Sl.get0 hT hx rfl | exact Cell.h0 rfl | exact Cell.h1 rfl | exact Cell.h2 rfl | exact Cell.h3 rfl | exact Cell.h4 rfl | exact Cell.h5 rfl | (repeat (first | exact Cell.here rfl | apply Cell.there | apply Cell.app)))) rfl rfl rfl ?_
                refine XO_v0 (ev_assign rfl) rfl rfl rfl ?_
                refine XO_nil ?_
                refine at_then ?_
                refine X_seq ?_
                refine X_seq ?_
                refine X_region ?_
                refine XO_v0 (ev_move rfl) rfl rfl rfl ?_
                refine XO_v0 (ev_move rfl) rfl rfl rfl ?_
                refine XO_v0 (ev_lookupS (m := m) (c := mc) (a := x) mpt_45 und_3 rfl rfl (fun _ => .m0)) rfl rfl rfl ?_
                refine XO_nil ?_
                refine at_then ?_
                refine X_cond rfl (fun hc112 => ?_) (fun hc112 => ?_)
                · skip
                  exact absurd (by simpa using hc112) (st3_out hnt hx hm3)
                · skip
                  have hxo := st3_out hnt hx hm3
                  refine X_skip ?_
                  refine at_then ?_
                  refine X_region ?_
                  refine XO_v0 (ev_move rfl) rfl rfl rfl ?_
                  refine XO_v0 (ev_move rfl) rfl rfl rfl ?_
                  refine XO_putS (m := m) (c := mc) (a := x) mpt_45 und_3 rfl rfl rfl rfl .here ?_
                  refine XO_nil ?_
                  refine at_block_n ?_
                  refine at_then ?_
                  refine X_region ?_
                  refine XO_v0 (ev_arB rfl rfl rfl (fun _ => by omega)) rfl rfl rfl ?_
                  refine XO_v0 (ev_move rfl) rfl rfl rfl ?_
                  refine XO_nil ?_
                  exact at_met2 _ _ ⟨na - (i + 1), by omega, i + 1, _, _, rfl, rfl, rfl, rfl, by omega, st3_step hx hm3 hxo⟩ (.cons rfl (.cons rfl (.cons rfl (.cons rfl (.cons rfl .nil))))) (by repeat (first | exact .refl | exact subL_left | refine subL_app ?_ | refine .drop ?_ | refine subL_add ?_))
              · skip
                have hge_i : na ≤ i := by have h := hc107; simp at h; omega
                rw [take_all hA.len hge_i] at hm3
                refine X_exit ?_
                refine at_then_e ?_
                refine at_then_e ?_
                refine at_block_hit ?_
                refine at_then ?_
                refine X_seq ?_
                refine X_seq ?_
                refine X_region ?_
                refine XO_v0 (ev_move rfl) rfl rfl rfl ?_
                refine XO_v0 (ev_lenS rfl slt_35) rfl rfl rfl ?_
                refine XO_v0 (ev_move rfl) rfl rfl rfl ?_
                refine XO_nil ?_
                refine at_then ?_
                refine X_block ?_
                refine X_loopT [(5, _), (18, _), (116, _), (117, _)] (.cons rfl (.cons rfl (.cons rfl (.cons rfl .nil)))) (fun T L0 mz E I' loc' => ∃ (q : Nat), mz = n3 - q ∧ E = (118, .int .i64 q) :: T ∧ I1 = I' ∧ [(r_75, setO m mc)] = loc' ∧ q ≤ n3) _ _ _ _ ⟨0, rfl, rfl, rfl, rfl, Nat.zero_le _⟩ (.cons rfl (.cons rfl (.cons rfl (.cons rfl (.cons rfl .nil))))) (HLe.refl _) rfl ?_
                rintro mz E I' loc' ⟨q, rfl, rfl, rfl, rfl, hq⟩
                refine X_seq ?_
                refine X_region ?_
                refine XO_v0 (ev_cmp rfl rfl rfl) rfl rfl rfl ?_
                refine XO_nil ?_
                refine at_then ?_
                refine X_seq ?_
                refine X_cond rfl (fun hc119 => ?_) (fun hc119 => ?_)
                · skip
                  have hlt_q : q < n3 := by have h := hc119; simp at h; omega
                  obtain ⟨x, hx⟩ := hT.at hlt_q
                  refine X_skip ?_
                  refine at_then ?_
                  refine X_seq ?_
                  refine X_block ?_
                  refine X_seq ?_
                  refine X_region ?_
                  refine XO_v0 (ev_indexSl rfl rfl slt_35 (by assumption) (fun hg => by first | omega | (simp [conj] at hg; omega))) rfl rfl rfl ?_
                  refine XO_v0 (ev_load rfl sct_3 (fun hg => by first | exact Sl.get0 (k := (hasV xs person day time - 1).toNat) hH hh rfl | exact Sl.get0 hQ hx rfl | exact Sl.get0 hB hx rfl | exact Sl.get0 hA hx rfl | exact Sl.get0 hT hx rfl | exact Cell.h0 rfl | exact Cell.h1 rfl | exact Cell.h2 rfl | exact Cell.h3 rfl | exact Cell.h4 rfl | exact Cell.h5 rfl | (repeat (first | exact Cell.here rfl | apply Cell.there | apply Cell.app)))) rfl rfl rfl ?_
                  refine XO_v0 (ev_assign rfl) rfl rfl rfl ?_
                  refine XO_nil ?_
                  refine at_then ?_
                  refine X_seq ?_
                  refine X_region ?_
                  refine XO_v0 (ev_move rfl) rfl rfl rfl ?_
                  refine XO_v0 (ev_move rfl) rfl rfl rfl ?_
                  refine XO_v0 (ev_lookupS (m := m) (c := mc) (a := x) mpt_45 und_3 rfl rfl (fun _ => .m0)) rfl rfl rfl ?_
                  refine XO_v0 (ev_not rfl) rfl rfl rfl ?_
                  refine XO_nil ?_
                  refine at_then ?_
                  refine X_cond rfl (fun hc125 => ?_) (fun hc125 => ?_)
                  · skip
                    exact absurd ((st3_fin hm3 x).2 (List.mem_of_getElem? hx)) (by simpa using hc125)
                  · skip
                    refine X_skip ?_
                    refine at_block_n ?_
                    refine at_then ?_
                    refine X_region ?_
                    refine XO_v0 (ev_arB rfl rfl rfl (fun _ => by omega)) rfl rfl rfl ?_
                    refine XO_v0 (ev_move rfl) rfl rfl rfl ?_
                    refine XO_nil ?_
                    exact at_met2 _ _ ⟨n3 - (q + 1), by omega, q + 1, rfl, rfl, rfl, rfl, by omega⟩ (.cons rfl (.cons rfl (.cons rfl (.cons rfl (.cons rfl .nil))))) (by repeat (first | exact .refl | exact subL_left | refine subL_app ?_ | refine .drop ?_ | refine subL_add ?_))
                · skip
                  have hge_q : n3 ≤ q := by have h := hc119; simp at h; omega
                  refine X_exit ?_
                  refine at_then_e ?_
                  refine at_then_e ?_
                  refine at_block_hit ?_
                  refine at_then ?_
                  refine X_seq ?_
                  refine X_region ?_
                  refine XO_v0 (ev_move rfl) rfl rfl rfl ?_
                  refine XO_v0 (ev_lenSet (m := m) (c := mc) rfl mpt_45 (fun _ => .m0)) rfl rfl rfl ?_
                  refine XO_v0 (ev_move rfl) rfl rfl rfl ?_
                  refine XO_v0 (ev_lenS rfl slt_35) rfl rfl rfl ?_
                  refine XO_v0 (ev_cmp rfl rfl rfl) rfl rfl rfl ?_
                  refine XO_v0 (ev_assign rfl) rfl rfl rfl ?_
                  refine XO_nil ?_
                  refine at_then ?_
                  refine X_ret ?_
                  first
                  | exact at_ret1 rfl rfl (fun w hw => ⟨by rfl, (hw.mono hIc).drop⟩)
                  | exact at_ret1 rfl rfl (fun w hw => ⟨by rw [hz1, hz2]; rfl, (hw.mono hIc).drop⟩)
                  | exact at_ret1 rfl rfl (fun w hw => ⟨by rw [st3_len hnt hm3, hT.len]; simp, (hw.mono hIc).drop⟩)
end Go.Proofs.Ytgfggmmffmfolaa
