/- Lessons: the walks, WalkJ: each function comes to its Lean function. -/
import Derived.Test.YtgfggmmffmfolaaWalkI
import Derived.Test.YtgfggmmffmfolaaPlainV
namespace Go.Proofs.Ytgfggmmffmfolaa
open Go Go.Kn Go.Proofs
theorem big_iff {hs : List Hd} {vss : List (List Int)} {I : HMap} {av : Option Addr} {n c : Nat} (h : SlH I av n c hs vss) : hs.any (fun h : Hd => decide ((h.n : Int) > 512)) = vss.any (fun v => decide (v.length > 512)) := by
  rw [Bool.eq_iff_iff, List.any_eq_true, List.any_eq_true]
  have key : ∀ (k : Nat) (hd : Hd) (v : List Int), hs[k]? = some hd → vss[k]? = some v → v.length = hd.n := fun k hd v a b => (h.2.2 k hd v a b).len
  constructor
  · rintro ⟨hd, hm, hb⟩
    obtain ⟨k, hk⟩ := List.getElem?_of_mem hm
    have hl := (List.getElem?_eq_some_iff.1 hk).1
    have hv : vss[k]? = some (vss[k]'(by rw [← h.2.1]; exact hl)) := List.getElem?_eq_getElem _
    refine ⟨_, List.mem_of_getElem? hv, ?_⟩
    rw [key k _ _ hk hv]
    simp at hb ⊢; omega
  · rintro ⟨v, hm, hb⟩
    obtain ⟨k, hk⟩ := List.getElem?_of_mem hm
    have hl := (List.getElem?_eq_some_iff.1 hk).1
    have hv : hs[k]? = some (hs[k]'(by rw [h.2.1]; exact hl)) := List.getElem?_eq_getElem _
    refine ⟨_, List.mem_of_getElem? hv, ?_⟩
    rw [key k _ _ hv hk] at hb
    simp at hb ⊢; omega
theorem any_snoc2 {vss : List (List Int)} {ts : List Int} {p : List Int → Bool} : (vss ++ [ts]).any p = (vss.any p || p ts) := by rw [List.any_append]; simp
theorem form_bad {vss : List (List Int)} {ts v : List Int} (hm : v ∈ vss ++ [ts]) (h : verB v = false) : (verB ts && vss.all verB) = false := by
  rcases List.mem_append.1 hm with hm | hm
  · have : vss.all verB = false := by
      cases e : vss.all verB with
      | false => rfl
      | true => rw [List.all_eq_true] at e; rw [e v hm] at h; cases h
    rw [this, Bool.and_false]
  · rw [List.mem_singleton] at hm; subst hm; rw [h, Bool.false_and]
theorem vP_at {v : List Int} {j : Nat} {x : Int} (hx : v[j]? = some x) {b : Bool} (hc : (!within x 1 1048576 || (decide ((j : Int) > 0) && decide (x ≤ v.getD ((j : Int) - 1).toNat 0))) = b) : vP v j = !b := by
  unfold vP; rw [getD_of hx, hc]

theorem w_Gap {I : HMap} {av : Option Addr} {n c : Nat} {xs : List Ls} (hS : Sl I 5 encL av n c xs) (hn : n ≤ 100000) {bv : Option Addr} {n2 c2 : Nat} {vss : List (List Int)} (hV : SlN I bv n2 c2 vss) (hn2 : n2 ≤ 90000) (person day time : Int) {dv : Option Addr} {n3 c3 : Nat} {ts : List Int} (hT : Sl I 1 encI dv n3 c3 ts) : RetM Try.prog 22 [.slice av n c, .slice bv n2 c2, .int .i64 person, .int .i64 day, .int .i64 time, .slice dv n3 c3] I [] (GpE (gapE xs vss person day time ts) (resF (gapE xs vss person day time ts) (lessF ts (ownF xs vss person day time))) (resF (gapE xs vss person day time ts) (lessF (ownF xs vss person day time) ts))) := by
  intro g H w hw
  refine enter Try.func22 rfl Try.ntmps22 rfl hw ?_
  have hIc := HLe.refl I
  obtain ⟨hs, hV⟩ := hV
  have hlV := hV.len; have hlT := hT.len
  refine X_seq ?_
  refine X_region ?_
  refine XO_v0 (ev_assign rfl) rfl rfl rfl ?_
  refine XO_v0 (ev_assign rfl) rfl rfl rfl ?_
  refine XO_v0 (ev_assign rfl) rfl rfl rfl ?_
  refine XO_nil ?_
  refine at_then ?_
  refine X_seq ?_
  refine X_seq ?_
  refine X_region ?_
  refine XO_v0 (ev_move rfl) rfl rfl rfl ?_
  refine XO_callV0 (cap := []) (vs := [_]) rfl rfl fun_14 (w_check hS hn) rfl rfl ?_
  refine XO_v0 (ev_assign rfl) rfl rfl rfl ?_
  refine XO_nil ?_
  refine at_then ?_
  refine X_seq ?_
  refine X_region ?_
  refine XO_v0 (ev_move rfl) rfl rfl rfl ?_
  refine XO_v0 (ev_cmp rfl rfl rfl) rfl rfl rfl ?_
  refine XO_nil ?_
  refine at_then ?_
  refine X_cond rfl (fun hc27 => ?_) (fun hc27 => ?_)
  · skip
    refine X_seq ?_
    refine X_region ?_
    refine XO_v0 (ev_move rfl) rfl rfl rfl ?_
    refine XO_v0 (ev_assign rfl) rfl rfl rfl ?_
    refine XO_v0 (ev_assign rfl) rfl rfl rfl ?_
    refine XO_v0 (ev_assign rfl) rfl rfl rfl ?_
    refine XO_nil ?_
    refine at_then ?_
    refine X_ret ?_
    refine at_then_r ?_
    first
    | exact at_ret3 rfl rfl rfl rfl (fun w hw => ⟨_, I, [], rfl, hIc, hw.drop, gp_bad (gapE_chk (by simpa using hc27)) (by simpa using hc27)⟩)
    | exact at_ret3 rfl rfl rfl rfl (fun w hw => ⟨_, I, [], rfl, hIc, hw.drop, gp_bad (gapE_many hck hbig) (by decide)⟩)
    | exact at_ret3 rfl rfl rfl rfl (fun w hw => ⟨_, I, [], rfl, hIc, hw.drop, gp_bad (gapE_form hck hno hf) (by decide)⟩)
    | exact at_ret3 rfl rfl rfl rfl (fun w hw => ⟨_, I, [], rfl, hIc, hw.drop, gp_bad (by rw [hck]; exact gapE_arg hck hno hf hE) (by simpa using hc81)⟩)
    | exact at_ret3 rfl rfl rfl rfl (fun w hw => ⟨_, I, [], rfl, hIc, hw.drop, gp_bad (gapE_high hck hno hf hE hhi) (by decide)⟩)
    | exact at_ret3 rfl rfl rfl rfl (fun w hw => ⟨_, I, [], rfl, hIc, hw.drop, .good (gapE_ok hck hno hf hE hhi) (by rw [hown]; rfl) (by rw [hown]; rfl) hX hY⟩)
  · skip
    have hck : chk xs = 0 := by simpa using hc27
    refine X_skip ?_
    refine at_then ?_
    refine X_seq ?_
    refine X_region ?_
    refine XO_v0 (ev_move rfl) rfl rfl rfl ?_
    refine XO_callM (cap := []) (vs := [_]) rfl rfl fun_39 .nil (w_cloneH hV.1 (by omega)) rfl rfl ?_
    rintro vv1 I1 L1 hI1 ⟨hIe, hO⟩
    have hS := hS.mono hI1
    have hV := hV.mono hI1
    have hT := hT.mono hI1
    have hIc := hIc.trans hI1
    refine XO_v0 (ev_move rfl) rfl rfl rfl ?_
    refine XO_buildSlice (ps := [(0, _)]) (m := [encH (⟨dv, n3, c3⟩ : Hd)]) elt_40 rfl (.cons rfl (.nil)) rfl (by simp [encL_len, encI_len, encH_len]) (by decide) (by decide) rfl rfl (fun b_32 => ?_)
    refine XO_append (v := _) (ys := [encH (⟨dv, n3, c3⟩ : Hd)].flatten) (L := _) rfl rfl elt_40 hO (by repeat (first | exact .cons .here .nil | exact split_all | exact split_app | apply split_cons | apply split_skip)) ⟨rfl, fun _ => rfl, Cells.here⟩ rfl (by omega) rfl rfl ?_
    intro v2 L2 hO2 _
    refine XO_v0 (ev_assign rfl) rfl rfl rfl ?_
    refine XO_nil ?_
    refine at_then ?_
    refine X_seq ?_
    refine X_seq ?_
    refine X_freezeO (xs := hs ++ [(⟨dv, n3, c3⟩ : Hd)]) (by rw [List.flatMap_append]; exact hO2) encH_len (by decide) (by repeat (first | exact .cons .here .nil | exact split_all | exact split_app | apply split_cons | apply split_skip)) (fun I2 hI2 af2 cf2 ef2 hAll => ?_)
    subst ef2
    have hS := hS.mono hI2
    have hV := hV.mono hI2
    have hT := hT.mono hI2
    have hIc := hIc.trans hI2
    have hW := hV.snoc (hd := (⟨dv, n3, c3⟩ : Hd)) hAll hT
    refine X_region ?_
    refine XO_v0 (ev_move rfl) rfl rfl rfl ?_
    refine XO_v0 (ev_lenS rfl slt_40) rfl rfl rfl ?_
    refine XO_v0 (ev_cmp rfl rfl rfl) rfl rfl rfl ?_
    refine XO_v0 (ev_move rfl) rfl rfl rfl ?_
    refine XO_pushF 3 rfl rfl rfl ?_
    refine XO_v1 (ev_move rfl) (.some rfl rfl rfl rfl gbf) rfl rfl rfl ?_
    refine XO_callV1 (cap := []) (vs := [_, _]) rfl rfl fun_40 (fun hg => w_containsF hW.1 (show n2 + 1 ≤ 100000 by omega)) (.some rfl rfl rfl rfl gbf) rfl rfl ?_
    refine XO_or0 rfl rfl rfl rfl rfl ?_
    refine XO_nil ?_
    refine at_then ?_
    refine X_cond rfl (fun hc40 => ?_) (fun hc40 => ?_)
    · skip
      have hbig : (vss.length > 512 ∨ ts.length > 512) ∨ vss.any (fun v => decide (v.length > 512)) = true := by rw [big_iff hW, any_snoc2] at hc40; simp only [Bool.or_eq_true, decide_eq_true_eq] at hc40; rcases hc40 with h | h | h; exact .inl (.inl (by omega)); exact .inr h; exact .inl (.inr h)
      refine X_seq ?_
      refine X_region ?_
      refine XO_v0 (ev_assign rfl) rfl rfl rfl ?_
      refine XO_v0 (ev_assign rfl) rfl rfl rfl ?_
      refine XO_v0 (ev_assign rfl) rfl rfl rfl ?_
      refine XO_nil ?_
      refine at_then ?_
      refine X_ret ?_
      refine at_then_r ?_
      first
      | exact at_ret3 rfl rfl rfl rfl (fun w hw => ⟨_, I2, [], rfl, hIc, hw.drop, gp_bad (gapE_chk (by simpa using hc27)) (by simpa using hc27)⟩)
      | exact at_ret3 rfl rfl rfl rfl (fun w hw => ⟨_, I2, [], rfl, hIc, hw.drop, gp_bad (gapE_many hck hbig) (by decide)⟩)
      | exact at_ret3 rfl rfl rfl rfl (fun w hw => ⟨_, I2, [], rfl, hIc, hw.drop, gp_bad (gapE_form hck hno hf) (by decide)⟩)
      | exact at_ret3 rfl rfl rfl rfl (fun w hw => ⟨_, I2, [], rfl, hIc, hw.drop, gp_bad (by rw [hck]; exact gapE_arg hck hno hf hE) (by simpa using hc81)⟩)
      | exact at_ret3 rfl rfl rfl rfl (fun w hw => ⟨_, I2, [], rfl, hIc, hw.drop, gp_bad (gapE_high hck hno hf hE hhi) (by decide)⟩)
      | exact at_ret3 rfl rfl rfl rfl (fun w hw => ⟨_, I2, [], rfl, hIc, hw.drop, .good (gapE_ok hck hno hf hE hhi) (by rw [hown]; rfl) (by rw [hown]; rfl) hX hY⟩)
    · skip
      have hno : ¬ ((vss.length > 512 ∨ ts.length > 512) ∨ vss.any (fun v => decide (v.length > 512)) = true) := by rw [big_iff hW, any_snoc2] at hc40; simp only [Bool.or_eq_false_iff, decide_eq_false_iff_not] at hc40; rw [hc40.2.1]; have := hc40.1; have := hc40.2.2; simp; omega
      have hnb : (vss ++ [ts]).any (fun v => decide (v.length > 512)) = false := by rw [big_iff hW] at hc40; simp only [Bool.or_eq_false_iff] at hc40; exact hc40.2
      have hs2 : n2 ≤ 512 := by rw [← hlV]; omega
      have hs3 : n3 ≤ 512 := by rw [← hlT]; omega
      refine X_skip ?_
      refine at_then ?_
      refine X_seq ?_
      refine X_seq ?_
      refine X_region ?_
      refine XO_v0 (ev_move rfl) rfl rfl rfl ?_
      refine XO_v0 (ev_lenS rfl slt_40) rfl rfl rfl ?_
      refine XO_v0 (ev_move rfl) rfl rfl rfl ?_
      refine XO_nil ?_
      refine at_then ?_
      refine X_block ?_
      refine X_loopT [(0, _), (1, _), (2, _), (3, _), (4, _), (5, _), (41, _), (42, _)] (.cons rfl (.cons rfl (.cons rfl (.cons rfl (.cons rfl (.cons rfl (.cons rfl (.cons rfl .nil)))))))) (fun T L0 mz E I' loc' => ∃ (k : Nat), mz = (n2 + 1) - k ∧ E = (43, .int .i64 k) :: T ∧ I2 = I' ∧ L0 = loc' ∧ k ≤ (n2 + 1) ∧ ((vss ++ [ts]).take k).all verB = true) _ _ _ _ ⟨0, rfl, rfl, rfl, rfl, Nat.zero_le _, rfl⟩ (.cons rfl (.cons rfl (.cons rfl (.cons rfl (.cons rfl (.cons rfl (.cons rfl (.cons rfl (.cons rfl .nil))))))))) (HLe.refl _) rfl ?_
      rintro mz E I' loc' ⟨k, rfl, rfl, rfl, rfl, hk, hall⟩
      refine X_seq ?_
      refine X_region ?_
      refine XO_v0 (ev_cmp rfl rfl rfl) rfl rfl rfl ?_
      refine XO_nil ?_
      refine at_then ?_
      refine X_seq ?_
      refine X_cond rfl (fun hc44 => ?_) (fun hc44 => ?_)
      · skip
        have hlt_k : k < (n2 + 1) := by have h := hc44; simp at h; omega
        obtain ⟨hd, v, hh, hv, hQ⟩ := hW.at (k := k) (by omega)
        have hvl : v.length ≤ 512 := by have := List.any_eq_false.1 hnb v (List.mem_of_getElem? hv); simp at this; omega
        have hql := hQ.len
        refine X_skip ?_
        refine at_then ?_
        refine X_seq ?_
        refine X_block ?_
        refine X_seq ?_
        refine X_region ?_
        refine XO_v0 (ev_indexSl rfl rfl slt_40 hW.1 (fun hg => by first | omega | (simp [conj] at hg; omega))) rfl rfl rfl ?_
        refine XO_v0 (ev_load rfl sct_35 (fun hg => by first | exact Sl.get0 hW.1 hh rfl | exact Sl.get0 hQ hx rfl | exact Sl.getD0 (k := ((j : Int) - 1).toNat) (d := 0) hQ (by simp [conj] at hg; omega) rfl | exact Sl.get0 hV.1 hh rfl | exact Cell.h0 rfl | exact Cell.h1 rfl | exact Cell.h2 rfl | exact Cell.h3 rfl | exact Cell.h4 rfl | exact Cell.h5 rfl | (repeat (first | exact Cell.here rfl | apply Cell.there | apply Cell.app)))) rfl rfl rfl ?_
        refine XO_v0 (ev_assign rfl) rfl rfl rfl ?_
        refine XO_nil ?_
        refine at_then ?_
        refine X_seq ?_
        refine X_region ?_
        refine XO_v0 (ev_move rfl) rfl rfl rfl ?_
        refine XO_v0 (ev_lenS rfl slt_35) rfl rfl rfl ?_
        refine XO_v0 (ev_move rfl) rfl rfl rfl ?_
        refine XO_nil ?_
        refine at_then ?_
        refine X_block ?_
        refine X_loopT [(0, _), (1, _), (2, _), (3, _), (4, _), (5, _), (18, _), (41, _), (42, _), (43, _), (47, _), (48, _)] (.cons rfl (.cons rfl (.cons rfl (.cons rfl (.cons rfl (.cons rfl (.cons rfl (.cons rfl (.cons rfl (.cons rfl (.cons rfl (.cons rfl .nil)))))))))))) (fun T L0 mz E I' loc' => ∃ (j : Nat), mz = hd.n - j ∧ E = (49, .int .i64 j) :: T ∧ I2 = I' ∧ L0 = loc' ∧ j ≤ hd.n ∧ (List.range j).all (vP v) = true) _ _ _ _ ⟨0, rfl, rfl, rfl, rfl, Nat.zero_le _, rfl⟩ (.cons rfl (.cons rfl (.cons rfl (.cons rfl (.cons rfl (.cons rfl (.cons rfl (.cons rfl (.cons rfl (.cons rfl (.cons rfl (.cons rfl (.cons rfl .nil))))))))))))) (HLe.refl _) rfl ?_
        rintro mz E I' loc' ⟨j, rfl, rfl, rfl, rfl, hj, hin⟩
        refine X_seq ?_
        refine X_region ?_
        refine XO_v0 (ev_cmp rfl rfl rfl) rfl rfl rfl ?_
        refine XO_nil ?_
        refine at_then ?_
        refine X_seq ?_
        refine X_cond rfl (fun hc50 => ?_) (fun hc50 => ?_)
        · skip
          have hlt_j : j < hd.n := by have h := hc50; simp at h; omega
          obtain ⟨x, hx⟩ := hQ.at hlt_j
          refine X_skip ?_
          refine at_then ?_
          refine X_seq ?_
          refine X_block ?_
          refine X_seq ?_
          refine X_region ?_
          refine XO_v0 (ev_move rfl) rfl rfl rfl ?_
          refine XO_v0 (ev_indexSl rfl rfl slt_35 (by assumption) (fun hg => by first | omega | (simp [conj] at hg; omega))) rfl rfl rfl ?_
          refine XO_v0 (ev_load rfl sct_3 (fun hg => by first | exact Sl.get0 hW.1 hh rfl | exact Sl.get0 hQ hx rfl | exact Sl.getD0 (k := ((j : Int) - 1).toNat) (d := 0) hQ (by simp [conj] at hg; omega) rfl | exact Sl.get0 hV.1 hh rfl | exact Cell.h0 rfl | exact Cell.h1 rfl | exact Cell.h2 rfl | exact Cell.h3 rfl | exact Cell.h4 rfl | exact Cell.h5 rfl | (repeat (first | exact Cell.here rfl | apply Cell.there | apply Cell.app)))) rfl rfl rfl ?_
          refine XO_v0 (ev_assign rfl) rfl rfl rfl ?_
          refine XO_v0 (ev_assign rfl) rfl rfl rfl ?_
          refine XO_nil ?_
          refine at_then ?_
          refine X_seq ?_
          refine X_region ?_
          refine XO_v0 (ev_move rfl) rfl rfl rfl ?_
          refine XO_callV0 (cap := []) (vs := [_, _, _]) rfl rfl fun_32 (w_within _ _ _ _) rfl rfl ?_
          refine XO_v0 (ev_not rfl) rfl rfl rfl ?_
          refine XO_v0 (ev_move rfl) rfl rfl rfl ?_
          refine XO_pushF 3 rfl rfl rfl ?_
          refine XO_v1 (ev_move rfl) (.some rfl rfl rfl rfl gbf) rfl rfl rfl ?_
          refine XO_v1 (ev_cmp rfl rfl rfl) (.some rfl rfl rfl rfl gbf) rfl rfl rfl ?_
          refine XO_v1 (ev_move rfl) (.some rfl rfl rfl rfl gbf) rfl rfl rfl ?_
          refine XO_pushT 6 rfl rfl rfl ?_
          refine XO_v1 (ev_move rfl) (.some rfl rfl rfl rfl gbt) rfl rfl rfl ?_
          refine XO_v1 (ev_move rfl) (.some rfl rfl rfl rfl gbt) rfl rfl rfl ?_
          refine XO_v1 (ev_move rfl) (.some rfl rfl rfl rfl gbt) rfl rfl rfl ?_
          refine XO_v1 (ev_arB rfl rfl rfl (fun _ => by omega)) (.some rfl rfl rfl rfl gbt) rfl rfl rfl ?_
          refine XO_v1 (ev_indexSl rfl rfl slt_35 (by assumption) (fun hg => by first | omega | (simp [conj] at hg; omega))) (.some rfl rfl rfl rfl gbt) rfl rfl rfl ?_
          refine XO_v1 (ev_load rfl sct_3 (fun hg => by first | exact Sl.get0 hW.1 hh rfl | exact Sl.get0 hQ hx rfl | exact Sl.getD0 (k := ((j : Int) - 1).toNat) (d := 0) hQ (by simp [conj] at hg; omega) rfl | exact Sl.get0 hV.1 hh rfl | exact Cell.h0 rfl | exact Cell.h1 rfl | exact Cell.h2 rfl | exact Cell.h3 rfl | exact Cell.h4 rfl | exact Cell.h5 rfl | (repeat (first | exact Cell.here rfl | apply Cell.there | apply Cell.app)))) (.some rfl rfl rfl rfl gbt) rfl rfl rfl ?_
          refine XO_v1 (ev_cmp rfl rfl rfl) (.some rfl rfl rfl rfl gbt) rfl rfl rfl ?_
          refine XO_and1 rfl rfl rfl (.some rfl rfl rfl rfl gbf) rfl rfl ?_
          refine XO_or0 rfl rfl rfl rfl rfl ?_
          refine XO_nil ?_
          refine at_then ?_
          refine X_cond rfl (fun hc69 => ?_) (fun hc69 => ?_)
          · skip
            have hvb : verB v = false := by unfold verB; exact range_bad (k := j) (by omega) (by rw [vP_at hx hc69]; rfl)
            have hf : (verB ts && vss.all verB) = false := form_bad (List.mem_of_getElem? hv) hvb
            refine X_seq ?_
            refine X_region ?_
            refine XO_v0 (ev_assign rfl) rfl rfl rfl ?_
            refine XO_v0 (ev_assign rfl) rfl rfl rfl ?_
            refine XO_v0 (ev_assign rfl) rfl rfl rfl ?_
            refine XO_nil ?_
            refine at_then ?_
            refine X_ret ?_
            refine at_block_r ?_
            refine at_then_r ?_
            refine at_then_r ?_
            refine at_block_r ?_
            refine at_block_r ?_
            refine at_then_r ?_
            refine at_then_r ?_
            refine at_block_r ?_
            refine at_then_r ?_
            first
            | exact at_ret3 rfl rfl rfl rfl (fun w hw => ⟨_, I2, [], rfl, hIc, hw.drop, gp_bad (gapE_chk (by simpa using hc27)) (by simpa using hc27)⟩)
            | exact at_ret3 rfl rfl rfl rfl (fun w hw => ⟨_, I2, [], rfl, hIc, hw.drop, gp_bad (gapE_many hck hbig) (by decide)⟩)
            | exact at_ret3 rfl rfl rfl rfl (fun w hw => ⟨_, I2, [], rfl, hIc, hw.drop, gp_bad (gapE_form hck hno hf) (by decide)⟩)
            | exact at_ret3 rfl rfl rfl rfl (fun w hw => ⟨_, I2, [], rfl, hIc, hw.drop, gp_bad (by rw [hck]; exact gapE_arg hck hno hf hE) (by simpa using hc81)⟩)
            | exact at_ret3 rfl rfl rfl rfl (fun w hw => ⟨_, I2, [], rfl, hIc, hw.drop, gp_bad (gapE_high hck hno hf hE hhi) (by decide)⟩)
            | exact at_ret3 rfl rfl rfl rfl (fun w hw => ⟨_, I2, [], rfl, hIc, hw.drop, .good (gapE_ok hck hno hf hE hhi) (by rw [hown]; rfl) (by rw [hown]; rfl) hX hY⟩)
          · skip
            refine X_skip ?_
            refine at_block_n ?_
            refine at_then ?_
            refine X_region ?_
            refine XO_v0 (ev_arB rfl rfl rfl (fun _ => by omega)) rfl rfl rfl ?_
            refine XO_v0 (ev_move rfl) rfl rfl rfl ?_
            refine XO_nil ?_
            exact at_met2 _ _ ⟨hd.n - (j + 1), by omega, j + 1, rfl, rfl, rfl, rfl, by omega, range_step hin (by rw [vP_at hx hc69]; rfl)⟩ (.cons rfl (.cons rfl (.cons rfl (.cons rfl (.cons rfl (.cons rfl (.cons rfl (.cons rfl (.cons rfl (.cons rfl (.cons rfl (.cons rfl (.cons rfl .nil))))))))))))) (by repeat (first | exact .refl | exact subL_left | refine subL_app ?_ | refine .drop ?_ | refine subL_add ?_))
        · skip
          have hge_j : hd.n ≤ j := by have h := hc50; simp at h; omega
          refine X_exit ?_
          refine at_then_e ?_
          refine at_then_e ?_
          refine at_block_hit ?_
          refine at_block_n ?_
          refine at_then ?_
          refine X_region ?_
          refine XO_v0 (ev_arB rfl rfl rfl (fun _ => by omega)) rfl rfl rfl ?_
          refine XO_v0 (ev_move rfl) rfl rfl rfl ?_
          refine XO_nil ?_
          exact at_met2 _ _ ⟨(n2 + 1) - (k + 1), by omega, k + 1, rfl, rfl, rfl, rfl, by omega, all_next hv hall (by unfold verB; rw [hQ.len, show hd.n = j by omega]; exact hin)⟩ (.cons rfl (.cons rfl (.cons rfl (.cons rfl (.cons rfl (.cons rfl (.cons rfl (.cons rfl (.cons rfl .nil))))))))) (by repeat (first | exact .refl | exact subL_left | refine subL_app ?_ | refine .drop ?_ | refine subL_add ?_))
      · skip
        have hge_k : (n2 + 1) ≤ k := by have h := hc44; simp at h; omega
        rw [take_all (by simp [hlV]) hge_k, List.all_append] at hall
        have hf : (verB ts && vss.all verB) = true := by simpa [Bool.and_comm] using hall
        refine X_exit ?_
        refine at_then_e ?_
        refine at_then_e ?_
        refine at_block_hit ?_
        refine at_then ?_
        refine X_seq ?_
        refine X_region ?_
        refine XO_v0 (ev_move rfl) rfl rfl rfl ?_
        refine XO_v0 (ev_move rfl) rfl rfl rfl ?_
        refine XO_v0 (ev_move rfl) rfl rfl rfl ?_
        refine XO_v0 (ev_move rfl) rfl rfl rfl ?_
        refine XO_callV0 (cap := []) (vs := [_, _, _, _]) rfl rfl fun_17 (w_Has hS hn _ _ _) rfl rfl ?_
        refine XO_v0 (ev_move rfl) rfl rfl rfl ?_
        refine XO_v0 (ev_extract rfl rfl) rfl rfl rfl ?_
        refine XO_v0 (ev_extract rfl rfl) rfl rfl rfl ?_
        refine XO_v0 (ev_assign rfl) rfl rfl rfl ?_
        refine XO_v0 (ev_assign rfl) rfl rfl rfl ?_
        refine XO_nil ?_
        refine at_then ?_
        refine X_seq ?_
        refine X_seq ?_
        refine X_region ?_
        refine XO_v0 (ev_move rfl) rfl rfl rfl ?_
        refine XO_v0 (ev_cmp rfl rfl rfl) rfl rfl rfl ?_
        refine XO_nil ?_
        refine at_then ?_
        refine X_cond rfl (fun hc81 => ?_) (fun hc81 => ?_)
        · skip
          have hE : hasE 0 person day time ≠ 0 := by have h := hc81; rw [hck] at h; simpa using h
          refine X_seq ?_
          refine X_region ?_
          refine XO_v0 (ev_move rfl) rfl rfl rfl ?_
          refine XO_v0 (ev_assign rfl) rfl rfl rfl ?_
          refine XO_v0 (ev_assign rfl) rfl rfl rfl ?_
          refine XO_v0 (ev_assign rfl) rfl rfl rfl ?_
          refine XO_nil ?_
          refine at_then ?_
          refine X_ret ?_
          refine at_then_r ?_
          first
          | exact at_ret3 rfl rfl rfl rfl (fun w hw => ⟨_, I2, [], rfl, hIc, hw.drop, gp_bad (gapE_chk (by simpa using hc27)) (by simpa using hc27)⟩)
          | exact at_ret3 rfl rfl rfl rfl (fun w hw => ⟨_, I2, [], rfl, hIc, hw.drop, gp_bad (gapE_many hck hbig) (by decide)⟩)
          | exact at_ret3 rfl rfl rfl rfl (fun w hw => ⟨_, I2, [], rfl, hIc, hw.drop, gp_bad (gapE_form hck hno hf) (by decide)⟩)
          | exact at_ret3 rfl rfl rfl rfl (fun w hw => ⟨_, I2, [], rfl, hIc, hw.drop, gp_bad (by rw [hck]; exact gapE_arg hck hno hf hE) (by simpa using hc81)⟩)
          | exact at_ret3 rfl rfl rfl rfl (fun w hw => ⟨_, I2, [], rfl, hIc, hw.drop, gp_bad (gapE_high hck hno hf hE hhi) (by decide)⟩)
          | exact at_ret3 rfl rfl rfl rfl (fun w hw => ⟨_, I2, [], rfl, hIc, hw.drop, .good (gapE_ok hck hno hf hE hhi) (by rw [hown]; rfl) (by rw [hown]; rfl) hX hY⟩)
        · skip
          have hE : hasE 0 person day time = 0 := by have h := hc81; rw [hck] at h; simpa using h
          have hvv := hasV_ok (xs := xs) hck hE
          refine X_skip ?_
          refine at_then ?_
          refine X_seq ?_
          refine X_region ?_
          refine XO_v0 (ev_assign rfl) rfl rfl rfl ?_
          refine XO_nil ?_
          refine at_then ?_
          refine X_seq ?_
          refine X_seq ?_
          refine X_region ?_
          refine XO_v0 (ev_move rfl) rfl rfl rfl ?_
          refine XO_v0 (ev_move rfl) rfl rfl rfl ?_
          refine XO_v0 (ev_lenS rfl slt_40) rfl rfl rfl ?_
          refine XO_v0 (ev_cmp rfl rfl rfl) rfl rfl rfl ?_
          refine XO_nil ?_
          refine at_then ?_
          refine X_cond rfl (fun hc86 => ?_) (fun hc86 => ?_)
          · skip
            have hhi : hasF xs person day time > vss.length := by rw [← hvv, hlV]; simpa using hc86
            refine X_seq ?_
            refine X_region ?_
            refine XO_v0 (ev_assign rfl) rfl rfl rfl ?_
            refine XO_v0 (ev_assign rfl) rfl rfl rfl ?_
            refine XO_v0 (ev_assign rfl) rfl rfl rfl ?_
            refine XO_nil ?_
            refine at_then ?_
            refine X_ret ?_
            refine at_then_r ?_
            first
            | exact at_ret3 rfl rfl rfl rfl (fun w hw => ⟨_, I2, [], rfl, hIc, hw.drop, gp_bad (gapE_chk (by simpa using hc27)) (by simpa using hc27)⟩)
            | exact at_ret3 rfl rfl rfl rfl (fun w hw => ⟨_, I2, [], rfl, hIc, hw.drop, gp_bad (gapE_many hck hbig) (by decide)⟩)
            | exact at_ret3 rfl rfl rfl rfl (fun w hw => ⟨_, I2, [], rfl, hIc, hw.drop, gp_bad (gapE_form hck hno hf) (by decide)⟩)
            | exact at_ret3 rfl rfl rfl rfl (fun w hw => ⟨_, I2, [], rfl, hIc, hw.drop, gp_bad (by rw [hck]; exact gapE_arg hck hno hf hE) (by simpa using hc81)⟩)
            | exact at_ret3 rfl rfl rfl rfl (fun w hw => ⟨_, I2, [], rfl, hIc, hw.drop, gp_bad (gapE_high hck hno hf hE hhi) (by decide)⟩)
            | exact at_ret3 rfl rfl rfl rfl (fun w hw => ⟨_, I2, [], rfl, hIc, hw.drop, .good (gapE_ok hck hno hf hE hhi) (by rw [hown]; rfl) (by rw [hown]; rfl) hX hY⟩)
          · skip
            have hhi : ¬ hasF xs person day time > vss.length := by rw [← hvv, hlV]; simpa using hc86
            refine X_skip ?_
            refine at_then ?_
            refine X_seq ?_
            refine X_seq ?_
            refine X_region ?_
            refine XO_v0 (ev_move rfl) rfl rfl rfl ?_
            refine XO_v0 (ev_cmp rfl rfl rfl) rfl rfl rfl ?_
            refine XO_nil ?_
            refine at_then ?_
            refine X_cond rfl (fun hc88 => ?_) (fun hc88 => ?_)
            · skip
              have hp : hasF xs person day time > 0 := by rw [← hvv]; simpa using hc88
              obtain ⟨hd, v, hh, hv, hO⟩ := hV.at (k := (hasV xs person day time - 1).toNat) (by rw [hvv]; omega)
              have hown := own_pos hp (by rw [← hvv]; exact hv)
              have hol := hO.len
              have hl9 : v.length ≤ 512 := by have := List.any_eq_false.1 hnb v (List.mem_append_left _ (List.mem_of_getElem? hv)); simp at this; omega
              refine X_region ?_
              refine XO_v0 (ev_move rfl) rfl rfl rfl ?_
              refine XO_v0 (ev_move rfl) rfl rfl rfl ?_
              refine XO_v0 (ev_arB rfl rfl rfl (fun _ => by omega)) rfl rfl rfl ?_
              refine XO_v0 (ev_indexSl rfl rfl slt_40 hV.1 (fun hg => by first | omega | (simp [conj] at hg; omega))) rfl rfl rfl ?_
              refine XO_v0 (ev_load rfl sct_35 (fun hg => by first | exact Sl.get0 hW.1 hh rfl | exact Sl.get0 hQ hx rfl | exact Sl.getD0 (k := ((j : Int) - 1).toNat) (d := 0) hQ (by simp [conj] at hg; omega) rfl | exact Sl.get0 hV.1 hh rfl | exact Cell.h0 rfl | exact Cell.h1 rfl | exact Cell.h2 rfl | exact Cell.h3 rfl | exact Cell.h4 rfl | exact Cell.h5 rfl | (repeat (first | exact Cell.here rfl | apply Cell.there | apply Cell.app)))) rfl rfl rfl ?_
              refine XO_v0 (ev_assign rfl) rfl rfl rfl ?_
              refine XO_nil ?_
              refine at_then ?_
              refine X_seq ?_
              refine X_region ?_
              refine XO_v0 (ev_assign rfl) rfl rfl rfl ?_
              refine XO_nil ?_
              refine at_then ?_
              refine X_seq ?_
              refine X_region ?_
              refine XO_v0 (ev_move rfl) rfl rfl rfl ?_
              refine XO_v0 (ev_move rfl) rfl rfl rfl ?_
              refine XO_v0 (ev_move rfl) rfl rfl rfl ?_
              refine XO_callM (cap := []) (vs := [_]) rfl rfl fun_42 .nil (w_lacks _ _ _ _) rfl rfl ?_
              rintro vv5 I5 L5 hI5 ⟨rfl, b1, rfl, hcell⟩
              have hS := hS.mono hI5
              have hV := hV.mono hI5
              have hT := hT.mono hI5
              have hW := hW.mono hI5
              have hO := hO.mono hI5
              have hIc := hIc.trans hI5
              refine XO_callM (cap := []) (vs := [_, _]) rfl rfl fun_45 .nil (w_filter hT (by omega) fun_43 (fun x => w_lack hcell hO (by omega) x)) rfl rfl ?_
              rintro vv6 I6 L6 hI6 ⟨rfl, a6, c6, rfl, hX⟩
              have hS := hS.mono hI6
              have hV := hV.mono hI6
              have hT := hT.mono hI6
              have hW := hW.mono hI6
              have hO := hO.mono hI6
              have hcell := hcell.mono hI6
              have hIc := hIc.trans hI6
              refine XO_v0 (ev_move rfl) rfl rfl rfl ?_
              refine XO_v0 (ev_move rfl) rfl rfl rfl ?_
              refine XO_v0 (ev_move rfl) rfl rfl rfl ?_
              refine XO_callM (cap := []) (vs := [_]) rfl rfl fun_42 .nil (w_lacks _ _ _ _) rfl rfl ?_
              rintro vv7 I7 L7 hI7 ⟨rfl, b2, rfl, hcell2⟩
              have hS := hS.mono hI7
              have hV := hV.mono hI7
              have hT := hT.mono hI7
              have hW := hW.mono hI7
              have hO := hO.mono hI7
              have hcell := hcell.mono hI7
              have hX := hX.mono hI7
              have hIc := hIc.trans hI7
              refine XO_callM (cap := []) (vs := [_, _]) rfl rfl fun_45 .nil (w_filter hO (by omega) fun_43 (fun x => w_lack hcell2 hT (by omega) x)) rfl rfl ?_
              rintro vv8 I8 L8 hI8 ⟨rfl, a8, c8, rfl, hY⟩
              have hS := hS.mono hI8
              have hV := hV.mono hI8
              have hT := hT.mono hI8
              have hW := hW.mono hI8
              have hO := hO.mono hI8
              have hcell := hcell.mono hI8
              have hX := hX.mono hI8
              have hcell2 := hcell2.mono hI8
              have hIc := hIc.trans hI8
              refine XO_v0 (ev_assign rfl) rfl rfl rfl ?_
              refine XO_v0 (ev_assign rfl) rfl rfl rfl ?_
              refine XO_v0 (ev_assign rfl) rfl rfl rfl ?_
              refine XO_nil ?_
              refine at_then ?_
              refine X_ret ?_
              first
              | exact at_ret3 rfl rfl rfl rfl (fun w hw => ⟨_, I8, [], rfl, hIc, hw.drop, gp_bad (gapE_chk (by simpa using hc27)) (by simpa using hc27)⟩)
              | exact at_ret3 rfl rfl rfl rfl (fun w hw => ⟨_, I8, [], rfl, hIc, hw.drop, gp_bad (gapE_many hck hbig) (by decide)⟩)
              | exact at_ret3 rfl rfl rfl rfl (fun w hw => ⟨_, I8, [], rfl, hIc, hw.drop, gp_bad (gapE_form hck hno hf) (by decide)⟩)
              | exact at_ret3 rfl rfl rfl rfl (fun w hw => ⟨_, I8, [], rfl, hIc, hw.drop, gp_bad (by rw [hck]; exact gapE_arg hck hno hf hE) (by simpa using hc81)⟩)
              | exact at_ret3 rfl rfl rfl rfl (fun w hw => ⟨_, I8, [], rfl, hIc, hw.drop, gp_bad (gapE_high hck hno hf hE hhi) (by decide)⟩)
              | exact at_ret3 rfl rfl rfl rfl (fun w hw => ⟨_, I8, [], rfl, hIc, hw.drop, .good (gapE_ok hck hno hf hE hhi) (by rw [hown]; rfl) (by rw [hown]; rfl) hX hY⟩)
            · skip
              have hp : ¬ hasF xs person day time > 0 := by rw [← hvv]; simpa using hc88
              have hO : Sl I2 1 encI none 0 0 [] := .nil
              have hown := own_zero (vss := vss) hp
              refine X_skip ?_
              refine at_then ?_
              refine X_seq ?_
              refine X_region ?_
              refine XO_v0 (ev_assign rfl) rfl rfl rfl ?_
              refine XO_nil ?_
              refine at_then ?_
              refine X_seq ?_
              refine X_region ?_
              refine XO_v0 (ev_move rfl) rfl rfl rfl ?_
              refine XO_v0 (ev_move rfl) rfl rfl rfl ?_
              refine XO_v0 (ev_move rfl) rfl rfl rfl ?_
              refine XO_callM (cap := []) (vs := [_]) rfl rfl fun_42 .nil (w_lacks _ _ _ _) rfl rfl ?_
              rintro vv9 I9 L9 hI9 ⟨rfl, b1, rfl, hcell⟩
              have hS := hS.mono hI9
              have hV := hV.mono hI9
              have hT := hT.mono hI9
              have hW := hW.mono hI9
              have hO := hO.mono hI9
              have hIc := hIc.trans hI9
              refine XO_callM (cap := []) (vs := [_, _]) rfl rfl fun_45 .nil (w_filter hT (by omega) fun_43 (fun x => w_lack hcell hO (by omega) x)) rfl rfl ?_
              rintro vv10 I10 L10 hI10 ⟨rfl, a10, c10, rfl, hX⟩
              have hS := hS.mono hI10
              have hV := hV.mono hI10
              have hT := hT.mono hI10
              have hW := hW.mono hI10
              have hO := hO.mono hI10
              have hcell := hcell.mono hI10
              have hIc := hIc.trans hI10
              refine XO_v0 (ev_move rfl) rfl rfl rfl ?_
              refine XO_v0 (ev_move rfl) rfl rfl rfl ?_
              refine XO_v0 (ev_move rfl) rfl rfl rfl ?_
              refine XO_callM (cap := []) (vs := [_]) rfl rfl fun_42 .nil (w_lacks _ _ _ _) rfl rfl ?_
              rintro vv11 I11 L11 hI11 ⟨rfl, b2, rfl, hcell2⟩
              have hS := hS.mono hI11
              have hV := hV.mono hI11
              have hT := hT.mono hI11
              have hW := hW.mono hI11
              have hO := hO.mono hI11
              have hcell := hcell.mono hI11
              have hX := hX.mono hI11
              have hIc := hIc.trans hI11
              refine XO_callM (cap := []) (vs := [_, _]) rfl rfl fun_45 .nil (w_filter hO (by omega) fun_43 (fun x => w_lack hcell2 hT (by omega) x)) rfl rfl ?_
              rintro vv12 I12 L12 hI12 ⟨rfl, a12, c12, rfl, hY⟩
              have hS := hS.mono hI12
              have hV := hV.mono hI12
              have hT := hT.mono hI12
              have hW := hW.mono hI12
              have hO := hO.mono hI12
              have hcell := hcell.mono hI12
              have hX := hX.mono hI12
              have hcell2 := hcell2.mono hI12
              have hIc := hIc.trans hI12
              refine XO_v0 (ev_assign rfl) rfl rfl rfl ?_
              refine XO_v0 (ev_assign rfl) rfl rfl rfl ?_
              refine XO_v0 (ev_assign rfl) rfl rfl rfl ?_
              refine XO_nil ?_
              refine at_then ?_
              refine X_ret ?_
              first
              | exact at_ret3 rfl rfl rfl rfl (fun w hw => ⟨_, I12, [], rfl, hIc, hw.drop, gp_bad (gapE_chk (by simpa using hc27)) (by simpa using hc27)⟩)
              | exact at_ret3 rfl rfl rfl rfl (fun w hw => ⟨_, I12, [], rfl, hIc, hw.drop, gp_bad (gapE_many hck hbig) (by decide)⟩)
              | exact at_ret3 rfl rfl rfl rfl (fun w hw => ⟨_, I12, [], rfl, hIc, hw.drop, gp_bad (gapE_form hck hno hf) (by decide)⟩)
              | exact at_ret3 rfl rfl rfl rfl (fun w hw => ⟨_, I12, [], rfl, hIc, hw.drop, gp_bad (by rw [hck]; exact gapE_arg hck hno hf hE) (by simpa using hc81)⟩)
              | exact at_ret3 rfl rfl rfl rfl (fun w hw => ⟨_, I12, [], rfl, hIc, hw.drop, gp_bad (gapE_high hck hno hf hE hhi) (by decide)⟩)
              | exact at_ret3 rfl rfl rfl rfl (fun w hw => ⟨_, I12, [], rfl, hIc, hw.drop, .good (gapE_ok hck hno hf hE hhi) (by rw [hown]; rfl) (by rw [hown]; rfl) hX hY⟩)
end Go.Proofs.Ytgfggmmffmfolaa
