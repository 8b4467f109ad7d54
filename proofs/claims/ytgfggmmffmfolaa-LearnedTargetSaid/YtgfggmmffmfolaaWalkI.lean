/- Lessons: the walks, WalkI: each function comes to its Lean function. -/
import Derived.Test.YtgfggmmffmfolaaWalkH
import Derived.Test.YtgfggmmffmfolaaPlainV
namespace Go.Proofs.Ytgfggmmffmfolaa
open Go Go.Kn Go.Proofs
theorem low_take (xs : List Ls) (no : Int) : xs.take (lowI xs no) = xs.takeWhile (fun y => decide (y.no < no)) ∧ xs.drop (lowI xs no) = xs.dropWhile (fun y => decide (y.no < no)) := by
  have h := List.takeWhile_append_dropWhile (p := fun y : Ls => decide (y.no < no)) (l := xs)
  unfold lowI
  constructor
  · have h2 := List.take_left' (l₁ := xs.takeWhile fun y => decide (y.no < no)) (l₂ := xs.dropWhile fun y => decide (y.no < no)) rfl
    rw [h] at h2; exact h2
  · have h2 := List.drop_left' (l₁ := xs.takeWhile fun y => decide (y.no < no)) (l₂ := xs.dropWhile fun y => decide (y.no < no)) rfl
    rw [h] at h2; exact h2
theorem low_le (xs : List Ls) (no : Int) : lowI xs no ≤ xs.length := by
  have := (low_take xs no).1
  unfold lowI
  exact (List.takeWhile_sublist _).length_le

theorem w_Cast {I : HMap} {av : Option Addr} {n c : Nat} {xs : List Ls} (hS : Sl I 5 encL av n c xs) (hn : n ≤ 100000) (version day time : Int) : RetM Try.prog 19 [.slice av n c, .int .i64 version, .int .i64 day, .int .i64 time] I [] (SlE 1 encI (resF (castE (chk xs) version day time) (castF xs version day time)) (castE (chk xs) version day time)) := by
  intro g H w hw
  refine enter Try.func19 rfl Try.ntmps19 rfl hw ?_
  have hIc := HLe.refl I
  refine X_seq ?_
  refine X_region ?_
  refine XO_v0 (ev_assign rfl) rfl rfl rfl ?_
  refine XO_v0 (ev_assign rfl) rfl rfl rfl ?_
  refine XO_nil ?_
  refine at_then ?_
  refine X_seq ?_
  refine X_seq ?_
  refine X_region ?_
  refine XO_v0 (ev_move rfl) rfl rfl rfl ?_
  refine XO_callV0 (cap := []) (vs := [_]) rfl rfl fun_14 (w_check hS hn) rfl rfl ?_
  refine XO_v0 (ev_assign rfl) rfl rfl rfl ?_
  refine XO_nil ?_
  refine at_then ?_
  refine X_seq ?_
  refine X_region ?_
  refine XO_v0 (ev_move rfl) rfl rfl rfl ?_
  refine XO_v0 (ev_cmp rfl rfl rfl) rfl rfl rfl ?_
  refine XO_nil ?_
  refine at_then ?_
  refine X_cond rfl (fun hc16 => ?_) (fun hc16 => ?_)
  · skip
    refine X_seq ?_
    refine X_region ?_
    refine XO_v0 (ev_move rfl) rfl rfl rfl ?_
    refine XO_v0 (ev_assign rfl) rfl rfl rfl ?_
    refine XO_v0 (ev_assign rfl) rfl rfl rfl ?_
    refine XO_nil ?_
    refine at_then ?_
    refine X_ret ?_
    refine at_then_r ?_
    first
    | exact at_ret2 rfl rfl rfl (fun w hw => ⟨_, I, [], rfl, hIc, hw.drop, .bad (castE_chk (by simpa using hc16)) (resF_bad (by rw [castE_chk (by simpa using hc16)]; simpa using hc16))⟩)
    | exact at_ret2 rfl rfl rfl (fun w hw => ⟨_, I, [], rfl, hIc, hw.drop, .bad (castE_arg (by simpa using hc16) hc26) (resF_bad (by rw [castE_arg (by simpa using hc16) hc26]; decide))⟩)
    | exact at_ret2 rfl rfl rfl (fun w hw => ⟨_, I, [], rfl, hIc, hw.drop, .good (castE_ok (by simpa using hc16) hc26) (by rw [resF_ok (castE_ok (by simpa using hc16) hc26), ← cast_eq (chk_ok (by simpa using hc16)).2 (by have h := hc26; simp [within] at h; omega), sort_perm hperm]) hR⟩)
  · skip
    refine X_skip ?_
    refine at_then ?_
    refine X_seq ?_
    refine X_seq ?_
    refine X_region ?_
    refine XO_v0 (ev_move rfl) rfl rfl rfl ?_
    refine XO_callV0 (cap := []) (vs := [_, _, _]) rfl rfl fun_32 (w_within I _ _ _) rfl rfl ?_
    refine XO_v0 (ev_not rfl) rfl rfl rfl ?_
    refine XO_v0 (ev_move rfl) rfl rfl rfl ?_
    refine XO_pushF 3 rfl rfl rfl ?_
    refine XO_v1 (ev_move rfl) (.some rfl rfl rfl rfl gbf) rfl rfl rfl ?_
    refine XO_v1 (ev_move rfl) (.some rfl rfl rfl rfl gbf) rfl rfl rfl ?_
    refine XO_callV1 (cap := []) (vs := [_, _]) rfl rfl fun_33 (fun hg => w_then I _ _) (.some rfl rfl rfl rfl gbf) rfl rfl ?_
    refine XO_v1 (ev_not rfl) (.some rfl rfl rfl rfl gbf) rfl rfl rfl ?_
    refine XO_or0 rfl rfl rfl rfl rfl ?_
    refine XO_nil ?_
    refine at_then ?_
    refine X_cond rfl (fun hc26 => ?_) (fun hc26 => ?_)
    · skip
      refine X_seq ?_
      refine X_region ?_
      refine XO_v0 (ev_assign rfl) rfl rfl rfl ?_
      refine XO_v0 (ev_assign rfl) rfl rfl rfl ?_
      refine XO_nil ?_
      refine at_then ?_
      refine X_ret ?_
      refine at_then_r ?_
      first
      | exact at_ret2 rfl rfl rfl (fun w hw => ⟨_, I, [], rfl, hIc, hw.drop, .bad (castE_chk (by simpa using hc16)) (resF_bad (by rw [castE_chk (by simpa using hc16)]; simpa using hc16))⟩)
      | exact at_ret2 rfl rfl rfl (fun w hw => ⟨_, I, [], rfl, hIc, hw.drop, .bad (castE_arg (by simpa using hc16) hc26) (resF_bad (by rw [castE_arg (by simpa using hc16) hc26]; decide))⟩)
      | exact at_ret2 rfl rfl rfl (fun w hw => ⟨_, I, [], rfl, hIc, hw.drop, .good (castE_ok (by simpa using hc16) hc26) (by rw [resF_ok (castE_ok (by simpa using hc16) hc26), ← cast_eq (chk_ok (by simpa using hc16)).2 (by have h := hc26; simp [within] at h; omega), sort_perm hperm]) hR⟩)
    · skip
      refine X_skip ?_
      refine at_then ?_
      refine X_cutT [] .nil (fun T L0 E I' loc' => ∃ (zs : List Int) (v : Value) (q : Nat) (L : Go.Kn.Loc), E = (8, v) :: T ∧ HLe I I' ∧ L = loc' ∧ OwnS 3 1 v q (zs.map (Value.int .i64)) L ∧ zs.Perm (pickL version (versM (xs.filter (knownP day time)))) ∧ q ≤ 100000) ?_ ?_
      · skip
        have hK0 := HLe.refl I
        refine X_seq ?_
        refine X_region ?_
        refine XO_v0 (ev_move rfl) rfl rfl rfl ?_
        refine XO_v0 (ev_move rfl) rfl rfl rfl ?_
        refine XO_v0 (ev_move rfl) rfl rfl rfl ?_
        refine XO_callM (cap := []) (vs := [_, _, _]) rfl rfl fun_34 .nil (w_versions hS hn _ _) rfl rfl ?_
        rintro vv1 I1 L1 hI1 ⟨rfl, r, rfl, hr⟩
        have hS := hS.mono hI1
        have hIc := hIc.trans hI1
        have hK0 := hK0.trans hI1
        obtain ⟨mp, hmp⟩ : ∃ mp, mp = versM (xs.filter (knownP day time)) := ⟨_, rfl⟩
        rw [← hmp] at hr
        have hml : mp.length ≤ 100000 := by rw [hmp]; exact Nat.le_trans (versM_len _) (Nat.le_trans (List.length_filter_le ..) (by rw [hS.len]; exact hn))
        refine XO_range (ek := Value.int .i64) (ev := encA) (m := mp) rfl mpt_57 rfl rfl (.inl hr) (fun b_31 => ?_)
        refine XO_nil ?_
        refine at_then ?_
        refine X_block ?_
        refine X_loopT [(1, _), (31, _)] (.cons rfl (.cons rfl .nil)) (fun T L0 mz E I' loc' => ∃ (seen : List Nat) (v : Value) (q : Nat) (L : Go.Kn.Loc), mz = mp.length - seen.length ∧ E = (8, v) :: T ∧ I1 = I' ∧ L ++ [(b_31, iterO r mp.length seen)] = loc' ∧ OwnS 3 1 v q ((pickS mp version seen).flatMap encI) L ∧ q ≤ seen.length ∧ seen.Nodup ∧ ∀ i ∈ seen, i < mp.length) _ _ _ _ ⟨[], _, 0, [], rfl, rfl, rfl, rfl, OwnS.nil, Nat.le_refl _, .nil, fun i h => by cases h⟩ (.cons rfl (.cons rfl (.cons rfl .nil))) (HLe.refl _) rfl ?_
        rintro mz E I' loc' ⟨seen, v, q, L, rfl, rfl, rfl, rfl, hO, hq, hnd, hlt⟩
        have hsl := seen_lt hnd hlt
        refine X_seq ?_
        refine X_region ?_
        refine XO_next2 (ek := Value.int .i64) (ev := encA) (m := mp) (fun s => L ++ [(b_31, iterO r mp.length s)]) rfl (fun s => upd_app .here) rfl rfl rfl rfl rfl (.inl hr) (by simp) ?_
        intro t tv s' hno hyes
        refine XO_nil ?_
        refine at_then ?_
        refine X_seq ?_
        refine X_cond rfl (fun hc33 => ?_) (fun hc33 => ?_)
        · skip
          obtain ⟨i, p, hp, hns, rfl⟩ := hyes hc33
          refine X_skip ?_
          refine at_then ?_
          refine X_block ?_
          refine X_seq ?_
          refine X_region ?_
          refine XO_v0 (ev_entry (ek := Value.int .i64) (ev := encA) (m := mp) (p := p) (seen := seen) (i := i) rfl (.inl hr) (.inr (by simp)) hp) rfl rfl rfl ?_
          refine XO_v0 (ev_extract rfl rfl) rfl rfl rfl ?_
          refine XO_v0 (ev_extract rfl rfl) rfl rfl rfl ?_
          refine XO_alloc zt_47 rfl rfl (fun b_12 => ?_)
          refine XO_v0 (ev_assign rfl) rfl rfl rfl ?_
          refine XO_storeA rfl rfl szt_47 rfl rfl rfl rfl (by first | exact Upd.u0 | exact Upd.u1 | exact Upd.u2 | exact Upd.u3 | exact Upd.u4 | exact Upd.u5 | (repeat (first | exact Upd.here | apply Upd.there | apply upd_app))) ?_
          refine XO_nil ?_
          refine at_then ?_
          refine X_seq ?_
          refine X_region ?_
          refine XO_v0 (ev_fieldAddr rfl fld_47_2) rfl rfl rfl ?_
          refine XO_v0 (ev_load rfl sct_3 (fun hg => by first | exact Cell.h0 rfl | exact Cell.h1 rfl | exact Cell.h2 rfl | exact Cell.h3 rfl | exact Cell.h4 rfl | exact Cell.h5 rfl | (repeat (first | exact Cell.here rfl | apply Cell.there | apply Cell.app)))) rfl rfl rfl ?_
          refine XO_v0 (ev_move rfl) rfl rfl rfl ?_
          refine XO_v0 (ev_cmp rfl rfl rfl) rfl rfl rfl ?_
          refine XO_nil ?_
          refine at_then ?_
          refine X_cond rfl (fun hc40 => ?_) (fun hc40 => ?_)
          · skip
            refine X_region ?_
            refine XO_v0 (ev_move rfl) rfl rfl rfl ?_
            refine XO_v0 (ev_move rfl) rfl rfl rfl ?_
            refine XO_buildSlice (ps := [(0, _)]) (m := [encI p.1]) elt_35 rfl (.cons rfl (.nil)) rfl (by simp [encL_len, encI_len, encH_len]) (by decide) (by decide) rfl rfl (fun b_43 => ?_)
            refine XO_append (v := v) (ys := [encI p.1].flatten) (L := L) rfl rfl elt_35 hO (split_mid (A := [_, _]) (B := [_])) ⟨rfl, fun _ => rfl, Cells.here⟩ rfl (by omega) rfl rfl ?_
            intro v' L' hO' _
            refine XO_v0 (ev_assign rfl) rfl rfl rfl ?_
            refine XO_nil ?_
            refine at_block_n ?_
            have hnd2 : (seen ++ [i]).Nodup := List.nodup_append.2 ⟨hnd, by simp, fun a ha b hb e => hns (by simp at hb; subst hb; subst e; exact ha)⟩
            have hlt2 : ∀ j ∈ seen ++ [i], j < mp.length := fun j hj => (List.mem_append.1 hj).elim (hlt j) (fun h => by simp at h; subst h; exact (List.getElem?_eq_some_iff.1 hp).1)
            have hsl2 := seen_lt hnd2 hlt2
            rw [List.length_append, List.length_singleton] at hsl2
            first
            | exact at_met2 _ _ ⟨_, by rw [List.length_append, List.length_singleton]; omega, seen ++ [i], v', q + 1, L', rfl, rfl, rfl, rfl, by rw [pickS_yes hp hc40, List.flatMap_append]; simpa using hO', by rw [List.length_append, List.length_singleton]; omega, hnd2, hlt2⟩ (.cons rfl (.cons rfl (.cons rfl .nil))) (subL_app (.drop (.drop .refl)))
            | exact at_met2 _ _ ⟨_, by rw [List.length_append, List.length_singleton]; omega, seen ++ [i], v, q, L, rfl, rfl, rfl, rfl, by rw [pickS_no hp hc40]; exact hO, by rw [List.length_append, List.length_singleton]; omega, hnd2, hlt2⟩ (.cons rfl (.cons rfl (.cons rfl .nil))) (.drop .refl)
          · skip
            refine X_skip ?_
            refine at_block_n ?_
            have hnd2 : (seen ++ [i]).Nodup := List.nodup_append.2 ⟨hnd, by simp, fun a ha b hb e => hns (by simp at hb; subst hb; subst e; exact ha)⟩
            have hlt2 : ∀ j ∈ seen ++ [i], j < mp.length := fun j hj => (List.mem_append.1 hj).elim (hlt j) (fun h => by simp at h; subst h; exact (List.getElem?_eq_some_iff.1 hp).1)
            have hsl2 := seen_lt hnd2 hlt2
            rw [List.length_append, List.length_singleton] at hsl2
            first
            | exact at_met2 _ _ ⟨_, by rw [List.length_append, List.length_singleton]; omega, seen ++ [i], v', q + 1, L', rfl, rfl, rfl, rfl, by rw [pickS_yes hp hc40, List.flatMap_append]; simpa using hO', by rw [List.length_append, List.length_singleton]; omega, hnd2, hlt2⟩ (.cons rfl (.cons rfl (.cons rfl .nil))) (subL_app (.drop (.drop .refl)))
            | exact at_met2 _ _ ⟨_, by rw [List.length_append, List.length_singleton]; omega, seen ++ [i], v, q, L, rfl, rfl, rfl, rfl, by rw [pickS_no hp hc40]; exact hO, by rw [List.length_append, List.length_singleton]; omega, hnd2, hlt2⟩ (.cons rfl (.cons rfl (.cons rfl .nil))) (.drop .refl)
        · skip
          obtain ⟨rfl, hall⟩ := hno hc33
          refine X_exit ?_
          refine at_then_e ?_
          refine at_then_e ?_
          refine at_block_hit ?_
          exact at_met2 _ _ ⟨_, v, q, L, rfl, hK0, rfl, by rw [← flat_int]; exact hO, by rw [← hmp]; exact pickS_perm (seen_perm hnd hlt hall), by omega⟩ (.cons rfl .nil) subL_left
      · rintro E J3 loc' ⟨zs, v, q, L, rfl, hJ, rfl, hO, hperm, hq⟩
        have hS := hS.mono hJ
        have hIc := hIc.trans hJ
        refine X_seq ?_
        refine X_region ?_
        refine XO_v0 (ev_move rfl) rfl rfl rfl ?_
        refine XO_callM (cap := []) (vs := [_]) rfl rfl fun_38 split_all (w_sort 3 zs hO (by omega) _) rfl rfl ?_
        rintro vv4 I4 L4 hI4 ⟨rfl, hIe, hO⟩
        have hS := hS.mono hI4
        have hIc := hIc.trans hI4
        rw [List.append_nil]
        refine XO_nil ?_
        refine at_then ?_
        refine X_seq ?_
        refine X_freezeO (xs := sortI zs) (by rw [flat_int]; exact hO) encI_len (by decide) split_all (fun I5 hI5 af5 cf5 ef5 hR => ?_)
        subst ef5
        have hS := hS.mono hI5
        have hIc := hIc.trans hI5
        refine X_region ?_
        refine XO_v0 (ev_move rfl) rfl rfl rfl ?_
        refine XO_v0 (ev_assign rfl) rfl rfl rfl ?_
        refine XO_v0 (ev_assign rfl) rfl rfl rfl ?_
        refine XO_nil ?_
        refine at_then ?_
        refine X_ret ?_
        first
        | exact at_ret2 rfl rfl rfl (fun w hw => ⟨_, I5, [], rfl, hIc, hw.drop, .bad (castE_chk (by simpa using hc16)) (resF_bad (by rw [castE_chk (by simpa using hc16)]; simpa using hc16))⟩)
        | exact at_ret2 rfl rfl rfl (fun w hw => ⟨_, I5, [], rfl, hIc, hw.drop, .bad (castE_arg (by simpa using hc16) hc26) (resF_bad (by rw [castE_arg (by simpa using hc16) hc26]; decide))⟩)
        | exact at_ret2 rfl rfl rfl (fun w hw => ⟨_, I5, [], rfl, hIc, hw.drop, .good (castE_ok (by simpa using hc16) hc26) (by rw [resF_ok (castE_ok (by simpa using hc16) hc26), ← cast_eq (chk_ok (by simpa using hc16)).2 (by have h := hc26; simp [within] at h; omega), sort_perm hperm]) hR⟩)

theorem w_Add {I : HMap} {av : Option Addr} {n c : Nat} {xs : List Ls} (hS : Sl I 5 encL av n c xs) (hn : n ≤ 100000) (x : Ls) : RetM Try.prog 12 [.slice av n c, encA x] I [] (SlE 5 encL (addF xs x) (addE xs x)) := by
  intro g H w hw
  refine enter Try.func12 rfl Try.ntmps12 rfl hw ?_
  have hIc := HLe.refl I
  refine X_seq ?_
  refine X_region ?_
  refine XO_box rfl rfl rfl (fun b_3 => ?_)
  refine XO_v0 (ev_assign rfl) rfl rfl rfl ?_
  refine XO_v0 (ev_assign rfl) rfl rfl rfl ?_
  refine XO_nil ?_
  refine at_then ?_
  refine X_seq ?_
  refine X_seq ?_
  refine X_region ?_
  refine XO_v0 (ev_move rfl) rfl rfl rfl ?_
  refine XO_callV0 (cap := []) (vs := [_]) rfl rfl fun_14 (w_check hS hn) rfl rfl ?_
  refine XO_v0 (ev_assign rfl) rfl rfl rfl ?_
  refine XO_nil ?_
  refine at_then ?_
  refine X_seq ?_
  refine X_region ?_
  refine XO_v0 (ev_move rfl) rfl rfl rfl ?_
  refine XO_v0 (ev_cmp rfl rfl rfl) rfl rfl rfl ?_
  refine XO_nil ?_
  refine at_then ?_
  refine X_cond rfl (fun hc12 => ?_) (fun hc12 => ?_)
  · skip
    refine X_seq ?_
    refine X_region ?_
    refine XO_v0 (ev_move rfl) rfl rfl rfl ?_
    refine XO_v0 (ev_assign rfl) rfl rfl rfl ?_
    refine XO_v0 (ev_assign rfl) rfl rfl rfl ?_
    refine XO_nil ?_
    refine at_then ?_
    refine X_ret ?_
    refine at_then_r ?_
    first
    | exact at_ret2 rfl rfl rfl (fun w hw => ⟨_, I, [], rfl, hIc, hw.drop, bad_add (addE_chk (by simpa using hc12)) (by simpa using hc12)⟩)
    | exact at_ret2 rfl rfl rfl (fun w hw => ⟨_, I, [], rfl, hIc, hw.drop, bad_add (addE_right (by simpa using hc12) (by simpa using hc16)) (by decide)⟩)
    | exact at_ret2 rfl rfl rfl (fun w hw => ⟨_, I, [], rfl, hIc, hw.drop, bad_add (addE_twice (by simpa using hc12) hrt hc24) (by decide)⟩)
    | exact at_ret2 rfl rfl rfl (fun w hw => ⟨_, I, [], rfl, hIc, hw.drop, bad_add (addE_full (by simpa using hc12) hrt hc24 (by rw [hS.len]; simp at hc27; omega)) (by decide)⟩)
    | exact at_ret2 rfl rfl rfl (fun w hw => ⟨_, I, [], rfl, hIc, hw.drop, .good (addE_ok (by simpa using hc12) hrt hc24 (by rw [hS.len]; simp at hc27; omega)) (by unfold addF; rw [resF_ok (addE_ok (by simpa using hc12) hrt hc24 (by rw [hS.len]; simp at hc27; omega))]) hR⟩)
  · skip
    refine X_skip ?_
    refine at_then ?_
    refine X_seq ?_
    refine X_seq ?_
    refine X_region ?_
    refine XO_v0 (ev_loadA rfl agt_24 (fun hg => by first | exact Cells.g0 | exact Cells.g1 | exact Cells.g2 | exact Cells.g3 | exact Cells.g4 | exact Cells.g5 | (repeat (first | exact Cells.here | apply Cells.there | apply Cells.app))) rfl) rfl rfl rfl ?_
    refine XO_callV0 (cap := []) (vs := [_]) rfl rfl fun_25 (w_right I _) rfl rfl ?_
    refine XO_v0 (ev_not rfl) rfl rfl rfl ?_
    refine XO_nil ?_
    refine at_then ?_
    refine X_cond rfl (fun hc16 => ?_) (fun hc16 => ?_)
    · skip
      refine X_seq ?_
      refine X_region ?_
      refine XO_v0 (ev_assign rfl) rfl rfl rfl ?_
      refine XO_v0 (ev_assign rfl) rfl rfl rfl ?_
      refine XO_nil ?_
      refine at_then ?_
      refine X_ret ?_
      refine at_then_r ?_
      first
      | exact at_ret2 rfl rfl rfl (fun w hw => ⟨_, I, [], rfl, hIc, hw.drop, bad_add (addE_chk (by simpa using hc12)) (by simpa using hc12)⟩)
      | exact at_ret2 rfl rfl rfl (fun w hw => ⟨_, I, [], rfl, hIc, hw.drop, bad_add (addE_right (by simpa using hc12) (by simpa using hc16)) (by decide)⟩)
      | exact at_ret2 rfl rfl rfl (fun w hw => ⟨_, I, [], rfl, hIc, hw.drop, bad_add (addE_twice (by simpa using hc12) hrt hc24) (by decide)⟩)
      | exact at_ret2 rfl rfl rfl (fun w hw => ⟨_, I, [], rfl, hIc, hw.drop, bad_add (addE_full (by simpa using hc12) hrt hc24 (by rw [hS.len]; simp at hc27; omega)) (by decide)⟩)
      | exact at_ret2 rfl rfl rfl (fun w hw => ⟨_, I, [], rfl, hIc, hw.drop, .good (addE_ok (by simpa using hc12) hrt hc24 (by rw [hS.len]; simp at hc27; omega)) (by unfold addF; rw [resF_ok (addE_ok (by simpa using hc12) hrt hc24 (by rw [hS.len]; simp at hc27; omega))]) hR⟩)
    · skip
      have hrt : rightF x = true := by simpa using hc16
      refine X_skip ?_
      refine at_then ?_
      refine X_seq ?_
      refine X_region ?_
      refine XO_v0 (ev_move rfl) rfl rfl rfl ?_
      refine XO_v0 (ev_fieldAddr rfl fld_24_0) rfl rfl rfl ?_
      refine XO_v0 (ev_load rfl sct_3 (fun hg => by first | exact Cell.h0 rfl | exact Cell.h1 rfl | exact Cell.h2 rfl | exact Cell.h3 rfl | exact Cell.h4 rfl | exact Cell.h5 rfl | (repeat (first | exact Cell.here rfl | apply Cell.there | apply Cell.app)))) rfl rfl rfl ?_
      refine XO_callV0 (cap := []) (vs := [_, _, _]) rfl rfl fun_26 (w_search hS hn (chk_ok (by simpa using hc12)).2 _) rfl rfl ?_
      refine XO_v0 (ev_move rfl) rfl rfl rfl ?_
      refine XO_v0 (ev_extract rfl rfl) rfl rfl rfl ?_
      refine XO_v0 (ev_extract rfl rfl) rfl rfl rfl ?_
      refine XO_v0 (ev_assign rfl) rfl rfl rfl ?_
      refine XO_v0 (ev_assign rfl) rfl rfl rfl ?_
      refine XO_nil ?_
      refine at_then ?_
      refine X_seq ?_
      refine X_seq ?_
      refine X_region ?_
      refine XO_v0 (ev_move rfl) rfl rfl rfl ?_
      refine XO_nil ?_
      refine at_then ?_
      refine X_cond rfl (fun hc24 => ?_) (fun hc24 => ?_)
      · skip
        refine X_seq ?_
        refine X_region ?_
        refine XO_v0 (ev_assign rfl) rfl rfl rfl ?_
        refine XO_v0 (ev_assign rfl) rfl rfl rfl ?_
        refine XO_nil ?_
        refine at_then ?_
        refine X_ret ?_
        refine at_then_r ?_
        first
        | exact at_ret2 rfl rfl rfl (fun w hw => ⟨_, I, [], rfl, hIc, hw.drop, bad_add (addE_chk (by simpa using hc12)) (by simpa using hc12)⟩)
        | exact at_ret2 rfl rfl rfl (fun w hw => ⟨_, I, [], rfl, hIc, hw.drop, bad_add (addE_right (by simpa using hc12) (by simpa using hc16)) (by decide)⟩)
        | exact at_ret2 rfl rfl rfl (fun w hw => ⟨_, I, [], rfl, hIc, hw.drop, bad_add (addE_twice (by simpa using hc12) hrt hc24) (by decide)⟩)
        | exact at_ret2 rfl rfl rfl (fun w hw => ⟨_, I, [], rfl, hIc, hw.drop, bad_add (addE_full (by simpa using hc12) hrt hc24 (by rw [hS.len]; simp at hc27; omega)) (by decide)⟩)
        | exact at_ret2 rfl rfl rfl (fun w hw => ⟨_, I, [], rfl, hIc, hw.drop, .good (addE_ok (by simpa using hc12) hrt hc24 (by rw [hS.len]; simp at hc27; omega)) (by unfold addF; rw [resF_ok (addE_ok (by simpa using hc12) hrt hc24 (by rw [hS.len]; simp at hc27; omega))]) hR⟩)
      · skip
        refine X_skip ?_
        refine at_then ?_
        refine X_seq ?_
        refine X_seq ?_
        refine X_region ?_
        refine XO_v0 (ev_move rfl) rfl rfl rfl ?_
        refine XO_v0 (ev_lenS rfl slt_22) rfl rfl rfl ?_
        refine XO_v0 (ev_cmp rfl rfl rfl) rfl rfl rfl ?_
        refine XO_nil ?_
        refine at_then ?_
        refine X_cond rfl (fun hc27 => ?_) (fun hc27 => ?_)
        · skip
          refine X_seq ?_
          refine X_region ?_
          refine XO_v0 (ev_assign rfl) rfl rfl rfl ?_
          refine XO_v0 (ev_assign rfl) rfl rfl rfl ?_
          refine XO_nil ?_
          refine at_then ?_
          refine X_ret ?_
          refine at_then_r ?_
          first
          | exact at_ret2 rfl rfl rfl (fun w hw => ⟨_, I, [], rfl, hIc, hw.drop, bad_add (addE_chk (by simpa using hc12)) (by simpa using hc12)⟩)
          | exact at_ret2 rfl rfl rfl (fun w hw => ⟨_, I, [], rfl, hIc, hw.drop, bad_add (addE_right (by simpa using hc12) (by simpa using hc16)) (by decide)⟩)
          | exact at_ret2 rfl rfl rfl (fun w hw => ⟨_, I, [], rfl, hIc, hw.drop, bad_add (addE_twice (by simpa using hc12) hrt hc24) (by decide)⟩)
          | exact at_ret2 rfl rfl rfl (fun w hw => ⟨_, I, [], rfl, hIc, hw.drop, bad_add (addE_full (by simpa using hc12) hrt hc24 (by rw [hS.len]; simp at hc27; omega)) (by decide)⟩)
          | exact at_ret2 rfl rfl rfl (fun w hw => ⟨_, I, [], rfl, hIc, hw.drop, .good (addE_ok (by simpa using hc12) hrt hc24 (by rw [hS.len]; simp at hc27; omega)) (by unfold addF; rw [resF_ok (addE_ok (by simpa using hc12) hrt hc24 (by rw [hS.len]; simp at hc27; omega))]) hR⟩)
        · skip
          refine X_skip ?_
          refine at_then ?_
          refine X_cutT [] .nil (fun T L0 E I' loc' => ∃ (v : Value) (L : Go.Kn.Loc), E = (4, v) :: (5, .int .i64 0) :: T ∧ HLe I I' ∧ L ++ L0 = loc' ∧ OwnS 24 5 v (n + 1) ((insF xs x).flatMap encL) L) ?_ ?_
          · skip
            have hKc11 := HLe.refl I
            have hD := HLe.refl I
            refine X_drawC mixed ?_
            refine XD_take 0 rfl (ev_move rfl) (.none rfl) rfl rfl rfl (by kernel_rfl) (by kernel_rfl) (by kernel_rfl) noP_ok hD (by repeat (first | exact .refl | exact subL_nil | refine .drop ?_ | refine subL_add ?_)) ?_
            refine XD_take 2 rfl (ev_move rfl) (.none rfl) rfl rfl rfl (by kernel_rfl) (by kernel_rfl) (by kernel_rfl) noP_ok hD (by repeat (first | exact .refl | exact subL_nil | refine .drop ?_ | refine subL_add ?_)) ?_
            refine XD_take 3 rfl (ev_loadA rfl agt_24 (fun hg => by first | exact Cells.g0 | exact Cells.g1 | exact Cells.g2 | exact Cells.g3 | exact Cells.g4 | exact Cells.g5 | (repeat (first | exact Cells.here | apply Cells.there | apply Cells.app))) rfl) (.none rfl) rfl rfl rfl (by kernel_rfl) (by kernel_rfl) (by kernel_rfl) noP_ok hD (by repeat (first | exact .refl | exact subL_nil | refine .drop ?_ | refine subL_add ?_)) ?_
            refine XD_two 1 4 rfl rfl (by kernel_rfl) ?_ ?_
            · skip
              refine XO_callM (cap := []) (vs := [_]) rfl rfl fun_30 .nil (w_cloneL hS hn) rfl rfl ?_
              rintro vv1 I1 L1 hI1 ⟨hIe, hO⟩
              have hS := hS.mono hI1
              have hIc := hIc.trans hI1
              have hKc11 := hKc11.trans hI1
              have hD := hD.trans hI1
              refine XO_nil ?_
              refine at_D hD (by repeat (first | exact .refl | exact subL_nil | refine .drop ?_ | refine subL_add ?_)) ?_
              refine XD_one 4 rfl (by kernel_rfl) ?_
              refine XO_buildSlice (ps := [(0, _)]) (m := [encL x]) elt_22 rfl (.cons rfl (.nil)) rfl (by simp [encL_len, encI_len, encH_len]) (by decide) (by decide) rfl rfl (fun b_32 => ?_)
              refine XO_nil ?_
              refine at_D hD (by repeat (first | exact .refl | exact subL_nil | refine .drop ?_ | refine subL_add ?_)) ?_
              refine XD_one 5 rfl (by kernel_rfl) ?_
              refine XO_callM (cap := []) (vs := [_, _, _]) rfl rfl fun_29 (by first | exact split_snoc1 | exact split_snoc2) (w_insert hO hn hS.len (by rw [← hS.len]; exact low_le xs x.no) b_32 x) rfl rfl ?_
              rintro vv2 I2 L2 hI2 ⟨hIe2, hO2⟩
              have hS := hS.mono hI2
              have hIc := hIc.trans hI2
              have hKc11 := hKc11.trans hI2
              have hD := hD.trans hI2
              refine XO_nil ?_
              refine at_D hD (by repeat (first | exact .refl | exact subL_nil | refine .drop ?_ | refine subL_add ?_)) ?_
              refine XD_take 6 rfl (ev_assign rfl) (.none rfl) rfl rfl rfl (by kernel_rfl) (by kernel_rfl) (by kernel_rfl) noP_ok hD (by repeat (first | exact .refl | exact subL_nil | refine .drop ?_ | refine subL_add ?_)) ?_
              refine XD_take 7 rfl (ev_assign rfl) (.none rfl) rfl rfl rfl (by kernel_rfl) (by kernel_rfl) (by kernel_rfl) noP_ok hD (by repeat (first | exact .refl | exact subL_nil | refine .drop ?_ | refine subL_add ?_)) ?_
              refine XD_done (by kernel_rfl) ?_
              refine at_noP ?_
              exact at_met2 _ _ ⟨_, _, rfl, hKc11, rfl, by unfold insF; rw [← (low_take xs x.no).1, ← (low_take xs x.no).2]; exact hO2⟩ (.cons rfl (.cons rfl .nil)) (by repeat (first | exact .refl | exact subL_left | refine subL_app ?_ | refine .drop ?_ | refine subL_add ?_))
            · skip
              refine XO_buildSlice (ps := [(0, _)]) (m := [encL x]) elt_22 rfl (.cons rfl (.nil)) rfl (by simp [encL_len, encI_len, encH_len]) (by decide) (by decide) rfl rfl (fun b_32 => ?_)
              refine XO_nil ?_
              refine at_D hD (by repeat (first | exact .refl | exact subL_nil | refine .drop ?_ | refine subL_add ?_)) ?_
              refine XD_one 1 rfl (by kernel_rfl) ?_
              refine XO_callM (cap := []) (vs := [_]) rfl rfl fun_30 .nil (w_cloneL hS hn) rfl rfl ?_
              rintro vv3 I3 L3 hI3 ⟨hIe, hO⟩
              have hS := hS.mono hI3
              have hIc := hIc.trans hI3
              have hKc11 := hKc11.trans hI3
              have hD := hD.trans hI3
              refine XO_nil ?_
              refine at_D hD (by repeat (first | exact .refl | exact subL_nil | refine .drop ?_ | refine subL_add ?_)) ?_
              refine XD_one 5 rfl (by kernel_rfl) ?_
              refine XO_callM (cap := []) (vs := [_, _, _]) rfl rfl fun_29 (by first | exact split_snoc1 | exact split_snoc2) (w_insert hO hn hS.len (by rw [← hS.len]; exact low_le xs x.no) b_32 x) rfl rfl ?_
              rintro vv4 I4 L4 hI4 ⟨hIe2, hO2⟩
              have hS := hS.mono hI4
              have hIc := hIc.trans hI4
              have hKc11 := hKc11.trans hI4
              have hD := hD.trans hI4
              refine XO_nil ?_
              refine at_D hD (by repeat (first | exact .refl | exact subL_nil | refine .drop ?_ | refine subL_add ?_)) ?_
              refine XD_take 6 rfl (ev_assign rfl) (.none rfl) rfl rfl rfl (by kernel_rfl) (by kernel_rfl) (by kernel_rfl) noP_ok hD (by repeat (first | exact .refl | exact subL_nil | refine .drop ?_ | refine subL_add ?_)) ?_
              refine XD_take 7 rfl (ev_assign rfl) (.none rfl) rfl rfl rfl (by kernel_rfl) (by kernel_rfl) (by kernel_rfl) noP_ok hD (by repeat (first | exact .refl | exact subL_nil | refine .drop ?_ | refine subL_add ?_)) ?_
              refine XD_done (by kernel_rfl) ?_
              refine at_noP ?_
              exact at_met2 _ _ ⟨_, _, rfl, hKc11, rfl, by unfold insF; rw [← (low_take xs x.no).1, ← (low_take xs x.no).2]; exact hO2⟩ (.cons rfl (.cons rfl .nil)) (by repeat (first | exact .refl | exact subL_left | refine subL_app ?_ | refine .drop ?_ | refine subL_add ?_))
          · rintro E J5 loc' ⟨v2, L2, rfl, hJ, rfl, hO2⟩
            have hS := hS.mono hJ
            have hIc := hIc.trans hJ
            refine X_freezeO hO2 encL_len (by decide) split_app (fun I6 hI6 af6 cf6 ef6 hR => ?_)
            subst ef6
            have hS := hS.mono hI6
            have hIc := hIc.trans hI6
            refine X_ret ?_
            first
            | exact at_ret2 rfl rfl rfl (fun w hw => ⟨_, I6, [], rfl, hIc, hw.drop, bad_add (addE_chk (by simpa using hc12)) (by simpa using hc12)⟩)
            | exact at_ret2 rfl rfl rfl (fun w hw => ⟨_, I6, [], rfl, hIc, hw.drop, bad_add (addE_right (by simpa using hc12) (by simpa using hc16)) (by decide)⟩)
            | exact at_ret2 rfl rfl rfl (fun w hw => ⟨_, I6, [], rfl, hIc, hw.drop, bad_add (addE_twice (by simpa using hc12) hrt hc24) (by decide)⟩)
            | exact at_ret2 rfl rfl rfl (fun w hw => ⟨_, I6, [], rfl, hIc, hw.drop, bad_add (addE_full (by simpa using hc12) hrt hc24 (by rw [hS.len]; simp at hc27; omega)) (by decide)⟩)
            | exact at_ret2 rfl rfl rfl (fun w hw => ⟨_, I6, [], rfl, hIc, hw.drop, .good (addE_ok (by simpa using hc12) hrt hc24 (by rw [hS.len]; simp at hc27; omega)) (by unfold addF; rw [resF_ok (addE_ok (by simpa using hc12) hrt hc24 (by rw [hS.len]; simp at hc27; omega))]) hR⟩)
end Go.Proofs.Ytgfggmmffmfolaa
