/- Lessons: the walks, WalkC: each function comes to its Lean function. -/
import Derived.Test.YtgfggmmffmfolaaWalkB
import Derived.Test.YtgfggmmffmfolaaPlain
namespace Go.Proofs.Ytgfggmmffmfolaa
open Go Go.Kn Go.Proofs
theorem w_rHas {I : HMap} {av : Option Addr} {n c : Nat} {xs : List Ls} (hS : Sl I 5 encL av n c xs) (hn : n ≤ 100000) (person day time : Int) : RetV Try.prog 18 [.slice av n c, .int .i64 person, .int .i64 day, .int .i64 time] I (.tuple #[.int .i64 (hasV xs person day time), .int .i64 (hasE (chk xs) person day time)]) := by
  intro g H w hw
  refine enter Try.func18 rfl Try.ntmps18 rfl hw ?_
  refine X_seq ?_
  refine X_region ?_
  refine XO_v0 (ev_assign rfl) rfl rfl rfl ?_
  refine XO_v0 (ev_assign rfl) rfl rfl rfl ?_
  refine XO_nil ?_
  refine at_then ?_
  refine X_seq ?_
  refine X_region ?_
  refine XO_v0 (ev_move rfl) rfl rfl rfl ?_
  refine XO_callV0 (cap := []) (vs := [_]) rfl rfl fun_15 (w_rcheck hS hn) rfl rfl ?_
  refine XO_v0 (ev_assign rfl) rfl rfl rfl ?_
  refine XO_nil ?_
  refine at_then ?_
  refine X_seq ?_
  refine X_seq ?_
  refine X_region ?_
  refine XO_v0 (ev_move rfl) rfl rfl rfl ?_
  refine XO_v0 (ev_cmp rfl rfl rfl) rfl rfl rfl ?_
  refine XO_nil ?_
  refine at_then ?_
  refine X_cond rfl (fun hc14 => ?_) (fun hc14 => ?_)
  · skip
    refine X_seq ?_
    refine X_region ?_
    refine XO_v0 (ev_move rfl) rfl rfl rfl ?_
    refine XO_v0 (ev_assign rfl) rfl rfl rfl ?_
    refine XO_v0 (ev_assign rfl) rfl rfl rfl ?_
    refine XO_nil ?_
    refine at_then ?_
    refine X_ret ?_
    refine at_then_r ?_
    first
    | exact at_ret2 rfl rfl rfl (fun w hw => ⟨by rw [hasV, hasE_chk (by simpa using hc14), if_pos (by simpa using hc14)], hw.drop⟩)
    | exact at_ret2 rfl rfl rfl (fun w hw => ⟨by rw [hasV, hasE_arg (by simpa using hc14) hc24]; rfl, hw.drop⟩)
    | exact at_ret2 rfl rfl rfl (fun w hw => ⟨by rw [hasV, hasE_ok (by simpa using hc14) hc24]; rfl, hw.drop⟩)
  · skip
    refine X_skip ?_
    refine at_then ?_
    refine X_seq ?_
    refine X_seq ?_
    refine X_region ?_
    refine XO_v0 (ev_move rfl) rfl rfl rfl ?_
    refine XO_callV0 (cap := []) (vs := [_, _, _]) rfl rfl fun_35 (w_rwithin I _ _ _) rfl rfl ?_
    refine XO_v0 (ev_not rfl) rfl rfl rfl ?_
    refine XO_v0 (ev_move rfl) rfl rfl rfl ?_
    refine XO_pushF 3 rfl rfl rfl ?_
    refine XO_v1 (ev_move rfl) (.some rfl rfl rfl rfl gbf) rfl rfl rfl ?_
    refine XO_v1 (ev_move rfl) (.some rfl rfl rfl rfl gbf) rfl rfl rfl ?_
    refine XO_callV1 (cap := []) (vs := [_, _]) rfl rfl fun_36 (fun hg => w_rthen I _ _) (.some rfl rfl rfl rfl gbf) rfl rfl ?_
    refine XO_v1 (ev_not rfl) (.some rfl rfl rfl rfl gbf) rfl rfl rfl ?_
    refine XO_or0 rfl rfl rfl rfl rfl ?_
    refine XO_nil ?_
    refine at_then ?_
    refine X_cond rfl (fun hc24 => ?_) (fun hc24 => ?_)
    · skip
      refine X_seq ?_
      refine X_region ?_
      refine XO_v0 (ev_assign rfl) rfl rfl rfl ?_
      refine XO_v0 (ev_assign rfl) rfl rfl rfl ?_
      refine XO_nil ?_
      refine at_then ?_
      refine X_ret ?_
      refine at_then_r ?_
      first
      | exact at_ret2 rfl rfl rfl (fun w hw => ⟨by rw [hasV, hasE_chk (by simpa using hc14), if_pos (by simpa using hc14)], hw.drop⟩)
      | exact at_ret2 rfl rfl rfl (fun w hw => ⟨by rw [hasV, hasE_arg (by simpa using hc14) hc24]; rfl, hw.drop⟩)
      | exact at_ret2 rfl rfl rfl (fun w hw => ⟨by rw [hasV, hasE_ok (by simpa using hc14) hc24]; rfl, hw.drop⟩)
    · skip
      refine X_skip ?_
      refine at_then ?_
      refine X_seq ?_
      refine X_region ?_
      refine XO_v0 (ev_move rfl) rfl rfl rfl ?_
      refine XO_v0 (ev_move rfl) rfl rfl rfl ?_
      refine XO_v0 (ev_move rfl) rfl rfl rfl ?_
      refine XO_v0 (ev_move rfl) rfl rfl rfl ?_
      refine XO_callV0 (cap := []) (vs := [_, _, _, _]) rfl rfl fun_37 (w_rhas hS hn _ _ _) rfl rfl ?_
      refine XO_v0 (ev_assign rfl) rfl rfl rfl ?_
      refine XO_v0 (ev_assign rfl) rfl rfl rfl ?_
      refine XO_nil ?_
      refine at_then ?_
      refine X_ret ?_
      first
      | exact at_ret2 rfl rfl rfl (fun w hw => ⟨by rw [hasV, hasE_chk (by simpa using hc14), if_pos (by simpa using hc14)], hw.drop⟩)
      | exact at_ret2 rfl rfl rfl (fun w hw => ⟨by rw [hasV, hasE_arg (by simpa using hc14) hc24]; rfl, hw.drop⟩)
      | exact at_ret2 rfl rfl rfl (fun w hw => ⟨by rw [hasV, hasE_ok (by simpa using hc14) hc24]; rfl, hw.drop⟩)

theorem cast_end {xs : List Ls} {version day time : Int} {k : Nat} (h : 64 ≤ k) (hk : k ≤ 64) : ((List.range k).map (fun p : Nat => (p : Int))).filter (fun p => hasF xs p day time == version) = castF xs version day time := by
  have : k = 64 := by omega
  subst this; rfl
theorem cast_yes {e k : Nat} {p : Int → Bool} {v : Value} {q : Nat} {L : Go.Kn.Loc} (hp : p k = true) (hO : OwnS e 1 v q ((((List.range k).map (fun p : Nat => (p : Int))).filter p).flatMap encI ++ [encI (k : Int)].flatten) L) : OwnS e 1 v q ((((List.range (k + 1)).map (fun p : Nat => (p : Int))).filter p).flatMap encI) L := by
  rw [List.range_succ, List.map_append, List.filter_append, List.flatMap_append]
  simpa [hp] using hO
theorem cast_no {e k : Nat} {p : Int → Bool} {v : Value} {q : Nat} {L : Go.Kn.Loc} (hp : p k = false) (hO : OwnS e 1 v q ((((List.range k).map (fun p : Nat => (p : Int))).filter p).flatMap encI) L) : OwnS e 1 v q ((((List.range (k + 1)).map (fun p : Nat => (p : Int))).filter p).flatMap encI) L := by
  rw [List.range_succ, List.map_append, List.filter_append, List.flatMap_append]
  simpa [hp] using hO

theorem w_rCast {I : HMap} {av : Option Addr} {n c : Nat} {xs : List Ls} (hS : Sl I 5 encL av n c xs) (hn : n ≤ 100000) (version day time : Int) : RetM Try.prog 20 [.slice av n c, .int .i64 version, .int .i64 day, .int .i64 time] I [] (SlE 1 encI (resF (castE (chk xs) version day time) (castF xs version day time)) (castE (chk xs) version day time)) := by
  intro g H w hw
  refine enter Try.func20 rfl Try.ntmps20 rfl hw ?_
  have hIc := HLe.refl I
  refine X_seq ?_
  refine X_region ?_
  refine XO_v0 (ev_assign rfl) rfl rfl rfl ?_
  refine XO_v0 (ev_assign rfl) rfl rfl rfl ?_
  refine XO_nil ?_
  refine at_then ?_
  refine X_seq ?_
  refine X_region ?_
  refine XO_v0 (ev_move rfl) rfl rfl rfl ?_
  refine XO_callV0 (cap := []) (vs := [_]) rfl rfl fun_15 (w_rcheck hS hn) rfl rfl ?_
  refine XO_v0 (ev_assign rfl) rfl rfl rfl ?_
  refine XO_nil ?_
  refine at_then ?_
  refine X_seq ?_
  refine X_seq ?_
  refine X_region ?_
  refine XO_v0 (ev_move rfl) rfl rfl rfl ?_
  refine XO_v0 (ev_cmp rfl rfl rfl) rfl rfl rfl ?_
  refine XO_nil ?_
  refine at_then ?_
  refine X_cond rfl (fun hc16 => ?_) (fun hc16 => ?_)
  · skip
    refine X_seq ?_
    refine X_region ?_
    refine XO_v0 (ev_move rfl) rfl rfl rfl ?_
    refine XO_v0 (ev_assign rfl) rfl rfl rfl ?_
    refine XO_v0 (ev_assign rfl) rfl rfl rfl ?_
    refine XO_nil ?_
    refine at_then ?_
    refine X_ret ?_
    refine at_then_r ?_
    first
    | exact at_ret2 rfl rfl rfl (fun w hw => ⟨_, I, [], rfl, hIc, hw.drop, .bad (castE_chk (by simpa using hc16)) (resF_bad (by rw [castE_chk (by simpa using hc16)]; simpa using hc16))⟩)
    | exact at_ret2 rfl rfl rfl (fun w hw => ⟨_, I, [], rfl, hIc, hw.drop, .bad (castE_arg (by simpa using hc16) hc26) (resF_bad (by rw [castE_arg (by simpa using hc16) hc26]; decide))⟩)
    | exact at_ret2 rfl rfl rfl (fun w hw => ⟨_, I, [], rfl, hIc, hw.drop, .good (castE_ok (by simpa using hc16) hc26) (by rw [resF_ok (castE_ok (by simpa using hc16) hc26), ← cast_end (k := k) (by omega) (by omega)]) hR⟩)
  · skip
    refine X_skip ?_
    refine at_then ?_
    refine X_seq ?_
    refine X_seq ?_
    refine X_region ?_
    refine XO_v0 (ev_move rfl) rfl rfl rfl ?_
    refine XO_callV0 (cap := []) (vs := [_, _, _]) rfl rfl fun_35 (w_rwithin I _ _ _) rfl rfl ?_
    refine XO_v0 (ev_not rfl) rfl rfl rfl ?_
    refine XO_v0 (ev_move rfl) rfl rfl rfl ?_
    refine XO_pushF 3 rfl rfl rfl ?_
    refine XO_v1 (ev_move rfl) (.some rfl rfl rfl rfl gbf) rfl rfl rfl ?_
    refine XO_v1 (ev_move rfl) (.some rfl rfl rfl rfl gbf) rfl rfl rfl ?_
    refine XO_callV1 (cap := []) (vs := [_, _]) rfl rfl fun_36 (fun hg => w_rthen I _ _) (.some rfl rfl rfl rfl gbf) rfl rfl ?_
    refine XO_v1 (ev_not rfl) (.some rfl rfl rfl rfl gbf) rfl rfl rfl ?_
    refine XO_or0 rfl rfl rfl rfl rfl ?_
    refine XO_nil ?_
    refine at_then ?_
    refine X_cond rfl (fun hc26 => ?_) (fun hc26 => ?_)
    · skip
      refine X_seq ?_
      refine X_region ?_
      refine XO_v0 (ev_assign rfl) rfl rfl rfl ?_
      refine XO_v0 (ev_assign rfl) rfl rfl rfl ?_
      refine XO_nil ?_
      refine at_then ?_
      refine X_ret ?_
      refine at_then_r ?_
      first
      | exact at_ret2 rfl rfl rfl (fun w hw => ⟨_, I, [], rfl, hIc, hw.drop, .bad (castE_chk (by simpa using hc16)) (resF_bad (by rw [castE_chk (by simpa using hc16)]; simpa using hc16))⟩)
      | exact at_ret2 rfl rfl rfl (fun w hw => ⟨_, I, [], rfl, hIc, hw.drop, .bad (castE_arg (by simpa using hc16) hc26) (resF_bad (by rw [castE_arg (by simpa using hc16) hc26]; decide))⟩)
      | exact at_ret2 rfl rfl rfl (fun w hw => ⟨_, I, [], rfl, hIc, hw.drop, .good (castE_ok (by simpa using hc16) hc26) (by rw [resF_ok (castE_ok (by simpa using hc16) hc26), ← cast_end (k := k) (by omega) (by omega)]) hR⟩)
    · skip
      refine X_skip ?_
      refine at_then ?_
      refine X_seq ?_
      refine X_region ?_
      refine XO_buildSlice (ps := []) (m := []) elt_35 rfl (.nil) rfl (by simp [encL_len, encI_len, encH_len]) (by decide) (by decide) rfl rfl (fun b_27 => ?_)
      refine XO_v0 (ev_assign rfl) rfl rfl rfl ?_
      refine XO_nil ?_
      refine at_then ?_
      refine X_seq ?_
      refine X_seq ?_
      refine X_region ?_
      refine XO_v0 (ev_assign rfl) rfl rfl rfl ?_
      refine XO_nil ?_
      refine at_then ?_
      refine X_block ?_
      refine X_loopT [(0, _), (1, _), (2, _), (3, _)] (.cons rfl (.cons rfl (.cons rfl (.cons rfl .nil)))) (fun T L0 mz E I' loc' => ∃ (k : Nat) (v : Value) (q : Nat) (L : Go.Kn.Loc), mz = 64 - k ∧ E = (11, v) :: (12, .int .i64 k) :: T ∧ I = I' ∧ L = loc' ∧ k ≤ 64 ∧ OwnS 3 1 v q ((((List.range k).map (fun p : Nat => (p : Int))).filter (fun p => hasF xs p day time == version)).flatMap encI) L ∧ q ≤ k) _ _ _ _ ⟨0, _, 0, _, rfl, rfl, rfl, rfl, Nat.zero_le _, OwnS.new, Nat.le_refl _⟩ (.cons rfl (.cons rfl (.cons rfl (.cons rfl (.cons rfl (.cons rfl .nil)))))) (HLe.refl _) rfl ?_
      rintro mz E I' loc' ⟨k, v, q, L, rfl, rfl, rfl, rfl, hk, hO, hq⟩
      refine X_seq ?_
      refine X_seq ?_
      refine X_region ?_
      refine XO_v0 (ev_move rfl) rfl rfl rfl ?_
      refine XO_v0 (ev_cmp rfl rfl rfl) rfl rfl rfl ?_
      refine XO_nil ?_
      refine at_then ?_
      refine X_cond rfl (fun hc29 => ?_) (fun hc29 => ?_)
      · skip
        have hlt_k : k < 64 := by have h := hc29; simp at h; omega
        refine X_skip ?_
        refine at_then ?_
        refine X_seq ?_
        refine X_block ?_
        refine X_seq ?_
        refine X_region ?_
        refine XO_v0 (ev_move rfl) rfl rfl rfl ?_
        refine XO_v0 (ev_move rfl) rfl rfl rfl ?_
        refine XO_v0 (ev_move rfl) rfl rfl rfl ?_
        refine XO_v0 (ev_move rfl) rfl rfl rfl ?_
        refine XO_callV0 (cap := []) (vs := [_, _, _, _]) rfl rfl fun_37 (w_rhas hS hn _ _ _) rfl rfl ?_
        refine XO_v0 (ev_move rfl) rfl rfl rfl ?_
        refine XO_v0 (ev_cmp rfl rfl rfl) rfl rfl rfl ?_
        refine XO_nil ?_
        refine at_then ?_
        refine X_cond rfl (fun hc38 => ?_) (fun hc38 => ?_)
        · skip
          refine X_region ?_
          refine XO_v0 (ev_move rfl) rfl rfl rfl ?_
          refine XO_v0 (ev_move rfl) rfl rfl rfl ?_
          refine XO_buildSlice (ps := [(0, _)]) (m := [encI k]) elt_35 rfl (.cons rfl (.nil)) rfl (by simp [encL_len, encI_len, encH_len]) (by decide) (by decide) rfl rfl (fun b_41 => ?_)
          refine XO_append (v := v) (ys := [encI (k : Int)].flatten) (L := L) rfl rfl elt_35 hO (by repeat (first | exact .cons .here .nil | exact split_all | exact split_app | apply split_cons | apply split_skip)) ⟨rfl, fun _ => rfl, Cells.here⟩ rfl (by omega) rfl rfl ?_
          intro v' L' hO' _
          refine XO_v0 (ev_assign rfl) rfl rfl rfl ?_
          refine XO_nil ?_
          refine at_block_n ?_
          refine at_then ?_
          refine X_region ?_
          refine XO_v0 (ev_move rfl) rfl rfl rfl ?_
          refine XO_v0 (ev_arB rfl rfl rfl (fun _ => by omega)) rfl rfl rfl ?_
          refine XO_v0 (ev_assign rfl) rfl rfl rfl ?_
          refine XO_nil ?_
          first
          | exact at_met2 _ _ ⟨64 - (k + 1), by omega, k + 1, v', q + 1, L', rfl, rfl, rfl, rfl, by omega, cast_yes hc38 hO', by omega⟩ (.cons rfl (.cons rfl (.cons rfl (.cons rfl (.cons rfl (.cons rfl .nil)))))) (by repeat (first | exact .refl | exact subL_left | refine subL_app ?_ | refine .drop ?_ | refine subL_add ?_))
          | exact at_met2 _ _ ⟨64 - (k + 1), by omega, k + 1, v, q, L, rfl, rfl, rfl, rfl, by omega, cast_no hc38 hO, by omega⟩ (.cons rfl (.cons rfl (.cons rfl (.cons rfl (.cons rfl (.cons rfl .nil)))))) (by repeat (first | exact .refl | exact subL_left | refine subL_app ?_ | refine .drop ?_ | refine subL_add ?_))
        · skip
          refine X_skip ?_
          refine at_block_n ?_
          refine at_then ?_
          refine X_region ?_
          refine XO_v0 (ev_move rfl) rfl rfl rfl ?_
          refine XO_v0 (ev_arB rfl rfl rfl (fun _ => by omega)) rfl rfl rfl ?_
          refine XO_v0 (ev_assign rfl) rfl rfl rfl ?_
          refine XO_nil ?_
          first
          | exact at_met2 _ _ ⟨64 - (k + 1), by omega, k + 1, v', q + 1, L', rfl, rfl, rfl, rfl, by omega, cast_yes hc38 hO', by omega⟩ (.cons rfl (.cons rfl (.cons rfl (.cons rfl (.cons rfl (.cons rfl .nil)))))) (by repeat (first | exact .refl | exact subL_left | refine subL_app ?_ | refine .drop ?_ | refine subL_add ?_))
          | exact at_met2 _ _ ⟨64 - (k + 1), by omega, k + 1, v, q, L, rfl, rfl, rfl, rfl, by omega, cast_no hc38 hO, by omega⟩ (.cons rfl (.cons rfl (.cons rfl (.cons rfl (.cons rfl (.cons rfl .nil)))))) (by repeat (first | exact .refl | exact subL_left | refine subL_app ?_ | refine .drop ?_ | refine subL_add ?_))
      · skip
        have hge_k : 64 ≤ k := by have h := hc29; simp at h; omega
        refine X_exit ?_
        refine at_then_e ?_
        refine at_then_e ?_
        refine at_block_hit ?_
        refine at_then ?_
        refine X_seq ?_
        refine X_freezeO hO encI_len (by decide) split_all (fun I2 hI2 af2 cf2 ef2 hR => ?_)
        subst ef2
        have hS := hS.mono hI2
        have hIc := hIc.trans hI2
        refine X_region ?_
        refine XO_v0 (ev_move rfl) rfl rfl rfl ?_
        refine XO_v0 (ev_assign rfl) rfl rfl rfl ?_
        refine XO_v0 (ev_assign rfl) rfl rfl rfl ?_
        refine XO_nil ?_
        refine at_then ?_
        refine X_ret ?_
        first
        | exact at_ret2 rfl rfl rfl (fun w hw => ⟨_, I2, [], rfl, hIc, hw.drop, .bad (castE_chk (by simpa using hc16)) (resF_bad (by rw [castE_chk (by simpa using hc16)]; simpa using hc16))⟩)
        | exact at_ret2 rfl rfl rfl (fun w hw => ⟨_, I2, [], rfl, hIc, hw.drop, .bad (castE_arg (by simpa using hc16) hc26) (resF_bad (by rw [castE_arg (by simpa using hc16) hc26]; decide))⟩)
        | exact at_ret2 rfl rfl rfl (fun w hw => ⟨_, I2, [], rfl, hIc, hw.drop, .good (castE_ok (by simpa using hc16) hc26) (by rw [resF_ok (castE_ok (by simpa using hc16) hc26), ← cast_end (k := k) (by omega) (by omega)]) hR⟩)

theorem w_rAdd {I : HMap} {av : Option Addr} {n c : Nat} {xs : List Ls} (hS : Sl I 5 encL av n c xs) (hn : n ≤ 100000) (x : Ls) : RetM Try.prog 13 [.slice av n c, encA x] I [] (SlE 5 encL (addF xs x) (addE xs x)) := by
  intro g H w hw
  refine enter Try.func13 rfl Try.ntmps13 rfl hw ?_
  have hIc := HLe.refl I
  refine X_seq ?_
  refine X_region ?_
  refine XO_box rfl rfl rfl (fun b_3 => ?_)
  refine XO_v0 (ev_assign rfl) rfl rfl rfl ?_
  refine XO_v0 (ev_assign rfl) rfl rfl rfl ?_
  refine XO_nil ?_
  refine at_then ?_
  refine X_seq ?_
  refine X_region ?_
  refine XO_v0 (ev_move rfl) rfl rfl rfl ?_
  refine XO_callV0 (cap := []) (vs := [_]) rfl rfl fun_15 (w_rcheck hS hn) rfl rfl ?_
  refine XO_v0 (ev_assign rfl) rfl rfl rfl ?_
  refine XO_nil ?_
  refine at_then ?_
  refine X_seq ?_
  refine X_seq ?_
  refine X_region ?_
  refine XO_v0 (ev_move rfl) rfl rfl rfl ?_
  refine XO_v0 (ev_cmp rfl rfl rfl) rfl rfl rfl ?_
  refine XO_nil ?_
  refine at_then ?_
  refine X_cond rfl (fun hc12 => ?_) (fun hc12 => ?_)
  · skip
    refine X_seq ?_
    refine X_region ?_
    refine XO_v0 (ev_move rfl) rfl rfl rfl ?_
    refine XO_v0 (ev_assign rfl) rfl rfl rfl ?_
    refine XO_v0 (ev_assign rfl) rfl rfl rfl ?_
    refine XO_nil ?_
    refine at_then ?_
    refine X_ret ?_
    refine at_then_r ?_
    first
    | exact at_ret2 rfl rfl rfl (fun w hw => ⟨_, I, [], rfl, hIc, hw.drop, bad_add (addE_chk (by simpa using hc12)) (by simpa using hc12)⟩)
    | exact at_ret2 rfl rfl rfl (fun w hw => ⟨_, I, [], rfl, hIc, hw.drop, bad_add (addE_right (by simpa using hc12) (by simpa using hc16)) (by decide)⟩)
    | exact at_ret2 rfl rfl rfl (fun w hw => ⟨_, I, [], rfl, hIc, hw.drop, bad_add (addE_twice (by simpa using hc12) hrt hany) (by decide)⟩)
    | exact at_ret2 rfl rfl rfl (fun w hw => ⟨_, I, [], rfl, hIc, hw.drop, bad_add (addE_full (by simpa using hc12) hrt hany (by rw [hS.len]; simp at hc49; omega)) (by decide)⟩)
    | exact at_ret2 rfl rfl rfl (fun w hw => ⟨_, I, [], rfl, hIc, hw.drop, .good (addE_ok (by simpa using hc12) hrt hany (by rw [hS.len]; simp at hc49; omega)) (by unfold addF; rw [resF_ok (addE_ok (by simpa using hc12) hrt hany (by rw [hS.len]; simp at hc49; omega)), ins_at hall (by rw [hS.len]; exact hk) hno]) hR⟩)
  · skip
    refine X_skip ?_
    refine at_then ?_
    refine X_seq ?_
    refine X_seq ?_
    refine X_region ?_
    refine XO_v0 (ev_loadA rfl agt_24 (fun hg => by first | exact Cells.g0 | exact Cells.g1 | exact Cells.g2 | exact Cells.g3 | exact Cells.g4 | exact Cells.g5 | (repeat (first | exact Cells.here | apply Cells.there | apply Cells.app))) rfl) rfl rfl rfl ?_
    refine XO_callV0 (cap := []) (vs := [_]) rfl rfl fun_31 (w_rright I _) rfl rfl ?_
    refine XO_v0 (ev_not rfl) rfl rfl rfl ?_
    refine XO_nil ?_
    refine at_then ?_
    refine X_cond rfl (fun hc16 => ?_) (fun hc16 => ?_)
    · skip
      refine X_seq ?_
      refine X_region ?_
      refine XO_v0 (ev_assign rfl) rfl rfl rfl ?_
      refine XO_v0 (ev_assign rfl) rfl rfl rfl ?_
      refine XO_nil ?_
      refine at_then ?_
      refine X_ret ?_
      refine at_then_r ?_
      first
      | exact at_ret2 rfl rfl rfl (fun w hw => ⟨_, I, [], rfl, hIc, hw.drop, bad_add (addE_chk (by simpa using hc12)) (by simpa using hc12)⟩)
      | exact at_ret2 rfl rfl rfl (fun w hw => ⟨_, I, [], rfl, hIc, hw.drop, bad_add (addE_right (by simpa using hc12) (by simpa using hc16)) (by decide)⟩)
      | exact at_ret2 rfl rfl rfl (fun w hw => ⟨_, I, [], rfl, hIc, hw.drop, bad_add (addE_twice (by simpa using hc12) hrt hany) (by decide)⟩)
      | exact at_ret2 rfl rfl rfl (fun w hw => ⟨_, I, [], rfl, hIc, hw.drop, bad_add (addE_full (by simpa using hc12) hrt hany (by rw [hS.len]; simp at hc49; omega)) (by decide)⟩)
      | exact at_ret2 rfl rfl rfl (fun w hw => ⟨_, I, [], rfl, hIc, hw.drop, .good (addE_ok (by simpa using hc12) hrt hany (by rw [hS.len]; simp at hc49; omega)) (by unfold addF; rw [resF_ok (addE_ok (by simpa using hc12) hrt hany (by rw [hS.len]; simp at hc49; omega)), ins_at hall (by rw [hS.len]; exact hk) hno]) hR⟩)
    · skip
      have hrt : rightF x = true := by simpa using hc16
      refine X_skip ?_
      refine at_then ?_
      refine X_seq ?_
      refine X_region ?_
      refine XO_v0 (ev_assign rfl) rfl rfl rfl ?_
      refine XO_nil ?_
      refine at_then ?_
      refine X_seq ?_
      refine X_block ?_
      refine X_loopT [(0, _), (3, _)] (.cons rfl (.cons rfl .nil)) (fun T L0 mz E I' loc' => ∃ (k : Nat), mz = n - k ∧ E = (7, .int .i64 k) :: T ∧ I = I' ∧ L0 = loc' ∧ k ≤ n ∧ (xs.take k).all (fun y => decide (y.no < x.no)) = true) _ _ _ _ ⟨0, rfl, rfl, rfl, rfl, Nat.zero_le _, rfl⟩ (.cons rfl (.cons rfl (.cons rfl .nil))) (HLe.refl _) rfl ?_
      rintro mz E I' loc' ⟨k, rfl, rfl, rfl, rfl, hk, hall⟩
      refine X_seq ?_
      refine X_seq ?_
      refine X_draw mixed (by kernel_rfl) ?_
      refine XQ_v0 (ev_move rfl) rfl rfl rfl ?_
      refine XQ_v0 (ev_move rfl) rfl rfl rfl ?_
      refine XQ_v0 (ev_lenS rfl slt_22) rfl rfl rfl ?_
      refine XQ_v0 (ev_cmp rfl rfl rfl) rfl rfl rfl ?_
      refine XQ_v0 (ev_move rfl) rfl rfl rfl ?_
      refine XQ_pushT 4 rfl rfl rfl ?_
      refine XQ_v1 (ev_move rfl) (.some rfl rfl rfl rfl gbt) rfl rfl rfl ?_
      refine XQ_v1 (ev_move rfl) (.some rfl rfl rfl rfl gbt) rfl rfl rfl ?_
      refine XQ_v1 (ev_indexSl rfl rfl slt_22 (by assumption) (fun hg => by first | omega | (simp [conj] at hg; omega))) (.some rfl rfl rfl rfl gbt) rfl rfl rfl ?_
      refine XQ_v1 (ev_fieldAddr rfl fld_24_0) (.some rfl rfl rfl rfl gbt) rfl rfl rfl ?_
      refine XQ_v1 (ev_load rfl sct_3 (fun hg => by first | exact Sl.get (k := k) hS (some_getD (d := zeroL) hS.len (by simp [conj] at hg; omega)) rfl | exact Cell.h0 rfl | exact Cell.h1 rfl | exact Cell.h2 rfl | exact Cell.h3 rfl | exact Cell.h4 rfl | exact Cell.h5 rfl | (repeat (first | exact Cell.here rfl | apply Cell.there | apply Cell.app)))) (.some rfl rfl rfl rfl gbt) rfl rfl rfl ?_
      refine XQ_v1 (ev_fieldAddr rfl fld_24_0) (.some rfl rfl rfl rfl gbt) rfl rfl rfl ?_
      refine XQ_v1 (ev_load rfl sct_3 (fun hg => by first | exact Sl.get (k := k) hS (some_getD (d := zeroL) hS.len (by simp [conj] at hg; omega)) rfl | exact Cell.h0 rfl | exact Cell.h1 rfl | exact Cell.h2 rfl | exact Cell.h3 rfl | exact Cell.h4 rfl | exact Cell.h5 rfl | (repeat (first | exact Cell.here rfl | apply Cell.there | apply Cell.app)))) (.some rfl rfl rfl rfl gbt) rfl rfl rfl ?_
      refine XQ_v1 (ev_cmp rfl rfl rfl) (.some rfl rfl rfl rfl gbt) rfl rfl rfl ?_
      refine XQ_and0 rfl rfl rfl rfl rfl ?_
      refine XQ_nil ?_
      refine at_then ?_
      refine X_cond rfl (fun hc30 => ?_) (fun hc30 => ?_)
      · skip
        rw [Bool.and_eq_true] at hc30
        have hlt_k : k < n := by have h := hc30.1; simp at h; omega
        have hy := some_getD (d := zeroL) hS.len hlt_k
        have hyl : (fun y => decide (y.no < x.no)) (xs.getD k zeroL) = true := hc30.2
        refine X_skip ?_
        refine at_then ?_
        refine X_block ?_
        refine X_region ?_
        refine XO_v0 (ev_move rfl) rfl rfl rfl ?_
        refine XO_v0 (ev_arB rfl rfl rfl (fun _ => by omega)) rfl rfl rfl ?_
        refine XO_v0 (ev_assign rfl) rfl rfl rfl ?_
        refine XO_nil ?_
        refine at_block_n ?_
        exact at_met2 _ _ ⟨n - (k + 1), by omega, k + 1, rfl, rfl, rfl, rfl, by omega, all_next hy hall hyl⟩ (.cons rfl (.cons rfl (.cons rfl .nil))) (by repeat (first | exact .refl | exact subL_left | refine subL_app ?_ | refine .drop ?_ | refine subL_add ?_))
      · skip
        have hno : ∀ y, xs[k]? = some y → ¬ y.no < x.no := fun y hy hlt => by have hkn := (List.getElem?_eq_some_iff.1 hy).1; rw [getD_of hy] at hc30; rw [hS.len] at hkn; simp [hkn, hlt] at hc30
        refine X_exit ?_
        refine at_then_e ?_
        refine at_then_e ?_
        refine at_block_hit ?_
        refine at_then ?_
        refine X_seq ?_
        refine X_seq ?_
        refine X_draw mixed (by kernel_rfl) ?_
        refine XQ_v0 (ev_move rfl) rfl rfl rfl ?_
        refine XQ_v0 (ev_move rfl) rfl rfl rfl ?_
        refine XQ_v0 (ev_lenS rfl slt_22) rfl rfl rfl ?_
        refine XQ_v0 (ev_cmp rfl rfl rfl) rfl rfl rfl ?_
        refine XQ_v0 (ev_move rfl) rfl rfl rfl ?_
        refine XQ_pushT 4 rfl rfl rfl ?_
        refine XQ_v1 (ev_move rfl) (.some rfl rfl rfl rfl gbt) rfl rfl rfl ?_
        refine XQ_v1 (ev_move rfl) (.some rfl rfl rfl rfl gbt) rfl rfl rfl ?_
        refine XQ_v1 (ev_indexSl rfl rfl slt_22 (by assumption) (fun hg => by first | omega | (simp [conj] at hg; omega))) (.some rfl rfl rfl rfl gbt) rfl rfl rfl ?_
        refine XQ_v1 (ev_fieldAddr rfl fld_24_0) (.some rfl rfl rfl rfl gbt) rfl rfl rfl ?_
        refine XQ_v1 (ev_load rfl sct_3 (fun hg => by first | exact Sl.get (k := k) hS (some_getD (d := zeroL) hS.len (by simp [conj] at hg; omega)) rfl | exact Cell.h0 rfl | exact Cell.h1 rfl | exact Cell.h2 rfl | exact Cell.h3 rfl | exact Cell.h4 rfl | exact Cell.h5 rfl | (repeat (first | exact Cell.here rfl | apply Cell.there | apply Cell.app)))) (.some rfl rfl rfl rfl gbt) rfl rfl rfl ?_
        refine XQ_v1 (ev_fieldAddr rfl fld_24_0) (.some rfl rfl rfl rfl gbt) rfl rfl rfl ?_
        refine XQ_v1 (ev_load rfl sct_3 (fun hg => by first | exact Sl.get (k := k) hS (some_getD (d := zeroL) hS.len (by simp [conj] at hg; omega)) rfl | exact Cell.h0 rfl | exact Cell.h1 rfl | exact Cell.h2 rfl | exact Cell.h3 rfl | exact Cell.h4 rfl | exact Cell.h5 rfl | (repeat (first | exact Cell.here rfl | apply Cell.there | apply Cell.app)))) (.some rfl rfl rfl rfl gbt) rfl rfl rfl ?_
        refine XQ_v1 (ev_cmp rfl rfl rfl) (.some rfl rfl rfl rfl gbt) rfl rfl rfl ?_
        refine XQ_and0 rfl rfl rfl rfl rfl ?_
        refine XQ_nil ?_
        refine at_then ?_
        refine X_cond rfl (fun hc46 => ?_) (fun hc46 => ?_)
        · skip
          have hany : xs.any (fun y => y.no == x.no) = true := by rw [Bool.and_eq_true] at hc46; have hkn : k < n := (by simpa using hc46.1); exact List.any_eq_true.2 ⟨_, List.mem_of_getElem? (some_getD (d := zeroL) hS.len hkn), hc46.2⟩
          refine X_seq ?_
          refine X_region ?_
          refine XO_v0 (ev_assign rfl) rfl rfl rfl ?_
          refine XO_v0 (ev_assign rfl) rfl rfl rfl ?_
          refine XO_nil ?_
          refine at_then ?_
          refine X_ret ?_
          refine at_then_r ?_
          first
          | exact at_ret2 rfl rfl rfl (fun w hw => ⟨_, I, [], rfl, hIc, hw.drop, bad_add (addE_chk (by simpa using hc12)) (by simpa using hc12)⟩)
          | exact at_ret2 rfl rfl rfl (fun w hw => ⟨_, I, [], rfl, hIc, hw.drop, bad_add (addE_right (by simpa using hc12) (by simpa using hc16)) (by decide)⟩)
          | exact at_ret2 rfl rfl rfl (fun w hw => ⟨_, I, [], rfl, hIc, hw.drop, bad_add (addE_twice (by simpa using hc12) hrt hany) (by decide)⟩)
          | exact at_ret2 rfl rfl rfl (fun w hw => ⟨_, I, [], rfl, hIc, hw.drop, bad_add (addE_full (by simpa using hc12) hrt hany (by rw [hS.len]; simp at hc49; omega)) (by decide)⟩)
          | exact at_ret2 rfl rfl rfl (fun w hw => ⟨_, I, [], rfl, hIc, hw.drop, .good (addE_ok (by simpa using hc12) hrt hany (by rw [hS.len]; simp at hc49; omega)) (by unfold addF; rw [resF_ok (addE_ok (by simpa using hc12) hrt hany (by rw [hS.len]; simp at hc49; omega)), ins_at hall (by rw [hS.len]; exact hk) hno]) hR⟩)
        · skip
          have hany : xs.any (fun y => y.no == x.no) = false := add_miss (chk_ok (by simpa using hc12)).2 hall fun y hy => by have hkn := (List.getElem?_eq_some_iff.1 hy).1; have h1 := hno y hy; rw [getD_of hy] at hc46; rw [hS.len] at hkn; simp [hkn] at hc46; omega
          refine X_skip ?_
          refine at_then ?_
          refine X_seq ?_
          refine X_seq ?_
          refine X_region ?_
          refine XO_v0 (ev_move rfl) rfl rfl rfl ?_
          refine XO_v0 (ev_lenS rfl slt_22) rfl rfl rfl ?_
          refine XO_v0 (ev_cmp rfl rfl rfl) rfl rfl rfl ?_
          refine XO_nil ?_
          refine at_then ?_
          refine X_cond rfl (fun hc49 => ?_) (fun hc49 => ?_)
          · skip
            refine X_seq ?_
            refine X_region ?_
            refine XO_v0 (ev_assign rfl) rfl rfl rfl ?_
            refine XO_v0 (ev_assign rfl) rfl rfl rfl ?_
            refine XO_nil ?_
            refine at_then ?_
            refine X_ret ?_
            refine at_then_r ?_
            first
            | exact at_ret2 rfl rfl rfl (fun w hw => ⟨_, I, [], rfl, hIc, hw.drop, bad_add (addE_chk (by simpa using hc12)) (by simpa using hc12)⟩)
            | exact at_ret2 rfl rfl rfl (fun w hw => ⟨_, I, [], rfl, hIc, hw.drop, bad_add (addE_right (by simpa using hc12) (by simpa using hc16)) (by decide)⟩)
            | exact at_ret2 rfl rfl rfl (fun w hw => ⟨_, I, [], rfl, hIc, hw.drop, bad_add (addE_twice (by simpa using hc12) hrt hany) (by decide)⟩)
            | exact at_ret2 rfl rfl rfl (fun w hw => ⟨_, I, [], rfl, hIc, hw.drop, bad_add (addE_full (by simpa using hc12) hrt hany (by rw [hS.len]; simp at hc49; omega)) (by decide)⟩)
            | exact at_ret2 rfl rfl rfl (fun w hw => ⟨_, I, [], rfl, hIc, hw.drop, .good (addE_ok (by simpa using hc12) hrt hany (by rw [hS.len]; simp at hc49; omega)) (by unfold addF; rw [resF_ok (addE_ok (by simpa using hc12) hrt hany (by rw [hS.len]; simp at hc49; omega)), ins_at hall (by rw [hS.len]; exact hk) hno]) hR⟩)
          · skip
            refine X_skip ?_
            refine at_then ?_
            refine X_seq ?_
            have hcap := hS.cap
            refine X_region ?_
            refine XO_buildSlice (ps := []) (m := []) elt_22 rfl (.nil) rfl (by simp [encL_len, encI_len, encH_len]) (by decide) (by decide) rfl rfl (fun b_50 => ?_)
            refine XO_v0 (ev_move rfl) rfl rfl rfl ?_
            refine XO_v0 (ev_move rfl) rfl rfl rfl ?_
            refine XO_v0 (ev_sliceHi rfl rfl slt_22 (fun hg => by first | omega | (simp [conj] at hg; omega))) rfl rfl rfl ?_
            refine XO_append (v := _) (ys := (xs.take k).flatMap encL) (L := [(b_50, _)]) rfl rfl elt_22 OwnS.new (by repeat (first | exact .cons .here .nil | exact split_all | exact split_app | apply split_cons | apply split_skip)) ((hS.take hk).src encL_len) (one_L _) (by omega) rfl rfl ?_
            intro v1 L1 hO1 _; rw [List.nil_append] at hO1
            refine XO_v0 (ev_assign rfl) rfl rfl rfl ?_
            refine XO_nil ?_
            refine at_then ?_
            refine X_seq ?_
            refine X_region ?_
            refine XO_v0 (ev_move rfl) rfl rfl rfl ?_
            refine XO_v0 (ev_loadA rfl agt_24 (fun hg => by first | exact Cells.g0 | exact Cells.g1 | exact Cells.g2 | exact Cells.g3 | exact Cells.g4 | exact Cells.g5 | (repeat (first | exact Cells.here | apply Cells.there | apply Cells.app))) rfl) rfl rfl rfl ?_
            refine XO_buildSlice (ps := [(0, _)]) (m := [encL x]) elt_22 rfl (.cons rfl (.nil)) rfl (by simp [encL_len, encI_len, encH_len]) (by decide) (by decide) rfl rfl (fun b_57 => ?_)
            refine XO_append (v := v1) (ys := [encL x].flatten) (L := L1) rfl rfl elt_22 hO1 (by repeat (first | exact .cons .here .nil | exact split_all | exact split_app | apply split_cons | apply split_skip)) ⟨rfl, fun _ => rfl, Cells.here⟩ rfl (by omega) rfl rfl ?_
            intro v2 L2 hO2 _
            refine XO_v0 (ev_assign rfl) rfl rfl rfl ?_
            refine XO_nil ?_
            refine at_then ?_
            refine X_seq ?_
            refine X_region ?_
            refine XO_v0 (ev_move rfl) rfl rfl rfl ?_
            refine XO_v0 (ev_move rfl) rfl rfl rfl ?_
            refine XO_v0 (ev_move rfl) rfl rfl rfl ?_
            refine XO_v0 (ev_sliceLo rfl rfl slt_22 (fun hg => by first | omega | (simp [conj] at hg; omega))) rfl rfl rfl ?_
            refine XO_append (v := v2) (ys := (xs.drop k).flatMap encL) (L := L2) rfl rfl elt_22 hO2 (by repeat (first | exact .cons .here .nil | exact split_all | exact split_app | apply split_cons | apply split_skip)) ((hS.drop hk).src encL_len) (one_L _) (by omega) rfl rfl ?_
            intro v3 L3 hO3 _
            refine XO_v0 (ev_assign rfl) rfl rfl rfl ?_
            refine XO_v0 (ev_assign rfl) rfl rfl rfl ?_
            refine XO_nil ?_
            refine X_freezeO (xs := xs.take k ++ x :: xs.drop k) (by simpa [List.flatMap_append] using hO3) encL_len (by decide) (by repeat (first | exact .cons .here .nil | exact split_all | exact split_app | apply split_cons | apply split_skip)) (fun I2 hI2 af2 cf2 ef2 hR => ?_)
            subst ef2
            have hS := hS.mono hI2
            have hIc := hIc.trans hI2
            refine at_then ?_
            refine X_ret ?_
            first
            | exact at_ret2 rfl rfl rfl (fun w hw => ⟨_, I2, [], rfl, hIc, hw.drop, bad_add (addE_chk (by simpa using hc12)) (by simpa using hc12)⟩)
            | exact at_ret2 rfl rfl rfl (fun w hw => ⟨_, I2, [], rfl, hIc, hw.drop, bad_add (addE_right (by simpa using hc12) (by simpa using hc16)) (by decide)⟩)
            | exact at_ret2 rfl rfl rfl (fun w hw => ⟨_, I2, [], rfl, hIc, hw.drop, bad_add (addE_twice (by simpa using hc12) hrt hany) (by decide)⟩)
            | exact at_ret2 rfl rfl rfl (fun w hw => ⟨_, I2, [], rfl, hIc, hw.drop, bad_add (addE_full (by simpa using hc12) hrt hany (by rw [hS.len]; simp at hc49; omega)) (by decide)⟩)
            | exact at_ret2 rfl rfl rfl (fun w hw => ⟨_, I2, [], rfl, hIc, hw.drop, .good (addE_ok (by simpa using hc12) hrt hany (by rw [hS.len]; simp at hc49; omega)) (by unfold addF; rw [resF_ok (addE_ok (by simpa using hc12) hrt hany (by rw [hS.len]; simp at hc49; omega)), ins_at hall (by rw [hS.len]; exact hk) hno]) hR⟩)
end Go.Proofs.Ytgfggmmffmfolaa
