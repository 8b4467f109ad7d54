/- topCourse_holds, part G of the proof: what its theorems say holds without further conditions. -/
import Derived.KernelRfl
import Derived.ProofKit
import Derived.Deep.Slices
import Derived.Test.YtclkmnidgdkekaaGreatRows
import Derived.Test.YtclkmnidgdkekaaGreatTCF
section
namespace Go.Proofs.YtclkmnidgdkekaaGreat.L
open Go Go.Kn Go.Proofs
theorem low_take (xs : List Ls) (no : Int) : xs.take (lowI xs no) = xs.takeWhile (fun y => decide (y.no < no)) ∧ xs.drop (lowI xs no) = xs.dropWhile (fun y => decide (y.no < no)) := by
 have h := List.takeWhile_append_dropWhile (p := fun y : Ls => decide (y.no < no)) (l := xs)
 unfold lowI
 constructor
 ·
  have h2 := List.take_left' (l₁ := xs.takeWhile fun y => decide (y.no < no)) (l₂ := xs.dropWhile fun y => decide (y.no < no)) rfl
  rw [h] at h2; exact h2
 have h2 := List.drop_left' (l₁ := xs.takeWhile fun y => decide (y.no < no)) (l₂ := xs.dropWhile fun y => decide (y.no < no)) rfl
 rw [h] at h2; exact h2
theorem low_le (xs : List Ls) (no : Int) : lowI xs no ≤ xs.length := by
 have := (low_take xs no).1
 unfold lowI
 exact (List.takeWhile_sublist _).length_le
theorem w_Cast {I : HMap} {av : Option Addr} {n c : Nat} {xs : List Ls} (hS : Sl I 5 encL av n c xs) (hn : n ≤ 100000) (version day time : Int) : RetM Tryz.prog 16 [.slice av n c, .int .i64 version, .int .i64 day, .int .i64 time] I [] (SlE 1 encI (resF (castE (chk xs) version day time) (castF xs version day time)) (castE (chk xs) version day time)) := by
 intro g H w hw
 refine enter Tryz.func16 rfl Tryz.ntmps16 rfl hw ?_
 have hIc := HLe.refl I
 refine zR ?_
 refine zA ?_
 refine zA ?_
 refine zN ?_
 refine X_seq ?_
 refine zR ?_
 refine zM ?_
 refine XO_callV0 (cap := []) (vs := [_]) rfl rfl fun_18 (w_check hS hn) rfl rfl ?_
 refine zA ?_
 refine zN (zR ?_)
 refine zM ?_
 refine zC ?_
 refine zN ?_
 refine zI ?_ ?_ <;> intro hc16
 ·
  refine zR ?_
  refine zM ?_
  refine zA ?_
  refine zA ?_
  refine zN ?_
  refine X_ret ?_
  refine at_then_r ?_
  first
  | exact at_ret2 rfl rfl rfl (fun w hw => ⟨_, I, [], rfl, hIc, hw.drop, .bad (castE_chk (by simpa using hc16)) (resF_bad (by rw [castE_chk (by simpa using hc16)]; simpa using hc16))⟩)
 refine X_skip ?_
 refine at_then ?_
 refine X_seq ?_
 refine zR ?_
 refine zM ?_
 refine XO_callV0 (cap := []) (vs := [_, _, _]) rfl rfl fun_19 (w_within I _ _ _) rfl rfl ?_
 refine zO ?_
 refine zM ?_
 refine XO_pushF 3 rfl rfl rfl ?_
 refine zJ (ev_move rfl) ?_
 refine zJ (ev_move rfl) ?_
 refine XO_callV1 (cap := []) (vs := [_, _]) rfl rfl fun_20 (fun hg => w_then I _ _) (.some rfl rfl rfl rfl gbf) rfl rfl ?_
 refine zJ (ev_not rfl) ?_
 refine XO_or0 rfl rfl rfl rfl rfl ?_
 refine zN ?_
 refine zI ?_ ?_ <;> intro hc26
 ·
  refine zR ?_
  refine zA ?_
  refine zA ?_
  refine zN ?_
  refine X_ret ?_
  refine at_then_r ?_
  first
  | exact at_ret2 rfl rfl rfl (fun w hw => ⟨_, I, [], rfl, hIc, hw.drop, .bad (castE_arg (by simpa using hc16) hc26) (resF_bad (by rw [castE_arg (by simpa using hc16) hc26]; decide))⟩)
 refine X_skip ?_
 refine at_then ?_
 refine X_cutT [] .nil (fun T L0 E I' loc' => ∃ (zs : List Int) (v : Value) (q : Nat) (L : Go.Kn.Loc), E = (8, v) :: T ∧ HLe I I' ∧ L = loc' ∧ OwnS 3 1 v q (zs.map (Value.int .i64)) L ∧ zs.Perm (pickL version (versM (xs.filter (knownP day time)))) ∧ q ≤ 100000) ?_ ?_
 ·
  have hK0 := HLe.refl I
  refine zR ?_
  refine zM ?_
  refine zM ?_
  refine zM ?_
  refine XO_callM (cap := []) (vs := [_, _, _]) rfl rfl fun_21 .nil (w_versions hS hn _ _) rfl rfl ?_
  rintro vv1 I1 L1 hI1 ⟨rfl, r, rfl, hr⟩
  have hS := hS.mono hI1; have hIc := hIc.trans hI1; have hK0 := hK0.trans hI1
  obtain ⟨mp, hmp⟩ : ∃ mp, mp = versM (xs.filter (knownP day time)) := ⟨_, rfl⟩
  rw [← hmp] at hr
  have hml : mp.length ≤ 100000 := by rw [hmp]; exact Nat.le_trans (versM_len _) (Nat.le_trans (List.length_filter_le ..) (by rw [hS.len]; exact hn))
  refine XO_range (ek := Value.int .i64) (ev := encA) (m := mp) rfl mpt_71 rfl rfl (.inl hr) (fun b_31 => ?_)
  refine zN ?_
  refine X_block ?_
  refine X_loopT [(1, _), (31, _)] (.cons rfl (.cons rfl .nil)) (fun T L0 mz E I' loc' => ∃ (seen : List Nat) (v : Value) (q : Nat) (L : Go.Kn.Loc), mz = mp.length - seen.length ∧ E = (8, v) :: T ∧ I1 = I' ∧ L ++ [(b_31, iterO r mp.length seen)] = loc' ∧ OwnS 3 1 v q ((pickS mp version seen).flatMap encI) L ∧ q ≤ seen.length ∧ seen.Nodup ∧ ∀ i ∈ seen, i < mp.length) _ _ _ _ ⟨[], _, 0, [], rfl, rfl, rfl, rfl, OwnS.nil, Nat.le_refl _, .nil, fun i h => by cases h⟩ (.cons rfl (.cons rfl (.cons rfl .nil))) (HLe.refl _) rfl ?_
  rintro mz E I' loc' ⟨seen, v, q, L, rfl, rfl, rfl, rfl, hO, hq, hnd, hlt⟩
  have hsl := seen_lt hnd hlt
  refine zR ?_
  refine XO_next2 (ek := Value.int .i64) (ev := encA) (m := mp) (fun s => L ++ [(b_31, iterO r mp.length s)]) rfl (fun s => upd_app .here) rfl rfl rfl rfl rfl (.inl hr) (by simp) ?_
  intro t tv s' hno hyes
  refine zN ?_
  refine X_seq ?_
  refine zI ?_ ?_ <;> intro hc33
  ·
   obtain ⟨i, p, hp, hns, rfl⟩ := hyes hc33
   refine X_skip ?_
   refine at_then ?_
   refine X_block ?_
   refine zR ?_
   refine zV (ev_entry (ek := Value.int .i64) (ev := encA) (m := mp) (p := p) (seen := seen) (i := i) rfl (.inl hr) (.inr (by simp)) hp) ?_
   refine zE ?_
   refine zE ?_
   refine XO_alloc zt_70 rfl rfl (fun b_12 => ?_)
   refine zA ?_
   refine XO_storeA rfl rfl szt_70 rfl rfl rfl rfl (by repeat (first | exact Upd.here | apply Upd.there | apply upd_app)) ?_
   refine zN (zR ?_)
   refine zF fld_70_2 ?_
   refine zL sct_3 ?_
   refine zM ?_
   refine zC ?_
   refine zN ?_
   refine zI ?_ ?_ <;> intro hc40
   ·
    refine X_region ?_
    refine zM ?_
    refine zM ?_
    refine XO_buildSlice (ps := [(0, _)]) (m := [encI p.1]) elt_24 rfl (.cons rfl (.nil)) rfl (by simp [encI_len]) (by decide) (by decide) rfl rfl (fun b_43 => ?_)
    refine XO_append (v := v) (ys := [encI p.1].flatten) (L := L) rfl rfl elt_24 hO (split_mid (A := [_, _]) (B := [_])) ⟨rfl, fun _ => rfl, Cells.here⟩ rfl (by omega) rfl rfl ?_
    intro v' L' hO' _
    refine zA ?_
    refine XO_nil ?_
    refine at_block_n ?_
    have hnd2 : (seen ++ [i]).Nodup := List.nodup_append.2 ⟨hnd, by simp, fun a ha b hb e => hns (by simp at hb; subst hb; subst e; exact ha)⟩
    have hlt2 : ∀ j ∈ seen ++ [i], j < mp.length := fun j hj => (List.mem_append.1 hj).elim (hlt j) (fun h => by simp at h; subst h; exact (List.getElem?_eq_some_iff.1 hp).1)
    have hsl2 := seen_lt hnd2 hlt2
    rw [List.length_append, List.length_singleton] at hsl2
    first
    | exact at_met2 _ _ ⟨_, by rw [List.length_append, List.length_singleton]; omega, seen ++ [i], v', q + 1, L', rfl, rfl, rfl, rfl, by rw [pickS_yes hp hc40, List.flatMap_append]; simpa using hO', by rw [List.length_append, List.length_singleton]; omega, hnd2, hlt2⟩ (.cons rfl (.cons rfl (.cons rfl .nil))) (subL_app (.drop (.drop .refl)))
   refine X_skip ?_
   refine at_block_n ?_
   have hnd2 : (seen ++ [i]).Nodup := List.nodup_append.2 ⟨hnd, by simp, fun a ha b hb e => hns (by simp at hb; subst hb; subst e; exact ha)⟩
   have hlt2 : ∀ j ∈ seen ++ [i], j < mp.length := fun j hj => (List.mem_append.1 hj).elim (hlt j) (fun h => by simp at h; subst h; exact (List.getElem?_eq_some_iff.1 hp).1)
   have hsl2 := seen_lt hnd2 hlt2
   rw [List.length_append, List.length_singleton] at hsl2
   first
   | exact at_met2 _ _ ⟨_, by rw [List.length_append, List.length_singleton]; omega, seen ++ [i], v, q, L, rfl, rfl, rfl, rfl, by rw [pickS_no hp hc40]; exact hO, by rw [List.length_append, List.length_singleton]; omega, hnd2, hlt2⟩ (.cons rfl (.cons rfl (.cons rfl .nil))) (.drop .refl)
  obtain ⟨rfl, hall⟩ := hno hc33
  refine X_exit ?_
  refine at_then_e ?_
  refine at_then_e ?_
  refine at_block_hit ?_
  exact at_met2 _ _ ⟨_, v, q, L, rfl, hK0, rfl, by rw [← flat_int]; exact hO, by rw [← hmp]; exact pickS_perm (seen_perm hnd hlt hall), by omega⟩ (.cons rfl .nil) subL_left
 rintro E J3 loc' ⟨zs, v, q, L, rfl, hJ, rfl, hO, hperm, hq⟩
 have hS := hS.mono hJ; have hIc := hIc.trans hJ
 refine zR ?_
 refine zM ?_
 refine XO_callM (cap := []) (vs := [_]) rfl rfl fun_31 split_all (w_sort 3 zs hO (by omega) _) rfl rfl ?_
 rintro vv4 I4 L4 hI4 ⟨rfl, hIe, hO⟩
 have hS := hS.mono hI4; have hIc := hIc.trans hI4
 rw [List.append_nil]
 refine zN ?_
 refine X_seq ?_
 refine X_freezeO (xs := sortI zs) (by rw [flat_int]; exact hO) encI_len (by decide) split_all (fun I5 hI5 af5 cf5 ef5 hR => ?_)
 subst ef5
 have hS := hS.mono hI5; have hIc := hIc.trans hI5
 refine X_region ?_
 refine zM ?_
 refine zA ?_
 refine zA ?_
 refine zN ?_
 refine X_ret ?_
 first
 | exact at_ret2 rfl rfl rfl (fun w hw => ⟨_, I5, [], rfl, hIc, hw.drop, .good (castE_ok (by simpa using hc16) hc26) (by rw [resF_ok (castE_ok (by simpa using hc16) hc26), ← cast_eq (chk_ok (by simpa using hc16)).2 (by have h := hc26; simp [within] at h; omega), sort_perm hperm]) hR⟩)
theorem w_Add {I : HMap} {av : Option Addr} {n c : Nat} {xs : List Ls} (hS : Sl I 5 encL av n c xs) (hn : n ≤ 100000) (x : Ls) : RetM Tryz.prog 15 [.slice av n c, encA x] I [] (SlE 5 encL (addF xs x) (addE xs x)) := by
 intro g H w hw
 refine enter Tryz.func15 rfl Tryz.ntmps15 rfl hw ?_
 have hIc := HLe.refl I
 refine zR ?_
 refine XO_box rfl rfl rfl (fun b_3 => ?_)
 refine zA ?_
 refine zA ?_
 refine zN ?_
 refine X_seq ?_
 refine zR ?_
 refine zM ?_
 refine XO_callV0 (cap := []) (vs := [_]) rfl rfl fun_18 (w_check hS hn) rfl rfl ?_
 refine zA ?_
 refine zN (zR ?_)
 refine zM ?_
 refine zC ?_
 refine zN ?_
 refine zI ?_ ?_ <;> intro hc12
 ·
  refine zR ?_
  refine zM ?_
  refine zA ?_
  refine zA ?_
  refine zN ?_
  refine X_ret ?_
  refine at_then_r ?_
  exact at_ret2 rfl rfl rfl (fun w hw => ⟨_, I, [], rfl, hIc, hw.drop, bad_add (addE_chk (by simpa using hc12)) (by simpa using hc12)⟩)
 refine X_skip ?_
 refine at_then ?_
 refine X_seq ?_
 refine zR ?_
 refine zV (ev_loadA rfl agt_55 (fun hg => by first | (repeat (first | exact Cells.here | exact Cells.s0 (vs := [_, _, _, _, _]) rfl | apply Cells.there | apply Cells.app))) rfl) ?_
 refine XO_callV0 (cap := []) (vs := [_]) rfl rfl fun_45 (w_right I _) rfl rfl ?_
 refine zO ?_
 refine zN ?_
 refine zI ?_ ?_ <;> intro hc16
 ·
  refine zR ?_
  refine zA ?_
  refine zA ?_
  refine zN ?_
  refine X_ret ?_
  refine at_then_r ?_
  exact at_ret2 rfl rfl rfl (fun w hw => ⟨_, I, [], rfl, hIc, hw.drop, bad_add (addE_right (by simpa using hc12) (by simpa using hc16)) (by decide)⟩)
 have hrt : rightF x = true := by simpa using hc16
 refine X_skip ?_
 refine at_then ?_
 refine zR ?_
 refine zM ?_
 refine zF fld_55_0 ?_
 refine zL sct_3 ?_
 refine XO_callV0 (cap := []) (vs := [_, _, _]) rfl rfl fun_46 (w_search hS hn (chk_ok (by simpa using hc12)).2 _) rfl rfl ?_
 refine zM ?_
 refine zE ?_
 refine zE ?_
 refine zA ?_
 refine zA ?_
 refine zN ?_
 refine X_seq ?_
 refine zR ?_
 refine zM ?_
 refine zN ?_
 refine zI ?_ ?_ <;> intro hc24
 ·
  refine zR ?_
  refine zA ?_
  refine zA ?_
  refine zN ?_
  refine X_ret ?_
  refine at_then_r ?_
  exact at_ret2 rfl rfl rfl (fun w hw => ⟨_, I, [], rfl, hIc, hw.drop, bad_add (addE_twice (by simpa using hc12) hrt hc24) (by decide)⟩)
 refine X_skip ?_
 refine at_then ?_
 refine X_seq ?_
 refine zR ?_
 refine zM ?_
 refine zQ slt_25 ?_
 refine zC ?_
 refine zN ?_
 refine zI ?_ ?_ <;> intro hc27
 ·
  refine zR ?_
  refine zA ?_
  refine zA ?_
  refine zN ?_
  refine X_ret ?_
  refine at_then_r ?_
  first
  | exact at_ret2 rfl rfl rfl (fun w hw => ⟨_, I, [], rfl, hIc, hw.drop, bad_add (addE_full (by simpa using hc12) hrt hc24 (by rw [hS.len]; simp at hc27; omega)) (by decide)⟩)
 refine X_skip ?_
 refine at_then ?_
 refine X_cutT [] .nil (fun T L0 E I' loc' => ∃ (v : Value) (L : Go.Kn.Loc), E = (4, v) :: (5, .int .i64 0) :: T ∧ HLe I I' ∧ L ++ L0 = loc' ∧ OwnS 55 5 v (n + 1) ((insF xs x).flatMap encL) L) ?_ ?_
 ·
  have hKc11 := HLe.refl I
  have hD := HLe.refl I
  refine X_drawC mixed ?_
  refine zT 0 rfl (ev_move rfl) hD ?_
  refine zT 2 rfl (ev_move rfl) hD ?_
  refine zT 3 rfl (ev_loadA rfl agt_55 (fun hg => by first | (repeat (first | exact Cells.here | exact Cells.s0 (vs := [_, _, _, _, _]) rfl | apply Cells.there | apply Cells.app))) rfl) hD ?_
  refine XD_two 1 4 rfl rfl (by kernel_rfl) ?_ ?_
  ·
   refine XO_callM (cap := []) (vs := [_]) rfl rfl fun_50 .nil (w_cloneL hS hn) rfl rfl ?_
   rintro vv1 I1 L1 hI1 ⟨hIe, hO⟩
   have hS := hS.mono hI1; have hIc := hIc.trans hI1; have hKc11 := hKc11.trans hI1; have hD := hD.trans hI1
   refine XO_nil ?_
   refine zD hD ?_
   refine XD_one 4 rfl (by kernel_rfl) ?_
   refine XO_buildSlice (ps := [(0, _)]) (m := [encL x]) elt_25 rfl (.cons rfl (.nil)) rfl (by simp [encL_len]) (by decide) (by decide) rfl rfl (fun b_32 => ?_)
   refine XO_nil ?_
   refine zD hD ?_
   refine XD_one 5 rfl (by kernel_rfl) ?_
   refine XO_callM (cap := []) (vs := [_, _, _]) rfl rfl fun_49 (by exact split_snoc1) (w_insert hO hn hS.len (by rw [← hS.len]; exact low_le xs x.no) b_32 x) rfl rfl ?_
   rintro vv2 I2 L2 hI2 ⟨hIe2, hO2⟩
   have hS := hS.mono hI2; have hIc := hIc.trans hI2; have hKc11 := hKc11.trans hI2; have hD := hD.trans hI2
   refine XO_nil ?_
   refine zD hD ?_
   refine zT 6 rfl (ev_assign rfl) hD ?_
   refine zT 7 rfl (ev_assign rfl) hD ?_
   refine XD_done (by kernel_rfl) ?_
   refine at_noP ?_
   exact at_met2 _ _ ⟨_, _, rfl, hKc11, rfl, by unfold insF; rw [← (low_take xs x.no).1, ← (low_take xs x.no).2]; exact hO2⟩ (.cons rfl (.cons rfl .nil)) (by repeat (first | exact .refl | exact subL_left | refine subL_app ?_ | refine .drop ?_ | refine subL_add ?_))
  refine XO_buildSlice (ps := [(0, _)]) (m := [encL x]) elt_25 rfl (.cons rfl (.nil)) rfl (by simp [encL_len]) (by decide) (by decide) rfl rfl (fun b_32 => ?_)
  refine XO_nil ?_
  refine zD hD ?_
  refine XD_one 1 rfl (by kernel_rfl) ?_
  refine XO_callM (cap := []) (vs := [_]) rfl rfl fun_50 .nil (w_cloneL hS hn) rfl rfl ?_
  rintro vv3 I3 L3 hI3 ⟨hIe, hO⟩
  have hS := hS.mono hI3; have hIc := hIc.trans hI3; have hKc11 := hKc11.trans hI3; have hD := hD.trans hI3
  refine XO_nil ?_
  refine zD hD ?_
  refine XD_one 5 rfl (by kernel_rfl) ?_
  refine XO_callM (cap := []) (vs := [_, _, _]) rfl rfl fun_49 (by exact split_snoc2) (w_insert hO hn hS.len (by rw [← hS.len]; exact low_le xs x.no) b_32 x) rfl rfl ?_
  rintro vv4 I4 L4 hI4 ⟨hIe2, hO2⟩
  have hS := hS.mono hI4; have hIc := hIc.trans hI4; have hKc11 := hKc11.trans hI4; have hD := hD.trans hI4
  refine XO_nil ?_
  refine zD hD ?_
  refine zT 6 rfl (ev_assign rfl) hD ?_
  refine zT 7 rfl (ev_assign rfl) hD ?_
  refine XD_done (by kernel_rfl) ?_
  refine at_noP ?_
  exact at_met2 _ _ ⟨_, _, rfl, hKc11, rfl, by unfold insF; rw [← (low_take xs x.no).1, ← (low_take xs x.no).2]; exact hO2⟩ (.cons rfl (.cons rfl .nil)) (by repeat (first | exact .refl | exact subL_left | refine subL_app ?_ | refine .drop ?_ | refine subL_add ?_))
 rintro E J5 loc' ⟨v2, L2, rfl, hJ, rfl, hO2⟩
 have hS := hS.mono hJ; have hIc := hIc.trans hJ
 refine X_freezeO hO2 encL_len (by decide) split_app (fun I6 hI6 af6 cf6 ef6 hR => ?_)
 subst ef6
 have hS := hS.mono hI6; have hIc := hIc.trans hI6
 refine X_ret ?_
 first
 | exact at_ret2 rfl rfl rfl (fun w hw => ⟨_, I6, [], rfl, hIc, hw.drop, .good (addE_ok (by simpa using hc12) hrt hc24 (by rw [hS.len]; simp at hc27; omega)) (by unfold addF; rw [resF_ok (addE_ok (by simpa using hc12) hrt hc24 (by rw [hS.len]; simp at hc27; omega))]) hR⟩)
end Go.Proofs.YtclkmnidgdkekaaGreat.L
end
section
namespace Go.Proofs.YtclkmnidgdkekaaGreat.L
open Go Go.Kn Go.Proofs
theorem big_iff {hs : List Hd} {vss : List (List Int)} {I : HMap} {av : Option Addr} {n c : Nat} (h : SlH I av n c hs vss) : hs.any (fun h : Hd => decide ((h.n : Int) > 512)) = vss.any (fun v => decide (v.length > 512)) := by
 rw [Bool.eq_iff_iff, List.any_eq_true, List.any_eq_true]
 have key : ∀ (k : Nat) (hd : Hd) (v : List Int), hs[k]? = some hd → vss[k]? = some v → v.length = hd.n := fun k hd v a b => (h.2.2 k hd v a b).len
 constructor
 ·
  rintro ⟨hd, hm, hb⟩
  obtain ⟨k, hk⟩ := List.getElem?_of_mem hm
  have hl := (List.getElem?_eq_some_iff.1 hk).1
  have hv : vss[k]? = some (vss[k]'(by rw [← h.2.1]; exact hl)) := List.getElem?_eq_getElem _
  refine ⟨_, List.mem_of_getElem? hv, ?_⟩
  rw [key k _ _ hk hv]
  simp at hb ⊢; omega
 rintro ⟨v, hm, hb⟩
 obtain ⟨k, hk⟩ := List.getElem?_of_mem hm
 have hl := (List.getElem?_eq_some_iff.1 hk).1
 have hv : hs[k]? = some (hs[k]'(by rw [h.2.1]; exact hl)) := List.getElem?_eq_getElem _
 refine ⟨_, List.mem_of_getElem? hv, ?_⟩
 rw [key k _ _ hv hk] at hb
 simp at hb ⊢; omega
theorem any_snoc2 {vss : List (List Int)} {ts : List Int} {p : List Int → Bool} : (vss ++ [ts]).any p = (vss.any p || p ts) := by rw [List.any_append]; simp
theorem form_bad {vss : List (List Int)} {ts v : List Int} (hm : v ∈ vss ++ [ts]) (h : verB v = false) : (verB ts && vss.all verB) = false := by
 rcases List.mem_append.1 hm with hm | hm
 ·
  have : vss.all verB = false := by
   cases e : vss.all verB with
   | false => rfl
   | true => rw [List.all_eq_true] at e; rw [e v hm] at h; cases h
  rw [this, Bool.and_false]
 rw [List.mem_singleton] at hm; subst hm; rw [h, Bool.false_and]
theorem vP_at {v : List Int} {j : Nat} {x : Int} (hx : v[j]? = some x) {b : Bool} (hc : (!within x 1 1048576 || (decide ((j : Int) > 0) && decide (x ≤ v.getD ((j : Int) - 1).toNat 0))) = b) : vP v j = !b := by
 unfold vP; rw [getD_of hx, hc]
theorem w_Gap {I : HMap} {av : Option Addr} {n c : Nat} {xs : List Ls} (hS : Sl I 5 encL av n c xs) (hn : n ≤ 100000) {bv : Option Addr} {n2 c2 : Nat} {vss : List (List Int)} (hV : SlN I bv n2 c2 vss) (hn2 : n2 ≤ 90000) (person day time : Int) {dv : Option Addr} {n3 c3 : Nat} {ts : List Int} (hT : Sl I 1 encI dv n3 c3 ts) : RetM Tryz.prog 9 [.slice av n c, .slice bv n2 c2, .int .i64 person, .int .i64 day, .int .i64 time, .slice dv n3 c3] I [] (GpE (gapE xs vss person day time ts) (resF (gapE xs vss person day time ts) (lessF ts (ownF xs vss person day time))) (resF (gapE xs vss person day time ts) (lessF (ownF xs vss person day time) ts))) := by
 intro g H w hw
 refine enter Tryz.func9 rfl Tryz.ntmps9 rfl hw ?_
 have hIc := HLe.refl I
 obtain ⟨hs, hV⟩ := hV
 have hlV := hV.len; have hlT := hT.len
 refine zR ?_
 refine zA ?_
 refine zA ?_
 refine zA ?_
 refine zN ?_
 refine X_seq ?_
 refine zR ?_
 refine zM ?_
 refine XO_callV0 (cap := []) (vs := [_]) rfl rfl fun_18 (w_check hS hn) rfl rfl ?_
 refine zA ?_
 refine zN (zR ?_)
 refine zM ?_
 refine zC ?_
 refine zN ?_
 refine zI ?_ ?_ <;> intro hc27
 ·
  refine zR ?_
  refine zM ?_
  refine zA ?_
  refine zA ?_
  refine zA ?_
  refine zN ?_
  refine X_ret ?_
  refine at_then_r ?_
  exact at_ret3 rfl rfl rfl rfl (fun w hw => ⟨_, I, [], rfl, hIc, hw.drop, gp_bad (gapE_chk (by simpa using hc27)) (by simpa using hc27)⟩)
 have hck : chk xs = 0 := by simpa using hc27
 refine X_skip ?_
 refine at_then ?_
 refine zR ?_
 refine zM ?_
 refine XO_callM (cap := []) (vs := [_]) rfl rfl fun_32 .nil (w_cloneH hV.1 (by omega)) rfl rfl ?_
 rintro vv1 I1 L1 hI1 ⟨hIe, hO⟩
 have hS := hS.mono hI1; have hV := hV.mono hI1; have hT := hT.mono hI1; have hIc := hIc.trans hI1
 refine zM ?_
 refine XO_buildSlice (ps := [(0, _)]) (m := [encH (⟨dv, n3, c3⟩ : Hd)]) elt_23 rfl (.cons rfl (.nil)) rfl (by simp [encH_len]) (by decide) (by decide) rfl rfl (fun b_32 => ?_)
 refine XO_append (v := _) (ys := [encH (⟨dv, n3, c3⟩ : Hd)].flatten) (L := _) rfl rfl elt_23 hO (by repeat (first | exact .cons .here .nil | exact split_all | exact split_app | apply split_cons | apply split_skip)) ⟨rfl, fun _ => rfl, Cells.here⟩ rfl (by omega) rfl rfl ?_
 intro v2 L2 hO2 _
 refine zA ?_
 refine zN ?_
 refine X_seq ?_
 refine X_seq ?_
 refine X_freezeO (xs := hs ++ [(⟨dv, n3, c3⟩ : Hd)]) (by rw [List.flatMap_append]; exact hO2) encH_len (by decide) (by repeat (first | exact .cons .here .nil | exact split_all | exact split_app | apply split_cons | apply split_skip)) (fun I2 hI2 af2 cf2 ef2 hAll => ?_)
 subst ef2
 have hS := hS.mono hI2; have hV := hV.mono hI2; have hT := hT.mono hI2; have hIc := hIc.trans hI2
 have hW := hV.snoc (hd := (⟨dv, n3, c3⟩ : Hd)) hAll hT
 refine X_region ?_
 refine zM ?_
 refine zQ slt_23 ?_
 refine zC ?_
 refine zM ?_
 refine XO_pushF 3 rfl rfl rfl ?_
 refine zJ (ev_move rfl) ?_
 refine XO_callV1 (cap := []) (vs := [_, _]) rfl rfl fun_33 (fun hg => w_containsF hW.1 (show n2 + 1 ≤ 100000 by omega)) (.some rfl rfl rfl rfl gbf) rfl rfl ?_
 refine XO_or0 rfl rfl rfl rfl rfl ?_
 refine zN ?_
 refine zI ?_ ?_ <;> intro hc40
 ·
  have hbig : (vss.length > 512 ∨ ts.length > 512) ∨ vss.any (fun v => decide (v.length > 512)) = true := by rw [big_iff hW, any_snoc2] at hc40; simp only [Bool.or_eq_true, decide_eq_true_eq] at hc40; rcases hc40 with h | h | h; exact .inl (.inl (by omega)); exact .inr h; exact .inl (.inr h)
  refine zR ?_
  refine zA ?_
  refine zA ?_
  refine zA ?_
  refine zN ?_
  refine X_ret ?_
  refine at_then_r ?_
  exact at_ret3 rfl rfl rfl rfl (fun w hw => ⟨_, I2, [], rfl, hIc, hw.drop, gp_bad (gapE_many hck hbig) (by decide)⟩)
 have hno : ¬ ((vss.length > 512 ∨ ts.length > 512) ∨ vss.any (fun v => decide (v.length > 512)) = true) := by rw [big_iff hW, any_snoc2] at hc40; simp only [Bool.or_eq_false_iff, decide_eq_false_iff_not] at hc40; rw [hc40.2.1]; have := hc40.1; have := hc40.2.2; simp; omega
 have hnb : (vss ++ [ts]).any (fun v => decide (v.length > 512)) = false := by rw [big_iff hW] at hc40; simp only [Bool.or_eq_false_iff] at hc40; exact hc40.2
 have hs2 : n2 ≤ 512 := by rw [← hlV]; omega
 have hs3 : n3 ≤ 512 := by rw [← hlT]; omega
 refine X_skip ?_
 refine at_then ?_
 refine X_seq ?_
 refine zR ?_
 refine zM ?_
 refine zQ slt_23 ?_
 refine zM ?_
 refine zN ?_
 refine X_block ?_
 refine X_loopT [(0, _), (1, _), (2, _), (3, _), (4, _), (5, _), (41, _), (42, _)] (.cons rfl (.cons rfl (.cons rfl (.cons rfl (.cons rfl (.cons rfl (.cons rfl (.cons rfl .nil)))))))) (fun T L0 mz E I' loc' => ∃ (k : Nat), mz = (n2 + 1) - k ∧ E = (43, .int .i64 k) :: T ∧ I2 = I' ∧ L0 = loc' ∧ k ≤ (n2 + 1) ∧ ((vss ++ [ts]).take k).all verB = true) _ _ _ _ ⟨0, rfl, rfl, rfl, rfl, Nat.zero_le _, rfl⟩ (.cons rfl (.cons rfl (.cons rfl (.cons rfl (.cons rfl (.cons rfl (.cons rfl (.cons rfl (.cons rfl .nil))))))))) (HLe.refl _) rfl ?_
 rintro mz E I' loc' ⟨k, rfl, rfl, rfl, rfl, hk, hall⟩
 refine zR ?_
 refine zC ?_
 refine zN ?_
 refine X_seq ?_
 refine zI ?_ ?_ <;> intro hc44
 ·
  have hlt_k : k < (n2 + 1) := by have h := hc44; simp at h; omega
  obtain ⟨hd, v, hh, hv, hQ⟩ := hW.at (k := k) (by omega)
  have hvl : v.length ≤ 512 := by have := List.any_eq_false.1 hnb v (List.mem_of_getElem? hv); simp at this; omega
  have hql := hQ.len
  refine X_skip ?_
  refine at_then ?_
  refine X_seq ?_
  refine X_block ?_
  refine zR ?_
  refine zV (ev_indexSl rfl rfl slt_23 hW.1 (fun hg => by omega)) ?_
  refine zV (ev_load rfl sct_24 (fun hg => by exact Sl.get0 hW.1 hh rfl)) ?_
  refine zA ?_
  refine zN (zR ?_)
  refine zM ?_
  refine zQ slt_24 ?_
  refine zM ?_
  refine zN ?_
  refine X_block ?_
  refine X_loopT [(0, _), (1, _), (2, _), (3, _), (4, _), (5, _), (18, _), (41, _), (42, _), (43, _), (47, _), (48, _)] (.cons rfl (.cons rfl (.cons rfl (.cons rfl (.cons rfl (.cons rfl (.cons rfl (.cons rfl (.cons rfl (.cons rfl (.cons rfl (.cons rfl .nil)))))))))))) (fun T L0 mz E I' loc' => ∃ (j : Nat), mz = hd.n - j ∧ E = (49, .int .i64 j) :: T ∧ I2 = I' ∧ L0 = loc' ∧ j ≤ hd.n ∧ (List.range j).all (vP v) = true) _ _ _ _ ⟨0, rfl, rfl, rfl, rfl, Nat.zero_le _, rfl⟩ (.cons rfl (.cons rfl (.cons rfl (.cons rfl (.cons rfl (.cons rfl (.cons rfl (.cons rfl (.cons rfl (.cons rfl (.cons rfl (.cons rfl (.cons rfl .nil))))))))))))) (HLe.refl _) rfl ?_
  rintro mz E I' loc' ⟨j, rfl, rfl, rfl, rfl, hj, hin⟩
  refine zR ?_
  refine zC ?_
  refine zN ?_
  refine X_seq ?_
  refine zI ?_ ?_ <;> intro hc50
  ·
   have hlt_j : j < hd.n := by have h := hc50; simp at h; omega
   obtain ⟨x, hx⟩ := hQ.at hlt_j
   refine X_skip ?_
   refine at_then ?_
   refine X_seq ?_
   refine X_block ?_
   refine zR ?_
   refine zM ?_
   refine zV (ev_indexSl rfl rfl slt_24 (by assumption) (fun hg => by omega)) ?_
   refine zV (ev_load rfl sct_3 (fun hg => by exact Sl.get0 hQ hx rfl)) ?_
   refine zA ?_
   refine zA ?_
   refine zN (zR ?_)
   refine zM ?_
   refine XO_callV0 (cap := []) (vs := [_, _, _]) rfl rfl fun_19 (w_within _ _ _ _) rfl rfl ?_
   refine zO ?_
   refine zM ?_
   refine XO_pushF 3 rfl rfl rfl ?_
   refine zJ (ev_move rfl) ?_
   refine zJ (ev_cmp rfl rfl rfl) ?_
   refine zJ (ev_move rfl) ?_
   refine XO_pushT 6 rfl rfl rfl ?_
   refine zK (ev_move rfl) ?_
   refine zK (ev_move rfl) ?_
   refine zK (ev_move rfl) ?_
   refine zK (ev_arB rfl rfl rfl (fun _ => by omega)) ?_
   refine zK (ev_indexSl rfl rfl slt_24 (by assumption) (fun hg => by (simp [conj] at hg; omega))) ?_
   refine zK (ev_load rfl sct_3 (fun hg => by exact Sl.getD0 (k := ((j : Int) - 1).toNat) (d := 0) hQ (by simp [conj] at hg; omega) rfl)) ?_
   refine zK (ev_cmp rfl rfl rfl) ?_
   refine XO_and1 rfl rfl rfl (.some rfl rfl rfl rfl gbf) rfl rfl ?_
   refine XO_or0 rfl rfl rfl rfl rfl ?_
   refine zN ?_
   refine zI ?_ ?_ <;> intro hc69
   ·
    have hvb : verB v = false := by unfold verB; exact range_bad (k := j) (by omega) (by rw [vP_at hx hc69]; rfl)
    have hf : (verB ts && vss.all verB) = false := form_bad (List.mem_of_getElem? hv) hvb
    refine zR ?_
    refine zA ?_
    refine zA ?_
    refine zA ?_
    refine zN ?_
    refine X_ret ?_
    refine at_block_r ?_
    refine at_then_r ?_
    refine at_then_r ?_
    refine at_block_r ?_
    refine at_block_r ?_
    refine at_then_r ?_
    refine at_then_r ?_
    refine at_block_r ?_
    refine at_then_r ?_
    exact at_ret3 rfl rfl rfl rfl (fun w hw => ⟨_, I2, [], rfl, hIc, hw.drop, gp_bad (gapE_form hck hno hf) (by decide)⟩)
   refine X_skip ?_
   refine at_block_n ?_
   refine at_then ?_
   refine X_region ?_
   refine zV (ev_arB rfl rfl rfl (fun _ => by omega)) ?_
   refine zM ?_
   refine XO_nil ?_
   exact at_met2 _ _ ⟨hd.n - (j + 1), by omega, j + 1, rfl, rfl, rfl, rfl, by omega, range_step hin (by rw [vP_at hx hc69]; rfl)⟩ (.cons rfl (.cons rfl (.cons rfl (.cons rfl (.cons rfl (.cons rfl (.cons rfl (.cons rfl (.cons rfl (.cons rfl (.cons rfl (.cons rfl (.cons rfl .nil))))))))))))) (by repeat (first | exact .refl | exact subL_left | refine subL_app ?_ | refine .drop ?_ | refine subL_add ?_))
  have hge_j : hd.n ≤ j := by have h := hc50; simp at h; omega
  refine X_exit ?_
  refine at_then_e ?_
  refine at_then_e ?_
  refine at_block_hit ?_
  refine at_block_n ?_
  refine at_then ?_
  refine X_region ?_
  refine zV (ev_arB rfl rfl rfl (fun _ => by omega)) ?_
  refine zM ?_
  refine XO_nil ?_
  exact at_met2 _ _ ⟨(n2 + 1) - (k + 1), by omega, k + 1, rfl, rfl, rfl, rfl, by omega, all_next hv hall (by unfold verB; rw [hQ.len, show hd.n = j by omega]; exact hin)⟩ (.cons rfl (.cons rfl (.cons rfl (.cons rfl (.cons rfl (.cons rfl (.cons rfl (.cons rfl (.cons rfl .nil))))))))) (by repeat (first | exact .refl | exact subL_left | refine subL_app ?_ | refine .drop ?_ | refine subL_add ?_))
 have hge_k : (n2 + 1) ≤ k := by have h := hc44; simp at h; omega
 rw [take_all (by simp [hlV]) hge_k, List.all_append] at hall
 have hf : (verB ts && vss.all verB) = true := by simpa [Bool.and_comm] using hall
 refine X_exit ?_
 refine at_then_e ?_
 refine at_then_e ?_
 refine at_block_hit ?_
 refine at_then ?_
 refine zR ?_
 refine zM ?_
 refine zM ?_
 refine zM ?_
 refine zM ?_
 refine XO_callV0 (cap := []) (vs := [_, _, _, _]) rfl rfl fun_7 (w_Has hS hn _ _ _) rfl rfl ?_
 refine zM ?_
 refine zE ?_
 refine zE ?_
 refine zA ?_
 refine zA ?_
 refine zN ?_
 refine X_seq ?_
 refine zR ?_
 refine zM ?_
 refine zC ?_
 refine zN ?_
 refine zI ?_ ?_ <;> intro hc81
 ·
  have hE : hasE 0 person day time ≠ 0 := by have h := hc81; rw [hck] at h; simpa using h
  refine zR ?_
  refine zM ?_
  refine zA ?_
  refine zA ?_
  refine zA ?_
  refine zN ?_
  refine X_ret ?_
  refine at_then_r ?_
  first
  | exact at_ret3 rfl rfl rfl rfl (fun w hw => ⟨_, I2, [], rfl, hIc, hw.drop, gp_bad (by rw [hck]; exact gapE_arg hck hno hf hE) (by simpa using hc81)⟩)
 have hE : hasE 0 person day time = 0 := by have h := hc81; rw [hck] at h; simpa using h
 have hvv := hasV_ok (xs := xs) hck hE
 refine X_skip ?_
 refine at_then ?_
 refine zR ?_
 refine zA ?_
 refine zN ?_
 refine X_seq ?_
 refine zR ?_
 refine zM ?_
 refine zM ?_
 refine zQ slt_23 ?_
 refine zC ?_
 refine zN ?_
 refine zI ?_ ?_ <;> intro hc86
 ·
  have hhi : hasF xs person day time > vss.length := by rw [← hvv, hlV]; simpa using hc86
  refine zR ?_
  refine zA ?_
  refine zA ?_
  refine zA ?_
  refine zN ?_
  refine X_ret ?_
  refine at_then_r ?_
  exact at_ret3 rfl rfl rfl rfl (fun w hw => ⟨_, I2, [], rfl, hIc, hw.drop, gp_bad (gapE_high hck hno hf hE hhi) (by decide)⟩)
 have hhi : ¬ hasF xs person day time > vss.length := by rw [← hvv, hlV]; simpa using hc86
 refine X_skip ?_
 refine at_then ?_
 refine X_seq ?_
 refine zR ?_
 refine zM ?_
 refine zC ?_
 refine zN ?_
 refine zI ?_ ?_ <;> intro hc88
 ·
  have hp : hasF xs person day time > 0 := by rw [← hvv]; simpa using hc88
  obtain ⟨hd, v, hh, hv, hO⟩ := hV.at (k := (hasV xs person day time - 1).toNat) (by rw [hvv]; omega)
  have hown := own_pos hp (by rw [← hvv]; exact hv)
  have hol := hO.len
  have hl9 : v.length ≤ 512 := by have := List.any_eq_false.1 hnb v (List.mem_append_left _ (List.mem_of_getElem? hv)); simp at this; omega
  refine X_region ?_
  refine zM ?_
  refine zM ?_
  refine zV (ev_arB rfl rfl rfl (fun _ => by omega)) ?_
  refine zV (ev_indexSl rfl rfl slt_23 hV.1 (fun hg => by omega)) ?_
  refine zV (ev_load rfl sct_24 (fun hg => by exact Sl.get0 hV.1 hh rfl)) ?_
  refine zA ?_
  refine zN (zR ?_)
  refine zA ?_
  refine zN (zR ?_)
  refine zM ?_
  refine zM ?_
  refine zM ?_
  refine XO_callM (cap := []) (vs := [_]) rfl rfl fun_35 .nil (w_lacks _ _ _ _) rfl rfl ?_
  rintro vv5 I5 L5 hI5 ⟨rfl, b1, rfl, hcell⟩
  have hS := hS.mono hI5; have hV := hV.mono hI5; have hT := hT.mono hI5; have hW := hW.mono hI5; have hO := hO.mono hI5; have hIc := hIc.trans hI5
  refine XO_callM (cap := []) (vs := [_, _]) rfl rfl fun_37 .nil (w_filter hT (by omega) fun_36 (fun x => w_lack hcell hO (by omega) x)) rfl rfl ?_
  rintro vv6 I6 L6 hI6 ⟨rfl, a6, c6, rfl, hX⟩
  have hS := hS.mono hI6; have hV := hV.mono hI6; have hT := hT.mono hI6; have hW := hW.mono hI6; have hO := hO.mono hI6; have hcell := hcell.mono hI6; have hIc := hIc.trans hI6
  refine zM ?_
  refine zM ?_
  refine zM ?_
  refine XO_callM (cap := []) (vs := [_]) rfl rfl fun_35 .nil (w_lacks _ _ _ _) rfl rfl ?_
  rintro vv7 I7 L7 hI7 ⟨rfl, b2, rfl, hcell2⟩
  have hS := hS.mono hI7; have hV := hV.mono hI7; have hT := hT.mono hI7; have hW := hW.mono hI7; have hO := hO.mono hI7; have hcell := hcell.mono hI7; have hX := hX.mono hI7; have hIc := hIc.trans hI7
  refine XO_callM (cap := []) (vs := [_, _]) rfl rfl fun_37 .nil (w_filter hO (by omega) fun_36 (fun x => w_lack hcell2 hT (by omega) x)) rfl rfl ?_
  rintro vv8 I8 L8 hI8 ⟨rfl, a8, c8, rfl, hY⟩
  have hS := hS.mono hI8; have hV := hV.mono hI8; have hT := hT.mono hI8; have hW := hW.mono hI8; have hO := hO.mono hI8; have hcell := hcell.mono hI8; have hX := hX.mono hI8; have hcell2 := hcell2.mono hI8; have hIc := hIc.trans hI8
  refine zA ?_
  refine zA ?_
  refine zA ?_
  refine zN ?_
  refine X_ret ?_
  first
  | exact at_ret3 rfl rfl rfl rfl (fun w hw => ⟨_, I8, [], rfl, hIc, hw.drop, .good (gapE_ok hck hno hf hE hhi) (by rw [hown]; rfl) (by rw [hown]; rfl) hX hY⟩)
 have hp : ¬ hasF xs person day time > 0 := by rw [← hvv]; simpa using hc88
 have hO : Sl I2 1 encI none 0 0 [] := .nil
 have hown := own_zero (vss := vss) hp
 refine X_skip ?_
 refine at_then ?_
 refine zR ?_
 refine zA ?_
 refine zN (zR ?_)
 refine zM ?_
 refine zM ?_
 refine zM ?_
 refine XO_callM (cap := []) (vs := [_]) rfl rfl fun_35 .nil (w_lacks _ _ _ _) rfl rfl ?_
 rintro vv9 I9 L9 hI9 ⟨rfl, b1, rfl, hcell⟩
 have hS := hS.mono hI9; have hV := hV.mono hI9; have hT := hT.mono hI9; have hW := hW.mono hI9; have hO := hO.mono hI9; have hIc := hIc.trans hI9
 refine XO_callM (cap := []) (vs := [_, _]) rfl rfl fun_37 .nil (w_filter hT (by omega) fun_36 (fun x => w_lack hcell hO (by omega) x)) rfl rfl ?_
 rintro vv10 I10 L10 hI10 ⟨rfl, a10, c10, rfl, hX⟩
 have hS := hS.mono hI10; have hV := hV.mono hI10; have hT := hT.mono hI10; have hW := hW.mono hI10; have hO := hO.mono hI10; have hcell := hcell.mono hI10; have hIc := hIc.trans hI10
 refine zM ?_
 refine zM ?_
 refine zM ?_
 refine XO_callM (cap := []) (vs := [_]) rfl rfl fun_35 .nil (w_lacks _ _ _ _) rfl rfl ?_
 rintro vv11 I11 L11 hI11 ⟨rfl, b2, rfl, hcell2⟩
 have hS := hS.mono hI11; have hV := hV.mono hI11; have hT := hT.mono hI11; have hW := hW.mono hI11; have hO := hO.mono hI11; have hcell := hcell.mono hI11; have hX := hX.mono hI11; have hIc := hIc.trans hI11
 refine XO_callM (cap := []) (vs := [_, _]) rfl rfl fun_37 .nil (w_filter hO (by omega) fun_36 (fun x => w_lack hcell2 hT (by omega) x)) rfl rfl ?_
 rintro vv12 I12 L12 hI12 ⟨rfl, a12, c12, rfl, hY⟩
 have hS := hS.mono hI12; have hV := hV.mono hI12; have hT := hT.mono hI12; have hW := hW.mono hI12; have hO := hO.mono hI12; have hcell := hcell.mono hI12; have hX := hX.mono hI12; have hcell2 := hcell2.mono hI12; have hIc := hIc.trans hI12
 refine zA ?_
 refine zA ?_
 refine zA ?_
 refine zN ?_
 refine X_ret ?_
 first
 | exact at_ret3 rfl rfl rfl rfl (fun w hw => ⟨_, I12, [], rfl, hIc, hw.drop, .good (gapE_ok hck hno hf hE hhi) (by rw [hown]; rfl) (by rw [hown]; rfl) hX hY⟩)
end Go.Proofs.YtclkmnidgdkekaaGreat.L
end
section
namespace Go.Proofs.YtclkmnidgdkekaaGreat.L
open Go Go.Kn Go.Proofs
theorem ins_len (xs : List Ls) (x : Ls) : (insF xs x).length = xs.length + 1 := by
  have h := congrArg List.length (List.takeWhile_append_dropWhile (p := fun y : Ls => decide (y.no < x.no)) (l := xs))
  unfold insF
  simp only [List.length_append, List.length_cons] at h ⊢
  omega
theorem resF_len {α : Type} {e : Int} {xs : List α} : (resF e xs).length ≤ xs.length := by
  unfold resF
  split
  · exact Nat.zero_le _
  · exact Nat.le_refl _
theorem cast_len (xs : List Ls) (version day time : Int) : (castF xs version day time).length ≤ 64 := by
  unfold castF
  refine Nat.le_trans (List.length_filter_le ..) ?_
  simp
theorem ckB_iff {xs : List Ls} : ckB xs = true ↔ (∀ x ∈ xs, rightF x = true) ∧ xs.Pairwise (fun a b => a.no < b.no) := by
  constructor
  · exact fun h => ⟨fun x hx => ckB_right h hx, ckB_sorted h⟩
  · rintro ⟨h1, h2⟩
    unfold ckB
    rw [List.all_eq_true]
    intro k hk
    rw [List.mem_range] at hk
    have hx : xs[k]? = some xs[k] := List.getElem?_eq_getElem hk
    unfold ckP prevL
    rw [getD_of hx, h1 _ (List.getElem_mem hk)]
    cases k with
    | zero => rfl
    | succ k =>
      have hy : xs[k]? = some (xs[k]'(by omega)) := List.getElem?_eq_getElem _
      rw [show (((k + 1 : Nat) : Int) - 1).toNat = k by omega, getD_of hy]
      have := List.pairwise_iff_getElem.1 h2 k (k + 1) (by omega) hk (by omega)
      simp; omega
theorem chk_of {xs : List Ls} (h : xs.length ≤ 4096) (h2 : ckB xs = true) : chk xs = 0 := by unfold chk; rw [if_neg (by omega), h2]; rfl
theorem best_in {person day time : Int} : ∀ (l : List Ls) (b z : Option Ls), l.foldl (bestF person day time) b = z → (z = b ∨ ∃ y ∈ l, eligF person day time y = true ∧ z = some y)
  | [], b, z, h => .inl h.symm
  | x :: l, b, z, h => by
    rw [List.foldl_cons] at h
    rcases best_in l _ z h with e | ⟨y, hy, he, e⟩
    · unfold bestF at e
      split at e
      · rename_i h2
        simp only [Bool.and_eq_true] at h2
        exact .inr ⟨x, List.mem_cons_self .., h2.1, e⟩
      · exact .inl e
    · exact .inr ⟨y, List.mem_cons_of_mem _ hy, he, e⟩
theorem best_keep {person day time : Int} {x : Ls} : ∀ (l : List Ls), (∀ y ∈ l, eligF person day time y = true → laterF y x = false) → l.foldl (bestF person day time) (some x) = some x
  | [], _ => rfl
  | y :: l, h => by
    rw [List.foldl_cons]
    have : bestF person day time (some x) y = some x := by
      unfold bestF
      cases e : eligF person day time y with
      | false => rfl
      | true =>
        have := h y (List.mem_cons_self ..) e
        rw [show bestO (some x) y = laterF y x from rfl, this]; rfl
    rw [this]
    exact best_keep l (fun z hz => h z (List.mem_cons_of_mem _ hz))
theorem has_top {person day time : Int} {l r : List Ls} {x : Ls} (hx : eligF person day time x = true) (h : ∀ y, y ∈ l ∨ y ∈ r → eligF person day time y = true → laterF x y = true ∧ laterF y x = false) : hasF (l ++ x :: r) person day time = x.version := by
  unfold hasF hasO
  rw [List.foldl_append, List.foldl_cons]
  have e1 : bestF person day time (l.foldl (bestF person day time) none) x = some x := by
    generalize hb : l.foldl (bestF person day time) none = b
    unfold bestF
    rw [hx, Bool.true_and]
    rcases best_in l none b hb with e | ⟨y, hy, he, e⟩
    · rw [e]; rfl
    · rw [e, show bestO (some y) x = laterF x y from rfl, (h y (.inl hy) he).1, if_pos rfl]
  rw [e1, best_keep r (fun y hy he => (h y (.inr hy) he).2)]
  rfl
theorem later_of {x y : Ls} (h1 : y.known ≤ x.known) (h2 : y.at_ ≤ x.at_) (h3 : y.at_ = x.at_ → y.known < x.known) : laterF x y = true ∧ laterF y x = false := by
  unfold laterF
  by_cases e : x.at_ = y.at_
  · have := h3 e.symm
    rw [if_neg (by omega), if_pos (by omega), if_neg (by omega), if_pos (by omega)]
    exact ⟨decide_eq_true (by omega), decide_eq_false (by omega)⟩
  · rw [if_pos (by omega), if_pos (by omega)]
    exact ⟨decide_eq_true (by omega), decide_eq_false (by omega)⟩
theorem addE_zero {xs : List Ls} {x : Ls} (h : addE xs x = 0) : chk xs = 0 ∧ rightF x = true ∧ xs.any (fun y => y.no == x.no) = false ∧ xs.length ≠ 4096 := by
  unfold addE at h
  split at h
  · rename_i h1; exact absurd h h1
  · rename_i h1
    cases h2 : rightF x with
    | false => rw [h2] at h; cases h
    | true =>
      rw [h2] at h
      cases h3 : xs.any (fun y => y.no == x.no) with
      | true => rw [h3] at h; cases h
      | false =>
        rw [h3] at h
        refine ⟨by simpa using h1, rfl, rfl, fun h4 => ?_⟩
        rw [if_neg (by decide), if_neg (by decide), if_pos h4] at h
        cases h
theorem ins_mem {xs : List Ls} {x y : Ls} : y ∈ insF xs x ↔ y = x ∨ y ∈ xs := by
  unfold insF
  have h := List.takeWhile_append_dropWhile (p := fun y : Ls => decide (y.no < x.no)) (l := xs)
  constructor
  · intro hy
    rcases List.mem_append.1 hy with hy | hy
    · exact .inr (by rw [← h]; exact List.mem_append_left _ hy)
    · rcases List.mem_cons.1 hy with e | hy
      · exact .inl e
      · exact .inr (by rw [← h]; exact List.mem_append_right _ hy)
  · rintro (e | hy)
    · subst e; simp
    · rw [← h] at hy
      rcases List.mem_append.1 hy with hy | hy
      · exact List.mem_append_left _ hy
      · exact List.mem_append_right _ (List.mem_cons_of_mem _ hy)
theorem ins_chk {xs : List Ls} {x : Ls} (h : addE xs x = 0) : chk (insF xs x) = 0 := by
  obtain ⟨h1, h2, h3, h4⟩ := addE_zero h
  obtain ⟨h5, h6⟩ := chk_ok h1
  obtain ⟨h7, h8⟩ := ckB_iff.1 h6
  refine chk_of (by rw [ins_len]; omega) (ckB_iff.2 ⟨fun y hy => ?_, ?_⟩)
  · rcases ins_mem.1 hy with e | hy
    · rw [e]; exact h2
    · exact h7 y hy
  · have hsp := List.takeWhile_append_dropWhile (p := fun y : Ls => decide (y.no < x.no)) (l := xs)
    have hne : ∀ y ∈ xs, y.no ≠ x.no := fun y hy e => by
      have := List.any_eq_false.1 h3 y hy
      simp [e] at this
    have hlow : ∀ y ∈ xs.takeWhile (fun y => decide (y.no < x.no)), y.no < x.no := fun y hy => by
      have hall : (xs.takeWhile (fun y => decide (y.no < x.no))).all (fun y => decide (y.no < x.no)) = true := List.all_takeWhile
      rw [List.all_eq_true] at hall
      simpa using hall y hy
    have hp : (xs.takeWhile (fun y => decide (y.no < x.no)) ++ xs.dropWhile (fun y => decide (y.no < x.no))).Pairwise (fun a b => a.no < b.no) := by rw [hsp]; exact h8
    obtain ⟨p1, p2, p3⟩ := List.pairwise_append.1 hp
    have hhigh : ∀ y ∈ xs.dropWhile (fun y => decide (y.no < x.no)), x.no < y.no := by
      cases hd : xs.dropWhile (fun y => decide (y.no < x.no)) with
      | nil => intro y hy; cases hy
      | cons z l =>
        have hz : ¬ z.no < x.no := by
          have := List.head?_dropWhile_not (fun y : Ls => decide (y.no < x.no)) xs
          rw [hd] at this
          simpa using this
        have hzx : z ∈ xs := by rw [← hsp, hd]; simp
        have hz2 := hne z hzx
        rw [hd] at p2
        obtain ⟨q1, q2⟩ := List.pairwise_cons.1 p2
        intro y hy
        rcases List.mem_cons.1 hy with e | hy
        · rw [e]; omega
        · have := q1 y hy; omega
    unfold insF
    rw [List.pairwise_append]
    refine ⟨p1, List.pairwise_cons.2 ⟨hhigh, p2⟩, fun a ha b hb => ?_⟩
    rcases List.mem_cons.1 hb with e | hb
    · rw [e]; exact hlow a ha
    · exact p3 a ha b hb
end Go.Proofs.YtclkmnidgdkekaaGreat.L
end
section
namespace Go.Proofs.YtclkmnidgdkekaaGreat.L
open Go Go.Kn Go.Proofs
theorem few_vss {xs : List Ls} {vss : List (List Int)} {ts : List Int} (h : fewF xs vss ts = true) : ∀ v ∈ vss, v.length ≤ 600 := by
  intro v hv
  unfold fewF at h
  rw [Bool.and_eq_true] at h
  have := List.all_eq_true.1 h.2 v hv
  unfold fewP at this
  simp only [Bool.not_eq_true', Bool.or_eq_false_iff, decide_eq_false_iff_not] at this
  omega
theorem own_len {xs : List Ls} {vss : List (List Int)} {ts : List Int} (h : fewF xs vss ts = true) (person day time : Int) : (ownF xs vss person day time).length ≤ 600 := by
  unfold ownF
  split
  · generalize (hasF xs person day time - 1).toNat = k
    cases e : vss[k]? with
    | none => simp [List.getD, e]
    | some v =>
      rw [getD_of e]
      exact few_vss h v (List.mem_of_getElem? e)
  · exact Nat.zero_le _
end Go.Proofs.YtclkmnidgdkekaaGreat.L
end
section
namespace Go.Proofs.YtclkmnidgdkekaaGreat.L
open Go Go.Kn Go.Proofs
theorem gap_facts {xs : List Ls} {vss : List (List Int)} {ts : List Int} {person day time : Int} (h : gapE xs vss person day time ts = 0) :
    chk xs = 0 ∧ verB ts = true ∧ vss.all verB = true ∧ hasE (chk xs) person day time = 0 ∧ hasV xs person day time = hasF xs person day time ∧ 0 ≤ hasF xs person day time ∧ hasF xs person day time ≤ vss.length := by
  unfold gapE at h
  split at h
  · rename_i h1; exact absurd h h1
  · rename_i h1
    split at h
    · cases h
    · split at h
      · cases h
      · rename_i h3
        split at h
        · rename_i h4; exact absurd h h4
        · rename_i h4
          split at h
          · cases h
          · rename_i h5
            have hc : chk xs = 0 := by simpa using h1
            have he : hasE 0 person day time = 0 := by simpa using h4
            simp at h3
            refine ⟨hc, h3.1, List.all_eq_true.2 fun v hv => h3.2 v hv, by rw [hc]; exact he, hasV_ok hc he, ?_, by omega⟩
            unfold hasF
            cases e : hasO xs person day time with
            | none => exact Int.le_refl _
            | some y =>
              have := ckB_right (chk_ok hc).2 (best_right (chk_ok hc).2 e).1
              unfold rightF within at this
              simp at this
              show 0 ≤ y.version
              omega
theorem less_mem {a b : List Int} {x : Int} : x ∈ lessF a b ↔ x ∈ a ∧ x ∉ b := by
  unfold lessF
  rw [List.mem_filter]
  simp only [Bool.not_eq_true', List.any_eq_false, beq_iff_eq]
  exact ⟨fun h => ⟨h.1, fun hx => h.2 x hx rfl⟩, fun h => ⟨h.1, fun y hy e => h.2 (e ▸ hy)⟩⟩
end Go.Proofs.YtclkmnidgdkekaaGreat.L
end
section
namespace Go.Proofs.YtclkmnidgdkekaaGreat
open Go Go.Kn Go.Proofs
theorem planL_some {c : Cr} {k : Nat} {x : List Int} (hk : chkC c = 0) (h : planF c = some (k, x)) : planL c = x ∧ planO c = true := by
  unfold planL planO; rw [if_pos hk, h, decide_eq_true hk]; exact ⟨rfl, rfl⟩
theorem planL_none {c : Cr} (hk : chkC c = 0) (h : planF c = none) : planL c = [] ∧ planO c = false := by
  unfold planL planO; rw [if_pos hk, h, decide_eq_true hk]; exact ⟨rfl, rfl⟩
theorem plan_len9 {c : Cr} (hk : chkC c = 0) (h8 : c.ss.length ≤ 8) : (planL c).length ≤ 8 := by
  cases h : planF c with
  | none => rw [(planL_none hk h).1]; simp
  | some q =>
    obtain ⟨k, x⟩ := q
    rw [(planL_some hk h).1, (plan_good h).1.1]; exact h8
theorem few_yes {c : Cr} (hk : chkC c = 0) (h : planO c = true) : maxP (planL c) = fewF c := by
  cases h2 : planF c with
  | none => rw [(planL_none hk h2).2] at h; cases h
  | some q =>
    obtain ⟨k, x⟩ := q
    rw [(planL_some hk h2).1]; unfold fewF; rw [h2]
theorem few_no {c : Cr} (hk : chkC c = 0) (h : planO c = false) : (c.days.length : Int) + 1 = fewF c := by
  cases h2 : planF c with
  | none => unfold fewF; rw [h2]
  | some q => obtain ⟨k, x⟩ := q; rw [(planL_some hk h2).2] at h; cases h
theorem plan_day {c : Cr} (hk : chkC c = 0) {d : Int} (h : d ∈ planL c) : 0 ≤ d ∧ d < c.days.length := by
  cases h2 : planF c with
  | none => rw [(planL_none hk h2).1] at h; cases h
  | some q =>
    obtain ⟨k, x⟩ := q
    rw [(planL_some hk h2).1] at h; exact plan_in h2 d h
theorem lastE_in {c : Cr} {n : Nat} (hk : chkC c = 0) (hn : n ≤ c.days.length) : lastE c (n : Int) = 0 := lastE_3 hk (by simp; omega)
theorem ref_few {c : Cr} {n : Nat} (hc : rightF c = true) (hk : chkC c = 0) (hn : n ≤ c.days.length) : refO c (n : Int) = decide ((n : Int) < fewF c) := by
  unfold refO
  rw [lastE_in hk hn, decide_eq_true rfl, Bool.true_and, Int.toNat_natCast, Bool.eq_iff_iff, decide_eq_true_eq, ← few_iff hc hn, Option.isNone_iff_eq_none]
theorem ref_srch {c : Cr} {n : Nat} (h : refO c (n : Int) = true) : refP c (n : Int) = (srch c n c.ss.length []).1 ∧ (srch c n c.ss.length []).2 = none := by
  refine ⟨by unfold refP; rw [if_pos h, Int.toNat_natCast], ?_⟩
  unfold refO at h
  rw [Bool.and_eq_true, Int.toNat_natCast, Option.isNone_iff_eq_none] at h
  exact h.2
theorem either_4 {c : Cr} {n : Nat} (hk : chkC c = 0) (hn : n ≤ c.days.length) (h : refO c (n : Int) = true) : ((lastE c (n : Int) == 0) && accO c (n : Int) (refP c (n : Int))) = true := by
  obtain ⟨h1, h2⟩ := ref_srch h
  unfold accO
  rw [lastE_in hk hn, h1, srch_proves (by simp) h2]; rfl
theorem ref_sml {c : Cr} {n : Nat} (hn : n ≤ 100000) : smlP (refP c (n : Int)) := by
  unfold refP
  split
  · exact srch_sml (by rw [Int.toNat_natCast]; exact hn) _ _
  · exact zero_sml
end Go.Proofs.YtclkmnidgdkekaaGreat
end
section
namespace Go.Proofs.YtclkmnidgdkekaaGreat
open Go Go.Kn Go.Proofs
abbrev SM := List (Int × Nat) × Nat
def keyS (m : SM) : List Int := m.1.map (·.1)
/-- A set from a list of numbers. -/
def SetL (m : SM) (l : List Int) : Prop := (keyS m).Nodup ∧ ∀ x, x ∈ keyS m ↔ x ∈ l
theorem SetL.nil : SetL ([], 0) [] := ⟨List.nodup_nil, fun x => Iff.rfl⟩
theorem sput_keys (m : List (Int × Nat)) (c : Nat) (a : Int) : (sput m c a).1.map (·.1) = if a ∈ m.map (·.1) then m.map (·.1) else m.map (·.1) ++ [a] := by
  by_cases h : a ∈ m.map (·.1)
  · rw [if_pos h]; unfold sput; rw [if_pos h]
  · rw [if_neg h]; exact sput_new h
theorem sput_set {m : SM} (hn : (keyS m).Nodup) (a : Int) : (keyS (sput m.1 m.2 a)).Nodup ∧ ∀ x, x ∈ keyS (sput m.1 m.2 a) ↔ x ∈ keyS m ∨ x = a := by
  unfold keyS at *
  rw [sput_keys]
  split
  · rename_i h
    exact ⟨hn, fun x => ⟨.inl, fun g => g.elim id fun e => e ▸ h⟩⟩
  · rename_i h
    refine ⟨List.nodup_append.2 ⟨hn, by simp, fun x hx y hy e => ?_⟩, fun x => by simp⟩
    simp at hy; subst hy; subst e; exact h hx
theorem SetL.put {m : SM} {l : List Int} {k : Nat} {x : Int} (h : SetL m (l.take k)) (hx : l[k]? = some x) : SetL (sput m.1 m.2 x) (l.take (k + 1)) := by
  obtain ⟨h1, h2⟩ := sput_set h.1 x
  refine ⟨h1, fun y => ?_⟩
  rw [h2 y, h.2 y, List.take_add_one, hx]; simp
theorem SetL.full {m : SM} {l : List Int} {k : Nat} (h : SetL m (l.take k)) (hk : l.length ≤ k) : SetL m l := by rwa [List.take_of_length_le hk] at h
/-- The person at place j of a session. -/
theorem who_at {tg : List Int} {has : List (List Int)} {id : Int} {j : Nat} {p : Int} (h : (diffW tg has id)[j]? = some p) : ∃ (k : Nat) (v : List Int), p = k ∧ has[k]? = some v ∧ v.contains id ≠ tg.contains id := mem_diffW.1 (List.mem_of_getElem? h)
/-- The facts of a plan. -/
theorem plan_facts {c : Cr} (hk : chkC c = 0) (ho : planO c = true) : (planL c).length = c.ss.length ∧ InR c (planL c) ∧ brkL c (planL c) = [] := by
  cases h2 : planF c with
  | none => rw [(planL_none hk h2).2] at ho; cases ho
  | some q =>
    obtain ⟨k, x⟩ := q
    rw [(planL_some hk h2).1]
    exact ⟨(plan_good h2).1.1, plan_in h2, (plan_good h2).1.2.2⟩
theorem plan_chk {c : Cr} {N : Nat} (hk : chkC c = 0) (h : c.ss.length = N) : ¬ ((chkC c != 0 || planO c && ((planL c).length : Int) != (N : Int)) = true) := by
  rw [hk]
  cases ho : planO c with
  | false => simp
  | true => rw [(plan_facts hk ho).1, h]; simp
theorem fromE_0 {ps : List Pt} {tg : List Int} {has : List (List Int)} (h : fromE ps tg has = 0) : chkR ps = 0 ∧ (tg :: has).all (verF ps) = true := by
  unfold fromE at h
  split at h
  · rename_i g; exact (g h).elim
  · rename_i g
    split at h
    · cases h
    · split at h
      · rename_i g2; exact ⟨by omega, g2⟩
      · cases h
theorem fromE_ver {ps : List Pt} {tg : List Int} {has : List (List Int)} (h : fromE ps tg has = 0) : Lst ps ∧ Ver ps tg ∧ (∀ v ∈ has, Ver ps v) ∧ cloE ps tg = 0 ∧ cloF ps tg = tg := by
  obtain ⟨h1, h2⟩ := fromE_0 h
  rw [List.all_cons, Bool.and_eq_true] at h2
  refine ⟨chkR_lst h1, ver_iff h1 h2.1, fun v hv => ver_iff h1 (List.all_eq_true.1 h2.2 v hv), ?_, ?_⟩
  · have := h2.1; unfold verF at this; simp at this; exact this.1
  · have := h2.1; unfold verF at this; simp at this; exact this.2
theorem fromR_0 {ps : List Pt} {tg : List Int} {has : List (List Int)} (h : fromE ps tg has = 0) : fromR ps tg has = fromL ps tg has := by unfold fromR; rw [if_pos h]
theorem fromR_no {ps : List Pt} {tg : List Int} {has : List (List Int)} (h : fromE ps tg has ≠ 0) : fromR ps tg has = [] := by unfold fromR; rw [if_neg h]
/-- The k-th session is about the k-th patch that is kept. -/
theorem from_at {ps : List Pt} {tg : List Int} {has : List (List Int)} {k : Nat} {s : Ses} (h : (fromL ps tg has)[k]? = some s) : ∃ q, (keptP ps tg has)[k]? = some q ∧ s.pa = q.id ∧ s.who = diffW tg has q.id := by
  have hk := (List.getElem?_eq_some_iff.1 h).1
  unfold fromL at h hk
  rw [sesL_len] at hk
  have hq : (keptP ps tg has)[k]? = some (keptP ps tg has)[k] := List.getElem?_eq_getElem hk
  rw [sesL_at hq] at h
  cases h
  exact ⟨_, hq, rfl, rfl⟩
end Go.Proofs.YtclkmnidgdkekaaGreat
end
section
namespace Go.Proofs.YtclkmnidgdkekaaGreat
open Go Go.Kn Go.Proofs
section
variable {ps pre : List Pt} {tg : List Int} {has : List (List Int)} {p q : Pt} {i k : Nat}
/-- The needs so far. -/
def ndQ (tg : List Int) (p q : Pt) : Bool := if tg.contains p.id then p.needs.contains q.id else q.needs.contains p.id
def ndD (tg : List Int) (pre : List Pt) (p : Pt) (k : Nat) : List Int := ((List.range k).filter fun j => ndQ tg p (pre.getD j zeroP)).map fun (j : Nat) => (j : Int)
theorem nd_full {n : Nat} (h : pre.length = n) : ndD tg pre p n = ndW tg pre p := by subst h; rfl
theorem nd_len (k : Nat) : (ndD tg pre p k).length ≤ k := by
  unfold ndD; rw [List.length_map]
  have := List.length_filter_le (fun j => ndQ tg p (pre.getD j zeroP)) (List.range k)
  rw [List.length_range] at this; exact this
end
end Go.Proofs.YtclkmnidgdkekaaGreat
end
section
namespace Go.Proofs.YtclkmnidgdkekaaGreat
open Go Go.Kn Go.Proofs
theorem fromR_len (ps : List Pt) (tg : List Int) (has : List (List Int)) : (fromR ps tg has).length ≤ 8 := by
  unfold fromR
  split
  · rename_i h
    unfold fromE at h
    split at h
    · rename_i g; exact (g h).elim
    · split at h
      · cases h
      · split at h
        · split at h
          · cases h
          · omega
        · cases h
  · simp
theorem fromR_bd {ps : List Pt} {tg : List Int} {has : List (List Int)} (hn : has.length ≤ 100000) : ∀ s ∈ fromR ps tg has, s.who.length ≤ 100000 ∧ s.needs.length ≤ 100000 := by
  intro s hs
  have h8 := fromR_len ps tg has
  unfold fromR at hs h8
  split at hs
  · rename_i h
    rw [if_pos h] at h8
    unfold fromL sesL at hs h8
    obtain ⟨i, hi, rfl⟩ := List.mem_map.1 hs
    have hi := List.mem_range.1 hi
    rw [List.length_map, List.length_range] at h8
    constructor
    · have := diffK_len tg has ((keptP ps tg has).getD i zeroP).id has.length
      rw [diffK_all] at this
      exact Nat.le_trans this hn
    · have := nd_len (tg := tg) (pre := (keptP ps tg has).take i) (p := (keptP ps tg has).getD i zeroP) ((keptP ps tg has).take i).length
      rw [nd_full rfl, List.length_take] at this
      have h2 : (sesP1 tg has ((keptP ps tg has).take i) ((keptP ps tg has).getD i zeroP)).needs = ndW tg ((keptP ps tg has).take i) ((keptP ps tg has).getD i zeroP) := rfl
      rw [h2]; omega
  · cases hs
end Go.Proofs.YtclkmnidgdkekaaGreat
end
section
namespace Go.Proofs.YtclkmnidgdkekaaGreat
open Go Go.Kn Go.Proofs
open L (Ls)
/-! ### What people have -/
theorem within_iff {n lo hi : Int} : within n lo hi = true ↔ lo ≤ n ∧ n ≤ hi := by
  unfold within; simp
theorem has_ge {ls : List Ls} (hc : L.chk ls = 0) (p day time : Int) : 0 ≤ L.hasF ls p day time ∧ L.hasF ls p day time ≤ 512 := by
  unfold L.hasF
  cases e : L.hasO ls p day time with
  | none => exact ⟨Int.le_refl _, by decide⟩
  | some y =>
    have := L.ckB_right (L.chk_ok hc).2 (L.best_right (L.chk_ok hc).2 e).1
    unfold L.rightF within at this
    simp at this
    show 0 ≤ y.version ∧ y.version ≤ 512
    omega
theorem hasE_01 {p day time : Int} (ht : L.thenF day time = true) : L.hasE 0 p day time = if within p 0 63 = true then 0 else 1 := by
  unfold L.hasE
  rw [if_neg (by decide), ht]
  cases within p 0 63 <;> rfl
theorem hasE_then {p day time : Int} (h : L.hasE 0 p day time = 0) : L.thenF day time = true ∧ within p 0 63 = true := by
  unfold L.hasE at h
  rw [if_neg (by decide)] at h
  cases h1 : L.thenF day time <;> cases h2 : within p 0 63 <;> rw [h1, h2] at h <;> first | exact ⟨rfl, rfl⟩ | cases h
theorem hasV_01 {ls : List Ls} (hc : L.chk ls = 0) {p day time : Int} (h : L.hasE (L.chk ls) p day time = 0) : L.hasV ls p day time = L.hasF ls p day time := L.hasV_ok hc (by rwa [hc] at h)
/-- Neither an error but that of the person's number, nor a negative one. -/
theorem has_ok {ls : List Ls} (hc : L.chk ls = 0) {p day time : Int} (ht : L.thenF day time = true) (h1 : L.hasE (L.chk ls) p day time ≠ 1) : L.hasE (L.chk ls) p day time = 0 ∧ 0 ≤ L.hasV ls p day time := by
  rw [hc] at h1 ⊢
  have e : L.hasE 0 p day time = 0 := by
    rw [hasE_01 ht] at h1 ⊢
    split at h1
    · rename_i g; rw [if_pos g]
    · exact absurd rfl h1
  exact ⟨e, by rw [L.hasV_ok hc e]; exact (has_ge hc p day time).1⟩
/-- The people's versions. -/
def hasL (ls : List Ls) (vss : List (List Int)) (day time : Int) (pp : List Int) : List (List Int) := pp.map fun p => L.ownF ls vss p day time
theorem hasL_snoc {ls : List Ls} {vss : List (List Int)} {day time : Int} {pp : List Int} {k : Nat} {p : Int} (h : pp[k]? = some p) : hasL ls vss day time (pp.take (k + 1)) = hasL ls vss day time (pp.take k) ++ [L.ownF ls vss p day time] := by
  unfold hasL
  rw [List.take_add_one, h]; simp
/-- What is known of the people, each by himself. -/
def PplOK (ls : List Ls) (vss : List (List Int)) (day time : Int) (pp : List Int) : Prop := pp.Nodup ∧ ∀ p ∈ pp, L.hasE (L.chk ls) p day time = 0 ∧ L.hasF ls p day time ≤ vss.length
theorem PplOK.nil {ls : List Ls} {vss : List (List Int)} {day time : Int} {pp : List Int} : PplOK ls vss day time (pp.take 0) := ⟨by simp, fun p hp => by simp at hp⟩
theorem PplOK.snoc {ls : List Ls} {vss : List (List Int)} {day time : Int} {pp : List Int} {k : Nat} {p : Int} (h : PplOK ls vss day time (pp.take k)) (hp : pp[k]? = some p) (hn : p ∉ pp.take k) (h1 : L.hasE (L.chk ls) p day time = 0) (h2 : L.hasF ls p day time ≤ vss.length) : PplOK ls vss day time (pp.take (k + 1)) := by
  rw [List.take_add_one, hp]
  refine ⟨List.nodup_append.2 ⟨h.1, by simp, fun x hx y hy e => ?_⟩, fun x hx => ?_⟩
  · simp at hy; subst hy; subst e; exact hn hx
  · rcases List.mem_append.1 hx with g | g
    · exact h.2 x g
    · simp at g; subst g; exact ⟨h1, h2⟩
/-! ### What the sessions are about -/
/-- The patches of the sessions (of l) where the i-th person is. -/
def isIn (l : List Ses) (i : Nat) (x : Int) : Bool := l.any fun s => (s.pa == x) && s.who.contains (i : Int)
theorem isIn_snoc {l : List Ses} {k : Nat} {s : Ses} (h : l[k]? = some s) (i : Nat) (x : Int) : isIn (l.take (k + 1)) i x = (isIn (l.take k) i x || ((s.pa == x) && s.who.contains (i : Int))) := by
  unfold isIn
  rw [List.take_add_one, h]; simp [List.any_append]
theorem isIn_from {ps : List Pt} {tg : List Int} {has : List (List Int)} {i : Nat} {v : List Int} (hi : has[i]? = some v) (x : Int) : isIn (fromL ps tg has) i x = true ↔ (∃ p ∈ ps, p.id = x) ∧ v.contains x ≠ tg.contains x := by
  unfold isIn
  rw [List.any_eq_true]
  constructor
  · rintro ⟨s, hs, h⟩
    simp only [Bool.and_eq_true, beq_iff_eq] at h
    obtain ⟨k, hk⟩ := List.getElem?_of_mem hs
    obtain ⟨q, hq, e1, e2⟩ := from_at hk
    obtain ⟨h1, h2⟩ := h
    rw [e2] at h2
    obtain ⟨j, w, ej, hw, hd⟩ := mem_diffW.1 (cont_iff.1 h2)
    have : j = i := by omega
    subst this
    rw [hi] at hw; cases hw
    refine ⟨⟨q, (mem_keptP.1 (List.mem_of_getElem? hq)).1, by rw [← h1, e1]⟩, ?_⟩
    rw [← h1, e1]; exact hd
  · rintro ⟨⟨p, hp, rfl⟩, hd⟩
    have hk : p ∈ keptP ps tg has := mem_keptP.2 ⟨hp, i, v, hi, hd⟩
    obtain ⟨k, hq⟩ := List.getElem?_of_mem hk
    refine ⟨_, List.mem_of_getElem? (show (fromL ps tg has)[k]? = _ from sesL_at hq), ?_⟩
    have hw : (i : Int) ∈ diffW tg has p.id := mem_diffW.2 ⟨i, v, rfl, hi, hd⟩
    simp only [Bool.and_eq_true]
    exact ⟨by simp [sesP1], by show (diffW tg has p.id).contains _ = true; exact cont_iff.2 hw⟩
theorem less_cont {a b : List Int} {x : Int} : x ∈ L.lessF a b ↔ a.contains x = true ∧ b.contains x = false := by
  rw [L.less_mem, cont_iff, cont_no]
/-- A person's sessions are about what he lacks, and what he has too much. -/
theorem own_iff {ps : List Pt} {tg : List Int} {has : List (List Int)} {i : Nat} {v : List Int} (hi : has[i]? = some v) (hT : Ver ps tg) (hV : Ver ps v) (x : Int) : isIn (fromL ps tg has) i x = true ↔ x ∈ L.lessF tg v ++ L.lessF v tg := by
  rw [isIn_from hi, List.mem_append, less_cont, less_cont]
  constructor
  · rintro ⟨_, h⟩
    cases h1 : v.contains x <;> cases h2 : tg.contains x <;> simp_all
  · rintro (⟨h1, h2⟩ | ⟨h1, h2⟩)
    · exact ⟨hT.sub x (cont_iff.1 h1), by rw [h1, h2]; decide⟩
    · exact ⟨hV.sub x (cont_iff.1 h1), by rw [h1, h2]; decide⟩
theorem less_nodup {a b : List Int} (h : a.Pairwise (· < ·)) : (L.lessF a b).Nodup := by
  unfold L.lessF
  exact ((h.filter _).imp fun h e => by omega)
theorem own_len {ps : List Pt} {tg : List Int} {has : List (List Int)} {i : Nat} {v : List Int} (hi : has[i]? = some v) (hT : Ver ps tg) (hV : Ver ps v) {ks : List Int} (hn : ks.Nodup) (hk : ∀ x, x ∈ ks ↔ isIn (fromL ps tg has) i x = true) : (L.lessF tg v).length + (L.lessF v tg).length = ks.length := by
  have h2 : (L.lessF tg v ++ L.lessF v tg).Nodup := List.nodup_append.2 ⟨less_nodup hT.inc, less_nodup hV.inc, fun x hx y hy e => by
    subst e
    have h1 := less_cont.1 hx; have h3 := less_cont.1 hy
    rw [h1.1] at h3; cases h3.2⟩
  have := (List.perm_ext_iff_of_nodup hn h2).2 fun x => by rw [hk x, own_iff hi hT hV]
  rw [this.length_eq, List.length_append]
/-! ### What Gap says -/
theorem gap_0 {ls : List Ls} {vss : List (List Int)} {p day time : Int} {ts : List Int} (hc : L.chk ls = 0) (he : L.hasE (L.chk ls) p day time = 0) (hh : L.hasF ls p day time ≤ vss.length) (h1 : L.gapE ls vss p day time ts ≠ 390) (h2 : L.gapE ls vss p day time ts ≠ 2) : L.gapE ls vss p day time ts = 0 := by
  rw [hc] at he
  unfold L.gapE at h1 h2 ⊢
  rw [if_neg (by omega)] at h1 h2 ⊢
  split at h2
  · exact absurd rfl h2
  · rename_i g
    rw [if_neg g] at h1 ⊢
    split at h1
    · exact absurd rfl h1
    · rename_i g2
      rw [if_neg g2, if_neg (by omega), if_neg (by omega)]
/-! ### Refuting, and the last day -/
theorem refute_ok {c : Cr} (hr : rightF c = true) (hk : chkC c = 0) {n : Nat} (hn : n ≤ c.days.length) (hf : (n : Int) < fewF c) : refO c (n : Int) = true ∧ lastE c (n : Int) = 0 ∧ accO c (n : Int) (refP c (n : Int)) = true := by
  have h1 : refO c (n : Int) = true := by rw [ref_few hr hk hn]; exact decide_eq_true hf
  have h2 := either_4 hk hn h1
  simp only [Bool.and_eq_true] at h2
  exact ⟨h1, lastE_in hk hn, h2.2⟩
theorem fold_max {l : List Int} {k : Nat} {d m : Int} (h : l[k]? = some d) (hm : m = maxP (l.take k) - 1) : maxI m d = maxP (l.take (k + 1)) - 1 := by
  rw [List.take_add_one, h]
  show maxI m d = maxP (l.take k ++ [d]) - 1
  rw [maxP_snoc, hm]
  unfold maxI
  split <;> split <;> omega
/-! ### A lesson for everybody -/
def nwL (no ver at_ kn : Int) (pp : List Int) (k : Nat) : List Ls := (List.range k).map fun i : Nat => (⟨no + (i : Int), pp.getD i 0, ver, at_, kn⟩ : Ls)
theorem nwL_snoc (no ver at_ kn : Int) (pp : List Int) (k : Nat) : nwL no ver at_ kn pp (k + 1) = nwL no ver at_ kn pp k ++ [⟨no + k, pp.getD k 0, ver, at_, kn⟩] := by
  unfold nwL; rw [List.range_succ, List.map_append]; rfl
theorem mem_nwL {no ver at_ kn : Int} {pp : List Int} {k : Nat} {y : Ls} : y ∈ nwL no ver at_ kn pp k ↔ ∃ i : Nat, i < k ∧ y = ⟨no + (i : Int), pp.getD i 0, ver, at_, kn⟩ := by
  unfold nwL
  simp only [List.mem_map, List.mem_range]
  exact ⟨fun ⟨i, h, e⟩ => ⟨i, h, e.symm⟩, fun ⟨i, h, e⟩ => ⟨i, h, e.symm⟩⟩
theorem tw_all {α : Type} {p : α → Bool} : ∀ {l : List α}, (∀ x ∈ l, p x = true) → l.takeWhile p = l ∧ l.dropWhile p = []
  | [], _ => ⟨rfl, rfl⟩
  | x :: l, h => by
    obtain ⟨h1, h2⟩ := tw_all (l := l) fun y hy => h y (List.mem_cons_of_mem _ hy)
    have hx := h x (List.mem_cons_self ..)
    exact ⟨by rw [List.takeWhile_cons, if_pos hx, h1], by rw [List.dropWhile_cons, if_pos hx, h2]⟩
/-- What has been entered so far. -/
structure Ent (ls : List Ls) (no ver at_ kn : Int) (pp : List Int) (k : Nat) (zs : List Ls) : Prop where
  eq : zs = ls ++ nwL no ver at_ kn pp k
  ck : L.chk zs = 0
theorem Ent.step {ls : List Ls} {no ver at_ kn : Int} {pp : List Int} {k : Nat} {zs : List Ls} (h : Ent ls no ver at_ kn pp k zs) (hno : ∀ y ∈ ls, y.no < no) (h0 : 0 ≤ no) (hmax : no + pp.length ≤ 1048576) (hl : ls.length ≤ 200) (hp6 : pp.length ≤ 6) {p : Int} (hp : pp[k]? = some p) (hpw : within p 0 63 = true) (hv : 0 ≤ ver ∧ ver ≤ 512) (ht : L.thenF at_ kn = true) :
    L.addE zs ⟨no + k, p, ver, at_, kn⟩ = 0 ∧ Ent ls no ver at_ kn pp (k + 1) (L.addF zs ⟨no + k, p, ver, at_, kn⟩) := by
  have hk := (List.getElem?_eq_some_iff.1 hp).1
  have hlt : ∀ y ∈ zs, y.no < no + k := fun y hy => by
    rw [h.eq] at hy
    rcases List.mem_append.1 hy with g | g
    · have := hno y g; omega
    · obtain ⟨i, hi, rfl⟩ := mem_nwL.1 g
      show no + (i : Int) < no + k
      omega
  have hlen : zs.length ≤ 206 := by rw [h.eq, List.length_append]; unfold nwL; simp; omega
  have hr : L.rightF ⟨no + k, p, ver, at_, kn⟩ = true := by
    unfold L.thenF at ht
    simp only [Bool.and_eq_true] at ht
    have h1 : within (no + (k : Int)) 0 1048576 = true := within_iff.2 (by omega)
    have h2 : within ver 0 512 = true := within_iff.2 hv
    show (within (no + (k : Int)) 0 1048576 && within p 0 63 && within ver 0 512 && within at_ 0 73048 && within kn 0 134217727) = true
    rw [h1, h2, hpw, ht.1, ht.2]; rfl
  have hany : zs.any (fun y => y.no == no + (k : Int)) = false := List.any_eq_false.2 fun y hy => by have := hlt y hy; simp; omega
  have hE : L.addE zs ⟨no + k, p, ver, at_, kn⟩ = 0 := by
    unfold L.addE
    have h9 : ¬ (zs.any (fun y => y.no == (⟨no + k, p, ver, at_, kn⟩ : Ls).no) = true) := by
      show ¬ (zs.any (fun y => y.no == no + (k : Int)) = true)
      rw [hany]; decide
    rw [if_neg (by rw [h.ck]; decide), if_neg (by rw [hr]; decide), if_neg h9, if_neg (by omega)]
  refine ⟨hE, ?_, ?_⟩
  · have h9 : zs.takeWhile (fun y => decide (y.no < (⟨no + k, p, ver, at_, kn⟩ : Ls).no)) = zs ∧ zs.dropWhile (fun y => decide (y.no < (⟨no + k, p, ver, at_, kn⟩ : Ls).no)) = [] := tw_all fun y hy => decide_eq_true (hlt y hy)
    unfold L.addF
    rw [hE, resF_ok rfl]
    unfold L.insF
    rw [h9.1, h9.2, nwL_snoc, ← List.append_assoc, ← h.eq]
    have : pp.getD k 0 = p := by rw [List.getD_eq_getElem?_getD, hp]; rfl
    rw [this]
  · have := L.ins_chk hE
    unfold L.addF
    rw [hE, resF_ok rfl]; exact this
theorem later_no {x y : Ls} (h1 : y.known ≤ x.known) (h2 : y.at_ ≤ x.at_) (h3 : y.no < x.no) : L.laterF x y = true ∧ L.laterF y x = false := by
  by_cases e1 : y.at_ = x.at_
  · by_cases e2 : y.known = x.known
    · unfold L.laterF
      rw [if_neg (by omega), if_neg (by omega), if_neg (by omega), if_neg (by omega)]
      exact ⟨decide_eq_true h3, decide_eq_false (by omega)⟩
    · exact L.later_of h1 h2 fun _ => by omega
  · exact L.later_of h1 h2 fun e => absurd e e1
/-- Everybody has what was entered last. -/
theorem ent_has {ls : List Ls} {no ver at_ kn : Int} {pp : List Int} {zs : List Ls} (h : Ent ls no ver at_ kn pp pp.length zs) (hno : ∀ y ∈ ls, y.no < no) (hn : pp.Nodup) {p : Int} (hp : p ∈ pp) : L.hasF zs p at_ kn = ver := by
  obtain ⟨i, hi⟩ := List.getElem?_of_mem hp
  have hil := (List.getElem?_eq_some_iff.1 hi).1
  have hgi : pp.getD i 0 = p := by rw [List.getD_eq_getElem?_getD, hi]; rfl
  have hsp : nwL no ver at_ kn pp pp.length = nwL no ver at_ kn pp i ++ (⟨no + i, p, ver, at_, kn⟩ : Ls) :: ((List.range' (i + 1) (pp.length - (i + 1))).map fun j : Nat => (⟨no + (j : Int), pp.getD j 0, ver, at_, kn⟩ : Ls)) := by
    unfold nwL
    have e : List.range pp.length = List.range i ++ i :: List.range' (i + 1) (pp.length - (i + 1)) := by
      rw [List.range_eq_range', List.range_eq_range']
      have h1 : pp.length = i + (pp.length - i) := by omega
      conv => lhs; rw [h1]
      rw [List.range'_append_1.symm]
      congr 1
      rw [Nat.zero_add]
      have h2 : pp.length - i = (pp.length - (i + 1)) + 1 := by omega
      rw [h2, List.range'_succ]
    rw [e, List.map_append, List.map_cons, hgi]
  have hother : ∀ j, j < pp.length → j ≠ i → pp.getD j 0 ≠ p := fun j hj hne e => by
    have hj2 : pp[j]? = some p := by
      rw [List.getD_eq_getElem?_getD, List.getElem?_eq_getElem hj] at e
      rw [List.getElem?_eq_getElem hj]
      exact congrArg some e
    obtain ⟨l1, g1⟩ := List.getElem?_eq_some_iff.1 hj2
    obtain ⟨l2, g2⟩ := List.getElem?_eq_some_iff.1 hi
    exact hne ((List.getElem_inj hn).1 (by rw [g1, g2]))
  rw [h.eq, hsp, ← List.append_assoc]
  refine L.has_top (by unfold L.eligF; simp) fun y hy he => ?_
  unfold L.eligF at he
  simp only [Bool.and_eq_true, beq_iff_eq, decide_eq_true_eq] at he
  obtain ⟨⟨he1, he2⟩, he3⟩ := he
  rcases hy with g | g
  · rcases List.mem_append.1 g with g | g
    · refine later_no he2 he3 ?_
      have := hno y g
      show y.no < no + (i : Int)
      omega
    · obtain ⟨j, hj, rfl⟩ := mem_nwL.1 g
      exact absurd he1 (hother j (by omega) (by omega))
  · obtain ⟨j, hj, rfl⟩ := List.mem_map.1 g
    rw [List.mem_range'_1] at hj
    exact absurd he1 (hother j (by omega) (by omega))
theorem cast_in {zs : List Ls} {ver at_ kn p : Int} (hp : within p 0 63 = true) (h : L.hasF zs p at_ kn = ver) : p ∈ L.castF zs ver at_ kn := by
  have := within_iff.1 hp
  unfold L.castF
  rw [List.mem_filter, List.mem_map]
  exact ⟨⟨p.toNat, List.mem_range.2 (by omega), by omega⟩, by simpa using h⟩
theorem castE_0 {zs : List Ls} {ver at_ kn : Int} (hc : L.chk zs = 0) (hv : 1 ≤ ver ∧ ver ≤ 512) (ht : L.thenF at_ kn = true) : L.castE (L.chk zs) ver at_ kn = 0 := by
  unfold L.castE
  rw [hc, if_neg (by decide), ht, (within_iff.2 hv : within ver 1 512 = true)]; rfl
theorem less_self (a : List Int) : L.lessF a a = [] := by
  unfold L.lessF
  rw [List.filter_eq_nil_iff]
  intro x hx
  simp [hx]
/-- After the lessons nobody has anything to learn or to get rid of. -/
theorem ent_gap {ls zs : List Ls} {vss : List (List Int)} {tg : List Int} {p day time at_ kn : Int} (hg : L.gapE ls vss p day time tg = 0) (hv : vss.length ≤ 10) (hck : L.chk zs = 0) (ht : L.thenF at_ kn = true) (hh : L.hasF zs p at_ kn = (vss.length : Int) + 1) :
    L.gapE zs (vss ++ [tg]) p at_ kn tg = 0 ∧ L.ownF zs (vss ++ [tg]) p at_ kn = tg := by
  obtain ⟨g1, g2, g3, g4, _⟩ := L.gap_facts hg
  have hpw := (hasE_then (by rw [g1] at g4; exact g4)).2
  have hsz : ¬ ((vss.length > 512 ∨ tg.length > 512) ∨ vss.any (fun v => decide (v.length > 512)) = true) := fun q => by
    rw [L.gapE_many g1 q] at hg; cases hg
  refine ⟨L.gapE_ok hck ?_ ?_ ?_ ?_, ?_⟩
  · rintro ((q | q) | q)
    · rw [List.length_append] at q; simp at q; omega
    · exact hsz (.inl (.inr q))
    · rw [List.any_append, Bool.or_eq_true] at q
      rcases q with q | q
      · exact hsz (.inr q)
      · simp at q; exact hsz (.inl (.inr (by omega)))
  · rw [g2, List.all_append, g3]; simp [g2]
  · rw [hasE_01 ht, if_pos hpw]
  · rw [hh, List.length_append]; simp
  · unfold L.ownF
    rw [if_pos (by omega), hh]
    have : (((vss.length : Int) + 1 - 1)).toNat = vss.length := by omega
    rw [this, List.getD_eq_getElem?_getD, List.getElem?_append_right (Nat.le_refl _)]
    simp
end Go.Proofs.YtclkmnidgdkekaaGreat
end
section
namespace Go.Proofs.YtclkmnidgdkekaaGreat
open Go Go.Kn Go.Proofs
abbrev OM := Option (Nat × SM)
def omV (o : OM) : Value := .map (o.map (·.1))
def omK : OM → List Int
  | none => []
  | some p => keyS p.2
def omL : List OM → Go.Kn.Loc
  | [] => []
  | none :: os => omL os
  | some p :: os => (p.1, Kn.setO p.2.1 p.2.2) :: omL os
/-- The slice's block, then the sets. -/
def omB (b e : Nat) (os : List OM) : Go.Kn.Loc := (b, .cells (os.map omV).toArray e (0, 0)) :: omL os
theorem omL_nil : ∀ n : Nat, omL (List.replicate n none) = []
  | 0 => rfl
  | n + 1 => by rw [List.replicate_succ]; exact omL_nil n
theorem omB_make (b e : Nat) (n : Nat) : omB b e (List.replicate n none) = [(b, .cells (List.replicate n (Value.map none)).toArray e (0, 0))] := by
  unfold omB
  rw [omL_nil, List.map_replicate]; rfl
theorem omL_mem : ∀ {os : List OM} {k r : Nat} {m : SM}, os[k]? = some (some (r, m)) → (r, Kn.setO m.1 m.2) ∈ omL os
  | some p :: os, 0, r, m, h => by cases h; exact List.mem_cons_self ..
  | none :: os, 0, r, m, h => by cases h
  | some p :: os, k + 1, r, m, h => List.mem_cons_of_mem _ (omL_mem (by simpa using h))
  | none :: os, k + 1, r, m, h => omL_mem (os := os) (by simpa using h)
theorem omL_upd (R : Go.Kn.Loc) (m' : SM) : ∀ {os : List OM} {k r : Nat} {m : SM}, os[k]? = some (some (r, m)) → Upd (omL os ++ R) r (Kn.setO m.1 m.2) (Kn.setO m'.1 m'.2) (omL (os.set k (some (r, m'))) ++ R)
  | some p :: os, 0, r, m, h => by cases h; exact .here
  | none :: os, 0, r, m, h => by cases h
  | some p :: os, k + 1, r, m, h => .there (omL_upd R m' (by simpa using h))
  | none :: os, k + 1, r, m, h => omL_upd R m' (os := os) (by simpa using h)
theorem omL_new : ∀ {os : List OM} {k : Nat} (r : Nat) (m : SM), os[k]? = some none → (omL (os.set k (some (r, m)))).Perm ((r, Kn.setO m.1 m.2) :: omL os)
  | none :: os, 0, r, m, _ => List.Perm.refl _
  | some p :: os, 0, r, m, h => by cases h
  | some p :: os, k + 1, r, m, h => ((omL_new (os := os) r m (by simpa using h)).cons _).trans (List.Perm.swap ..)
  | none :: os, k + 1, r, m, h => omL_new (os := os) r m (by simpa using h)
theorem om_set {os : List OM} {k : Nat} (o : OM) : (os.map omV).toArray.setIfInBounds k (omV o) = ((os.set k o).map omV).toArray := by
  rw [List.setIfInBounds_toArray, List.map_set]
theorem omB_cell {I : HMap} {b e k : Nat} {os : List OM} {o : OM} (h : os[k]? = some o) (R : Go.Kn.Loc) : Cell I (omB b e os ++ R) b k (omV o) :=
  ⟨_, _, _, .inr (List.mem_append_left _ (List.mem_cons_self ..)), by simp [h]⟩
/-- A new set. -/
theorem omB_new (b e : Nat) {os : List OM} {k : Nat} (r : Nat) (m : SM) (h : os[k]? = some none) (R : Go.Kn.Loc) : (omB b e (os.set k (some (r, m))) ++ R).Perm ((r, Kn.setO m.1 m.2) :: ((b, .cells ((os.set k (some (r, m))).map omV).toArray e (0, 0)) :: omL os) ++ R) := by
  unfold omB
  have h1 := ((omL_new r m h).cons (b, Obj.cells ((os.set k (some (r, m))).map omV).toArray e (0, 0))).append_right R
  exact h1.trans ((List.Perm.swap ..).append_right R)
section
variable {C : Cx} {E : Env} {I : HMap} {loc : Go.Kn.Loc} {S : GS} {dst : Option Tmp} {ty : TypeId} {pos : String} {af : Array Edge} {gd : Option (Nat × Bool)} {x y : Operand}
theorem ev_lenOM {t k e : Nat} {zv : Value} {o : OM} (hx : evalS S E x = some (omV o)) (hT : MpT C.P t k e zv) (hm : conj S = true → ∀ r m, o = some (r, m) → Mem I loc r (Kn.setO m.1 m.2)) : EvalOp C S E I loc ⟨dst, .call ⟨.builtin .len, #[x], #[t]⟩, ty, pos, af, gd⟩ (.int .i64 (omK o).length) := by
  cases o with
  | none =>
    have hx' : evalS S E x = some (.map none) := hx
    exact .of (by intro c e; cases e) fun a w ha hg hc hw => by
      simp only [execOp, resolve, List.map_toArray, List.map_cons, List.map_nil, evalS_sound ha hg hc hx', Sem.run_bind, Sem.run_pure, Result.andThen, invoke, builtin, Builtin.len_, List.getElem?_toArray, List.getElem?_cons_zero, run_underlying hT.1, goInt]
      rfl
  | some p =>
    have := ev_lenSet (C := C) (S := S) (E := E) (I := I) (loc := loc) (dst := dst) (ty := ty) (pos := pos) (af := af) (gd := gd) (m := p.2.1) (c := p.2.2) hx hT (fun hc => hm hc p.1 p.2 rfl)
    have e : (omK (some p)).length = p.2.1.length := List.length_map ..
    rw [e]; exact this
theorem ev_lookOM {t k e : Nat} {o : OM} {a : Int} (hT : MpT C.P t k e (.bool false)) (hK : C.P.underlying k = some (.int .i64)) (hx : evalS S E x = some (omV o)) (hy : evalS S E y = some (.int .i64 a)) (hm : conj S = true → ∀ r m, o = some (r, m) → Mem I loc r (Kn.setO m.1 m.2)) :
    EvalOp C S E I loc ⟨dst, .lookup t x y false, ty, pos, af, gd⟩ (.bool (decide (a ∈ omK o))) := by
  cases o with
  | none =>
    have := ev_lookupNil (C := C) (S := S) (E := E) (I := I) (loc := loc) (dst := dst) (ty := ty) (pos := pos) (af := af) (gd := gd) (ek := Value.int .i64) (a := a) hT (key_int hK) hx hy
    exact this
  | some p => exact ev_lookupS (C := C) (S := S) (E := E) (I := I) (loc := loc) (dst := dst) (ty := ty) (pos := pos) (af := af) (gd := gd) (m := p.2.1) (c := p.2.2) hT hK hx hy (fun hc => hm hc p.1 p.2 rfl)
end
/-! ### What the sessions put into them -/
/-- After the first k sessions of l, and the first j people of the next one, which is about id. -/
def oP (l : List Ses) (k : Nat) (who : List Int) (j : Nat) (id : Int) (i : Nat) (x : Int) : Bool := isIn (l.take k) i x || ((id == x) && (who.take j).contains (i : Int))
def OmOK (os : List OM) (P : Nat → Int → Bool) : Prop := ∀ (i : Nat) (o : OM), os[i]? = some o → (omK o).Nodup ∧ ∀ x, decide (x ∈ omK o) = P i x
theorem OmOK.congr {os : List OM} {P Q : Nat → Int → Bool} (h : OmOK os P) (e : ∀ i x, P i x = Q i x) : OmOK os Q := fun i o hi => ⟨(h i o hi).1, fun x => by rw [(h i o hi).2 x, e]⟩
theorem OmOK.zero (n : Nat) : OmOK (List.replicate n none) fun i x => isIn [] i x := fun i o h => by
  have : o = none := by
    rw [List.getElem?_replicate] at h
    split at h <;> simp_all
  subst this
  exact ⟨List.nodup_nil, fun x => rfl⟩
theorem oP_zero {l : List Ses} {k : Nat} {who : List Int} {id : Int} (i : Nat) (x : Int) : isIn (l.take k) i x = oP l k who 0 id i x := by unfold oP; simp
theorem oP_full {l : List Ses} {k : Nat} {s : Ses} (h : l[k]? = some s) {j : Nat} (hj : s.who.length ≤ j) (i : Nat) (x : Int) : oP l k s.who j s.pa i x = isIn (l.take (k + 1)) i x := by
  unfold oP; rw [List.take_of_length_le hj, isIn_snoc h]
/-- A set is made where there was none. -/
theorem OmOK.make {os : List OM} {P : Nat → Int → Bool} (h : OmOK os P) {k : Nat} (hk : os[k]? = some none) (r : Nat) : OmOK (os.set k (some (r, ([], 0)))) P := fun i o hi => by
  by_cases e : k = i
  · subst e
    rw [List.getElem?_set_self (List.getElem?_eq_some_iff.1 hk).1] at hi
    cases hi
    exact h k none hk
  · rw [List.getElem?_set_ne e] at hi; exact h i o hi
theorem OmOK.put {l : List Ses} {k : Nat} {who : List Int} {j : Nat} {id : Int} {os : List OM} (h : OmOK os (oP l k who j id)) {i r : Nat} {m : SM} (hw : who[j]? = some (i : Int)) (hk : os[i]? = some (some (r, m))) : OmOK (os.set i (some (r, sput m.1 m.2 id))) (oP l k who (j + 1) id) := fun i' o hi => by
  have et : who.take (j + 1) = who.take j ++ [(i : Int)] := by rw [List.take_add_one, hw]; rfl
  by_cases e : i = i'
  · subst e
    rw [List.getElem?_set_self (List.getElem?_eq_some_iff.1 hk).1] at hi
    cases hi
    obtain ⟨h1, h2⟩ := h i _ hk
    obtain ⟨h3, h4⟩ := sput_set (m := m) h1 id
    refine ⟨h3, fun x => ?_⟩
    have h5 := h2 x
    show decide (x ∈ keyS (sput m.1 m.2 id)) = _
    have h6 : decide (x ∈ keyS m) = oP l k who j id i x := h5
    unfold oP at h6 ⊢
    rw [et]
    have : decide (x ∈ keyS (sput m.1 m.2 id)) = (decide (x ∈ keyS m) || decide (x = id)) := by
      rw [Bool.eq_iff_iff, decide_eq_true_eq, h4 x]; simp
    rw [this, h6]
    by_cases ex : x = id
    · subst ex; simp
    · have : (id == x) = false := by simpa using fun q => ex q.symm
      rw [this]; simp [ex]
  · rw [List.getElem?_set_ne e] at hi
    refine ⟨(h i' o hi).1, fun x => ?_⟩
    rw [(h i' o hi).2 x]
    unfold oP
    rw [et]
    have : (who.take j ++ [(i : Int)]).contains (i' : Int) = (who.take j).contains (i' : Int) := by
      rw [Bool.eq_iff_iff]; simp; omega
    rw [this]
theorem om_own {ps : List Pt} {tg : List Int} {has : List (List Int)} {os : List OM} (h : OmOK os fun i x => isIn (fromL ps tg has) i x) {i : Nat} {o : OM} (ho : os[i]? = some o) {v : List Int} (hi : has[i]? = some v) (hT : Ver ps tg) (hV : Ver ps v) :
    ((L.lessF tg v).length + (L.lessF v tg).length = (omK o).length) ∧ ∀ x ∈ L.lessF tg v ++ L.lessF v tg, x ∈ omK o := by
  have hx : ∀ x, x ∈ omK o ↔ isIn (fromL ps tg has) i x = true := fun x => by
    have h9 : decide (x ∈ omK o) = isIn (fromL ps tg has) i x := (h i o ho).2 x
    rw [← h9, decide_eq_true_eq]
  exact ⟨own_len hi hT hV (h i o ho).1 hx, fun x hm => (hx x).2 ((own_iff hi hT hV x).2 hm)⟩
end Go.Proofs.YtclkmnidgdkekaaGreat
end
section
namespace Go.Proofs.YtclkmnidgdkekaaGreat
open Go Go.Kn Go.Proofs
open L (Ls)
theorem relA_nil {I : HMap} {vss : List (List Int)} (h : vss = []) : RelA I 1 encI [] vss := by
  subst h; exact ⟨rfl, fun k h v a _ => by simp at a⟩
theorem relA_snoc {I : HMap} {hs : List Hd} {vss : List (List Int)} {hd : Hd} {v : List Int} (H : RelA I 1 encI hs vss) (h0 : Sl I 1 encI hd.a hd.n hd.c v) : RelA I 1 encI (hs ++ [hd]) (vss ++ [v]) := by
  refine ⟨by simp [H.1], fun k x y a b => ?_⟩
  by_cases e : k < hs.length
  · rw [List.getElem?_append_left e] at a
    rw [List.getElem?_append_left (by rw [← H.1]; exact e)] at b
    exact H.2 k x y a b
  · rw [List.getElem?_append_right (by omega)] at a
    rw [List.getElem?_append_right (by rw [← H.1]; omega)] at b
    have hk : k - hs.length = 0 := by
      have := (List.getElem?_eq_some_iff.1 a).1
      simp at this; omega
    rw [hk] at a
    rw [← H.1, hk] at b
    cases a; cases b; exact h0
theorem hasL_len (ls : List Ls) (vss : List (List Int)) (day time : Int) (pp : List Int) : (hasL ls vss day time pp).length = pp.length := List.length_map ..
theorem ownF_len {ls : List Ls} {vss : List (List Int)} {p day time : Int} (h : ∀ v ∈ vss, v.length ≤ 600) : (L.ownF ls vss p day time).length ≤ 600 := by
  unfold L.ownF
  split
  · rw [List.getD_eq_getElem?_getD]
    cases e : vss[(L.hasF ls p day time - 1).toNat]? with
    | none => simp
    | some v => exact h v (List.mem_of_getElem? e)
  · simp
theorem hasL_bd {ls : List Ls} {vss : List (List Int)} {day time : Int} {pp : List Int} (h : ∀ v ∈ vss, v.length ≤ 600) : ∀ v ∈ hasL ls vss day time pp, v.length ≤ 100000 := fun v hv => by
  obtain ⟨p, _, rfl⟩ := List.mem_map.1 hv
  exact Nat.le_trans (ownF_len h) (by decide)
theorem hasL_at {ls : List Ls} {vss : List (List Int)} {day time : Int} {pp : List Int} {k : Nat} {p : Int} (h : pp[k]? = some p) : (hasL ls vss day time pp)[k]? = some (L.ownF ls vss p day time) := by
  unfold hasL; rw [List.getElem?_map, h]; rfl
/-- Sets that are read only. -/
def ImmO (I : HMap) (b e : Nat) (os : List OM) : Prop := ∀ (b' : Nat) (o' : Obj), (b', o') ∈ omB b e os → I b' = some o'
theorem ImmO.mono {I I' : HMap} {b e : Nat} {os : List OM} (h : ImmO I b e os) (hI : HLe I I') : ImmO I' b e os := fun b' o' hm => hI _ _ (h b' o' hm)
theorem ImmO.cell {I : HMap} {b e k : Nat} {os : List OM} {o : OM} {loc : Go.Kn.Loc} (h : ImmO I b e os) (ho : os[k]? = some o) : Cell I loc b (((k : Nat) : Int).toNat * 1) (omV o) :=
  ⟨_, _, _, .inl (h _ _ (List.mem_cons_self ..)), by simp [ho]⟩
theorem ImmO.mem {I : HMap} {b e k r : Nat} {os : List OM} {m : SM} {loc : Go.Kn.Loc} (h : ImmO I b e os) (ho : os[k]? = some (some (r, m))) : Mem I loc r (Kn.setO m.1 m.2) := .inl (h _ _ (List.mem_cons_of_mem _ (omL_mem ho)))
theorem omB_cell1 {I : HMap} {b e k : Nat} {os : List OM} {o : OM} (h : os[k]? = some o) (R : Go.Kn.Loc) : Cell I (omB b e os ++ R) b (((k : Nat) : Int).toNat * 1) (omV o) := by
  have := omB_cell (I := I) (b := b) (e := e) h R
  rwa [show ((k : Int)).toNat * 1 = k from by omega]
theorem omB_perm (x : Nat × Obj) (b e : Nat) {os : List OM} {k : Nat} (r : Nat) (h : os[k]? = some none) (R : Go.Kn.Loc) : (x :: (omB b e (os.set k (some (r, ([], 0)))) ++ R)).Perm ((r, Kn.setO [] 0) :: x :: ((b, Obj.cells ((os.map omV).toArray.setIfInBounds (((k : Nat) : Int).toNat * 1) (Value.map (some r))) e (0, 0)) :: (omL os ++ R))) := by
  have e1 : (os.map omV).toArray.setIfInBounds (((k : Nat) : Int).toNat * 1) (Value.map (some r)) = ((os.set k (some (r, ([], 0)))).map omV).toArray := by
    rw [show ((k : Int)).toNat * 1 = k from by omega]
    exact om_set (some (r, (([], 0) : SM)))
  rw [e1]
  exact ((omB_new b e r ([], 0) h R).cons x).trans (List.Perm.swap ..)
theorem om_make {os : List OM} {k : Nat} (r : Nat) (m : SM) (h : k < os.length) : (os.set k (some (r, m)))[k]? = some (some (r, m)) := List.getElem?_set_self h
/-- The first days that a proof is asked for, and the last day of all. -/
structure FL (c : Cr) (fe la time : Int) : Prop where
  few : 0 ≤ fe → ∃ n : Nat, fe = n ∧ n ≤ c.days.length ∧ (n : Int) < fewF c
  th : L.thenF la time = true
theorem FL.no {c : Cr} (hk : chkC c = 0) (ho : planO c = false) {day time : Int} (ht : L.thenF day time = true) : FL c (c.days.length : Int) day time :=
  ⟨fun _ => ⟨_, rfl, Nat.le_refl _, by rw [← few_no hk ho]; omega⟩, ht⟩
theorem maxP_in {c : Cr} (hk : chkC c = 0) : maxP (planL c) ≤ c.days.length := maxP_le (by omega) fun d hd => (plan_day hk hd).2
theorem FL.neg {c : Cr} {fe day time : Int} (h : ¬ fe ≥ 0) (ht : L.thenF day time = true) : FL c fe day time := ⟨fun g => absurd g h, ht⟩
theorem FL.yes {c : Cr} (hr : rightF c = true) (hk : chkC c = 0) (ho : planO c = true) {fe day time d : Int} (hf : fe = maxP (planL c) - 1) (h0 : fe ≥ 0) (hd : c.days[fe.toNat]? = some d) (ht : L.thenF day time = true) : FL c fe (maxI day d) time := by
  have hm := maxP_in hk
  refine ⟨fun _ => ⟨fe.toNat, by omega, by omega, by rw [← few_yes hk ho]; omega⟩, ?_⟩
  have h1 := (head_ok hr).day d (List.mem_of_getElem? hd)
  unfold L.thenF at ht ⊢
  simp only [Bool.and_eq_true] at ht ⊢
  have h2 := within_iff.1 ht.1
  refine ⟨within_iff.2 ?_, ht.2⟩
  unfold maxI
  split <;> omega
/-- Numbers behind all. -/
def NoI (ls : List Ls) (no : Int) : Prop := 0 ≤ no ∧ no ≤ 1048577 ∧ ∀ y ∈ ls, y.no < no
theorem NoI.nil {ls : List Ls} : NoI (ls.take 0) 0 := ⟨Int.le_refl _, by decide, fun y hy => by simp at hy⟩
theorem no_in {ls : List Ls} (hc : L.chk ls = 0) {x : Ls} (hx : x ∈ ls) : 0 ≤ x.no ∧ x.no ≤ 1048576 := by
  have := L.ckB_right (L.chk_ok hc).2 hx
  unfold L.rightF at this
  simp only [Bool.and_eq_true] at this
  exact within_iff.1 this.1.1.1.1
theorem NoI.step {ls : List Ls} (hc : L.chk ls = 0) {k : Nat} {x : Ls} {no : Int} (hx : ls[k]? = some x) (h : NoI (ls.take k) no) : NoI (ls.take (k + 1)) (maxI no (x.no + 1)) := by
  have hb := no_in hc (List.mem_of_getElem? hx)
  obtain ⟨h1, h2, h3⟩ := h
  have hm : no ≤ maxI no (x.no + 1) ∧ x.no + 1 ≤ maxI no (x.no + 1) ∧ (maxI no (x.no + 1) = no ∨ maxI no (x.no + 1) = x.no + 1) := by
    unfold maxI; split <;> omega
  refine ⟨by omega, by omega, fun y hy => ?_⟩
  rw [List.take_add_one, hx] at hy
  rcases List.mem_append.1 hy with g | g
  · have := h3 y g; omega
  · simp at g; subst g; omega
theorem NoI.all {ls : List Ls} {k : Nat} {no : Int} (h : NoI (ls.take k) no) (hk : ls.length ≤ k) : 0 ≤ no ∧ no ≤ 1048577 ∧ ∀ y ∈ ls, y.no < no := by
  unfold NoI at h
  rwa [List.take_of_length_le hk] at h
theorem Ent.zero {ls : List Ls} {no ver at_ kn : Int} {pp : List Int} (hc : L.chk ls = 0) : Ent ls no ver at_ kn pp 0 ls := ⟨by unfold nwL; simp, hc⟩
theorem Ent.len {ls : List Ls} {no ver at_ kn : Int} {pp : List Int} {k : Nat} {zs : List Ls} (h : Ent ls no ver at_ kn pp k zs) : zs.length = ls.length + k := by
  rw [h.eq, List.length_append]; unfold nwL; simp
theorem ppl_no {e h : Int} {n : Nat} {p : Int} {l : List Int} (hc : (((e == 1) || decide (h > (n : Int))) || decide (p ∈ l)) = false) : e ≠ 1 ∧ h ≤ n ∧ p ∉ l := by
  simp only [Bool.or_eq_false_iff, decide_eq_false_iff_not, beq_eq_false_iff_ne] at hc
  exact ⟨hc.1.1, by omega, hc.2⟩
theorem gap_no {e : Int} (hc : ((e == 390) || (e == 2)) = false) : e ≠ 390 ∧ e ≠ 2 := by
  simpa using hc
theorem gap_snoc {P : Int → Prop} {pp : List Int} {i : Nat} {p : Int} (hp : pp[i]? = some p) (h : ∀ q ∈ pp.take i, P q) (h0 : P p) : ∀ q ∈ pp.take (i + 1), P q := fun q hq => by
  rw [List.take_add_one, hp] at hq
  rcases List.mem_append.1 hq with g | g
  · exact h q g
  · simp at g; subst g; exact h0
theorem top_end {e : Int} {own tg l : List Int} {gn gm : Nat} {ce : Int} {cm : SM} {p : Int} (h1 : e = 0) (h2 : own = tg) (hA : (resF e (L.lessF tg own)).length = gn) (hB : (resF e (L.lessF own tg)).length = gm) (h3 : ce = 0) (hcm : SetL cm (resF ce l)) (hp : p ∈ l) :
    ¬ ((((e != 0) || decide ((gn : Int) + (gm : Int) > 0)) || !decide (p ∈ cm.1.map (·.1))) = true) := by
  subst h1; subst h2; subst h3
  rw [resF_ok rfl, less_self] at hA hB
  simp at hA hB
  have h5 : p ∈ cm.1.map (·.1) := (hcm.2 p).2 (by rw [resF_ok rfl]; exact hp)
  rw [decide_eq_true h5]
  simp
  omega
theorem om_cell2 {I : HMap} {b e k : Nat} {fz : Nat × Nat} {os : List OM} {o : OM} (h : os[k]? = some o) (R : Go.Kn.Loc) : Cell I ((b, .cells (os.map omV).toArray e fz) :: R) b (((k : Nat) : Int).toNat * 1) (omV o) :=
  ⟨_, _, _, .inr (List.mem_cons_self ..), by simp [h]⟩
theorem omB_same {b e k r : Nat} {os : List OM} {m : SM} (m' : SM) (h : os[k]? = some (some (r, m))) : omB b e (os.set k (some (r, m'))) = (b, Obj.cells (os.map omV).toArray e (0, 0)) :: omL (os.set k (some (r, m'))) := by
  unfold omB
  have hv : (os.set k (some (r, m'))).map omV = os.map omV := by
    rw [List.map_set]
    refine List.ext_getElem? fun i => ?_
    by_cases e : k = i
    · subst e
      have hl := (List.getElem?_eq_some_iff.1 h).1
      rw [List.getElem?_set_self (by simpa using hl), List.getElem?_map, h]; rfl
    · rw [List.getElem?_set_ne e]
  rw [hv]
theorem top_zero {e : Int} {own tg : List Int} {gn gm : Nat} (h1 : e = 0) (h2 : own = tg) (hA : (resF e (L.lessF tg own)).length = gn) (hB : (resF e (L.lessF own tg)).length = gm) : gn = 0 ∧ gm = 0 := by
  subst h1; subst h2
  rw [resF_ok rfl, less_self] at hA hB
  simp at hA hB
  omega
end Go.Proofs.YtclkmnidgdkekaaGreat
end
section
namespace Go.Proofs.YtclkmnidgdkekaaGreat
open Go Go.Kn Go.Proofs
def patT : Pt := ⟨2, 1, 0, 5, ⟨0, 0, 0, 0, 0, 0, 1, 0, 0, 0, 0, 0, 0, 0⟩, none, 0, 0, []⟩
def crT : Cr := ⟨[5], 1, 1, 1, 1, [⟨2, 1, [0], []⟩]⟩
theorem t_fe : fromE [patT] [2] [[]] = 0 := by kernel_rfl
theorem t_fr : fromR [patT] [2] [[]] = [⟨2, 1, [0], []⟩] := by kernel_rfl
theorem t_ck : chkC crT = 0 := by kernel_rfl
theorem t_po : planO crT = true := by kernel_rfl
theorem t_pl : planL crT = [0] := by kernel_rfl
theorem t_hv : L.hasV [] 1 5 5 = 0 := by kernel_rfl
theorem t_he : L.hasE (L.chk []) 1 5 5 = 0 := by kernel_rfl
theorem d_T : ∀ s ∈ crT.ss, s.needs.length ≤ 100000 := by decide
/-- The guard of sizes. -/
theorem top_guard {a : Bool} {n4 n2 n5 : Nat} {e : Int} (h : (((((!a) || decide ((n4 : Int) > 200)) || decide ((n2 : Int) > 10)) || decide ((n5 : Int) > 6)) || (e != 0)) = false) : a = true ∧ n4 ≤ 200 ∧ n2 ≤ 10 ∧ n5 ≤ 6 ∧ e = 0 := by
  simp only [Bool.or_eq_false_iff, Bool.not_eq_false', decide_eq_false_iff_not, bne_eq_false_iff_eq] at h
  exact ⟨h.1.1.1.1, by omega, by omega, by omega, h.2⟩
end Go.Proofs.YtclkmnidgdkekaaGreat
end
section
namespace Go.Proofs.YtclkmnidgdkekaaGreat
open Go Go.Kn Go.Proofs
theorem fun_12 : Fun Tryz.prog 12 := .of Tryz.func12 (by kernel_rfl) (by kernel_rfl)
theorem fun_7 : Fun Tryz.prog 7 := .of Tryz.func7 (by kernel_rfl) (by kernel_rfl)
theorem fun_8 : Fun Tryz.prog 8 := .of Tryz.func8 (by kernel_rfl) (by kernel_rfl)
theorem plt_28 : PlT Tryz.prog 28 #[(0, 1), (1, 1), (2, 1), (3, 1), (4, 1), (5, 1)] (.agg #[(.slice none 0 0), (.int .i64 0), (.int .i64 0), (.int .i64 0), (.int .i64 0), (.slice none 0 0)]) := ⟨.of (by kernel_rfl), by kernel_rfl, fun w => by kernel_rfl⟩
theorem plt_66 : PlT Tryz.prog 66 #[(0, 1), (1, 1), (2, 1), (3, 1), (4, 14), (18, 1)] (.agg #[(.int .i64 0), (.int .i64 0), (.int .i64 0), (.int .i64 0), (.int .i64 0), (.int .i64 0), (.int .i64 0), (.int .i64 0), (.int .i64 0), (.int .i64 0), (.int .i64 0), (.int .i64 0), (.int .i64 0), (.int .i64 0), (.int .i64 0), (.int .i64 0), (.int .i64 0), (.int .i64 0), (.slice none 0 0)]) := ⟨.of (by kernel_rfl), by kernel_rfl, fun w => by kernel_rfl⟩
theorem szt_28 : SzT Tryz.prog 28 6 := .of (by kernel_rfl)
theorem zt_28 : ZeroT Tryz.prog 28 (.agg #[(.slice none 0 0), (.int .i64 0), (.int .i64 0), (.int .i64 0), (.int .i64 0), (.slice none 0 0)]) := .of (by kernel_rfl)
set_option maxRecDepth 100000 in
theorem w_sane22 (I : HMap) : RetV Tryz.prog 4 [] I (.bool true) := by
 intro g H w hw
 refine enter Tryz.func4 rfl Tryz.ntmps4 rfl hw ?_
 have hIc := HLe.refl I
 refine zR ?_
 refine zA ?_
 refine zN (zR ?_)
 refine zV (ev_buildL (ps := [(6, _)]) [_, _, _, _, _, _, _, _, _, _, _, _, _, _] plt_64 rfl rfl) ?_
 refine zV (ev_buildL (ps := [(0, _), (1, _), (3, _), (4, _)]) [_, _, _, _, _, _, _, _, _, _, _, _, _, _, _, _, _, _, _] plt_66 rfl rfl) ?_
 refine XO_buildSlice (ps := [(0, _)]) (m := [encP patT]) elt_22 rfl (.cons rfl (.nil)) rfl (by simp [encP_len]) (by decide) (by decide) rfl rfl (fun b_12 => ?_)
 refine XO_freeze (by repeat (first | exact Take.here | apply Take.there)) (fun I1 hI1 hb1 => ?_)
 have hIc := hIc.trans hI1
 have hP0 := Sl.lit ([patT] : List Pt) rfl encP_len (show I1 b_12 = some (Obj.cells (([patT] : List Pt).flatMap encP).toArray 66 (0, 0)) from hb1)
 have hPs : SlP I1 (some ⟨b_12, 0, none⟩) 1 1 [patT] := ⟨hP0, fun q hq => by simp only [List.mem_singleton] at hq; subst hq; exact Sl.nil⟩
 refine zA ?_
 refine zN (zR ?_)
 refine zM ?_
 refine XO_buildSlice (ps := [(0, _)]) (m := [encI 2]) elt_24 rfl (.cons rfl (.nil)) rfl (by simp [encI_len]) (by decide) (by decide) rfl rfl (fun b_15 => ?_)
 refine XO_freeze (by repeat (first | exact Take.here | apply Take.there)) (fun I2 hI2 hb2 => ?_)
 have hP0 := hP0.mono hI2; have hPs := hPs.mono hI2; have hIc := hIc.trans hI2
 have hT1 := Sl.lit ([2] : List Int) rfl encI_len (show I2 b_15 = some (Obj.cells (([2] : List Int).flatMap encI).toArray 3 (0, 0)) from hb2)
 refine XO_buildSlice (ps := [(0, _)]) (m := [encH ⟨none, 0, 0⟩]) elt_23 rfl (.cons rfl (.nil)) rfl (by simp [encH_len]) (by decide) (by decide) rfl rfl (fun b_16 => ?_)
 refine XO_freeze (by repeat (first | exact Take.here | apply Take.there)) (fun I3 hI3 hb3 => ?_)
 have hP0 := hP0.mono hI3; have hPs := hPs.mono hI3; have hT1 := hT1.mono hI3; have hIc := hIc.trans hI3
 have hH1 := Sl.lit ([⟨none, 0, 0⟩] : List Hd) rfl encH_len (show I3 b_16 = some (Obj.cells (([⟨none, 0, 0⟩] : List Hd).flatMap encH).toArray 24 (0, 0)) from hb3)
 refine XO_callM (cap := []) (vs := [_, _, _]) rfl rfl fun_8 .nil (w_From hPs (by decide) hT1 (by decide) (show SlHA I3 1 encI _ _ _ _ [[]] from ⟨hH1, .cons Sl.nil .nil⟩) (by decide) (by intro v hv; simp only [List.mem_singleton] at hv; subst hv; simp)) rfl rfl ?_
 rintro vv4 I4 L4 hI4 ⟨rfl, fa1, fc1, rfl, hF1⟩
 have hP0 := hP0.mono hI4; have hPs := hPs.mono hI4; have hT1 := hT1.mono hI4; have hH1 := hH1.mono hI4; have hIc := hIc.trans hI4
 rw [List.nil_append]
 rw [t_fr] at hF1
 rw [t_fr, t_fe]
 refine zM ?_
 refine zE ?_
 refine zE ?_
 refine zA ?_
 refine zA ?_
 refine zN (zR ?_)
 refine XO_buildSlice (ps := [(0, _)]) (m := [encI 5]) elt_24 rfl (.cons rfl (.nil)) rfl (by simp [encI_len]) (by decide) (by decide) rfl rfl (fun b_20 => ?_)
 refine XO_freeze (by repeat (first | exact Take.here | apply Take.there)) (fun I5 hI5 hb5 => ?_)
 have hP0 := hP0.mono hI5; have hPs := hPs.mono hI5; have hT1 := hT1.mono hI5; have hH1 := hH1.mono hI5; have hF1 := hF1.mono hI5; have hIc := hIc.trans hI5
 have hD1 := Sl.lit ([5] : List Int) rfl encI_len (show I5 b_20 = some (Obj.cells (([5] : List Int).flatMap encI).toArray 3 (0, 0)) from hb5)
 refine zM ?_
 refine zV (ev_buildL (ps := [(0, _), (1, _), (2, _), (3, _), (4, _), (5, _)]) [_, _, _, _, _, _] plt_28 rfl rfl) ?_
 refine XO_alloc zt_28 rfl rfl (fun b_4 => ?_)
 refine XO_storeA rfl rfl szt_28 rfl rfl rfl rfl (by repeat (first | exact Upd.here | apply Upd.there | apply upd_app)) ?_
 refine zN ?_
 refine X_seq ?_
 refine X_freeze .here (fun I6 hI6 hb6 => ?_)
 have hP0 := hP0.mono hI6; have hPs := hPs.mono hI6; have hT1 := hT1.mono hI6; have hH1 := hH1.mono hI6; have hF1 := hF1.mono hI6; have hD1 := hD1.mono hI6; have hIc := hIc.trans hI6
 have h4 := ImmC.of hb6
 have hCT : CrAt I6 ⟨some ⟨b_20, 0, none⟩, 1, 1, 1, 1, 1, 1, fa1, 1, fc1⟩ crT := ⟨hD1, rfl, rfl, rfl, rfl, hF1⟩
 refine X_region ?_
 refine zV (ev_loadA rfl agt_28 (fun hg => by exact Cells.immC (vs := encCH ⟨some ⟨b_20, 0, none⟩, 1, 1, 1, 1, 1, 1, fa1, 1, fc1⟩) h4) rfl) ?_
 refine XO_callM (cap := []) (vs := [_]) rfl rfl fun_12 .nil (w_Plan hCT d_T) rfl rfl ?_
 rintro vv7 I7 L7 hI7 ⟨rfl, pa1, pc1, rfl, hP1⟩
 have hP0 := hP0.mono hI7; have hPs := hPs.mono hI7; have hT1 := hT1.mono hI7; have hH1 := hH1.mono hI7; have hF1 := hF1.mono hI7; have hD1 := hD1.mono hI7; have h4 := h4.mono hI7; have hIc := hIc.trans hI7
 rw [List.nil_append]
 rw [t_pl, t_po, t_ck]
 refine zM ?_
 refine zE ?_
 refine zE ?_
 refine zE ?_
 refine zA ?_
 refine zA ?_
 refine zA ?_
 refine zN (zR ?_)
 refine XO_callV0 (cap := []) (vs := [_, _, _, _]) rfl rfl fun_7 (L.w_Has (xs := []) Sl.nil (by decide) 1 5 5) rfl rfl ?_
 rw [t_hv, t_he]
 refine zM ?_
 refine zE ?_
 refine zE ?_
 refine zA ?_
 refine zA ?_
 refine zN (zR ?_)
 refine zM ?_
 refine zC ?_
 refine zM ?_
 refine XO_pushT 2 rfl rfl rfl ?_
 refine zK (ev_move rfl) ?_
 refine zK (ev_cmp rfl rfl rfl) ?_
 refine XO_and0 rfl rfl rfl rfl rfl ?_
 refine zM ?_
 refine XO_pushT 6 rfl rfl rfl ?_
 refine zK (ev_move rfl) ?_
 refine zK (ev_cmp rfl rfl rfl) ?_
 refine XO_and0 rfl rfl rfl rfl rfl ?_
 refine zM ?_
 refine XO_pushT 10 rfl rfl rfl ?_
 refine zK (ev_move rfl) ?_
 refine XO_and0 rfl rfl rfl rfl rfl ?_
 refine zM ?_
 refine XO_pushT 13 rfl rfl rfl ?_
 refine zK (ev_move rfl) ?_
 refine zK (ev_lenS rfl slt_26) ?_
 refine zK (ev_cmp rfl rfl rfl) ?_
 refine XO_and0 rfl rfl rfl rfl rfl ?_
 refine zM ?_
 refine XO_pushT 18 rfl rfl rfl ?_
 refine zK (ev_move rfl) ?_
 refine zK (ev_lenS rfl slt_24) ?_
 refine zK (ev_cmp rfl rfl rfl) ?_
 refine XO_and0 rfl rfl rfl rfl rfl ?_
 refine zM ?_
 refine XO_pushT 23 rfl rfl rfl ?_
 refine zK (ev_move rfl) ?_
 refine zK (ev_cmp rfl rfl rfl) ?_
 refine XO_and0 rfl rfl rfl rfl rfl ?_
 refine zA ?_
 refine zN ?_
 refine X_ret ?_
 exact at_ret1 rfl rfl (fun w hw => ⟨by rfl, (hw.mono hIc).drop⟩)
end Go.Proofs.YtclkmnidgdkekaaGreat
end
section
namespace Go.Proofs.YtclkmnidgdkekaaGreat
open Go Go.Kn Go.Proofs
theorem agt_55 : AgT Tryz.prog 55 5 := .of (by kernel_rfl)
theorem fld_55_0 : FieldAt Tryz.prog 55 0 0 := .of (by kernel_rfl)
theorem fun_10 : Fun Tryz.prog 10 := .of Tryz.func10 (by kernel_rfl) (by kernel_rfl)
theorem fun_11 : Fun Tryz.prog 11 := .of Tryz.func11 (by kernel_rfl) (by kernel_rfl)
theorem fun_13 : Fun Tryz.prog 13 := .of Tryz.func13 (by kernel_rfl) (by kernel_rfl)
theorem fun_14 : Fun Tryz.prog 14 := .of Tryz.func14 (by kernel_rfl) (by kernel_rfl)
theorem fun_15 : Fun Tryz.prog 15 := .of Tryz.func15 (by kernel_rfl) (by kernel_rfl)
theorem fun_16 : Fun Tryz.prog 16 := .of Tryz.func16 (by kernel_rfl) (by kernel_rfl)
theorem fun_4 : Fun Tryz.prog 4 := .of Tryz.func4 (by kernel_rfl) (by kernel_rfl)
theorem fun_5 : Fun Tryz.prog 5 := .of Tryz.func5 (by kernel_rfl) (by kernel_rfl)
theorem fun_6 : Fun Tryz.prog 6 := .of Tryz.func6 (by kernel_rfl) (by kernel_rfl)
theorem fun_9 : Fun Tryz.prog 9 := .of Tryz.func9 (by kernel_rfl) (by kernel_rfl)
theorem mkt_38 : MkT Tryz.prog 38 35 8 (.map none) := ⟨by kernel_rfl, by kernel_rfl, rfl⟩
theorem plt_55 : PlT Tryz.prog 55 #[(0, 1), (1, 1), (2, 1), (3, 1), (4, 1)] (.agg #[(.int .i64 0), (.int .i64 0), (.int .i64 0), (.int .i64 0), (.int .i64 0)]) := ⟨.of (by kernel_rfl), by kernel_rfl, fun w => by kernel_rfl⟩
theorem sct_35 : ScT Tryz.prog 35 := .of (by kernel_rfl)
theorem slt_25 : SlT Tryz.prog 25 55 5 := .of (by kernel_rfl)
theorem slt_38 : SlT Tryz.prog 38 35 1 := .of (by kernel_rfl)
theorem szt_26 : SzT Tryz.prog 26 1 := .of (by kernel_rfl)
theorem szt_35 : SzT Tryz.prog 35 1 := .of (by kernel_rfl)
theorem szt_55 : SzT Tryz.prog 55 5 := .of (by kernel_rfl)
theorem zt_55 : ZeroT Tryz.prog 55 (.agg #[(.int .i64 0), (.int .i64 0), (.int .i64 0), (.int .i64 0), (.int .i64 0)]) := .of (by kernel_rfl)
theorem w_topCourse {I : HMap} {av : Option Addr} {n c : Nat} {ps : List Pt} (hP : SlP I av n c ps) {bv : Option Addr} {n2 c2 : Nat} {hsh : List Hd} {vss : List (List Int)} (hV : SlHA I 1 encI bv n2 c2 hsh vss) {dv : Option Addr} {n3 c3 : Nat} {tg : List Int} (hT : Sl I 1 encI dv n3 c3 tg) {ev : Option Addr} {n4 c4 : Nat} {ls : List L.Ls} (hLs : Sl I 5 L.encL ev n4 c4 ls) {fv : Option Addr} {n5 c5 : Nat} {pp : List Int} (hPe : Sl I 1 encI fv n5 c5 pp) (day time : Int) {x : CH} {cr : Cr} (hC : CrAt I x cr) : RetV Tryz.prog 3 [.slice av n c, .slice bv n2 c2, .slice dv n3 c3, .slice ev n4 c4, .slice fv n5 c5, .int .i64 day, .int .i64 time, encCHA x] I (.bool true) := by
 intro g H w hw
 refine enter Tryz.func3 rfl Tryz.ntmps3 rfl hw ?_
 have hIc := HLe.refl I
 have hlp := hP.len
 have hlV := hV.len
 have hlT := hT.len
 have hlL := hLs.len
 have hlP := hPe.len
 refine zR ?_
 refine XO_box rfl rfl rfl (fun b_15 => ?_)
 refine zA ?_
 refine zN ?_
 refine X_seq ?_
 refine zR ?_
 refine XO_callV0 (cap := []) (vs := []) rfl rfl fun_4 (w_sane22 _) rfl rfl ?_
 refine zO ?_
 refine zN ?_
 refine zI ?_ ?_ <;> intro hc70
 ·
  cases hc70
 refine X_skip ?_
 refine at_then ?_
 refine X_seq ?_
 refine zR ?_
 refine zM ?_
 refine zM ?_
 refine zM ?_
 refine XO_callV0 (cap := []) (vs := [_, _, _]) rfl rfl fun_5 (w_rFewS hP hT hV) rfl rfl ?_
 refine zO ?_
 refine zM ?_
 refine XO_pushF 5 rfl rfl rfl ?_
 refine zJ (ev_move rfl) ?_
 refine zJ (ev_lenS rfl slt_25) ?_
 refine zJ (ev_cmp rfl rfl rfl) ?_
 refine XO_or0 rfl rfl rfl rfl rfl ?_
 refine zM ?_
 refine XO_pushF 10 rfl rfl rfl ?_
 refine zJ (ev_move rfl) ?_
 refine zJ (ev_lenS rfl slt_23) ?_
 refine zJ (ev_cmp rfl rfl rfl) ?_
 refine XO_or0 rfl rfl rfl rfl rfl ?_
 refine zM ?_
 refine XO_pushF 15 rfl rfl rfl ?_
 refine zJ (ev_move rfl) ?_
 refine zJ (ev_lenS rfl slt_24) ?_
 refine zJ (ev_cmp rfl rfl rfl) ?_
 refine XO_or0 rfl rfl rfl rfl rfl ?_
 refine zM ?_
 refine XO_pushF 20 rfl rfl rfl ?_
 refine zJ (ev_move rfl) ?_
 refine XO_callV1 (cap := []) (vs := [_]) rfl rfl fun_6 (fun hg => L.w_rcheck hLs (by simp [conj] at hg; omega)) (.some rfl rfl rfl rfl gbf) rfl rfl ?_
 refine zJ (ev_cmp rfl rfl rfl) ?_
 refine XO_or0 rfl rfl rfl rfl rfl ?_
 refine zN ?_
 refine zI ?_ ?_ <;> intro hc95
 ·
  refine zR ?_
  refine zA ?_
  refine zN ?_
  refine X_ret ?_
  refine at_then_r ?_
  exact at_ret1 rfl rfl (fun w hw => ⟨by rfl, (hw.mono hIc).drop⟩)
 obtain ⟨hq1, hq2, hq3, hq4, hq5⟩ := top_guard hc95
 have hfew := fewS_bd hq1
 have hvl := hasL_bd (ls := ls) (day := day) (time := time) (pp := pp) hfew.2.2.2.1
 refine X_skip ?_
 refine at_then ?_
 refine X_seq ?_
 refine zR ?_
 refine zM ?_
 refine zM ?_
 refine zM ?_
 refine XO_callV0 (cap := []) (vs := [_, _, _, _]) rfl rfl fun_7 (L.w_Has hLs (by omega) 0 day time) rfl rfl ?_
 refine zM ?_
 refine zE ?_
 refine zE ?_
 refine zA ?_
 refine zA ?_
 refine zN (zR ?_)
 refine zM ?_
 refine zC ?_
 refine zN ?_
 refine zI ?_ ?_ <;> intro hc104
 ·
  refine zR ?_
  refine zA ?_
  refine zN ?_
  refine X_ret ?_
  refine at_then_r ?_
  exact at_ret1 rfl rfl (fun w hw => ⟨by rfl, (hw.mono hIc).drop⟩)
 have h0E : L.hasE (L.chk ls) 0 day time = 0 := by simpa using hc104
 have hth := (hasE_then (p := 0) (day := day) (time := time) (by rw [hq5] at h0E; exact h0E)).1
 refine X_skip ?_
 refine at_then ?_
 refine zR ?_
 refine zA ?_
 refine zN (zR ?_)
 refine XO_makeMap rfl rfl (fun r_105 => ?_)
 refine zA ?_
 refine zN ?_
 refine X_seq ?_
 refine zR ?_
 refine zM ?_
 refine zQ slt_24 ?_
 refine zM ?_
 refine zN ?_
 refine X_block ?_
 refine X_loopT [(0, _), (1, _), (2, _), (3, _), (4, _), (5, _), (6, _), (15, _), (20, _), (106, _), (107, _)] (.cons rfl (.cons rfl (.cons rfl (.cons rfl (.cons rfl (.cons rfl (.cons rfl (.cons rfl (.cons rfl (.cons rfl (.cons rfl .nil))))))))))) (fun T L0 mz E I' loc' => ∃ (k : Nat) (v : Value) (Lv : Go.Kn.Loc) (hs : List Hd) (sm : SM), mz = n5 - k ∧ E = (19, v) :: (108, .int .i64 k) :: T ∧ I = I' ∧ Lv ++ [(r_105, Kn.setO sm.1 sm.2), (b_15, .cells (encCH x).toArray 28 (0, 0))] = loc' ∧ k ≤ n5 ∧ OwnS 24 1 v k (hs.flatMap encH) Lv ∧ RelA I' 1 encI hs (hasL ls vss day time (pp.take k)) ∧ PplOK ls vss day time (pp.take k) ∧ SetL sm (pp.take k)) _ _ _ _ ⟨0, _, [], [], ([], 0), rfl, rfl, rfl, rfl, Nat.zero_le _, OwnS.nil, relA_nil (by rw [List.take_zero]; rfl), PplOK.nil, by rw [List.take_zero]; exact SetL.nil⟩ (.cons rfl (.cons rfl (.cons rfl (.cons rfl (.cons rfl (.cons rfl (.cons rfl (.cons rfl (.cons rfl (.cons rfl (.cons rfl (.cons rfl (.cons rfl .nil))))))))))))) (HLe.refl _) rfl ?_
 rintro mz E I' loc' ⟨k, v, Lv, hs, sm, rfl, rfl, rfl, rfl, hk, hO, hRl, hPp, hsm⟩
 refine zR ?_
 refine zC ?_
 refine zN ?_
 refine X_seq ?_
 refine zI ?_ ?_ <;> intro hc109
 ·
  have hlt_k : k < n5 := by have h := hc109; simp at h; omega
  obtain ⟨p, hp⟩ := hPe.at hlt_k
  refine X_skip ?_
  refine at_then ?_
  refine X_seq ?_
  refine X_block ?_
  refine zR ?_
  refine zV (ev_indexSl rfl rfl slt_24 hPe (fun hg => by omega)) ?_
  refine zV (ev_load rfl sct_3 (fun hg => by exact Sl.get0 hPe hp rfl)) ?_
  refine zA ?_
  refine zN (zR ?_)
  refine zM ?_
  refine zM ?_
  refine zM ?_
  refine zM ?_
  refine XO_callV0 (cap := []) (vs := [_, _, _, _]) rfl rfl fun_7 (L.w_Has hLs (by omega) p day time) rfl rfl ?_
  refine zM ?_
  refine zE ?_
  refine zE ?_
  refine zA ?_
  refine zA ?_
  refine zN ?_
  refine X_seq ?_
  refine zR ?_
  refine zM ?_
  refine zC ?_
  refine zM ?_
  refine XO_pushF 2 rfl rfl rfl ?_
  refine zJ (ev_move rfl) ?_
  refine zJ (ev_move rfl) ?_
  refine zJ (ev_lenS rfl slt_23) ?_
  refine zJ (ev_cmp rfl rfl rfl) ?_
  refine XO_or0 rfl rfl rfl rfl rfl ?_
  refine zM ?_
  refine XO_pushF 8 rfl rfl rfl ?_
  refine zJ (ev_move rfl) ?_
  refine zJ (ev_move rfl) ?_
  refine zJ (ev_lookupS (m := sm.1) (c := sm.2) (a := p) mpt_35 und_3 rfl rfl (fun _ => .inr (List.mem_append_right _ (List.mem_cons_self ..)))) ?_
  refine XO_or0 rfl rfl rfl rfl rfl ?_
  refine zN ?_
  refine zI ?_ ?_ <;> intro hc132
  ·
   refine zR ?_
   refine zA ?_
   refine zN ?_
   refine X_ret ?_
   refine at_then_r ?_
   refine at_block_r ?_
   refine at_then_r ?_
   refine at_then_r ?_
   refine at_block_r ?_
   refine at_then_r ?_
   exact at_ret1 rfl rfl (fun w hw => ⟨by rfl, (hw.mono hIc).drop⟩)
  have hne := ppl_no hc132
  have hok := has_ok hq5 hth hne.1
  have hE0 := hok.1
  have hV0 := hasV_01 hq5 hE0
  have hle := hne.2.1
  have hpn : p ∉ pp.take k := fun g => hne.2.2 ((hsm.2 p).2 g)
  refine X_skip ?_
  refine at_then ?_
  refine X_seq ?_
  refine zR ?_
  refine zM ?_
  refine zC ?_
  refine zM ?_
  refine XO_pushF 2 rfl rfl rfl ?_
  refine zJ (ev_move rfl) ?_
  refine zJ (ev_cmp rfl rfl rfl) ?_
  refine XO_or0 rfl rfl rfl rfl rfl ?_
  refine zN ?_
  refine zI ?_ ?_ <;> intro hc138
  ·
   exact absurd hc138 (by rw [hE0]; simp; omega)
  refine X_skip ?_
  refine at_then ?_
  refine zR ?_
  refine zM ?_
  refine zM ?_
  refine XO_putS (m := sm.1) (c := sm.2) (a := p) mpt_35 und_3 rfl rfl rfl rfl (upd_app .here) ?_
  refine zN (zR ?_)
  refine zA ?_
  refine zN ?_
  refine X_cutT [(0, _), (1, _), (2, _), (3, _), (4, _), (5, _), (6, _), (15, _), (19, _), (20, _), (106, _), (107, _), (108, _)] (.cons rfl (.cons rfl (.cons rfl (.cons rfl (.cons rfl (.cons rfl (.cons rfl (.cons rfl (.cons rfl (.cons rfl (.cons rfl (.cons rfl (.cons rfl .nil))))))))))))) (fun T L0 E I' loc' => ∃ (ba : Option Addr) (bn bc : Nat), E = (25, .slice ba bn bc) :: T ∧ I = I' ∧ Lv ++ [(r_105, Kn.setO (sput sm.1 sm.2 p).1 (sput sm.1 sm.2 p).2), (b_15, .cells (encCH x).toArray 28 (0, 0))] = loc' ∧ Sl I' 1 encI ba bn bc (L.ownF ls vss p day time)) ?_ ?_
  ·
   refine zR ?_
   refine zM ?_
   refine zC ?_
   refine zN ?_
   refine zI ?_ ?_ <;> intro hc142
   ·
    have hpos : L.hasV ls p day time > 0 := by have h := hc142; simp at h; omega
    obtain ⟨hd, v0, hhd, hv0, hQ⟩ := hV.at (k := (L.hasV ls p day time - 1).toNat) (by omega)
    refine X_region ?_
    refine zM ?_
    refine zM ?_
    refine zB ?_
    refine zV (ev_indexSl rfl rfl slt_23 hV.1 (fun hg => by omega)) ?_
    refine zV (ev_load rfl sct_24 (fun hg => by exact Sl.get0 (k := (L.hasV ls p day time - 1).toNat) hV.1 hhd rfl)) ?_
    refine zA ?_
    refine XO_nil ?_
    first
    | exact at_met2 _ _ ⟨hd.a, hd.n, hd.c, rfl, rfl, rfl, by rw [L.own_pos (by omega) (by rw [← hV0]; exact hv0)]; exact hQ⟩ (.cons rfl (.cons rfl (.cons rfl (.cons rfl (.cons rfl (.cons rfl (.cons rfl (.cons rfl (.cons rfl (.cons rfl (.cons rfl (.cons rfl (.cons rfl (.cons rfl .nil)))))))))))))) (by repeat (first | exact .refl | exact subL_left | refine subL_app ?_ | refine .drop ?_ | refine subL_add ?_))
   have hpos : ¬ L.hasV ls p day time > 0 := by have h := hc142; simp at h; omega
   refine X_skip ?_
   first
   | exact at_met2 _ _ ⟨none, 0, 0, rfl, rfl, rfl, by rw [L.own_zero (by omega)]; exact .nil⟩ (.cons rfl (.cons rfl (.cons rfl (.cons rfl (.cons rfl (.cons rfl (.cons rfl (.cons rfl (.cons rfl (.cons rfl (.cons rfl (.cons rfl (.cons rfl (.cons rfl .nil)))))))))))))) (by repeat (first | exact .refl | exact subL_left | refine subL_app ?_ | refine .drop ?_ | refine subL_add ?_))
  rintro E I' loc' ⟨ba, bn, bc, rfl, rfl, rfl, hBV⟩
  refine X_region ?_
  refine zM ?_
  refine zM ?_
  refine XO_buildSlice (ps := [(0, _)]) (m := [encH ⟨ba, bn, bc⟩]) elt_23 rfl (.cons rfl (.nil)) rfl (by simp [encI_len, encH_len, L.encL_len]) (by decide) (by decide) rfl rfl (fun b_150 => ?_)
  refine XO_append (v := _) (ys := [(⟨ba, bn, bc⟩ : Hd)].flatMap encH) (L := Lv) rfl rfl elt_23 hO (by repeat (first | exact .cons .here .nil | exact split_all | exact split_app | apply split_cons | apply split_skip)) ⟨rfl, fun _ => rfl, by repeat (first | exact Cells.here | apply Cells.there | apply Cells.app)⟩ (one_H _) (by omega) rfl rfl ?_
  intro v9 L9 hO9 _; rw [← List.flatMap_append] at hO9
  refine zA ?_
  refine XO_nil ?_
  refine at_block_n ?_
  refine at_then ?_
  refine X_region ?_
  refine zB ?_
  refine zM ?_
  refine XO_nil ?_
  exact at_met2 _ _ ⟨n5 - (k + 1), by omega, k + 1, _, L9, hs ++ [⟨ba, bn, bc⟩], sput sm.1 sm.2 p, rfl, rfl, rfl, rfl, by omega, hO9, by rw [hasL_snoc hp]; exact relA_snoc hRl hBV, hPp.snoc hp hpn hE0 (by omega), hsm.put hp⟩ (.cons rfl (.cons rfl (.cons rfl (.cons rfl (.cons rfl (.cons rfl (.cons rfl (.cons rfl (.cons rfl (.cons rfl (.cons rfl (.cons rfl (.cons rfl .nil))))))))))))) (by repeat (first | exact .refl | exact subL_left | refine subL_app ?_ | refine .drop ?_ | refine subL_add ?_))
 have hge_k : n5 ≤ k := by have h := hc109; simp at h; omega
 have hke : k = n5 := by omega
 rw [take_all hlP hge_k] at hRl hPp
 refine X_exit ?_
 refine at_then_e ?_
 refine at_then_e ?_
 refine at_block_hit ?_
 refine at_then ?_
 refine X_seq ?_
 refine X_freezeO hO encH_len (by decide) (by repeat (first | exact .cons .here .nil | exact split_all | exact split_app | apply split_cons | apply split_skip)) (fun I3 hI3 af3 cf3 ef3 hHs => ?_)
 subst ef3
 have hP := hP.mono hI3; have hV := hV.mono hI3; have hT := hT.mono hI3; have hLs := hLs.mono hI3; have hPe := hPe.mono hI3; have hC := hC.mono hI3; have hRl := hRl.mono hI3; have hIc := hIc.trans hI3
 have hHV : SlHA I3 1 encI _ _ _ hs (hasL ls vss day time pp) := ⟨hHs, hRl⟩
 refine X_region ?_
 refine zM ?_
 refine zM ?_
 refine zM ?_
 refine XO_callM (cap := []) (vs := [_, _, _]) rfl rfl fun_8 .nil (w_From hP (by omega) hT (by omega) hHV (by omega) hvl) rfl rfl ?_
 rintro vv4 I4 L4 hI4 ⟨rfl, fa1, fc1, rfl, hs1, hS1⟩
 have hP := hP.mono hI4; have hV := hV.mono hI4; have hT := hT.mono hI4; have hLs := hLs.mono hI4; have hPe := hPe.mono hI4; have hC := hC.mono hI4; have hRl := hRl.mono hI4; have hHs := hHs.mono hI4; have hHV := hHV.mono hI4; have hIc := hIc.trans hI4
 refine zM ?_
 refine zE ?_
 refine zE ?_
 refine zA ?_
 refine zA ?_
 refine zN ?_
 refine X_seq ?_
 refine zR ?_
 refine zM ?_
 refine zC ?_
 refine zN ?_
 refine zI ?_ ?_ <;> intro hc161
 ·
  have hE : fromE ps tg (hasL ls vss day time pp) ≠ 0 := by simpa using hc161
  refine zR ?_
  refine zM ?_
  refine zQ slt_26 ?_
  refine zC ?_
  refine zA ?_
  refine zN ?_
  refine X_ret ?_
  refine at_then_r ?_
  first
  | exact at_ret1 rfl rfl (fun w hw => ⟨by rw [fromR_no hE]; rfl, (hw.mono hIc).drop⟩)
 have hE : fromE ps tg (hasL ls vss day time pp) = 0 := by simpa using hc161
 have hfl := fromR_len ps tg (hasL ls vss day time pp)
 obtain ⟨hL, hTv, hVv, hcE, hcF⟩ := fromE_ver hE
 refine X_skip ?_
 refine at_then ?_
 refine zR ?_
 refine zM ?_
 refine zQ slt_24 ?_
 refine XO_makeSlice mkt_38 rfl rfl (by omega) (by decide) rfl rfl (fun b_167 => ?_)
 refine zA ?_
 refine zN ?_
 refine X_seq ?_
 refine X_seq ?_
 refine X_dropTo (omB b_167 35 (List.replicate n5 none) ++ [(b_15, .cells (encCH x).toArray 28 (0, 0))]) (by rw [omB_make]; exact .keep (.drop .refl)) ?_
 refine X_region ?_
 refine zM ?_
 refine zQ slt_26 ?_
 refine zM ?_
 refine zN ?_
 refine X_block ?_
 refine X_loopT [(1, _), (2, _), (3, _), (4, _), (5, _), (6, _), (15, _), (26, _), (28, _), (168, _), (169, _)] (.cons rfl (.cons rfl (.cons rfl (.cons rfl (.cons rfl (.cons rfl (.cons rfl (.cons rfl (.cons rfl (.cons rfl (.cons rfl .nil))))))))))) (fun T L0 mz E I' loc' => ∃ (k : Nat) (os : List OM), mz = (fromR ps tg (hasL ls vss day time pp)).length - k ∧ E = (170, .int .i64 k) :: T ∧ I4 = I' ∧ omB b_167 35 os ++ [(b_15, .cells (encCH x).toArray 28 (0, 0))] = loc' ∧ k ≤ (fromR ps tg (hasL ls vss day time pp)).length ∧ os.length = n5 ∧ OmOK os fun i x => isIn ((fromR ps tg (hasL ls vss day time pp)).take k) i x) _ _ _ _ ⟨0, List.replicate n5 none, rfl, rfl, rfl, rfl, Nat.zero_le _, List.length_replicate .., by rw [List.take_zero]; exact OmOK.zero n5⟩ (.cons rfl (.cons rfl (.cons rfl (.cons rfl (.cons rfl (.cons rfl (.cons rfl (.cons rfl (.cons rfl (.cons rfl (.cons rfl (.cons rfl .nil)))))))))))) (HLe.refl _) rfl ?_
 rintro mz E I' loc' ⟨k, os, rfl, rfl, rfl, rfl, hk, hol, hom⟩
 refine zR ?_
 refine zC ?_
 refine zN ?_
 refine X_seq ?_
 refine zI ?_ ?_ <;> intro hc171
 ·
  have hlt_k : k < (fromR ps tg (hasL ls vss day time pp)).length := by have h := hc171; simp at h; omega
  obtain ⟨k0, s0, hk0, hs0, hpa, hef, hW, hNd⟩ := hS1.at hlt_k
  obtain ⟨q, hq, hsa, hsw⟩ := from_at (by rw [← fromR_0 hE]; exact hs0)
  have hwl := hW.len
  have hwn : k0.n ≤ 1000 := by have h := diffK_len tg (hasL ls vss day time pp) q.id (hasL ls vss day time pp).length; rw [diffK_all, ← hsw, hasL_len] at h; omega
  refine X_skip ?_
  refine at_then ?_
  refine X_seq ?_
  refine X_block ?_
  refine zR ?_
  refine zV (ev_indexSl rfl rfl slt_26 hS1.1 (fun hg => by omega)) ?_
  refine zV (ev_loadA rfl agt_40 (fun hg => by exact Sl.getA hS1.1 hk0) rfl) ?_
  refine XO_alloc zt_40 rfl rfl (fun b_30 => ?_)
  refine XO_storeA rfl rfl szt_40 rfl rfl rfl rfl (by repeat (first | exact Upd.here | apply Upd.there | apply upd_app)) ?_
  refine zN (zR ?_)
  refine zF fld_40_2 ?_
  refine zV (ev_load rfl sct_24 (fun hg => by (repeat (first | exact Cell.here rfl | apply Cell.there | apply Cell.app)))) ?_
  refine zQ slt_24 ?_
  refine zM ?_
  refine zN ?_
  refine X_block ?_
  refine X_loopT [(1, _), (2, _), (3, _), (4, _), (5, _), (6, _), (15, _), (26, _), (28, _), (30, _), (168, _), (169, _), (170, _), (175, _), (176, _)] (.cons rfl (.cons rfl (.cons rfl (.cons rfl (.cons rfl (.cons rfl (.cons rfl (.cons rfl (.cons rfl (.cons rfl (.cons rfl (.cons rfl (.cons rfl (.cons rfl (.cons rfl .nil))))))))))))))) (fun T L0 mz E I' loc' => ∃ (j : Nat) (os : List OM), mz = k0.n - j ∧ E = (177, .int .i64 j) :: T ∧ I4 = I' ∧ (b_30, .cells (encSH k0).toArray 40 (0, 0)) :: (omB b_167 35 os ++ [(b_15, .cells (encCH x).toArray 28 (0, 0))]) = loc' ∧ j ≤ k0.n ∧ os.length = n5 ∧ OmOK os (oP (fromR ps tg (hasL ls vss day time pp)) k s0.who j k0.pa)) _ _ _ _ ⟨0, os, rfl, rfl, rfl, rfl, Nat.zero_le _, hol, hom.congr fun i x => oP_zero i x⟩ (.cons rfl (.cons rfl (.cons rfl (.cons rfl (.cons rfl (.cons rfl (.cons rfl (.cons rfl (.cons rfl (.cons rfl (.cons rfl (.cons rfl (.cons rfl (.cons rfl (.cons rfl (.cons rfl .nil)))))))))))))))) (HLe.refl _) rfl ?_
  rintro mz E I' loc' ⟨j, os, rfl, rfl, rfl, rfl, hj, hol, hom⟩
  refine zR ?_
  refine zC ?_
  refine zN ?_
  refine X_seq ?_
  refine zI ?_ ?_ <;> intro hc178
  ·
   have hlt_j : j < k0.n := by have h := hc178; simp at h; omega
   obtain ⟨pI, hpI⟩ := hW.at hlt_j
   obtain ⟨pk, v0, rfl, hv0, hdf⟩ := who_at (by rw [← hsw]; exact hpI)
   have hpk := (List.getElem?_eq_some_iff.1 hv0).1
   rw [hasL_len] at hpk
   obtain ⟨o, ho⟩ : ∃ o, os[pk]? = some o := ⟨_, List.getElem?_eq_getElem (by omega)⟩
   refine X_skip ?_
   refine at_then ?_
   refine X_seq ?_
   refine X_block ?_
   refine zR ?_
   refine zV (ev_indexSl rfl rfl slt_24 hW (fun hg => by omega)) ?_
   refine zV (ev_load rfl sct_3 (fun hg => by exact Sl.get0 hW hpI rfl)) ?_
   refine zA ?_
   refine zN ?_
   refine X_seq ?_
   refine zR ?_
   refine zM ?_
   refine zC ?_
   refine zM ?_
   refine XO_pushF 2 rfl rfl rfl ?_
   refine zJ (ev_move rfl) ?_
   refine zJ (ev_move rfl) ?_
   refine zJ (ev_lenS rfl slt_24) ?_
   refine zJ (ev_cmp rfl rfl rfl) ?_
   refine XO_or0 rfl rfl rfl rfl rfl ?_
   refine zN ?_
   refine zI ?_ ?_ <;> intro hc188
   ·
    have h := hc188; simp at h; omega
   refine X_skip ?_
   refine at_then ?_
   refine X_cutT [(1, _), (2, _), (3, _), (4, _), (5, _), (6, _), (15, _), (26, _), (28, _), (30, _), (32, _), (168, _), (169, _), (170, _), (175, _), (176, _), (177, _)] (.cons rfl (.cons rfl (.cons rfl (.cons rfl (.cons rfl (.cons rfl (.cons rfl (.cons rfl (.cons rfl (.cons rfl (.cons rfl (.cons rfl (.cons rfl (.cons rfl (.cons rfl (.cons rfl (.cons rfl .nil))))))))))))))))) (fun T L0 E I' loc' => ∃ (os1 : List OM) (r1 : Nat) (m1 : SM), E = T ∧ I4 = I' ∧ (b_30, .cells (encSH k0).toArray 40 (0, 0)) :: (omB b_167 35 os1 ++ [(b_15, .cells (encCH x).toArray 28 (0, 0))]) = loc' ∧ os1.length = n5 ∧ OmOK os1 (oP (fromR ps tg (hasL ls vss day time pp)) k s0.who j k0.pa) ∧ os1[pk]? = some (some (r1, m1))) ?_ ?_
   ·
    refine zR ?_
    refine zM ?_
    refine zM ?_
    refine zV (ev_indexOwn rfl rfl slt_38 (fun hg => by omega)) ?_
    refine zV (ev_load rfl sct_35 (fun hg => by exact (Cell.there (omB_cell1 ho _)))) ?_
    refine zV (ev_mapNil rfl rfl und_35) ?_
    refine zN ?_
    refine zI ?_ ?_ <;> intro hc193
    ·
     obtain rfl : o = none := by cases o <;> simp_all
     refine X_region ?_
     refine zM ?_
     refine zM ?_
     refine XO_makeMap rfl rfl (fun r_196 => ?_)
     refine zV (ev_indexOwn rfl rfl slt_38 (fun hg => by omega)) ?_
     refine XO_store rfl rfl szt_35 rfl rfl (Upd.there (Upd.there Upd.here)) (by simp; omega) ?_
     refine XO_nil ?_
     first
     | exact at_metP _ _ _ ⟨os.set pk (some (r_196, ([], 0))), r_196, ([], 0), rfl, rfl, rfl, by rw [List.length_set]; exact hol, hom.make ho r_196, om_make r_196 ([], 0) (by omega)⟩ (.cons rfl (.cons rfl (.cons rfl (.cons rfl (.cons rfl (.cons rfl (.cons rfl (.cons rfl (.cons rfl (.cons rfl (.cons rfl (.cons rfl (.cons rfl (.cons rfl (.cons rfl (.cons rfl (.cons rfl .nil))))))))))))))))) (omB_perm (b_30, .cells (encSH k0).toArray 40 (0, 0)) b_167 35 r_196 ho [(b_15, .cells (encCH x).toArray 28 (0, 0))]) .refl
    obtain ⟨⟨r1, m1⟩, rfl⟩ : ∃ q, o = some q := by cases o <;> simp_all
    refine X_skip ?_
    exact at_met2 _ _ ⟨os, r1, m1, rfl, rfl, rfl, hol, hom, ho⟩ (.cons rfl (.cons rfl (.cons rfl (.cons rfl (.cons rfl (.cons rfl (.cons rfl (.cons rfl (.cons rfl (.cons rfl (.cons rfl (.cons rfl (.cons rfl (.cons rfl (.cons rfl (.cons rfl (.cons rfl .nil))))))))))))))))) (by repeat (first | exact .refl | exact subL_left | refine subL_app ?_ | refine .drop ?_ | refine subL_add ?_))
   rintro E I' loc' ⟨os1, r1, m1, rfl, rfl, rfl, hol1, hom1, ho1⟩
   have hD := HLe.refl I4
   refine X_noP ?_
   refine X_drawS I4 [(b_30, .cells (encSH k0).toArray 40 (0, 0)), (b_167, .cells (os1.map omV).toArray 35 (0, 0))] mixed ?_
   refine zT 0 rfl (ev_move rfl) hD ?_
   refine zT 1 rfl (ev_move rfl) hD ?_
   refine zT 2 rfl (ev_indexOwn rfl rfl slt_38 (fun hg => by omega)) hD ?_
   refine zT 3 rfl (ev_load rfl sct_35 (fun hg => by exact (Cell.there (om_cell2 ho1 _)))) hD ?_
   refine zT 4 rfl (ev_fieldAddr rfl fld_40_0) hD ?_
   refine zT 5 rfl (ev_load rfl sct_3 (fun hg => by (repeat (first | exact Cell.here rfl | apply Cell.there | apply Cell.app)))) hD ?_
   refine XD_one 6 rfl (by kernel_rfl) ?_
   refine XO_putS (m := m1.1) (c := m1.2) (a := k0.pa) mpt_35 und_3 rfl rfl rfl rfl (.there (.there (omL_upd [(b_15, .cells (encCH x).toArray 28 (0, 0))] (sput m1.1 m1.2 k0.pa) ho1))) ?_
   refine XO_nil ?_
   refine zD hD ?_
   refine XD_done (by kernel_rfl) ?_
   refine at_noP ?_
   refine at_block_n ?_
   refine at_then ?_
   refine X_region ?_
   refine zB ?_
   refine zM ?_
   refine XO_nil ?_
   exact at_met2 _ ((b_30, .cells (encSH k0).toArray 40 (0, 0)) :: (omB b_167 35 (os1.set pk (some (r1, sput m1.1 m1.2 k0.pa))) ++ [(b_15, .cells (encCH x).toArray 28 (0, 0))])) ⟨k0.n - (j + 1), by omega, j + 1, os1.set pk (some (r1, sput m1.1 m1.2 k0.pa)), rfl, rfl, rfl, rfl, by omega, by rw [List.length_set]; exact hol1, hom1.put hpI ho1⟩ (.cons rfl (.cons rfl (.cons rfl (.cons rfl (.cons rfl (.cons rfl (.cons rfl (.cons rfl (.cons rfl (.cons rfl (.cons rfl (.cons rfl (.cons rfl (.cons rfl (.cons rfl (.cons rfl .nil)))))))))))))))) (by rw [omB_same _ ho1]; exact .refl)
  have hge_j : k0.n ≤ j := by have h := hc178; simp at h; omega
  have hom2 := hom.congr fun i x => (by rw [hpa]; exact oP_full hs0 (by omega) i x : _ = isIn ((fromR ps tg (hasL ls vss day time pp)).take (k + 1)) i x)
  refine X_exit ?_
  refine at_then_e ?_
  refine at_then_e ?_
  refine at_block_hit ?_
  refine at_block_n ?_
  refine at_then ?_
  refine X_region ?_
  refine zB ?_
  refine zM ?_
  refine XO_nil ?_
  exact at_met2 _ _ ⟨(fromR ps tg (hasL ls vss day time pp)).length - (k + 1), by omega, k + 1, os, rfl, rfl, rfl, rfl, by omega, hol, hom2⟩ (.cons rfl (.cons rfl (.cons rfl (.cons rfl (.cons rfl (.cons rfl (.cons rfl (.cons rfl (.cons rfl (.cons rfl (.cons rfl (.cons rfl .nil)))))))))))) (by repeat (first | exact .refl | exact subL_left | refine subL_app ?_ | refine .drop ?_ | refine subL_add ?_))
 have hge_k : (fromR ps tg (hasL ls vss day time pp)).length ≤ k := by have h := hc171; simp at h; omega
 rw [List.take_of_length_le hge_k, fromR_0 hE] at hom
 refine X_exit ?_
 refine at_then_e ?_
 refine at_then_e ?_
 refine at_block_hit ?_
 refine at_then ?_
 refine X_seq ?_
 refine X_seq ?_
 refine X_freezeL (L := omB b_167 35 os) split_app (fun I8 hI8 hb8 => ?_)
 have hP := hP.mono hI8; have hV := hV.mono hI8; have hT := hT.mono hI8; have hLs := hLs.mono hI8; have hPe := hPe.mono hI8; have hC := hC.mono hI8; have hRl := hRl.mono hI8; have hHs := hHs.mono hI8; have hHV := hHV.mono hI8; have hS1 := hS1.mono hI8; have hIc := hIc.trans hI8
 have hOm : ImmO I8 b_167 35 os := hb8
 refine X_region ?_
 refine zM ?_
 refine zQ slt_24 ?_
 refine zM ?_
 refine zN ?_
 refine X_block ?_
 refine X_loopT [(1, _), (2, _), (3, _), (4, _), (5, _), (6, _), (15, _), (26, _), (28, _), (206, _), (207, _)] (.cons rfl (.cons rfl (.cons rfl (.cons rfl (.cons rfl (.cons rfl (.cons rfl (.cons rfl (.cons rfl (.cons rfl (.cons rfl .nil))))))))))) (fun T L0 mz E I' loc' => ∃ (i : Nat), mz = n5 - i ∧ E = (208, .int .i64 i) :: T ∧ HLe I8 I' ∧ [(b_15, .cells (encCH x).toArray 28 (0, 0))] = loc' ∧ i ≤ n5 ∧ ∀ p ∈ pp.take i, L.gapE ls vss p day time tg = 0) _ _ _ _ ⟨0, rfl, rfl, HLe.refl _, rfl, Nat.zero_le _, fun p hp => by simp at hp⟩ (.cons rfl (.cons rfl (.cons rfl (.cons rfl (.cons rfl (.cons rfl (.cons rfl (.cons rfl (.cons rfl (.cons rfl (.cons rfl (.cons rfl .nil)))))))))))) (HLe.refl _) rfl ?_
 rintro mz E J9 loc' ⟨i, rfl, rfl, hJ, rfl, hi, hgp⟩
 have hP := hP.mono hJ; have hV := hV.mono hJ; have hT := hT.mono hJ; have hLs := hLs.mono hJ; have hPe := hPe.mono hJ; have hC := hC.mono hJ; have hRl := hRl.mono hJ; have hHs := hHs.mono hJ; have hHV := hHV.mono hJ; have hS1 := hS1.mono hJ; have hOm := hOm.mono hJ; have hIc := hIc.trans hJ
 have hB6 := hJ
 refine zR ?_
 refine zC ?_
 refine zN ?_
 refine X_seq ?_
 refine zI ?_ ?_ <;> intro hc209
 ·
  have hlt_i : i < n5 := by have h := hc209; simp at h; omega
  obtain ⟨p, hp⟩ := hPe.at hlt_i
  obtain ⟨hpE, hpF⟩ := hPp.2 p (List.mem_of_getElem? hp)
  obtain ⟨o, ho⟩ : ∃ o, os[i]? = some o := ⟨_, List.getElem?_eq_getElem (by omega)⟩
  have hav := hasL_at (ls := ls) (vss := vss) (day := day) (time := time) hp
  refine X_skip ?_
  refine at_then ?_
  refine X_seq ?_
  refine X_block ?_
  refine zR ?_
  refine zM ?_
  refine zV (ev_indexSl rfl rfl slt_24 hPe (fun hg => by omega)) ?_
  refine zV (ev_load rfl sct_3 (fun hg => by exact Sl.get0 hPe hp rfl)) ?_
  refine zA ?_
  refine zA ?_
  refine zN ?_
  refine X_seq ?_
  have hVN : SlN J9 bv n2 c2 vss := ⟨hsh, hV.1, hV.2.1, hV.2.2⟩
  refine X_region ?_
  refine zM ?_
  refine zM ?_
  refine zM ?_
  refine zM ?_
  refine zM ?_
  refine zM ?_
  refine XO_callM (cap := []) (vs := [_, _, _, _, _, _]) rfl rfl fun_9 .nil (L.w_Gap hLs (by omega) hVN (by omega) p day time hT) rfl rfl ?_
  rintro vv10 I10 L10 hI10 ⟨rfl, ga1, gn1, gc1, gb1, gm1, gd1, rfl, hA1, hB1⟩
  have hP := hP.mono hI10; have hV := hV.mono hI10; have hT := hT.mono hI10; have hLs := hLs.mono hI10; have hPe := hPe.mono hI10; have hC := hC.mono hI10; have hRl := hRl.mono hI10; have hHs := hHs.mono hI10; have hHV := hHV.mono hI10; have hS1 := hS1.mono hI10; have hOm := hOm.mono hI10; have hIc := hIc.trans hI10
  have hB6 := hB6.trans hI10
  rw [List.nil_append]
  refine zM ?_
  refine zE ?_
  refine zE ?_
  refine zE ?_
  refine zA ?_
  refine zA ?_
  refine zA ?_
  refine zN ?_
  refine X_seq ?_
  refine zR ?_
  refine zM ?_
  refine zC ?_
  refine zM ?_
  refine XO_pushF 2 rfl rfl rfl ?_
  refine zJ (ev_move rfl) ?_
  refine zJ (ev_cmp rfl rfl rfl) ?_
  refine XO_or0 rfl rfl rfl rfl rfl ?_
  refine zN ?_
  refine zI ?_ ?_ <;> intro hc229
  ·
   refine zR ?_
   refine zA ?_
   refine zN ?_
   refine X_ret ?_
   refine at_then_r ?_
   refine at_block_r ?_
   refine at_then_r ?_
   refine at_then_r ?_
   refine at_block_r ?_
   refine at_then_r ?_
   exact at_ret1 rfl rfl (fun w hw => ⟨by rfl, (hw.mono hIc).drop⟩)
  have hgg := gap_no hc229
  have hg0 := gap_0 hq5 hpE hpF hgg.1 hgg.2
  rw [resF_ok hg0] at hA1 hB1
  obtain ⟨hol2, hom3⟩ := om_own hom ho hav hTv (hVv _ (List.mem_of_getElem? hav))
  have hal := hA1.len
  have hbl := hB1.len
  have hgl : gn1 ≤ 600 := by rw [← hal]; exact Nat.le_trans (List.length_filter_le ..) (by omega)
  have hgm : gm1 ≤ 600 := by rw [← hbl]; exact Nat.le_trans (List.length_filter_le ..) (ownF_len hfew.2.2.2.1)
  refine X_skip ?_
  refine at_then ?_
  refine X_seq ?_
  refine zR ?_
  refine zM ?_
  refine zC ?_
  refine zM ?_
  refine XO_pushF 2 rfl rfl rfl ?_
  refine zJ (ev_move rfl) ?_
  refine zJ (ev_lenS rfl slt_24) ?_
  refine zJ (ev_move rfl) ?_
  refine zJ (ev_lenS rfl slt_24) ?_
  refine zJ (ev_arB rfl rfl rfl (fun hg => by omega)) ?_
  refine zJ (ev_move rfl) ?_
  refine zJ (ev_move rfl) ?_
  refine zJ (ev_indexOwn rfl rfl slt_38 (fun hg => by omega)) ?_
  refine zJ (ev_load rfl sct_35 (fun hg => by exact (hOm.cell ho))) ?_
  refine zJ (ev_lenOM (o := o) rfl mpt_35 (fun _ r m e => hOm.mem (e ▸ ho))) ?_
  refine zJ (ev_cmp rfl rfl rfl) ?_
  refine XO_or0 rfl rfl rfl rfl rfl ?_
  refine zN ?_
  refine zI ?_ ?_ <;> intro hc244
  ·
   exact absurd hc244 (by rw [hg0]; simp; omega)
  refine X_skip ?_
  refine at_then ?_
  refine zR ?_
  refine XO_buildSlice (ps := []) (m := []) elt_24 rfl (.nil) rfl (by simp [encI_len, encH_len, L.encL_len]) (by decide) (by decide) rfl rfl (fun b_245 => ?_)
  refine zM ?_
  refine XO_append (v := _) (ys := (L.lessF tg (L.ownF ls vss p day time)).flatMap encI) (L := [(b_245, _)]) rfl rfl elt_24 OwnS.new (by repeat (first | exact .cons .here .nil | exact split_all | exact split_app | apply split_cons | apply split_skip)) (hA1.src encI_len) (one_I _) (by omega) rfl rfl ?_
  intro v5 L5 hO5 _; rw [List.nil_append] at hO5
  refine zM ?_
  refine XO_append (v := _) (ys := (L.lessF (L.ownF ls vss p day time) tg).flatMap encI) (L := L5) rfl rfl elt_24 hO5 (by repeat (first | exact .cons .here .nil | exact split_all | exact split_app | apply split_cons | apply split_skip)) (hB1.src encI_len) (one_I _) (by omega) rfl rfl ?_
  intro v9 L9 hO9 _; rw [← List.flatMap_append] at hO9
  refine XO_freezeO hO9 encI_len (by decide) (by repeat (first | exact .cons .here .nil | exact split_all | exact split_app | apply split_cons | apply split_skip)) (fun I11 hI11 af11 cf11 ef11 hLD => ?_)
  subst ef11
  have hP := hP.mono hI11; have hV := hV.mono hI11; have hT := hT.mono hI11; have hLs := hLs.mono hI11; have hPe := hPe.mono hI11; have hC := hC.mono hI11; have hRl := hRl.mono hI11; have hHs := hHs.mono hI11; have hHV := hHV.mono hI11; have hS1 := hS1.mono hI11; have hOm := hOm.mono hI11; have hA1 := hA1.mono hI11
  have hB1 := hB1.mono hI11; have hIc := hIc.trans hI11; have hB6 := hB6.trans hI11
  refine zQ slt_24 ?_
  refine zM ?_
  refine zN ?_
  refine X_block ?_
  refine X_loopT [(1, _), (2, _), (3, _), (4, _), (5, _), (6, _), (15, _), (26, _), (28, _), (33, _), (206, _), (207, _), (208, _), (249, _), (250, _)] (.cons rfl (.cons rfl (.cons rfl (.cons rfl (.cons rfl (.cons rfl (.cons rfl (.cons rfl (.cons rfl (.cons rfl (.cons rfl (.cons rfl (.cons rfl (.cons rfl (.cons rfl .nil))))))))))))))) (fun T L0 mz E I' loc' => ∃ (j : Nat), mz = (0 + gn1 + gm1) - j ∧ E = (251, .int .i64 j) :: T ∧ I11 = I' ∧ [(b_15, .cells (encCH x).toArray 28 (0, 0))] = loc' ∧ j ≤ (0 + gn1 + gm1)) _ _ _ _ ⟨0, rfl, rfl, rfl, rfl, Nat.zero_le _⟩ (.cons rfl (.cons rfl (.cons rfl (.cons rfl (.cons rfl (.cons rfl (.cons rfl (.cons rfl (.cons rfl (.cons rfl (.cons rfl (.cons rfl (.cons rfl (.cons rfl (.cons rfl (.cons rfl .nil)))))))))))))))) (HLe.refl _) rfl ?_
  rintro mz E I' loc' ⟨j, rfl, rfl, rfl, rfl, hj⟩
  refine zR ?_
  refine zC ?_
  refine zN ?_
  refine X_seq ?_
  refine zI ?_ ?_ <;> intro hc252
  ·
   have hlt_j : j < (0 + gn1 + gm1) := by have h := hc252; simp at h; omega
   obtain ⟨y, hy⟩ := hLD.at hlt_j
   refine X_skip ?_
   refine at_then ?_
   refine X_seq ?_
   refine X_block ?_
   refine zR ?_
   refine zV (ev_indexSl rfl rfl slt_24 hLD (fun hg => by omega)) ?_
   refine zV (ev_load rfl sct_3 (fun hg => by exact Sl.get0 hLD hy rfl)) ?_
   refine zA ?_
   refine zN (zR ?_)
   refine zM ?_
   refine zM ?_
   refine zV (ev_indexOwn rfl rfl slt_38 (fun hg => by omega)) ?_
   refine zV (ev_load rfl sct_35 (fun hg => by exact (hOm.cell ho))) ?_
   refine zM ?_
   refine zV (ev_lookOM (o := o) (a := y) mpt_35 und_3 rfl rfl (fun _ r m e => hOm.mem (e ▸ ho))) ?_
   refine zO ?_
   refine zN ?_
   refine zI ?_ ?_ <;> intro hc261
   ·
    exact absurd hc261 (by rw [decide_eq_true (hom3 y (List.mem_of_getElem? hy))]; decide)
   refine X_skip ?_
   refine at_block_n ?_
   refine at_then ?_
   refine X_region ?_
   refine zB ?_
   refine zM ?_
   refine XO_nil ?_
   exact at_met2 _ _ ⟨(0 + gn1 + gm1) - (j + 1), by omega, j + 1, rfl, rfl, rfl, rfl, by omega⟩ (.cons rfl (.cons rfl (.cons rfl (.cons rfl (.cons rfl (.cons rfl (.cons rfl (.cons rfl (.cons rfl (.cons rfl (.cons rfl (.cons rfl (.cons rfl (.cons rfl (.cons rfl (.cons rfl .nil)))))))))))))))) (by repeat (first | exact .refl | exact subL_left | refine subL_app ?_ | refine .drop ?_ | refine subL_add ?_))
  have hge_j : (0 + gn1 + gm1) ≤ j := by have h := hc252; simp at h; omega
  refine X_exit ?_
  refine at_then_e ?_
  refine at_then_e ?_
  refine at_block_hit ?_
  refine at_block_n ?_
  refine at_then ?_
  refine X_region ?_
  refine zB ?_
  refine zM ?_
  refine XO_nil ?_
  exact at_met2 _ _ ⟨n5 - (i + 1), by omega, i + 1, rfl, rfl, hB6, rfl, by omega, gap_snoc hp hgp hg0⟩ (.cons rfl (.cons rfl (.cons rfl (.cons rfl (.cons rfl (.cons rfl (.cons rfl (.cons rfl (.cons rfl (.cons rfl (.cons rfl (.cons rfl .nil)))))))))))) (by repeat (first | exact .refl | exact subL_left | refine subL_app ?_ | refine .drop ?_ | refine subL_add ?_))
 have hge_i : n5 ≤ i := by have h := hc209; simp at h; omega
 rw [take_all hlP hge_i] at hgp
 refine X_exit ?_
 refine at_then_e ?_
 refine at_then_e ?_
 refine at_block_hit ?_
 refine at_then ?_
 refine zR ?_
 refine zM ?_
 refine zF fld_28_5 ?_
 refine zS szt_26 ?_
 refine zN ?_
 refine X_seq ?_
 refine X_seq ?_
 refine X_freeze .here (fun I13 hI13 hb13 => ?_)
 have hP := hP.mono hI13; have hV := hV.mono hI13; have hT := hT.mono hI13; have hLs := hLs.mono hI13; have hPe := hPe.mono hI13; have hC := hC.mono hI13; have hRl := hRl.mono hI13; have hHs := hHs.mono hI13; have hHV := hHV.mono hI13; have hS1 := hS1.mono hI13; have hOm := hOm.mono hI13; have hIc := hIc.trans hI13
 have hB6 := hB6.trans hI13
 have key8 : ∃ y, y = (⟨x.a, x.n, x.c, x.st, x.da, x.lo, x.ru, fa1, (fromR ps tg (hasL ls vss day time pp)).length, fc1⟩ : CH) := ⟨_, rfl⟩
 obtain ⟨xx, hxx⟩ := key8
 have key9 : ∃ y, y = (⟨cr.days, cr.st, cr.da, cr.lo, cr.ru, (fromR ps tg (hasL ls vss day time pp))⟩ : Cr) := ⟨_, rfl⟩
 obtain ⟨mx, hmx⟩ := key9
 have h15 : ImmC I13 b_15 (.cells (encCH xx).toArray 28 (0, 0)) := ImmC.of (show _ = some (Obj.cells (encCH xx).toArray 28 (0, 0)) by rw [hxx]; exact hb13)
 have hC2 : CrAt I13 xx mx := by rw [hxx, hmx]; exact ⟨hC.1, hC.2.1, hC.2.2.1, hC.2.2.2.1, hC.2.2.2.2.1, ⟨hs1, hS1⟩⟩
 have hms : mx.ss = (fromR ps tg (hasL ls vss day time pp)) := by rw [hmx]
 have hxn : xx.n = x.n := by rw [hxx]
 have hDy : Sl I13 1 encI xx.a xx.n xx.c mx.days := hC2.1
 have hlD : mx.days.length = xx.n := hDy.len
 have hnd2 : ∀ s ∈ mx.ss, s.needs.length ≤ 100000 := fun s hs => (fromR_bd (by rw [hasL_len]; omega) s (hms ▸ hs)).2
 have hwh2 : ∀ s ∈ mx.ss, s.who.length ≤ 100000 := fun s hs => (fromR_bd (by rw [hasL_len]; omega) s (hms ▸ hs)).1
 refine X_region ?_
 refine zV (ev_loadA rfl agt_28 (fun hg => by exact Cells.immC (vs := encCH xx) h15) rfl) ?_
 refine XO_callV0 (cap := []) (vs := [_]) rfl rfl fun_10 (w_rFew hC2) rfl rfl ?_
 refine zO ?_
 refine zM ?_
 refine XO_pushF 3 rfl rfl rfl ?_
 refine zJ (ev_loadA rfl agt_28 (fun hg => by exact Cells.immC (vs := encCH xx) h15) rfl) ?_
 refine XO_callV1 (cap := []) (vs := [_]) rfl rfl fun_11 (fun hg => w_rChk hC2 hnd2 hwh2) (.some rfl rfl rfl rfl gbf) rfl rfl ?_
 refine zJ (ev_cmp rfl rfl rfl) ?_
 refine XO_or0 rfl rfl rfl rfl rfl ?_
 refine zN ?_
 refine zI ?_ ?_ <;> intro hc273
 ·
  refine zR ?_
  refine zA ?_
  refine zN ?_
  refine X_ret ?_
  refine at_then_r ?_
  exact at_ret1 rfl rfl (fun w hw => ⟨by rfl, (hw.mono hIc).drop⟩)
 have hrq : fewC mx = true ∧ chkC mx = 0 := by have h := hc273; simp at h; exact h
 have hk0m := hrq.2
 have hck9 := chkC_0 hk0m
 obtain ⟨hr, h16, h8m, hwh, hpf⟩ := hck9
 refine X_skip ?_
 refine at_then ?_
 refine zR ?_
 refine zV (ev_loadA rfl agt_28 (fun hg => by exact Cells.immC (vs := encCH xx) h15) rfl) ?_
 refine XO_callM (cap := []) (vs := [_]) rfl rfl fun_12 .nil (w_Plan hC2 hnd2) rfl rfl ?_
 rintro vv14 I14 L14 hI14 ⟨rfl, pa1, pc1, rfl, hPl⟩
 have hP := hP.mono hI14; have hV := hV.mono hI14; have hT := hT.mono hI14; have hLs := hLs.mono hI14; have hPe := hPe.mono hI14; have hC := hC.mono hI14; have hRl := hRl.mono hI14; have hHs := hHs.mono hI14; have hHV := hHV.mono hI14; have hS1 := hS1.mono hI14; have hOm := hOm.mono hI14; have h15 := h15.mono hI14
 have hC2 := hC2.mono hI14; have hDy := hDy.mono hI14; have hIc := hIc.trans hI14; have hB6 := hB6.trans hI14
 rw [List.nil_append]
 refine zM ?_
 refine zE ?_
 refine zE ?_
 refine zE ?_
 refine zA ?_
 refine zA ?_
 refine zA ?_
 refine zN ?_
 refine X_seq ?_
 refine zR ?_
 refine zM ?_
 refine zC ?_
 refine zM ?_
 refine XO_pushF 2 rfl rfl rfl ?_
 refine zJ (ev_move rfl) ?_
 refine zJ (ev_move rfl) ?_
 refine XO_pushT 4 rfl rfl rfl ?_
 refine zK (ev_move rfl) ?_
 refine zK (ev_lenS rfl slt_24) ?_
 refine zK (ev_move rfl) ?_
 refine zK (ev_lenS rfl slt_26) ?_
 refine zK (ev_cmp rfl rfl rfl) ?_
 refine XO_and1 rfl rfl rfl (.some rfl rfl rfl rfl gbf) rfl rfl ?_
 refine XO_or0 rfl rfl rfl rfl rfl ?_
 refine zN ?_
 refine zI ?_ ?_ <;> intro hc291
 ·
  exact absurd hc291 (plan_chk hk0m (by rw [hms]))
 have hpN9 := plan_len9 hk0m h8m
 refine X_skip ?_
 refine at_then ?_
 refine zR ?_
 refine zF fld_28_0 ?_
 refine zV (ev_load rfl sct_24 (fun hg => by exact Cell.imm h15 rfl)) ?_
 refine zQ slt_24 ?_
 refine zM ?_
 refine zA ?_
 refine zA ?_
 refine zN ?_
 refine X_cutT [(1, _), (2, _), (3, _), (4, _), (6, _), (15, _), (41, _)] (.cons rfl (.cons rfl (.cons rfl (.cons rfl (.cons rfl (.cons rfl (.cons rfl .nil))))))) (fun T L0 E I' loc' => ∃ (fe la : Int), E = (43, .int .i64 fe) :: (44, .int .i64 la) :: T ∧ I14 = I' ∧ [] = loc' ∧ FL mx fe la time) ?_ ?_
 ·
  refine zR ?_
  refine zM ?_
  refine zN ?_
  refine zI ?_ ?_ <;> intro hc296
  ·
   refine zR ?_
   refine zA ?_
   refine zN ?_
   refine X_seq ?_
   refine zR ?_
   refine zM ?_
   refine zQ slt_24 ?_
   refine zM ?_
   refine zN ?_
   refine X_block ?_
   refine X_loopT [(1, _), (2, _), (3, _), (4, _), (5, _), (6, _), (15, _), (41, _), (44, _), (297, _), (298, _)] (.cons rfl (.cons rfl (.cons rfl (.cons rfl (.cons rfl (.cons rfl (.cons rfl (.cons rfl (.cons rfl (.cons rfl (.cons rfl .nil))))))))))) (fun T L0 mz E I' loc' => ∃ (k : Nat) (fe : Int), mz = (planL mx).length - k ∧ E = (43, .int .i64 fe) :: (299, .int .i64 k) :: T ∧ I14 = I' ∧ [] = loc' ∧ k ≤ (planL mx).length ∧ fe = maxP ((planL mx).take k) - 1) _ _ _ _ ⟨0, -1, rfl, rfl, rfl, rfl, Nat.zero_le _, by rw [List.take_zero]; rfl⟩ (.cons rfl (.cons rfl (.cons rfl (.cons rfl (.cons rfl (.cons rfl (.cons rfl (.cons rfl (.cons rfl (.cons rfl (.cons rfl (.cons rfl (.cons rfl .nil))))))))))))) (HLe.refl _) rfl ?_
   rintro mz E I' loc' ⟨k, fe, rfl, rfl, rfl, rfl, hk, hfe⟩
   refine zR ?_
   refine zC ?_
   refine zN ?_
   refine X_seq ?_
   refine zI ?_ ?_ <;> intro hc300
   ·
    have hlt_k : k < (planL mx).length := by have h := hc300; simp at h; omega
    obtain ⟨d, hd⟩ := hPl.at hlt_k
    have hdi := plan_day hk0m (List.mem_of_getElem? hd)
    refine X_skip ?_
    refine at_then ?_
    refine X_seq ?_
    refine X_block ?_
    refine zR ?_
    refine zV (ev_indexSl rfl rfl slt_24 hPl (fun hg => by omega)) ?_
    refine zV (ev_load rfl sct_3 (fun hg => by exact Sl.get0 hPl hd rfl)) ?_
    refine zA ?_
    refine zN ?_
    refine X_seq ?_
    refine zR ?_
    refine zM ?_
    refine zC ?_
    refine zM ?_
    refine XO_pushF 2 rfl rfl rfl ?_
    refine zJ (ev_move rfl) ?_
    refine zJ (ev_fieldAddr rfl fld_28_0) ?_
    refine zJ (ev_load rfl sct_24 (fun hg => by exact Cell.imm h15 rfl)) ?_
    refine zJ (ev_lenS rfl slt_24) ?_
    refine zJ (ev_cmp rfl rfl rfl) ?_
    refine XO_or0 rfl rfl rfl rfl rfl ?_
    refine zN ?_
    refine zI ?_ ?_ <;> intro hc311
    ·
     have h := hc311; simp at h; omega
    refine X_skip ?_
    refine at_then ?_
    refine X_region ?_
    refine zM ?_
    refine zM ?_
    refine zV (ev_max rfl rfl) ?_
    refine zA ?_
    refine XO_nil ?_
    refine at_block_n ?_
    refine at_then ?_
    refine X_region ?_
    refine zB ?_
    refine zM ?_
    refine XO_nil ?_
    exact at_met2 _ _ ⟨(planL mx).length - (k + 1), by omega, k + 1, _, rfl, rfl, rfl, rfl, by omega, fold_max hd hfe⟩ (.cons rfl (.cons rfl (.cons rfl (.cons rfl (.cons rfl (.cons rfl (.cons rfl (.cons rfl (.cons rfl (.cons rfl (.cons rfl (.cons rfl (.cons rfl .nil))))))))))))) (by repeat (first | exact .refl | exact subL_left | refine subL_app ?_ | refine .drop ?_ | refine subL_add ?_))
   have hge_k : (planL mx).length ≤ k := by have h := hc300; simp at h; omega
   rw [List.take_of_length_le hge_k] at hfe
   refine X_exit ?_
   refine at_then_e ?_
   refine at_then_e ?_
   refine at_block_hit ?_
   refine at_then ?_
   refine zR ?_
   refine zM ?_
   refine zC ?_
   refine zN ?_
   refine zI ?_ ?_ <;> intro hc317
   ·
    have hfe0 : fe ≥ 0 := by have h := hc317; simp at h; omega
    have hmp := maxP_in hk0m
    obtain ⟨df, hdf⟩ := hDy.at (k := fe.toNat) (by omega)
    refine X_region ?_
    refine zM ?_
    refine zF fld_28_0 ?_
    refine zV (ev_load rfl sct_24 (fun hg => by exact Cell.imm h15 rfl)) ?_
    refine zM ?_
    refine zV (ev_indexSl rfl rfl slt_24 hDy (fun hg => by omega)) ?_
    refine zV (ev_load rfl sct_3 (fun hg => by exact Sl.get0 (k := fe.toNat) hDy hdf rfl)) ?_
    refine zV (ev_max rfl rfl) ?_
    refine zA ?_
    refine XO_nil ?_
    exact at_met2 _ _ ⟨fe, _, rfl, rfl, rfl, FL.yes hr hk0m hc296 hfe hfe0 hdf hth⟩ (.cons rfl (.cons rfl (.cons rfl (.cons rfl (.cons rfl (.cons rfl (.cons rfl (.cons rfl (.cons rfl .nil))))))))) (by repeat (first | exact .refl | exact subL_left | refine subL_app ?_ | refine .drop ?_ | refine subL_add ?_))
   have hfe0 : ¬ fe ≥ 0 := by have h := hc317; simp at h; omega
   refine X_skip ?_
   exact at_met2 _ _ ⟨fe, day, rfl, rfl, rfl, FL.neg hfe0 hth⟩ (.cons rfl (.cons rfl (.cons rfl (.cons rfl (.cons rfl (.cons rfl (.cons rfl (.cons rfl (.cons rfl .nil))))))))) (by repeat (first | exact .refl | exact subL_left | refine subL_app ?_ | refine .drop ?_ | refine subL_add ?_))
  refine X_skip ?_
  first
  | exact at_met2 _ _ ⟨_, _, rfl, rfl, rfl, by rw [← hlD]; exact FL.no hk0m hc296 hth⟩ (.cons rfl (.cons rfl (.cons rfl (.cons rfl (.cons rfl (.cons rfl (.cons rfl (.cons rfl (.cons rfl .nil))))))))) (by repeat (first | exact .refl | exact subL_left | refine subL_app ?_ | refine .drop ?_ | refine subL_add ?_))
 rintro E I' loc' ⟨fe, la, rfl, rfl, rfl, hFL⟩
 refine X_cutT [(1, _), (2, _), (3, _), (4, _), (6, _), (41, _), (44, _)] (.cons rfl (.cons rfl (.cons rfl (.cons rfl (.cons rfl (.cons rfl (.cons rfl .nil))))))) (fun T L0 E I' loc' => E = T ∧ HLe I14 I' ∧ [] = loc' ∧ True) ?_ ?_
 ·
  have hKc74 := HLe.refl I14
  refine zR ?_
  refine zM ?_
  refine zC ?_
  refine zN ?_
  refine zI ?_ ?_ <;> intro hc326
  ·
   have hfew0 : 0 ≤ fe := by have h := hc326; simp at h; omega
   obtain ⟨fn, hfe9, hfn1, hfn2⟩ := hFL.few hfew0
   obtain ⟨hrf, hle0, hac⟩ := refute_ok hr hk0m hfn1 hfn2
   have hsml := ref_sml (c := mx) (n := fn) (by omega)
   rw [← hfe9] at hrf hle0 hac hsml
   refine zR ?_
   refine zV (ev_loadA rfl agt_28 (fun hg => by exact Cells.immC (vs := encCH xx) h15) rfl) ?_
   refine zM ?_
   refine XO_callM (cap := []) (vs := [_, _]) rfl rfl fun_13 .nil (w_Refute hC2 hnd2 fe) rfl rfl ?_
   rintro vv17 I17 L17 hI17 ⟨rfl, rh1, rfl, hR1⟩
   have hP := hP.mono hI17; have hV := hV.mono hI17; have hT := hT.mono hI17; have hLs := hLs.mono hI17; have hPe := hPe.mono hI17; have hC := hC.mono hI17; have hRl := hRl.mono hI17; have hHs := hHs.mono hI17; have hHV := hHV.mono hI17; have hS1 := hS1.mono hI17; have hOm := hOm.mono hI17; have h15 := h15.mono hI17
   have hC2 := hC2.mono hI17; have hDy := hDy.mono hI17; have hPl := hPl.mono hI17; have hIc := hIc.trans hI17; have hB6 := hB6.trans hI17; have hKc74 := hKc74.trans hI17
   rw [List.nil_append]
   refine zM ?_
   refine zE ?_
   refine zE ?_
   refine zE ?_
   refine XO_alloc zt_49 rfl rfl (fun b_47 => ?_)
   refine XO_storeA rfl rfl szt_49 rfl rfl rfl rfl (by repeat (first | exact Upd.here | apply Upd.there | apply upd_app)) ?_
   refine zA ?_
   refine zA ?_
   refine zN ?_
   refine X_seq ?_
   refine X_freeze .here (fun I18 hI18 hb18 => ?_)
   have hP := hP.mono hI18; have hV := hV.mono hI18; have hT := hT.mono hI18; have hLs := hLs.mono hI18; have hPe := hPe.mono hI18; have hC := hC.mono hI18; have hRl := hRl.mono hI18; have hHs := hHs.mono hI18; have hHV := hHV.mono hI18; have hS1 := hS1.mono hI18; have hOm := hOm.mono hI18; have h15 := h15.mono hI18
   have hC2 := hC2.mono hI18; have hDy := hDy.mono hI18; have hPl := hPl.mono hI18; have hR1 := hR1.mono hI18; have hIc := hIc.trans hI18; have hB6 := hB6.trans hI18; have hKc74 := hKc74.trans hI18
   have h47 := ImmC.of hb18
   refine X_region ?_
   refine zV (ev_loadA rfl agt_28 (fun hg => by exact Cells.immC (vs := encCH xx) h15) rfl) ?_
   refine zM ?_
   refine zV (ev_loadA rfl agt_49 (fun hg => by exact Cells.immC (vs := encPH rh1) h47) rfl) ?_
   refine XO_callV0 (cap := []) (vs := [_, _, _]) rfl rfl fun_14 (w_Accepts hC2 hnd2 fe (refP mx fe) rh1 hR1 hsml) rfl rfl ?_
   refine zM ?_
   refine zE ?_
   refine zE ?_
   refine zA ?_
   refine zA ?_
   refine zN (zR ?_)
   refine zM ?_
   refine zC ?_
   refine zM ?_
   refine XO_pushF 2 rfl rfl rfl ?_
   refine zJ (ev_move rfl) ?_
   refine zJ (ev_cmp rfl rfl rfl) ?_
   refine XO_or0 rfl rfl rfl rfl rfl ?_
   refine zM ?_
   refine XO_pushF 6 rfl rfl rfl ?_
   refine zJ (ev_move rfl) ?_
   refine zJ (ev_not rfl) ?_
   refine XO_or0 rfl rfl rfl rfl rfl ?_
   refine zM ?_
   refine XO_pushF 10 rfl rfl rfl ?_
   refine zJ (ev_move rfl) ?_
   refine zJ (ev_not rfl) ?_
   refine XO_or0 rfl rfl rfl rfl rfl ?_
   refine zN ?_
   refine zI ?_ ?_ <;> intro hc354
   ·
    exact absurd hc354 (by rw [hle0, hrf, hac]; decide)
   refine X_skip ?_
   exact at_met2 _ _ ⟨rfl, hKc74, rfl, trivial⟩ (.cons rfl (.cons rfl (.cons rfl (.cons rfl (.cons rfl (.cons rfl (.cons rfl .nil))))))) (by repeat (first | exact .refl | exact subL_left | refine subL_app ?_ | refine .drop ?_ | refine subL_add ?_))
  refine X_skip ?_
  exact at_met2 _ _ ⟨rfl, hKc74, rfl, trivial⟩ (.cons rfl (.cons rfl (.cons rfl (.cons rfl (.cons rfl (.cons rfl (.cons rfl .nil))))))) (by repeat (first | exact .refl | exact subL_left | refine subL_app ?_ | refine .drop ?_ | refine subL_add ?_))
 rintro E J19 loc' ⟨rfl, hJ, rfl, _⟩
 have hP := hP.mono hJ; have hV := hV.mono hJ; have hT := hT.mono hJ; have hLs := hLs.mono hJ; have hPe := hPe.mono hJ; have hC := hC.mono hJ; have hRl := hRl.mono hJ; have hHs := hHs.mono hJ; have hHV := hHV.mono hJ; have hS1 := hS1.mono hJ; have hOm := hOm.mono hJ; have h15 := h15.mono hJ; have hC2 := hC2.mono hJ
 have hDy := hDy.mono hJ; have hPl := hPl.mono hJ; have hIc := hIc.trans hJ; have hB6 := hB6.trans hJ
 refine X_seq ?_
 refine zR ?_
 refine zM ?_
 refine zO ?_
 refine zN ?_
 refine zI ?_ ?_ <;> intro hc356
 ·
  refine zR ?_
  refine zA ?_
  refine zN ?_
  refine X_ret ?_
  refine at_then_r ?_
  exact at_ret1 rfl rfl (fun w hw => ⟨by rfl, (hw.mono hIc).drop⟩)
 have hpo : planO mx = true := by simpa using hc356
 refine X_skip ?_
 refine at_then ?_
 refine zR ?_
 refine XO_buildSlice (ps := []) (m := []) elt_23 rfl (.nil) rfl (by simp [encI_len, encH_len, L.encL_len]) (by decide) (by decide) rfl rfl (fun b_357 => ?_)
 refine zM ?_
 refine XO_append (v := _) (ys := hsh.flatMap encH) (L := [(b_357, _)]) rfl rfl elt_23 OwnS.new (by repeat (first | exact .cons .here .nil | exact split_all | exact split_app | apply split_cons | apply split_skip)) (hV.1.src encH_len) (one_H _) (by omega) rfl rfl ?_
 intro v5 L5 hO5 _; rw [List.nil_append] at hO5
 refine zM ?_
 refine XO_buildSlice (ps := [(0, _)]) (m := [encH ⟨dv, n3, c3⟩]) elt_23 rfl (.cons rfl (.nil)) rfl (by simp [encI_len, encH_len, L.encL_len]) (by decide) (by decide) rfl rfl (fun b_361 => ?_)
 refine XO_append (v := _) (ys := [(⟨dv, n3, c3⟩ : Hd)].flatMap encH) (L := L5) rfl rfl elt_23 hO5 (by repeat (first | exact .cons .here .nil | exact split_all | exact split_app | apply split_cons | apply split_skip)) ⟨rfl, fun _ => rfl, by repeat (first | exact Cells.here | apply Cells.there | apply Cells.app)⟩ (one_H _) (by omega) rfl rfl ?_
 intro v9 L9 hO9 _; rw [← List.flatMap_append] at hO9
 refine zA ?_
 refine zN ?_
 refine X_seq ?_
 refine X_freezeO hO9 encH_len (by decide) (by repeat (first | exact .cons .here .nil | exact split_all | exact split_app | apply split_cons | apply split_skip)) (fun I20 hI20 af20 cf20 ef20 hV2 => ?_)
 subst ef20
 have hP := hP.mono hI20; have hV := hV.mono hI20; have hT := hT.mono hI20; have hLs := hLs.mono hI20; have hPe := hPe.mono hI20; have hC := hC.mono hI20; have hRl := hRl.mono hI20; have hHs := hHs.mono hI20; have hHV := hHV.mono hI20; have hS1 := hS1.mono hI20; have hOm := hOm.mono hI20; have h15 := h15.mono hI20
 have hC2 := hC2.mono hI20; have hDy := hDy.mono hI20; have hPl := hPl.mono hI20; have hIc := hIc.trans hI20; have hB6 := hB6.trans hI20
 have hVN2 : SlN I20 _ _ _ (vss ++ [tg]) := ⟨_, hV2, (relA_snoc (hd := ⟨dv, n3, c3⟩) hV.2 hT).1, (relA_snoc (hd := ⟨dv, n3, c3⟩) hV.2 hT).2⟩
 refine X_region ?_
 refine zA ?_
 refine zN ?_
 refine X_seq ?_
 refine X_seq ?_
 refine X_dropTo [] subL_nil ?_
 refine X_region ?_
 refine zM ?_
 refine zQ slt_25 ?_
 refine zM ?_
 refine zN ?_
 refine X_block ?_
 refine X_loopT [(1, _), (2, _), (3, _), (4, _), (6, _), (44, _), (363, _), (364, _)] (.cons rfl (.cons rfl (.cons rfl (.cons rfl (.cons rfl (.cons rfl (.cons rfl (.cons rfl .nil)))))))) (fun T L0 mz E I' loc' => ∃ (k : Nat) (no : Int), mz = n4 - k ∧ E = (52, .int .i64 no) :: (365, .int .i64 k) :: T ∧ I20 = I' ∧ [] = loc' ∧ k ≤ n4 ∧ NoI (ls.take k) no) _ _ _ _ ⟨0, 0, rfl, rfl, rfl, rfl, Nat.zero_le _, NoI.nil⟩ (.cons rfl (.cons rfl (.cons rfl (.cons rfl (.cons rfl (.cons rfl (.cons rfl (.cons rfl (.cons rfl (.cons rfl .nil)))))))))) (HLe.refl _) rfl ?_
 rintro mz E I' loc' ⟨k, no, rfl, rfl, rfl, rfl, hk, hno⟩
 refine zR ?_
 refine zC ?_
 refine zN ?_
 refine X_seq ?_
 refine zI ?_ ?_ <;> intro hc366
 ·
  have hlt_k : k < n4 := by have h := hc366; simp at h; omega
  obtain ⟨x1, hx1⟩ := hLs.at hlt_k
  have hxb := no_in hq5 (List.mem_of_getElem? hx1)
  have hnb := hno.2.1
  have hnb0 := hno.1
  refine X_skip ?_
  refine at_then ?_
  refine X_seq ?_
  refine X_block ?_
  refine zR ?_
  refine zV (ev_indexSl rfl rfl slt_25 hLs (fun hg => by omega)) ?_
  refine zV (ev_loadA rfl agt_55 (fun hg => by exact Sl.getA hLs hx1) rfl) ?_
  refine XO_alloc zt_55 rfl rfl (fun b_54 => ?_)
  refine XO_storeA rfl rfl szt_55 rfl rfl rfl rfl (by repeat (first | exact Upd.here | apply Upd.there | apply upd_app)) ?_
  refine zN ?_
  refine X_region ?_
  refine zM ?_
  refine zF fld_55_0 ?_
  refine zV (ev_load rfl sct_3 (fun hg => by (repeat (first | exact Cell.here rfl | apply Cell.there | apply Cell.app)))) ?_
  refine zB ?_
  refine zV (ev_max rfl rfl) ?_
  refine zA ?_
  refine XO_nil ?_
  refine at_block_n ?_
  refine at_then ?_
  refine X_region ?_
  refine zB ?_
  refine zM ?_
  refine XO_nil ?_
  exact at_met2 _ _ ⟨n4 - (k + 1), by omega, k + 1, _, rfl, rfl, rfl, rfl, by omega, hno.step hq5 hx1⟩ (.cons rfl (.cons rfl (.cons rfl (.cons rfl (.cons rfl (.cons rfl (.cons rfl (.cons rfl (.cons rfl (.cons rfl .nil)))))))))) (by repeat (first | exact .refl | exact subL_left | refine subL_app ?_ | refine .drop ?_ | refine subL_add ?_))
 have hge_k : n4 ≤ k := by have h := hc366; simp at h; omega
 obtain ⟨hn0, hn1, hnA⟩ := hno.all (by omega)
 refine X_exit ?_
 refine at_then_e ?_
 refine at_then_e ?_
 refine at_block_hit ?_
 refine at_then ?_
 refine X_seq ?_
 refine zR ?_
 refine zM ?_
 refine zM ?_
 refine zQ slt_24 ?_
 refine zB ?_
 refine zC ?_
 refine zN ?_
 refine zI ?_ ?_ <;> intro hc379
 ·
  refine zR ?_
  refine zA ?_
  refine zN ?_
  refine X_ret ?_
  refine at_then_r ?_
  exact at_ret1 rfl rfl (fun w hw => ⟨by rfl, (hw.mono hIc).drop⟩)
 have hmx5 : no + (n5 : Int) ≤ 1048576 := by have h := hc379; simp at h; omega
 refine X_skip ?_
 refine at_then ?_
 refine X_seq ?_
 refine zR ?_
 refine zM ?_
 refine zQ slt_24 ?_
 refine zM ?_
 refine zN ?_
 refine X_block ?_
 refine X_loopT [(1, _), (2, _), (4, _), (6, _), (44, _), (52, _), (380, _), (381, _)] (.cons rfl (.cons rfl (.cons rfl (.cons rfl (.cons rfl (.cons rfl (.cons rfl (.cons rfl .nil)))))))) (fun T L0 mz E I' loc' => ∃ (k : Nat) (za : Option Addr) (zn : Nat) (zc : Nat) (zs : List L.Ls), mz = n5 - k ∧ E = (3, .slice za zn zc) :: (382, .int .i64 k) :: T ∧ HLe I20 I' ∧ [] = loc' ∧ k ≤ n5 ∧ Sl I' 5 L.encL za zn zc zs ∧ Ent ls no ((0 + n2 + 1 : Nat) : Int) la time pp k zs) _ _ _ _ ⟨0, ev, n4, c4, ls, rfl, rfl, HLe.refl _, rfl, Nat.zero_le _, hLs, Ent.zero hq5⟩ (.cons rfl (.cons rfl (.cons rfl (.cons rfl (.cons rfl (.cons rfl (.cons rfl (.cons rfl (.cons rfl (.cons rfl .nil)))))))))) (HLe.refl _) rfl ?_
 rintro mz E J22 loc' ⟨k, za, zn, zc, zs, rfl, rfl, hJ, rfl, hk, hZ, hEn⟩
 have hP := hP.mono hJ; have hV := hV.mono hJ; have hT := hT.mono hJ; have hLs := hLs.mono hJ; have hPe := hPe.mono hJ; have hC := hC.mono hJ; have hRl := hRl.mono hJ; have hHs := hHs.mono hJ; have hHV := hHV.mono hJ; have hS1 := hS1.mono hJ; have hOm := hOm.mono hJ; have h15 := h15.mono hJ; have hC2 := hC2.mono hJ
 have hDy := hDy.mono hJ; have hPl := hPl.mono hJ; have hV2 := hV2.mono hJ; have hVN2 := hVN2.mono hJ; have hIc := hIc.trans hJ; have hB6 := hB6.trans hJ
 have hB14 := hJ
 refine zR ?_
 refine zC ?_
 refine zN ?_
 refine X_seq ?_
 refine zI ?_ ?_ <;> intro hc383
 ·
  have hlt_k : k < n5 := by have h := hc383; simp at h; omega
  obtain ⟨p, hp⟩ := hPe.at hlt_k
  have hpw0 := (hPp.2 p (List.mem_of_getElem? hp)).1
  rw [hq5] at hpw0
  have hpw := (hasE_then hpw0).2
  obtain ⟨hE2, hEn2⟩ := hEn.step hnA hn0 (by rw [hlP]; exact hmx5) (by omega) (by omega) hp hpw (by omega) hFL.th
  have hzl := hZ.len
  have hzn := hEn.len
  refine X_skip ?_
  refine at_then ?_
  refine X_seq ?_
  refine X_block ?_
  refine zR ?_
  refine zM ?_
  refine zV (ev_indexSl rfl rfl slt_24 hPe (fun hg => by omega)) ?_
  refine zV (ev_load rfl sct_3 (fun hg => by exact Sl.get0 hPe hp rfl)) ?_
  refine zA ?_
  refine zA ?_
  refine zN (zR ?_)
  refine zM ?_
  refine zM ?_
  refine zM ?_
  refine zB ?_
  refine zM ?_
  refine zM ?_
  refine zQ slt_23 ?_
  refine zM ?_
  refine zM ?_
  refine zV (ev_buildL (ps := [(0, _), (1, _), (2, _), (3, _), (4, _)]) [_, _, _, _, _] plt_55 rfl rfl) ?_
  refine XO_callM (cap := []) (vs := [_, _]) rfl rfl fun_15 .nil (L.w_Add hZ (by omega) ⟨no + (k : Int), p, ((0 + n2 + 1 : Nat) : Int), la, time⟩) rfl rfl ?_
  rintro vv23 I23 L23 hI23 ⟨rfl, za2, zc2, rfl, hZ2⟩
  have hP := hP.mono hI23; have hV := hV.mono hI23; have hT := hT.mono hI23; have hLs := hLs.mono hI23; have hPe := hPe.mono hI23; have hC := hC.mono hI23; have hRl := hRl.mono hI23; have hHs := hHs.mono hI23; have hHV := hHV.mono hI23; have hS1 := hS1.mono hI23; have hOm := hOm.mono hI23; have h15 := h15.mono hI23
  have hC2 := hC2.mono hI23; have hDy := hDy.mono hI23; have hPl := hPl.mono hI23; have hV2 := hV2.mono hI23; have hVN2 := hVN2.mono hI23; have hZ := hZ.mono hI23; have hIc := hIc.trans hI23; have hB6 := hB6.trans hI23; have hB14 := hB14.trans hI23
  rw [List.nil_append]
  refine zM ?_
  refine zE ?_
  refine zE ?_
  refine zA ?_
  refine zA ?_
  refine zN ?_
  refine X_seq ?_
  refine zR ?_
  refine zM ?_
  refine zC ?_
  refine zN ?_
  refine zI ?_ ?_ <;> intro hc402
  ·
   exact absurd hc402 (by rw [hE2]; decide)
  refine X_skip ?_
  refine at_then ?_
  refine X_region ?_
  refine zM ?_
  refine zA ?_
  refine XO_nil ?_
  refine at_block_n ?_
  refine at_then ?_
  refine X_region ?_
  refine zB ?_
  refine zM ?_
  refine XO_nil ?_
  exact at_met2 _ _ ⟨n5 - (k + 1), by omega, k + 1, za2, _, zc2, _, rfl, rfl, hB14, rfl, by omega, hZ2, hEn2⟩ (.cons rfl (.cons rfl (.cons rfl (.cons rfl (.cons rfl (.cons rfl (.cons rfl (.cons rfl (.cons rfl (.cons rfl .nil)))))))))) (by repeat (first | exact .refl | exact subL_left | refine subL_app ?_ | refine .drop ?_ | refine subL_add ?_))
 have hge_k : n5 ≤ k := by have h := hc383; simp at h; omega
 have hkp : k = pp.length := by omega
 subst hkp
 have hzl := hZ.len
 have hzn := hEn.len
 refine X_exit ?_
 refine at_then_e ?_
 refine at_then_e ?_
 refine at_block_hit ?_
 refine at_then ?_
 refine zR ?_
 refine zM ?_
 refine zM ?_
 refine zQ slt_23 ?_
 refine zM ?_
 refine zM ?_
 refine XO_callM (cap := []) (vs := [_, _, _, _]) rfl rfl fun_16 .nil (L.w_Cast hZ (by omega) ((0 + n2 + 1 : Nat) : Int) la time) rfl rfl ?_
 rintro vv24 I24 L24 hI24 ⟨rfl, ca, cc, rfl, hCa⟩
 have hP := hP.mono hI24; have hV := hV.mono hI24; have hT := hT.mono hI24; have hLs := hLs.mono hI24; have hPe := hPe.mono hI24; have hC := hC.mono hI24; have hRl := hRl.mono hI24; have hHs := hHs.mono hI24; have hHV := hHV.mono hI24; have hS1 := hS1.mono hI24; have hOm := hOm.mono hI24; have h15 := h15.mono hI24
 have hC2 := hC2.mono hI24; have hDy := hDy.mono hI24; have hPl := hPl.mono hI24; have hV2 := hV2.mono hI24; have hVN2 := hVN2.mono hI24; have hZ := hZ.mono hI24; have hIc := hIc.trans hI24; have hB6 := hB6.trans hI24; have hB14 := hB14.trans hI24
 rw [List.nil_append]
 have hcl6 : (resF (L.castE (L.chk zs) ((0 + n2 + 1 : Nat) : Int) la time) (L.castF zs ((0 + n2 + 1 : Nat) : Int) la time)).length ≤ 100000 := Nat.le_trans resF_len (Nat.le_trans (L.cast_len ..) (by decide))
 generalize hclE : resF (L.castE (L.chk zs) ((0 + n2 + 1 : Nat) : Int) la time) (L.castF zs ((0 + n2 + 1 : Nat) : Int) la time) = cl at hCa hcl6 ⊢
 refine zM ?_
 refine zE ?_
 refine zE ?_
 refine zA ?_
 refine zA ?_
 refine zN (zR ?_)
 refine XO_makeMap rfl rfl (fun r_414 => ?_)
 refine zA ?_
 refine zN ?_
 refine X_seq ?_
 refine zR ?_
 refine zM ?_
 refine zQ slt_24 ?_
 refine zM ?_
 refine zN ?_
 refine X_block ?_
 refine X_loopT [(1, _), (2, _), (3, _), (4, _), (6, _), (44, _), (60, _), (61, _), (415, _), (416, _)] (.cons rfl (.cons rfl (.cons rfl (.cons rfl (.cons rfl (.cons rfl (.cons rfl (.cons rfl (.cons rfl (.cons rfl .nil)))))))))) (fun T L0 mz E I' loc' => ∃ (j : Nat) (cm : SM), mz = cl.length - j ∧ E = (417, .int .i64 j) :: T ∧ I24 = I' ∧ [(r_414, Kn.setO cm.1 cm.2)] = loc' ∧ j ≤ cl.length ∧ SetL cm (cl.take j)) _ _ _ _ ⟨0, ([], 0), rfl, rfl, rfl, rfl, Nat.zero_le _, by rw [List.take_zero]; exact SetL.nil⟩ (.cons rfl (.cons rfl (.cons rfl (.cons rfl (.cons rfl (.cons rfl (.cons rfl (.cons rfl (.cons rfl (.cons rfl (.cons rfl .nil))))))))))) (HLe.refl _) rfl ?_
 rintro mz E I' loc' ⟨j, cm, rfl, rfl, rfl, rfl, hj, hcm⟩
 refine zR ?_
 refine zC ?_
 refine zN ?_
 refine X_seq ?_
 refine zI ?_ ?_ <;> intro hc418
 ·
  have hlt_j : j < cl.length := by have h := hc418; simp at h; omega
  obtain ⟨y, hy⟩ := hCa.at hlt_j
  refine X_skip ?_
  refine at_then ?_
  refine X_seq ?_
  refine X_block ?_
  refine zR ?_
  refine zV (ev_indexSl rfl rfl slt_24 hCa (fun hg => by omega)) ?_
  refine zV (ev_load rfl sct_3 (fun hg => by exact Sl.get0 hCa hy rfl)) ?_
  refine zA ?_
  refine zN ?_
  refine X_region ?_
  refine zM ?_
  refine zM ?_
  refine XO_putS (m := cm.1) (c := cm.2) (a := y) mpt_35 und_3 rfl rfl rfl rfl .here ?_
  refine XO_nil ?_
  refine at_block_n ?_
  refine at_then ?_
  refine X_region ?_
  refine zB ?_
  refine zM ?_
  refine XO_nil ?_
  exact at_met2 _ _ ⟨cl.length - (j + 1), by omega, j + 1, _, rfl, rfl, rfl, rfl, by omega, hcm.put hy⟩ (.cons rfl (.cons rfl (.cons rfl (.cons rfl (.cons rfl (.cons rfl (.cons rfl (.cons rfl (.cons rfl (.cons rfl (.cons rfl .nil))))))))))) (by repeat (first | exact .refl | exact subL_left | refine subL_app ?_ | refine .drop ?_ | refine subL_add ?_))
 have hge_j : cl.length ≤ j := by have h := hc418; simp at h; omega
 have hcm := hcm.full hge_j
 rw [← hclE] at hcm
 refine X_exit ?_
 refine at_then_e ?_
 refine at_then_e ?_
 refine at_block_hit ?_
 refine at_then ?_
 refine X_seq ?_
 refine zR ?_
 refine zM ?_
 refine zQ slt_24 ?_
 refine zM ?_
 refine zN ?_
 refine X_block ?_
 refine X_loopT [(1, _), (2, _), (3, _), (6, _), (44, _), (60, _), (61, _), (424, _), (425, _)] (.cons rfl (.cons rfl (.cons rfl (.cons rfl (.cons rfl (.cons rfl (.cons rfl (.cons rfl (.cons rfl .nil))))))))) (fun T L0 mz E I' loc' => ∃ (k : Nat), mz = n5 - k ∧ E = (426, .int .i64 k) :: T ∧ HLe I24 I' ∧ [(r_414, Kn.setO cm.1 cm.2)] = loc' ∧ k ≤ n5) _ _ _ _ ⟨0, rfl, rfl, HLe.refl _, rfl, Nat.zero_le _⟩ (.cons rfl (.cons rfl (.cons rfl (.cons rfl (.cons rfl (.cons rfl (.cons rfl (.cons rfl (.cons rfl (.cons rfl .nil)))))))))) (HLe.refl _) rfl ?_
 rintro mz E J26 loc' ⟨k, rfl, rfl, hJ, rfl, hk⟩
 have hP := hP.mono hJ; have hV := hV.mono hJ; have hT := hT.mono hJ; have hLs := hLs.mono hJ; have hPe := hPe.mono hJ; have hC := hC.mono hJ; have hRl := hRl.mono hJ; have hHs := hHs.mono hJ; have hHV := hHV.mono hJ; have hS1 := hS1.mono hJ; have hOm := hOm.mono hJ; have h15 := h15.mono hJ; have hC2 := hC2.mono hJ
 have hDy := hDy.mono hJ; have hPl := hPl.mono hJ; have hV2 := hV2.mono hJ; have hVN2 := hVN2.mono hJ; have hZ := hZ.mono hJ; have hCa := hCa.mono hJ; have hIc := hIc.trans hJ; have hB6 := hB6.trans hJ; have hB14 := hB14.trans hJ
 have hB18 := hJ
 refine zR ?_
 refine zC ?_
 refine zN ?_
 refine X_seq ?_
 refine zI ?_ ?_ <;> intro hc427
 ·
  have hlt_k : k < n5 := by have h := hc427; simp at h; omega
  obtain ⟨p, hp⟩ := hPe.at hlt_k
  have hpm := List.mem_of_getElem? hp
  have hpw0 := (hPp.2 p hpm).1
  rw [hq5] at hpw0
  have hpw := (hasE_then hpw0).2
  have hH := ent_has hEn hnA hPp.1 hpm
  obtain ⟨hg9, ho9⟩ := ent_gap (hgp p hpm) (by omega) hEn.ck hFL.th (by rw [hH]; omega)
  have hci := cast_in hpw hH
  refine X_skip ?_
  refine at_then ?_
  refine X_seq ?_
  refine X_block ?_
  refine zR ?_
  refine zV (ev_indexSl rfl rfl slt_24 hPe (fun hg => by omega)) ?_
  refine zV (ev_load rfl sct_3 (fun hg => by exact Sl.get0 hPe hp rfl)) ?_
  refine zA ?_
  refine zN (zR ?_)
  refine zM ?_
  refine zM ?_
  refine zM ?_
  refine zM ?_
  refine zM ?_
  refine zM ?_
  refine XO_callM (cap := []) (vs := [_, _, _, _, _, _]) rfl rfl fun_9 .nil (L.w_Gap hZ (by omega) hVN2 (by omega) p la time hT) rfl rfl ?_
  rintro vv27 I27 L27 hI27 ⟨rfl, ga2, gn2, gc2, gb2, gm2, gd2, rfl, hA2, hB2⟩
  have hP := hP.mono hI27; have hV := hV.mono hI27; have hT := hT.mono hI27; have hLs := hLs.mono hI27; have hPe := hPe.mono hI27; have hC := hC.mono hI27; have hRl := hRl.mono hI27; have hHs := hHs.mono hI27; have hHV := hHV.mono hI27; have hS1 := hS1.mono hI27; have hOm := hOm.mono hI27; have h15 := h15.mono hI27
  have hC2 := hC2.mono hI27; have hDy := hDy.mono hI27; have hPl := hPl.mono hI27; have hV2 := hV2.mono hI27; have hVN2 := hVN2.mono hI27; have hZ := hZ.mono hI27; have hCa := hCa.mono hI27; have hIc := hIc.trans hI27; have hB6 := hB6.trans hI27; have hB14 := hB14.trans hI27; have hB18 := hB18.trans hI27
  have hz2 := top_zero hg9 ho9 hA2.len hB2.len
  refine zM ?_
  refine zE ?_
  refine zE ?_
  refine zE ?_
  refine zA ?_
  refine zA ?_
  refine zA ?_
  refine zN (zR ?_)
  refine zM ?_
  refine zC ?_
  refine zM ?_
  refine XO_pushF 2 rfl rfl rfl ?_
  refine zJ (ev_move rfl) ?_
  refine zJ (ev_lenS rfl slt_24) ?_
  refine zJ (ev_move rfl) ?_
  refine zJ (ev_lenS rfl slt_24) ?_
  refine zJ (ev_arB rfl rfl rfl (fun hg => by omega)) ?_
  refine zJ (ev_cmp rfl rfl rfl) ?_
  refine XO_or0 rfl rfl rfl rfl rfl ?_
  refine zM ?_
  refine XO_pushF 10 rfl rfl rfl ?_
  refine zJ (ev_move rfl) ?_
  refine zJ (ev_move rfl) ?_
  refine zJ (ev_lookupS (m := cm.1) (c := cm.2) (a := p) mpt_35 und_3 rfl rfl (fun _ => .inr (List.mem_cons_self ..))) ?_
  refine zJ (ev_not rfl) ?_
  refine XO_or0 rfl rfl rfl rfl rfl ?_
  refine zN ?_
  refine zI ?_ ?_ <;> intro hc456
  ·
   exact absurd hc456 (top_end hg9 ho9 hA2.len hB2.len (castE_0 hEn.ck (by omega) hFL.th) hcm hci)
  refine X_skip ?_
  refine at_block_n ?_
  refine at_then ?_
  refine X_region ?_
  refine zB ?_
  refine zM ?_
  refine XO_nil ?_
  exact at_met2 _ _ ⟨n5 - (k + 1), by omega, k + 1, rfl, rfl, hB18, rfl, by omega⟩ (.cons rfl (.cons rfl (.cons rfl (.cons rfl (.cons rfl (.cons rfl (.cons rfl (.cons rfl (.cons rfl (.cons rfl .nil)))))))))) (by repeat (first | exact .refl | exact subL_left | refine subL_app ?_ | refine .drop ?_ | refine subL_add ?_))
 have hge_k : n5 ≤ k := by have h := hc427; simp at h; omega
 refine X_exit ?_
 refine at_then_e ?_
 refine at_then_e ?_
 refine at_block_hit ?_
 refine at_then ?_
 refine zR ?_
 refine zM ?_
 refine zC ?_
 refine zA ?_
 refine zN ?_
 refine X_ret ?_
 first
 | exact at_ret1 rfl rfl (fun w hw => ⟨by rw [castE_0 hEn.ck (by omega) hFL.th]; rfl, (hw.mono hIc).drop⟩)
end Go.Proofs.YtclkmnidgdkekaaGreat
end
section
namespace Go.Kn
open Go Go.ChangeShapes Go.WideShapes Go.ChangeAt Go.RowKit
/-- All that lies in the world is read only. -/
def heapI (W : World) : HMap := fun b => W.heap[b]?
theorem St.start (W : World) : St W (heapI W) (fun _ => none) [] W :=
  ⟨rfl, rfl, rfl, ⟨Nat.le_refl _, Nat.le_refl _⟩, fun _ _ h => h, (fun _ _ h => by cases h), (fun _ _ h => by cases h), fun _ => .inr rfl, (fun _ _ h => by cases h), by simp⟩
theorem St.below {W w : World} {H : HMap} {loc : Loc} (h : St W (heapI W) H loc w) : Below W.heap.size W w :=
  ⟨h.os, h.tape, h.out, h.size.1, fun k hk => by
    have e : W.heap[k]? = some W.heap[k] := Array.getElem?_eq_getElem hk
    rw [h.imm k _ e, e]⟩
theorem RetV.law {P : Program} {f : FuncId} {args : List Value} {W : World} {v : Value} (h : RetV P f args (heapI W) v) : Calls P f args.toArray W fun e w' => e = .returned v ∧ Below W.heap.size W w' :=
  (h W _ W (St.start W)).mono fun _ _ ⟨he, hs⟩ => ⟨he, hs.below⟩
theorem keptBut_below {W w : World} {may : MemPlace → Prop} (h : Below W.heap.size W w) : W.keptBut w may := by
  refine ⟨h.os, h.output, fun i hi => ?_⟩
  rw [h.block i hi]
  rw [Array.getElem?_eq_getElem hi]
  cases W.heap[i] <;> simp
theorem trodAll_stays {H : Type} {enc : TypeId × Value → H} {P : Program} {W W' : World} (hl : laidOutB P = true) (hB : Below W.heap.size W W') (sp : Nat → Bool) : ∀ (ts : List TypeId) (vs : List Value) (ds : List (DataW H)) (ps : List MemPlace), (∀ t ∈ ts, P.readableRec t = true ∧ t < P.types.size) →
    DataW.TrodAll enc P W 0 (fun _ => true) true ts vs ds ps → (∀ x ∈ ps, x.block < W.heap.size ∧ sp x.block = true) → DataW.TrodAll enc P W' 0 sp true ts vs ds ps
  | [], [], [], ps, _, h, _ => h
  | t :: ts, v :: vs, d :: ds, ps, hr, ⟨p, q, h1, h2, e⟩, hlt => by
    subst e
    exact ⟨p, q, WideElems.Trod_stays hl (hr t (List.mem_cons_self ..)).1 (hr t (List.mem_cons_self ..)).2 h1 (fun x hx => hB.same (hlt x (List.mem_append_left _ hx)).1) (fun x hx => (hlt x (List.mem_append_left _ hx)).2),
      trodAll_stays hl hB sp ts vs ds q (fun t ht => hr t (List.mem_cons_of_mem _ ht)) h2 (fun x hx => hlt x (List.mem_append_right _ hx)), rfl⟩
/-- A law's row: it hands back true; the input reads as it did. -/
theorem post_law {H : Type} {enc : TypeId × Value → H} {P : Program} {f : Func} {s : ChangeSpec} {again : Bool} {W W' : World} {args : Array Value} {ds : List (DataW H)} {before : List MemPlace} {tb : TypeId}
    (hl : laidOutB P = true) (hr : f.resultTypes = #[tb]) (hb : P.underlying tb = some .bool) (hv : s.vars = []) (hs : (s.fn H (ds ++ [])) = { results := [.lit (.bool true)], args := ds }) (hrd : ∀ t ∈ f.params.toList, P.readableRec t = true ∧ t < P.types.size)
    (hW : DataW.Whole enc P f.params.toList s.vars false W args.toList ds [] before) (hB : Below W.heap.size W W') : s.post enc P f false true false again W args (.bool true) W' := by
  have hlt : ∀ x ∈ before, x.block < W.heap.size := fun x hx => by simpa using hW.lt x hx
  have hW0 := hW
  obtain ⟨p, q, hA, hV, rfl, hfz, _⟩ := hW
  rw [hv] at hV
  obtain ⟨_, rfl⟩ := trodVars_none hV
  rw [List.append_nil] at hlt hfz hW0
  have hres : ∀ (b : Nat) (sp : Nat → Bool) (hd : Bool), DataW.TrodAll enc P W' b sp hd f.resultTypes.toList ((Value.bool true).resultList f.resultTypes.size) [.lit (.bool true)] [] := fun b sp hd => by
    rw [hr]; exact trodAll_mk1 (shut_bool hb true)
  have hargs : ∀ sp : Nat → Bool, (∀ x ∈ p, sp x.block = true) → DataW.TrodAll enc P W' 0 sp true f.params.toList args.toList ds p := fun sp h => trodAll_stays hl hB sp _ _ _ _ hrd hA (fun x hx => ⟨hlt x hx, h x hx⟩)
  have hnil : ∀ sp : Nat → Bool, DataW.TrodVars enc P W' sp s.vars [] [] := fun sp => by rw [hv]; rfl
  refine ⟨ds, [], p, [], p, [], hW0, ?_, ?_, ?_, keptBut_below hB, fun _ => ?_⟩
  · rw [hs]; exact hres _ _ _
  · rw [hs]; exact hargs _ (fun x hx => by simpa using hlt x hx)
  · rw [hs]; exact hnil _
  · refine ⟨fun j t r ht hr' => ?_, [.lit (.bool true)] ++ ds, [], [] ++ p, ⟨[] ++ p, [], trodAll_append (hargs _ (fun _ _ => rfl)) (hres _ _ _), hnil _, by simp, ?_, fun h => by cases h⟩, fun x hx _ => by simpa using hx⟩
    · rw [hr] at ht hr'
      cases j with
      | zero => simp [Value.resultList] at ht hr'; subst ht; subst hr'; exact okWide_bool_mk hb _
      | succ j => simp at ht
    · intro b off hx
      rw [hB.frozen (hlt _ (by simpa using hx))]
      exact hfz b off (by simpa using hx)
theorem cell_heap {W : World} {b o : Nat} {u : Value} (h : W.cell? ⟨b, o, none⟩ = some u) : Cell (heapI W) [] b o u := by
  unfold World.cell? at h
  split at h
  · rename_i c t fz hb
    simp only [Option.isSome_none, Bool.false_eq_true, if_false] at h
    exact ⟨c, t, fz, .inl hb, h⟩
  · cases h
/-- A slice that came in, as it is read. -/
theorem open_SlT {H : Type} {enc : TypeId × Value → H} {P : Program} {W : World} {t e : TypeId} {size fuel0 : Nat} {cs : List Value} {x0 : DataW H × List MemPlace} {α : Type} (enc' : α → List Value) (ok : α → Prop)
    (ht : P.underlying t = some (.slice e)) (hc : P.cellsOf e = size) (hpos : 0 < size) (hlen : ∀ y, (enc' y).length = size)
    (hel : ∀ fuel cs x, DataW.trod enc P W 0 (fun _ => true) true fuel e cs = some x → ∃ y, ok y ∧ enc' y = cs)
    (hf' : DataW.trod enc P W 0 (fun _ => true) true fuel0 t cs = some x0) : ∃ av n c xs, cs = [.slice av n c] ∧ Sl (heapI W) size enc' av n c xs ∧ (∀ x ∈ xs, ok x) ∧ c ≤ maxLen := by
  rcases Go.Deep.open_slice ht hf' with ⟨e1, _⟩ | ⟨a, len0, cap0, m, n, D, Pl, e1, hb, hl, hm, hmm, _, hx⟩
  · subst e1
    exact ⟨none, 0, 0, [], rfl, .nil, (fun x hx => by cases hx), Nat.zero_le _⟩
  · subst e1
    have hlm : len0 ≤ m := by rw [hmm]; simp; exact hl
    have each : ∀ i, i < len0 → ∃ y, ok y ∧ W.cells? 0 (a.add (i * size)) size = some (enc' y) := fun i hi => by
      obtain ⟨cs', h1, h2⟩ := hx i (by omega)
      obtain ⟨y, hy, e⟩ := hel _ _ _ h2
      rw [hc] at h1
      exact ⟨y, hy, by rw [h1, e]⟩
    have all : ∀ k, k ≤ len0 → ∃ xs : List α, xs.length = k ∧ ∀ i x, xs[i]? = some x → ok x ∧ W.cells? 0 (a.add (i * size)) size = some (enc' x) := by
      intro k
      induction k with
      | zero => intro _; exact ⟨[], rfl, fun i x h => by simp at h⟩
      | succ k ih =>
        intro hk
        obtain ⟨xs, hl', hxs⟩ := ih (by omega)
        obtain ⟨y, hy, hcy⟩ := each k (by omega)
        refine ⟨xs ++ [y], by simp [hl'], fun i x h => ?_⟩
        by_cases hi : i < xs.length
        · rw [List.getElem?_append_left hi] at h; exact hxs i x h
        · rw [List.getElem?_append_right (by omega)] at h
          have : i = k := by have := (List.getElem?_eq_some_iff.1 h).1; simp at this; omega
          subst this
          rw [hl'] at h; simp at h; subst h
          exact ⟨hy, hcy⟩
    obtain ⟨xs, hl', hxs⟩ := all len0 (Nat.le_refl _)
    have add0 : ∀ (b o n : Nat), (⟨b, o, none⟩ : Addr).add n = ⟨b, o + n, none⟩ := fun b o n => by
      unfold Addr.add
      split
      · rename_i e; subst e; rfl
      · rfl
    have hspot : 0 < xs.length → a.spot = none := fun hx => by
      have hx0 : xs[0]? = some xs[0] := List.getElem?_eq_getElem hx
      have hp0 : 0 < (enc' xs[0]).length := by rw [hlen]; exact hpos
      obtain ⟨_, h1, h2⟩ := World.cells?_some (hxs 0 _ hx0).2
      have h3 := h2 0 hpos
      rw [List.getElem?_eq_getElem hp0] at h3
      simpa [Addr.add] using World.cell?_spot h3
    have cellat : ∀ i x, xs[i]? = some x → ∀ j u, (enc' x)[j]? = some u → W.cell? ⟨a.block, a.off + i * size + j, none⟩ = some u := fun i x hx j u hu => by
      obtain ⟨_, h1, h2⟩ := World.cells?_some (hxs i x hx).2
      have hj : j < size := by rw [← hlen x]; exact (List.getElem?_eq_some_iff.1 hu).1
      have h3 := h2 j hj
      rw [hu] at h3
      have hsp := hspot (by have := (List.getElem?_eq_some_iff.1 hx).1; omega)
      obtain ⟨b, o, sp⟩ := a
      simp only at hsp
      subst hsp
      rw [add0, add0] at h3
      exact h3
    refine ⟨some a, len0, cap0, xs, rfl, ⟨hl', hl, fun hn => ?_, fun k x hx j u hu => ?_⟩, fun x hx => ?_, hm⟩
    · have := hspot (by omega)
      obtain ⟨b, o, sp⟩ := a
      simp only at this
      subst this; rfl
    · exact cell_heap (cellat k x hx j u hu)
    · obtain ⟨i, hi⟩ := List.getElem?_of_mem hx
      exact (hxs i x hi).1
theorem open_Sl {H : Type} {enc : TypeId × Value → H} {P : Program} {W : World} {base : Nat} {t e : TypeId} {size : Nat} {v : Value} {d : DataW H} {p : List MemPlace} {α : Type} (enc' : α → List Value) (ok : α → Prop)
    (ht : P.underlying t = some (.slice e)) (hc : P.cellsOf e = size) (hpos : 0 < size) (hlen : ∀ y, (enc' y).length = size)
    (hel : ∀ fuel cs x, DataW.trod enc P W 0 (fun _ => true) true fuel e cs = some x → ∃ y, ok y ∧ enc' y = cs)
    (hv : Value.okWide P W .any base t v) (h : DataW.Trod enc P W 0 (fun _ => true) true t v d p) : ∃ av n c xs, v = .slice av n c ∧ Sl (heapI W) size enc' av n c xs ∧ (∀ x ∈ xs, ok x) ∧ c ≤ maxLen := by
  obtain ⟨a0, len0, cap0, rfl⟩ := okWide_slice ht hv
  obtain ⟨fuel, hf⟩ := h
  obtain ⟨av, n, c, xs, e, h1, h2, h3⟩ := open_SlT enc' ok ht hc hpos hlen hel (cs := [.slice a0 len0 cap0]) (by simpa [Value.cells] using hf)
  cases e
  exact ⟨_, _, _, xs, rfl, h1, h2, h3⟩
/-- A slice of one-cell ints. -/
theorem el_int {H : Type} {enc : TypeId × Value → H} {P : Program} {W : World} {e : TypeId} {k : IntKind} (he : P.underlying e = some (.int k)) (hk : k = .i64) (fuel : Nat) (cs : List Value) (x : DataW H × List MemPlace) (h : DataW.trod enc P W 0 (fun _ => true) true fuel e cs = some x) :
    ∃ y : Int, (-9223372036854775808 ≤ y ∧ y ≤ 9223372036854775807) ∧ [Value.int .i64 y] = cs := by
  subst hk
  obtain ⟨v, hv⟩ : ∃ v, cs = [v] := by
    have := h
    cases fuel with
    | zero => simp [DataW.trod] at this
    | succ m => unfold DataW.trod at this; rw [he] at this; split at this <;> simp_all
  subst hv
  obtain ⟨n, e, _, w⟩ := DataW.trod_int he h
  cases e
  simp only [Lit.wf, Bool.and_eq_true, decide_eq_true_eq] at w
  exact ⟨n, w, rfl⟩
end Go.Kn
end
section
namespace Go.Kn
open Go
theorem trod_seg {H : Type} {enc : TypeId × Value → H} {P : Program} {W : World} {base : Nat} {spare : Nat → Bool} {held : Bool} {t C : Nat} {fs : Array Field} {fuel : Nat} {cs : List Value} {x : DataW H × List MemPlace} (hs : P.underlying t = some (.struct fs))
    (hC : P.cellsOf t = C) (h : DataW.trod enc P W base spare held fuel t cs = some x) :
    cs.length = C ∧ ∃ n, ∀ (i ty off k : Nat), ((fs[i]?).map fun f => (f.type, f.offset)) = some (ty, off) → P.cellsOf ty = k → ∃ y, DataW.trod enc P W base spare held n ty ((cs.drop off).take k) = some y := by
  obtain ⟨xs, n, _, _, hl, hxl, hf⟩ := DataW.trod_struct hs h
  refine ⟨hl.trans hC, n, fun i ty off k hi hk => ?_⟩
  obtain ⟨f, hfi, e⟩ := Option.map_eq_some_iff.1 hi
  cases e
  have g := hf i f hfi
  have hix : i < xs.length := by rw [hxl]; exact (Array.getElem?_eq_some_iff.1 hfi).1
  rw [hk, List.getElem?_eq_getElem hix] at g
  exact ⟨_, g⟩
end Go.Kn
end
section
namespace Go.Proofs.YtclkmnidgdkekaaGreat
open Go Go.Kn Go.Proofs
open Go.ChangeShapes Go.WideShapes Go.ChangeAt Go.RowKit
set_option maxRecDepth 100000
theorem ound_3 : Tryz.prog.underlying 3 = some (.int .i64) := by kernel_rfl
theorem ound_24 : Tryz.prog.underlying 24 = some (.slice 3) := by kernel_rfl
theorem ostr_40 : Tryz.prog.underlying 40 = some (.struct (Tryz.prog.fieldsOf 40)) := by kernel_rfl
theorem ound_26 : Tryz.prog.underlying 26 = some (.slice 40) := by kernel_rfl
theorem ostr_28 : Tryz.prog.underlying 28 = some (.struct (Tryz.prog.fieldsOf 28)) := by kernel_rfl
theorem relS_of {I : HMap} : ∀ {hs : List SH}, (∀ h ∈ hs, ∃ s, SesAt I h s) → ∃ ss, RelS I hs ss
  | [], _ => ⟨[], RelS.nil⟩
  | h :: hs, H => by
    obtain ⟨s, h0⟩ := H h (by simp)
    obtain ⟨ss, h1⟩ := relS_of (hs := hs) fun x hx => H x (by simp [hx])
    refine ⟨s :: ss, by simp [h1.1], fun k x y a b => ?_⟩
    cases k with
    | zero => simp at a b; subst a b; exact h0
    | succ k => simp at a b; exact h1.2 k x y a b
theorem crAt_of {I : HMap} {a a2 : Option Addr} {n c n2 c2 : Nat} {ds : List Int} {st da lo ru : Int} {hs : List SH} (h0 : Sl I 1 encI a n c ds) (h5 : Sl I 4 encSH a2 n2 c2 hs) (ho : ∀ h ∈ hs, ∃ s, SesAt I h s) : ∃ cr, CrAt I ⟨a, n, c, st, da, lo, ru, a2, n2, c2⟩ cr := by
  obtain ⟨ss, hr⟩ := relS_of ho
  exact ⟨⟨ds, st, da, lo, ru, ss⟩, h0, rfl, rfl, rfl, rfl, hs, h5, hr⟩
theorem el_ses {H : Type} {enc : TypeId × Value → H} {W : World} (fuel : Nat) (cs : List Value) (x : DataW H × List MemPlace) (h : DataW.trod enc Tryz.prog W 0 (fun _ => true) true fuel 40 cs = some x) : ∃ y : SH, (fun h => ∃ s, SesAt (heapI W) h s) y ∧ encSH y = cs := by
  obtain ⟨hl, n0_, f0⟩ := trod_seg (C := 4) ostr_40 (by kernel_rfl) h
  match cs, hl with
  | [c0, c1, c2, c3], _ =>
    obtain ⟨_, g0_0⟩ := f0 0 3 0 1 (by kernel_rfl) (by kernel_rfl)
    obtain ⟨n0, e0, _, w0⟩ := DataW.trod_int ound_3 (show DataW.trod enc Tryz.prog W 0 (fun _ => true) true n0_ 3 [c0] = some _ from g0_0)
    obtain ⟨_, g0_1⟩ := f0 1 3 1 1 (by kernel_rfl) (by kernel_rfl)
    obtain ⟨n1, e1, _, w1⟩ := DataW.trod_int ound_3 (show DataW.trod enc Tryz.prog W 0 (fun _ => true) true n0_ 3 [c1] = some _ from g0_1)
    obtain ⟨_, g0_2⟩ := f0 2 24 2 1 (by kernel_rfl) (by kernel_rfl)
    obtain ⟨a2, m2, q2, n2, e2, s2, o2, _⟩ := open_SlT (t := 24) (e := 3) encI (fun n : Int => -9223372036854775808 ≤ n ∧ n ≤ 9223372036854775807) ound_24 (by kernel_rfl) (by decide) encI_len (fun fuel cs x h => el_int ound_3 rfl fuel cs x h) (show DataW.trod enc Tryz.prog W 0 (fun _ => true) true n0_ 24 [c2] = some _ from g0_2)
    obtain ⟨_, g0_3⟩ := f0 3 24 3 1 (by kernel_rfl) (by kernel_rfl)
    obtain ⟨a3, m3, q3, n3, e3, s3, o3, _⟩ := open_SlT (t := 24) (e := 3) encI (fun n : Int => -9223372036854775808 ≤ n ∧ n ≤ 9223372036854775807) ound_24 (by kernel_rfl) (by decide) encI_len (fun fuel cs x h => el_int ound_3 rfl fuel cs x h) (show DataW.trod enc Tryz.prog W 0 (fun _ => true) true n0_ 24 [c3] = some _ from g0_3)
    cases e0; cases e1; cases e2; cases e3
    exact ⟨⟨n0, n1, a2, m2, q2, a3, m3, q3⟩, ⟨⟨n0, n1, n2, n3⟩, rfl, rfl, s2, s3⟩, rfl⟩
theorem el_cr {H : Type} {enc : TypeId × Value → H} {W : World} (fuel : Nat) (cs : List Value) (x : DataW H × List MemPlace) (h : DataW.trod enc Tryz.prog W 0 (fun _ => true) true fuel 28 cs = some x) : ∃ y : CH, (fun x => ∃ cr, CrAt (heapI W) x cr) y ∧ encCH y = cs := by
  obtain ⟨hl, n0_, f0⟩ := trod_seg (C := 6) ostr_28 (by kernel_rfl) h
  match cs, hl with
  | [c0, c1, c2, c3, c4, c5], _ =>
    obtain ⟨_, g0_0⟩ := f0 0 24 0 1 (by kernel_rfl) (by kernel_rfl)
    obtain ⟨a0, m0, q0, n0, e0, s0, o0, _⟩ := open_SlT (t := 24) (e := 3) encI (fun n : Int => -9223372036854775808 ≤ n ∧ n ≤ 9223372036854775807) ound_24 (by kernel_rfl) (by decide) encI_len (fun fuel cs x h => el_int ound_3 rfl fuel cs x h) (show DataW.trod enc Tryz.prog W 0 (fun _ => true) true n0_ 24 [c0] = some _ from g0_0)
    obtain ⟨_, g0_1⟩ := f0 1 3 1 1 (by kernel_rfl) (by kernel_rfl)
    obtain ⟨n1, e1, _, w1⟩ := DataW.trod_int ound_3 (show DataW.trod enc Tryz.prog W 0 (fun _ => true) true n0_ 3 [c1] = some _ from g0_1)
    obtain ⟨_, g0_2⟩ := f0 2 3 2 1 (by kernel_rfl) (by kernel_rfl)
    obtain ⟨n2, e2, _, w2⟩ := DataW.trod_int ound_3 (show DataW.trod enc Tryz.prog W 0 (fun _ => true) true n0_ 3 [c2] = some _ from g0_2)
    obtain ⟨_, g0_3⟩ := f0 3 3 3 1 (by kernel_rfl) (by kernel_rfl)
    obtain ⟨n3, e3, _, w3⟩ := DataW.trod_int ound_3 (show DataW.trod enc Tryz.prog W 0 (fun _ => true) true n0_ 3 [c3] = some _ from g0_3)
    obtain ⟨_, g0_4⟩ := f0 4 3 4 1 (by kernel_rfl) (by kernel_rfl)
    obtain ⟨n4, e4, _, w4⟩ := DataW.trod_int ound_3 (show DataW.trod enc Tryz.prog W 0 (fun _ => true) true n0_ 3 [c4] = some _ from g0_4)
    obtain ⟨_, g0_5⟩ := f0 5 26 5 1 (by kernel_rfl) (by kernel_rfl)
    obtain ⟨a5, m5, q5, n5, e5, s5, o5, _⟩ := open_SlT (t := 26) (e := 40) encSH (fun h => ∃ s, SesAt (heapI W) h s) ound_26 (by kernel_rfl) (by decide) encSH_len (fun fuel cs x h => el_ses fuel cs x h) (show DataW.trod enc Tryz.prog W 0 (fun _ => true) true n0_ 26 [c5] = some _ from g0_5)
    cases e0; cases e1; cases e2; cases e3; cases e4; cases e5
    exact ⟨⟨a0, m0, q0, n1, n2, n3, n4, a5, m5, q5⟩, crAt_of s0 s5 o5, rfl⟩
theorem open_cr {H : Type} {enc : TypeId × Value → H} {W : World} {base : Nat} {v : Value} {d : DataW H} {p : List MemPlace} (hv : Value.okWide Tryz.prog W .any base 28 v) (h : DataW.Trod enc Tryz.prog W 0 (fun _ => true) true 28 v d p) : ∃ y : CH, v = encCHA y ∧ (fun x => ∃ cr, CrAt (heapI W) x cr) y := by
  obtain ⟨cs, rfl, _⟩ := okWide_struct ostr_28 hv
  obtain ⟨fuel, hf⟩ := h
  obtain ⟨l⟩ := cs
  obtain ⟨y, hy, e⟩ := el_cr fuel l _ hf
  exact ⟨y, by rw [← e]; rfl, hy⟩
theorem open_ints {H : Type} {enc : TypeId × Value → H} {W : World} {base : Nat} {v : Value} {d : DataW H} {p : List MemPlace} (hv : Value.okWide Tryz.prog W .any base 24 v) (h : DataW.Trod enc Tryz.prog W 0 (fun _ => true) true 24 v d p) :
    ∃ av n c xs, v = .slice av n c ∧ Sl (heapI W) 1 encI av n c xs := by
  obtain ⟨av, n, c, xs, e, hS, hok, _⟩ := open_Sl (e := 3) encI (fun n : Int => -9223372036854775808 ≤ n ∧ n ≤ 9223372036854775807) ound_24 (by kernel_rfl) (by decide) encI_len (fun fuel cs x h => el_int ound_3 rfl fuel cs x h) hv h
  exact ⟨av, n, c, xs, e, hS⟩
end Go.Proofs.YtclkmnidgdkekaaGreat
end
section
namespace Go.Proofs.YtclkmnidgdkekaaGreat
open Go Go.Kn Go.Proofs
open Go.ChangeShapes Go.WideShapes Go.ChangeAt Go.RowKit
set_option maxRecDepth 100000
theorem ostr_62 : Tryz.prog.underlying 62 = some (.struct (Tryz.prog.fieldsOf 62)) := by kernel_rfl
theorem ostr_64 : Tryz.prog.underlying 64 = some (.struct (Tryz.prog.fieldsOf 64)) := by kernel_rfl
theorem ostr_66 : Tryz.prog.underlying 66 = some (.struct (Tryz.prog.fieldsOf 66)) := by kernel_rfl
theorem ound_22 : Tryz.prog.underlying 22 = some (.slice 66) := by kernel_rfl
theorem el_pt {H : Type} {enc : TypeId × Value → H} {W : World} (fuel : Nat) (cs : List Value) (x : DataW H × List MemPlace) (h : DataW.trod enc Tryz.prog W 0 (fun _ => true) true fuel 66 cs = some x) : ∃ y : Pt, (fun p => Nd (heapI W) p) y ∧ encP y = cs := by
  obtain ⟨hl, n0_, f0⟩ := trod_seg (C := 19) ostr_66 (by kernel_rfl) h
  match cs, hl with
  | [c0, c1, c2, c3, c4, c5, c6, c7, c8, c9, c10, c11, c12, c13, c14, c15, c16, c17, c18], _ =>
    obtain ⟨_, g0_0⟩ := f0 0 3 0 1 (by kernel_rfl) (by kernel_rfl)
    obtain ⟨n0, e0, _, w0⟩ := DataW.trod_int ound_3 (show DataW.trod enc Tryz.prog W 0 (fun _ => true) true n0_ 3 [c0] = some _ from g0_0)
    obtain ⟨_, g0_1⟩ := f0 1 3 1 1 (by kernel_rfl) (by kernel_rfl)
    obtain ⟨n1, e1, _, w1⟩ := DataW.trod_int ound_3 (show DataW.trod enc Tryz.prog W 0 (fun _ => true) true n0_ 3 [c1] = some _ from g0_1)
    obtain ⟨_, g0_2⟩ := f0 2 3 2 1 (by kernel_rfl) (by kernel_rfl)
    obtain ⟨n2, e2, _, w2⟩ := DataW.trod_int ound_3 (show DataW.trod enc Tryz.prog W 0 (fun _ => true) true n0_ 3 [c2] = some _ from g0_2)
    obtain ⟨_, g0_3⟩ := f0 3 3 3 1 (by kernel_rfl) (by kernel_rfl)
    obtain ⟨n3, e3, _, w3⟩ := DataW.trod_int ound_3 (show DataW.trod enc Tryz.prog W 0 (fun _ => true) true n0_ 3 [c3] = some _ from g0_3)
    obtain ⟨_, g0_4⟩ := f0 4 64 4 14 (by kernel_rfl) (by kernel_rfl)
    obtain ⟨_, n1_, f1⟩ := trod_seg (C := 14) ostr_64 (by kernel_rfl) (show DataW.trod enc Tryz.prog W 0 (fun _ => true) true n0_ 64 [c4, c5, c6, c7, c8, c9, c10, c11, c12, c13, c14, c15, c16, c17] = some _ from g0_4)
    obtain ⟨_, g1_0⟩ := f1 0 3 0 1 (by kernel_rfl) (by kernel_rfl)
    obtain ⟨n4, e4, _, w4⟩ := DataW.trod_int ound_3 (show DataW.trod enc Tryz.prog W 0 (fun _ => true) true n1_ 3 [c4] = some _ from g1_0)
    obtain ⟨_, g1_1⟩ := f1 1 3 1 1 (by kernel_rfl) (by kernel_rfl)
    obtain ⟨n5, e5, _, w5⟩ := DataW.trod_int ound_3 (show DataW.trod enc Tryz.prog W 0 (fun _ => true) true n1_ 3 [c5] = some _ from g1_1)
    obtain ⟨_, g1_2⟩ := f1 2 3 2 1 (by kernel_rfl) (by kernel_rfl)
    obtain ⟨n6, e6, _, w6⟩ := DataW.trod_int ound_3 (show DataW.trod enc Tryz.prog W 0 (fun _ => true) true n1_ 3 [c6] = some _ from g1_2)
    obtain ⟨_, g1_3⟩ := f1 3 3 3 1 (by kernel_rfl) (by kernel_rfl)
    obtain ⟨n7, e7, _, w7⟩ := DataW.trod_int ound_3 (show DataW.trod enc Tryz.prog W 0 (fun _ => true) true n1_ 3 [c7] = some _ from g1_3)
    obtain ⟨_, g1_4⟩ := f1 4 3 4 1 (by kernel_rfl) (by kernel_rfl)
    obtain ⟨n8, e8, _, w8⟩ := DataW.trod_int ound_3 (show DataW.trod enc Tryz.prog W 0 (fun _ => true) true n1_ 3 [c8] = some _ from g1_4)
    obtain ⟨_, g1_5⟩ := f1 5 3 5 1 (by kernel_rfl) (by kernel_rfl)
    obtain ⟨n9, e9, _, w9⟩ := DataW.trod_int ound_3 (show DataW.trod enc Tryz.prog W 0 (fun _ => true) true n1_ 3 [c9] = some _ from g1_5)
    obtain ⟨_, g1_6⟩ := f1 6 3 6 1 (by kernel_rfl) (by kernel_rfl)
    obtain ⟨n10, e10, _, w10⟩ := DataW.trod_int ound_3 (show DataW.trod enc Tryz.prog W 0 (fun _ => true) true n1_ 3 [c10] = some _ from g1_6)
    obtain ⟨_, g1_7⟩ := f1 7 3 7 1 (by kernel_rfl) (by kernel_rfl)
    obtain ⟨n11, e11, _, w11⟩ := DataW.trod_int ound_3 (show DataW.trod enc Tryz.prog W 0 (fun _ => true) true n1_ 3 [c11] = some _ from g1_7)
    obtain ⟨_, g1_8⟩ := f1 8 3 8 1 (by kernel_rfl) (by kernel_rfl)
    obtain ⟨n12, e12, _, w12⟩ := DataW.trod_int ound_3 (show DataW.trod enc Tryz.prog W 0 (fun _ => true) true n1_ 3 [c12] = some _ from g1_8)
    obtain ⟨_, g1_9⟩ := f1 9 3 9 1 (by kernel_rfl) (by kernel_rfl)
    obtain ⟨n13, e13, _, w13⟩ := DataW.trod_int ound_3 (show DataW.trod enc Tryz.prog W 0 (fun _ => true) true n1_ 3 [c13] = some _ from g1_9)
    obtain ⟨_, g1_10⟩ := f1 10 62 10 2 (by kernel_rfl) (by kernel_rfl)
    obtain ⟨_, n2_, f2⟩ := trod_seg (C := 2) ostr_62 (by kernel_rfl) (show DataW.trod enc Tryz.prog W 0 (fun _ => true) true n1_ 62 [c14, c15] = some _ from g1_10)
    obtain ⟨_, g2_0⟩ := f2 0 3 0 1 (by kernel_rfl) (by kernel_rfl)
    obtain ⟨n14, e14, _, w14⟩ := DataW.trod_int ound_3 (show DataW.trod enc Tryz.prog W 0 (fun _ => true) true n2_ 3 [c14] = some _ from g2_0)
    obtain ⟨_, g2_1⟩ := f2 1 3 1 1 (by kernel_rfl) (by kernel_rfl)
    obtain ⟨n15, e15, _, w15⟩ := DataW.trod_int ound_3 (show DataW.trod enc Tryz.prog W 0 (fun _ => true) true n2_ 3 [c15] = some _ from g2_1)
    obtain ⟨_, g1_11⟩ := f1 11 62 12 2 (by kernel_rfl) (by kernel_rfl)
    obtain ⟨_, n3_, f3⟩ := trod_seg (C := 2) ostr_62 (by kernel_rfl) (show DataW.trod enc Tryz.prog W 0 (fun _ => true) true n1_ 62 [c16, c17] = some _ from g1_11)
    obtain ⟨_, g3_0⟩ := f3 0 3 0 1 (by kernel_rfl) (by kernel_rfl)
    obtain ⟨n16, e16, _, w16⟩ := DataW.trod_int ound_3 (show DataW.trod enc Tryz.prog W 0 (fun _ => true) true n3_ 3 [c16] = some _ from g3_0)
    obtain ⟨_, g3_1⟩ := f3 1 3 1 1 (by kernel_rfl) (by kernel_rfl)
    obtain ⟨n17, e17, _, w17⟩ := DataW.trod_int ound_3 (show DataW.trod enc Tryz.prog W 0 (fun _ => true) true n3_ 3 [c17] = some _ from g3_1)
    obtain ⟨_, g0_5⟩ := f0 5 24 18 1 (by kernel_rfl) (by kernel_rfl)
    obtain ⟨a18, m18, q18, n18, e18, s18, o18, _⟩ := open_SlT (t := 24) (e := 3) encI (fun n : Int => -9223372036854775808 ≤ n ∧ n ≤ 9223372036854775807) ound_24 (by kernel_rfl) (by decide) encI_len (fun fuel cs x h => el_int ound_3 rfl fuel cs x h) (show DataW.trod enc Tryz.prog W 0 (fun _ => true) true n0_ 24 [c18] = some _ from g0_5)
    cases e0; cases e1; cases e2; cases e3; cases e4; cases e5; cases e6; cases e7; cases e8; cases e9; cases e10; cases e11; cases e12; cases e13; cases e14; cases e15; cases e16; cases e17; cases e18
    exact ⟨⟨n0, n1, n2, n3, ⟨n4, n5, n6, n7, n8, n9, n10, n11, n12, n13, n14, n15, n16, n17⟩, a18, m18, q18, n18⟩, s18, rfl⟩
theorem open_ps {H : Type} {enc : TypeId × Value → H} {W : World} {base : Nat} {v : Value} {d : DataW H} {p : List MemPlace} (hv : Value.okWide Tryz.prog W .any base 22 v) (h : DataW.Trod enc Tryz.prog W 0 (fun _ => true) true 22 v d p) :
    ∃ av n c xs, v = .slice av n c ∧ SlP (heapI W) av n c xs := by
  obtain ⟨av, n, c, xs, e, hS, hok, _⟩ := open_Sl (e := 66) encP (fun p => Nd (heapI W) p) ound_22 (by kernel_rfl) (by decide) encP_len (fun fuel cs x h => el_pt fuel cs x h) hv h
  exact ⟨av, n, c, xs, e, ⟨hS, hok⟩⟩
theorem heads9 {I : HMap} : ∀ (hs : List Hd), (∀ h ∈ hs, ∃ v, Sl I 1 encI h.a h.n h.c v) → ∃ vss : List (List Int), RelA I 1 encI hs vss
  | [], _ => ⟨[], rfl, fun k h v a b => by simp at a⟩
  | x :: hs, H => by
    obtain ⟨vss, hl, hv⟩ := heads9 hs fun h hh => H h (List.mem_cons_of_mem _ hh)
    obtain ⟨v0, h0⟩ := H x (List.mem_cons_self ..)
    refine ⟨v0 :: vss, by simp [hl], fun k h v a b => ?_⟩
    cases k with
    | zero => cases a; cases b; exact h0
    | succ k => exact hv k h v a b
theorem open_nest {H : Type} {enc : TypeId × Value → H} {W : World} {base : Nat} {v : Value} {d : DataW H} {p : List MemPlace} (hv : Value.okWide Tryz.prog W .any base 23 v) (h : DataW.Trod enc Tryz.prog W 0 (fun _ => true) true 23 v d p) :
    ∃ av n c hs vss, v = .slice av n c ∧ SlHA (heapI W) 1 encI av n c hs vss := by
  obtain ⟨av, n, c, hs, e, hS, hok, hm⟩ := open_Sl (e := 24) encH (fun h => ∃ v, Sl (heapI W) 1 encI h.a h.n h.c v) (by kernel_rfl) (by kernel_rfl) (by decide) encH_len (fun fuel cs x h => by
    obtain ⟨a, m, q, ys, e, hT, _⟩ := open_SlT (t := 24) (e := 3) encI (fun _ => True) (by kernel_rfl) (by kernel_rfl) (by decide) encI_len (fun fuel cs x h => by
      obtain ⟨y, _, e⟩ := el_int ound_3 rfl fuel cs x h
      exact ⟨y, trivial, e⟩) h
    exact ⟨⟨a, m, q⟩, ⟨ys, hT⟩, e.symm⟩) hv h
  obtain ⟨vss, hr⟩ := heads9 hs hok
  exact ⟨av, n, c, hs, vss, e, hS, hr⟩
end Go.Proofs.YtclkmnidgdkekaaGreat
end
section
namespace Go.Proofs.YtclkmnidgdkekaaGreat
open Go Go.Kn Go.Proofs
open Go.ChangeShapes Go.WideShapes Go.ChangeAt Go.RowKit
set_option maxRecDepth 100000
theorem ostr_55 : Tryz.prog.underlying 55 = some (.struct (Tryz.prog.fieldsOf 55)) := by kernel_rfl
theorem ound_25 : Tryz.prog.underlying 25 = some (.slice 55) := by kernel_rfl
theorem el_ls {H : Type} {enc : TypeId × Value → H} {W : World} (fuel : Nat) (cs : List Value) (x : DataW H × List MemPlace) (h : DataW.trod enc Tryz.prog W 0 (fun _ => true) true fuel 55 cs = some x) : ∃ y : L.Ls, (fun _ => True) y ∧ L.encL y = cs := by
  obtain ⟨hl, n0_, f0⟩ := trod_seg (C := 5) ostr_55 (by kernel_rfl) h
  match cs, hl with
  | [c0, c1, c2, c3, c4], _ =>
    obtain ⟨_, g0_0⟩ := f0 0 3 0 1 (by kernel_rfl) (by kernel_rfl)
    obtain ⟨n0, e0, _, w0⟩ := DataW.trod_int ound_3 (show DataW.trod enc Tryz.prog W 0 (fun _ => true) true n0_ 3 [c0] = some _ from g0_0)
    obtain ⟨_, g0_1⟩ := f0 1 3 1 1 (by kernel_rfl) (by kernel_rfl)
    obtain ⟨n1, e1, _, w1⟩ := DataW.trod_int ound_3 (show DataW.trod enc Tryz.prog W 0 (fun _ => true) true n0_ 3 [c1] = some _ from g0_1)
    obtain ⟨_, g0_2⟩ := f0 2 3 2 1 (by kernel_rfl) (by kernel_rfl)
    obtain ⟨n2, e2, _, w2⟩ := DataW.trod_int ound_3 (show DataW.trod enc Tryz.prog W 0 (fun _ => true) true n0_ 3 [c2] = some _ from g0_2)
    obtain ⟨_, g0_3⟩ := f0 3 3 3 1 (by kernel_rfl) (by kernel_rfl)
    obtain ⟨n3, e3, _, w3⟩ := DataW.trod_int ound_3 (show DataW.trod enc Tryz.prog W 0 (fun _ => true) true n0_ 3 [c3] = some _ from g0_3)
    obtain ⟨_, g0_4⟩ := f0 4 3 4 1 (by kernel_rfl) (by kernel_rfl)
    obtain ⟨n4, e4, _, w4⟩ := DataW.trod_int ound_3 (show DataW.trod enc Tryz.prog W 0 (fun _ => true) true n0_ 3 [c4] = some _ from g0_4)
    cases e0; cases e1; cases e2; cases e3; cases e4
    exact ⟨⟨n0, n1, n2, n3, n4⟩, trivial, rfl⟩
theorem open_ls {H : Type} {enc : TypeId × Value → H} {W : World} {base : Nat} {v : Value} {d : DataW H} {p : List MemPlace} (hv : Value.okWide Tryz.prog W .any base 25 v) (h : DataW.Trod enc Tryz.prog W 0 (fun _ => true) true 25 v d p) :
    ∃ av n c xs, v = .slice av n c ∧ Sl (heapI W) 5 L.encL av n c xs := by
  obtain ⟨av, n, c, xs, e, hS, hok, _⟩ := open_Sl (e := 55) L.encL (fun _ => True) ound_25 (by kernel_rfl) (by decide) L.encL_len (fun fuel cs x h => el_ls fuel cs x h) hv h
  exact ⟨av, n, c, xs, e, hS⟩
end Go.Proofs.YtclkmnidgdkekaaGreat
end
section
namespace Go.Proofs.YtclkmnidgdkekaaGreat
open Go Go.Kn Go.Proofs
open Go.ChangeShapes Go.WideShapes Go.ChangeAt Go.RowKit
theorem own : ownKnob Tryz.prog.godebug = none := by kernel_rfl
theorem laidOut : laidOutB Tryz.prog = true := by kernel_rfl
set_option maxRecDepth 100000 in
theorem topCourse_lifted (os : Os) (started : os.Started) (H : Type) (enc : TypeId × Value → H) :
    ReturnsInHanded {} Tryz.checked os 3 .any (Rows.topCourseSpec.pre6 enc Tryz.prog Tryz.f3 Rows.topCourseRow.domain false) (Rows.topCourseSpec.post enc Tryz.prog Tryz.f3 false true false false) := by
  refine returnsInHanded_of_change (C := Tryz.checked) own started (by kernel_rfl) Tryz.func3
    (ChangeSpec.witness6 (enc := enc) (C := Tryz.checked) false ⟨#[], #[.slice none 0 0, .slice none 0 0, .slice none 0 0, .slice none 0 0, .slice none 0 0, .int .i64 0, .int .i64 0, .agg #[.slice none 0 0, .int .i64 0, .int .i64 0, .int .i64 0, .int .i64 0, .slice none 0 0]], []⟩ 8 (by kernel_rfl) (by kernel_rfl) (by kernel_rfl) (by kernel_rfl)) ?_
  intro W base args ds gs before hval0 hW hcnd _
  have hval : ∀ (j : Nat) t v, Tryz.f3.params[j]? = some t → args[j]? = some v → Value.okWide Tryz.prog W .any base t v := hval0
  have hW' := hW
  obtain ⟨p, q, hA0, hV, rfl, hfz, hnd⟩ := hW
  have hA : DataW.TrodAll enc Tryz.prog W 0 (fun _ => true) true Tryz.f3.params.toList args.toList ds p := hA0
  rw [Tryz.params3] at hA hval
  obtain ⟨v0, vs1, d0, ds1, p0, q1, ea, rfl, rfl, h0, hA⟩ := trodAll_cons hA
  obtain ⟨v1, vs2, d1, ds2, p1, q2, rfl, rfl, rfl, h1, hA⟩ := trodAll_cons hA
  obtain ⟨v2, vs3, d2, ds3, p2, q3, rfl, rfl, rfl, h2, hA⟩ := trodAll_cons hA
  obtain ⟨v3, vs4, d3, ds4, p3, q4, rfl, rfl, rfl, h3, hA⟩ := trodAll_cons hA
  obtain ⟨v4, vs5, d4, ds5, p4, q5, rfl, rfl, rfl, h4, hA⟩ := trodAll_cons hA
  obtain ⟨v5, vs6, d5, ds6, p5, q6, rfl, rfl, rfl, h5, hA⟩ := trodAll_cons hA
  obtain ⟨v6, vs7, d6, ds7, p6, q7, rfl, rfl, rfl, h6, hA⟩ := trodAll_cons hA
  obtain ⟨v7, vs8, d7, ds8, p7, q8, rfl, rfl, rfl, h7, hA⟩ := trodAll_cons hA
  obtain ⟨rfl, rfl, rfl⟩ := trodAll_nil hA
  have ea' : args = #[v0, v1, v2, v3, v4, v5, v6, v7] := by rw [← Array.toArray_toList (xs := args), ea]
  subst ea'
  obtain ⟨rfl, rfl⟩ := trodVars_none hV
  obtain ⟨av, n, c, ps, rfl, hP⟩ := open_ps (hval 0 22 v0 rfl rfl) h0
  obtain ⟨bv, n2, c2, hsh, vss, rfl, hV⟩ := open_nest (hval 1 23 v1 rfl rfl) h1
  obtain ⟨dv, n3, c3, tg, rfl, hT⟩ := open_ints (hval 2 24 v2 rfl rfl) h2
  obtain ⟨ev, n4, c4, ls, rfl, hLs⟩ := open_ls (hval 3 25 v3 rfl rfl) h3
  obtain ⟨fv, n5, c5, pp, rfl, hPe⟩ := open_ints (hval 4 24 v4 rfl rfl) h4
  obtain ⟨day, rfl, _, _, wfday⟩ := open_int ound_3 (hval 5 3 v5 rfl rfl) h5
  obtain ⟨time, rfl, _, _, wftime⟩ := open_int ound_3 (hval 6 3 v6 rfl rfl) h6
  obtain ⟨x, rfl, cr, hC⟩ := open_cr (hval 7 28 v7 rfl rfl) h7
  refine (RetV.law (w_topCourse hP hV hT hLs hPe day time hC)).mono fun e W' ⟨he, hB⟩ => ?_
  subst he
  exact ⟨_, rfl, post_law laidOut (by kernel_rfl) und_4 rfl rfl (by rw [Tryz.params3]; simp only [List.mem_cons, List.not_mem_nil, or_false, forall_eq_or_imp, forall_eq]; exact ⟨⟨by kernel_rfl, of_decide_eq_true (by kernel_rfl)⟩, ⟨by kernel_rfl, of_decide_eq_true (by kernel_rfl)⟩, ⟨by kernel_rfl, of_decide_eq_true (by kernel_rfl)⟩, ⟨by kernel_rfl, of_decide_eq_true (by kernel_rfl)⟩, ⟨by kernel_rfl, of_decide_eq_true (by kernel_rfl)⟩, ⟨by kernel_rfl, of_decide_eq_true (by kernel_rfl)⟩, ⟨by kernel_rfl, of_decide_eq_true (by kernel_rfl)⟩, ⟨by kernel_rfl, of_decide_eq_true (by kernel_rfl)⟩⟩) hW' hB⟩
theorem topCourse_holds : Rows.TopCourseSaid :=
  OpenClaim.holds_of_wide 3 Tryz.f3 rfl rfl rfl rfl rfl rfl rfl ⟨rfl, rfl, rfl, rfl, rfl⟩ rfl rfl rfl rfl rfl (by kernel_rfl) Tryz.func3 (by kernel_rfl)
    (of_decide_eq_true (by kernel_rfl)) (by unfold Func.isWrapper; first | (rw [if_pos (by decide +kernel)]; kernel_rfl) | (rw [if_neg (by decide +kernel)]; exact ⟨rfl, rfl⟩))
    (fun os started H enc _ => topCourse_lifted os started H enc)
#print axioms topCourse_holds
end Go.Proofs.YtclkmnidgdkekaaGreat
end
