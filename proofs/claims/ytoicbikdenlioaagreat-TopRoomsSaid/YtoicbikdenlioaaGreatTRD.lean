/- topRooms_holds, part D of the proof: what its theorems say holds without further conditions. -/
import Derived.Test.YtoicbikdenlioaaGreatTRC
section
namespace Go.Proofs.YtoicbikdenlioaaGreat
open Go Go.Kn Go.Proofs
theorem w_read {I : HMap} {av : Option Addr} {n c : Nat} {ps : List Pt} (hP : SlP I av n c ps) (hn : n ≤ 100000) {bv : Option Addr} {n2 c2 : Nat} {bs : List Sg} (hB : Sl I 14 encG bv n2 c2 bs) (hn2 : n2 ≤ 100000) {dv : Option Addr} {n3 c3 : Nat} {ws : List Int} (hV : Sl I 1 encI dv n3 c3 ws) (hn3 : n3 ≤ 100000) : RetM Tryz.prog 30 [.slice av n c, .slice bv n2 c2, .slice dv n3 c3] I [] (RdQ (patE ps bs ws) ps (verL ps ws) (allG bs (verL ps ws))) := by
 intro g H w hw
 refine enter Tryz.func30 rfl Tryz.ntmps30 rfl hw ?_
 have hIc := HLe.refl I
 refine zR ?_
 refine XO_alloc zt_86 rfl rfl (fun b_6 => ?_)
 refine zA ?_
 refine zN ?_
 refine X_seq ?_
 refine zR ?_
 refine zM ?_
 refine XO_callV0 (cap := []) (vs := [_]) rfl rfl fun_7 (w_chkR hP hn) rfl rfl ?_
 refine zA ?_
 refine zN (zR ?_)
 refine zM ?_
 refine zC ?_
 refine zN ?_
 refine zI ?_ ?_ <;> intro hc19
 ·
  have hck : chkR ps ≠ 0 := by simpa using hc19
  refine zR ?_
  refine zV (ev_loadA rfl agt_86 (fun hg => by (repeat (first | exact Cells.here | exact Cells.s0 (vs := [_, _, _, _]) rfl | apply Cells.there | apply Cells.app))) rfl) ?_
  refine zM ?_
  refine XO_storeA rfl rfl szt_86 rfl rfl rfl rfl (by repeat (first | exact Upd.here | apply Upd.there | apply upd_app)) ?_
  refine zA ?_
  refine zN ?_
  refine X_ret ?_
  refine at_then_r ?_
  first
  | exact at_ret2A rfl rfl rfl agt_86 (by repeat (first | exact Cells.here | apply Cells.there | apply Cells.app)) rfl (fun w hw => ⟨_, I, [], rfl, hIc, hw.drop, rfl, _, _, _, _, _, _, by rw [pat_1 hck], fun h0 => absurd h0 (by rw [pat_1 hck]; exact hck)⟩)
 have hck : chkR ps = 0 := by simpa using hc19
 have hn5 : n ≤ 512 := by have := (chkR_ok hck).1; rw [hP.len] at this; omega
 have hL := chkR_lst hck
 have hnd := nd_chk hP hck
 have hSto := chkR_sto hck
 refine X_skip ?_
 refine at_then ?_
 refine X_seq ?_
 refine zR ?_
 refine zM ?_
 refine XO_callV0 (cap := []) (vs := [_]) rfl rfl fun_15 (w_chkG hB hn2) rfl rfl ?_
 refine zA ?_
 refine zN (zR ?_)
 refine zM ?_
 refine zC ?_
 refine zN ?_
 refine zI ?_ ?_ <;> intro hc25
 ·
  have hcg : chkG bs ≠ 0 := by simpa using hc25
  refine zR ?_
  refine zV (ev_loadA rfl agt_86 (fun hg => by (repeat (first | exact Cells.here | exact Cells.s0 (vs := [_, _, _, _]) rfl | apply Cells.there | apply Cells.app))) rfl) ?_
  refine zM ?_
  refine XO_storeA rfl rfl szt_86 rfl rfl rfl rfl (by repeat (first | exact Upd.here | apply Upd.there | apply upd_app)) ?_
  refine zA ?_
  refine zN ?_
  refine X_ret ?_
  refine at_then_r ?_
  first
  | exact at_ret2A rfl rfl rfl agt_86 (by repeat (first | exact Cells.here | apply Cells.there | apply Cells.app)) rfl (fun w hw => ⟨_, I, [], rfl, hIc, hw.drop, rfl, _, _, _, _, _, _, by rw [pat_2 hck hcg], fun h0 => absurd h0 (by rw [pat_2 hck hcg]; exact hcg)⟩)
 have hcg : chkG bs = 0 := by simpa using hc25
 refine X_skip ?_
 refine at_then ?_
 refine X_seq ?_
 refine zR ?_
 refine zM ?_
 refine zM ?_
 refine XO_callV0 (cap := []) (vs := [_, _]) rfl rfl fun_32 (w_version hP hn5 hL hnd hV hn3) rfl rfl ?_
 refine zA ?_
 refine zN (zR ?_)
 refine zM ?_
 refine zC ?_
 refine zN ?_
 refine zI ?_ ?_ <;> intro hc32
 ·
  have hcv : vrE ps ws ≠ 0 := by simpa using hc32
  refine zR ?_
  refine zV (ev_loadA rfl agt_86 (fun hg => by (repeat (first | exact Cells.here | exact Cells.s0 (vs := [_, _, _, _]) rfl | apply Cells.there | apply Cells.app))) rfl) ?_
  refine zM ?_
  refine XO_storeA rfl rfl szt_86 rfl rfl rfl rfl (by repeat (first | exact Upd.here | apply Upd.there | apply upd_app)) ?_
  refine zA ?_
  refine zN ?_
  refine X_ret ?_
  refine at_then_r ?_
  first
  | exact at_ret2A rfl rfl rfl agt_86 (by repeat (first | exact Cells.here | apply Cells.there | apply Cells.app)) rfl (fun w hw => ⟨_, I, [], rfl, hIc, hw.drop, rfl, _, _, _, _, _, _, by rw [pat_3 hck hcg hcv], fun h0 => absurd h0 (by rw [pat_3 hck hcg hcv]; exact hcv)⟩)
 have hcv : vrE ps ws = 0 := by simpa using hc32
 have hVer := (verB_iff hL).1 (vr_ver hcv)
 refine X_skip ?_
 refine at_then ?_
 refine zR ?_
 refine zM ?_
 refine XO_callM (cap := []) (vs := [_]) rfl rfl fun_29 .nil (w_stands hP hn hL hnd) rfl rfl ?_
 rintro vv1 I1 L1 hI1 ⟨rfl, r9, rfl, hOn⟩
 have hP := hP.mono hI1; have hB := hB.mono hI1; have hV := hV.mono hI1; have hIc := hIc.trans hI1
 refine XO_makeMap rfl rfl (fun r_37 => ?_)
 refine XO_makeMap rfl rfl (fun r_38 => ?_)
 refine zM ?_
 refine XO_callM (cap := []) (vs := [_]) rfl rfl fun_79 .nil (w_cloneG hB (by omega)) rfl rfl ?_
 rintro vv2 I2 L2 hI2 ⟨rfl, hO⟩
 have hP := hP.mono hI2; have hB := hB.mono hI2; have hV := hV.mono hI2; have hOn := hOn.mono hI2; have hIc := hIc.trans hI2
 obtain ⟨Lg, hLg⟩ : ∃ Lg, Lg = L2 := ⟨_, rfl⟩
 subst hLg
 obtain ⟨vg, hvg⟩ : ∃ z, z = vv2 := ⟨_, rfl⟩
 subst hvg
 obtain ⟨va, vn, vc, rfl⟩ := hO.val
 refine zV (ev_buildL (ps := [(0, _), (1, _), (2, _), (3, _)]) [_, _, _, _] plt_86 rfl rfl) ?_
 refine XO_storeA rfl rfl szt_86 rfl rfl rfl rfl (by repeat (first | exact Upd.here | apply Upd.there | apply upd_app)) ?_
 refine zN (zR ?_)
 refine XO_makeMap rfl rfl (fun r_42 => ?_)
 refine zA ?_
 refine zN ?_
 refine X_seq ?_
 refine zR ?_
 refine zM ?_
 refine zQ slt_22 ?_
 refine zM ?_
 refine zN ?_
 refine X_block ?_
 refine X_loopT [(0, _), (2, _), (6, _), (8, _), (43, _), (44, _)] (.cons rfl (.cons rfl (.cons rfl (.cons rfl (.cons rfl (.cons rfl .nil)))))) (fun T L0 mz E I' loc' => ∃ (k : Nat) (s : List (Int × Bool)), mz = n2 - k ∧ E = (45, .int .i64 k) :: T ∧ I2 = I' ∧ (r_42, mapO (Value.int .i64) Value.bool s) :: (Lg ++ [(r_38, mapO (Value.int .i64) fstT []), (r_37, mapO encK2 fstT []), (b_6, .cells #[.map (some r9), .map (some r_37), .map (some r_38), .slice va vn vc] 86 (0, 0))]) = loc' ∧ k ≤ n2 ∧ ∀ x, setM s x = hasS (bs.take k) x) _ _ _ _ ⟨0, [], rfl, rfl, rfl, rfl, Nat.zero_le _, fun x => rfl⟩ (.cons rfl (.cons rfl (.cons rfl (.cons rfl (.cons rfl (.cons rfl (.cons rfl .nil))))))) (HLe.refl _) rfl ?_
 rintro mz E I' loc' ⟨k, s, rfl, rfl, rfl, rfl, hk, hs⟩
 refine zR ?_
 refine zC ?_
 refine zN ?_
 refine X_seq ?_
 refine zI ?_ ?_ <;> intro hc46
 ·
  have hlt_k : k < n2 := by have h := hc46; simp at h; omega
  obtain ⟨b, hb⟩ := hB.at hlt_k
  refine X_skip ?_
  refine at_then ?_
  refine X_seq ?_
  refine X_block ?_
  refine zR ?_
  refine zV (ev_indexSl rfl rfl slt_22 (by assumption) (fun hg => by omega)) ?_
  refine zV (ev_loadA rfl agt_26 (fun hg => by exact Sl.getA hB hb) rfl) ?_
  refine XO_alloc zt_26 rfl rfl (fun b_10 => ?_)
  refine XO_storeA rfl rfl szt_26 rfl rfl rfl rfl (by repeat (first | exact Upd.here | apply Upd.there | apply upd_app)) ?_
  refine zN ?_
  refine X_region ?_
  refine zM ?_
  refine zF fld_26_0 ?_
  refine zL sct_3 ?_
  refine XO_mapUpdate (m := s) (ek := Value.int .i64) (ev := Value.bool) (a := b.id)  true mpt_77 key_3 rfl rfl rfl rfl (by repeat (first | exact Upd.here | apply Upd.there | apply upd_app)) ?_
  refine XO_nil ?_
  refine at_block_n ?_
  refine at_then ?_
  refine X_region ?_
  refine zV (ev_arB rfl rfl rfl (fun _ => by omega)) ?_
  refine zM ?_
  refine XO_nil ?_
  exact at_met2 _ _ ⟨n2 - (k + 1), by omega, k + 1, _, rfl, rfl, rfl, rfl, by omega, fun x => by rw [setM_put, hs, hasS_snoc hb]⟩ (.cons rfl (.cons rfl (.cons rfl (.cons rfl (.cons rfl (.cons rfl (.cons rfl .nil))))))) (by repeat (first | exact .refl | exact subL_left | refine subL_app ?_ | refine .drop ?_ | refine subL_add ?_))
 have hge_k : n2 ≤ k := by have h := hc46; simp at h; omega
 have hkn := know_start hs (by rw [hB.len]; exact hge_k)
 refine X_exit ?_
 refine at_then_e ?_
 refine at_then_e ?_
 refine at_block_hit ?_
 refine at_then ?_
 refine X_seq ?_
 refine zR ?_
 refine zM ?_
 refine zQ slt_33 ?_
 refine zM ?_
 refine zN ?_
 refine X_block ?_
 refine X_loopT [(2, _), (6, _), (8, _), (53, _), (54, _)] (.cons rfl (.cons rfl (.cons rfl (.cons rfl (.cons rfl .nil))))) (fun T L0 mz E I' loc' => ∃ (k : Nat) (s : List (Int × Bool)) (vg : Value) (q : Nat) (Lg : Go.Kn.Loc) (ms : List ((Int × Int) × Trip)) (Ls : Go.Kn.Loc) (mr : List (Int × Trip)) (Lr : Go.Kn.Loc), mz = n - k ∧ E = (55, .int .i64 k) :: T ∧ I2 = I' ∧ (r_42, mapO (Value.int .i64) Value.bool s) :: (Lg ++ ((r_38, mapO (Value.int .i64) fstT mr) :: (r_37, mapO encK2 fstT ms) :: (b_6, .cells #[.map (some r9), .map (some r_37), .map (some r_38), vg] 86 (0, 0)) :: (Ls ++ Lr))) = loc' ∧ k ≤ n ∧ KnowM s bs (verL (ps.take k) ws) ∧ OwnS 26 14 vg q ((bs ++ insS (verL (ps.take k) ws)).flatMap encG) Lg ∧ q ≤ n2 + k ∧ SetM ms (verL (ps.take k) ws) ∧ OwnAll 44 19 (ms.map (·.2)) Ls ∧ RemM mr (verL (ps.take k) ws) ∧ OwnAll 3 1 (mr.map (·.2)) Lr ∧ (verL (ps.take k) ws).all (fitP bs (verL ps ws)) = true) _ _ _ _ ⟨0, s, _, n2, Lg, [], [], [], [], rfl, rfl, rfl, rfl, Nat.zero_le _, hkn, by rw [show bs ++ insS (verL (ps.take 0) ws) = bs from List.append_nil _]; exact hO, Nat.le_refl _, SetM.start, OwnAll.nil, RemM.start, OwnAll.nil, rfl⟩ (.cons rfl (.cons rfl (.cons rfl (.cons rfl (.cons rfl (.cons rfl .nil)))))) (HLe.refl _) rfl ?_
 rintro mz E I' loc' ⟨k, s, vg, q, Lg, ms, Ls, mr, Lr, rfl, rfl, rfl, rfl, hk, hkn, hO, hq, hsm, hAllS, hrm, hAllR, hfit⟩
 obtain ⟨va, vn, vc, rfl⟩ := hO.val
 refine zR ?_
 refine zC ?_
 refine zN ?_
 refine X_seq ?_
 refine zI ?_ ?_ <;> intro hc56
 ·
  have hlt_k : k < n := by have h := hc56; simp at h; omega
  have hP1 := hP.1
  obtain ⟨p, hp, hN⟩ := hP.at hlt_k
  have hpm := List.mem_of_getElem? hp
  have hN : Sl I2 1 encI p.a p.n p.c p.needs := hN
  have hpn := hnd p hpm
  refine X_skip ?_
  refine at_then ?_
  refine X_seq ?_
  refine X_block ?_
  refine zR ?_
  refine zV (ev_indexSl rfl rfl slt_33 (by assumption) (fun hg => by omega)) ?_
  refine zV (ev_loadA rfl agt_44 (fun hg => by exact Sl.getA hP1 hp) rfl) ?_
  refine XO_alloc zt_44 rfl rfl (fun b_12 => ?_)
  refine XO_storeA rfl rfl szt_44 rfl rfl rfl rfl (by repeat (first | exact Upd.here | apply Upd.there | apply upd_app)) ?_
  refine zN ?_
  refine X_seq ?_
  refine zR ?_
  refine zM ?_
  refine zF fld_44_0 ?_
  refine zL sct_3 ?_
  refine XO_callV0 (cap := []) (vs := [_, _]) rfl rfl fun_80 (w_bsI hV hn3 hVer.inc _) rfl rfl ?_
  refine zM ?_
  refine zE ?_
  refine zE ?_
  refine zA ?_
  refine zA ?_
  refine zN (zR ?_)
  refine zM ?_
  refine zO ?_
  refine zN ?_
  refine zI ?_ ?_ <;> intro hc67
  ·
   have hin : (ws.any fun x => x == p.id) = false := (Bool.not_eq_true' _).mp hc67
   have hT := verL_no hp hin
   refine X_exit ?_
   refine at_then_e ?_
   refine at_block_hit ?_
   refine at_then ?_
   refine X_region ?_
   refine zV (ev_arB rfl rfl rfl (fun _ => by omega)) ?_
   refine zM ?_
   refine XO_nil ?_
   first
   | exact at_met2 _ _ ⟨n - (k + 1), by omega, k + 1, _, _, _, _, _, _, _, _, rfl, rfl, rfl, rfl, by omega, by rw [hT]; exact hkn, by rw [hT]; exact hO, by omega, by rw [hT]; exact hsm, hAllS, by rw [hT]; exact hrm, hAllR, by rw [hT]; exact hfit⟩ (.cons rfl (.cons rfl (.cons rfl (.cons rfl (.cons rfl (.cons rfl .nil)))))) (by repeat (first | exact .refl | exact subL_left | refine subL_app ?_ | refine .drop ?_ | refine subL_add ?_))
  have hin : (ws.any fun x => x == p.id) = true := (Bool.not_eq_false' _).mp hc67
  have hT := verL_yes hp hin
  refine X_skip ?_
  refine at_then ?_
  refine X_seq ?_
  refine zR ?_
  refine zM ?_
  refine zF fld_44_2 ?_
  refine zL sct_3 ?_
  refine zV (ev_lookupBool (m := s) mpt_77 key_3 rfl rfl (fun _ => (by exact Mem.m1))) ?_
  refine zF fld_44_1 ?_
  refine zL sct_3 ?_
  refine zC ?_
  refine zV (ev_boolR rfl rfl und_4) ?_
  refine zN ?_
  refine zI ?_ ?_ <;> intro hc75
  ·
   have h75 : (setM s p.sign == (p.kind == 2)) = true := hc75
   rw [fit_step hSto hp hin (hkn p.sign)] at h75
   have hfp := (Bool.not_eq_true' _).mp h75
   have hfb := fit_bad hpm hin hfp
   refine zR ?_
   refine zV (ev_loadA rfl agt_86 (fun hg => by (repeat (first | exact Cells.here | exact Cells.s0 (vs := [_, _, _, _]) rfl | apply Cells.there | apply Cells.app))) rfl) ?_
   refine XO_storeA rfl rfl szt_86 rfl rfl rfl rfl (by repeat (first | exact Upd.here | apply Upd.there | apply upd_app)) ?_
   refine zA ?_
   refine zN ?_
   refine X_ret ?_
   refine at_then_r ?_
   refine at_block_r ?_
   refine at_then_r ?_
   refine at_then_r ?_
   refine at_block_r ?_
   refine at_then_r ?_
   first
   | exact at_ret2A rfl rfl rfl agt_86 (by repeat (first | exact Cells.here | apply Cells.there | apply Cells.app)) rfl (fun w hw => ⟨_, I2, [], rfl, hIc, hw.drop, rfl, _, _, _, _, _, _, by rw [pat_4 hck hcg hcv hfb], fun h0 => absurd h0 (by rw [pat_4 hck hcg hcv hfb]; exact (by decide))⟩)
  have h75 : (setM s p.sign == (p.kind == 2)) = false := hc75
  rw [fit_step hSto hp hin (hkn p.sign)] at h75
  have hfp := (Bool.not_eq_false' _).mp h75
  refine X_skip ?_
  refine at_then ?_
  refine zR ?_
  refine zF fld_44_1 ?_
  refine zL sct_3 ?_
  refine zN ?_
  refine X_block ?_
  refine zR ?_
  refine zC ?_
  refine zA ?_
  refine zN ?_
  refine zI ?_ ?_ <;> intro hc79
  ·
   have hk2 : p.kind = 2 := by simpa using hc79
   refine zR ?_
   refine zM ?_
   refine zF fld_44_2 ?_
   refine zL sct_3 ?_
   refine XO_mapUpdate (m := s) (ek := Value.int .i64) (ev := Value.bool) (a := p.sign)  true mpt_77 key_3 rfl rfl rfl rfl (by repeat (first | exact Upd.here | apply Upd.there | apply upd_app)) ?_
   refine zN ?_
   refine X_region ?_
   refine zF fld_86_3 ?_
   refine zL sct_22 ?_
   refine zF fld_44_4 ?_
   refine zV (ev_loadA rfl agt_26 (fun hg => by (repeat (first | exact Cells.here | exact Cells.s0 (vs := [_, _, _, _, _, _, _, _, _, _, _, _, _, _]) rfl | apply Cells.there | apply Cells.app))) rfl) ?_
   refine XO_buildSlice (ps := [(0, _)]) (m := [encG p.nw]) elt_22 rfl (.cons rfl (.nil)) rfl (by simp [encG_len]) (by decide) (by decide) rfl rfl (fun b_88 => ?_)
   refine XO_append (v := _) (ys := [p.nw].flatMap encG) (L := Lg) rfl rfl elt_22 hO (by repeat (first | exact .cons .here .nil | exact split_all | exact split_app | apply split_cons | apply split_skip)) ⟨rfl, fun _ => rfl, Cells.here⟩ (one_G [p.nw]) (by omega) rfl rfl ?_
   intro v9 L9 hO9 _; rw [← List.flatMap_append] at hO9; obtain ⟨va9, vn9, vc9, rfl⟩ := hO9.val
   refine zF fld_86_3 ?_
   refine zS szt_22 ?_
   refine XO_nil ?_
   refine at_block_n ?_
   refine at_block_n ?_
   refine at_then ?_
   refine X_region ?_
   refine zV (ev_arB rfl rfl rfl (fun _ => by omega)) ?_
   refine zM ?_
   refine XO_nil ?_
   first
   | exact at_metP _ _ (L9 ++ ((r_42, _) :: (r_38, _) :: (r_37, _) :: (b_6, _) :: (Ls ++ Lr))) ⟨n - (k + 1), by omega, k + 1, _, _, _, L9, ms, Ls, mr, Lr, rfl, rfl, rfl, rfl, by omega, by rw [hT]; exact hkn.put hk2, by rw [hT, insS_yes hk2, ← List.append_assoc]; exact hO9, by omega, by rw [hT]; exact hsm.skip (by omega), hAllS, by rw [hT]; exact hrm.skip' (by omega), hAllR, by rw [hT, List.all_append, hfit]; simp [hfp]⟩ (.cons rfl (.cons rfl (.cons rfl (.cons rfl (.cons rfl (.cons rfl .nil)))))) perm_a (by repeat (first | exact .refl | exact subL_left | refine subL_app ?_ | refine .drop ?_ | refine subL_add ?_))
  have hk2n : p.kind ≠ 2 := by simpa using hc79
  refine zR ?_
  refine zC ?_
  refine zA ?_
  refine zN ?_
  refine zI ?_ ?_ <;> intro hc91
  ·
   have hk1 : p.kind = 1 := by simpa using hc91
   refine zR ?_
   refine zF fld_44_2 ?_
   refine zL sct_3 ?_
   refine zF fld_44_3 ?_
   refine zL sct_3 ?_
   refine zV (ev_buildArr (ps := [(0, _), (1, _)]) [_, _] art_121 zt_121 rfl rfl) ?_
   refine XO_alloc zt_121 rfl rfl (fun b_15 => ?_)
   refine XO_storeA rfl rfl szt_121 rfl rfl rfl rfl (by repeat (first | exact Upd.here | apply Upd.there | apply upd_app)) ?_
   refine zN ?_
   obtain ⟨A, Lt, B, hLs, hOt, hset⟩ := hAllS.at (p.sign, p.field)
   subst hLs
   rw [List.append_assoc A, List.append_assoc Lt]
   have hq0 := set_le hsm hOt
   have hq2 : (verL (ps.take k) ws).length ≤ k := Nat.le_trans (List.length_filter_le ..) (List.length_take_le k ps)
   refine X_region ?_
   refine zF fld_86_1 ?_
   refine zL sct_84 ?_
   refine zV (ev_loadA rfl agt_121 (fun hg => by (repeat (first | exact Cells.here | exact Cells.s0 (vs := [_, _]) rfl | apply Cells.there | apply Cells.app))) rfl) ?_
   refine zV (ev_loadA rfl agt_44 (fun hg => by (repeat (first | exact Cells.here | exact Cells.s0 (vs := [_, _, _, _, _, _, _, _, _, _, _, _, _, _, _, _, _, _, _]) rfl | apply Cells.there | apply Cells.app))) rfl) ?_
   refine XO_buildSlice (ps := [(0, _)]) (m := [encP p]) elt_33 rfl (.cons rfl (.nil)) rfl (by simp [encP_len]) (by decide) (by decide) rfl rfl (fun b_103 => ?_)
   refine XO_mapEntry (m := ms) (ek := encK2) (ev := fstT) (a := (p.sign, p.field)) nilT rfl mpt_84 key_121 rfl rfl rfl rfl (by repeat (first | exact Upd.here | apply Upd.there | apply upd_app)) ?_
   refine zE ?_
   refine XO_append (v := _) (ys := [p].flatMap encP) (L := Lt) rfl rfl elt_33 hOt (by repeat (first | exact .cons .here .nil | exact split_all | exact split_app | apply split_cons | apply split_skip)) ⟨rfl, fun _ => rfl, Cells.here⟩ (one_P [p]) (by omega) rfl rfl ?_
   intro v9 L9 hO9 _
   refine zE ?_
   refine XO_entryStore (ek := encK2) (ev := fstT) (m := mset ms (p.sign, p.field) ((mget ms (p.sign, p.field)).getD nilT)) (a := (p.sign, p.field)) (v9, ((mget ms (p.sign, p.field)).getD nilT).2.1 + 1, ((mget ms (p.sign, p.field)).getD nilT).2.2 ++ [p].flatMap encP) ((mget ms (p.sign, p.field)).getD nilT) (by rw [mget_mset, if_pos rfl]) rfl (by rw [mpos_mset]; exact rfl) rfl rfl (by repeat (first | exact Upd.here | apply Upd.there | apply upd_app)) ?_
   rw [mset_mset]
   refine XO_nil ?_
   refine at_block_n ?_
   refine at_block_n ?_
   refine at_then ?_
   refine X_region ?_
   refine zV (ev_arB rfl rfl rfl (fun _ => by omega)) ?_
   refine zM ?_
   refine XO_nil ?_
   first
   | exact at_metP _ _ (L9 ++ ((r_42, _) :: (Lg ++ ((r_38, _) :: (r_37, _) :: (b_6, _) :: (A ++ (B ++ Lr)))))) ⟨n - (k + 1), by omega, k + 1, s, _, q, Lg, _, A ++ (L9 ++ B), mr, Lr, rfl, rfl, rfl, rfl, by omega, by rw [hT]; exact hkn.skip (by omega), by rw [hT, insS_no (by omega)]; exact hO, by omega, by rw [hT]; exact hsm.put hk1, hset (v9, _, _) L9 hO9, by rw [hT]; exact hrm.skip' (by omega), hAllR, by rw [hT, List.all_append, hfit]; simp [hfp]⟩ (.cons rfl (.cons rfl (.cons rfl (.cons rfl (.cons rfl (.cons rfl .nil)))))) perm_b (by repeat (first | exact .refl | exact subL_left | refine subL_app ?_ | refine .drop ?_ | refine subL_add ?_))
  have hk1n : p.kind ≠ 1 := by simpa using hc91
  refine zR ?_
  refine zC ?_
  refine zA ?_
  refine zN ?_
  refine zI ?_ ?_ <;> intro hc107
  ·
   have hk3 : p.kind = 3 := by simpa using hc107
   obtain ⟨A, Lt, B, hLr, hOt, hset⟩ := hAllR.at p.sign
   subst hLr
   have hq0 := rem_le hrm hOt
   have hq2 : (verL (ps.take k) ws).length ≤ k := Nat.le_trans (List.length_filter_le ..) (List.length_take_le k ps)
   have hD := HLe.refl I2
   refine X_noP ?_
   refine X_drawS I2 [(b_12, .cells (encP p).toArray 44 (0, 0)), (b_6, .cells #[.map (some r9), .map (some r_37), .map (some r_38), .slice va vn vc] 86 (0, 0))] mixed ?_
   refine zT 0 rfl (ev_fieldAddr rfl fld_86_2) hD ?_
   refine zT 1 rfl (ev_load rfl sct_83 (fun hg => by repeat (first | exact Cell.here rfl | apply Cell.there | apply Cell.app))) hD ?_
   refine zT 2 rfl (ev_fieldAddr rfl fld_44_2) hD ?_
   refine zT 3 rfl (ev_load rfl sct_3 (fun hg => by repeat (first | exact Cell.here rfl | apply Cell.there | apply Cell.app))) hD ?_
   refine zT 4 rfl (ev_fieldAddr rfl fld_86_2) hD ?_
   refine zT 5 rfl (ev_load rfl sct_83 (fun hg => by repeat (first | exact Cell.here rfl | apply Cell.there | apply Cell.app))) hD ?_
   refine zT 6 rfl (ev_fieldAddr rfl fld_44_2) hD ?_
   refine zT 7 rfl (ev_load rfl sct_3 (fun hg => by repeat (first | exact Cell.here rfl | apply Cell.there | apply Cell.app))) hD ?_
   refine zT 9 rfl (ev_fieldAddr rfl fld_44_0) hD ?_
   refine zT 10 rfl (ev_load rfl sct_3 (fun hg => by repeat (first | exact Cell.here rfl | apply Cell.there | apply Cell.app))) hD ?_
   refine XD_two 8 11 rfl rfl (by kernel_rfl) ?_ ?_
   ·
    refine zV (ev_lookupT (m := mr) (ek := Value.int .i64) (a := p.sign)  mpt_83 key_3 rfl rfl (fun _ => .inr (by simp))) ?_
    refine XO_nil ?_
    refine zD hD ?_
    refine XD_one 11 rfl (by kernel_rfl) ?_
    refine XO_buildSlice (ps := [(0, _)]) (m := [encI p.id]) elt_38 rfl (.cons rfl (.nil)) rfl (by simp [encI_len]) (by decide) (by decide) rfl rfl (fun b_120 => ?_)
    refine XO_nil ?_
    refine zD hD ?_
    refine XD_one 12 rfl (by kernel_rfl) ?_
    refine XO_append (v := _) (ys := [p.id].flatMap encI) (L := Lt) rfl rfl elt_38 hOt (by repeat (first | exact .cons .here .nil | exact split_all | exact split_app | apply split_cons | apply split_skip)) ⟨rfl, fun _ => rfl, Cells.here⟩ (one_I [p.id]) (by omega) rfl rfl ?_
    intro v9 L9 hO9 _
    refine XO_nil ?_
    refine zD hD ?_
    refine XD_one 13 rfl (by kernel_rfl) ?_
    refine XO_mapUpdate (m := mr) (ek := Value.int .i64) (ev := fstT) (a := p.sign)  (v9, ((mget mr p.sign).getD nilT).2.1 + 1, ((mget mr p.sign).getD nilT).2.2 ++ [p.id].flatMap encI) mpt_83 key_3 rfl rfl rfl rfl (by repeat (first | exact Upd.here | apply Upd.there | apply upd_app)) ?_
    refine XO_nil ?_
    refine zD hD ?_
    refine XD_done (by kernel_rfl) ?_
    refine at_noP ?_
    refine at_block_n ?_
    refine at_block_n ?_
    refine at_then ?_
    refine X_region ?_
    refine zV (ev_arB rfl rfl rfl (fun _ => by omega)) ?_
    refine zM ?_
    refine XO_nil ?_
    first
    | exact at_metP _ _ (L9 ++ ((r_42, _) :: (Lg ++ ((r_38, _) :: (r_37, _) :: (b_6, _) :: (Ls ++ (A ++ B)))))) ⟨n - (k + 1), by omega, k + 1, s, _, q, Lg, ms, Ls, _, A ++ (L9 ++ B), rfl, rfl, rfl, rfl, by omega, by rw [hT]; exact hkn.skip (by omega), by rw [hT, insS_no (by omega)]; exact hO, by omega, by rw [hT]; exact hsm.skip (by omega), hAllS, by rw [hT]; exact hrm.put' hk3, hset (v9, _, _) L9 hO9, by rw [hT, List.all_append, hfit]; simp [hfp]⟩ (.cons rfl (.cons rfl (.cons rfl (.cons rfl (.cons rfl (.cons rfl .nil)))))) perm_c (by repeat (first | exact .refl | exact subL_left | refine subL_app ?_ | refine .drop ?_ | refine subL_add ?_))
   refine XO_buildSlice (ps := [(0, _)]) (m := [encI p.id]) elt_38 rfl (.cons rfl (.nil)) rfl (by simp [encI_len]) (by decide) (by decide) rfl rfl (fun b_120 => ?_)
   refine XO_nil ?_
   refine zD hD ?_
   refine XD_one 8 rfl (by kernel_rfl) ?_
   refine zV (ev_lookupT (m := mr) (ek := Value.int .i64) (a := p.sign)  mpt_83 key_3 rfl rfl (fun _ => .inr (by simp))) ?_
   refine XO_nil ?_
   refine zD hD ?_
   refine XD_one 12 rfl (by kernel_rfl) ?_
   refine XO_append (v := _) (ys := [p.id].flatMap encI) (L := Lt) rfl rfl elt_38 hOt (by repeat (first | exact .cons .here .nil | exact split_all | exact split_app | apply split_cons | apply split_skip)) ⟨rfl, fun _ => rfl, Cells.here⟩ (one_I [p.id]) (by omega) rfl rfl ?_
   intro v9 L9 hO9 _
   refine XO_nil ?_
   refine zD hD ?_
   refine XD_one 13 rfl (by kernel_rfl) ?_
   refine XO_mapUpdate (m := mr) (ek := Value.int .i64) (ev := fstT) (a := p.sign)  (v9, ((mget mr p.sign).getD nilT).2.1 + 1, ((mget mr p.sign).getD nilT).2.2 ++ [p.id].flatMap encI) mpt_83 key_3 rfl rfl rfl rfl (by repeat (first | exact Upd.here | apply Upd.there | apply upd_app)) ?_
   refine XO_nil ?_
   refine zD hD ?_
   refine XD_done (by kernel_rfl) ?_
   refine at_noP ?_
   refine at_block_n ?_
   refine at_block_n ?_
   refine at_then ?_
   refine X_region ?_
   refine zV (ev_arB rfl rfl rfl (fun _ => by omega)) ?_
   refine zM ?_
   refine XO_nil ?_
   first
   | exact at_metP _ _ (L9 ++ ((r_42, _) :: (Lg ++ ((r_38, _) :: (r_37, _) :: (b_6, _) :: (Ls ++ (A ++ B)))))) ⟨n - (k + 1), by omega, k + 1, s, _, q, Lg, ms, Ls, _, A ++ (L9 ++ B), rfl, rfl, rfl, rfl, by omega, by rw [hT]; exact hkn.skip (by omega), by rw [hT, insS_no (by omega)]; exact hO, by omega, by rw [hT]; exact hsm.skip (by omega), hAllS, by rw [hT]; exact hrm.put' hk3, hset (v9, _, _) L9 hO9, by rw [hT, List.all_append, hfit]; simp [hfp]⟩ (.cons rfl (.cons rfl (.cons rfl (.cons rfl (.cons rfl (.cons rfl .nil)))))) perm_c (by repeat (first | exact .refl | exact subL_left | refine subL_app ?_ | refine .drop ?_ | refine subL_add ?_))
  have hk3n : p.kind ≠ 3 := by simpa using hc107
  refine X_skip ?_
  refine at_block_n ?_
  refine at_block_n ?_
  refine at_then ?_
  refine X_region ?_
  refine zV (ev_arB rfl rfl rfl (fun _ => by omega)) ?_
  refine zM ?_
  refine XO_nil ?_
  first
  | exact at_met2 _ _ ⟨n - (k + 1), by omega, k + 1, _, _, _, _, _, _, _, _, rfl, rfl, rfl, rfl, by omega, by rw [hT]; exact hkn.skip hk2n, by rw [hT, insS_no hk2n]; exact hO, by omega, by rw [hT]; exact hsm.skip hk1n, hAllS, by rw [hT]; exact hrm.skip' hk3n, hAllR, by rw [hT, List.all_append, hfit]; simp [hfp]⟩ (.cons rfl (.cons rfl (.cons rfl (.cons rfl (.cons rfl (.cons rfl .nil)))))) (by repeat (first | exact .refl | exact subL_left | refine subL_app ?_ | refine .drop ?_ | refine subL_add ?_))
 have hge_k : n ≤ k := by have h := hc56; simp at h; omega
 have hTn : verL (ps.take k) ws = verL ps ws := by rw [take_all hP.len hge_k]
 rw [hTn] at hkn hO hsm hrm hfit
 have hfitB : fitB bs (verL ps ws) = true := hfit
 refine X_exit ?_
 refine at_then_e ?_
 refine at_then_e ?_
 refine at_block_hit ?_
 refine at_then ?_
 refine zR ?_
 refine zF fld_86_3 ?_
 refine zL sct_22 ?_
 refine XO_callM (cap := []) (vs := [_, _]) rfl rfl fun_81 (by repeat (first | exact .cons .here .nil | exact split_all | exact split_app | apply split_cons | apply split_skip)) (w_sortG 26 _ hO (by omega) _) rfl rfl ?_
 rintro vv5 I5 L5 hI5 ⟨rfl, rfl, zs2, hperm, hsort, hO2⟩
 have hP := hP.mono hI5; have hB := hB.mono hI5; have hV := hV.mono hI5; have hOn := hOn.mono hI5; have hIc := hIc.trans hI5
 refine XO_nil ?_
 have hz2 : zs2 = allG bs (verL ps ws) := all_made (skB_srt (chkG_ok hcg).2) (verL_sto hSto hVer) hfitB hperm hsort
 rw [hz2] at hO2
 refine at_then ?_
 refine zR ?_
 refine zV (ev_loadA rfl agt_86 (fun hg => by (repeat (first | exact Cells.here | exact Cells.s0 (vs := [_, _, _, _]) rfl | apply Cells.there | apply Cells.app))) rfl) ?_
 refine XO_storeA rfl rfl szt_86 rfl rfl rfl rfl (by repeat (first | exact Upd.here | apply Upd.there | apply upd_app)) ?_
 refine zA ?_
 refine zN ?_
 refine X_ret ?_
 first
 | exact at_ret2A rfl rfl rfl agt_86 (by repeat (first | exact Cells.here | apply Cells.there | apply Cells.app)) rfl (fun w hw => by obtain ⟨I9, h91, h92, h93⟩ := hw.freezeAll; obtain ⟨av9, c9, hv9, hS9⟩ := hO2.sl encG_len (by decide) (fun b o hb => h93 b o (by simp [hb])); cases hv9; exact ⟨_, I9, [], rfl, hIc.trans h91, h92, rfl, _, _, _, _, _, _, by rw [pat_5 hck hcg hcv hfitB], fun _ => ⟨_, _, _, rfl, rfl, rfl, ⟨hOn.mono h91, ⟨ms, h93 r_37 _ (by simp), set_sl hsm hAllS (fun b o hb => h93 b o (by simp [hb]))⟩, ⟨mr, h93 r_38 _ (by simp), rem_sl hrm hAllR (fun b o hb => h93 b o (by simp [hb]))⟩, hS9, fun p hp => (mem_verL.1 hp).1, fun p hp => (hP.2 p hp).mono h91, hL, by rw [hP.len]; exact hn5, Nat.le_trans (List.length_filter_le ..) (by rw [hP.len]; exact hn5)⟩⟩⟩)
end Go.Proofs.YtoicbikdenlioaaGreat
end
section
namespace Go.Proofs.YtoicbikdenlioaaGreat
open Go Go.Kn Go.Proofs
def filI (P : Pt → Bool) (xs : List Pt) : List Int := (xs.filter P).map (·.id)
theorem filI_zero {P : Pt → Bool} {xs : List Pt} : filI P (xs.take 0) = [] := by unfold filI; simp
theorem filI_yes {P : Pt → Bool} {xs : List Pt} {k : Nat} {p : Pt} (hp : xs[k]? = some p) (h : P p = true) : filI P (xs.take (k + 1)) = filI P (xs.take k) ++ [p.id] := by
  unfold filI
  rw [take_snoc hp, List.filter_append, List.filter_cons, if_pos h]; simp
theorem filI_no {P : Pt → Bool} {xs : List Pt} {k : Nat} {p : Pt} (hp : xs[k]? = some p) (h : P p = false) : filI P (xs.take (k + 1)) = filI P (xs.take k) := by
  unfold filI
  rw [take_snoc hp, List.filter_append, List.filter_cons, if_neg (by rw [h]; exact Bool.false_ne_true)]; simp
def unP1 (on : Int → Int → Bool) (l : List Pt) (s : Int) (p : Pt) : Bool := (rmF l s).any fun i => !on i p.id
def unL (on : Int → Int → Bool) (l : List Pt) (s f : Int) : List Int := filI (unP1 on l s) (stF l s f)
/-- The sets of a sign that some remove has not seen, by fields. -/
def unK (on : Int → Int → Bool) (l : List Pt) (s : Int) (k : Nat) : List Int := (List.range k).flatMap fun (j : Nat) => unL on l s ((j : Int) + 1)
theorem unK_next (on : Int → Int → Bool) (l : List Pt) (s : Int) (k : Nat) : unK on l s (k + 1) = unK on l s k ++ unL on l s ((k : Int) + 1) := by
  unfold unK
  rw [List.range_succ, List.flatMap_append]; simp
theorem unK_len {on : Int → Int → Bool} {l : List Pt} {s : Int} (k : Nat) : (unK on l s k).length ≤ k * l.length := by
  induction k with
  | zero => simp [unK]
  | succ k ih =>
    rw [unK_next, List.length_append, Nat.succ_mul]
    have h1 : (unL on l s ((k : Int) + 1)).length ≤ l.length := by
      unfold unL filI
      rw [List.length_map]
      exact Nat.le_trans (List.length_filter_le ..) stF_len
    omega
theorem un_bound {on : Int → Int → Bool} {l xs : List Pt} {s : Int} {k j e q : Nat} {v : Value} {P : Pt → Bool} {L : Go.Kn.Loc} (hO : OwnS e 1 v q ((unK on l s k ++ filI P (xs.take j)).flatMap encI) L) (hk : k ≤ 9) (hl : l.length ≤ 512) (hx : xs.length ≤ 512) : q ≤ 10000 := by
  have h1 := hO.1
  rw [lenI, List.length_append] at h1
  have h2 : (unK on l s k).length ≤ 9 * 512 := Nat.le_trans (unK_len k) (Nat.mul_le_mul hk hl)
  have h3 : (filI P (xs.take j)).length ≤ xs.length := by
    unfold filI
    rw [List.length_map]
    refine Nat.le_trans (List.length_filter_le ..) ?_
    rw [List.length_take]; omega
  omega
theorem mem_unK {on : Int → Int → Bool} {l : List Pt} {s : Int} (hok : ∀ p ∈ l, PtOK p) {x : Int} : x ∈ unK on l s 9 ↔ x ∈ (unF on l s).map (·.id) := by
  unfold unK unL filI unF unB
  rw [List.mem_flatMap]
  simp only [List.mem_map, List.mem_filter, List.mem_range, mem_stF, Bool.and_eq_true, beq_iff_eq]
  constructor
  · rintro ⟨j, hj, p, ⟨⟨hp, hk, hs, hf⟩, hu⟩, rfl⟩
    exact ⟨p, ⟨hp, hs, hk, by rw [hs]; exact hu⟩, rfl⟩
  · rintro ⟨p, ⟨hp, hs, hk, hu⟩, rfl⟩
    have hf := ((hok p hp).set hk).1
    unfold isF at hf
    refine ⟨(p.field - 1).toNat, by omega, p, ⟨⟨hp, hk, hs, by omega⟩, by rw [hs] at hu; exact hu⟩, rfl⟩
theorem ex_eq {on : Int → Int → Bool} {l : List Pt} {s : Int} (hok : ∀ p ∈ l, PtOK p) : ((((rmF l s).length : Int) == 0) || decide (((unK on l s 9).length : Int) > 0)) = exB on l s := by
  unfold exB
  have h1 : (unK on l s 9).length = 0 ↔ unF on l s = [] := by
    constructor
    · intro h
      have h2 := List.length_eq_zero_iff.1 h
      cases hu : unF on l s with
      | nil => rfl
      | cons p us =>
        have : p.id ∈ unK on l s 9 := (mem_unK hok).2 (by rw [hu]; simp)
        rw [h2] at this; cases this
    · intro h
      cases hu : unK on l s 9 with
      | nil => rfl
      | cons x us =>
        have : x ∈ (unF on l s).map (·.id) := (mem_unK hok).1 (by rw [hu]; simp)
        rw [h] at this; cases this
  congr 1
  · cases rmF l s with
    | nil => rfl
    | cons x us => simp; omega
  · cases hu : unF on l s with
    | nil => rw [h1.2 hu]; rfl
    | cons p us =>
      have : (unK on l s 9).length ≠ 0 := fun h => by rw [h1.1 h] at hu; cases hu
      simp; omega
theorem rm_has {ps l : List Pt} (hsub : ∀ p ∈ l, p ∈ ps) {s i : Int} (h : i ∈ rmF l s) : ∃ q ∈ ps, q.id = i := by
  obtain ⟨q, hq, _, _, e⟩ := mem_rmF.1 h
  exact ⟨q, hsub q hq, e⟩
theorem rm_len {l : List Pt} {s : Int} : (rmF l s).length ≤ l.length := kindL_len (c := 3)
/-- Does no set of the list stand on p? -/
def latB (on : Int → Int → Bool) (xs : List Pt) (p : Pt) : Bool := !xs.any fun q => on q.id p.id
theorem lat_eq (on : Int → Int → Bool) (l : List Pt) (s f : Int) : latF on l s f = (stF l s f).filter (latB on (stF l s f)) := rfl
theorem fil_yes {P : Pt → Bool} {xs : List Pt} {k : Nat} {p : Pt} (hp : xs[k]? = some p) (h : P p = true) : (xs.take (k + 1)).filter P = (xs.take k).filter P ++ [p] := by
  rw [take_snoc hp, List.filter_append, List.filter_cons, if_pos h]; simp
theorem fil_no {P : Pt → Bool} {xs : List Pt} {k : Nat} {p : Pt} (hp : xs[k]? = some p) (h : P p = false) : (xs.take (k + 1)).filter P = (xs.take k).filter P := by
  rw [take_snoc hp, List.filter_append, List.filter_cons, if_neg (by rw [h]; exact Bool.false_ne_true)]; simp
theorem fil_pre {P : Pt → Bool} {xs : List Pt} {k : Nat} {p : Pt} (hp : xs[k]? = some p) (h : P p = true) : (xs.take k).filter P ++ [p] <+: xs.filter P := by
  rw [← fil_yes hp h]
  exact ⟨(xs.drop (k + 1)).filter P, by rw [← List.filter_append, List.take_append_drop]⟩
end Go.Proofs.YtoicbikdenlioaaGreat
end
section
namespace Go.Proofs.YtoicbikdenlioaaGreat
open Go Go.Kn Go.Proofs
theorem w_un1 {I : HMap} {b1 b2 r1 r2 r3 : Nat} {av : Option Addr} {n c : Nat} {p : Pt} {ps : List Pt} (h1 : I b1 = some (.cells #[.map (some r1), .map (some r2), .map (some r3), .slice av n c] 86 (0, 0))) (h2 : I b2 = some (.cells (encP p).toArray 44 (0, 0))) (hOn : OnM I r1 ps) (id : Int) (hid : ∃ q ∈ ps, q.id = id) : RetV Tryz.prog 87 [.int .i64 id, .pointer (some ⟨b1, 0, none⟩), .pointer (some ⟨b2, 0, none⟩)] I (.bool (!onF ps id p.id)) := by
 intro g H w hw
 refine enter Tryz.func87 rfl Tryz.ntmps87 rfl hw ?_
 obtain ⟨m, hm1, hm2⟩ := hOn
 obtain ⟨ref, hget, sn, hsn, hsq⟩ := hm2.get hid
 refine zR ?_
 refine zA ?_
 refine zN (zR ?_)
 refine zF fld_86_0 ?_
 refine zV (ev_load rfl sct_80 (fun hg => by exact .imm h1 rfl)) ?_
 refine zM ?_
 refine zV (ev_lookupG (m := m) (ek := Value.int .i64) (ev := refV) (a := id) hget mpt_80 key_3 rfl rfl (fun _ => .inl hm1)) ?_
 refine zF fld_44_0 ?_
 refine zV (ev_load rfl sct_3 (fun hg => by exact .imm h2 rfl)) ?_
 refine zV (ev_lookupBool (m := sn) mpt_77 key_3 rfl rfl (fun _ => .inl hsn)) ?_
 refine zO ?_
 refine zA ?_
 refine zN ?_
 refine X_ret ?_
 exact at_ret1 rfl rfl (fun w hw => ⟨by rw [show (mget sn p.id).getD false = onF ps id p.id from hsq.mem _], hw.drop⟩)
theorem w_unseen {I : HMap} {ps l : List Pt} {xs : List Sg} {r1 r2 r3 : Nat} {av : Option Addr} {n c : Nat} (hx : StQ I ps l xs r1 r2 r3 av n c) (s : Int) : RetM Tryz.prog 34 [stA r1 r2 r3 av n c, .int .i64 s] I [] (SlRes 1 encI (unK (onF ps) l s 9)) := by
 intro g H w hw
 refine enter Tryz.func34 rfl Tryz.ntmps34 rfl hw ?_
 have hIc := HLe.refl I
 obtain ⟨ms, hms, hset⟩ := hx.set
 obtain ⟨mr, hmr, hrem⟩ := hx.rem
 obtain ⟨av3, c3, hv3, hS3⟩ := hrem s
 have hfl := hx.fewl
 have hrl := rm_len (l := l) (s := s)
 refine zR ?_
 refine XO_box rfl rfl rfl (fun b_2 => ?_)
 refine zA ?_
 refine zN ?_
 refine X_seq ?_
 refine X_seq ?_
 refine X_dropTo ((b_2, .cells #[.map (some r1), .map (some r2), .map (some r3), .slice av n c] 86 (0, 0)) :: []) .refl ?_
 refine X_region ?_
 refine zA ?_
 refine zN ?_
 refine X_block ?_
 refine X_loopT [(1, _), (2, _)] (.cons rfl (.cons rfl .nil)) (fun T L0 mz E I' loc' => ∃ (k : Nat) (v : Value) (q : Nat) (L : Go.Kn.Loc), mz = 9 - k ∧ E = (4, v) :: (5, .int .i64 ((k : Int) + 1)) :: T ∧ I = I' ∧ (b_2, .cells #[.map (some r1), .map (some r2), .map (some r3), .slice av n c] 86 (0, 0)) :: L = loc' ∧ k ≤ 9 ∧ OwnS 3 1 v q ((unK (onF ps) l s k).flatMap encI) L ∧ True) _ _ _ _ ⟨0, _, 0, [], rfl, rfl, rfl, rfl, Nat.zero_le _, OwnS.nil, trivial⟩ (.cons rfl (.cons rfl (.cons rfl (.cons rfl .nil)))) (HLe.refl _) rfl ?_
 rintro mz E I' loc' ⟨k, v, q, L, rfl, rfl, rfl, rfl, hk, hO, _⟩
 refine X_seq ?_
 refine zR ?_
 refine zM ?_
 refine zC ?_
 refine zN ?_
 refine zI ?_ ?_ <;> intro hc9
 ·
  have hlt_k : k < 9 := by have h := hc9; simp at h; omega
  refine X_skip ?_
  refine at_then ?_
  refine X_seq ?_
  refine X_block ?_
  refine X_seq ?_
  obtain ⟨av2, c2, hv2, hS2⟩ := hset (s, (k : Int) + 1)
  dsimp only at hv2 hS2
  have hstl := stF_len (l := l) (s := s) (f := (k : Int) + 1)
  refine X_region ?_
  refine zF fld_86_1 ?_
  refine zL sct_84 ?_
  refine zM ?_
  refine zM ?_
  refine zV (ev_buildArr (ps := [(0, _), (1, _)]) [_, _] art_121 zt_121 rfl rfl) ?_
  refine zV (ev_lookupTE (m := ms) (ek := encK2) (a := (s, (k : Int) + 1)) hv2 mpt_84 key_121 rfl rfl (fun _ => .inl hms)) ?_
  refine zQ slt_33 ?_
  refine zM ?_
  refine zN ?_
  refine X_block ?_
  refine X_loopT [(1, _), (2, _), (5, _), (17, _), (18, _)] (.cons rfl (.cons rfl (.cons rfl (.cons rfl (.cons rfl .nil))))) (fun T L0 mz E I' loc' => ∃ (j : Nat) (v : Value) (q : Nat) (L : Go.Kn.Loc), mz = (stF l s ((k : Int) + 1)).length - j ∧ E = (4, v) :: (19, .int .i64 j) :: T ∧ I = I' ∧ (b_2, .cells #[.map (some r1), .map (some r2), .map (some r3), .slice av n c] 86 (0, 0)) :: L = loc' ∧ j ≤ (stF l s ((k : Int) + 1)).length ∧ OwnS 3 1 v q ((unK (onF ps) l s k ++ filI (unP1 (onF ps) l s) ((stF l s ((k : Int) + 1)).take j)).flatMap encI) L ∧ True) _ _ _ _ ⟨0, v, q, L, rfl, rfl, rfl, rfl, Nat.zero_le _, by rw [filI_zero, List.append_nil]; exact hO, trivial⟩ (.cons rfl (.cons rfl (.cons rfl (.cons rfl (.cons rfl (.cons rfl (.cons rfl .nil))))))) (HLe.refl _) rfl ?_
  rintro mz E I' loc' ⟨j, v, q, L, rfl, rfl, rfl, rfl, hj, hO, _⟩
  refine zR ?_
  refine zC ?_
  refine zN ?_
  refine X_seq ?_
  refine zI ?_ ?_ <;> intro hc20
  ·
   have hlt_j : j < (stF l s ((k : Int) + 1)).length := by have h := hc20; simp at h; omega
   obtain ⟨p, hp⟩ := hS2.at hlt_j
   refine X_skip ?_
   refine at_then ?_
   refine X_seq ?_
   refine X_block ?_
   refine zR ?_
   refine zV (ev_indexSl rfl rfl slt_33 (by assumption) (fun hg => by omega)) ?_
   refine zV (ev_loadA rfl agt_44 (fun hg => by exact Sl.getA hS2 hp) rfl) ?_
   refine XO_alloc zt_44 rfl rfl (fun b_7 => ?_)
   refine XO_storeA rfl rfl szt_44 rfl rfl rfl rfl (by repeat (first | exact Upd.here | apply Upd.there | apply upd_app)) ?_
   refine zN (zR ?_)
   refine zF fld_86_2 ?_
   refine zL sct_83 ?_
   refine zM ?_
   refine zV (ev_lookupTE (m := mr) (ek := Value.int .i64) (a := s) hv3 mpt_83 key_3 rfl rfl (fun _ => .inl hmr)) ?_
   refine zV (ev_makeFunc (us := []) (vs := [_, _]) rfl rfl) ?_
   refine XO_callK0 (cap := []) (vs := [_, _]) rfl rfl fun_27 split_all (RetK.ofV fun I' hI' hL' => w_cnI (cap := [.pointer (some ⟨b_2, 0, none⟩), .pointer (some ⟨b_7, 0, none⟩)]) (hS3.mono hI') (by omega) fun_87 (fun i hi => w_un1 (b1 := b_2) (b2 := b_7) (r1 := r1) (r2 := r2) (r3 := r3) (av := av) (n := n) (c := c) (p := p) (hL' b_2 _ (by simp)) (hL' b_7 _ (by simp)) (hx.on.mono hI') i (rm_has hx.sub hi))) rfl rfl ?_
   refine zN ?_
   refine zI ?_ ?_ <;> intro hc28
   ·
    have hq := un_bound hO (by omega) hfl (by omega)
    refine X_region ?_
    refine zM ?_
    refine zF fld_44_0 ?_
    refine zL sct_3 ?_
    refine XO_buildSlice (ps := [(0, _)]) (m := [encI p.id]) elt_38 rfl (.cons rfl (.nil)) rfl (by simp [encI_len]) (by decide) (by decide) rfl rfl (fun b_32 => ?_)
    refine XO_append (v := _) (ys := [p.id].flatMap encI) (L := L) rfl rfl elt_38 hO (by repeat (first | exact .cons .here .nil | exact split_all | exact split_app | apply split_cons | apply split_skip)) ⟨rfl, fun _ => rfl, Cells.here⟩ (one_I [p.id]) (by omega) rfl rfl ?_
    intro v9 L9 hO9 _; rw [← List.flatMap_append, List.append_assoc] at hO9
    refine zA ?_
    refine XO_nil ?_
    refine at_block_n ?_
    refine at_then ?_
    refine X_region ?_
    refine zV (ev_arB rfl rfl rfl (fun _ => by omega)) ?_
    refine zM ?_
    refine XO_nil ?_
    first
    | exact at_metP _ _ (L9 ++ [(b_2, _)]) ⟨(stF l s ((k : Int) + 1)).length - (j + 1), by omega, j + 1, _, _, L9, rfl, rfl, rfl, rfl, by omega, by rw [filI_yes (P := unP1 (onF ps) l s) hp hc28]; exact hO9, trivial⟩ (.cons rfl (.cons rfl (.cons rfl (.cons rfl (.cons rfl (.cons rfl (.cons rfl .nil))))))) (perm_snoc _ _) (by repeat (first | exact .refl | exact subL_left | refine subL_app ?_ | refine .drop ?_ | refine subL_add ?_))
   refine X_skip ?_
   refine at_block_n ?_
   refine at_then ?_
   refine X_region ?_
   refine zV (ev_arB rfl rfl rfl (fun _ => by omega)) ?_
   refine zM ?_
   refine XO_nil ?_
   first
   | exact at_met2 _ _ ⟨(stF l s ((k : Int) + 1)).length - (j + 1), by omega, j + 1, _, _, _, rfl, rfl, rfl, rfl, by omega, by rw [filI_no (P := unP1 (onF ps) l s) hp hc28]; exact hO, trivial⟩ (.cons rfl (.cons rfl (.cons rfl (.cons rfl (.cons rfl (.cons rfl (.cons rfl .nil))))))) (by repeat (first | exact .refl | exact subL_left | refine subL_app ?_ | refine .drop ?_ | refine subL_add ?_))
  have hge_j : (stF l s ((k : Int) + 1)).length ≤ j := by have h := hc20; simp at h; omega
  rw [take_all rfl hge_j] at hO
  refine X_exit ?_
  refine at_then_e ?_
  refine at_then_e ?_
  refine at_block_hit ?_
  refine at_block_n ?_
  refine at_then ?_
  refine X_region ?_
  refine zM ?_
  refine zV (ev_arB rfl rfl rfl (fun _ => by omega)) ?_
  refine zA ?_
  refine XO_nil ?_
  exact at_met2 _ _ ⟨9 - (k + 1), by omega, k + 1, _, _, _, rfl, rfl, rfl, rfl, by omega, by rw [unK_next]; exact hO, trivial⟩ (.cons rfl (.cons rfl (.cons rfl (.cons rfl .nil)))) (by repeat (first | exact .refl | exact subL_left | refine subL_app ?_ | refine .drop ?_ | refine subL_add ?_))
 have hge_k : 9 ≤ k := by have h := hc9; simp at h; omega
 have hk9 : k = 9 := by omega
 subst hk9
 refine X_exit ?_
 refine at_then_e ?_
 refine at_then_e ?_
 refine at_block_hit ?_
 refine at_then ?_
 refine zR ?_
 refine zM ?_
 refine zA ?_
 refine zN ?_
 refine X_ret ?_
 exact at_ret1 rfl rfl (fun w hw => by obtain ⟨I9, h91, h92, h93⟩ := OwnS.res hO encI_len (by decide) (hw.subL (by repeat (first | exact .refl | refine .drop ?_))); exact ⟨_, I9, [], rfl, hIc.trans h91, h92, h93⟩)
theorem w_unseenL {I : HMap} {ps l : List Pt} {xs : List Sg} {r1 r2 r3 : Nat} {av : Option Addr} {n c : Nat} (hx : StQ I ps l xs r1 r2 r3 av n c) (s : Int) : RetM Tryz.prog 34 [stA r1 r2 r3 av n c, .int .i64 s] I [] (fun u I9 L9 => L9 = [] ∧ ∃ a9 c9, u = .slice a9 (unK (onF ps) l s 9).length c9) :=
 (w_unseen hx s).mono fun v I' L' _ h => by
  obtain ⟨h1, a9, c9, h2, _⟩ := h
  exact ⟨h1, a9, c9, h2⟩
theorem w_exists {I : HMap} {ps l : List Pt} {xs : List Sg} {r1 r2 r3 : Nat} {av : Option Addr} {n c : Nat} (hx : StQ I ps l xs r1 r2 r3 av n c) (hok : ∀ p ∈ l, PtOK p) (s : Int) : RetV Tryz.prog 35 [stA r1 r2 r3 av n c, .int .i64 s] I (.bool (exB (onF ps) l s)) := by
 intro g H w hw
 refine enter Tryz.func35 rfl Tryz.ntmps35 rfl hw ?_
 have hIc := HLe.refl I
 obtain ⟨mr, hmr, hrem⟩ := hx.rem
 obtain ⟨av3, c3, hv3, hS3⟩ := hrem s
 refine zR ?_
 refine XO_box rfl rfl rfl (fun b_2 => ?_)
 refine zA ?_
 refine zN (zR ?_)
 refine zF fld_86_2 ?_
 refine zL sct_83 ?_
 refine zM ?_
 refine zV (ev_lookupTE (m := mr) (ek := Value.int .i64) (a := s) hv3 mpt_83 key_3 rfl rfl (fun _ => .inl hmr)) ?_
 refine zQ slt_38 ?_
 refine zC ?_
 refine zM ?_
 refine XO_pushF 6 rfl rfl rfl ?_
 refine zJ (ev_loadA rfl agt_86 (fun hg => by first | (repeat (first | exact Cells.here | exact Cells.s0 (vs := [_, _, _, _]) rfl | apply Cells.there | apply Cells.app))) rfl) ?_
 refine zJ (ev_move rfl) ?_
 refine XO_callM1 (cap := []) (vs := [_, _]) rfl rfl fun_34 (fun hg => w_unseenL hx s) ⟨_, rfl, none, 0, rfl⟩ (.some rfl rfl rfl rfl gbf) rfl rfl ?_
 rintro vv I9 L9 hI9 ⟨rfl, a9, c9, rfl⟩
 have hIc := hIc.trans hI9
 refine zJ (ev_lenS rfl slt_38) ?_
 refine zJ (ev_cmp rfl rfl rfl) ?_
 refine XO_or0 rfl rfl rfl rfl rfl ?_
 refine zA ?_
 refine zN ?_
 refine X_ret ?_
 exact at_ret1 rfl rfl (fun w hw => ⟨by rw [← ex_eq hok], (hw.mono hIc).drop⟩)
end Go.Proofs.YtoicbikdenlioaaGreat
end
section
namespace Go.Proofs.YtoicbikdenlioaaGreat
open Go Go.Kn Go.Proofs
theorem w_lat11 {I : HMap} {b1 b2 r1 r2 r3 : Nat} {av : Option Addr} {n c : Nat} {p : Pt} {ps : List Pt} (h1 : I b1 = some (.cells #[.map (some r1), .map (some r2), .map (some r3), .slice av n c] 86 (0, 0))) (h2 : I b2 = some (.cells (encP p).toArray 44 (0, 0))) (hOn : OnM I r1 ps) (q : Pt) (hid : ∃ z ∈ ps, z.id = q.id) : RetV Tryz.prog 90 [encPA q, .pointer (some ⟨b1, 0, none⟩), .pointer (some ⟨b2, 0, none⟩)] I (.bool (onF ps q.id p.id)) := by
 intro g H w hw
 refine enter Tryz.func90 rfl Tryz.ntmps90 rfl hw ?_
 obtain ⟨m, hm1, hm2⟩ := hOn
 obtain ⟨ref, hget, sn, hsn, hsq⟩ := hm2.get hid
 refine zR ?_
 refine XO_box rfl rfl rfl (fun b_3 => ?_)
 refine zA ?_
 refine zN (zR ?_)
 refine zF fld_86_0 ?_
 refine zV (ev_load rfl sct_80 (fun hg => by exact .imm h1 rfl)) ?_
 refine zF fld_44_0 ?_
 refine zV (ev_load rfl sct_3 (fun hg => by (repeat (first | exact Cell.here rfl | apply Cell.there | apply Cell.app)))) ?_
 refine zV (ev_lookupG (m := m) (ek := Value.int .i64) (ev := refV) (a := q.id) hget mpt_80 key_3 rfl rfl (fun _ => .inl hm1)) ?_
 refine zF fld_44_0 ?_
 refine zV (ev_load rfl sct_3 (fun hg => by exact .imm h2 rfl)) ?_
 refine zV (ev_lookupBool (m := sn) mpt_77 key_3 rfl rfl (fun _ => .inl hsn)) ?_
 refine zA ?_
 refine zN ?_
 refine X_ret ?_
 exact at_ret1 rfl rfl (fun w hw => ⟨by rw [show (mget sn p.id).getD false = onF ps q.id p.id from hsq.mem _], hw.drop⟩)
/-- What the iterator of 'latest' has taken in. -/
def LCap (I : HMap) (r1 r2 r3 : Nat) (av : Option Addr) (n c : Nat) (s f : Int) (b1 b2 b3 : Nat) : Prop := I b1 = some (.cells #[.map (some r1), .map (some r2), .map (some r3), .slice av n c] 86 (0, 0)) ∧ I b2 = some (.cells #[.int .i64 s] 3 (0, 0)) ∧ I b3 = some (.cells #[.int .i64 f] 3 (0, 0))
theorem w_latest (I : HMap) (r1 r2 r3 : Nat) (av : Option Addr) (n c : Nat) (s f : Int) : RetM Tryz.prog 36 [stA r1 r2 r3 av n c, .int .i64 s, .int .i64 f] I [] (fun v I' L => L = [] ∧ ∃ b1 b2 b3, v = .func (.func 88) #[] [capP b1, capP b2, capP b3].toArray ∧ LCap I' r1 r2 r3 av n c s f b1 b2 b3) := by
 intro g H w hw
 refine enter Tryz.func36 rfl Tryz.ntmps36 rfl hw ?_
 have hIc := HLe.refl I
 refine zR ?_
 refine XO_box rfl rfl rfl (fun b_3 => ?_)
 refine XO_box rfl rfl rfl (fun b_4 => ?_)
 refine XO_box rfl rfl rfl (fun b_5 => ?_)
 refine zA ?_
 refine zN ?_
 refine X_seq ?_
 refine X_freeze .here (fun I1 hI1 hb1 => ?_)
 have hIc := hIc.trans hI1
 have h3 := hb1
 refine X_freeze .here (fun I2 hI2 hb2 => ?_)
 have hIc := hIc.trans hI2
 have h2 := hb2
 have h3 := hI2 _ _ h3
 refine X_freeze .here (fun I3 hI3 hb3 => ?_)
 have hIc := hIc.trans hI3
 have h1 := hb3
 have h3 := hI3 _ _ h3; have h2 := hI3 _ _ h2
 refine X_region ?_
 refine zV (ev_makeFunc (us := []) (vs := [_, _, _]) rfl rfl) ?_
 refine zA ?_
 refine zN ?_
 refine X_ret ?_
 exact at_ret1 rfl rfl (fun w hw => ⟨_, I3, [], rfl, hIc, hw.drop, rfl, b_3, b_4, b_5, rfl, h1, h2, h3⟩)
theorem w_latit {I : HMap} {ps l : List Pt} {xs : List Sg} {r1 r2 r3 : Nat} {av : Option Addr} {n c : Nat} (hx : StQ I ps l xs r1 r2 r3 av n c) {s f : Int} {b1 b2 b3 : Nat} (hcap : LCap I r1 r2 r3 av n c s f b1 b2 b3) : SeqC Tryz.prog 88 [capP b1, capP b2, capP b3] I encPA (latF (onF ps) l s f) := by
  rw [lat_eq]
  intro g y J Jx hY I0 H w h0 hJ hw
  obtain ⟨h1, h2, h3⟩ := hcap
  have hx := hx.mono h0
  have h1 := h0 _ _ h1; have h2 := h0 _ _ h2; have h3 := h0 _ _ h3
  refine enter Tryz.func88 rfl Tryz.ntmps88 rfl hw ?_
  obtain ⟨ms, hms, hset⟩ := hx.set
  obtain ⟨av2, c2, hv2, hS2⟩ := hset (s, f)
  dsimp only at hv2 hS2
  have hln := Nat.le_trans (stF_len (l := l) (s := s) (f := f)) hx.fewl
  refine zR ?_
  refine zF fld_86_1 ?_
  refine zV (ev_load rfl sct_84 (fun hg => by exact Cell.imm h1 rfl)) ?_
  refine zV (ev_load rfl sct_3 (fun hg => by exact Cell.imm h2 rfl)) ?_
  refine zV (ev_load rfl sct_3 (fun hg => by exact Cell.imm h3 rfl)) ?_
  refine zV (ev_buildArr (ps := [(0, _), (1, _)]) [_, _] art_121 zt_121 rfl rfl) ?_
  refine zV (ev_lookupTE (m := ms) (ek := encK2) (a := (s, f)) hv2 mpt_84 key_121 rfl rfl (fun _ => .inl hms)) ?_
  refine zA ?_
  refine zN (zR ?_)
  refine zM ?_
  refine zQ slt_33 ?_
  refine zM ?_
  refine zN ?_
  refine X_block ?_
  refine X_loopH (fun m E I' H' loc' => ∃ (k : Nat), m = (stF l s f).length - k ∧ E = [(0, .func (.yield y) #[] #[]), (1, capP b1), (5, .slice av2 (stF l s f).length c2), (14, .slice av2 (stF l s f).length c2), (15, .int .i64 (stF l s f).length), (16, .int .i64 k)] ∧ loc' = [] ∧ HLe I0 I' ∧ k ≤ (stF l s f).length ∧ J (((stF l s f).take k).filter (latB (onF ps) (stF l s f))) I' H') _ _ _ ⟨0, rfl, rfl, rfl, HLe.refl _, Nat.zero_le _, hJ⟩ (.cons rfl (.cons rfl (.cons rfl (.cons rfl (.cons rfl (.cons rfl .nil)))))) rfl ?_
  rintro m E I' H' loc' ⟨k, rfl, rfl, rfl, hI1, hk, hJk⟩
  have hS2 := hS2.mono hI1
  have hx := hx.mono hI1
  have h1 := hI1 _ _ h1
  have hI0 := h0.trans hI1
  refine zR ?_
  refine zC ?_
  refine zN ?_
  refine X_seq ?_
  refine zI ?_ ?_ <;> intro hc17
  · skip
    have hlt : k < (stF l s f).length := by simpa using hc17
    obtain ⟨p, hp⟩ := hS2.at hlt
    refine X_skip ?_
    refine at_then ?_
    refine X_seq ?_
    refine X_block ?_
    refine zR ?_
    refine zV (ev_indexSl rfl rfl slt_33 (by assumption) (fun hg => by omega)) ?_
    refine zV (ev_loadA rfl agt_44 (fun hg => by exact Sl.getA hS2 hp) rfl) ?_
    refine XO_alloc zt_44 rfl rfl (fun b_7 => ?_)
    refine XO_storeA rfl rfl szt_44 rfl rfl rfl rfl (by repeat (first | exact Upd.here | apply Upd.there | apply upd_app)) ?_
    refine zN ?_
    refine X_seq ?_
    have hpc : ∀ {b : Bool} {G : Env}, conj [(b, G)] = true → b = latB (onF ps) (stF l s f) p → latB (onF ps) (stF l s f) p = true := fun h e => by rw [← e]; simpa [conj] using h
    refine X_region ?_
    refine zM ?_
    refine zV (ev_makeFunc (us := []) (vs := [_, _]) rfl rfl) ?_
    refine XO_callK0 (cap := []) (vs := [_, _]) rfl rfl fun_89 split_all (RetK.ofV fun I' hI' hL' => w_cnP (cap := [.pointer (some ⟨b1, 0, none⟩), .pointer (some ⟨b_7, 0, none⟩)]) (SlP.mono ⟨hS2, fun p hp => hx.nd p (hx.sub p (mem_stF.1 hp).1)⟩ hI') (by omega) fun_90 (fun q hq => w_lat11 (b1 := b1) (b2 := b_7) (r1 := r1) (r2 := r2) (r3 := r3) (av := av) (n := n) (c := c) (p := p) (hI' _ _ h1) (hL' b_7 _ (by simp)) (hx.on.mono hI') q ⟨q, hx.sub q (mem_stF.1 hq).1, rfl⟩)) rfl rfl ?_
    refine zO ?_
    refine zM ?_
    refine XO_pushT 4 rfl rfl rfl ?_
    refine zK (ev_move rfl) ?_
    refine zK (ev_loadA rfl agt_44 (fun hg => by (repeat (first | exact Cells.here | exact Cells.s0 (vs := [_, _, _, _, _, _, _, _, _, _, _, _, _, _, _, _, _, _, _]) rfl | apply Cells.there | apply Cells.app))) rfl) ?_
    refine XO_yield1 (vs := [_]) (Post := fun b I2 H2 => if b then J (((stF l s f).take k).filter (latB (onF ps) (stF l s f)) ++ [p]) I2 H2 else Jx (((stF l s f).take k).filter (latB (onF ps) (stF l s f)) ++ [p]) I2 H2) rfl rfl (.some rfl rfl rfl rfl gbt) rfl rfl (fun hcj => hY _ p _ _ (fil_pre hp (hpc hcj rfl)) hI0 hJk) ?_
    rintro b I2 H2 hI2 hyes hno
    refine zK (ev_not rfl) ?_
    refine XO_and0 rfl rfl rfl rfl rfl ?_
    refine zN ?_
    refine zI ?_ ?_ <;> intro hc29
    · skip
      refine X_ret ?_
      refine at_block_r ?_
      refine at_then_r ?_
      refine at_then_r ?_
      refine at_block_r ?_
      first
      | (exact at_ret0 rfl (fun w hw => ⟨_, I2, H2, rfl, hI1.trans hI2, hw.drop, .inr ⟨_, fil_pre hp (show latB (onF ps) (stF l s f) p = true from ((Bool.and_eq_true _ _).mp (show (latB (onF ps) (stF l s f) p && !b) = true from hc29)).1), by have hc : (latB (onF ps) (stF l s f) p && !b) = true := hc29; rw [Bool.and_eq_true, Bool.not_eq_true'] at hc; have h9 := hyes (show conj [(latB (onF ps) (stF l s f) p, _)] = true from by rw [hc.1]; rfl); rw [hc.2] at h9; exact h9⟩⟩))
    · skip
      refine X_skip ?_
      refine at_block_n ?_
      refine at_then ?_
      refine X_region ?_
      refine zV (ev_arB rfl rfl rfl (fun _ => by omega)) ?_
      refine zM ?_
      refine XO_nil ?_
      have hyes := fun (e : latB (onF ps) (stF l s f) p = true) => hyes (show conj [(latB (onF ps) (stF l s f) p, _)] = true from by rw [e]; rfl)
      have hno := fun (e : latB (onF ps) (stF l s f) p = false) => hno (show conj [(latB (onF ps) (stF l s f) p, _)] = false from by rw [e]; rfl)
      have hc : (latB (onF ps) (stF l s f) p && !b) = false := hc29
      have hJ2 : J (((stF l s f).take (k + 1)).filter (latB (onF ps) (stF l s f))) I2 H2 := by
        cases hA : latB (onF ps) (stF l s f) p with
        | true => rw [fil_yes hp hA]; rw [hA] at hc; have hb : b = true := by simpa using hc
                  subst hb; exact hyes hA
        | false => rw [fil_no hp hA]; obtain ⟨e1, e2⟩ := hno hA; rw [e1, e2]; exact hJk
      exact at_metH2 rfl rfl rfl _ [] ⟨(stF l s f).length - (k + 1), by omega, k + 1, rfl, rfl, rfl, hI1.trans hI2, by omega, hJ2⟩ (.cons rfl (.cons rfl (.cons rfl (.cons rfl (.cons rfl (.cons rfl .nil)))))) (.drop .refl)
  · skip
    have hge : (stF l s f).length ≤ k := by simpa using hc17
    refine X_exit ?_
    refine at_then_e ?_
    refine at_then_e ?_
    refine at_block_hit ?_
    first
    | (exact at_norm (at_ret0 rfl (fun w hw => ⟨_, I', H', rfl, hI1, hw, .inl (by rw [take_all rfl hge] at hJk; exact hJk)⟩)))
end Go.Proofs.YtoicbikdenlioaaGreat
end
section
namespace Go.Proofs.YtoicbikdenlioaaGreat
open Go Go.Kn Go.Proofs
theorem at_round_exit2 {α : Type} {C : Cx} {E : Env} {I : HMap} {loc loc' : Go.Kn.Loc} {Jc : List α → HMap → Go.Kn.Loc → Prop} {Jx : Code → List α → HMap → Go.Kn.Loc → Prop} {pre : List α} {id : Nat} (h : Jx (.exit id) pre I loc') (hs : SubL loc' loc) : At C (RoundQ C.g C.H Jc Jx pre) (.exit id) E I loc := fun _ _ _ hw => ⟨I, loc', h, hw.subL hs⟩
theorem w_put (I : HMap) (b : Nat) (x : Sg) (f : Int) (y : Sg) (hf : isF f) : RetM Tryz.prog 83 [capP b, .int .i64 f, encGA y] I [(b, .cells (encG x).toArray 26 (0, 0))] (fun v I' L => v = .tuple #[] ∧ I' = I ∧ L = [(b, .cells (encG (setG x f y)).toArray 26 (0, 0))]) := by
 intro g H w hw
 refine enter Tryz.func83 rfl Tryz.ntmps83 rfl hw ?_
 refine zR ?_
 refine XO_box rfl rfl rfl (fun b_5 => ?_)
 refine zN (zR ?_)
 refine zM ?_
 refine zN ?_
 refine X_block ?_
 refine zR ?_
 refine zC ?_
 refine zA ?_
 refine zN ?_
 refine zI ?_ ?_ <;> intro hc7
 ·
  have hfk : f = 1 := by simpa using hc7
  subst hfk
  refine X_region ?_
  refine zM ?_
  refine zF fld_26_1 ?_
  refine zL sct_3 ?_
  refine zV (ev_nilCheck rfl) ?_
  refine zF fld_26_1 ?_
  refine zS szt_3 ?_
  refine XO_nil ?_
  refine at_block_n ?_
  exact at_norm (at_ret0 rfl (fun w hw => ⟨_, I, _, rfl, HLe.refl _, hw.subL (.drop .refl), rfl, rfl, rfl⟩))
 have hg1 : f ≠ 1 := by simpa using hc7
 refine zR ?_
 refine zC ?_
 refine zA ?_
 refine zN ?_
 refine zI ?_ ?_ <;> intro hc14
 ·
  have hfk : f = 2 := by simpa using hc14
  subst hfk
  refine X_region ?_
  refine zM ?_
  refine zF fld_26_2 ?_
  refine zL sct_3 ?_
  refine zV (ev_nilCheck rfl) ?_
  refine zF fld_26_2 ?_
  refine zS szt_3 ?_
  refine XO_nil ?_
  refine at_block_n ?_
  exact at_norm (at_ret0 rfl (fun w hw => ⟨_, I, _, rfl, HLe.refl _, hw.subL (.drop .refl), rfl, rfl, rfl⟩))
 have hg2 : f ≠ 2 := by simpa using hc14
 refine zR ?_
 refine zC ?_
 refine zA ?_
 refine zN ?_
 refine zI ?_ ?_ <;> intro hc21
 ·
  have hfk : f = 3 := by simpa using hc21
  subst hfk
  refine X_region ?_
  refine zM ?_
  refine zF fld_26_3 ?_
  refine zL sct_3 ?_
  refine zV (ev_nilCheck rfl) ?_
  refine zF fld_26_3 ?_
  refine zS szt_3 ?_
  refine XO_nil ?_
  refine at_block_n ?_
  exact at_norm (at_ret0 rfl (fun w hw => ⟨_, I, _, rfl, HLe.refl _, hw.subL (.drop .refl), rfl, rfl, rfl⟩))
 have hg3 : f ≠ 3 := by simpa using hc21
 refine zR ?_
 refine zC ?_
 refine zA ?_
 refine zN ?_
 refine zI ?_ ?_ <;> intro hc28
 ·
  have hfk : f = 4 := by simpa using hc28
  subst hfk
  refine X_region ?_
  refine zM ?_
  refine zF fld_26_5 ?_
  refine zL sct_3 ?_
  refine zV (ev_nilCheck rfl) ?_
  refine zF fld_26_5 ?_
  refine zS szt_3 ?_
  refine XO_nil ?_
  refine at_block_n ?_
  exact at_norm (at_ret0 rfl (fun w hw => ⟨_, I, _, rfl, HLe.refl _, hw.subL (.drop .refl), rfl, rfl, rfl⟩))
 have hg4 : f ≠ 4 := by simpa using hc28
 refine zR ?_
 refine zC ?_
 refine zA ?_
 refine zN ?_
 refine zI ?_ ?_ <;> intro hc35
 ·
  have hfk : f = 5 := by simpa using hc35
  subst hfk
  refine X_region ?_
  refine zM ?_
  refine zF fld_26_6 ?_
  refine zL sct_3 ?_
  refine zV (ev_nilCheck rfl) ?_
  refine zF fld_26_6 ?_
  refine zS szt_3 ?_
  refine XO_nil ?_
  refine at_block_n ?_
  exact at_norm (at_ret0 rfl (fun w hw => ⟨_, I, _, rfl, HLe.refl _, hw.subL (.drop .refl), rfl, rfl, rfl⟩))
 have hg5 : f ≠ 5 := by simpa using hc35
 refine zR ?_
 refine zC ?_
 refine zA ?_
 refine zN ?_
 refine zI ?_ ?_ <;> intro hc42
 ·
  have hfk : f = 6 := by simpa using hc42
  subst hfk
  refine X_region ?_
  refine zM ?_
  refine zF fld_26_7 ?_
  refine zL sct_3 ?_
  refine zV (ev_nilCheck rfl) ?_
  refine zF fld_26_7 ?_
  refine zS szt_3 ?_
  refine XO_nil ?_
  refine at_block_n ?_
  exact at_norm (at_ret0 rfl (fun w hw => ⟨_, I, _, rfl, HLe.refl _, hw.subL (.drop .refl), rfl, rfl, rfl⟩))
 have hg6 : f ≠ 6 := by simpa using hc42
 refine zR ?_
 refine zC ?_
 refine zA ?_
 refine zN ?_
 refine zI ?_ ?_ <;> intro hc49
 ·
  have hfk : f = 7 := by simpa using hc49
  subst hfk
  refine X_region ?_
  refine zM ?_
  refine zF fld_26_8 ?_
  refine zL sct_3 ?_
  refine zV (ev_nilCheck rfl) ?_
  refine zF fld_26_8 ?_
  refine zS szt_3 ?_
  refine XO_nil ?_
  refine at_block_n ?_
  exact at_norm (at_ret0 rfl (fun w hw => ⟨_, I, _, rfl, HLe.refl _, hw.subL (.drop .refl), rfl, rfl, rfl⟩))
 have hg7 : f ≠ 7 := by simpa using hc49
 refine zR ?_
 refine zC ?_
 refine zA ?_
 refine zN ?_
 refine zI ?_ ?_ <;> intro hc56
 ·
  have hfk : f = 8 := by simpa using hc56
  subst hfk
  refine X_region ?_
  refine zM ?_
  refine zF fld_26_9 ?_
  refine zL sct_3 ?_
  refine zV (ev_nilCheck rfl) ?_
  refine zF fld_26_9 ?_
  refine zS szt_3 ?_
  refine XO_nil ?_
  refine at_block_n ?_
  exact at_norm (at_ret0 rfl (fun w hw => ⟨_, I, _, rfl, HLe.refl _, hw.subL (.drop .refl), rfl, rfl, rfl⟩))
 have hg8 : f ≠ 8 := by simpa using hc56
 refine zR ?_
 refine zC ?_
 refine zA ?_
 refine zN ?_
 refine zI ?_ ?_ <;> intro hc63
 ·
  have hfk : f = 9 := by simpa using hc63
  subst hfk
  have hD := HLe.refl I
  refine X_noP ?_
  refine X_drawS I [(b_5, .cells (encGA y).cells 26 (0, 0))] mixed ?_
  refine zT 0 rfl (ev_move rfl) hD ?_
  refine zT 1 rfl (ev_move rfl) hD ?_
  refine zT 2 rfl (ev_fieldAddr rfl fld_26_10) hD ?_
  refine zT 3 rfl (ev_loadA rfl agt_24 (fun hg => by first | (repeat (first | exact Cells.here | exact Cells.s0 (vs := [_, _]) rfl | apply Cells.there | apply Cells.app))) rfl) hD ?_
  refine zT 4 rfl (ev_fieldAddr rfl fld_26_11) hD ?_
  refine zT 5 rfl (ev_loadA rfl agt_24 (fun hg => by first | (repeat (first | exact Cells.here | exact Cells.s0 (vs := [_, _]) rfl | apply Cells.there | apply Cells.app))) rfl) hD ?_
  refine zT 6 rfl (ev_nilCheck rfl) hD ?_
  refine zT 7 rfl (ev_fieldAddr rfl fld_26_10) hD ?_
  refine XD_one 8 rfl (by kernel_rfl) ?_
  refine XO_storeP rfl rfl szt_24 rfl rfl rfl rfl (by repeat (first | exact Upd.here | apply Upd.there | apply upd_app)) ?_
  refine XO_nil ?_
  refine zD hD ?_
  refine zT 9 rfl (ev_nilCheck rfl) hD ?_
  refine zT 10 rfl (ev_fieldAddr rfl fld_26_11) hD ?_
  refine XD_one 11 rfl (by kernel_rfl) ?_
  refine XO_storeP rfl rfl szt_24 rfl rfl rfl rfl (by repeat (first | exact Upd.here | apply Upd.there | apply upd_app)) ?_
  refine XO_nil ?_
  refine zD hD ?_
  refine XD_done (by kernel_rfl) ?_
  refine at_noP ?_
  refine at_block_n ?_
  exact at_norm (at_ret0 rfl (fun w hw => ⟨_, I, _, rfl, HLe.refl _, hw.subL (.drop .refl), rfl, rfl, rfl⟩))
 have hg9 : f ≠ 9 := by simpa using hc63
 refine X_skip ?_
 refine at_block_n ?_
 first
 | (exfalso; unfold isF at hf; omega)
end Go.Proofs.YtoicbikdenlioaaGreat
end
section
namespace Go.Proofs.YtoicbikdenlioaaGreat
open Go Go.Kn Go.Proofs
/-- The signs that exist, with the latest values. -/
def exL (on : Int → Int → Bool) (l : List Pt) (xs : List Sg) : List Sg := (xs.filter fun x => exB on l x.id).map (curF on l)
theorem ex_yes {on : Int → Int → Bool} {l : List Pt} {xs : List Sg} {k : Nat} {x : Sg} (hx : xs[k]? = some x) (h : exB on l x.id = true) : exL on l (xs.take (k + 1)) = exL on l (xs.take k) ++ [curF on l x] := by
  unfold exL
  rw [take_snoc hx, List.filter_append, List.filter_cons, if_pos h]; simp
theorem ex_no {on : Int → Int → Bool} {l : List Pt} {xs : List Sg} {k : Nat} {x : Sg} (hx : xs[k]? = some x) (h : exB on l x.id = false) : exL on l (xs.take (k + 1)) = exL on l (xs.take k) := by
  unfold exL
  rw [take_snoc hx, List.filter_append, List.filter_cons, if_neg (by rw [h]; exact Bool.false_ne_true)]; simp
theorem ex_zero {on : Int → Int → Bool} {l : List Pt} {xs : List Sg} : exL on l (xs.take 0) = [] := by unfold exL; simp
def exE (on : Int → Int → Bool) (l : List Pt) (xs : List Sg) : Int := if (exL on l xs).length > 4096 then 2 else 0
/-- Signs and an error. -/
def ResG (e : Int) (xs : List Sg) : Value → HMap → Go.Kn.Loc → Prop := fun v I' L => L = [] ∧ ∃ av c, v = .tuple #[.slice av xs.length c, .int .i64 e] ∧ Sl I' 14 encG av xs.length c xs
theorem ResG.empty {e : Int} {xs : List Sg} {I : HMap} (h : xs = []) : ResG e xs (.tuple #[.slice none 0 0, .int .i64 e]) I [] := by
  subst h
  exact ⟨rfl, none, 0, rfl, .nil⟩
theorem ResG.good {e e' : Int} {xs ys : List Sg} {I : HMap} {av : Option Addr} {n c : Nat} (h : e = e') (hx : ys = xs) (hS : Sl I 14 encG av n c ys) : ResG e' xs (.tuple #[.slice av n c, .int .i64 e]) I [] := by
  subst h; subst hx
  have hn := hS.len
  subst hn
  exact ⟨rfl, av, c, rfl, hS⟩
theorem valn {e size n : Nat} {v : Value} {xs : List Value} {L : Go.Kn.Loc} (h : OwnS e size v n xs L) : ∃ a c, v = .slice a n c := by
  rcases h.2 with ⟨h1, h2, _⟩ | ⟨b, c, cur, h1, _⟩
  · subst h2; exact ⟨_, _, h1⟩
  · exact ⟨_, _, h1⟩
theorem setO_nil {x : Sg} {f : Int} {l : List Pt} (h : l = []) : setO x f l = x := by subst h; rfl
theorem setO_pre {x : Sg} {f : Int} {l : List Pt} {p : Pt} (h : [p] <+: l) : setO x f l = setG x f p.nw := by
  obtain ⟨t, rfl⟩ := h; rfl
theorem cur_next {on : Int → Int → Bool} {l : List Pt} {x y : Sg} {k : Nat} (hy : y = curK on l x k) : setO y ((k : Int) + 1) (latF on l y.id ((k : Int) + 1)) = curK on l x (k + 1) := by
  subst hy
  rw [curK_step, (curK_id k).1]
theorem isF_k {k : Nat} (h : k < 9) : isF ((k : Int) + 1) := by unfold isF; omega
theorem cur_start {on : Int → Int → Bool} {l : List Pt} {x : Sg} : x = curK on l x 0 := rfl
theorem sgn_bad {ps : List Pt} {bs : List Sg} {ws : List Int} (h : patE ps bs ws ≠ 0) : sgnE ps bs ws = patE ps bs ws := by unfold sgnE; rw [if_pos h]
theorem sgn_ok {ps : List Pt} {bs : List Sg} {ws : List Int} (h : patE ps bs ws = 0) : sgnE ps bs ws = exE (onF ps) (verL ps ws) (allG bs (verL ps ws)) := by unfold sgnE; rw [if_neg (by omega)]; rfl
theorem pat_chk {ps : List Pt} {bs : List Sg} {ws : List Int} (h : patE ps bs ws = 0) : chkR ps = 0 := by
  by_cases h2 : chkR ps = 0
  · exact h2
  · rw [pat_1 h2] at h; exact h
theorem pat_g {ps : List Pt} {bs : List Sg} {ws : List Int} (h : patE ps bs ws = 0) : chkG bs = 0 := by
  by_cases h2 : chkG bs = 0
  · exact h2
  · rw [pat_2 (pat_chk h) h2] at h; exact h
theorem pat_v {ps : List Pt} {bs : List Sg} {ws : List Int} (h : patE ps bs ws = 0) : Ver ps ws := by
  by_cases h2 : vrE ps ws = 0
  · exact (verB_iff (chkR_lst (pat_chk h))).1 (vr_ver h2)
  · rw [pat_3 (pat_chk h) (pat_g h) h2] at h; exact absurd h h2
theorem pat_ok {ps : List Pt} {bs : List Sg} {ws : List Int} (h : patE ps bs ws = 0) : ∀ p ∈ verL ps ws, PtOK p := fun p hp => (chkR_sto (pat_chk h)).ok p (mem_verL.1 hp).1
theorem allG_len (bs : List Sg) (l : List Pt) : (allG bs l).length ≤ bs.length + l.length := by
  have h := (all_perm l bs).length_eq
  rw [h, List.length_append]
  unfold insS
  rw [List.length_map]
  have := List.length_filter_le (fun p : Pt => p.kind == 2) l
  omega
end Go.Proofs.YtoicbikdenlioaaGreat
end
section
namespace Go.Proofs.YtoicbikdenlioaaGreat
open Go Go.Kn Go.Proofs
theorem w_current {I : HMap} {ps l : List Pt} {xs : List Sg} {r1 r2 r3 : Nat} {av : Option Addr} {n c : Nat} (hx : StQ I ps l xs r1 r2 r3 av n c) (hn : n ≤ 100000) (hok : ∀ p ∈ l, PtOK p) : RetM Tryz.prog 31 [stA r1 r2 r3 av n c] I [] (ResG (exE (onF ps) l xs) (resF (exE (onF ps) l xs) (exL (onF ps) l xs))) := by
 intro g H w hw
 refine enterMs Tryz.func31 rfl Tryz.ntmps31 rfl hw ?_
 have hIc := HLe.refl I
 refine zR ?_
 refine XO_box rfl rfl rfl (fun b_1 => ?_)
 refine zA ?_
 refine zA ?_
 refine zN ?_
 refine X_seq ?_
 refine X_seq ?_
 refine X_dropTo ((b_1, .cells #[.map (some r1), .map (some r2), .map (some r3), .slice av n c] 86 (0, 0)) :: ([] ++ MB _)) .refl ?_
 refine X_region ?_
 refine zF fld_86_3 ?_
 refine zL sct_22 ?_
 refine zQ slt_22 ?_
 refine zM ?_
 refine zN ?_
 refine X_block ?_
 refine X_loopM [(1, _), (9, _), (10, _)] (.cons rfl (.cons rfl (.cons rfl .nil))) (fun T L0 mz ms E I' loc' => ∃ (j : Nat) (v : Value) (q : Nat) (L : Go.Kn.Loc), mz = n - j ∧ E = (2, v) :: (11, .int .i64 j) :: T ∧ HLe I I' ∧ (b_1, .cells #[.map (some r1), .map (some r2), .map (some r3), .slice av n c] 86 (0, 0)) :: (L ++ MB ms) = loc' ∧ j ≤ n ∧ OwnS 26 14 v q ((exL (onF ps) l (xs.take j)).flatMap encG) L ∧ q ≤ j) _ _ _ _ ⟨0, _, 0, [], rfl, rfl, HLe.refl _, rfl, Nat.zero_le _, by rw [ex_zero]; exact OwnS.nil, Nat.le_refl _⟩ (.cons rfl (.cons rfl (.cons rfl (.cons rfl (.cons rfl .nil))))) (HLe.refl _) rfl ?_
 rintro mz ms E J1 loc' ⟨j, v, q, L, rfl, rfl, hJ, rfl, hj, hO, hq⟩
 have hx := hx.mono hJ; have hIc := hIc.trans hJ
 have hB0 := hJ
 refine zR ?_
 refine zC ?_
 refine zN ?_
 refine X_seq ?_
 refine zI ?_ ?_ <;> intro hc12
 ·
  have hlt_j : j < n := by have h := hc12; simp at h; omega
  have hS := hx.sg
  obtain ⟨x, hxx⟩ := hS.at hlt_j
  refine X_skip ?_
  refine at_then ?_
  refine X_seq ?_
  refine X_block ?_
  refine zR ?_
  refine zV (ev_indexSl rfl rfl slt_22 (by assumption) (fun hg => by omega)) ?_
  refine zV (ev_loadA rfl agt_26 (fun hg => by exact Sl.getA hS hxx) rfl) ?_
  refine XO_alloc zt_26 rfl rfl (fun b_5 => ?_)
  refine XO_storeA rfl rfl szt_26 rfl rfl rfl rfl (by repeat (first | exact Upd.here | apply Upd.there | apply upd_app)) ?_
  refine zN ?_
  refine X_seq ?_
  refine zR ?_
  refine zV (ev_loadA rfl agt_86 (fun hg => by (repeat (first | exact Cells.here | exact Cells.s0 (vs := [_, _, _, _]) rfl | apply Cells.there | apply Cells.app))) rfl) ?_
  refine zF fld_26_0 ?_
  refine zL sct_3 ?_
  refine XO_callV0 (cap := []) (vs := [_, _]) rfl rfl fun_35 (w_exists hx hok _) rfl rfl ?_
  refine zO ?_
  refine zN ?_
  refine zI ?_ ?_ <;> intro hc19
  ·
   have hex := (Bool.not_eq_true' _).mp hc19
   refine X_exit ?_
   refine at_then_e ?_
   refine at_block_hit ?_
   refine at_then ?_
   refine X_region ?_
   refine zV (ev_arB rfl rfl rfl (fun _ => by omega)) ?_
   refine zM ?_
   refine XO_nil ?_
   first
   | exact at_metM rfl rfl rfl _ _ ⟨n - (j + 1), by omega, j + 1, _, _, _, rfl, rfl, hB0, rfl, by omega, by rw [ex_no hxx hex]; exact hO, by omega⟩ (.cons rfl (.cons rfl (.cons rfl (.cons rfl (.cons rfl .nil))))) (by repeat (first | exact .refl | exact subL_left | refine subL_app ?_ | refine .drop ?_ | refine subL_add ?_))
  have hex := (Bool.not_eq_false' _).mp hc19
  refine X_skip ?_
  refine at_then ?_
  refine X_seq ?_
  refine zR ?_
  refine XO_alloc zt_3 rfl rfl (fun b_6 => ?_)
  refine zS szt_3 ?_
  refine zN ?_
  refine X_block ?_
  refine X_loopM [(1, _), (2, _), (5, _), (9, _), (10, _), (11, _)] (.cons rfl (.cons rfl (.cons rfl (.cons rfl (.cons rfl (.cons rfl .nil)))))) (fun T L0 mz ms E I' loc' => ∃ (k : Nat) (b6 : Nat) (y : Sg), mz = 9 - k ∧ E = (6, capP b6) :: T ∧ HLe J1 I' ∧ (b6, .cells #[.int .i64 ((k : Int) + 1)] 3 (0, 0)) :: (b_5, .cells (encG y).toArray 26 (0, 0)) :: (b_1, .cells #[.map (some r1), .map (some r2), .map (some r3), .slice av n c] 86 (0, 0)) :: (L ++ MB ms) = loc' ∧ k ≤ 9 ∧ y = curK (onF ps) l x k) _ _ _ _ ⟨0, b_6, x, rfl, rfl, HLe.refl _, rfl, Nat.zero_le _, cur_start⟩ (.cons rfl (.cons rfl (.cons rfl (.cons rfl (.cons rfl (.cons rfl (.cons rfl .nil))))))) (HLe.refl _) rfl ?_
  rintro mz ms E J2 loc' ⟨k, b6, y, rfl, rfl, hJ, rfl, hk, hy⟩
  have hx := hx.mono hJ; have hIc := hIc.trans hJ; have hB0 := hB0.trans hJ
  have hB2 := hJ
  refine X_seq ?_
  refine zR ?_
  refine zL sct_3 ?_
  refine zC ?_
  refine zN ?_
  refine zI ?_ ?_ <;> intro hc21
  ·
   have hlt_k : k < 9 := by have h := hc21; simp at h; omega
   refine X_skip ?_
   refine at_then ?_
   refine X_seq ?_
   refine X_block ?_
   refine zR ?_
   refine zV (ev_loadA rfl agt_86 (fun hg => by (repeat (first | exact Cells.here | exact Cells.s0 (vs := [_, _, _, _]) rfl | apply Cells.there | apply Cells.app))) rfl) ?_
   refine zF fld_26_0 ?_
   refine zL sct_3 ?_
   refine zL sct_3 ?_
   refine XO_callM (cap := []) (vs := [_, _, _]) rfl rfl fun_36 .nil (w_latest _ _ _ _ _ _ _ _ _) rfl rfl ?_
   rintro vv3 I3 L3 hI3 ⟨rfl, c1, c2, c3, rfl, hcap⟩
   have hx := hx.mono hI3; have hIc := hIc.trans hI3; have hB0 := hB0.trans hI3; have hB2 := hB2.trans hI3
   refine zN ?_
   refine X_block ?_
   refine X_rangeFuncM (K := []) (L := (b6, .cells #[.int .i64 ((k : Int) + 1)] 3 (0, 0)) :: (b_5, .cells (encG y).toArray 26 (0, 0)) :: (b_1, .cells #[.map (some r1), .map (some r2), .map (some r3), .slice av n c] 86 (0, 0)) :: L) (enc := encPA) (xs := latF (onF ps) l y.id ((k : Int) + 1)) (fun pre I' loc' => pre = [] ∧ loc' = (b6, .cells #[.int .i64 ((k : Int) + 1)] 3 (0, 0)) :: (b_5, .cells (encG y).toArray 26 (0, 0)) :: (b_1, .cells #[.map (some r1), .map (some r2), .map (some r3), .slice av n c] 86 (0, 0)) :: L) (fun cd pre I' loc' => cd = .exit 4 ∧ ∃ p, pre = [p] ∧ loc' = (b_5, .cells (encG (setG y ((k : Int) + 1) p.nw)).toArray 26 (0, 0)) :: (b6, .cells #[.int .i64 ((k : Int) + 1)] 3 (0, 0)) :: (b_1, .cells #[.map (some r1), .map (some r2), .map (some r3), .slice av n c] 86 (0, 0)) :: L) (fun pre p E2 I2 loc2 => ∃ b7 : Nat, E2 = [(5, capP b_5), (6, capP b6), (7, capP b7)] ∧ pre = [] ∧ loc2 = (b7, .cells (encP p).toArray 44 (0, 0)) :: (b6, .cells #[.int .i64 ((k : Int) + 1)] 3 (0, 0)) :: (b_5, .cells (encG y).toArray 26 (0, 0)) :: (b_1, .cells #[.map (some r1), .map (some r2), .map (some r3), .slice av n c] 86 (0, 0)) :: L) rfl fun_88 (w_latit hx hcap) rfl ⟨rfl, rfl⟩ ?_ ?_ ?_ ?_
   ·
    rintro l9 pre p I1 loc1 H1 hpre hI1 ⟨rfl, rfl⟩
    refine X_region ?_
    refine XO_alloc zt_44 rfl rfl (fun b_7 => ?_)
    refine XO_storeA rfl rfl szt_44 rfl rfl rfl rfl (by repeat (first | exact Upd.here | apply Upd.there | apply upd_app)) ?_
    refine XO_nil ?_
    exact at_met' _ ⟨HLe.refl _, b_7, rfl, rfl, rfl⟩ (.cons rfl (.cons rfl (.cons rfl .nil)))
   ·
    rintro l9 pre p E2 I2 loc2 H2 hpre hI2 ⟨b7, rfl, rfl, rfl⟩
    refine X_block ?_
    refine zR ?_
    refine zL sct_3 ?_
    refine zF fld_44_4 ?_
    refine zV (ev_loadA rfl agt_26 (fun hg => by (repeat (first | exact Cells.here | exact Cells.s0 (vs := [_, _, _, _, _, _, _, _, _, _, _, _, _, _]) rfl | apply Cells.there | apply Cells.app))) rfl) ?_
    refine XO_callM (cap := []) (vs := [_, _, _]) rfl rfl fun_83 (by repeat (first | exact .cons .here .nil | exact split_all | exact split_app | apply split_cons | apply split_skip)) (w_put _ b_5 y _ p.nw (isF_k hlt_k)) rfl rfl ?_
    rintro vv4 I4 L4 hI4 ⟨rfl, rfl, rfl⟩
    refine zN ?_
    refine X_exit ?_
    refine at_block_miss rfl ?_
    exact at_round_exit2 ⟨HLe.refl _, rfl, p, rfl, rfl⟩ (by repeat (first | exact .refl | refine .keep ?_ | refine .drop ?_))
   ·
    rintro bd I1 loc1 hI1 ⟨hnil, rfl⟩
    have hx := hx.mono hI1; have hIc := hIc.trans hI1; have hB0 := hB0.trans hI1; have hB2 := hB2.trans hI1
    have hy2 : y = curK (onF ps) l x (k + 1) := by rw [← cur_next hy, setO_nil hnil]
    refine at_block_n ?_
    refine at_block_n ?_
    refine at_then ?_
    refine X_seq ?_
    refine zR ?_
    refine zL sct_3 ?_
    refine zN ?_
    refine X_region ?_
    refine XO_alloc zt_3 rfl rfl (fun b_6 => ?_)
    refine zS szt_3 ?_
    refine zN ?_
    refine X_region ?_
    refine zL sct_3 ?_
    refine zV (ev_arB rfl rfl rfl (fun _ => by omega)) ?_
    refine zS szt_3 ?_
    refine XO_nil ?_
    exact at_metM rfl rfl rfl _ _ ⟨9 - (k + 1), by omega, k + 1, _, _, rfl, rfl, hB2, rfl, by omega, hy2⟩ (.cons rfl (.cons rfl (.cons rfl (.cons rfl (.cons rfl (.cons rfl (.cons rfl .nil))))))) (by repeat (first | exact .refl | refine .keep ?_ | refine .drop ?_))
   rintro cd bd pre I1 loc1 hI1 hpre ⟨rfl, p, rfl, rfl⟩
   have hx := hx.mono hI1; have hIc := hIc.trans hI1; have hB0 := hB0.trans hI1; have hB2 := hB2.trans hI1
   have hy2 : (setG y ((k : Int) + 1) p.nw) = curK (onF ps) l x (k + 1) := by rw [← cur_next hy, setO_pre hpre]
   refine X_exit ?_
   refine at_block_hit ?_
   refine at_block_n ?_
   refine at_then ?_
   refine X_seq ?_
   refine zR ?_
   refine zL sct_3 ?_
   refine zN ?_
   refine X_region ?_
   refine XO_alloc zt_3 rfl rfl (fun b_6 => ?_)
   refine zS szt_3 ?_
   refine zN ?_
   refine X_region ?_
   refine zL sct_3 ?_
   refine zV (ev_arB rfl rfl rfl (fun _ => by omega)) ?_
   refine zS szt_3 ?_
   refine XO_nil ?_
   exact at_metM rfl rfl rfl _ _ ⟨9 - (k + 1), by omega, k + 1, _, _, rfl, rfl, hB2, rfl, by omega, hy2⟩ (.cons rfl (.cons rfl (.cons rfl (.cons rfl (.cons rfl (.cons rfl (.cons rfl .nil))))))) (by repeat (first | exact .refl | refine .keep ?_ | refine .drop ?_))
  have hge_k : 9 ≤ k := by have h := hc21; simp at h; omega
  have hk9 : k = 9 := by omega
  subst hk9
  have hy : y = curF (onF ps) l x := hy
  subst hy
  refine X_exit ?_
  refine at_then_e ?_
  refine at_then_e ?_
  refine at_block_hit ?_
  refine at_then ?_
  refine X_region ?_
  refine zM ?_
  refine zV (ev_loadA rfl agt_26 (fun hg => by (repeat (first | exact Cells.here | exact Cells.s0 (vs := [_, _, _, _, _, _, _, _, _, _, _, _, _, _]) rfl | apply Cells.there | apply Cells.app))) rfl) ?_
  refine XO_buildSlice (ps := [(0, _)]) (m := [encG (curF (onF ps) l x)]) elt_22 rfl (.cons rfl (.nil)) rfl (by simp [encG_len]) (by decide) (by decide) rfl rfl (fun b_37 => ?_)
  refine XO_append (v := _) (ys := [curF (onF ps) l x].flatMap encG) (L := L) rfl rfl elt_22 hO (by repeat (first | exact .cons .here .nil | exact split_all | exact split_app | apply split_cons | apply split_skip)) ⟨rfl, fun _ => rfl, Cells.here⟩ (one_G [curF (onF ps) l x]) (by omega) rfl rfl ?_
  intro v9 L9 hO9 _; rw [← List.flatMap_append] at hO9
  refine zA ?_
  refine XO_nil ?_
  refine at_block_n ?_
  refine at_then ?_
  refine X_region ?_
  refine zV (ev_arB rfl rfl rfl (fun _ => by omega)) ?_
  refine zM ?_
  refine XO_nil ?_
  first
  | exact at_metMP rfl rfl rfl _ _ (L9 ++ ((b_1, _) :: MB _)) ⟨n - (j + 1), by omega, j + 1, v9, _, L9, rfl, rfl, hB0, rfl, by omega, by rw [ex_yes hxx hex]; exact hO9, by omega⟩ (.cons rfl (.cons rfl (.cons rfl (.cons rfl (.cons rfl .nil))))) List.perm_middle.symm (by repeat (first | exact .refl | exact subL_left | refine subL_app ?_ | refine .drop ?_ | refine subL_add ?_))
 have hge_j : n ≤ j := by have h := hc12; simp at h; omega
 obtain ⟨va, vc, rfl⟩ := valn hO
 rw [List.take_of_length_le (by rw [hx.sg.len]; exact hge_j)] at hO
 refine X_exit ?_
 refine at_then_e ?_
 refine at_then_e ?_
 refine at_block_hit ?_
 refine at_then ?_
 refine X_seq ?_
 refine zR ?_
 refine zM ?_
 refine zQ slt_22 ?_
 refine zC ?_
 refine zN ?_
 refine zI ?_ ?_ <;> intro hc42
 ·
  have hbig : exE (onF ps) l xs = 2 := by unfold exE; rw [if_pos]; have h1 := hO.1; rw [flat_len encG_len] at h1; simp at hc42; omega
  refine zR ?_
  refine zA ?_
  refine zA ?_
  refine zN ?_
  refine X_ret ?_
  refine at_then_r ?_
  first
  | exact at_retMs (L := _ :: L) (fun a ha w hw => res2 rfl rfl rfl a ha w) (fun w hw => ⟨_, J1, [], rfl, hIc, hw.drop, by rw [hbig]; exact ResG.empty rfl⟩)
 have hbig : exE (onF ps) l xs = 0 := by unfold exE; rw [if_neg]; have h1 := hO.1; rw [flat_len encG_len] at h1; simp at hc42; omega
 refine X_skip ?_
 refine at_then ?_
 refine zR ?_
 refine zM ?_
 refine zA ?_
 refine zA ?_
 refine zN ?_
 refine X_ret ?_
 first
 | exact at_retMs (L := _ :: L) (fun a ha w hw => res2 rfl rfl rfl a ha w) (fun w hw => by obtain ⟨I9, h91, h92, h93⟩ := OwnS.res hO encG_len (by decide) (hw.subL (.drop .refl)); obtain ⟨_, a9, c9, e9, h94⟩ := h93; cases e9; exact ⟨_, I9, [], rfl, hIc.trans h91, h92, by rw [hbig]; exact ResG.good rfl rfl h94⟩)
end Go.Proofs.YtoicbikdenlioaaGreat
end
section
namespace Go.Proofs.YtoicbikdenlioaaGreat
open Go Go.Kn Go.Proofs
theorem w_Signs {I : HMap} {av : Option Addr} {n c : Nat} {ps : List Pt} (hP : SlP I av n c ps) (hn : n ≤ 100000) {bv : Option Addr} {n2 c2 : Nat} {bs : List Sg} (hB : Sl I 14 encG bv n2 c2 bs) (hn2 : n2 ≤ 100000) {dv : Option Addr} {n3 c3 : Nat} {ws : List Int} (hV : Sl I 1 encI dv n3 c3 ws) (hn3 : n3 ≤ 100000) : RetM Tryz.prog 8 [.slice av n c, .slice bv n2 c2, .slice dv n3 c3] I [] (ResG (sgnE ps bs ws) (sgnF ps bs ws)) := by
 intro g H w hw
 refine enter Tryz.func8 rfl Tryz.ntmps8 rfl hw ?_
 have hIc := HLe.refl I
 refine zR ?_
 refine zA ?_
 refine zA ?_
 refine zN (zR ?_)
 refine zM ?_
 refine zM ?_
 refine zM ?_
 refine XO_callM (cap := []) (vs := [_, _, _]) rfl rfl fun_30 .nil (w_read hP hn hB hn2 hV hn3) rfl rfl ?_
 rintro vv1 I1 L1 hI1 ⟨rfl, m1, m2, m3, a9, n9, c9, rfl, hst⟩
 have hIc := hIc.trans hI1
 refine zM ?_
 refine zE ?_
 refine zE ?_
 refine XO_alloc zt_86 rfl rfl (fun b_8 => ?_)
 refine XO_storeA rfl rfl szt_86 rfl rfl rfl rfl (by repeat (first | exact Upd.here | apply Upd.there | apply upd_app)) ?_
 refine zA ?_
 refine zN ?_
 refine X_seq ?_
 refine zR ?_
 refine zM ?_
 refine zC ?_
 refine zN ?_
 refine zI ?_ ?_ <;> intro hc17
 ·
  have he : patE ps bs ws ≠ 0 := by simpa using hc17
  refine zR ?_
  refine zM ?_
  refine zA ?_
  refine zA ?_
  refine zN ?_
  refine X_ret ?_
  refine at_then_r ?_
  first
  | exact at_ret2 rfl rfl rfl (fun w hw => ⟨_, I1, [], rfl, hIc, hw.drop, by unfold sgnF; rw [sgn_bad he]; exact ResG.empty (resF_bad he)⟩)
 have he : patE ps bs ws = 0 := by simpa using hc17
 obtain ⟨r1, r2, r3, rfl, rfl, rfl, hx⟩ := hst he
 have hn9 : n9 ≤ 5000 := by have h1 := hx.sg.len; have h2 := allG_len bs (verL ps ws); have h3 := hx.fewl; have h4 := (chkG_ok (pat_g he)).1; omega
 refine X_skip ?_
 refine at_then ?_
 refine zR ?_
 refine zV (ev_loadA rfl agt_86 (fun hg => by first | (repeat (first | exact Cells.here | exact Cells.s0 (vs := [_, _, _, _]) rfl | apply Cells.there | apply Cells.app))) rfl) ?_
 refine XO_callM (cap := []) (vs := [_]) rfl rfl fun_31 .nil (w_current hx (by omega) (pat_ok he)) rfl rfl ?_
 rintro vv2 I2 L2 hI2 ⟨rfl, av8, c8, rfl, hR⟩
 have hIc := hIc.trans hI2
 refine zE ?_
 refine zE ?_
 refine zA ?_
 refine zA ?_
 refine zN ?_
 refine X_ret ?_
 first
 | exact at_ret2 rfl rfl rfl (fun w hw => ⟨_, I2, [], rfl, hIc, hw.drop, ResG.good (sgn_ok he).symm (by unfold sgnF; rw [sgn_ok he]; rfl) hR⟩)
end Go.Proofs.YtoicbikdenlioaaGreat
end
section
namespace Go.Proofs.YtoicbikdenlioaaGreat
open Go Go.Kn Go.Proofs
/-- Conflicts in memory. -/
def CsQ (I : HMap) (cs : List Cf) (K : List Ck) : Prop := (∀ z ∈ cs, Sl I 1 encI z.a z.n z.c z.ids) ∧ cs.map Cf.key = K
theorem CsQ.mono {I I' : HMap} {cs : List Cf} {K : List Ck} (h : CsQ I cs K) (hI : HLe I I') : CsQ I' cs K := ⟨fun z hz => (h.1 z hz).mono hI, h.2⟩
theorem CsQ.nil {I : HMap} : CsQ I [] [] := ⟨fun z hz => (by cases hz), rfl⟩
theorem CsQ.snoc {I : HMap} {cs : List Cf} {K : List Ck} (h : CsQ I cs K) {z : Cf} (hz : Sl I 1 encI z.a z.n z.c z.ids) : CsQ I (cs ++ [z]) (K ++ [z.key]) := by
  refine ⟨fun y hy => ?_, by rw [List.map_append, h.2]; rfl⟩
  rcases List.mem_append.1 hy with hy | hy
  · exact h.1 y hy
  · simp at hy; subst hy; exact hz
theorem CsQ.congr {I : HMap} {cs : List Cf} {K K' : List Ck} (h : CsQ I cs K) (e : K = K') : CsQ I cs K' := e ▸ h
/-- The conflict of removes: which sets and removes it names. -/
theorem cf0_made {on : Int → Int → Bool} {l : List Pt} {s : Int} (hL : Lst l) (hok : ∀ p ∈ l, PtOK p) : Lib.compact (sortI (unK on l s 9 ++ rmF l s)) = (l.filter fun p => p.sign == s && (unB on l p || p.kind == 3)).map (·.id) := by
  refine comp_sort_eq (ids_sorted hL _) fun x => ?_
  rw [List.mem_append, mem_unK hok, mem_ids, mem_rmF]
  unfold unF
  rw [mem_ids]
  constructor
  · rintro (⟨p, hp, h, e⟩ | ⟨p, hp, hk, hs, e⟩)
    · refine ⟨p, hp, ?_, e⟩
      rw [Bool.and_eq_true] at h ⊢
      exact ⟨h.1, by rw [h.2]; rfl⟩
    · exact ⟨p, hp, by simp [hk, hs], e⟩
  · rintro ⟨p, hp, h, e⟩
    simp only [Bool.and_eq_true, Bool.or_eq_true, beq_iff_eq] at h
    rcases h.2 with h2 | h2
    · exact .inl ⟨p, hp, by simp [h.1, h2], e⟩
    · exact .inr ⟨p, hp, h2, h.1, e⟩
theorem un_nil {on : Int → Int → Bool} {l : List Pt} {s : Int} (hok : ∀ p ∈ l, PtOK p) : (unF on l s).isEmpty = !decide (((unK on l s 9).length : Int) > 0) := by
  cases hu : unF on l s with
  | nil =>
    have : unK on l s 9 = [] := by
      cases hk : unK on l s 9 with
      | nil => rfl
      | cons x us =>
        have : x ∈ (unF on l s).map (·.id) := (mem_unK hok).1 (by rw [hk]; simp)
        rw [hu] at this; cases this
    rw [this]; rfl
  | cons p us =>
    have : p.id ∈ unK on l s 9 := (mem_unK hok).2 (by rw [hu]; simp)
    have h2 : (unK on l s 9).length ≠ 0 := fun h => by rw [List.length_eq_zero_iff.1 h] at this; cases this
    simp; omega
theorem cf0_yes {on : Int → Int → Bool} {l : List Pt} {s : Int} (hL : Lst l) (hok : ∀ p ∈ l, PtOK p) (h : decide (((unK on l s 9).length : Int) > 0) = true) : cf0 on l s = [(s, 0, Lib.compact (sortI (unK on l s 9 ++ rmF l s)))] := by
  unfold cf0; rw [un_nil hok, h, cf0_made hL hok]; rfl
theorem cf0_no {on : Int → Int → Bool} {l : List Pt} {s : Int} (hok : ∀ p ∈ l, PtOK p) (h : decide (((unK on l s 9).length : Int) > 0) = false) : cf0 on l s = [] := by
  unfold cf0; rw [un_nil hok, h]; rfl
/-- Values seen. -/
structure MvQ (m : List (Sg × Bool)) (pre : List Pt) : Prop where
  nodup : (m.map (·.1)).Nodup
  mem : ∀ x, x ∈ m.map (·.1) ↔ ∃ p ∈ pre, p.nw = x
theorem MvQ.nil : MvQ [] [] := ⟨.nil, fun x => by simp⟩
theorem MvQ.put {m : List (Sg × Bool)} {pre : List Pt} (h : MvQ m pre) (p : Pt) : MvQ (mset m p.nw true) (pre ++ [p]) := by
  refine ⟨mset_nodup _ _ h.nodup, fun x => ?_⟩
  rw [mset_keys]
  split
  · rename_i h2
    rw [h.mem]
    constructor
    · rintro ⟨q, hq, e⟩; exact ⟨q, by simp [hq], e⟩
    · rintro ⟨q, hq, e⟩
      rcases List.mem_append.1 hq with hq | hq
      · exact ⟨q, hq, e⟩
      · simp at hq; subst hq; rw [h.mem] at h2; rw [e] at h2; exact h2
  · rw [List.mem_append, h.mem]
    constructor
    · rintro (⟨q, hq, e⟩ | h3)
      · exact ⟨q, by simp [hq], e⟩
      · simp at h3; exact ⟨p, by simp, h3.symm⟩
    · rintro ⟨q, hq, e⟩
      rcases List.mem_append.1 hq with hq | hq
      · exact .inl ⟨q, hq, e⟩
      · simp at hq; subst hq; exact .inr (by simp [e])
theorem dif_eq {m : List (Sg × Bool)} {xs : List Pt} (h : MvQ m xs) : decide (((m.length : Nat) : Int) > 1) = difB xs := by
  rw [Bool.eq_iff_iff, decide_eq_true_eq]
  cases xs with
  | nil =>
    have : m = [] := by
      cases m with
      | nil => rfl
      | cons q m => have := (h.mem q.1).1 (by simp); simp at this
    subst this; simp [difB]
  | cons p ps =>
    unfold difB
    rw [List.any_eq_true]
    constructor
    · intro hl
      match m, h with
      | a :: b :: m, h =>
        have hnd := h.nodup
        simp only [List.map_cons, List.nodup_cons, List.mem_cons, not_or] at hnd
        obtain ⟨qa, hqa, ea⟩ := (h.mem a.1).1 (by simp)
        obtain ⟨qb, hqb, eb⟩ := (h.mem b.1).1 (by simp)
        have hne : qa.nw ≠ qb.nw := by rw [ea, eb]; exact hnd.1.1
        by_cases hp : qa.nw = p.nw
        · rcases List.mem_cons.1 hqb with rfl | hqb
          · exact absurd hp hne
          · refine ⟨qb, hqb, ?_⟩
            rw [Bool.not_eq_true']
            cases hs : sgEq qb.nw p.nw with
            | false => rfl
            | true => exact absurd (by rw [hp]; exact (sgEq_iff.1 hs).symm) hne
        · rcases List.mem_cons.1 hqa with rfl | hqa
          · exact absurd rfl hp
          · refine ⟨qa, hqa, ?_⟩
            rw [Bool.not_eq_true']
            cases hs : sgEq qa.nw p.nw with
            | false => rfl
            | true => exact absurd (sgEq_iff.1 hs) hp
      | [a], _ => simp at hl
      | [], _ => simp at hl
    · rintro ⟨q, hq, hs⟩
      rw [Bool.not_eq_true'] at hs
      have hne := sgEq_no hs
      have h1 : p.nw ∈ m.map (·.1) := (h.mem _).2 ⟨p, by simp, rfl⟩
      have h2 : q.nw ∈ m.map (·.1) := (h.mem _).2 ⟨q, by simp [hq], rfl⟩
      match m, h1, h2 with
      | a :: b :: m, _, _ => simp; omega
      | [a], h1, h2 =>
        simp at h1 h2
        exact absurd (by rw [h1, h2]) hne
      | [], h1, _ => simp at h1
def cfR (on : Int → Int → Bool) (l : List Pt) (s : Int) (k : Nat) : List Ck := (List.range k).flatMap fun (j : Nat) => cfK on l s ((j : Int) + 1)
theorem cfR_next (on : Int → Int → Bool) (l : List Pt) (s : Int) (k : Nat) : cfR on l s (k + 1) = cfR on l s k ++ cfK on l s ((k : Int) + 1) := by
  unfold cfR
  rw [List.range_succ, List.flatMap_append]; simp
theorem cfK_yes {on : Int → Int → Bool} {l : List Pt} {s f : Int} (h : exB on l s = true) (h2 : difB (latF on l s f) = true) : cfK on l s f = [(s, f, (latF on l s f).map (·.id))] := by unfold cfK; rw [h, h2]; rfl
theorem cfK_no {on : Int → Int → Bool} {l : List Pt} {s f : Int} (h2 : difB (latF on l s f) = false) : cfK on l s f = [] := by unfold cfK; rw [h2, Bool.and_false]; rfl
theorem cfS_end {on : Int → Int → Bool} {l : List Pt} {s : Int} {k : Nat} (hk : k ≤ 9) (h : (decide ((k : Int) + 1 ≤ 9) && exB on l s) = false) : cf0 on l s ++ cfR on l s k = cfS on l s := by
  unfold cfS cfR
  congr 1
  rw [Bool.and_eq_false_iff] at h
  rcases h with h | h
  · simp at h
    rw [show k = 9 by omega]
  · have e : ∀ j, cfK on l s j = [] := fun j => by unfold cfK; rw [h]; rfl
    have e2 : ∀ r : List Nat, (r.flatMap fun (j : Nat) => cfK on l s ((j : Int) + 1)) = [] := fun r => by
      rw [List.flatMap_eq_nil_iff]; exact fun j _ => e _
    rw [e2, e2]
theorem perm_two {x y : Nat × Obj} {L M : Go.Kn.Loc} : (x :: y :: (L ++ M)).Perm (L ++ (x :: y :: M)) := List.perm_append_comm_assoc [x, y] L M
theorem pre_next {xs : List Sg} {j : Nat} {x : Sg} (hx : xs[j]? = some x) (f : Sg → List Ck) : (xs.take (j + 1)).flatMap f = (xs.take j).flatMap f ++ f x := by
  rw [take_snoc hx, List.flatMap_append]; simp
theorem lat_bound {on : Int → Int → Bool} {l pre : List Pt} {s f : Int} {p : Pt} {e q : Nat} {v : Value} {L : Go.Kn.Loc} (h : pre ++ [p] <+: latF on l s f) (hO : OwnS e 1 v q ((pre.map (·.id)).flatMap encI) L) (hl : l.length ≤ 512) : q ≤ 512 := by
  have h1 := hO.1
  rw [lenI, List.length_map] at h1
  have h2 := h.length_le
  rw [List.length_append] at h2
  have h3 : (latF on l s f).length ≤ (stF l s f).length := List.length_filter_le ..
  have h4 := stF_len (l := l) (s := s) (f := f)
  omega
theorem un_len {on : Int → Int → Bool} {l : List Pt} {s : Int} (hl : l.length ≤ 512) : (unK on l s 9).length ≤ 5000 := by
  have h1 := unK_len (on := on) (l := l) (s := s) 9
  have h2 : 9 * l.length ≤ 9 * 512 := Nat.mul_le_mul_left 9 hl
  omega
/-- Conflicts and an error. -/
def ResC (e : Int) (K : List Ck) : Value → HMap → Go.Kn.Loc → Prop := fun v I' L => L = [] ∧ ∃ cs av c, v = .tuple #[.slice av cs.length c, .int .i64 e] ∧ SlC I' av cs.length c cs ∧ cs.map Cf.key = K
theorem ResC.empty {e : Int} {K : List Ck} {I : HMap} (h : K = []) : ResC e K (.tuple #[.slice none 0 0, .int .i64 e]) I [] := by
  subst h
  exact ⟨rfl, [], none, 0, rfl, ⟨.nil, fun z hz => by cases hz⟩, rfl⟩
end Go.Proofs.YtoicbikdenlioaaGreat
end
section
namespace Go.Proofs.YtoicbikdenlioaaGreat
open Go Go.Kn Go.Proofs
theorem key_26 : KeyOK (α := Sg) Tryz.prog 26 encGA := key_flat2 (enc := encG) eqt2_26 (fun _ => rfl) (fun a b => (show eqKs _ (encG a) (encG b) = some (sgEq a b) from rfl).trans (congrArg some (by rw [Bool.eq_iff_iff, decide_eq_true_eq]; exact sgEq_iff))) (fun a => by simp [encG, Instr.sameBits])
theorem w_Conflicts {I : HMap} {av : Option Addr} {n c : Nat} {ps : List Pt} (hP : SlP I av n c ps) (hn : n ≤ 100000) {bv : Option Addr} {n2 c2 : Nat} {bs : List Sg} (hB : Sl I 14 encG bv n2 c2 bs) (hn2 : n2 ≤ 100000) {dv : Option Addr} {n3 c3 : Nat} {ws : List Int} (hV : Sl I 1 encI dv n3 c3 ws) (hn3 : n3 ≤ 100000) : RetM Tryz.prog 13 [.slice av n c, .slice bv n2 c2, .slice dv n3 c3] I [] (ResC (sgnE ps bs ws) (cflF ps bs ws)) := by
 intro g H w hw
 refine enterMs Tryz.func13 rfl Tryz.ntmps13 rfl hw ?_
 have hIc := HLe.refl I
 refine zR ?_
 refine zA ?_
 refine zA ?_
 refine zN (zR ?_)
 refine zM ?_
 refine zM ?_
 refine zM ?_
 refine XO_callM (cap := []) (vs := [_, _, _]) rfl rfl fun_30 .nil (w_read hP hn hB hn2 hV hn3) rfl rfl ?_
 rintro vv1 I1 L1 hI1 ⟨rfl, m1, m2, m3, a9, n9, c9, rfl, hst⟩
 have hIc := hIc.trans hI1
 refine zM ?_
 refine zE ?_
 refine zE ?_
 refine XO_alloc zt_86 rfl rfl (fun b_8 => ?_)
 refine XO_storeA rfl rfl szt_86 rfl rfl rfl rfl (by repeat (first | exact Upd.here | apply Upd.there | apply upd_app)) ?_
 refine zA ?_
 refine zN ?_
 refine X_seq ?_
 refine zR ?_
 refine zM ?_
 refine zC ?_
 refine zN ?_
 refine zI ?_ ?_ <;> intro hc24
 ·
  have he : patE ps bs ws ≠ 0 := by simpa using hc24
  refine zR ?_
  refine zM ?_
  refine zA ?_
  refine zA ?_
  refine zN ?_
  refine X_ret ?_
  refine at_then_r ?_
  first
  | exact at_retMs (L := [_]) (fun a ha w hw => res2 rfl rfl rfl a ha w) (fun w hw => ⟨_, I1, [], rfl, hIc, hw.drop, by unfold cflF; rw [sgn_bad he]; exact ResC.empty (resF_bad he)⟩)
 have he : patE ps bs ws = 0 := by simpa using hc24
 obtain ⟨r1, r2, r3, rfl, rfl, rfl, hx⟩ := hst he
 have hn9 : n9 ≤ 5000 := by have h1 := hx.sg.len; have h2 := allG_len bs (verL ps ws); have h3 := hx.fewl; have h4 := (chkG_ok (pat_g he)).1; omega
 have hok := pat_ok he
 have hL := verL_lst (chkR_lst (pat_chk he)) (pat_v he)
 refine X_skip ?_
 refine at_then ?_
 refine X_seq ?_
 refine zR ?_
 refine zV (ev_loadA rfl agt_86 (fun hg => by (repeat (first | exact Cells.here | exact Cells.s0 (vs := [_, _, _, _]) rfl | apply Cells.there | apply Cells.app))) rfl) ?_
 refine XO_callM (cap := []) (vs := [_]) rfl rfl fun_31 .nil (w_current hx (by omega) (pat_ok he)) rfl rfl ?_
 rintro vv2 I2 L2 hI2 ⟨rfl, av8, c8, rfl, hR⟩
 have hx := hx.mono hI2; have hIc := hIc.trans hI2
 refine zM ?_
 refine zE ?_
 refine zE ?_
 refine zA ?_
 refine zN (zR ?_)
 refine zM ?_
 refine zC ?_
 refine zN ?_
 refine zI ?_ ?_ <;> intro hc32
 ·
  have hx2 : exE (onF ps) (verL ps ws) (allG bs (verL ps ws)) ≠ 0 := by simpa using hc32
  refine zR ?_
  refine zM ?_
  refine zA ?_
  refine zA ?_
  refine zN ?_
  refine X_ret ?_
  refine at_then_r ?_
  first
  | exact at_retMs (L := [_]) (fun a ha w hw => res2 rfl rfl rfl a ha w) (fun w hw => ⟨_, I2, [], rfl, hIc, hw.drop, by unfold cflF; rw [sgn_ok he]; exact ResC.empty (resF_bad hx2)⟩)
 have hx2 : exE (onF ps) (verL ps ws) (allG bs (verL ps ws)) = 0 := by simpa using hc32
 refine X_skip ?_
 refine at_then ?_
 refine X_seq ?_
 refine X_seq ?_
 refine X_dropTo ((b_8, .cells #[.map (some r1), .map (some r2), .map (some r3), .slice a9 n9 c9] 86 (0, 0)) :: ([] ++ MB _)) .refl ?_
 refine X_region ?_
 refine zF fld_86_3 ?_
 refine zL sct_22 ?_
 refine zQ slt_22 ?_
 refine zM ?_
 refine zN ?_
 refine X_block ?_
 refine X_loopM [(8, _), (35, _), (36, _)] (.cons rfl (.cons rfl (.cons rfl .nil))) (fun T L0 mz ms E I' loc' => ∃ (j : Nat) (v : Value) (q : Nat) (cs : List Cf) (L : Go.Kn.Loc), mz = n9 - j ∧ E = (6, v) :: (37, .int .i64 j) :: T ∧ HLe I2 I' ∧ (b_8, .cells #[.map (some r1), .map (some r2), .map (some r3), .slice a9 n9 c9] 86 (0, 0)) :: (L ++ MB ms) = loc' ∧ j ≤ n9 ∧ OwnS 95 3 v q (cs.flatMap encC) L ∧ q ≤ j * 10 ∧ CsQ I' cs (((allG bs (verL ps ws)).take j).flatMap (fun x => cfS (onF ps) (verL ps ws) x.id))) _ _ _ _ ⟨0, _, 0, [], [], rfl, rfl, HLe.refl _, rfl, Nat.zero_le _, OwnS.nil, Nat.zero_le _, CsQ.nil⟩ (.cons rfl (.cons rfl (.cons rfl (.cons rfl (.cons rfl .nil))))) (HLe.refl _) rfl ?_
 rintro mz ms E J3 loc' ⟨j, v, q, cs, L, rfl, rfl, hJ, rfl, hj, hO, hq, hcs⟩
 have hx := hx.mono hJ; have hIc := hIc.trans hJ
 have hB0 := hJ
 refine zR ?_
 refine zC ?_
 refine zN ?_
 refine X_seq ?_
 refine zI ?_ ?_ <;> intro hc38
 ·
  have hlt_j : j < n9 := by have h := hc38; simp at h; omega
  have hS := hx.sg
  obtain ⟨x, hxx⟩ := hS.at hlt_j
  refine X_skip ?_
  refine at_then ?_
  refine X_seq ?_
  refine X_block ?_
  refine zR ?_
  refine zV (ev_indexSl rfl rfl slt_22 (by assumption) (fun hg => by omega)) ?_
  refine zV (ev_loadA rfl agt_26 (fun hg => by exact Sl.getA hS hxx) rfl) ?_
  refine XO_alloc zt_26 rfl rfl (fun b_10 => ?_)
  refine XO_storeA rfl rfl szt_26 rfl rfl rfl rfl (by repeat (first | exact Upd.here | apply Upd.there | apply upd_app)) ?_
  refine zN ?_
  refine X_cutM [(8, _), (10, _), (35, _), (36, _), (37, _)] (.cons rfl (.cons rfl (.cons rfl (.cons rfl (.cons rfl .nil))))) (fun T L0 ms E I' loc' => ∃ (v : Value) (q : Nat) (cs : List Cf) (L : Go.Kn.Loc), E = (6, v) :: T ∧ HLe J3 I' ∧ (b_10, .cells (encG x).toArray 26 (0, 0)) :: (b_8, .cells #[.map (some r1), .map (some r2), .map (some r3), .slice a9 n9 c9] 86 (0, 0)) :: (L ++ MB ms) = loc' ∧ OwnS 95 3 v q (cs.flatMap encC) L ∧ q ≤ j * 10 + 1 ∧ CsQ I' cs (((allG bs (verL ps ws)).take j).flatMap (fun x => cfS (onF ps) (verL ps ws) x.id) ++ cf0 (onF ps) (verL ps ws) x.id)) ?_ ?_
  ·
   have hKc10 := HLe.refl J3
   refine zR ?_
   refine zV (ev_loadA rfl agt_86 (fun hg => by (repeat (first | exact Cells.here | exact Cells.s0 (vs := [_, _, _, _]) rfl | apply Cells.there | apply Cells.app))) rfl) ?_
   refine zF fld_26_0 ?_
   refine zL sct_3 ?_
   refine XO_callM (cap := []) (vs := [_, _]) rfl rfl fun_34 .nil (w_unseen hx x.id) rfl rfl ?_
   rintro vv4 I4 L4 hI4 ⟨rfl, avk, ck, rfl, hk0⟩
   have hx := hx.mono hI4; have hcs := hcs.mono hI4; have hIc := hIc.trans hI4; have hB0 := hB0.trans hI4; have hKc10 := hKc10.trans hI4
   refine zA ?_
   refine zN (zR ?_)
   refine zM ?_
   refine zQ slt_38 ?_
   refine zC ?_
   refine zN ?_
   refine zI ?_ ?_ <;> intro hc47
   ·
    obtain ⟨mr, hmr, hrem⟩ := hx.rem
    obtain ⟨av3, c3, hv3, hS3⟩ := hrem x.id
    have hkl := un_len (on := onF ps) (s := x.id) hx.fewl
    have hrl := Nat.le_trans (rm_len (l := (verL ps ws)) (s := x.id)) hx.fewl
    have hD := HLe.refl I4
    refine X_noP ?_
    refine X_drawS I4 [(b_10, .cells (encG x).toArray 26 (0, 0)), (b_8, .cells #[.map (some r1), .map (some r2), .map (some r3), .slice a9 n9 c9] 86 (0, 0))] mixed ?_
    refine zT 0 rfl (ev_move rfl) hD ?_
    refine zT 1 rfl (ev_fieldAddr rfl fld_26_0) hD ?_
    refine zT 2 rfl (ev_load rfl sct_3 (fun hg => by repeat (first | exact Cell.here rfl | apply Cell.there | apply Cell.app))) hD ?_
    refine zT 3 rfl (ev_move rfl) hD ?_
    refine zT 4 rfl (ev_fieldAddr rfl fld_86_2) hD ?_
    refine zT 5 rfl (ev_load rfl sct_83 (fun hg => by repeat (first | exact Cell.here rfl | apply Cell.there | apply Cell.app))) hD ?_
    refine zT 6 rfl (ev_fieldAddr rfl fld_26_0) hD ?_
    refine zT 7 rfl (ev_load rfl sct_3 (fun hg => by repeat (first | exact Cell.here rfl | apply Cell.there | apply Cell.app))) hD ?_
    refine zT 8 rfl (ev_lookupTE (m := mr) (ek := Value.int .i64) (a := x.id) hv3 mpt_83 key_3 rfl rfl (fun _ => .inl hmr)) hD ?_
    refine XD_one 9 rfl (by kernel_rfl) ?_
    refine XO_callM (cap := []) (vs := [_, _]) rfl rfl fun_33 .nil (w_union hk0 (by omega) hS3 (by omega)) rfl rfl ?_
    rintro vv5 I5 L5 hI5 ⟨rfl, avu, cu, rfl, hU⟩
    have hx := hx.mono hI5; have hcs := hcs.mono hI5; have hk0 := hk0.mono hI5; have hIc := hIc.trans hI5; have hB0 := hB0.trans hI5; have hKc10 := hKc10.trans hI5; have hD := hD.trans hI5
    refine XO_nil ?_
    refine zD hD ?_
    refine zT 10 rfl (ev_buildL (ps := [(0, _), (2, _)]) [_, _, _] plt_95 rfl rfl) hD ?_
    refine XD_one 11 rfl (by kernel_rfl) ?_
    refine XO_buildSlice (ps := [(0, _)]) (m := [encC (⟨x.id, 0, avu, (Lib.compact (sortI (unK (onF ps) (verL ps ws) x.id 9 ++ rmF (verL ps ws) x.id))).length, cu, (Lib.compact (sortI (unK (onF ps) (verL ps ws) x.id 9 ++ rmF (verL ps ws) x.id)))⟩ : Cf)]) elt_47 rfl (.cons rfl (.nil)) rfl (by simp [encC_len]) (by decide) (by decide) rfl rfl (fun b_59 => ?_)
    refine XO_nil ?_
    refine zD hD ?_
    refine XD_one 12 rfl (by kernel_rfl) ?_
    refine XO_append (v := _) (ys := [(⟨x.id, 0, avu, (Lib.compact (sortI (unK (onF ps) (verL ps ws) x.id 9 ++ rmF (verL ps ws) x.id))).length, cu, (Lib.compact (sortI (unK (onF ps) (verL ps ws) x.id 9 ++ rmF (verL ps ws) x.id)))⟩ : Cf)].flatMap encC) (L := L) rfl rfl elt_47 hO (by repeat (first | exact .cons .here .nil | exact split_all | exact split_app | apply split_cons | apply split_skip)) ⟨rfl, fun _ => rfl, Cells.here⟩ (one_C [(⟨x.id, 0, avu, (Lib.compact (sortI (unK (onF ps) (verL ps ws) x.id 9 ++ rmF (verL ps ws) x.id))).length, cu, (Lib.compact (sortI (unK (onF ps) (verL ps ws) x.id 9 ++ rmF (verL ps ws) x.id)))⟩ : Cf)]) (by omega) rfl rfl ?_
    intro v9 L9 hO9 _; rw [← List.flatMap_append] at hO9
    refine XO_nil ?_
    refine zD hD ?_
    refine zT 13 rfl (ev_assign rfl) hD ?_
    refine XD_done (by kernel_rfl) ?_
    refine at_noP ?_
    first
    | exact at_metMP rfl rfl rfl _ _ (L9 ++ ((b_10, _) :: (b_8, _) :: MB _)) ⟨v9, _, _, L9, rfl, hKc10, rfl, hO9, by omega, (hcs.snoc (z := (⟨x.id, 0, avu, (Lib.compact (sortI (unK (onF ps) (verL ps ws) x.id 9 ++ rmF (verL ps ws) x.id))).length, cu, (Lib.compact (sortI (unK (onF ps) (verL ps ws) x.id 9 ++ rmF (verL ps ws) x.id)))⟩ : Cf)) hU).congr (by rw [cf0_yes hL hok hc47]; rfl)⟩ (.cons rfl (.cons rfl (.cons rfl (.cons rfl (.cons rfl (.cons rfl .nil)))))) perm_two (by repeat (first | exact .refl | exact subL_left | refine subL_app ?_ | refine .drop ?_ | refine subL_add ?_))
   refine X_skip ?_
   exact at_metM rfl rfl rfl _ _ ⟨_, _, _, _, rfl, hKc10, rfl, hO, by omega, hcs.congr (by rw [cf0_no hok hc47, List.append_nil])⟩ (.cons rfl (.cons rfl (.cons rfl (.cons rfl (.cons rfl (.cons rfl .nil)))))) (by repeat (first | exact .refl | exact subL_left | refine subL_app ?_ | refine .drop ?_ | refine subL_add ?_))
  rintro ms E J6 loc' ⟨v, q, cs, L, rfl, hJc, rfl, hO, hq, hcs1⟩
  have hx := hx.mono hJc; have hcs := hcs.mono hJc; have hIc := hIc.trans hJc; have hB0 := hB0.trans hJc
  refine zR ?_
  refine zA ?_
  refine zN ?_
  refine X_block ?_
  refine X_loopM [(8, _), (10, _), (35, _), (36, _), (37, _)] (.cons rfl (.cons rfl (.cons rfl (.cons rfl (.cons rfl .nil))))) (fun T L0 mz ms E I' loc' => ∃ (k : Nat) (v : Value) (q : Nat) (cs : List Cf) (L : Go.Kn.Loc), mz = 9 - k ∧ E = (6, v) :: (12, .int .i64 ((k : Int) + 1)) :: T ∧ HLe J6 I' ∧ (b_10, .cells (encG x).toArray 26 (0, 0)) :: (b_8, .cells #[.map (some r1), .map (some r2), .map (some r3), .slice a9 n9 c9] 86 (0, 0)) :: (L ++ MB ms) = loc' ∧ k ≤ 9 ∧ OwnS 95 3 v q (cs.flatMap encC) L ∧ q ≤ j * 10 + 1 + k ∧ CsQ I' cs ((((allG bs (verL ps ws)).take j).flatMap (fun x => cfS (onF ps) (verL ps ws) x.id) ++ cf0 (onF ps) (verL ps ws) x.id) ++ cfR (onF ps) (verL ps ws) x.id k)) _ _ _ _ ⟨0, v, q, cs, L, rfl, rfl, HLe.refl _, rfl, Nat.zero_le _, hO, hq, hcs1.congr (by rw [show cfR (onF ps) (verL ps ws) x.id 0 = [] from rfl, List.append_nil])⟩ (.cons rfl (.cons rfl (.cons rfl (.cons rfl (.cons rfl (.cons rfl (.cons rfl .nil))))))) (HLe.refl _) rfl ?_
  rintro mz ms E J7 loc' ⟨k, v, q, cs, L, rfl, rfl, hJ, rfl, hk, hO, hq, hcs2⟩
  have hx := hx.mono hJ; have hcs := hcs.mono hJ; have hcs1 := hcs1.mono hJ; have hIc := hIc.trans hJ; have hB0 := hB0.trans hJ
  have hB2 := hJ
  refine X_seq ?_
  refine zR ?_
  refine zM ?_
  refine zC ?_
  refine zM ?_
  refine XO_pushT 2 rfl rfl rfl ?_
  refine zK (ev_loadA rfl agt_86 (fun hg => by (repeat (first | exact Cells.here | exact Cells.s0 (vs := [_, _, _, _]) rfl | apply Cells.there | apply Cells.app))) rfl) ?_
  refine zK (ev_fieldAddr rfl fld_26_0) ?_
  refine zK (ev_load rfl sct_3 (fun hg => by repeat (first | exact Cell.here rfl | apply Cell.there | apply Cell.app))) ?_
  refine XO_callV1 (cap := []) (vs := [_, _]) rfl rfl fun_35 (fun hg => w_exists hx hok _) (.some rfl rfl rfl rfl gbt) rfl rfl ?_
  refine XO_and0 rfl rfl rfl rfl rfl ?_
  refine zN ?_
  refine zI ?_ ?_ <;> intro hc68
  ·
   have hex := ((Bool.and_eq_true _ _).mp hc68).2
   have hlt_k : k < 9 := by have h := ((Bool.and_eq_true _ _).mp hc68).1; simp at h; omega
   refine X_skip ?_
   refine at_then ?_
   refine X_seq ?_
   refine X_block ?_
   refine zR ?_
   refine XO_makeMap rfl rfl (fun r_71 => ?_)
   refine XO_alloc zt_96 rfl rfl (fun b_13 => ?_)
   refine XO_alloc zt_38 rfl rfl (fun b_14 => ?_)
   refine zS szt_96 ?_
   refine zS szt_38 ?_
   refine zN ?_
   refine X_seq ?_
   refine zR ?_
   refine zV (ev_loadA rfl agt_86 (fun hg => by (repeat (first | exact Cells.here | exact Cells.s0 (vs := [_, _, _, _]) rfl | apply Cells.there | apply Cells.app))) rfl) ?_
   refine zF fld_26_0 ?_
   refine zL sct_3 ?_
   refine zM ?_
   refine XO_callM (cap := []) (vs := [_, _, _]) rfl rfl fun_36 .nil (w_latest _ _ _ _ _ _ _ _ _) rfl rfl ?_
   rintro vv8 I8 L8 hI8 ⟨rfl, c1, c2, c3, rfl, hcap⟩
   have hx := hx.mono hI8; have hcs := hcs.mono hI8; have hcs1 := hcs1.mono hI8; have hcs2 := hcs2.mono hI8; have hIc := hIc.trans hI8; have hB0 := hB0.trans hI8; have hB2 := hB2.trans hI8
   refine zN ?_
   refine X_block ?_
   refine X_rangeFuncM (K := []) (L := [] ++ ((b_14, .cells #[.slice none 0 0] 38 (0, 0)) :: (b_13, .cells #[.map (some r_71)] 96 (0, 0)) :: (r_71, mapO encGA Value.bool []) :: (b_10, .cells (encG x).toArray 26 (0, 0)) :: (b_8, .cells #[.map (some r1), .map (some r2), .map (some r3), .slice a9 n9 c9] 86 (0, 0)) :: L)) (enc := encPA) (xs := (latF (onF ps) (verL ps ws) x.id ((k : Int) + 1))) (fun pre I' loc' => ∃ (m9 : List (Sg × Bool)) (v9 : Value) (q9 : Nat) (L9 : Go.Kn.Loc), MvQ m9 pre ∧ OwnS 3 1 v9 q9 ((pre.map (·.id)).flatMap encI) L9 ∧ loc' = L9 ++ ((b_14, .cells #[v9] 38 (0, 0)) :: (b_13, .cells #[.map (some r_71)] 96 (0, 0)) :: (r_71, mapO encGA Value.bool m9) :: (b_10, .cells (encG x).toArray 26 (0, 0)) :: (b_8, .cells #[.map (some r1), .map (some r2), .map (some r3), .slice a9 n9 c9] 86 (0, 0)) :: L)) (fun _ _ _ _ => False) (fun pre p E2 I2 loc2 => ∃ (b15 : Nat) (m9 : List (Sg × Bool)) (v9 : Value) (q9 : Nat) (L9 : Go.Kn.Loc), E2 = [(13, capP b_13), (14, capP b_14), (15, capP b15)] ∧ MvQ m9 pre ∧ OwnS 3 1 v9 q9 ((pre.map (·.id)).flatMap encI) L9 ∧ loc2 = (b15, .cells (encP p).toArray 44 (0, 0)) :: (L9 ++ ((b_14, .cells #[v9] 38 (0, 0)) :: (b_13, .cells #[.map (some r_71)] 96 (0, 0)) :: (r_71, mapO encGA Value.bool m9) :: (b_10, .cells (encG x).toArray 26 (0, 0)) :: (b_8, .cells #[.map (some r1), .map (some r2), .map (some r3), .slice a9 n9 c9] 86 (0, 0)) :: L))) rfl fun_88 (w_latit hx hcap) rfl ⟨[], _, 0, [], MvQ.nil, OwnS.nil, rfl⟩ ?_ ?_ ?_ ?_
   ·
    rintro l9 pre p I1 loc1 H1 hpre hI1 ⟨m9, v9, q9, L9, hmv, hO9, rfl⟩
    refine X_region ?_
    refine XO_alloc zt_44 rfl rfl (fun b_15 => ?_)
    refine XO_storeA rfl rfl szt_44 rfl rfl rfl rfl (by repeat (first | exact Upd.here | apply Upd.there | apply upd_app)) ?_
    refine XO_nil ?_
    exact at_met' _ ⟨HLe.refl _, b_15, m9, v9, q9, L9, rfl, hmv, hO9, rfl⟩ (.cons rfl (.cons rfl (.cons rfl .nil)))
   ·
    rintro l9 pre p E2 I2 loc2 H2 hpre hI2 ⟨b15, m9, v9, q9, L9, rfl, hmv, hO9, rfl⟩
    have hql := lat_bound hpre hO9 hx.fewl
    refine X_block ?_
    have hD := HLe.refl I2
    refine X_noP ?_
    refine X_drawS I2 [(b15, .cells (encP p).toArray 44 (0, 0)), (b_13, .cells #[.map (some r_71)] 96 (0, 0))] mixed ?_
    refine zT 0 rfl (ev_load rfl sct_96 (fun hg => by repeat (first | exact Cell.here rfl | apply Cell.there | apply Cell.app))) hD ?_
    refine zT 1 rfl (ev_fieldAddr rfl fld_44_4) hD ?_
    refine zT 2 rfl (ev_loadA rfl agt_26 (fun hg => by (repeat (first | exact Cells.here | exact Cells.s0 (vs := [_, _, _, _, _, _, _, _, _, _, _, _, _, _]) rfl | apply Cells.there | apply Cells.app))) rfl) hD ?_
    refine zT 4 rfl (ev_fieldAddr rfl fld_44_0) hD ?_
    refine zT 5 rfl (ev_load rfl sct_3 (fun hg => by repeat (first | exact Cell.here rfl | apply Cell.there | apply Cell.app))) hD ?_
    refine XD_two 3 6 rfl rfl (by kernel_rfl) ?_ ?_
    ·
     refine zL sct_38 ?_
     refine XO_nil ?_
     refine zD hD ?_
     refine XD_one 6 rfl (by kernel_rfl) ?_
     refine XO_buildSlice (ps := [(0, _)]) (m := [encI p.id]) elt_38 rfl (.cons rfl (.nil)) rfl (by simp [encI_len]) (by decide) (by decide) rfl rfl (fun b_84 => ?_)
     refine XO_nil ?_
     refine zD hD ?_
     refine XD_one 7 rfl (by kernel_rfl) ?_
     refine XO_append (v := _) (ys := [p.id].flatMap encI) (L := L9) rfl rfl elt_38 hO9 (by repeat (first | exact .cons .here .nil | exact split_all | exact split_app | apply split_cons | apply split_skip)) ⟨rfl, fun _ => rfl, Cells.here⟩ (one_I [p.id]) (by omega) rfl rfl ?_
     intro v8 L8 hO8 _; obtain ⟨va8, vc8, rfl⟩ := valn hO8
     refine XO_nil ?_
     refine zD hD ?_
     refine XD_one 8 rfl (by kernel_rfl) ?_
     refine XO_mapUpdate (m := m9) (ek := encGA) (ev := Value.bool) (a := p.nw)  true mpt_96 key_26 rfl rfl rfl rfl (by repeat (first | exact Upd.here | apply Upd.there | apply upd_app)) ?_
     refine XO_nil ?_
     refine zD hD ?_
     refine XD_one 9 rfl (by kernel_rfl) ?_
     refine zS szt_38 ?_
     refine XO_nil ?_
     refine zD hD ?_
     refine XD_done (by kernel_rfl) ?_
     refine at_noP ?_
     refine at_block_n ?_
     exact at_round2 ⟨HLe.refl _, mset m9 p.nw true, _, _, L8, hmv.put p, by rw [List.map_append, List.flatMap_append]; exact hO8, rfl⟩ (by repeat (first | exact .refl | refine subL_app ?_ | refine .drop ?_))
    refine XO_buildSlice (ps := [(0, _)]) (m := [encI p.id]) elt_38 rfl (.cons rfl (.nil)) rfl (by simp [encI_len]) (by decide) (by decide) rfl rfl (fun b_84 => ?_)
    refine XO_nil ?_
    refine zD hD ?_
    refine XD_one 3 rfl (by kernel_rfl) ?_
    refine zL sct_38 ?_
    refine XO_nil ?_
    refine zD hD ?_
    refine XD_one 7 rfl (by kernel_rfl) ?_
    refine XO_append (v := _) (ys := [p.id].flatMap encI) (L := L9) rfl rfl elt_38 hO9 (by repeat (first | exact .cons .here .nil | exact split_all | exact split_app | apply split_cons | apply split_skip)) ⟨rfl, fun _ => rfl, Cells.here⟩ (one_I [p.id]) (by omega) rfl rfl ?_
    intro v8 L8 hO8 _; obtain ⟨va8, vc8, rfl⟩ := valn hO8
    refine XO_nil ?_
    refine zD hD ?_
    refine XD_one 8 rfl (by kernel_rfl) ?_
    refine XO_mapUpdate (m := m9) (ek := encGA) (ev := Value.bool) (a := p.nw)  true mpt_96 key_26 rfl rfl rfl rfl (by repeat (first | exact Upd.here | apply Upd.there | apply upd_app)) ?_
    refine XO_nil ?_
    refine zD hD ?_
    refine XD_one 9 rfl (by kernel_rfl) ?_
    refine zS szt_38 ?_
    refine XO_nil ?_
    refine zD hD ?_
    refine XD_done (by kernel_rfl) ?_
    refine at_noP ?_
    refine at_block_n ?_
    exact at_round2 ⟨HLe.refl _, mset m9 p.nw true, _, _, L8, hmv.put p, by rw [List.map_append, List.flatMap_append]; exact hO8, rfl⟩ (by repeat (first | exact .refl | refine subL_app ?_ | refine .drop ?_))
   ·
    rintro bd I1 loc1 hI1 ⟨m9, v9, q9, L9, hmv, hO9, rfl⟩
    have hx := hx.mono hI1; have hcs := hcs.mono hI1; have hcs1 := hcs1.mono hI1; have hcs2 := hcs2.mono hI1; have hIc := hIc.trans hI1; have hB0 := hB0.trans hI1; have hB2 := hB2.trans hI1
    simp only [List.append_assoc, List.cons_append]
    refine at_block_n ?_
    refine at_then ?_
    refine zR ?_
    refine zL sct_96 ?_
    refine zV (ev_lenM (m := m9) (ek := encGA) (ev := Value.bool) rfl mpt_96 (fun _ => .inr (by simp))) ?_
    refine zC ?_
    refine zN ?_
    refine zI ?_ ?_ <;> intro hc88
    ·
     have hdf : difB (latF (onF ps) (verL ps ws) x.id ((k : Int) + 1)) = true := by rw [← dif_eq hmv]; exact hc88
     refine X_freezeO hO9 encI_len (by decide) (by repeat (first | exact .cons .here .nil | exact split_all | exact split_app | apply split_cons | apply split_skip)) (fun I9 hI9 afi cfi efi hIds => ?_)
     subst efi
     have hx := hx.mono hI9; have hcs := hcs.mono hI9; have hcs1 := hcs1.mono hI9; have hcs2 := hcs2.mono hI9; have hIc := hIc.trans hI9; have hB0 := hB0.trans hI9; have hB2 := hB2.trans hI9
     refine X_region ?_
     refine zM ?_
     refine zF fld_26_0 ?_
     refine zL sct_3 ?_
     refine zM ?_
     refine zL sct_38 ?_
     refine zV (ev_buildL (ps := [(0, _), (1, _), (2, _)]) [_, _, _] plt_95 rfl rfl) ?_
     refine XO_buildSlice (ps := [(0, _)]) (m := [encC (⟨x.id, (k : Int) + 1, afi, q9, cfi, (latF (onF ps) (verL ps ws) x.id ((k : Int) + 1)).map (·.id)⟩ : Cf)]) elt_47 rfl (.cons rfl (.nil)) rfl (by simp [encC_len]) (by decide) (by decide) rfl rfl (fun b_95 => ?_)
     refine XO_append (v := _) (ys := [(⟨x.id, (k : Int) + 1, afi, q9, cfi, (latF (onF ps) (verL ps ws) x.id ((k : Int) + 1)).map (·.id)⟩ : Cf)].flatMap encC) (L := L) rfl rfl elt_47 hO (by repeat (first | exact .cons .here .nil | exact split_all | exact split_app | apply split_cons | apply split_skip)) ⟨rfl, fun _ => rfl, Cells.here⟩ (one_C [(⟨x.id, (k : Int) + 1, afi, q9, cfi, (latF (onF ps) (verL ps ws) x.id ((k : Int) + 1)).map (·.id)⟩ : Cf)]) (by omega) rfl rfl ?_
     intro v7 L7 hO7 _; rw [← List.flatMap_append] at hO7
     refine zA ?_
     refine XO_nil ?_
     refine at_block_n ?_
     refine at_then ?_
     refine X_region ?_
     refine zM ?_
     refine zV (ev_arB rfl rfl rfl (fun _ => by omega)) ?_
     refine zA ?_
     refine XO_nil ?_
     first
     | exact at_metMP rfl rfl rfl _ _ (L7 ++ ((b_10, _) :: (b_8, _) :: MB _)) ⟨9 - (k + 1), by omega, k + 1, v7, _, _, L7, rfl, rfl, hB2, rfl, by omega, hO7, by omega, (hcs2.snoc (z := (⟨x.id, (k : Int) + 1, afi, q9, cfi, (latF (onF ps) (verL ps ws) x.id ((k : Int) + 1)).map (·.id)⟩ : Cf)) hIds).congr (by rw [cfR_next, cfK_yes hex hdf]; simp only [List.append_assoc]; rfl)⟩ (.cons rfl (.cons rfl (.cons rfl (.cons rfl (.cons rfl (.cons rfl (.cons rfl .nil))))))) perm_two (by repeat (first | exact .refl | exact subL_left | refine subL_app ?_ | refine .drop ?_ | refine subL_add ?_))
    have hdf : difB (latF (onF ps) (verL ps ws) x.id ((k : Int) + 1)) = false := by rw [← dif_eq hmv]; exact hc88
    refine X_skip ?_
    refine at_block_n ?_
    refine at_then ?_
    refine X_region ?_
    refine zM ?_
    refine zV (ev_arB rfl rfl rfl (fun _ => by omega)) ?_
    refine zA ?_
    refine XO_nil ?_
    first
    | exact at_metM rfl rfl rfl _ _ ⟨9 - (k + 1), by omega, k + 1, _, _, _, _, rfl, rfl, hB2, rfl, by omega, hO, by omega, hcs2.congr (by rw [cfR_next, cfK_no hdf]; simp)⟩ (.cons rfl (.cons rfl (.cons rfl (.cons rfl (.cons rfl (.cons rfl (.cons rfl .nil))))))) (by repeat (first | exact .refl | exact subL_left | refine subL_app ?_ | refine .drop ?_ | refine subL_add ?_))
   rintro cd bd pre I1 loc1 hI1 hpre hF; exact hF.elim
  have hend := hc68
  refine X_exit ?_
  refine at_then_e ?_
  refine at_then_e ?_
  refine at_block_hit ?_
  refine at_block_n ?_
  refine at_then ?_
  refine X_region ?_
  refine zV (ev_arB rfl rfl rfl (fun _ => by omega)) ?_
  refine zM ?_
  refine XO_nil ?_
  exact at_metM rfl rfl rfl _ _ ⟨n9 - (j + 1), by omega, j + 1, _, _, _, _, rfl, rfl, hB0, rfl, by omega, hO, by omega, hcs2.congr (by rw [pre_next hxx, ← cfS_end hk hend]; simp only [List.append_assoc])⟩ (.cons rfl (.cons rfl (.cons rfl (.cons rfl (.cons rfl .nil))))) (by repeat (first | exact .refl | exact subL_left | refine subL_app ?_ | refine .drop ?_ | refine subL_add ?_))
 have hge_j : n9 ≤ j := by have h := hc38; simp at h; omega
 rw [List.take_of_length_le (by rw [hx.sg.len]; exact hge_j)] at hcs
 refine X_exit ?_
 refine at_then_e ?_
 refine at_then_e ?_
 refine at_block_hit ?_
 refine at_then ?_
 refine zR ?_
 refine zM ?_
 refine zA ?_
 refine zA ?_
 refine zN ?_
 refine X_ret ?_
 first
 | exact at_retMs (L := _ :: L) (fun a ha w hw => res2 rfl rfl rfl a ha w) (fun w hw => by obtain ⟨I9, h91, h92, h93⟩ := OwnS.res hO encC_len (by decide) (hw.subL (.drop .refl)); obtain ⟨_, a9, c9, e9, h94⟩ := h93; subst e9; exact ⟨_, I9, [], rfl, hIc.trans h91, h92, rfl, cs, a9, c9, by rw [sgn_ok he, hx2], ⟨h94, fun z hz => (hcs.1 z hz).mono h91⟩, by unfold cflF; rw [sgn_ok he, resF_ok hx2]; exact hcs.2⟩)
end Go.Proofs.YtoicbikdenlioaaGreat
end
section
namespace Go.Proofs.YtoicbikdenlioaaGreat
open Go Go.Kn Go.Proofs
theorem w_sameG {I : HMap} {av : Option Addr} {n c : Nat} {xs : List Sg} (hS : Sl I 14 encG av n c xs) (hn : n ≤ 100000) {bv : Option Addr} {n2 c2 : Nat} {ys : List Sg} (hT : Sl I 14 encG bv n2 c2 ys) : RetV Tryz.prog 11 [.slice av n c, .slice bv n2 c2] I (.bool (sameF xs ys)) := by
 intro g H w hw
 refine enter Tryz.func11 rfl Tryz.ntmps11 rfl hw ?_
 refine zR ?_
 refine zA ?_
 refine zN ?_
 refine X_seq ?_
 refine zR ?_
 refine zM ?_
 refine zQ slt_22 ?_
 refine zM ?_
 refine zQ slt_22 ?_
 refine zC ?_
 refine zN ?_
 refine zI ?_ ?_ <;> intro hc10
 ·
  refine zR ?_
  refine zA ?_
  refine zN ?_
  refine X_ret ?_
  refine at_then_r ?_
  first
  | exact at_ret1 rfl rfl (fun w hw => ⟨by rw [same_len hS.len hT.len (by simp at hc10; omega)], hw.drop⟩)
 have hnn : n = n2 := by simp at hc10; omega
 refine X_skip ?_
 refine at_then ?_
 refine X_seq ?_
 refine zR ?_
 refine zA ?_
 refine zN ?_
 refine X_block ?_
 refine X_loopT [(0, _), (1, _)] (.cons rfl (.cons rfl .nil)) (fun T L0 mz E I' loc' => ∃ (k : Nat), mz = n - k ∧ E = (5, .int .i64 k) :: T ∧ I = I' ∧ L0 = loc' ∧ k ≤ n ∧ xs.take k = ys.take k) _ _ _ _ ⟨0, rfl, rfl, rfl, rfl, Nat.zero_le _, rfl⟩ (.cons rfl (.cons rfl (.cons rfl .nil))) (HLe.refl _) rfl ?_
 rintro mz E I' loc' ⟨k, rfl, rfl, rfl, rfl, hk, he⟩
 refine X_seq ?_
 refine zR ?_
 refine zM ?_
 refine zM ?_
 refine zQ slt_22 ?_
 refine zC ?_
 refine zN ?_
 refine zI ?_ ?_ <;> intro hc14
 ·
  have hlt_k : k < n := by have h := hc14; simp at h; omega
  obtain ⟨x, hx⟩ := hS.at hlt_k
  obtain ⟨y, hy⟩ := hT.at (show k < n2 by omega)
  refine X_skip ?_
  refine at_then ?_
  refine X_seq ?_
  refine X_block ?_
  refine X_seq ?_
  refine X_draw mixed (by kernel_rfl) ?_
  refine XQ_v0 (ev_move rfl) rfl rfl rfl ?_
  refine XQ_v0 (ev_move rfl) rfl rfl rfl ?_
  refine XQ_v0 (ev_indexSl rfl rfl slt_22 (by assumption) (fun hg => by omega)) rfl rfl rfl ?_
  refine XQ_v0 (ev_loadA rfl agt_26 (fun hg => by exact Sl.getA hS hx) rfl) rfl rfl rfl ?_
  refine XQ_v0 (ev_move rfl) rfl rfl rfl ?_
  refine XQ_v0 (ev_move rfl) rfl rfl rfl ?_
  refine XQ_v0 (ev_indexSl rfl rfl slt_22 (by assumption) (fun hg => by omega)) rfl rfl rfl ?_
  refine XQ_v0 (ev_loadA rfl agt_26 (fun hg => by exact Sl.getA hT hy) rfl) rfl rfl rfl ?_
  refine XQ_v0 (ev_neS2 rfl rfl eqt2_26 rfl) rfl rfl rfl ?_
  refine XQ_nil ?_
  refine at_then ?_
  refine zI ?_ ?_ <;> intro hc25
  ·
   refine zR ?_
   refine zA ?_
   refine zN ?_
   refine X_ret ?_
   refine at_block_r ?_
   refine at_then_r ?_
   refine at_then_r ?_
   refine at_block_r ?_
   refine at_then_r ?_
   exact at_ret1 rfl rfl (fun w hw => ⟨by rw [same_ne hx hy (sgEq_no ((Bool.not_eq_true' _).mp hc25))], hw.drop⟩)
  refine X_skip ?_
  refine at_block_n ?_
  refine at_then ?_
  refine X_region ?_
  refine zM ?_
  refine zV (ev_arB rfl rfl rfl (fun _ => by omega)) ?_
  refine zA ?_
  refine XO_nil ?_
  exact at_met2 _ _ ⟨n - (k + 1), by omega, k + 1, rfl, rfl, rfl, rfl, by omega, take_next hx hy he (sgEq_iff.1 ((Bool.not_eq_false' _).mp hc25))⟩ (.cons rfl (.cons rfl (.cons rfl .nil))) (by repeat (first | exact .refl | exact subL_left | refine subL_app ?_ | refine .drop ?_ | refine subL_add ?_))
 have hge_k : n ≤ k := by have h := hc14; simp at h; omega
 refine X_exit ?_
 refine at_then_e ?_
 refine at_then_e ?_
 refine at_block_hit ?_
 refine at_then ?_
 refine zR ?_
 refine zA ?_
 refine zN ?_
 refine X_ret ?_
 first
 | exact at_ret1 rfl rfl (fun w hw => ⟨by rw [take_all hS.len (by omega), take_all hT.len (by omega)] at he; rw [he, same_self], hw.drop⟩)
end Go.Proofs.YtoicbikdenlioaaGreat
end
section
namespace Go.Kn
open Go
section
variable {C : Cx} {E : Env} {I : HMap} {loc : Loc} {S : GS} {dst : Option Tmp} {ty : TypeId} {pos : String} {af : Array Edge} {gd : Option (Nat × Bool)} {x y z : Operand}
theorem ev_sliceM {t e size n c : Nat} {av : Option Addr} {k k' : IntKind} {i : Int} (hx : evalS S E x = some (.slice av n c)) (hy : evalS S E y = some (.int k i)) (hz : evalS S E z = some (.int k' i)) (hT : SlT C.P t e size) (hb : conj S = true → 0 ≤ i ∧ i ≤ (c : Int)) :
    EvalOp C S E I loc ⟨dst, .slice t x none (some y) (some z), ty, pos, af, gd⟩ (.slice av i.toNat i.toNat) :=
  .of (by intro c e; cases e) fun a w ha hg hc _ => by
    obtain ⟨h1, j, h2, h3⟩ := hT
    have hav : (if i.toNat = 0 then av else av.map (·.add (0 * j.size))) = av := by
      split
      · rfl
      · cases av <;> simp [Addr.add]
    have hi : 0 ≤ i ∧ i ≤ ((i.toNat : Nat) : Int) := by have := hb hc; omega
    simp only [execOp, Option.map_none, Option.map_some, evalS_sound ha hg hc hx, evalS_sound ha hg hc hy, evalS_sound ha hg hc hz, Instr.sliceAt, Instr.slice, Instr.sliceBounds, Instr.sliceBound, asIntOf, Sem.run_bind, Sem.run_pure, run_underlying h1, Result.andThen, if_pos (hb hc), if_pos hi, run_sizeOf h2, hav, Nat.sub_zero]
end
end Go.Kn
namespace Go.Kn
open Go
section
variable {g : World} {I I' H : HMap} {loc loc' L R : Loc} {w w' : World}
/-- 'append' onto a slice that is only read and has no room. -/
theorem run_append_cut {P : Program} (t ty e : TypeId) (i : TypeInfo) (z : Value) {size bytes : Nat} (ht : P.underlying t = some (.slice e)) (hi : P.info? e = some i) (hz : i.zero = some z)
    (hsize : i.size = size) (hby : i.bytes = bytes) (hzs : z.cells.size = size)
    {bv : Option Addr} {n : Nat} {xs : List Value} {av : Option Addr} {m c : Nat} {ys : List Value} (hX : Src I loc bv n size xs) (hw : St g I H loc w) (hS : Src I loc av m size ys)
    (hB : (n + m) * (bytes + 1) ≤ 70368744177664) :
    ∃ v' w' L', (Builtin.append_ #[t, t] ty #[.slice bv n n, .slice av m c]).run P w = .ok v' w' ∧ St g I H (L' ++ loc) w' ∧ ((m = 0 ∧ v' = .slice bv n n ∧ L' = []) ∨ OwnS e size v' (n + m) (xs ++ ys) L') := by
  subst hsize
  subst hby
  have hnm : n + m ≤ 70368744177664 := by
    have : (n + m) * 1 ≤ (n + m) * (i.bytes + 1) := Nat.mul_le_mul_left _ (by omega)
    omega
  have hbytes : (n + m) * i.bytes ≤ 140737488355328 := by
    have : (n + m) * i.bytes ≤ (n + m) * (i.bytes + 1) := Nat.mul_le_mul_left _ (by omega)
    omega
  have hmL : n + m ≤ maxLen := by simp only [maxLen]; omega
  have hlen : (xs ++ ys).length = (n + m) * i.size := by rw [List.length_append, hX.len, hS.len, Nat.add_mul]
  by_cases hm : m = 0
  · subst hm
    refine ⟨.slice bv n n, w, [], ?_, hw, .inl ⟨rfl, rfl, rfl⟩⟩
    cases av <;> cases bv <;> simp [Builtin.append_, run_underlying ht, sizeOf, typeInfo, hi, Builtin.lenOf, Builtin.firstCells, loadCells, loadCellsFrom, storeCells]
  · have hav := hS.base hm
    have hnews : ∀ j u, ys[j]? = some u → w.cell? ((⟨Ab av, Ao av, none⟩ : Addr).add j) = some u := fun j u hj => by rw [add_plain]; exact (hS.cells j u hj).get hw
    rw [hav]
    have grown : ∀ (old : Nat), old < n + m → ∃ L', OwnS e i.size (.slice (some ⟨w.heap.size, 0, none⟩) (n + m) (grownCap w (n + m) old e)) (n + m) (xs ++ ys) L' ∧
        St g I H (L' ++ loc) (w.drew.alloc (.cells (xs.toArray ++ ys.toArray ++ Builtin.zeroCells z.cells (grownCap w (n + m) old e - (n + m))) e)) := by
      intro old ho
      have hge := grownCap_ge w (n + m) old e
      have hcm : grownCap w (n + m) old e ≤ maxLen := grownCap_le_maxLen w (n + m) old e hmL
      refine ⟨_, ⟨hlen, .inr ⟨w.heap.size, _, xs.toArray ++ ys.toArray ++ Builtin.zeroCells z.cells (grownCap w (n + m) old e - (n + m)), rfl, rfl, hge, hcm, ?_, ?_⟩⟩, ?_⟩
      · simp only [Array.size_append, List.size_toArray, size_zeroCells', hzs, hX.len, hS.len, ← Nat.add_mul]
        congr 1
        omega
      · simp only [Array.toList_append, List.append_assoc]
        rw [← List.append_assoc, ← hlen]
        exact List.take_left
      · exact hw.drew'.alloc _
    obtain ⟨L', h1', h2'⟩ := grown n (by omega)
    cases bv with
    | none =>
      have hn0 : n = 0 := Decidable.byContradiction fun h => by have := hX.base h; cases this
      subst hn0
      have hx : xs = [] := List.eq_nil_of_length_eq_zero (by simpa using hX.len)
      subst hx
      have hr := run_append_nil (P := P) w t ty e i z ht hi hz ⟨Ab av, Ao av, none⟩ m c ys hS.len hnews (by omega) (by omega) (by simp only [Nat.zero_add] at hbytes; omega)
      simp only [Nat.zero_add, List.nil_append, Array.empty_append] at h1' h2' ⊢
      exact ⟨_, _, L', hr, h2', .inr h1'⟩
    | some q =>
      have holds : ∀ j u, xs[j]? = some u → w.cell? (q.add j) = some u := fun j u hj => by
        by_cases hn0 : n = 0
        · subst hn0
          have hx : xs = [] := List.eq_nil_of_length_eq_zero (by simpa using hX.len)
          subst hx; simp at hj
        · have hq := hX.base hn0
          have hq2 : q = ⟨Ab (some q), Ao (some q), none⟩ := Option.some.inj hq
          rw [hq2, add_plain]
          exact (hX.cells j u hj).get hw
      have hr := run_append_grow (P := P) w t ty e i z ht hi hz q n n xs hX.len holds ⟨Ab av, Ao av, none⟩ m c ys hS.len hnews (by omega) (by omega) (growslice_fits (by omega) hbytes)
      exact ⟨_, _, L', hr, h2', .inr h1'⟩
end
end Go.Kn
namespace Go.Kn
open Go
section
variable {C : Cx} {Q : Exit → Act → World → Prop} {E : Env} {I : HMap} {loc : Loc} {ops : Array Oper} {rest : List Oper} {d : Nat} {ty : TypeId} {pos : String} {af : Array Edge} {gd : Option (Nat × Bool)} {x y : Operand}
/-- 'append' onto a slice that is only read and has no room; what comes is read from now on. -/
theorem XO_appendCut {α : Type} {enc : α → List Value} {t e size bytes n m c : Nat} {av bv : Option Addr} {xs ys : List α} (hs : ∀ x, (enc x).length = size) (hsz : 0 < size) (hx : evalS [] E x = some (.slice bv n n)) (hy : evalS [] E y = some (.slice av m c)) (hT : ElT C.P t e size bytes)
    (hX : Sl I size enc bv n n xs) (hS : Sl I size enc av m c ys) (hB : (n + m) * (bytes + 1) ≤ 70368744177664) (hG : gd = none) (hN : Nat.blt d C.N = true)
    (h : ∀ I' a' c', HLe I I' → Sl I' size enc a' (n + m) c' (xs ++ ys) → XO C Q ops rest [] ((d, .slice a' (n + m) c') :: E) I' loc) :
    XO C Q ops (⟨some d, .call ⟨.builtin .append, #[x, y], #[t, t]⟩, ty, pos, af, gd⟩ :: rest) [] E I loc :=
  XO_world hG (by intro c e; cases e) fun a w ha hw => by
    obtain ⟨ht, i, zz, hi, hz, hs', hb, hzs⟩ := hT
    obtain ⟨v', w', L', hr, hw', hm⟩ := run_append_cut (P := C.P) t ty e i zz ht hi hz hs' hb hzs (c := c) (hX.src hs) hw (hS.src hs) hB
    simp only [execOp, resolve, List.map_toArray, List.map_cons, List.map_nil, evalS_sound (S := []) ha trivial rfl hx, evalS_sound (S := []) ha trivial rfl hy, Sem.run_bind, Sem.run_pure, Result.andThen, invoke, builtin, hr, Oper.uponIn_value]
    rcases hm with ⟨hm0, rfl, rfl⟩ | hO
    · subst hm0
      have hy0 : ys = [] := List.eq_nil_of_length_eq_zero hS.len
      subst hy0
      exact h I bv n (HLe.refl I) (by rw [List.append_nil]; exact hX) _ _ (ha.put hN _) trivial hw'
    · rw [← List.flatMap_append] at hO
      obtain ⟨I', a', c', h1, h2, rfl, h4⟩ := OwnS.freeze (R := loc) hO hs hsz hw'
      exact h I' a' c' h1 h4 _ _ (ha.put hN _) trivial h2
end
end Go.Kn
namespace Go.Kn
open Go
section
variable {C : Cx} {Q : Exit → Act → World → Prop} {E : Env} {I : HMap} {loc : Loc} {ops : Array Oper} {rest : List Oper} {d : Nat} {ty : TypeId} {pos : String} {af : Array Edge} {gd : Option (Nat × Bool)} {x y : Operand}
/-- 'append' of something onto a slice that is only read and has no room; what comes is one's own. -/
theorem XO_appendCutO {α : Type} {enc : α → List Value} {t e size bytes n m c : Nat} {av bv : Option Addr} {xs : List α} {ys : List Value} (hs : ∀ x, (enc x).length = size) (hx : evalS [] E x = some (.slice bv n n)) (hy : evalS [] E y = some (.slice av m c)) (hT : ElT C.P t e size bytes)
    (hX : Sl I size enc bv n n xs) (hS : Src I loc av m size ys) (hm : 0 < m) (hB : (n + m) * (bytes + 1) ≤ 70368744177664) (hG : gd = none) (hN : Nat.blt d C.N = true)
    (h : ∀ v' L', OwnS e size v' (n + m) (xs.flatMap enc ++ ys) L' → XO C Q ops rest [] ((d, v') :: E) I (L' ++ loc)) :
    XO C Q ops (⟨some d, .call ⟨.builtin .append, #[x, y], #[t, t]⟩, ty, pos, af, gd⟩ :: rest) [] E I loc :=
  XO_world hG (by intro c e; cases e) fun a w ha hw => by
    obtain ⟨ht, i, zz, hi, hz, hs', hb, hzs⟩ := hT
    obtain ⟨v', w', L', hr, hw', hm'⟩ := run_append_cut (P := C.P) t ty e i zz ht hi hz hs' hb hzs (c := c) (hX.src hs) hw hS hB
    simp only [execOp, resolve, List.map_toArray, List.map_cons, List.map_nil, evalS_sound (S := []) ha trivial rfl hx, evalS_sound (S := []) ha trivial rfl hy, Sem.run_bind, Sem.run_pure, Result.andThen, invoke, builtin, hr, Oper.uponIn_value]
    rcases hm' with ⟨hm0, _, _⟩ | hO
    · omega
    · exact h v' L' hO _ _ (ha.put hN _) trivial hw'
end
section
variable {C : Cx} {S : GS} {E : Env} {I : HMap} {loc : Loc} {dst : Option Tmp} {ty : TypeId} {pos : String} {af : Array Edge} {gd : Option (Nat × Bool)} {x y : Operand}
theorem ev_indexOwn {t e size b n c : Nat} {k : IntKind} {i : Int} (hx : evalS S E x = some (.slice (some ⟨b, 0, none⟩) n c)) (hy : evalS S E y = some (.int k i)) (hT : SlT C.P t e size) (hb : conj S = true → 0 ≤ i ∧ i < (n : Int)) :
    EvalOp C S E I loc ⟨dst, .indexAddr t x y, ty, pos, af, gd⟩ (.pointer (some ⟨b, i.toNat * size, none⟩)) := by
  have h := ev_indexAddr (I := I) (loc := loc) (dst := dst) (ty := ty) (pos := pos) (af := af) (gd := gd) hx hy hT hb
  rwa [Nat.zero_add] at h
end
theorem Sl.cut {α : Type} {I : HMap} {size : Nat} {enc : α → List Value} {av : Option Addr} {n c : Nat} {xs : List α} (h : Sl I size enc av n c xs) : Sl I size enc av n n xs := ⟨h.len, Nat.le_refl _, h.base, h.cells⟩
/-- An element of an own slice: where it lies, and what a store leaves. -/
theorem OwnS.spot {α : Type} {e size n k : Nat} {enc : α → List Value} {v : Value} {xs : List α} {x : α} {L : Loc} (hO : OwnS e size v n (xs.flatMap enc) L) (hs : ∀ x, (enc x).length = size) (hsz : 0 < size) (hx : xs[k]? = some x) :
    k < n ∧ ∃ b c cur, v = .slice (some ⟨b, 0, none⟩) n c ∧ L = [(b, .cells (cur : List Value).toArray e (0, 0))] ∧ (cur.drop (k * size)).take size = enc x ∧ k * size + size ≤ cur.length ∧
      ∀ y, OwnS e size v n ((xs.set k y).flatMap enc) [(b, .cells (spliceL cur (k * size) (enc y)).toArray e (0, 0))] := by
  obtain ⟨hk, hxk⟩ := List.getElem?_eq_some_iff.1 hx
  have hl := hO.1
  rw [flat_len hs] at hl
  have hln : xs.length = n := Nat.eq_of_mul_eq_mul_right hsz hl
  rcases hO.2 with ⟨_, h2, _⟩ | ⟨b, c, cur, h1, h2, h3, h4, h5, h6⟩
  · omega
  obtain ⟨cl⟩ := cur
  simp only [List.size_toArray] at h5 h6
  have hspl : xs = xs.take k ++ x :: xs.drop (k + 1) := by
    rw [← hxk, ← List.drop_eq_getElem_cons hk, List.take_append_drop]
  have hb1 : (k + 1) * size ≤ n * size := Nat.mul_le_mul_right _ (by omega)
  have hb2 : n * size ≤ c * size := Nat.mul_le_mul_right _ h3
  rw [Nat.add_mul, Nat.one_mul] at hb1
  have htk : ((xs.take k).flatMap enc).length = k * size := by rw [flat_len hs, List.length_take]; congr 1; omega
  have hcl : cl.take (n * size) = (xs.take k).flatMap enc ++ (enc x ++ (xs.drop (k + 1)).flatMap enc) := by
    rw [h6]; conv => lhs; rw [hspl]
    rw [List.flatMap_append, List.flatMap_cons]
  have hdec : cl = (xs.take k).flatMap enc ++ (enc x ++ ((xs.drop (k + 1)).flatMap enc ++ cl.drop (n * size))) := by
    conv => lhs; rw [← List.take_append_drop (n * size) cl]
    rw [hcl]; simp only [List.append_assoc]
  have hdrop : cl.drop (k * size) = enc x ++ ((xs.drop (k + 1)).flatMap enc ++ cl.drop (n * size)) := by
    conv => lhs; rw [hdec]
    rw [← htk]; exact List.drop_left
  refine ⟨by omega, b, c, cl, h1, h2, ?_, by omega, fun y => ⟨?_, .inr ⟨b, c, _, h1, rfl, h3, h4, ?_, ?_⟩⟩⟩
  · rw [hdrop, ← hs x]; exact List.take_left
  · rw [flat_len hs, List.length_set]; omega
  · have hsl := splice_eq (A := cl) (off := k * size) (n := size) (vs := enc y) (by omega) (hs y)
    rw [List.size_toArray, hsl]
    simp only [List.length_append, List.length_take, List.length_drop, hs]
    omega
  · have hsl := splice_eq (A := cl) (off := k * size) (n := size) (vs := enc y) (by omega) (hs y)
    have e1 : cl.take (k * size) = (xs.take k).flatMap enc := by
      conv => lhs; rw [hdec]
      rw [← htk]; exact List.take_left
    have e2 : cl.drop (k * size + size) = (xs.drop (k + 1)).flatMap enc ++ cl.drop (n * size) := by
      have hd : ∀ l : List Value, List.drop size (enc x ++ l) = l := fun l => by rw [← hs x]; exact List.drop_left
      rw [← List.drop_drop, hdrop, hd]
    rw [hsl, e1, e2]
    have e3 : (xs.set k y).flatMap enc = (xs.take k).flatMap enc ++ (enc y ++ (xs.drop (k + 1)).flatMap enc) := by
      rw [List.set_eq_take_append_cons_drop, if_pos (by omega), List.flatMap_append, List.flatMap_cons]
    have e4 : ((xs.set k y).flatMap enc).length = n * size := by rw [flat_len hs, List.length_set]; omega
    show List.take (n * size) ((xs.take k).flatMap enc ++ (enc y ++ ((xs.drop (k + 1)).flatMap enc ++ cl.drop (n * size)))) = _
    rw [← List.append_assoc (enc y), ← List.append_assoc, ← e3, ← e4]
    exact List.take_left
theorem at_freezeO {C : Cx} {Q : Exit → Act → World → Prop} {E : Env} {I : HMap} {loc L R : Loc} {α : Type} {e size n : Nat} {enc : α → List Value} {v : Value} {xs : List α} {ex : Exit} (hO : OwnS e size v n (xs.flatMap enc) L) (hs : ∀ x, (enc x).length = size) (hsz : 0 < size) (hsp : Split loc L R)
    (h : ∀ I', HLe I I' → ∀ av c0, v = .slice av n c0 → Sl I' size enc av n c0 xs → At C Q ex E I' R) : At C Q ex E I loc := fun a w ha hw =>
  let ⟨I', av, c0, h1, h2, h3, h4⟩ := OwnS.freeze (R := R) hO hs hsz (hw.unsplit hsp)
  h I' h1 av c0 h3 h4 a w ha h2
end Go.Kn
end
section
namespace Go.Proofs.YtoicbikdenlioaaGreat
open Go Go.Kn Go.Proofs
theorem low_split {xs : List Sg} (t : Int) : xs.take (lowK Sg.id xs t) = xs.takeWhile (fun x => decide (x.id < t)) ∧ xs.drop (lowK Sg.id xs t) = xs.dropWhile (fun x => decide (x.id < t)) := by
  have h := List.takeWhile_append_dropWhile (p := fun x : Sg => decide (x.id < t)) (l := xs)
  have e : lowK Sg.id xs t = (xs.takeWhile fun x => decide (x.id < t)).length := rfl
  have h1 := List.take_left (l₁ := xs.takeWhile fun x : Sg => decide (x.id < t)) (l₂ := xs.dropWhile fun x : Sg => decide (x.id < t))
  have h2 := List.drop_left (l₁ := xs.takeWhile fun x : Sg => decide (x.id < t)) (l₂ := xs.dropWhile fun x : Sg => decide (x.id < t))
  rw [h] at h1 h2
  rw [e]
  exact ⟨h1, h2⟩
theorem put_low {xs : List Sg} {k : Sg} : putF xs k = (xs.take (lowK Sg.id xs k.id) ++ [k]) ++ xs.drop (lowK Sg.id xs k.id) := by
  rw [(low_split k.id).1, (low_split k.id).2]
  unfold putF
  simp
theorem low_hit {xs : List Sg} {t : Int} (hs : Srt xs) (h : hasS xs t = true) : ∃ x, xs[lowK Sg.id xs t]? = some x ∧ x.id = t := by
  unfold hasS at h
  rw [List.any_eq_true] at h
  obtain ⟨x, hx, e⟩ := h
  have e : x.id = t := by simpa using e
  obtain ⟨j, hj⟩ := List.getElem?_of_mem hx
  obtain ⟨hj1, hj2⟩ := List.getElem?_eq_some_iff.1 hj
  have hl : lowK Sg.id xs t = j := by
    refine low_at (key := Sg.id) (by omega) (fun q z hq hz => ?_) (fun q z hq hz hlt => ?_)
    · obtain ⟨hq1, hq2⟩ := List.getElem?_eq_some_iff.1 hz
      have := List.pairwise_iff_getElem.1 hs q j hq1 hj1 hq
      rw [hq2, hj2] at this; omega
    · obtain ⟨hq1, hq2⟩ := List.getElem?_eq_some_iff.1 hz
      by_cases e2 : j = q
      · subst e2; rw [hj] at hz; cases hz; omega
      · have := List.pairwise_iff_getElem.1 hs j q hj1 hq1 (by omega)
        rw [hq2, hj2] at this; omega
  exact ⟨x, by rw [hl]; exact hj, e⟩
theorem srt_parts {xs : List Sg} {i : Nat} {x : Sg} (hs : Srt xs) (hx : xs[i]? = some x) : xs = xs.take i ++ x :: xs.drop (i + 1) ∧ (∀ y ∈ xs.take i, y.id ≠ x.id) ∧ ∀ y ∈ xs.drop (i + 1), y.id ≠ x.id := by
  have hsp : xs = xs.take i ++ x :: xs.drop (i + 1) := by rw [← drop_cons hx, List.take_append_drop]
  have h := hs
  unfold Srt at h
  rw [hsp, List.pairwise_append, List.pairwise_cons] at h
  refine ⟨hsp, fun y hy => ?_, fun y hy => ?_⟩
  · have := h.2.2 y hy x (List.mem_cons_self ..); omega
  · have := h.2.1.1 y hy; omega
theorem rem_low {xs : List Sg} {i : Nat} {x : Sg} (hs : Srt xs) (hx : xs[i]? = some x) : xs.filter (fun y => y.id != x.id) = xs.take i ++ xs.drop (i + 1) := by
  obtain ⟨hsp, h1, h2⟩ := srt_parts hs hx
  have e : (xs.take i ++ x :: xs.drop (i + 1)).filter (fun y => y.id != x.id) = xs.take i ++ xs.drop (i + 1) := by
    rw [List.filter_append, List.filter_cons, if_neg (by simp), List.filter_eq_self.2 (fun y hy => by simpa using h1 y hy), List.filter_eq_self.2 (fun y hy => by simpa using h2 y hy)]
  rwa [← hsp] at e
theorem set_low {xs : List Sg} {i : Nat} {x : Sg} (g : Sg → Sg) (hs : Srt xs) (hx : xs[i]? = some x) : (xs.map fun y => if y.id = x.id then g y else y) = xs.take i ++ g x :: xs.drop (i + 1) := by
  obtain ⟨hsp, h1, h2⟩ := srt_parts hs hx
  have k1 : ∀ l : List Sg, (∀ y ∈ l, y.id ≠ x.id) → (l.map fun y => if y.id = x.id then g y else y) = l := fun l hl => by
    conv => rhs; rw [← List.map_id l]
    exact List.map_congr_left fun y hy => by rw [if_neg (hl y hy)]; rfl
  have e : ((xs.take i ++ x :: xs.drop (i + 1)).map fun y => if y.id = x.id then g y else y) = xs.take i ++ g x :: xs.drop (i + 1) := by
    rw [List.map_append, List.map_cons, if_pos rfl, k1 _ h1, k1 _ h2]
  rwa [← hsp] at e
theorem low_le {xs : List Sg} {t : Int} : lowK Sg.id xs t ≤ xs.length := (List.takeWhile_sublist _).length_le
def apB (xs : List Sg) (p : Pt) : Bool := (p.kind == 1 && !hasS xs p.sign) || (p.kind == 2 && hasS xs p.sign)
theorem ap_none {xs : List Sg} {p : Pt} (h : (p.kind == 3 && !hasS xs p.sign) = true) : apE xs p = 0 ∧ resF 0 (apG xs p) = xs := by
  simp only [Bool.and_eq_true, beq_iff_eq, Bool.not_eq_true'] at h
  refine ⟨by unfold apE; simp [h.1], ?_⟩
  rw [resF_ok rfl]
  unfold apG
  rw [if_neg (by omega), if_pos h.1, List.filter_eq_self]
  intro x hx
  have h2 := h.2
  unfold hasS at h2
  rw [List.any_eq_false] at h2
  simpa using h2 x hx
/-- What a list keeps that patches are applied to. -/
def RnQ (xs : List Sg) : Prop := Srt xs ∧ ∀ x ∈ xs, 0 ≤ x.id ∧ x.id ≤ 1048576
theorem frm_id {x : Sg} (h : frm x = true) : 0 ≤ x.id ∧ x.id ≤ 1048576 := by
  unfold frm frmL within at h
  simp only [Bool.and_eq_true, decide_eq_true_eq] at h
  omega
theorem chk_rn {xs : List Sg} (h : chkG xs = 0) : RnQ xs := by
  have h2 := (chkG_ok h).2
  refine ⟨skB_srt h2, fun x hx => ?_⟩
  obtain ⟨k, hk, rfl⟩ := List.mem_iff_getElem.1 hx
  unfold skB at h2
  rw [List.all_eq_true] at h2
  have h3 := h2 k (List.mem_range.2 hk)
  unfold skP at h3
  rw [getD_of (List.getElem?_eq_getElem hk)] at h3
  simp only [Bool.not_eq_true', Bool.or_eq_false_iff, Bool.not_eq_false'] at h3
  exact frm_id h3.1
theorem ap_rn {xs : List Sg} {p : Pt} (h : RnQ xs) (hp : PtOK p) (he : apE xs p = 0) : RnQ (apG xs p) := by
  have h2 : p.kind = 2 → lookG xs p.nw.id = none := fun hk => by
    cases hl : lookG xs p.nw.id with
    | none => rfl
    | some x =>
      exfalso
      have hs : hasS xs p.sign = true := by rw [hasS_look, ← (hp.ins hk).1, hl]; rfl
      unfold apE at he
      rw [if_pos (by rw [hs]; simp [hk])] at he
      cases he
  refine ⟨ap_srt h.1 h2, fun x hx => ?_⟩
  unfold apG at hx
  split at hx
  · rename_i hk
    rcases List.mem_cons.1 ((put_perm xs p.nw).mem_iff.1 hx) with rfl | hx
    · exact frm_id (hp.ins hk).2
    · exact h.2 x hx
  · split at hx
    · exact h.2 x (List.mem_filter.1 hx).1
    · obtain ⟨y, hy, rfl⟩ := List.mem_map.1 hx
      split
      · rw [set_id]; exact h.2 y hy
      · exact h.2 y hy
theorem run_go {xs : List Sg} {p : Pt} {l : List Pt} (h : pchk p = 0) (he : apE xs p = 0) : runR xs (p :: l) = runR (apG xs p) l := by unfold runR; rw [if_neg (by rw [h]; decide), if_neg (by rw [he]; decide)]; cases l <;> rfl
theorem run_b1 {xs : List Sg} {p : Pt} {l : List Pt} (h : pchk p ≠ 0) : runR xs (p :: l) = (pchk p, []) := by unfold runR; rw [if_pos h]
theorem run_b2 {xs : List Sg} {p : Pt} {l : List Pt} (h : pchk p = 0) (he : apE xs p ≠ 0) : runR xs (p :: l) = (apE xs p, []) := by unfold runR; rw [if_neg (by rw [h]; decide), if_pos he]
theorem runA_1 {xs : List Sg} {l : List Pt} (h : chkG xs ≠ 0) : runA xs l = (chkG xs, []) := by unfold runA; rw [if_pos h]
theorem runA_2 {xs : List Sg} {l : List Pt} (h : chkG xs = 0) (h2 : l.length > 512) : runA xs l = (2, []) := by unfold runA; rw [if_neg (by rw [h]; decide), if_pos h2]
theorem runA_3 {xs : List Sg} {l : List Pt} (h : chkG xs = 0) (h2 : ¬ l.length > 512) : runA xs l = runR xs l := by unfold runA; rw [if_neg (by rw [h]; decide), if_neg h2]
theorem ap_370 {xs : List Sg} {p : Pt} (h : apB xs p = true) : apE xs p = 370 := by unfold apB at h; unfold apE; rw [if_pos h]
theorem ap_2 {xs : List Sg} {p : Pt} (h : apB xs p = false) (h2 : p.kind = 2) (h3 : xs.length ≥ 4096) : apE xs p = 2 := by
  unfold apE; rw [if_neg (by unfold apB at h; rw [h]; decide), if_pos (by simp [h2, h3])]
theorem ap_0 {xs : List Sg} {p : Pt} (h : apB xs p = false) (h2 : p.kind = 2 → xs.length < 4096) : apE xs p = 0 := by
  unfold apE; rw [if_neg (by unfold apB at h; rw [h]; decide), if_neg]
  intro h3
  simp only [Bool.and_eq_true, beq_iff_eq, decide_eq_true_eq] at h3
  have := h2 h3.1
  omega
theorem apG_3 {xs : List Sg} {p : Pt} {i : Nat} {x : Sg} (hs : Srt xs) (hk : p.kind = 3) (hx : xs[i]? = some x) (he : x.id = p.sign) : apG xs p = xs.take i ++ xs.drop (i + 1) := by
  unfold apG; rw [if_neg (by omega), if_pos hk, ← he]; exact rem_low hs hx
theorem apG_2 {xs : List Sg} {p : Pt} (hk : p.kind = 2) (hp : PtOK p) : apG xs p = (xs.take (lowK Sg.id xs p.sign) ++ [p.nw]) ++ xs.drop (lowK Sg.id xs p.sign) := by
  unfold apG; rw [if_pos hk, put_low, (hp.ins hk).1]
theorem apG_1 {xs : List Sg} {p : Pt} {i : Nat} {x : Sg} (hs : Srt xs) (hk : p.kind = 1) (hx : xs[i]? = some x) (he : x.id = p.sign) : apG xs p = xs.set i (setG x p.field p.nw) := by
  have hi := (List.getElem?_eq_some_iff.1 hx).1
  unfold apG; rw [if_neg (by omega), if_neg (by omega), ← he, set_low (fun y => setG y p.field p.nw) hs hx, List.set_eq_take_append_cons_drop, if_pos hi]
end Go.Proofs.YtoicbikdenlioaaGreat
end
section
namespace Go.Proofs.YtoicbikdenlioaaGreat
open Go Go.Kn Go.Proofs
theorem w_apply {I : HMap} {av : Option Addr} {n c : Nat} {xs : List Sg} (hS : Sl I 14 encG av n c xs) (hn : n ≤ 4096) (hs : Srt xs) (hb : ∀ x ∈ xs, 0 ≤ x.id ∧ x.id ≤ 1048576) (p : Pt) (hp : PtOK p) : RetM Tryz.prog 37 [.slice av n c, encPA p] I [] (ResG (apE xs p) (resF (apE xs p) (apG xs p))) := by
 intro g H w hw
 refine enter Tryz.func37 rfl Tryz.ntmps37 rfl hw ?_
 have hIc := HLe.refl I
 have hil : (lowK Sg.id xs p.sign) ≤ n := by rw [← hS.len]; exact low_le
 refine zR ?_
 refine XO_box rfl rfl rfl (fun b_3 => ?_)
 refine zA ?_
 refine zA ?_
 refine zN (zR ?_)
 refine zM ?_
 refine zF fld_44_2 ?_
 refine zL sct_3 ?_
 refine XO_callV0 (cap := []) (vs := [_, _]) rfl rfl fun_91 (w_at hS (by omega) hs hb p.sign hp.sg) rfl rfl ?_
 refine zM ?_
 refine zE ?_
 refine zE ?_
 refine zA ?_
 refine zA ?_
 refine zN ?_
 refine X_seq ?_
 refine X_block ?_
 refine zR ?_
 refine zF fld_44_1 ?_
 refine zL sct_3 ?_
 refine zC ?_
 refine zM ?_
 refine XO_pushT 3 rfl rfl rfl ?_
 refine zK (ev_move rfl) ?_
 refine zK (ev_not rfl) ?_
 refine XO_and0 rfl rfl rfl rfl rfl ?_
 refine zA ?_
 refine zN ?_
 refine zI ?_ ?_ <;> intro hc15
 ·
  have he := ap_none hc15
  refine zR ?_
  refine zM ?_
  refine zA ?_
  refine zA ?_
  refine zN ?_
  refine X_ret ?_
  refine at_block_r ?_
  refine at_then_r ?_
  first
  | exact at_ret2 rfl rfl rfl (fun w hw => ⟨_, I, [], rfl, hIc, hw.drop, ResG.good he.1.symm (by rw [he.1]; exact he.2.symm) hS⟩)
 refine zR ?_
 refine zF fld_44_1 ?_
 refine zL sct_3 ?_
 refine zC ?_
 refine zM ?_
 refine XO_pushT 3 rfl rfl rfl ?_
 refine zK (ev_move rfl) ?_
 refine zK (ev_not rfl) ?_
 refine XO_and0 rfl rfl rfl rfl rfl ?_
 refine zM ?_
 refine XO_pushF 7 rfl rfl rfl ?_
 refine zJ (ev_fieldAddr rfl fld_44_1) ?_
 refine zJ (ev_load rfl sct_3 (fun hg => by repeat (first | exact Cell.here rfl | apply Cell.there | apply Cell.app))) ?_
 refine zJ (ev_cmp rfl rfl rfl) ?_
 refine zJ (ev_move rfl) ?_
 refine XO_pushT 11 rfl rfl rfl ?_
 refine zK (ev_move rfl) ?_
 refine XO_and1 rfl rfl rfl (.some rfl rfl rfl rfl gbf) rfl rfl ?_
 refine XO_or0 rfl rfl rfl rfl rfl ?_
 refine zA ?_
 refine zN ?_
 refine zI ?_ ?_ <;> intro hc24
 ·
  have he := ap_370 (xs := xs) (p := p) hc24
  refine zR ?_
  refine zA ?_
  refine zA ?_
  refine zN ?_
  refine X_ret ?_
  refine at_block_r ?_
  refine at_then_r ?_
  first
  | exact at_ret2 rfl rfl rfl (fun w hw => ⟨_, I, [], rfl, hIc, hw.drop, by rw [he]; exact ResG.empty (resF_bad (by decide))⟩)
 have hB : apB xs p = false := hc24
 refine zR ?_
 refine zF fld_44_1 ?_
 refine zL sct_3 ?_
 refine zC ?_
 refine zM ?_
 refine XO_pushT 3 rfl rfl rfl ?_
 refine zK (ev_move rfl) ?_
 refine zK (ev_lenS rfl slt_22) ?_
 refine zK (ev_cmp rfl rfl rfl) ?_
 refine XO_and0 rfl rfl rfl rfl rfl ?_
 refine zA ?_
 refine zN ?_
 refine zI ?_ ?_ <;> intro hc40
 ·
  have h40 := (Bool.and_eq_true _ _).mp hc40
  have he := ap_2 hB (by simpa using h40.1) (by rw [hS.len]; have h := h40.2; simp at h; omega)
  refine zR ?_
  refine zA ?_
  refine zA ?_
  refine zN ?_
  refine X_ret ?_
  refine at_block_r ?_
  refine at_then_r ?_
  first
  | exact at_ret2 rfl rfl rfl (fun w hw => ⟨_, I, [], rfl, hIc, hw.drop, by rw [he]; exact ResG.empty (resF_bad (by decide))⟩)
 have he : apE xs p = 0 := ap_0 hB (fun hk => by rw [hS.len]; have h := hc40; simp [hk] at h; omega)
 refine zR ?_
 refine zF fld_44_1 ?_
 refine zL sct_3 ?_
 refine zC ?_
 refine zA ?_
 refine zN ?_
 refine zI ?_ ?_ <;> intro hc49
 ·
  have hk3 : p.kind = 3 := by simpa using hc49
  have hh : hasS xs p.sign = true := by have h := hc15; simpa [hk3] using h
  obtain ⟨x, hx, hxe⟩ := low_hit hs hh
  refine X_seq ?_
  have hlt := (List.getElem?_eq_some_iff.1 hx).1
  rw [hS.len] at hlt
  have hD := HLe.refl I
  refine X_drawC mixed ?_
  refine zT 0 rfl (ev_move rfl) hD ?_
  refine zT 1 rfl (ev_move rfl) hD ?_
  refine zT 2 rfl (ev_move rfl) hD ?_
  refine zT 3 rfl (ev_sliceM rfl rfl rfl slt_22 (fun _ => by have := hS.cap; omega)) hD ?_
  refine zT 4 rfl (ev_move rfl) hD ?_
  refine zT 5 rfl (ev_move rfl) hD ?_
  refine zT 6 rfl (ev_arB rfl rfl rfl (fun _ => by omega)) hD ?_
  refine zT 7 rfl (ev_sliceLo rfl rfl slt_22 (fun hg => by omega)) hD ?_
  refine XD_one 8 rfl (by kernel_rfl) ?_
  refine XO_appendCut encG_len (by decide) rfl rfl elt_22 ((hS.take hil).cut) (hS.drop (k := (lowK Sg.id xs p.sign) + 1) (by omega)) (by omega) rfl rfl ?_
  intro I1 ac cc hI1 hR
  have hS := hS.mono hI1; have hIc := hIc.trans hI1; have hD := hD.trans hI1
  refine XO_nil ?_
  refine zD hD ?_
  refine zT 9 rfl (ev_assign rfl) hD ?_
  refine zT 10 rfl (ev_assign rfl) hD ?_
  refine XD_done (by kernel_rfl) ?_
  refine at_noP ?_
  refine at_then ?_
  refine X_ret ?_
  refine at_block_r ?_
  refine at_then_r ?_
  exact at_ret2 rfl rfl rfl (fun w hw => ⟨_, I1, [], rfl, hIc, hw.drop, ResG.good he.symm (by rw [he, resF_ok rfl, apG_3 hs hk3 hx hxe]) hR⟩)
 have hk3 : p.kind ≠ 3 := by simpa using hc49
 refine zR ?_
 refine zF fld_44_1 ?_
 refine zL sct_3 ?_
 refine zC ?_
 refine zA ?_
 refine zN ?_
 refine zI ?_ ?_ <;> intro hc62
 ·
  have hk2 : p.kind = 2 := by simpa using hc62
  refine X_seq ?_
  have hD := HLe.refl I
  refine X_drawC mixed ?_
  refine zT 0 rfl (ev_move rfl) hD ?_
  refine zT 1 rfl (ev_move rfl) hD ?_
  refine zT 2 rfl (ev_move rfl) hD ?_
  refine zT 3 rfl (ev_sliceM rfl rfl rfl slt_22 (fun _ => by have := hS.cap; omega)) hD ?_
  refine zT 4 rfl (ev_fieldAddr rfl fld_44_4) hD ?_
  refine zT 5 rfl (ev_loadA rfl agt_26 (fun hg => by (repeat (first | exact Cells.here | exact Cells.s0 (vs := [_, _, _, _, _, _, _, _, _, _, _, _, _, _]) rfl | apply Cells.there | apply Cells.app))) rfl) hD ?_
  refine zT 8 rfl (ev_move rfl) hD ?_
  refine zT 9 rfl (ev_move rfl) hD ?_
  refine zT 10 rfl (ev_sliceLo rfl rfl slt_22 (fun hg => by omega)) hD ?_
  refine XD_one 6 rfl (by kernel_rfl) ?_
  refine XO_buildSlice (ps := [(0, _)]) (m := [encG p.nw]) elt_22 rfl (.cons rfl (.nil)) rfl (by simp [encG_len]) (by decide) (by decide) rfl rfl (fun b_72 => ?_)
  refine XO_nil ?_
  refine zD hD ?_
  refine XD_one 7 rfl (by kernel_rfl) ?_
  refine XO_appendCutO (ys := [p.nw].flatMap encG) encG_len rfl rfl elt_22 (hS.take hil).cut ⟨rfl, fun _ => rfl, Cells.here⟩ (by decide) (by omega) rfl rfl ?_
  intro v1 L1 hO1
  refine XO_nil ?_
  refine zD hD ?_
  refine XD_one 11 rfl (by kernel_rfl) ?_
  refine XO_append (v := _) (ys := (xs.drop (lowK Sg.id xs p.sign)).flatMap encG) (L := L1) rfl rfl elt_22 hO1 (by repeat (first | exact .cons .here .nil | exact split_all | exact split_app | apply split_cons | apply split_skip)) ((hS.drop hil).src encG_len) (one_G _) (by omega) rfl rfl ?_
  intro v2 L2 hO2 _; rw [← List.flatMap_append, ← List.flatMap_append] at hO2
  refine XO_nil ?_
  refine zD hD ?_
  refine zT 12 rfl (ev_assign rfl) hD ?_
  refine zT 13 rfl (ev_assign rfl) hD ?_
  refine XD_done (by kernel_rfl) ?_
  refine at_noP ?_
  refine at_then ?_
  refine X_ret ?_
  refine at_block_r ?_
  refine at_then_r ?_
  first
  | exact at_ret2 rfl rfl rfl (fun w hw => by obtain ⟨I9, h91, h92, h93⟩ := OwnS.res hO2 encG_len (by decide) (hw.subL subL_left); obtain ⟨_, a9, c9, e9, h94⟩ := h93; cases e9; exact ⟨_, I9, [], rfl, hIc.trans h91, h92, ResG.good he.symm (by rw [he, resF_ok rfl, apG_2 hk2 hp]) h94⟩)
 have hk2 : p.kind ≠ 2 := by simpa using hc62
 have hk1 : p.kind = 1 := by rcases hp.kind with h | h | h <;> omega
 have hh : hasS xs p.sign = true := by have h := hB; unfold apB at h; simpa [hk1] using h
 obtain ⟨x, hx, hxe⟩ := low_hit hs hh
 refine X_skip ?_
 refine at_block_n ?_
 refine at_then ?_
 refine zR ?_
 refine zM ?_
 refine XO_callM (cap := []) (vs := [_]) rfl rfl fun_79 .nil (w_cloneG hS (by omega)) rfl rfl ?_
 rintro vv2 I2 L2 hI2 ⟨rfl, hO⟩
 have hS := hS.mono hI2; have hIc := hIc.trans hI2
 refine zA ?_
 refine zN ?_
 refine X_seq ?_
 obtain ⟨hki, b9, c9, cur, rfl, rfl, hseg, hle, hset⟩ := hO.spot encG_len (by decide) hx
 have hD := HLe.refl I2
 refine X_noP ?_
 refine X_drawS I2 [(b_3, .cells (encP p).toArray 44 (0, 0))] mixed ?_
 refine zT 0 rfl (ev_move rfl) hD ?_
 refine zT 1 rfl (ev_move rfl) hD ?_
 refine zT 2 rfl (ev_move rfl) hD ?_
 refine zT 3 rfl (ev_move rfl) hD ?_
 refine zT 4 rfl (ev_indexOwn rfl rfl slt_22 (fun _ => by omega)) hD ?_
 refine zT 6 rfl (ev_fieldAddr rfl fld_44_3) hD ?_
 refine zT 7 rfl (ev_load rfl sct_3 (fun hg => by repeat (first | exact Cell.here rfl | apply Cell.there | apply Cell.app))) hD ?_
 refine zT 8 rfl (ev_fieldAddr rfl fld_44_4) hD ?_
 refine zT 9 rfl (ev_loadA rfl agt_26 (fun hg => by (repeat (first | exact Cells.here | exact Cells.s0 (vs := [_, _, _, _, _, _, _, _, _, _, _, _, _, _]) rfl | apply Cells.there | apply Cells.app))) rfl) hD ?_
 refine XD_one 5 rfl (by kernel_rfl) ?_
 refine zV (ev_loadA rfl agt_26 (fun hg => by exact Cells.s0 (vs := encG x) hseg) rfl) ?_
 refine XO_nil ?_
 refine zD hD ?_
 refine XD_one 10 rfl (by kernel_rfl) ?_
 refine XO_callV0 (cap := []) (vs := [_, _, _]) rfl rfl fun_76 (w_set _ x p.field p.nw (hp.set hk1).1) rfl rfl ?_
 refine XO_nil ?_
 refine zD hD ?_
 refine zT 11 rfl (ev_indexOwn rfl rfl slt_22 (fun _ => by omega)) hD ?_
 refine XD_one 12 rfl (by kernel_rfl) ?_
 refine XO_storeP (A := cur) rfl rfl szt_26 rfl (Nat.ble_eq_true_of_le hle) rfl rfl (by repeat (first | exact Upd.here | apply Upd.there | apply upd_app)) ?_
 refine XO_nil ?_
 refine zD hD ?_
 refine XD_done (by kernel_rfl) ?_
 refine at_noP ?_
 refine at_then ?_
 refine zR ?_
 refine zM ?_
 refine zA ?_
 refine zA ?_
 refine zN ?_
 refine X_ret ?_
 first
 | exact at_ret2 rfl rfl rfl (fun w hw => by obtain ⟨I9, h91, h92, h93⟩ := OwnS.res (hset _) encG_len (by decide) (hw.subL subL_left); obtain ⟨_, a9, c9, e9, h94⟩ := h93; cases e9; exact ⟨_, I9, [], rfl, hIc.trans h91, h92, ResG.good he.symm (by rw [he, resF_ok rfl, apG_1 hs hk1 hx hxe]) h94⟩)
end Go.Proofs.YtoicbikdenlioaaGreat
end
section
namespace Go.Proofs.YtoicbikdenlioaaGreat
open Go Go.Kn Go.Proofs
theorem w_Run {I : HMap} {av : Option Addr} {n c : Nat} {xs : List Sg} (hS : Sl I 14 encG av n c xs) (hn : n ≤ 100000) {bv : Option Addr} {n2 c2 : Nat} {ps : List Pt} (hP : SlP I bv n2 c2 ps) (hn2 : n2 ≤ 100000) (hl : n ≤ 4096 → n + n2 ≤ 4096) : RetM Tryz.prog 14 [.slice av n c, .slice bv n2 c2] I [] (ResG (runA xs ps).1 (runA xs ps).2) := by
 intro g H w hw
 refine enter Tryz.func14 rfl Tryz.ntmps14 rfl hw ?_
 have hIc := HLe.refl I
 refine zR ?_
 refine zA ?_
 refine zA ?_
 refine zN ?_
 refine X_seq ?_
 refine zR ?_
 refine zM ?_
 refine XO_callV0 (cap := []) (vs := [_]) rfl rfl fun_15 (w_chkG hS hn) rfl rfl ?_
 refine zA ?_
 refine zN (zR ?_)
 refine zM ?_
 refine zC ?_
 refine zN ?_
 refine zI ?_ ?_ <;> intro hc11
 ·
  have hck : chkG xs ≠ 0 := by simpa using hc11
  have hres := runA_1 (l := ps) hck
  refine zR ?_
  refine zM ?_
  refine zA ?_
  refine zA ?_
  refine zN ?_
  refine X_ret ?_
  refine at_then_r ?_
  first
  | exact at_ret2 rfl rfl rfl (fun w hw => ⟨_, I, [], rfl, hIc, hw.drop, by rw [hres]; exact ResG.empty rfl⟩)
 have hck : chkG xs = 0 := by simpa using hc11
 refine X_skip ?_
 refine at_then ?_
 refine X_seq ?_
 refine zR ?_
 refine zM ?_
 refine zQ slt_33 ?_
 refine zC ?_
 refine zN ?_
 refine zI ?_ ?_ <;> intro hc15
 ·
  have hres := runA_2 (l := ps) hck (by rw [hP.len]; simp at hc15; omega)
  refine zR ?_
  refine zA ?_
  refine zA ?_
  refine zN ?_
  refine X_ret ?_
  refine at_then_r ?_
  first
  | exact at_ret2 rfl rfl rfl (fun w hw => ⟨_, I, [], rfl, hIc, hw.drop, by rw [hres]; exact ResG.empty rfl⟩)
 have hres := runA_3 (l := ps) hck (by rw [hP.len]; simp at hc15; omega)
 have hn4 : n ≤ 4096 := by rw [← hS.len]; exact (chkG_ok hck).1
 refine X_skip ?_
 refine at_then ?_
 refine zR ?_
 refine zM ?_
 refine zA ?_
 refine zN ?_
 refine X_seq ?_
 refine zR ?_
 refine zM ?_
 refine zQ slt_33 ?_
 refine zM ?_
 refine zN ?_
 refine X_block ?_
 refine X_loopT [(17, _), (18, _)] (.cons rfl (.cons rfl .nil)) (fun T L0 mz E I' loc' => ∃ (k : Nat) (ys : List Sg) (a1 : Option Addr) (m1 : Nat) (c1 : Nat), mz = n2 - k ∧ E = (4, .slice a1 m1 c1) :: (19, .int .i64 k) :: T ∧ HLe I I' ∧ L0 = loc' ∧ k ≤ n2 ∧ Sl I' 14 encG a1 m1 c1 ys ∧ m1 ≤ n + k ∧ RnQ ys ∧ runR xs ps = runR ys (ps.drop k)) _ _ _ _ ⟨0, xs, av, n, c, rfl, rfl, HLe.refl _, rfl, Nat.zero_le _, hS, Nat.le_refl _, chk_rn hck, rfl⟩ (.cons rfl (.cons rfl (.cons rfl (.cons rfl .nil)))) (HLe.refl _) rfl ?_
 rintro mz E J1 loc' ⟨k, ys, a1, m1, c1, rfl, rfl, hJ, rfl, hk, hY, hm1, hrn, hrun⟩
 have hS := hS.mono hJ; have hP := hP.mono hJ; have hIc := hIc.trans hJ
 have hB0 := hJ
 refine zR ?_
 refine zC ?_
 refine zN ?_
 refine X_seq ?_
 refine zI ?_ ?_ <;> intro hc20
 ·
  have hlt_k : k < n2 := by have h := hc20; simp at h; omega
  have hP1 := hP.1
  obtain ⟨p, hq, hN⟩ := hP.at hlt_k
  have hpm := List.mem_of_getElem? hq
  have hN : Sl J1 1 encI p.a p.n p.c p.needs := hN
  refine X_skip ?_
  refine at_then ?_
  refine X_seq ?_
  refine X_block ?_
  refine zR ?_
  refine zV (ev_indexSl rfl rfl slt_33 (by assumption) (fun hg => by omega)) ?_
  refine zV (ev_loadA rfl agt_44 (fun hg => by exact Sl.getA hP1 hq) rfl) ?_
  refine XO_alloc zt_44 rfl rfl (fun b_7 => ?_)
  refine XO_storeA rfl rfl szt_44 rfl rfl rfl rfl (by repeat (first | exact Upd.here | apply Upd.there | apply upd_app)) ?_
  refine zN ?_
  refine X_seq ?_
  refine zR ?_
  refine zV (ev_loadA rfl agt_44 (fun hg => by (repeat (first | exact Cells.here | exact Cells.s0 (vs := [_, _, _, _, _, _, _, _, _, _, _, _, _, _, _, _, _, _, _]) rfl | apply Cells.there | apply Cells.app))) rfl) ?_
  refine XO_callV0 (cap := []) (vs := [_]) rfl rfl fun_26 (w_pchk p hN) rfl rfl ?_
  refine zA ?_
  refine zN (zR ?_)
  refine zM ?_
  refine zC ?_
  refine zN ?_
  refine zI ?_ ?_ <;> intro hc26
  ·
   have hpk : pchk p ≠ 0 := by simpa using hc26
   rw [hres, hrun, drop_cons hq, run_b1 hpk]
   refine zR ?_
   refine zM ?_
   refine zA ?_
   refine zA ?_
   refine zN ?_
   refine X_ret ?_
   refine at_then_r ?_
   refine at_block_r ?_
   refine at_then_r ?_
   refine at_then_r ?_
   refine at_block_r ?_
   refine at_then_r ?_
   exact at_ret2 rfl rfl rfl (fun w hw => ⟨_, J1, [], rfl, hIc, hw.drop, ResG.empty rfl⟩)
  have hpk : pchk p = 0 := by simpa using hc26
  refine X_skip ?_
  refine at_then ?_
  refine zR ?_
  refine zM ?_
  refine zV (ev_loadA rfl agt_44 (fun hg => by (repeat (first | exact Cells.here | exact Cells.s0 (vs := [_, _, _, _, _, _, _, _, _, _, _, _, _, _, _, _, _, _, _]) rfl | apply Cells.there | apply Cells.app))) rfl) ?_
  refine XO_callM (cap := []) (vs := [_, _]) rfl rfl fun_37 .nil (w_apply hY (by omega) hrn.1 hrn.2 p (pchk_ok hpk)) rfl rfl ?_
  rintro vv2 I2 L2 hI2 ⟨rfl, a9, c9, rfl, hR⟩
  have hS := hS.mono hI2; have hP := hP.mono hI2; have hY := hY.mono hI2; have hIc := hIc.trans hI2; have hB0 := hB0.trans hI2
  generalize hm9 : (resF (apE ys p) (apG ys p)).length = m9 at hR ⊢
  refine zM ?_
  refine zE ?_
  refine zE ?_
  refine zA ?_
  refine zA ?_
  refine zN (zR ?_)
  refine zM ?_
  refine zC ?_
  refine zN ?_
  refine zI ?_ ?_ <;> intro hc35
  ·
   have hE : apE ys p ≠ 0 := by simpa using hc35
   rw [hres, hrun, drop_cons hq, run_b2 hpk hE]
   refine zR ?_
   refine zM ?_
   refine zA ?_
   refine zA ?_
   refine zN ?_
   refine X_ret ?_
   refine at_block_r ?_
   refine at_then_r ?_
   refine at_then_r ?_
   refine at_block_r ?_
   refine at_then_r ?_
   exact at_ret2 rfl rfl rfl (fun w hw => ⟨_, I2, [], rfl, hIc, hw.drop, ResG.empty rfl⟩)
  have hE : apE ys p = 0 := by simpa using hc35
  rw [hE, resF_ok rfl] at hR hm9
  refine X_skip ?_
  refine at_block_n ?_
  refine at_then ?_
  refine X_region ?_
  refine zV (ev_arB rfl rfl rfl (fun _ => by omega)) ?_
  refine zM ?_
  refine XO_nil ?_
  exact at_met2 _ _ ⟨n2 - (k + 1), by omega, k + 1, _, _, _, _, rfl, rfl, hB0, rfl, by omega, hR, (by have h1 := ap_len (xs := ys) (p := p); rw [hY.len] at h1; omega), ap_rn hrn (pchk_ok hpk) hE, by rw [hrun, drop_cons hq, run_go hpk hE]⟩ (.cons rfl (.cons rfl (.cons rfl (.cons rfl .nil)))) (by repeat (first | exact .refl | exact subL_left | refine subL_app ?_ | refine .drop ?_ | refine subL_add ?_))
 have hge_k : n2 ≤ k := by have h := hc20; simp at h; omega
 rw [hres, hrun, List.drop_eq_nil_of_le (by rw [hP.len]; exact hge_k)]
 refine X_exit ?_
 refine at_then_e ?_
 refine at_then_e ?_
 refine at_block_hit ?_
 refine at_then ?_
 refine zR ?_
 refine zM ?_
 refine zA ?_
 refine zA ?_
 refine zN ?_
 refine X_ret ?_
 exact at_ret2 rfl rfl rfl (fun w hw => ⟨_, J1, [], rfl, hIc, hw.drop, ResG.good rfl rfl hY⟩)
end Go.Proofs.YtoicbikdenlioaaGreat
end
section
namespace Go.Proofs.YtoicbikdenlioaaGreat
open Go Go.Kn Go.Proofs
/-- The patches from a to b, said of the patches. -/
structure DifOK (a b : List Sg) (ps : List Pt) : Prop where
  kind : ∀ p ∈ ps, p.kind = 1 ∨ p.kind = 2 ∨ p.kind = 3
  rem : ∀ p ∈ ps, p.kind = 3 → (lookG a p.sign).isSome = true ∧ lookG b p.sign = none
  ins : ∀ p ∈ ps, p.kind = 2 → lookG a p.sign = none ∧ lookG b p.sign = some p.nw
  set : ∀ p ∈ ps, p.kind = 1 → ∃ x y, lookG a p.sign = some x ∧ lookG b p.sign = some y ∧ isF p.field ∧ p.nw = setG zeroG p.field y
  one : ∀ p ∈ ps, ∀ q ∈ ps, p.sign = q.sign → (p.kind = 1 ∧ q.kind = 1 ∧ p.field ≠ q.field) ∨ p.id = q.id
  allrem : ∀ s x, lookG a s = some x → lookG b s = none → ∃ p ∈ ps, p.kind = 3 ∧ p.sign = s
  allins : ∀ s y, lookG a s = none → lookG b s = some y → ∃ p ∈ ps, p.kind = 2 ∧ p.sign = s
  allset : ∀ s x y, lookG a s = some x → lookG b s = some y → x.kind = y.kind ∧ ∀ f, isF f → fldG x f ≠ fldG y f → ∃ p ∈ ps, p.kind = 1 ∧ p.sign = s ∧ p.field = f
theorem valS_noset {x : Sg} {s : Int} : ∀ {t : List Pt}, (∀ p ∈ t, ¬ (p.kind = 1 ∧ p.sign = s)) → valS x t s = x
  | [], _ => rfl
  | p :: t, h => by
    unfold valS
    rw [List.foldl_cons, if_neg (h p (List.mem_cons_self ..))]
    exact valS_noset fun q hq => h q (List.mem_cons_of_mem _ hq)
theorem remB_iff {t : List Pt} {s : Int} : remB t s = true ↔ ∃ p ∈ t, p.kind = 3 ∧ p.sign = s := by
  unfold remB; simp
theorem insO_noins {s : Int} {t : List Pt} (h : ∀ p ∈ t, ¬ (p.kind = 2 ∧ p.sign = s)) : insO t s = none := by
  unfold insO
  rw [Option.map_eq_none_iff, List.find?_eq_none]
  intro p hp
  have := h p hp
  simpa using this
theorem insO_one {s : Int} {t : List Pt} {y : Sg} (h : ∃ p ∈ t, p.kind = 2 ∧ p.sign = s) (hy : ∀ p ∈ t, p.kind = 2 → p.sign = s → p.nw = y) : insO t s = some y := by
  unfold insO
  cases e : t.find? fun q => q.kind == 2 && q.sign == s with
  | none =>
    obtain ⟨p, hp, h1, h2⟩ := h
    have := List.find?_eq_none.1 e p hp
    simp [h1, h2] at this
  | some p =>
    have h1 := List.find?_some e
    simp at h1
    rw [Option.map_some, hy p (List.mem_of_find?_eq_some e) h1.1 h1.2]
/-- Applied to a, sign by sign, they make b. -/
theorem dif_st {a b : List Sg} {ps : List Pt} (h : DifOK a b ps) (s : Int) : stS a ps s = lookG b s := by
  unfold stS
  cases ea : lookG a s with
  | none =>
    have hr : ¬ (remB ps s = true) := fun g => by
      obtain ⟨p, hp, h1, h2⟩ := remB_iff.1 g
      have := (h.rem p hp h1).1
      rw [h2, ea] at this; cases this
    rw [if_neg hr]
    cases eb : lookG b s with
    | none =>
      rw [insO_noins fun p hp g => by
        have := (h.ins p hp g.1).2
        rw [g.2, eb] at this; cases this]
      rfl
    | some y =>
      rw [insO_one (y := y) (h.allins s y ea eb) fun p hp h1 h2 => by
        have := (h.ins p hp h1).2
        rw [h2, eb] at this; exact (Option.some.inj this).symm]
      show some (valS y ps s) = some y
      rw [valS_noset fun p hp g => by
        obtain ⟨x, _, hx, _⟩ := h.set p hp g.1
        rw [g.2, ea] at hx; cases hx]
  | some x =>
    cases eb : lookG b s with
    | none => rw [if_pos (remB_iff.2 (h.allrem s x ea eb))]
    | some y =>
      have hr : ¬ (remB ps s = true) := fun g => by
        obtain ⟨p, hp, h1, h2⟩ := remB_iff.1 g
        have := (h.rem p hp h1).2
        rw [h2, eb] at this; cases this
      rw [if_neg hr]
      show some (valS x ps s) = some y
      obtain ⟨hk, hall⟩ := h.allset s x y ea eb
      obtain ⟨v1, v2⟩ := valS_idk (x := x) (t := ps) (s := s)
      refine congrArg some (sg_ext (by rw [v1, look_id ea, look_id eb]) (by rw [v2, hk]) fun f hf => ?_)
      rcases val_fld (x := x) (s := s) hf ps (fun p hp h1 => by obtain ⟨_, _, _, _, h2, _⟩ := h.set p hp h1; exact h2) with ⟨e1, hno⟩ | ⟨t1, z, t2, et, ⟨z1, z2, z3⟩, e1, _⟩
      · rw [e1]
        by_cases e : fldG x f = fldG y f
        · exact e
        · obtain ⟨p, hp, g⟩ := hall f hf e
          exact absurd g (hno p hp)
      · rw [e1]
        obtain ⟨_, y', _, hy, h3, h4⟩ := h.set z (by rw [et]; simp) z1
        rw [z2, eb] at hy
        cases hy
        rw [h4, z3, set_fld hf, if_pos rfl]
/-- No two of them are about the same. -/
def Apart (l : List Pt) : Prop := ∀ p ∈ l, ∀ q ∈ l, p.sign = q.sign → (p.kind = 1 ∧ q.kind = 1 ∧ p.field ≠ q.field) ∨ p = q
theorem DifOK.apart {a b : List Sg} {ps : List Pt} (h : DifOK a b ps) (hn : (ps.map (·.id)).Nodup) : Apart ps := fun p hp q hq hs => by
  rcases h.one p hp q hq hs with g | g
  · exact .inl g
  · right
    obtain ⟨i, hi⟩ := List.getElem?_of_mem hp
    obtain ⟨j, hj⟩ := List.getElem?_of_mem hq
    have h1 : (ps.map (·.id))[i]? = some p.id := by rw [List.getElem?_map, hi]; rfl
    have h2 : (ps.map (·.id))[j]? = some q.id := by rw [List.getElem?_map, hj]; rfl
    obtain ⟨l1, g1⟩ := List.getElem?_eq_some_iff.1 h1
    obtain ⟨l2, g2⟩ := List.getElem?_eq_some_iff.1 h2
    have : i = j := (List.getElem_inj hn).1 (by rw [g1, g2, g])
    subst this
    rw [hi] at hj; exact Option.some.inj hj
/-- Patches without conflicts. -/
theorem cfL_nil {on : Int → Int → Bool} {base : List Sg} {l : List Pt} (h1 : ∀ p ∈ l, p.kind = 1 → ∀ r ∈ l, r.kind = 3 → r.sign = p.sign → on r.id p.id = true) (h2 : ∀ s f, ∀ p ∈ latF on l s f, ∀ q ∈ latF on l s f, p.nw = q.nw) : cfL on base l = [] := by
  unfold cfL
  rw [List.flatMap_eq_nil_iff]
  intro x _
  unfold cfS
  rw [List.append_eq_nil_iff, List.flatMap_eq_nil_iff]
  constructor
  · unfold cf0
    rw [if_pos]
    rw [List.isEmpty_iff]
    unfold unF
    rw [List.filter_eq_nil_iff]
    intro p hp g
    rw [Bool.and_eq_true] at g
    have g2 := g.2
    unfold unB at g2
    rw [Bool.and_eq_true, List.any_eq_true] at g2
    obtain ⟨g3, i, hi, g4⟩ := g2
    obtain ⟨r, hr, r1, r2, r3⟩ := mem_rmF.1 hi
    have := h1 p hp (by simpa using g3) r hr r1 r2
    rw [r3] at this
    rw [this] at g4; cases g4
  · intro k _
    unfold cfK
    rw [if_neg]
    intro g
    rw [Bool.and_eq_true] at g
    have g2 := g.2
    cases e : latF on l x.id ((k : Int) + 1) with
    | nil => rw [e] at g2; cases g2
    | cons p t =>
      rw [e] at g2
      obtain ⟨q, hq, g3⟩ := List.any_eq_true.1 (show (t.any fun q => !sgEq q.nw p.nw) = true from g2)
      have := h2 x.id _ q (by rw [e]; exact List.mem_cons_of_mem _ hq) p (by rw [e]; exact List.mem_cons_self ..)
      rw [this, sgEq_self] at g3; cases g3
theorem mem_latF {on : Int → Int → Bool} {l : List Pt} {s f : Int} {p : Pt} (h : p ∈ latF on l s f) : p ∈ l ∧ p.kind = 1 ∧ p.sign = s ∧ p.field = f := by
  unfold latF at h
  exact mem_stF.1 (List.mem_filter.1 h).1
theorem Apart.calm {on : Int → Int → Bool} {base : List Sg} {l : List Pt} (h : Apart l) : cfL on base l = [] := by
  refine cfL_nil (fun p hp hk r hr hk2 hs => ?_) (fun s f p hp q hq => ?_)
  · rcases h r hr p hp hs with ⟨g, _⟩ | g
    · omega
    · subst g; omega
  · obtain ⟨p1, p2, p3, p4⟩ := mem_latF hp
    obtain ⟨q1, q2, q3, q4⟩ := mem_latF hq
    rcases h p p1 q q1 (by rw [p3, q3]) with ⟨_, _, g⟩ | g
    · exact absurd (by rw [p4, q4]) g
    · rw [g]
/-- What a store of patches makes of signs, in an order that keeps the needs. -/
theorem run_st {base : List Sg} {l t : List Pt} (hb : Srt base) (hs : Sto l) (hp : ∀ p ∈ l, pchk p = 0) (hf : fitB base l = true) (hc : cfL (onF l) base l = []) (ht : Topo l t) (hl : base.length + l.length ≤ 4096) {c : List Sg} (hcs : Srt c) (hst : ∀ s, stS base t s = lookG c s) :
    runR base t = (0, c) ∧ sgnL (onF l) base l = c := by
  obtain ⟨ys, h1, h2, h3⟩ := run_all hs hp hf (calm_of hb hs hf hc) ht t [] base rfl (by rw [ht.perm.length_eq]; omega) hb (fun s => by
    unfold stS insO remB valS; simp)
  have hy : ys = c := srt_ext h2 hcs fun s => by rw [h3 s, hst s]
  subst hy
  have h4 := run_law hb hs hp hf hc ht hl
  rw [h1] at h4
  exact ⟨h1, (congrArg Prod.snd h4).symm⟩
end Go.Proofs.YtoicbikdenlioaaGreat
end
section
namespace Go.Proofs.YtoicbikdenlioaaGreat
open Go Go.Kn Go.Proofs
/-- A patch without its number. -/
structure Pc where
  kind : Int
  sign : Int
  field : Int
  nw : Sg
def rmC (x : Sg) : Pc := ⟨3, x.id, 0, zeroG⟩
def inC (y : Sg) : Pc := ⟨2, y.id, 0, y⟩
def chC (x y : Sg) (k : Nat) : List Pc := (List.range k).filterMap fun (i : Nat) => if fldG x ((i : Int) + 1) = fldG y ((i : Int) + 1) then none else some ⟨1, x.id, (i : Int) + 1, setG zeroG ((i : Int) + 1) y⟩
def dfL : List Sg → List Sg → Option (List Pc)
  | [], [] => some []
  | x :: a, [] => (dfL a []).map (rmC x :: ·)
  | [], y :: b => (dfL [] b).map (inC y :: ·)
  | x :: a, y :: b => if x.id < y.id then (dfL a (y :: b)).map (rmC x :: ·) else if y.id < x.id then (dfL (x :: a) b).map (inC y :: ·) else if x.kind ≠ y.kind then none else (dfL a b).map (chC x y 9 ++ ·)
termination_by a b => a.length + b.length
theorem mem_chC {x y : Sg} {k : Nat} {c : Pc} : c ∈ chC x y k ↔ ∃ i : Nat, i < k ∧ fldG x ((i : Int) + 1) ≠ fldG y ((i : Int) + 1) ∧ c = ⟨1, x.id, (i : Int) + 1, setG zeroG ((i : Int) + 1) y⟩ := by
  unfold chC
  simp only [List.mem_filterMap, List.mem_range]
  constructor
  · rintro ⟨i, hi, h⟩
    split at h
    · cases h
    · rename_i g; exact ⟨i, hi, g, (Option.some.inj h).symm⟩
  · rintro ⟨i, hi, g, rfl⟩
    exact ⟨i, hi, by rw [if_neg g]⟩
/-- What the patches about one sign are, by what it is in both lists. -/
structure LocOK (oa ob : Option Sg) (m : List Pc) : Prop where
  kind : ∀ p ∈ m, p.kind = 1 ∨ p.kind = 2 ∨ p.kind = 3
  rem : ∀ p ∈ m, p.kind = 3 → oa.isSome = true ∧ ob = none ∧ p.field = 0 ∧ p.nw = zeroG
  ins : ∀ p ∈ m, p.kind = 2 → oa = none ∧ ob = some p.nw ∧ p.field = 0
  set : ∀ p ∈ m, p.kind = 1 → ∃ x y, oa = some x ∧ ob = some y ∧ isF p.field ∧ p.nw = setG zeroG p.field y
  one : m.Pairwise fun p q => p.sign = q.sign → p.kind = 1 ∧ q.kind = 1 ∧ p.field ≠ q.field
  allrem : ∀ x, oa = some x → ob = none → ∃ p ∈ m, p.kind = 3
  allins : ∀ y, oa = none → ob = some y → ∃ p ∈ m, p.kind = 2
  allset : ∀ x y, oa = some x → ob = some y → x.kind = y.kind ∧ ∀ f, isF f → fldG x f ≠ fldG y f → ∃ p ∈ m, p.kind = 1 ∧ p.field = f
theorem loc_rm (x : Sg) : LocOK (some x) none [rmC x] where
  kind p hp := by simp at hp; subst hp; exact .inr (.inr rfl)
  rem p hp _ := by simp at hp; subst hp; exact ⟨rfl, rfl, rfl, rfl⟩
  ins p hp h := by simp at hp; subst hp; cases h
  set p hp h := by simp at hp; subst hp; cases h
  one := by simp
  allrem _ _ _ := ⟨_, List.mem_singleton.2 rfl, rfl⟩
  allins _ h := by cases h
  allset _ _ _ h := by cases h
theorem loc_in (y : Sg) : LocOK none (some y) [inC y] where
  kind p hp := by simp at hp; subst hp; exact .inr (.inl rfl)
  rem p hp h := by simp at hp; subst hp; cases h
  ins p hp _ := by simp at hp; subst hp; exact ⟨rfl, rfl, rfl⟩
  set p hp h := by simp at hp; subst hp; cases h
  one := by simp
  allrem _ h := by cases h
  allins _ _ _ := ⟨_, List.mem_singleton.2 rfl, rfl⟩
  allset _ _ h := by cases h
theorem loc_ch {x y : Sg} (hk : x.kind = y.kind) : LocOK (some x) (some y) (chC x y 9) where
  kind p hp := by obtain ⟨i, _, _, rfl⟩ := mem_chC.1 hp; exact .inl rfl
  rem p hp h := by obtain ⟨i, _, _, rfl⟩ := mem_chC.1 hp; cases h
  ins p hp h := by obtain ⟨i, _, _, rfl⟩ := mem_chC.1 hp; cases h
  set p hp _ := by
    obtain ⟨i, hi, _, rfl⟩ := mem_chC.1 hp
    refine ⟨x, y, rfl, rfl, ?_, rfl⟩
    show 1 ≤ (i : Int) + 1 ∧ (i : Int) + 1 ≤ 9
    omega
  one := by
    unfold chC
    rw [List.pairwise_filterMap]
    refine (List.pairwise_lt_range (n := 9)).imp fun {i j} hij p hp q hq _ => ?_
    split at hp
    · cases hp
    · split at hq
      · cases hq
      · cases hp; cases hq
        refine ⟨rfl, rfl, ?_⟩
        show ¬ ((i : Int) + 1 = (j : Int) + 1)
        omega
  allrem _ _ h := by cases h
  allins _ h := by cases h
  allset x' y' hx hy := by
    cases hx; cases hy
    refine ⟨hk, fun f hf hne => ?_⟩
    have hf' := hf
    unfold isF at hf'
    refine ⟨_, mem_chC.2 ⟨(f - 1).toNat, by omega, ?_, rfl⟩, rfl, ?_⟩
    · rw [show (((f - 1).toNat : Nat) : Int) + 1 = f by omega]; exact hne
    · show (((f - 1).toNat : Nat) : Int) + 1 = f
      omega
/-- The patches of two lists, sign by sign. -/
structure DcOK (a b : List Sg) (l : List Pc) : Prop where
  loc : ∀ s, LocOK (lookG a s) (lookG b s) (l.filter fun p => p.sign == s)
theorem look_lt {a : List Sg} {s : Int} (h : ∀ x ∈ a, s < x.id) : lookG a s = none := look_none.2 fun x hx => by have := h x hx; omega
theorem srt_tail {x : Sg} {a : List Sg} (h : Srt (x :: a)) : Srt a ∧ ∀ y ∈ a, x.id < y.id := by
  unfold Srt at h ⊢
  rw [List.pairwise_cons] at h
  exact ⟨h.2, h.1⟩
/-- One sign ahead. -/
theorem DcOK.step {a b a' b' : List Sg} {m l : List Pc} {s0 : Int} (h : DcOK a' b' l) (ha : ∀ s, s ≠ s0 → lookG a s = lookG a' s) (hb : ∀ s, s ≠ s0 → lookG b s = lookG b' s) (h0a : lookG a' s0 = none) (h0b : lookG b' s0 = none) (hm : ∀ p ∈ m, p.sign = s0) (hl : LocOK (lookG a s0) (lookG b s0) m) : DcOK a b (m ++ l) where
  loc s := by
    rw [List.filter_append]
    by_cases e : s = s0
    · subst e
      have h1 : m.filter (fun p => p.sign == s) = m := List.filter_eq_self.2 fun p hp => by simpa using hm p hp
      have h2 : l.filter (fun p => p.sign == s) = [] := by
        have hs := h.loc s
        rw [h0a, h0b] at hs
        rw [List.eq_nil_iff_forall_not_mem]
        intro p hp
        rcases hs.kind p hp with k | k | k
        · obtain ⟨_, _, g, _⟩ := hs.set p hp k; cases g
        · have := (hs.ins p hp k).2.1; cases this
        · have := (hs.rem p hp k).1; cases this
      rw [h1, h2, List.append_nil]
      exact hl
    · have h1 : m.filter (fun p => p.sign == s) = [] := List.filter_eq_nil_iff.2 fun p hp => by rw [hm p hp]; simpa using fun q => e q.symm
      rw [h1, List.nil_append, ha s e, hb s e]
      exact h.loc s
theorem df_ok : ∀ (n : Nat) (a b : List Sg) (l : List Pc), a.length + b.length ≤ n → Srt a → Srt b → dfL a b = some l → DcOK a b l := by
  intro n
  induction n with
  | zero =>
    intro a b l hn _ _ h
    have e1 : a = [] := List.eq_nil_of_length_eq_zero (by omega)
    have e2 : b = [] := List.eq_nil_of_length_eq_zero (by omega)
    subst e1; subst e2
    unfold dfL at h
    cases h
    exact ⟨fun s => ⟨fun p hp => (by cases hp), fun p hp => (by cases hp), fun p hp => (by cases hp), fun p hp => (by cases hp), List.Pairwise.nil, fun x h => (by cases h), fun y _ h => (by cases h), fun x y h => (by cases h)⟩⟩
  | succ n ih =>
    intro a b l hn ha hb h
    match a, b, hn, ha, hb, h with
    | [], [], _, _, _, h => exact ih [] [] l (by simp) .nil .nil h
    | x :: a, [], hn, ha, hb, h =>
      unfold dfL at h
      obtain ⟨l', h1, rfl⟩ := Option.map_eq_some_iff.1 h
      obtain ⟨t1, t2⟩ := srt_tail ha
      refine (ih a [] l' (by simp at hn ⊢; omega) t1 hb h1).step (m := [rmC x]) (s0 := x.id) (fun s hs => by rw [look_cons, if_neg fun e => hs e.symm]) (fun s _ => rfl) (look_lt t2) look_nil (fun p hp => by simp at hp; subst hp; rfl) ?_
      rw [look_cons, if_pos rfl, look_nil]
      exact loc_rm x
    | [], y :: b, hn, ha, hb, h =>
      unfold dfL at h
      obtain ⟨l', h1, rfl⟩ := Option.map_eq_some_iff.1 h
      obtain ⟨t1, t2⟩ := srt_tail hb
      refine (ih [] b l' (by simp at hn ⊢; omega) ha t1 h1).step (m := [inC y]) (s0 := y.id) (fun s _ => rfl) (fun s hs => by rw [look_cons, if_neg fun e => hs e.symm]) look_nil (look_lt t2) (fun p hp => by simp at hp; subst hp; rfl) ?_
      rw [look_cons, if_pos rfl, look_nil]
      exact loc_in y
    | x :: a, y :: b, hn, ha, hb, h =>
      unfold dfL at h
      obtain ⟨t1, t2⟩ := srt_tail ha
      obtain ⟨u1, u2⟩ := srt_tail hb
      split at h
      · rename_i g
        obtain ⟨l', h1, rfl⟩ := Option.map_eq_some_iff.1 h
        have hno : lookG (y :: b) x.id = none := look_lt fun z hz => by
          rcases List.mem_cons.1 hz with e | e
          · subst e; exact g
          · have := u2 z e; omega
        refine (ih a (y :: b) l' (by simp at hn ⊢; omega) t1 hb h1).step (m := [rmC x]) (s0 := x.id) (fun s hs => by rw [look_cons, if_neg fun e => hs e.symm]) (fun s _ => rfl) (look_lt t2) hno (fun p hp => by simp at hp; subst hp; rfl) ?_
        rw [hno, look_cons, if_pos rfl]
        exact loc_rm x
      · rename_i g
        split at h
        · rename_i g2
          obtain ⟨l', h1, rfl⟩ := Option.map_eq_some_iff.1 h
          have hno : lookG (x :: a) y.id = none := look_lt fun z hz => by
            rcases List.mem_cons.1 hz with e | e
            · subst e; exact g2
            · have := t2 z e; omega
          refine (ih (x :: a) b l' (by simp at hn ⊢; omega) ha u1 h1).step (m := [inC y]) (s0 := y.id) (fun s _ => rfl) (fun s hs => by rw [look_cons, if_neg fun e => hs e.symm]) hno (look_lt u2) (fun p hp => by simp at hp; subst hp; rfl) ?_
          rw [hno, look_cons, if_pos rfl]
          exact loc_in y
        · rename_i g2
          split at h
          · cases h
          · rename_i g3
            obtain ⟨l', h1, rfl⟩ := Option.map_eq_some_iff.1 h
            have e : x.id = y.id := by omega
            have hk : x.kind = y.kind := Classical.not_not.1 g3
            refine (ih a b l' (by simp at hn ⊢; omega) t1 u1 h1).step (m := chC x y 9) (s0 := x.id) (fun s hs => by rw [look_cons, if_neg fun e => hs e.symm]) (fun s hs => by rw [look_cons, if_neg fun q => hs (by rw [e, q])]) (look_lt t2) (by rw [e]; exact look_lt u2) (fun p hp => by obtain ⟨i, _, _, rfl⟩ := mem_chC.1 hp; rfl) ?_
            rw [look_cons, look_cons, if_pos rfl, if_pos e.symm]
            exact loc_ch hk
/-- The numbered patches. -/
structure Num (first : Int) (needs : List Int) (l : List Pc) (ps : List Pt) : Prop where
  len : ps.length = l.length
  at_ : ∀ (i : Nat) (c : Pc) (p : Pt), l[i]? = some c → ps[i]? = some p → p.id = first + i ∧ p.kind = c.kind ∧ p.sign = c.sign ∧ p.field = c.field ∧ p.nw = c.nw ∧ p.needs = needs
theorem Num.of {first : Int} {needs : List Int} {l : List Pc} {ps : List Pt} (h : Num first needs l ps) {i : Nat} {p : Pt} (hp : ps[i]? = some p) : ∃ c, l[i]? = some c ∧ p.id = first + i ∧ p.kind = c.kind ∧ p.sign = c.sign ∧ p.field = c.field ∧ p.nw = c.nw ∧ p.needs = needs := by
  have hi := (List.getElem?_eq_some_iff.1 hp).1
  have hc : l[i]? = some (l[i]'(by rw [← h.len]; exact hi)) := List.getElem?_eq_getElem _
  exact ⟨_, hc, h.at_ i _ p hc hp⟩
theorem Num.to {first : Int} {needs : List Int} {l : List Pc} {ps : List Pt} (h : Num first needs l ps) {c : Pc} (hc : c ∈ l) : ∃ p ∈ ps, p.kind = c.kind ∧ p.sign = c.sign ∧ p.field = c.field ∧ p.nw = c.nw := by
  obtain ⟨i, hi⟩ := List.getElem?_of_mem hc
  have hl := (List.getElem?_eq_some_iff.1 hi).1
  have hp : ps[i]? = some (ps[i]'(by rw [h.len]; exact hl)) := List.getElem?_eq_getElem _
  obtain ⟨_, h1, h2, h3, h4, _⟩ := h.at_ i c _ hi hp
  exact ⟨_, List.mem_of_getElem? hp, h1, h2, h3, h4⟩
theorem mem_sg {l : List Pc} {c : Pc} (h : c ∈ l) : c ∈ l.filter fun p => p.sign == c.sign := by
  rw [List.mem_filter]; exact ⟨h, by simp⟩
theorem dif_of {a b : List Sg} {l : List Pc} {ps : List Pt} {first : Int} {needs : List Int} (h : DcOK a b l) (hn : Num first needs l ps) : DifOK a b ps where
  kind p hp := by
    obtain ⟨i, hi⟩ := List.getElem?_of_mem hp
    obtain ⟨c, hc, _, e1, e2, _⟩ := hn.of hi
    rw [e1]; exact (h.loc c.sign).kind c (mem_sg (List.mem_of_getElem? hc))
  rem p hp hk := by
    obtain ⟨i, hi⟩ := List.getElem?_of_mem hp
    obtain ⟨c, hc, _, e1, e2, _⟩ := hn.of hi
    have := (h.loc c.sign).rem c (mem_sg (List.mem_of_getElem? hc)) (by rw [← e1]; exact hk)
    rw [e2]; exact ⟨this.1, this.2.1⟩
  ins p hp hk := by
    obtain ⟨i, hi⟩ := List.getElem?_of_mem hp
    obtain ⟨c, hc, _, e1, e2, _, e4, _⟩ := hn.of hi
    have := (h.loc c.sign).ins c (mem_sg (List.mem_of_getElem? hc)) (by rw [← e1]; exact hk)
    rw [e2, e4]; exact ⟨this.1, this.2.1⟩
  set p hp hk := by
    obtain ⟨i, hi⟩ := List.getElem?_of_mem hp
    obtain ⟨c, hc, _, e1, e2, e3, e4, _⟩ := hn.of hi
    obtain ⟨x, y, h1, h2, h3, h4⟩ := (h.loc c.sign).set c (mem_sg (List.mem_of_getElem? hc)) (by rw [← e1]; exact hk)
    rw [e2, e3, e4]; exact ⟨x, y, h1, h2, h3, h4⟩
  one p hp q hq hs := by
    obtain ⟨i, hi⟩ := List.getElem?_of_mem hp
    obtain ⟨j, hj⟩ := List.getElem?_of_mem hq
    obtain ⟨c, hc, f1, e1, e2, e3, _⟩ := hn.of hi
    obtain ⟨d, hd, f2, g1, g2, g3, _⟩ := hn.of hj
    have key : ∀ (i j : Nat) (c d : Pc), l[i]? = some c → l[j]? = some d → c.sign = d.sign → i < j → c.kind = 1 ∧ d.kind = 1 ∧ c.field ≠ d.field := fun i j c d hc hd hs hij => by
      have hpw := (h.loc c.sign).one
      have hsub : [c, d].Sublist (l.filter fun p => p.sign == c.sign) := by
        have h1 : [c, d].Sublist l := by
          obtain ⟨l1, m1⟩ := List.getElem?_eq_some_iff.1 hc
          obtain ⟨l2, m2⟩ := List.getElem?_eq_some_iff.1 hd
          have : l = l.take (i + 1) ++ l.drop (i + 1) := (List.take_append_drop ..).symm
          rw [this]
          refine List.Sublist.append (l₁ := [c]) (r₁ := [d]) ?_ ?_
          · refine List.singleton_sublist.2 ?_
            rw [List.take_add_one, hc]; simp
          · refine List.singleton_sublist.2 ?_
            have : (l.drop (i + 1))[j - (i + 1)]? = some d := by rw [List.getElem?_drop, show i + 1 + (j - (i + 1)) = j by omega]; exact hd
            exact List.mem_of_getElem? this
        have h2 := h1.filter (fun p : Pc => p.sign == c.sign)
        rwa [List.filter_eq_self.2 (by intro p hp; simp at hp; rcases hp with rfl | rfl <;> simp [hs])] at h2
      have := hpw.sublist hsub
      rw [List.pairwise_cons] at this
      exact this.1 d (List.mem_singleton.2 rfl) hs
    have hs' : c.sign = d.sign := by rw [← e2, ← g2]; exact hs
    rcases Nat.lt_trichotomy i j with g | g | g
    · left
      rw [e1, g1, e3, g3]; exact key i j c d hc hd hs' g
    · right; rw [f1, f2, g]
    · left
      obtain ⟨k1, k2, k3⟩ := key j i d c hd hc hs'.symm g
      rw [e1, g1, e3, g3]; exact ⟨k2, k1, fun e => k3 e.symm⟩
  allrem s x hx hy := by
    obtain ⟨c, hc, hk⟩ := (h.loc s).allrem x hx hy
    rw [List.mem_filter] at hc
    obtain ⟨p, hp, e1, e2, _⟩ := hn.to hc.1
    exact ⟨p, hp, by rw [e1, hk], by rw [e2]; simpa using hc.2⟩
  allins s y hx hy := by
    obtain ⟨c, hc, hk⟩ := (h.loc s).allins y hx hy
    rw [List.mem_filter] at hc
    obtain ⟨p, hp, e1, e2, _⟩ := hn.to hc.1
    exact ⟨p, hp, by rw [e1, hk], by rw [e2]; simpa using hc.2⟩
  allset s x y hx hy := by
    obtain ⟨h1, h2⟩ := (h.loc s).allset x y hx hy
    refine ⟨h1, fun f hf hne => ?_⟩
    obtain ⟨c, hc, hk, hcf⟩ := h2 f hf hne
    rw [List.mem_filter] at hc
    obtain ⟨p, hp, e1, e2, e3, _⟩ := hn.to hc.1
    exact ⟨p, hp, by rw [e1, hk], by rw [e2]; simpa using hc.2, by rw [e3, hcf]⟩
end Go.Proofs.YtoicbikdenlioaaGreat
end
section
namespace Go.Proofs.YtoicbikdenlioaaGreat
open Go Go.Kn Go.Proofs
theorem frm_set {y : Sg} (h : frm y = true) {f : Int} (hf : isF f) : frm (setG plainG f (setG zeroG f y)) = true := by
  unfold frm frmL within at h
  simp only [Bool.and_eq_true, decide_eq_true_eq] at h
  have hp : spanF 0 1 1 2 = true := span_p1
  rcases isF_cases hf with rfl | rfl | rfl | rfl | rfl | rfl | rfl | rfl | rfl <;>
  · unfold frm frmL within setG plainG zeroG
    simp [hp]
    first | omega | exact h.2
theorem set_zero2 {y : Sg} {f : Int} (hf : isF f) : setG (setG zeroG f y) f zeroG = zeroG := by
  rcases isF_cases hf with rfl | rfl | rfl | rfl | rfl | rfl | rfl | rfl | rfl <;> rfl
theorem srt_frm {a : List Sg} (h : chkG a = 0) {s : Int} {x : Sg} (hx : lookG a s = some x) : frm x = true ∧ x.id = s := ⟨skB_frm (chkG_ok h).2 (look_mem hx), look_id hx⟩
theorem frm_id9 {x : Sg} (h : frm x = true) : 0 ≤ x.id ∧ x.id ≤ 1048576 := by
  unfold frm frmL within at h
  simp only [Bool.and_eq_true, decide_eq_true_eq] at h
  omega
theorem ndB_of {id : Int} {v : List Int} (h1 : ∀ n ∈ v, 1 ≤ n ∧ n < id) (h2 : v.Pairwise (· < ·)) : ndB id v = true := by
  unfold ndB
  refine List.all_eq_true.2 fun i hi => ?_
  have hi := List.mem_range.1 hi
  have hg : v.getD i 0 = v[i] := by rw [List.getD_eq_getElem?_getD, List.getElem?_eq_getElem hi]; rfl
  have hb := h1 _ (List.getElem_mem hi)
  unfold ndP
  rw [hg]
  by_cases h0 : i = 0
  · subst h0
    simp
    omega
  · have hj : ((i : Int) - 1).toNat = i - 1 := by omega
    have hg2 : v.getD (i - 1) 0 = v[i - 1] := by rw [List.getD_eq_getElem?_getD, List.getElem?_eq_getElem (by omega)]; rfl
    have := List.pairwise_iff_getElem.1 h2 (i - 1) i (by omega) hi (by omega)
    rw [hj, hg2]
    simp
    omega
/-- Each patch of a difference is right. -/
theorem num_pchk {a b : List Sg} {l : List Pc} {ps : List Pt} {first : Int} {needs : List Int} (hd : DcOK a b l) (hn : Num first needs l ps) (ha : chkG a = 0) (hb : chkG b = 0) (h1 : 1 ≤ first) (hmax : first + (l.length : Int) - 1 ≤ 1048576) (hnl : needs.length ≤ 32) (hn1 : ∀ n ∈ needs, 1 ≤ n ∧ n < first) (hn2 : needs.Pairwise (· < ·)) {p : Pt} (hp : p ∈ ps) : pchk p = 0 := by
  obtain ⟨i, hi⟩ := List.getElem?_of_mem hp
  have hil := (List.getElem?_eq_some_iff.1 hi).1
  rw [hn.len] at hil
  obtain ⟨c, hc, e0, e1, e2, e3, e4, e5⟩ := hn.of hi
  have hloc := hd.loc c.sign
  have hm := mem_sg (List.mem_of_getElem? hc)
  unfold pchk
  rw [e5, if_neg (by omega), if_pos]
  rw [Bool.and_eq_true, Bool.and_eq_true]
  refine ⟨ndB_of (fun n hn => ?_) hn2, ?_, ?_⟩
  · have := hn1 n hn; omega
  · have hsg : 0 ≤ c.sign ∧ c.sign ≤ 1048576 := by
      rcases hloc.kind c hm with k | k | k
      · obtain ⟨x, _, hx, _⟩ := hloc.set c hm k
        obtain ⟨f1, f2⟩ := srt_frm ha hx
        have := frm_id9 f1; omega
      · obtain ⟨_, hy, _⟩ := hloc.ins c hm k
        obtain ⟨f1, f2⟩ := srt_frm hb hy
        have := frm_id9 f1; omega
      · obtain ⟨hx, _⟩ := hloc.rem c hm k
        obtain ⟨x, hx⟩ := Option.isSome_iff_exists.1 hx
        obtain ⟨f1, f2⟩ := srt_frm ha hx
        have := frm_id9 f1; omega
    unfold idB
    rw [e0, e2]
    simp
    omega
  · unfold kndB
    rcases hloc.kind c hm with k | k | k
    · obtain ⟨x, y, hx, hy, hf, hw⟩ := hloc.set c hm k
      rw [if_pos (by rw [e1, k]), e3, e4, hw, set_zero2 hf, sgEq_self, frm_set (srt_frm hb hy).1 hf]
      have : within c.field 1 9 = true := by unfold within; unfold isF at hf; simp; omega
      rw [this]; rfl
    · obtain ⟨_, hy, hf⟩ := hloc.ins c hm k
      obtain ⟨f1, f2⟩ := srt_frm hb hy
      rw [if_neg (by rw [e1, k]; decide), if_pos (by rw [e1, k]), e3, hf, e4, e2, f2, f1]
      simp
    · obtain ⟨_, _, hf, hw⟩ := hloc.rem c hm k
      rw [if_neg (by rw [e1, k]; decide), if_neg (by rw [e1, k]; decide), if_pos (by rw [e1, k]), e3, hf, e4, hw, sgEq_self]
      rfl
/-- Patches without needs. -/
theorem on_none9 : ∀ (ps : List Pt) (f : Int → Int → Bool), (∀ a b, f a b = false) → (∀ p ∈ ps, p.needs = []) → ∀ a b, ps.foldl onS f a b = false
  | [], f, hf, _, a, b => hf a b
  | p :: ps, f, hf, h, a, b => by
    rw [List.foldl_cons]
    refine on_none9 ps _ (fun a b => ?_) (fun q hq => h q (List.mem_cons_of_mem _ hq)) a b
    unfold onS
    split
    · rw [h p (List.mem_cons_self ..)]; rfl
    · exact hf a b
theorem on_none {ps : List Pt} (h : ∀ p ∈ ps, p.needs = []) (a b : Int) : onF ps a b = false := on_none9 ps _ (fun _ _ => rfl) h a b
theorem lst_plain {ps : List Pt} {first : Int} (h1 : 1 ≤ first) (hid : ∀ (i : Nat) (p : Pt), ps[i]? = some p → p.id = first + i) (hn : ∀ p ∈ ps, p.needs = []) : Lst ps where
  pos p hp := by
    obtain ⟨i, hi⟩ := List.getElem?_of_mem hp
    rw [hid i p hi]; omega
  inc := by
    rw [List.pairwise_iff_getElem]
    intro i j hi hj hij
    rw [hid i _ (List.getElem?_eq_getElem hi), hid j _ (List.getElem?_eq_getElem hj)]
    omega
  has p hp n hm := by rw [hn p hp] at hm; cases hm
/-- Two stores, one after the other. -/
theorem two_id {p q : List Pt} {lp lq : List Pc} {n1 n2 : List Int} (hp : Num 1 n1 lp p) (hq : Num (1 + (p.length : Int)) n2 lq q) : ∀ (i : Nat) (x : Pt), (p ++ q)[i]? = some x → x.id = 1 + i := fun i x hx => by
  by_cases h : i < p.length
  · rw [List.getElem?_append_left h] at hx
    obtain ⟨_, _, e, _⟩ := hp.of hx
    exact e
  · rw [List.getElem?_append_right (by omega)] at hx
    obtain ⟨_, _, e, _⟩ := hq.of hx
    rw [e]; omega
theorem num_needs {first : Int} {needs : List Int} {l : List Pc} {ps : List Pt} (h : Num first needs l ps) : ∀ p ∈ ps, p.needs = needs := fun p hp => by
  obtain ⟨i, hi⟩ := List.getElem?_of_mem hp
  obtain ⟨_, _, _, _, _, _, _, e⟩ := h.of hi
  exact e
/-- Both rooms have inserted one sign. -/
def Both (p q : List Pt) : Prop := ∃ x ∈ p, ∃ y ∈ q, x.kind = 2 ∧ y.kind = 2 ∧ x.sign = y.sign
theorem sto_two {base a b : List Sg} {p q : List Pt} (hl : Lst (p ++ q)) (hok : ∀ x ∈ p ++ q, pchk x = 0) (hn : ∀ x ∈ p ++ q, x.needs = []) (hp : DifOK base a p) (hq : DifOK base b q) (hb : ¬ Both p q) : Sto (p ++ q) where
  lst := hl
  ok x hx := pchk_ok (hok x hx)
  tog x hx y hy hne := by
    unfold togB
    rw [on_none hn]
    by_cases hs : x.sign = y.sign
    · rw [if_neg (by simpa using hs)]
      have hk2 : y.kind ≠ 2 := fun hk => by
        rcases List.mem_append.1 hx with gx | gx <;> rcases List.mem_append.1 hy with gy | gy
        · rcases hp.one x gx y gy hs with ⟨_, g, _⟩ | g
          · omega
          · exact hne g
        · have hy2 := (hq.ins y gy hk).1
          rcases hp.kind x gx with k | k | k
          · obtain ⟨_, _, g, _⟩ := hp.set x gx k
            rw [hs, hy2] at g; cases g
          · exact hb ⟨x, gx, y, gy, k, hk, hs⟩
          · have g := (hp.rem x gx k).1
            rw [hs, hy2] at g; cases g
        · have hy2 := (hp.ins y gy hk).1
          rcases hq.kind x gx with k | k | k
          · obtain ⟨_, _, g, _⟩ := hq.set x gx k
            rw [hs, hy2] at g; cases g
          · exact hb ⟨y, gy, x, gx, hk, k, hs.symm⟩
          · have g := (hq.rem x gx k).1
            rw [hs, hy2] at g; cases g
        · rcases hq.one x gx y gy hs with ⟨_, g, _⟩ | g
          · omega
          · exact hne g
      rw [if_neg hk2]
      split <;> rfl
    · rw [if_pos hs]
end Go.Proofs.YtoicbikdenlioaaGreat
end
section
namespace Go.Proofs.YtoicbikdenlioaaGreat
open Go Go.Kn Go.Proofs
theorem topo_self {l : List Pt} (h : Lst l) : Topo l l where
  perm := List.Perm.refl _
  need t1 p t2 e n hn := by
    obtain ⟨hlt, q, hq, hqn⟩ := h.has p (by rw [e]; simp) n hn
    rw [e] at hq
    rcases List.mem_append.1 hq with g | g
    · exact ⟨q, g, hqn⟩
    · exfalso
      have hi := h.inc
      rw [e, List.pairwise_append] at hi
      rcases List.mem_cons.1 g with g | g
      · subst g; omega
      · have := (List.pairwise_cons.1 hi.2.1).1 q g; omega
theorem topo_plain {l t : List Pt} (hp : t.Perm l) (hn : ∀ p ∈ l, p.needs = []) : Topo l t where
  perm := hp
  need t1 p t2 e n hm := by
    rw [hn p (hp.mem_iff.1 (by rw [e]; simp))] at hm; cases hm
theorem lst_nodup {l : List Pt} (h : Lst l) : (l.map (·.id)).Nodup := by
  unfold List.Nodup
  rw [List.pairwise_map]
  exact h.inc.imp fun {a b} h e => by omega
theorem hasS_some {xs : List Sg} {s : Int} : hasS xs s = true ↔ (lookG xs s).isSome = true := by rw [hasS_look]
theorem fit_dif {base a : List Sg} {p l : List Pt} (hd : DifOK base a p) {x : Pt} (hx : x ∈ p) : fitP base l x = true := by
  unfold fitP
  rcases hd.kind x hx with k | k | k
  · obtain ⟨y, _, g, _⟩ := hd.set x hx k
    have : hasS base x.sign = true := hasS_some.2 (by rw [g]; rfl)
    rw [k, this]; rfl
  · have g := (hd.ins x hx k).1
    have : hasS base x.sign = false := by rw [hasS_look, g]; rfl
    rw [k, this]; rfl
  · have g := (hd.rem x hx k).1
    have : hasS base x.sign = true := hasS_some.2 g
    rw [k, this]; rfl
theorem fit_two {base a b : List Sg} {p q : List Pt} (hp : DifOK base a p) (hq : DifOK base b q) : fitB base (p ++ q) = true := by
  unfold fitB
  refine List.all_eq_true.2 fun x hx => ?_
  rcases List.mem_append.1 hx with g | g
  · exact fit_dif hp g
  · exact fit_dif hq g
theorem chk_all {ps : List Pt} (h : chkR ps = 0) {p : Pt} (hp : p ∈ ps) : pchk p = 0 := orF_zero.1 (chkR_ok h).2.1 _ (List.mem_map.2 ⟨p, hp, rfl⟩)
/-- The signs of a version that is a difference. -/
theorem sgn_dif {base a : List Sg} {store p : List Pt} {v : List Int} (hc : chkR store = 0) (hb : chkG base = 0) (ha : chkG a = 0) (hv : Ver store v) (hvl : verL store v = p) (hl : v.length ≤ 512) (hn : base.length + p.length ≤ 4096) (hd : DifOK base a p) : sgnE store base v = 0 ∧ sgnF store base v = a := by
  have hlst := chkR_lst hc
  have hsp : Sto p := hvl ▸ verL_sto (chkR_sto hc) hv
  have hpc : ∀ x ∈ p, pchk x = 0 := fun x hx => chk_all hc (mem_verL.1 (by rw [hvl]; exact hx)).1
  have hfit : fitB base p = true := by
    unfold fitB
    exact List.all_eq_true.2 fun x hx => fit_dif hd hx
  have hap := hd.apart (lst_nodup hsp.lst)
  obtain ⟨_, h2⟩ := run_st (skB_srt (chkG_ok hb).2) hsp hpc hfit hap.calm (topo_self hsp.lst) hn (skB_srt (chkG_ok ha).2) (dif_st hd)
  have hon := verL_onEq hlst hv
  rw [hvl] at hon
  have h3 : sgnL (onF store) base (verL store v) = a := by rw [hvl, ← sgnL_eq hon base, h2]
  have hP : patE store base v = 0 := by
    unfold patE
    rw [if_neg (by omega), if_neg (by omega), if_neg (by omega), if_pos]
    rw [Bool.and_eq_true, hvl]
    exact ⟨(verB_iff hlst).2 hv, hfit⟩
  have hE : sgnE store base v = 0 := by
    unfold sgnE
    rw [if_neg (by omega), h3, if_neg (by have := (chkG_ok ha).1; omega)]
  exact ⟨hE, by unfold sgnF; rw [hE, resF_ok rfl, h3]⟩
/-- A part of a store without needs. -/
theorem ver_plain {store t : List Pt} (hl : Lst store) (hs : t.Sublist store) (hn : ∀ p ∈ t, p.needs = []) : Ver store (t.map (·.id)) where
  inc := by
    rw [List.pairwise_map]
    exact hl.inc.sublist hs
  sub x hx := by
    obtain ⟨p, hp, rfl⟩ := List.mem_map.1 hx
    exact ⟨p, hs.subset hp, rfl⟩
  need p hp hm n hnn := by
    obtain ⟨q, hq, e⟩ := List.mem_map.1 hm
    have : q = p := hl.uniq (hs.subset hq) hp e
    subst this
    rw [hn q hq] at hnn; cases hnn
theorem verL_part {store t : List Pt} (hl : Lst store) (hs : t.Sublist store) : verL store (t.map (·.id)) = t := by
  have hsub : (verL store (t.map (·.id))).Sublist store := List.filter_sublist ..
  have key : ∀ (l u w : List Pt), l.Pairwise (fun p q => p.id < q.id) → u.Sublist l → w.Sublist l → (∀ x, x ∈ u ↔ x ∈ w) → u = w := fun l u w h hu hw hm => by
    have h1 : u.map (·.id) = w.map (·.id) := by
      refine sorted_ext (List.pairwise_map.2 (h.sublist hu)) (List.pairwise_map.2 (h.sublist hw)) fun a => ?_
      simp only [List.mem_map, hm]
    refine List.ext_getElem? fun i => ?_
    have h2 : (u.map (·.id))[i]? = (w.map (·.id))[i]? := by rw [h1]
    rw [List.getElem?_map, List.getElem?_map] at h2
    cases e1 : u[i]? with
    | none => rw [e1] at h2; cases e2 : w[i]? with
      | none => rfl
      | some y => rw [e2] at h2; cases h2
    | some x =>
      rw [e1] at h2
      cases e2 : w[i]? with
      | none => rw [e2] at h2; cases h2
      | some y =>
        rw [e2] at h2
        have e3 : x.id = y.id := Option.some.inj h2
        have hx : x ∈ l := hu.subset (List.mem_of_getElem? e1)
        have hy : y ∈ l := hw.subset (List.mem_of_getElem? e2)
        obtain ⟨i', hi⟩ := List.getElem?_of_mem hx
        obtain ⟨j', hj⟩ := List.getElem?_of_mem hy
        have g1 := (List.getElem?_eq_some_iff.1 hi).1
        have g2 := (List.getElem?_eq_some_iff.1 hj).1
        rcases Nat.lt_trichotomy i' j' with g | g | g
        · have := List.pairwise_iff_getElem.1 h i' j' g1 g2 g
          rw [(List.getElem?_eq_some_iff.1 hi).2, (List.getElem?_eq_some_iff.1 hj).2] at this; omega
        · subst g; rw [hi] at hj; exact hj
        · have := List.pairwise_iff_getElem.1 h j' i' g2 g1 g
          rw [(List.getElem?_eq_some_iff.1 hi).2, (List.getElem?_eq_some_iff.1 hj).2] at this; omega
  refine key store _ t hl.inc hsub hs fun x => ?_
  rw [mem_verL]
  constructor
  · rintro ⟨h1, h2⟩
    obtain ⟨q, hq, e⟩ := List.mem_map.1 h2
    have : q = x := hl.uniq (hs.subset hq) h1 e
    exact this ▸ hq
  · intro h; exact ⟨hs.subset h, List.mem_map.2 ⟨x, h, rfl⟩⟩
theorem verL_all {store : List Pt} (hl : Lst store) : verL store (store.map (·.id)) = store := verL_part hl (List.Sublist.refl _)
/-- Both rooms' versions together. -/
theorem mrg_two {p q : List Pt} (hc : chkR (p ++ q) = 0) (hn : ∀ x ∈ p ++ q, x.needs = []) (h1 : p.length ≤ 512) (h2 : q.length ≤ 512) : mrgE (p ++ q) (p.map (·.id)) (q.map (·.id)) = 0 ∧ mrgF (p ++ q) (p.map (·.id)) (q.map (·.id)) = (p ++ q).map (·.id) := by
  have hl := chkR_lst hc
  constructor
  · unfold mrgE
    rw [if_neg (by omega), if_neg (by simp; omega), if_pos]
    rw [Bool.and_eq_true]
    exact ⟨(verB_iff hl).2 (ver_plain hl (List.sublist_append_left ..) fun x hx => hn x (by simp [hx])), (verB_iff hl).2 (ver_plain hl (List.sublist_append_right ..) fun x hx => hn x (by simp [hx]))⟩
  · unfold mrgF
    rw [List.filter_eq_self.2]
    intro x hx
    rw [Bool.or_eq_true, List.any_eq_true, List.any_eq_true]
    rcases List.mem_append.1 hx with g | g
    · exact .inl ⟨x.id, List.mem_map.2 ⟨x, g, rfl⟩, by simp⟩
    · exact .inr ⟨x.id, List.mem_map.2 ⟨x, g, rfl⟩, by simp⟩
theorem run_len : ∀ (t : List Pt) (xs ys : List Sg), runR xs t = (0, ys) → ys.length ≤ xs.length + t.length
  | [], xs, ys, h => by
    unfold runR at h
    have : xs = ys := congrArg Prod.snd h
    subst this; simp
  | p :: t, xs, ys, h => by
    unfold runR at h
    split at h
    · rename_i g; exact absurd (congrArg Prod.fst h) g
    · split at h
      · rename_i g; exact absurd (congrArg Prod.fst h) g
      · have := run_len t _ ys h
        have h2 := ap_len (xs := xs) (p := p)
        rw [List.length_cons]; omega
theorem apart_two {base a b : List Sg} {p q : List Pt} (hl : Lst (p ++ q)) (hp : DifOK base a p) (hq : DifOK base b q) (hov : ∀ x ∈ p, ∀ y ∈ q, ¬ (x.sign = y.sign ∧ ((x.kind ≠ 1 ∨ y.kind ≠ 1) ∨ x.field = y.field))) : Apart (p ++ q) := by
  have hnd := lst_nodup hl
  rw [List.map_append, List.nodup_append] at hnd
  have a1 := hp.apart hnd.1
  have a2 := hq.apart hnd.2.1
  intro x hx y hy hs
  rcases List.mem_append.1 hx with gx | gx <;> rcases List.mem_append.1 hy with gy | gy
  · exact a1 x gx y gy hs
  · left
    have := hov x gx y gy
    exact ⟨Classical.not_not.1 fun g => this ⟨hs, .inl (.inl g)⟩, Classical.not_not.1 fun g => this ⟨hs, .inl (.inr g)⟩, fun g => this ⟨hs, .inr g⟩⟩
  · left
    have := hov y gy x gx
    exact ⟨Classical.not_not.1 fun g => this ⟨hs.symm, .inl (.inr g)⟩, Classical.not_not.1 fun g => this ⟨hs.symm, .inl (.inl g)⟩, fun g => this ⟨hs.symm, .inr g.symm⟩⟩
  · exact a2 x gx y gy hs
/-- A whole store without conflicts: its signs, whatever the order. -/
theorem all_law {base : List Sg} {store t : List Pt} (hc : chkR store = 0) (hb : chkG base = 0) (hcf : cfL (onF store) base store = []) (hf : fitB base store = true) (hlen : base.length + store.length ≤ 4096) (ht : Topo store t) (hv : Ver store (store.map (·.id))) :
    sgnE store base (store.map (·.id)) = 0 ∧ cflF store base (store.map (·.id)) = [] ∧ sgnF store base (store.map (·.id)) = sgnL (onF store) base store ∧ runR base t = (0, sgnL (onF store) base store) := by
  have hl := chkR_lst hc
  have hs := chkR_sto hc
  have hrun := run_law (skB_srt (chkG_ok hb).2) hs (fun p hp => chk_all hc hp) hf hcf ht hlen
  have hvl := verL_all hl
  have h512 := (chkR_ok hc).1
  have hP : patE store base (store.map (·.id)) = 0 := by
    unfold patE
    rw [if_neg (by omega), if_neg (by omega), if_neg (by rw [List.length_map]; omega), if_pos]
    rw [Bool.and_eq_true, hvl]
    exact ⟨(verB_iff hl).2 hv, hf⟩
  have hlen2 := run_len t base _ hrun
  rw [ht.perm.length_eq] at hlen2
  have hE : sgnE store base (store.map (·.id)) = 0 := by
    unfold sgnE
    rw [if_neg (by omega), hvl, if_neg (by omega)]
  refine ⟨hE, ?_, ?_, hrun⟩
  · unfold cflF; rw [hE, resF_ok rfl, hvl]; exact hcf
  · unfold sgnF; rw [hE, resF_ok rfl, hvl]
end Go.Proofs.YtoicbikdenlioaaGreat
end
