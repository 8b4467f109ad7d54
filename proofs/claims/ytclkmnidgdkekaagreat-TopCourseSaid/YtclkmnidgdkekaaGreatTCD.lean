/- topCourse_holds, part D of the proof: what its theorems say holds without further conditions. -/
import Derived.Shelf.SlSortCmp.Whole1
import Derived.Test.YtclkmnidgdkekaaGreatTCC
section
namespace Go.Proofs.YtclkmnidgdkekaaGreat
open Go Go.Kn Go.Proofs
theorem w_chkR {I : HMap} {av : Option Addr} {n c : Nat} {ps : List Pt} (hP : SlP I av n c ps) (hn : n ≤ 100000) : RetV Tryz.prog 22 [.slice av n c] I (.int .i64 (chkR ps)) := by
 intro g H w hw
 refine enter Tryz.func22 rfl Tryz.ntmps22 rfl hw ?_
 have hIc := HLe.refl I
 refine zR ?_
 refine zA ?_
 refine zN ?_
 refine X_seq ?_
 refine zR ?_
 refine zM ?_
 refine zQ slt_22 ?_
 refine zC ?_
 refine zN ?_
 refine zI ?_ ?_ <;> intro hc24
 ·
  have hlen : ps.length > 512 := by rw [hP.len]; simp at hc24; omega
  refine zR ?_
  refine zA ?_
  refine zN ?_
  refine X_ret ?_
  refine at_then_r ?_
  exact at_ret1 rfl rfl (fun w hw => ⟨by rw [chkR_1 hlen], (hw.mono hIc).drop⟩)
 have hlen : ¬ ps.length > 512 := by rw [hP.len]; simp at hc24; omega
 refine X_skip ?_
 refine at_then ?_
 refine X_seq ?_
 refine zR ?_
 refine zM ?_
 refine zQ slt_22 ?_
 refine zM ?_
 refine zN ?_
 refine X_block ?_
 refine X_loopT [(0, _), (25, _), (26, _)] (.cons rfl (.cons rfl (.cons rfl .nil))) (fun T L0 mz E I' loc' => ∃ (k : Nat) (e : Int), mz = n - k ∧ E = (27, .int .i64 k) :: T ∧ I = I' ∧ L0 = loc' ∧ k ≤ n ∧ e = 0 ∧ orF ((ps.take k).map pchk) = 0) _ _ _ _ ⟨0, 0, rfl, rfl, rfl, rfl, Nat.zero_le _, rfl, rfl⟩ (.cons rfl (.cons rfl (.cons rfl (.cons rfl .nil)))) (HLe.refl _) rfl ?_
 rintro mz E I' loc' ⟨k, e, rfl, rfl, rfl, rfl, hk, he, h0⟩
 refine zR ?_
 refine zC ?_
 refine zN ?_
 refine X_seq ?_
 refine zI ?_ ?_ <;> intro hc28
 ·
  have hlt_k : k < n := by have h := hc28; simp at h; omega
  have hP1 := hP.1
  obtain ⟨p, hp, hN⟩ := hP.at hlt_k
  have hpm := List.mem_of_getElem? hp
  have hN : Sl I 1 encI p.a p.n p.c p.needs := hN
  refine X_skip ?_
  refine at_then ?_
  refine X_seq ?_
  refine X_block ?_
  refine zR ?_
  refine zV (ev_indexSl rfl rfl slt_22 (by assumption) (fun hg => by omega)) ?_
  refine zV (ev_loadA rfl agt_66 (fun hg => by exact Sl.getA hP1 hp) rfl) ?_
  refine XO_alloc zt_66 rfl rfl (fun b_4 => ?_)
  refine XO_storeA rfl rfl szt_66 rfl rfl rfl rfl (by repeat (first | exact Upd.here | apply Upd.there | apply upd_app)) ?_
  refine zN (zR ?_)
  refine zV (ev_loadA rfl agt_66 (fun hg => by (repeat (first | exact Cells.here | exact Cells.s0 (vs := [_, _, _, _, _, _, _, _, _, _, _, _, _, _, _, _, _, _, _]) rfl | apply Cells.there | apply Cells.app))) rfl) ?_
  refine XO_callV0 (cap := []) (vs := [_]) rfl rfl fun_54 (w_pchk p hN) rfl rfl ?_
  refine zA ?_
  refine zN (zR ?_)
  refine zM ?_
  refine zC ?_
  refine zN ?_
  refine zI ?_ ?_ <;> intro hc34
  ·
   have hbad : chkR ps = pchk p := chkR_2 hlen hp h0 (by simpa using hc34)
   refine zR ?_
   refine zM ?_
   refine zA ?_
   refine zN ?_
   refine X_ret ?_
   refine at_block_r ?_
   refine at_then_r ?_
   refine at_then_r ?_
   refine at_block_r ?_
   refine at_then_r ?_
   exact at_ret1 rfl rfl (fun w hw => ⟨by rw [hbad], (hw.mono hIc).drop⟩)
  have hpk : pchk p = 0 := by simpa using hc34
  refine X_skip ?_
  refine at_block_n ?_
  refine at_then ?_
  refine X_region ?_
  refine zV (ev_arB rfl rfl rfl (fun _ => by omega)) ?_
  refine zM ?_
  refine XO_nil ?_
  exact at_met2 _ _ ⟨n - (k + 1), by omega, k + 1, _, rfl, rfl, rfl, rfl, by omega, hpk, or_snoc hp h0 hpk⟩ (.cons rfl (.cons rfl (.cons rfl (.cons rfl .nil)))) (by repeat (first | exact .refl | exact subL_left | refine subL_app ?_ | refine .drop ?_ | refine subL_add ?_))
 have hge_k : n ≤ k := by have h := hc28; simp at h; omega
 have h0 : orF (ps.map pchk) = 0 := by rw [take_all hP.len hge_k] at h0; exact h0
 have hz : ∀ p ∈ ps, pchk p = 0 := fun p hp => orF_zero.1 h0 _ (List.mem_map.2 ⟨p, hp, rfl⟩)
 have hnd := nd_of hP hz
 refine X_exit ?_
 refine at_then_e ?_
 refine at_then_e ?_
 refine at_block_hit ?_
 refine at_then ?_
 refine zR ?_
 refine XO_makeMap rfl rfl (fun r_37 => ?_)
 refine XO_alloc zt_112 rfl rfl (fun b_5 => ?_)
 refine zS szt_112 ?_
 refine zA ?_
 refine zN ?_
 refine X_seq ?_
 refine zR ?_
 refine zM ?_
 refine zQ slt_22 ?_
 refine zM ?_
 refine zN ?_
 refine X_block ?_
 refine X_loopT [(0, _), (5, _), (38, _), (39, _)] (.cons rfl (.cons rfl (.cons rfl (.cons rfl .nil)))) (fun T L0 mz E I' loc' => ∃ (k : Nat) (l : Int) (s : List (Int × Bool)), mz = n - k ∧ E = (6, .int .i64 l) :: (40, .int .i64 k) :: T ∧ I = I' ∧ [(b_5, .cells #[.map (some r_37)] 112 (0, 0)), (r_37, mapO (Value.int .i64) Value.bool s)] = loc' ∧ k ≤ n ∧ (List.range k).all (lsQ ps) = true ∧ lastI (idsP ps) k l ∧ ∀ x, setM s x = hasI (ps.take k) x) _ _ _ _ ⟨0, 0, [], rfl, rfl, rfl, rfl, Nat.zero_le _, rfl, ⟨fun _ => rfl, fun y hy h => absurd rfl h⟩, fun x => rfl⟩ (.cons rfl (.cons rfl (.cons rfl (.cons rfl (.cons rfl (.cons rfl .nil)))))) (HLe.refl _) rfl ?_
 rintro mz E I' loc' ⟨k, l, s, rfl, rfl, rfl, rfl, hk, hall, hl, hs⟩
 refine zR ?_
 refine zC ?_
 refine zN ?_
 refine X_seq ?_
 refine zI ?_ ?_ <;> intro hc41
 ·
  have hlt_k : k < n := by have h := hc41; simp at h; omega
  have hP1 := hP.1
  obtain ⟨p, hp, hN⟩ := hP.at hlt_k
  have hpm := List.mem_of_getElem? hp
  have hN : Sl I 1 encI p.a p.n p.c p.needs := hN
  have hpn := hnd p hpm
  have hp1 := (pchk_pos (hz p hpm)).1
  refine X_skip ?_
  refine at_then ?_
  refine X_seq ?_
  refine X_block ?_
  refine zR ?_
  refine zV (ev_indexSl rfl rfl slt_22 (by assumption) (fun hg => by omega)) ?_
  refine zV (ev_loadA rfl agt_66 (fun hg => by exact Sl.getA hP1 hp) rfl) ?_
  refine XO_alloc zt_66 rfl rfl (fun b_8 => ?_)
  refine XO_storeA rfl rfl szt_66 rfl rfl rfl rfl (by repeat (first | exact Upd.here | apply Upd.there | apply upd_app)) ?_
  refine zN ?_
  refine X_seq ?_
  refine zR ?_
  refine zF fld_66_0 ?_
  refine zV (ev_load rfl sct_3 (fun hg => by (repeat (first | exact Cell.here rfl | apply Cell.there | apply Cell.app)))) ?_
  refine zM ?_
  refine zC ?_
  refine zM ?_
  refine XO_pushF 4 rfl rfl rfl ?_
  refine zJ (ev_fieldAddr rfl fld_66_5) ?_
  refine zJ (ev_load rfl sct_24 (fun hg => by (repeat (first | exact Cell.here rfl | apply Cell.there | apply Cell.app)))) ?_
  refine zJ (ev_makeFunc (us := []) (vs := [_]) rfl rfl) ?_
  refine XO_callK1 (cap := []) (vs := [_, _]) rfl rfl fun_55 split_all (fun hg => RetK.ofV fun I' hI' hL' => w_cnI (cap := [.pointer (some ⟨b_5, 0, none⟩)]) (hN.mono hI') hpn fun_56 (fun x _ => w_ck1 (b := b_5) (r := r_37) (s := s) (hL' b_5 _ (by simp)) (hL' r_37 _ (by simp)) x)) (.some rfl rfl rfl rfl gbf) rfl rfl ?_
  refine XO_or0 rfl rfl rfl rfl rfl ?_
  refine zN ?_
  refine zI ?_ ?_ <;> intro hc53
  ·
   have hbad : chkR ps = 380 := chkR_3 hlen h0 (by rw [← lsQ_lsP h0]; exact range_bad (k := k) (by rw [hP.len]; exact hlt_k) (by rw [lsQ_at hp hp1 hl hs]; exact congrArg (! ·) hc53))
   refine zR ?_
   refine zA ?_
   refine zN ?_
   refine X_ret ?_
   refine at_then_r ?_
   refine at_block_r ?_
   refine at_then_r ?_
   refine at_then_r ?_
   refine at_block_r ?_
   refine at_then_r ?_
   exact at_ret1 rfl rfl (fun w hw => ⟨by rw [hbad], (hw.mono hIc).drop⟩)
  refine X_skip ?_
  refine at_then ?_
  have hD := HLe.refl I
  refine X_noP ?_
  refine X_drawS I [(b_8, .cells (encP p).toArray 66 (0, 0)), (b_5, .cells #[.map (some r_37)] 112 (0, 0))] mixed ?_
  refine zT 0 rfl (ev_load rfl sct_112 (fun hg => by (repeat (first | exact Cell.here rfl | apply Cell.there | apply Cell.app)))) hD ?_
  refine zT 1 rfl (ev_fieldAddr rfl fld_66_0) hD ?_
  refine zT 2 rfl (ev_load rfl sct_3 (fun hg => by (repeat (first | exact Cell.here rfl | apply Cell.there | apply Cell.app)))) hD ?_
  refine zT 3 rfl (ev_fieldAddr rfl fld_66_0) hD ?_
  refine zT 4 rfl (ev_load rfl sct_3 (fun hg => by (repeat (first | exact Cell.here rfl | apply Cell.there | apply Cell.app)))) hD ?_
  refine XD_one 5 rfl (by kernel_rfl) ?_
  refine XO_mapUpdate (m := s) (ek := Value.int .i64) (ev := Value.bool) (a := p.id)  true mpt_112 key_3 rfl rfl rfl rfl (by repeat (first | exact Upd.here | apply Upd.there | apply upd_app)) ?_
  refine XO_nil ?_
  refine zD hD ?_
  refine zT 6 rfl (ev_assign rfl) hD ?_
  refine XD_done (by kernel_rfl) ?_
  refine at_noP ?_
  refine at_block_n ?_
  refine at_then ?_
  refine X_region ?_
  refine zV (ev_arB rfl rfl rfl (fun _ => by omega)) ?_
  refine zM ?_
  refine XO_nil ?_
  exact at_met2 _ _ ⟨n - (k + 1), by omega, k + 1, _, _, rfl, rfl, rfl, rfl, by omega, range_step hall (by rw [lsQ_at hp hp1 hl hs]; exact congrArg (! ·) hc53), lastP_step hp, fun x => by rw [setM_put, hs, has_snoc hp]⟩ (.cons rfl (.cons rfl (.cons rfl (.cons rfl (.cons rfl (.cons rfl .nil)))))) (by repeat (first | exact .refl | exact subL_left | refine subL_app ?_ | refine .drop ?_ | refine subL_add ?_))
 have hge_k : n ≤ k := by have h := hc41; simp at h; omega
 have hls : lsB ps = true := by rw [← lsQ_lsP h0, hP.len, show n = k by omega]; exact hall
 have hL : Lst ps := ls_lst h0 hls
 refine X_exit ?_
 refine at_then_e ?_
 refine at_then_e ?_
 refine at_block_hit ?_
 refine at_then ?_
 refine zR ?_
 refine zM ?_
 refine XO_callM (cap := []) (vs := [_]) rfl rfl fun_57 .nil (w_stands hP hn hL hnd) rfl rfl ?_
 rintro vv3 I3 L3 hI3 ⟨rfl, r9, rfl, hOn⟩
 have hP := hP.mono hI3; have hIc := hIc.trans hI3
 refine zA ?_
 refine zN (zR ?_)
 refine XO_makeMap rfl rfl (fun r_62 => ?_)
 refine XO_makeMap rfl rfl (fun r_63 => ?_)
 refine zA ?_
 refine zA ?_
 refine zN ?_
 refine X_seq ?_
 refine X_seq ?_
 refine X_dropTo [(r_63, mapO (Value.int .i64) fstT []), (r_62, mapO (Value.int .i64) (Value.int .i64) [])] (by repeat (first | exact subL_nil | exact .refl | refine .keep ?_ | refine .drop ?_)) ?_
 refine X_region ?_
 refine zM ?_
 refine zQ slt_22 ?_
 refine zM ?_
 refine zN ?_
 refine X_block ?_
 refine X_loopT [(0, _), (9, _), (10, _), (11, _), (64, _), (65, _)] (.cons rfl (.cons rfl (.cons rfl (.cons rfl (.cons rfl (.cons rfl .nil)))))) (fun T L0 mz E I' loc' => ∃ (k : Nat) (mi : List (Int × Int)) (mr : List (Int × (Value × Nat × List Value))) (L : Go.Kn.Loc), mz = n - k ∧ E = (66, .int .i64 k) :: T ∧ I3 = I' ∧ (r_63, mapO (Value.int .i64) fstT mr) :: (r_62, mapO (Value.int .i64) (Value.int .i64) mi) :: L = loc' ∧ k ≤ n ∧ InsM mi (ps.take k) ∧ RemM mr (ps.take k) ∧ OwnAll 3 1 (mr.map (·.2)) L) _ _ _ _ ⟨0, [], [], [], rfl, rfl, rfl, rfl, Nat.zero_le _, InsM.nil, RemM.nil, OwnAll.nil⟩ (.cons rfl (.cons rfl (.cons rfl (.cons rfl (.cons rfl (.cons rfl (.cons rfl .nil))))))) (HLe.refl _) rfl ?_
 rintro mz E I' loc' ⟨k, mi, mr, L, rfl, rfl, rfl, rfl, hk, hmi, hmr, hAll⟩
 refine zR ?_
 refine zC ?_
 refine zN ?_
 refine X_seq ?_
 refine zI ?_ ?_ <;> intro hc67
 ·
  have hlt_k : k < n := by have h := hc67; simp at h; omega
  have hP1 := hP.1
  obtain ⟨p, hp, hN⟩ := hP.at hlt_k
  have hpm := List.mem_of_getElem? hp
  have hN : Sl I3 1 encI p.a p.n p.c p.needs := hN
  have hpn := hnd p hpm
  refine X_skip ?_
  refine at_then ?_
  refine X_seq ?_
  refine X_block ?_
  refine zR ?_
  refine zV (ev_indexSl rfl rfl slt_22 (by assumption) (fun hg => by omega)) ?_
  refine zV (ev_loadA rfl agt_66 (fun hg => by exact Sl.getA hP1 hp) rfl) ?_
  refine XO_alloc zt_66 rfl rfl (fun b_13 => ?_)
  refine XO_storeA rfl rfl szt_66 rfl rfl rfl rfl (by repeat (first | exact Upd.here | apply Upd.there | apply upd_app)) ?_
  refine zN (zR ?_)
  refine zF fld_66_1 ?_
  refine zV (ev_load rfl sct_3 (fun hg => by (repeat (first | exact Cell.here rfl | apply Cell.there | apply Cell.app)))) ?_
  refine zN ?_
  refine X_block ?_
  refine zR ?_
  refine zC ?_
  refine zA ?_
  refine zN ?_
  refine zI ?_ ?_ <;> intro hc72
  ·
   have hk2 : p.kind = 2 := by simpa using hc72
   refine X_seq ?_
   refine zR ?_
   refine zM ?_
   refine zF fld_66_2 ?_
   refine zV (ev_load rfl sct_3 (fun hg => by (repeat (first | exact Cell.here rfl | apply Cell.there | apply Cell.app)))) ?_
   refine zV (ev_lookupOkI (m := mi) (ek := Value.int .i64) (a := p.sign)  mpt_81 key_3 rfl rfl (fun _ => .inr (by simp))) ?_
   refine zM ?_
   refine zE ?_
   refine zE ?_
   refine zA ?_
   refine zA ?_
   refine zN (zR ?_)
   refine zM ?_
   refine zN ?_
   refine zI ?_ ?_ <;> intro hc81
   ·
    obtain ⟨id, hid⟩ := Option.isSome_iff_exists.1 hc81
    have hbad : chkR ps = 380 := chkR_4 hlen h0 hls (tog_two hL hmi hp hk2 hid)
    refine zR ?_
    refine zA ?_
    refine zN ?_
    refine X_ret ?_
    refine at_then_r ?_
    refine at_block_r ?_
    refine at_block_r ?_
    refine at_then_r ?_
    refine at_then_r ?_
    refine at_block_r ?_
    refine at_then_r ?_
    exact at_ret1 rfl rfl (fun w hw => ⟨by rw [hbad], (hw.mono hIc).drop⟩)
   have hnone : mget mi p.sign = none := by simpa using hc81
   refine X_skip ?_
   refine at_then ?_
   refine X_region ?_
   refine zM ?_
   refine zF fld_66_2 ?_
   refine zV (ev_load rfl sct_3 (fun hg => by (repeat (first | exact Cell.here rfl | apply Cell.there | apply Cell.app)))) ?_
   refine zF fld_66_0 ?_
   refine zV (ev_load rfl sct_3 (fun hg => by (repeat (first | exact Cell.here rfl | apply Cell.there | apply Cell.app)))) ?_
   refine XO_mapUpdate (m := mi) (ek := Value.int .i64) (ev := Value.int .i64) (a := p.sign)  p.id mpt_81 key_3 rfl rfl rfl rfl (by repeat (first | exact Upd.here | apply Upd.there | apply upd_app)) ?_
   refine XO_nil ?_
   refine at_block_n ?_
   refine at_block_n ?_
   refine at_then ?_
   refine X_region ?_
   refine zV (ev_arB rfl rfl rfl (fun _ => by omega)) ?_
   refine zM ?_
   refine XO_nil ?_
   exact at_met2 _ _ ⟨n - (k + 1), by omega, k + 1, _, _, _, rfl, rfl, rfl, rfl, by omega, hmi.put hp hk2 hnone, hmr.skip hp (by omega), hAll⟩ (.cons rfl (.cons rfl (.cons rfl (.cons rfl (.cons rfl (.cons rfl (.cons rfl .nil))))))) (by repeat (first | exact .refl | exact subL_left | refine subL_app ?_ | refine .drop ?_ | refine subL_add ?_))
  have hk2n : p.kind ≠ 2 := by simpa using hc72
  refine zR ?_
  refine zC ?_
  refine zA ?_
  refine zN ?_
  refine zI ?_ ?_ <;> intro hc87
  ·
   have hk3 : p.kind = 3 := by simpa using hc87
   obtain ⟨A, Lt, B, rfl, hOt, hset⟩ := hAll.at p.sign
   have hq := rem_le hmr hOt
   have hq2 := List.length_take_le k ps
   have hD := HLe.refl I3
   refine X_noP ?_
   refine X_drawS I3 [(b_13, .cells (encP p).toArray 66 (0, 0))] mixed ?_
   refine zT 0 rfl (ev_move rfl) hD ?_
   refine zT 1 rfl (ev_fieldAddr rfl fld_66_2) hD ?_
   refine zT 2 rfl (ev_load rfl sct_3 (fun hg => by (repeat (first | exact Cell.here rfl | apply Cell.there | apply Cell.app)))) hD ?_
   refine zT 3 rfl (ev_move rfl) hD ?_
   refine zT 4 rfl (ev_fieldAddr rfl fld_66_2) hD ?_
   refine zT 5 rfl (ev_load rfl sct_3 (fun hg => by (repeat (first | exact Cell.here rfl | apply Cell.there | apply Cell.app)))) hD ?_
   refine zT 7 rfl (ev_fieldAddr rfl fld_66_0) hD ?_
   refine zT 8 rfl (ev_load rfl sct_3 (fun hg => by (repeat (first | exact Cell.here rfl | apply Cell.there | apply Cell.app)))) hD ?_
   refine XD_two 6 9 rfl rfl (by kernel_rfl) ?_ ?_
   ·
    refine zV (ev_lookupT (m := mr) (ek := Value.int .i64) (a := p.sign)  mpt_82 key_3 rfl rfl (fun _ => .inr (by simp))) ?_
    refine XO_nil ?_
    refine zD hD ?_
    refine XD_one 9 rfl (by kernel_rfl) ?_
    refine XO_buildSlice (ps := [(0, _)]) (m := [encI p.id]) elt_24 rfl (.cons rfl (.nil)) rfl (by simp [encI_len]) (by decide) (by decide) rfl rfl (fun b_98 => ?_)
    refine XO_nil ?_
    refine zD hD ?_
    refine XD_one 10 rfl (by kernel_rfl) ?_
    refine XO_append (v := _) (ys := [p.id].flatMap encI) (L := Lt) rfl rfl elt_24 hOt (by repeat (first | exact .cons .here .nil | exact split_all | exact split_app | apply split_cons | apply split_skip)) ⟨rfl, fun _ => rfl, Cells.here⟩ (one_I [p.id]) (by omega) rfl rfl ?_
    intro v9 L9 hO9 _
    refine XO_nil ?_
    refine zD hD ?_
    refine XD_one 11 rfl (by kernel_rfl) ?_
    refine XO_mapUpdate (m := mr) (ek := Value.int .i64) (ev := fstT) (a := p.sign)  (v9, ((mget mr p.sign).getD nilT).2.1 + 1, ((mget mr p.sign).getD nilT).2.2 ++ [p.id].flatMap encI) mpt_82 key_3 rfl rfl rfl rfl (by repeat (first | exact Upd.here | apply Upd.there | apply upd_app)) ?_
    refine XO_nil ?_
    refine zD hD ?_
    refine XD_done (by kernel_rfl) ?_
    refine at_noP ?_
    refine at_block_n ?_
    refine at_block_n ?_
    refine at_then ?_
    refine X_region ?_
    refine zV (ev_arB rfl rfl rfl (fun _ => by omega)) ?_
    refine zM ?_
    refine XO_nil ?_
    exact at_metP _ _ (L9 ++ ((r_63, _) :: (r_62, _) :: (A ++ B))) ⟨n - (k + 1), by omega, k + 1, _, _, A ++ (L9 ++ B), rfl, rfl, rfl, rfl, by omega, hmi.skip hp hk2n, hmr.put hp hk3, hset (v9, _, _) L9 hO9⟩ (.cons rfl (.cons rfl (.cons rfl (.cons rfl (.cons rfl (.cons rfl (.cons rfl .nil))))))) perm_in (by repeat (first | exact .refl | exact subL_left | refine subL_app ?_ | refine .drop ?_ | refine subL_add ?_))
   refine XO_buildSlice (ps := [(0, _)]) (m := [encI p.id]) elt_24 rfl (.cons rfl (.nil)) rfl (by simp [encI_len]) (by decide) (by decide) rfl rfl (fun b_98 => ?_)
   refine XO_nil ?_
   refine zD hD ?_
   refine XD_one 6 rfl (by kernel_rfl) ?_
   refine zV (ev_lookupT (m := mr) (ek := Value.int .i64) (a := p.sign)  mpt_82 key_3 rfl rfl (fun _ => .inr (by simp))) ?_
   refine XO_nil ?_
   refine zD hD ?_
   refine XD_one 10 rfl (by kernel_rfl) ?_
   refine XO_append (v := _) (ys := [p.id].flatMap encI) (L := Lt) rfl rfl elt_24 hOt (by repeat (first | exact .cons .here .nil | exact split_all | exact split_app | apply split_cons | apply split_skip)) ⟨rfl, fun _ => rfl, Cells.here⟩ (one_I [p.id]) (by omega) rfl rfl ?_
   intro v9 L9 hO9 _
   refine XO_nil ?_
   refine zD hD ?_
   refine XD_one 11 rfl (by kernel_rfl) ?_
   refine XO_mapUpdate (m := mr) (ek := Value.int .i64) (ev := fstT) (a := p.sign)  (v9, ((mget mr p.sign).getD nilT).2.1 + 1, ((mget mr p.sign).getD nilT).2.2 ++ [p.id].flatMap encI) mpt_82 key_3 rfl rfl rfl rfl (by repeat (first | exact Upd.here | apply Upd.there | apply upd_app)) ?_
   refine XO_nil ?_
   refine zD hD ?_
   refine XD_done (by kernel_rfl) ?_
   refine at_noP ?_
   refine at_block_n ?_
   refine at_block_n ?_
   refine at_then ?_
   refine X_region ?_
   refine zV (ev_arB rfl rfl rfl (fun _ => by omega)) ?_
   refine zM ?_
   refine XO_nil ?_
   exact at_metP _ _ (L9 ++ ((r_63, _) :: (r_62, _) :: (A ++ B))) ⟨n - (k + 1), by omega, k + 1, _, _, A ++ (L9 ++ B), rfl, rfl, rfl, rfl, by omega, hmi.skip hp hk2n, hmr.put hp hk3, hset (v9, _, _) L9 hO9⟩ (.cons rfl (.cons rfl (.cons rfl (.cons rfl (.cons rfl (.cons rfl (.cons rfl .nil))))))) perm_in (by repeat (first | exact .refl | exact subL_left | refine subL_app ?_ | refine .drop ?_ | refine subL_add ?_))
  have hk3n : p.kind ≠ 3 := by simpa using hc87
  refine X_skip ?_
  refine at_block_n ?_
  refine at_block_n ?_
  refine at_then ?_
  refine X_region ?_
  refine zV (ev_arB rfl rfl rfl (fun _ => by omega)) ?_
  refine zM ?_
  refine XO_nil ?_
  exact at_met2 _ _ ⟨n - (k + 1), by omega, k + 1, _, _, _, rfl, rfl, rfl, rfl, by omega, hmi.skip hp hk2n, hmr.skip hp hk3n, hAll⟩ (.cons rfl (.cons rfl (.cons rfl (.cons rfl (.cons rfl (.cons rfl (.cons rfl .nil))))))) (by repeat (first | exact .refl | exact subL_left | refine subL_app ?_ | refine .drop ?_ | refine subL_add ?_))
 have hge_k : n ≤ k := by have h := hc67; simp at h; omega
 rw [take_all hP.len hge_k] at hmi hmr
 refine X_exit ?_
 refine at_then_e ?_
 refine at_then_e ?_
 refine at_block_hit ?_
 refine at_then ?_
 refine X_seq ?_
 refine X_seq ?_
 refine X_freezeAll (fun I5 hI5 hb5 => ?_)
 have hP := hP.mono hI5; have hOn := hOn.mono hI5; have hIc := hIc.trans hI5
 have hmiI : I5 r_62 = some (mapO (Value.int .i64) (Value.int .i64) mi) := hb5 _ _ (by simp)
 have hmrI : I5 r_63 = some (mapO (Value.int .i64) fstT mr) := hb5 _ _ (by simp)
 have hrem := rem_sl hmr hAll (fun b o h => hb5 b o (by simp [h]))
 obtain ⟨m, hm1, hm2⟩ := hOn
 refine X_region ?_
 refine zM ?_
 refine zQ slt_22 ?_
 refine zM ?_
 refine zN ?_
 refine X_block ?_
 refine X_loopT [(9, _), (10, _), (11, _), (101, _), (102, _)] (.cons rfl (.cons rfl (.cons rfl (.cons rfl (.cons rfl .nil))))) (fun T L0 mz E I' loc' => ∃ (k : Nat), mz = n - k ∧ E = (103, .int .i64 k) :: T ∧ I5 = I' ∧ [] = loc' ∧ k ≤ n ∧ (ps.take k).all (tgP ps) = true) _ _ _ _ ⟨0, rfl, rfl, rfl, rfl, Nat.zero_le _, rfl⟩ (.cons rfl (.cons rfl (.cons rfl (.cons rfl (.cons rfl (.cons rfl .nil)))))) (HLe.refl _) rfl ?_
 rintro mz E I' loc' ⟨k, rfl, rfl, rfl, rfl, hk, htg⟩
 refine zR ?_
 refine zC ?_
 refine zN ?_
 refine X_seq ?_
 refine zI ?_ ?_ <;> intro hc104
 ·
  have hlt_k : k < n := by have h := hc104; simp at h; omega
  have hP1 := hP.1
  obtain ⟨p, hp, hN⟩ := hP.at hlt_k
  have hpm := List.mem_of_getElem? hp
  have hN : Sl I5 1 encI p.a p.n p.c p.needs := hN
  have hpn := hnd p hpm
  obtain ⟨ref, hget, sn, hsn, hsq⟩ := hm2.get ⟨p, hpm, rfl⟩
  refine X_skip ?_
  refine at_then ?_
  refine X_seq ?_
  refine X_block ?_
  refine zR ?_
  refine zV (ev_indexSl rfl rfl slt_22 (by assumption) (fun hg => by omega)) ?_
  refine zV (ev_loadA rfl agt_66 (fun hg => by exact Sl.getA hP1 hp) rfl) ?_
  refine XO_alloc zt_66 rfl rfl (fun b_17 => ?_)
  refine XO_storeA rfl rfl szt_66 rfl rfl rfl rfl (by repeat (first | exact Upd.here | apply Upd.there | apply upd_app)) ?_
  refine zN ?_
  refine X_seq ?_
  refine zR ?_
  refine zM ?_
  refine zF fld_66_2 ?_
  refine zV (ev_load rfl sct_3 (fun hg => by (repeat (first | exact Cell.here rfl | apply Cell.there | apply Cell.app)))) ?_
  refine zV (ev_lookupOkI (m := mi) (ek := Value.int .i64) (a := p.sign)  mpt_81 key_3 rfl rfl (fun _ => .inl hmiI)) ?_
  refine zM ?_
  refine zE ?_
  refine zE ?_
  refine zA ?_
  refine zA ?_
  refine zN (zR ?_)
  refine zM ?_
  refine zM ?_
  refine XO_pushT 1 rfl rfl rfl ?_
  refine zK (ev_fieldAddr rfl fld_66_0) ?_
  refine zK (ev_load rfl sct_3 (fun hg => by (repeat (first | exact Cell.here rfl | apply Cell.there | apply Cell.app)))) ?_
  refine zK (ev_move rfl) ?_
  refine zK (ev_cmp rfl rfl rfl) ?_
  refine XO_and0 rfl rfl rfl rfl rfl ?_
  refine zM ?_
  refine XO_pushT 7 rfl rfl rfl ?_
  refine zK (ev_move rfl) ?_
  refine zK (ev_fieldAddr rfl fld_66_0) ?_
  refine zK (ev_load rfl sct_3 (fun hg => by (repeat (first | exact Cell.here rfl | apply Cell.there | apply Cell.app)))) ?_
  refine zK (ev_lookupG (m := m) (ek := Value.int .i64) (ev := refV) (a := p.id) hget mpt_114 key_3 rfl rfl (fun _ => .inl hm1)) ?_
  refine zK (ev_move rfl) ?_
  refine zK (ev_lookupBool (m := sn) mpt_112 key_3 rfl rfl (fun _ => .inl hsn)) ?_
  refine zK (ev_not rfl) ?_
  refine XO_and0 rfl rfl rfl rfl rfl ?_
  refine zN ?_
  refine zI ?_ ?_ <;> intro hc129
  ·
   have hA := hc129
   simp only [show ∀ x, (mget sn x).getD false = onF ps p.id x from fun x => hsq.mem x] at hA
   have hbad : chkR ps = 380 := chkR_4 hlen h0 hls (by rw [tog_eq hL hmi]; exact all_no hp (by unfold tgP; rw [← tg_ins hmi, hA]; rfl))
   refine zR ?_
   refine zA ?_
   refine zN ?_
   refine X_ret ?_
   refine at_then_r ?_
   refine at_block_r ?_
   refine at_then_r ?_
   refine at_then_r ?_
   refine at_block_r ?_
   refine at_then_r ?_
   exact at_ret1 rfl rfl (fun w hw => ⟨by rw [hbad], (hw.mono hIc).drop⟩)
  have hA := hc129
  simp only [show ∀ x, (mget sn x).getD false = onF ps p.id x from fun x => hsq.mem x] at hA
  refine X_skip ?_
  refine at_then ?_
  refine X_seq ?_
  obtain ⟨av2, c2, hv2, hS2⟩ := hrem p.sign
  have hk3l := kindL_len (c := 3) (ps := ps) (s := p.sign)
  have hpl := hP.len
  refine X_region ?_
  refine zM ?_
  refine zF fld_66_2 ?_
  refine zV (ev_load rfl sct_3 (fun hg => by (repeat (first | exact Cell.here rfl | apply Cell.there | apply Cell.app)))) ?_
  refine zV (ev_lookupTE (m := mr) (ek := Value.int .i64) (a := p.sign) hv2 mpt_82 key_3 rfl rfl (fun _ => .inl hmrI)) ?_
  refine zQ slt_24 ?_
  refine zM ?_
  refine zN ?_
  refine X_block ?_
  refine X_loopT [(9, _), (10, _), (11, _), (17, _), (101, _), (102, _), (103, _), (133, _), (134, _)] (.cons rfl (.cons rfl (.cons rfl (.cons rfl (.cons rfl (.cons rfl (.cons rfl (.cons rfl (.cons rfl .nil))))))))) (fun T L0 mz E I' loc' => ∃ (j : Nat), mz = (kindL 3 ps p.sign).length - j ∧ E = (135, .int .i64 j) :: T ∧ I5 = I' ∧ [(b_17, .cells (encP p).toArray 66 (0, 0))] = loc' ∧ j ≤ (kindL 3 ps p.sign).length ∧ ((kindL 3 ps p.sign).take j).any (onF ps p.id) = false) _ _ _ _ ⟨0, rfl, rfl, rfl, rfl, Nat.zero_le _, rfl⟩ (.cons rfl (.cons rfl (.cons rfl (.cons rfl (.cons rfl (.cons rfl (.cons rfl (.cons rfl (.cons rfl (.cons rfl .nil)))))))))) (HLe.refl _) rfl ?_
  rintro mz E I' loc' ⟨j, rfl, rfl, rfl, rfl, hj, hno⟩
  refine zR ?_
  refine zC ?_
  refine zN ?_
  refine X_seq ?_
  refine zI ?_ ?_ <;> intro hc136
  ·
   have hlt_j : j < (kindL 3 ps p.sign).length := by have h := hc136; simp at h; omega
   obtain ⟨y, hy⟩ := hS2.at hlt_j
   refine X_skip ?_
   refine at_then ?_
   refine X_seq ?_
   refine X_block ?_
   refine zR ?_
   refine zV (ev_indexSl rfl rfl slt_24 (by assumption) (fun hg => by omega)) ?_
   refine zV (ev_load rfl sct_3 (fun hg => by exact Sl.get0 hS2 hy rfl)) ?_
   refine zA ?_
   refine zN (zR ?_)
   refine zM ?_
   refine zF fld_66_0 ?_
   refine zV (ev_load rfl sct_3 (fun hg => by (repeat (first | exact Cell.here rfl | apply Cell.there | apply Cell.app)))) ?_
   refine zV (ev_lookupG (m := m) (ek := Value.int .i64) (ev := refV) (a := p.id) hget mpt_114 key_3 rfl rfl (fun _ => .inl hm1)) ?_
   refine zM ?_
   refine zV (ev_lookupBool (m := sn) mpt_112 key_3 rfl rfl (fun _ => .inl hsn)) ?_
   refine zN ?_
   refine zI ?_ ?_ <;> intro hc144
   ·
    have hon := hc144
    simp only [show ∀ x, (mget sn x).getD false = onF ps p.id x from fun x => hsq.mem x] at hon
    have hbad : chkR ps = 380 := chkR_4 hlen h0 hls (by rw [tog_eq hL hmi]; exact all_no hp (by unfold tgP; rw [any_yes hy hon, Bool.or_true]; rfl))
    refine zR ?_
    refine zA ?_
    refine zN ?_
    refine X_ret ?_
    refine at_block_r ?_
    refine at_then_r ?_
    refine at_then_r ?_
    refine at_block_r ?_
    refine at_block_r ?_
    refine at_then_r ?_
    refine at_then_r ?_
    refine at_block_r ?_
    refine at_then_r ?_
    exact at_ret1 rfl rfl (fun w hw => ⟨by rw [hbad], (hw.mono hIc).drop⟩)
   have hon := hc144
   simp only [show ∀ x, (mget sn x).getD false = onF ps p.id x from fun x => hsq.mem x] at hon
   refine X_skip ?_
   refine at_block_n ?_
   refine at_then ?_
   refine X_region ?_
   refine zV (ev_arB rfl rfl rfl (fun _ => by omega)) ?_
   refine zM ?_
   refine XO_nil ?_
   exact at_met2 _ _ ⟨(kindL 3 ps p.sign).length - (j + 1), by omega, j + 1, rfl, rfl, rfl, rfl, by omega, any_no hy hno hon⟩ (.cons rfl (.cons rfl (.cons rfl (.cons rfl (.cons rfl (.cons rfl (.cons rfl (.cons rfl (.cons rfl (.cons rfl .nil)))))))))) (by repeat (first | exact .refl | exact subL_left | refine subL_app ?_ | refine .drop ?_ | refine subL_add ?_))
  have hge_j : (kindL 3 ps p.sign).length ≤ j := by have h := hc136; simp at h; omega
  rw [take_all rfl hge_j] at hno
  have htp : tgP ps p = true := by unfold tgP; rw [← tg_ins hmi, hA, hno]; rfl
  refine X_exit ?_
  refine at_then_e ?_
  refine at_then_e ?_
  refine at_block_hit ?_
  refine at_block_n ?_
  refine at_then ?_
  refine X_region ?_
  refine zV (ev_arB rfl rfl rfl (fun _ => by omega)) ?_
  refine zM ?_
  refine XO_nil ?_
  exact at_met2 _ _ ⟨n - (k + 1), by omega, k + 1, rfl, rfl, rfl, rfl, by omega, all_yes hp htg htp⟩ (.cons rfl (.cons rfl (.cons rfl (.cons rfl (.cons rfl (.cons rfl .nil)))))) (by repeat (first | exact .refl | exact subL_left | refine subL_app ?_ | refine .drop ?_ | refine subL_add ?_))
 have hge_k : n ≤ k := by have h := hc104; simp at h; omega
 have htog : togA ps = true := by rw [tog_eq hL hmi]; rw [take_all hP.len hge_k] at htg; exact htg
 refine X_exit ?_
 refine at_then_e ?_
 refine at_then_e ?_
 refine at_block_hit ?_
 refine at_then ?_
 refine zR ?_
 refine zA ?_
 refine zN ?_
 refine X_ret ?_
 exact at_ret1 rfl rfl (fun w hw => ⟨by rw [chkR_5 hlen h0 hls htog], (hw.mono hIc).drop⟩)
end Go.Proofs.YtclkmnidgdkekaaGreat
end
section
namespace Go.Proofs.YtclkmnidgdkekaaGreat
open Go Go.Kn Go.Proofs
/-- A list and an error. -/
def Res2 (e : Int) (xs : List Int) : Value → HMap → Go.Kn.Loc → Prop := fun v I' L => L = [] ∧ ∃ av c, v = .tuple #[.slice av xs.length c, .int .i64 e] ∧ Sl I' 1 encI av xs.length c xs
theorem Res2.empty {e : Int} {xs : List Int} {I : HMap} (h : xs = []) : Res2 e xs (.tuple #[.slice none 0 0, .int .i64 e]) I [] := by
  subst h
  exact ⟨rfl, none, 0, rfl, .nil⟩
theorem Res2.good {e e' : Int} {xs ys : List Int} {I : HMap} {av : Option Addr} {n c : Nat} (h : e = e') (hx : ys = xs) (hS : Sl I 1 encI av n c ys) : Res2 e' xs (.tuple #[.slice av n c, .int .i64 e]) I [] := by
  subst h; subst hx
  have hn := hS.len
  subst hn
  exact ⟨rfl, av, c, rfl, hS⟩
def clE (ps : List Pt) (ids : List Int) : Int := if ids.length > 512 then 2 else if chB ps ids then 0 else 380
theorem cloE_ok {ps : List Pt} {ids : List Int} (h : chkR ps = 0) : cloE ps ids = clE ps ids := by unfold cloE clE; rw [if_neg (by omega)]
theorem cloE_bad {ps : List Pt} {ids : List Int} (h : chkR ps ≠ 0) : cloE ps ids = chkR ps := by unfold cloE; rw [if_pos h]
theorem clE_1 {ps : List Pt} {ids : List Int} (h : ids.length > 512) : clE ps ids = 2 := by unfold clE; rw [if_pos h]
theorem clE_2 {ps : List Pt} {ids : List Int} (h : ¬ ids.length > 512) (h2 : chB ps ids = false) : clE ps ids = 380 := by unfold clE; rw [if_neg h, h2]; rfl
theorem clE_3 {ps : List Pt} {ids : List Int} (h : ¬ ids.length > 512) (h2 : chB ps ids = true) : clE ps ids = 0 := by unfold clE; rw [if_neg h, h2]; rfl
theorem ch_inc {ps : List Pt} {ids : List Int} (h : incB ids = false) : chB ps ids = false := by unfold chB; rw [h]; rfl
theorem ch_has {ps : List Pt} {ids : List Int} {k : Nat} {x : Int} (hx : ids[k]? = some x) (h : hasI ps x = false) : chB ps ids = false := by unfold chB; rw [all_no hx h, Bool.and_false]
theorem ch_all {ps : List Pt} {ids : List Int} (h : incB ids = true) (h2 : ids.all (hasI ps) = true) : chB ps ids = true := by unfold chB; rw [h, h2]; rfl
/-- What a closure's list has when k IDs are done, and some more. -/
def CloM (ps : List Pt) (ids : List Int) (k : Nat) (zs : List Int) (S : Int → Bool) : Prop := ∀ x, x ∈ zs ↔ (x ∈ ids ∨ ∃ n ∈ ids.take k, onF ps n x = true) ∨ S x = true
theorem CloM.start {ps : List Pt} {ids : List Int} : CloM ps ids 0 ids (fun _ => false) := fun x => by simp
theorem CloM.put {ps : List Pt} {ids zs : List Int} {k : Nat} {S S' : Int → Bool} {a : Int} (h : CloM ps ids k zs S) (e : ∀ x, S' x = (decide (a = x) || S x)) : CloM ps ids k (zs ++ [a]) S' := fun x => by
  rw [List.mem_append, h x, e x]
  simp only [List.mem_singleton, Bool.or_eq_true, decide_eq_true_eq]
  constructor
  · rintro (h | h)
    · rcases h with h | h
      · exact .inl h
      · exact .inr (.inr h)
    · exact .inr (.inl h.symm)
  · rintro (h | h | h)
    · exact .inl (.inl h)
    · exact .inr h.symm
    · exact .inl (.inr h)
theorem CloM.next {ps : List Pt} {ids zs : List Int} {k : Nat} {S : Int → Bool} {n : Int} (h : CloM ps ids k zs S) (hn : ids[k]? = some n) (e : ∀ x, S x = onF ps n x) : CloM ps ids (k + 1) zs (fun _ => false) := fun x => by
  rw [h x, e x, take_snoc hn]
  simp only [List.mem_append, List.mem_singleton, Bool.false_eq_true, or_false]
  constructor
  · rintro (h | h)
    · rcases h with h | ⟨m, hm, h⟩
      · exact .inl h
      · exact .inr ⟨m, .inl hm, h⟩
    · exact .inr ⟨n, .inr rfl, h⟩
  · rintro (h | ⟨m, hm | rfl, h⟩)
    · exact .inl (.inl h)
    · exact .inl (.inr ⟨m, hm, h⟩)
    · exact .inr h
theorem CloM.congr {ps : List Pt} {ids zs : List Int} {k : Nat} {S S' : Int → Bool} (h : CloM ps ids k zs S) (e : ∀ x, S x = S' x) : CloM ps ids k zs S' := fun x => by rw [h x, e x]
theorem clo_made {ps : List Pt} {ids zs : List Int} {n : Nat} (hL : Lst ps) (h : CloM ps ids n zs (fun _ => false)) (hn : ids.length = n) (hall : ids.all (hasI ps) = true) : Lib.compact (sortI (zs ++ [])) = cloF ps ids := by
  rw [List.append_nil]
  refine comp_sort_eq (clo_sorted hL ids) fun x => ?_
  rw [h x, mem_clo, ← hn, List.take_length]
  simp only [Bool.false_eq_true, or_false]
  constructor
  · rintro (hx | ⟨m, hm, ho⟩)
    · exact ⟨hasI_iff.1 (List.all_eq_true.1 hall x hx), x, hx, .inl rfl⟩
    · exact ⟨(hL.on_lt ho).2, m, hm, .inr ho⟩
  · rintro ⟨_, m, hm, rfl | ho⟩
    · exact .inl hm
    · exact .inr ⟨m, hm, ho⟩
theorem on_few {ps : List Pt} (hL : Lst ps) {a : Int} {sn : List (Int × Bool)} (h : SetQ sn (onF ps a)) : sn.length ≤ ps.length := by
  have := List.Nodup.length_le_of_subset h.nodup (l₂ := idsP ps) (fun x hx => by
    obtain ⟨_, q, hq, e⟩ := hL.on_lt (h.key.2 hx)
    exact List.mem_map.2 ⟨q, hq, e⟩)
  simpa [idsP] using this
theorem OnL.hit {I : HMap} {m : List (Int × Nat)} {ps : List Pt} (h : OnL I m ps) {a : Int} {ref : Nat} (hg : mget m a = some ref) : hasI ps a = true ∧ OnS I ref (onF ps a) := by
  have hm := mget_mem hg
  refine ⟨?_, h.2 _ hm⟩
  have hk : a ∈ m.map (·.1) := List.mem_map.2 ⟨_, hm, rfl⟩
  rw [h.1] at hk
  obtain ⟨q, hq, e⟩ := List.mem_map.1 hk
  exact hasI_iff.2 ⟨q, hq, e⟩
theorem OnL.miss {I : HMap} {m : List (Int × Nat)} {ps : List Pt} (h : OnL I m ps) {a : Int} (hg : mget m a = none) : hasI ps a = false := by
  cases hh : hasI ps a with
  | false => rfl
  | true =>
    obtain ⟨ref, h1, _⟩ := h.get (hasI_iff.1 hh)
    rw [hg] at h1; cases h1
theorem perm_snoc (x : Nat × Obj) (L : Go.Kn.Loc) : (x :: L).Perm (L ++ [x]) := (List.perm_append_comm (l₁ := L) (l₂ := [x])).symm
end Go.Proofs.YtclkmnidgdkekaaGreat
end
section
namespace Go.Proofs.YtclkmnidgdkekaaGreat
open Go Go.Kn Go.Proofs
theorem w_closure {I : HMap} {av : Option Addr} {n c : Nat} {ps : List Pt} (hP : SlP I av n c ps) (hn : n ≤ 512) (hL : Lst ps) (hnd : ∀ p ∈ ps, p.n ≤ 100000) {bv : Option Addr} {n2 c2 : Nat} {ys : List Int} (hT : Sl I 1 encI bv n2 c2 ys) (hn2 : n2 ≤ 100000) : RetM Tryz.prog 59 [.slice av n c, .slice bv n2 c2] I [] (Res2 (clE ps ys) (resF (clE ps ys) (cloF ps ys))) := by
 intro g H w hw
 refine enter Tryz.func59 rfl Tryz.ntmps59 rfl hw ?_
 have hIc := HLe.refl I
 refine zR ?_
 refine zA ?_
 refine zA ?_
 refine zN ?_
 refine X_seq ?_
 refine zR ?_
 refine zM ?_
 refine zQ slt_24 ?_
 refine zC ?_
 refine zN ?_
 refine zI ?_ ?_ <;> intro hc12
 ·
  have hlen : ys.length > 512 := by rw [hT.len]; simp at hc12; omega
  refine zR ?_
  refine zA ?_
  refine zA ?_
  refine zN ?_
  refine X_ret ?_
  refine at_then_r ?_
  first
  | exact at_ret2 rfl rfl rfl (fun w hw => ⟨_, I, [], rfl, hIc, hw.drop, by rw [clE_1 hlen]; exact Res2.empty rfl⟩)
 have hlen : ¬ ys.length > 512 := by rw [hT.len]; simp at hc12; omega
 refine X_skip ?_
 refine at_then ?_
 refine zR ?_
 refine zM ?_
 refine XO_callM (cap := []) (vs := [_]) rfl rfl fun_57 .nil (w_stands hP (by omega) hL hnd) rfl rfl ?_
 rintro vv1 I1 L1 hI1 ⟨rfl, r9, rfl, hOn⟩
 have hP := hP.mono hI1; have hT := hT.mono hI1; have hIc := hIc.trans hI1
 refine zA ?_
 refine zN (zR ?_)
 refine zM ?_
 refine XO_callM (cap := []) (vs := [_]) rfl rfl fun_74 .nil (w_cloneI hT (by omega)) rfl rfl ?_
 rintro vv2 I2 L2 hI2 ⟨rfl, hO⟩
 have hP := hP.mono hI2; have hT := hT.mono hI2; have hOn := hOn.mono hI2; have hIc := hIc.trans hI2
 refine zA ?_
 refine zN ?_
 refine X_seq ?_
 refine X_seq ?_
 refine X_dropTo _ subL_left ?_
 refine X_region ?_
 refine zM ?_
 refine zQ slt_24 ?_
 refine zM ?_
 refine zN ?_
 refine X_block ?_
 refine X_loopT [(1, _), (6, _), (17, _), (18, _)] (.cons rfl (.cons rfl (.cons rfl (.cons rfl .nil)))) (fun T L0 mz E I' loc' => ∃ (k : Nat) (zs : List Int) (v : Value) (q : Nat) (L : Go.Kn.Loc), mz = n2 - k ∧ E = (4, v) :: (19, .int .i64 k) :: T ∧ I2 = I' ∧ L = loc' ∧ k ≤ n2 ∧ OwnS 3 1 v q (zs.flatMap encI) L ∧ q ≤ n2 + 512 * k ∧ CloM ps ys k zs (fun _ => false) ∧ (ys.take k).all (hasI ps) = true) _ _ _ _ ⟨0, ys, _, n2, _, rfl, rfl, rfl, rfl, Nat.zero_le _, hO, by omega, CloM.start, rfl⟩ (.cons rfl (.cons rfl (.cons rfl (.cons rfl (.cons rfl (.cons rfl .nil)))))) (HLe.refl _) rfl ?_
 rintro mz E I' loc' ⟨k, zs, v, q, L, rfl, rfl, rfl, rfl, hk, hO, hq5, hM, hall⟩
 refine zR ?_
 refine zC ?_
 refine zN ?_
 refine X_seq ?_
 refine zI ?_ ?_ <;> intro hc20
 ·
  have hlt_k : k < n2 := by have h := hc20; simp at h; omega
  obtain ⟨y, hy⟩ := hT.at hlt_k
  refine X_skip ?_
  refine at_then ?_
  refine X_seq ?_
  refine X_block ?_
  refine zR ?_
  refine zV (ev_indexSl rfl rfl slt_24 (by assumption) (fun hg => by omega)) ?_
  refine zV (ev_load rfl sct_3 (fun hg => by exact Sl.get0 hT hy rfl)) ?_
  refine zA ?_
  refine zN ?_
  refine X_seq ?_
  refine X_seq ?_
  obtain ⟨m, hm1, hm2⟩ := hOn
  refine X_region ?_
  refine zM ?_
  refine zM ?_
  refine zV (ev_lookupM (m := m) (ek := Value.int .i64) mpt_114 key_3 rfl rfl (fun _ => .inl hm1)) ?_
  refine zV (ev_mapNil rfl rfl und_112) ?_
  refine zN ?_
  refine zI ?_ ?_ <;> intro hc26
  ·
   have hmiss : hasI ps y = false := hm2.miss (Option.isNone_iff_eq_none.1 hc26)
   have hbad : clE ps ys = 380 := clE_2 hlen (ch_has hy hmiss)
   refine zR ?_
   refine zA ?_
   refine zA ?_
   refine zN ?_
   refine X_ret ?_
   refine at_then_r ?_
   refine at_block_r ?_
   refine at_then_r ?_
   refine at_then_r ?_
   refine at_block_r ?_
   refine at_then_r ?_
   first
   | exact at_ret2 rfl rfl rfl (fun w hw => ⟨_, I2, [], rfl, hIc, hw.drop, by rw [hbad]; exact Res2.empty rfl⟩)
  obtain ⟨ref, hget⟩ : ∃ ref, mget m y = some ref := by cases hg : mget m y with | none => rw [hg] at hc26; cases hc26 | some r => exact ⟨r, rfl⟩
  obtain ⟨hhas, sn, hsn, hsq⟩ := hm2.hit hget
  have hfew := on_few hL hsq
  have hpl := hP.len
  refine X_skip ?_
  refine at_then ?_
  refine zR ?_
  refine zM ?_
  refine zM ?_
  refine zV (ev_lookupM (m := m) (ek := Value.int .i64) mpt_114 key_3 rfl rfl (fun _ => .inl hm1)) ?_
  rw [hget]
  refine XO_range (ek := Value.int .i64) (ev := Value.bool) (m := sn) rfl mpt_112 rfl rfl (.inl hsn) (fun b_30 => ?_)
  refine zN ?_
  refine X_block ?_
  refine X_loopT [(1, _), (6, _), (17, _), (18, _), (19, _), (30, _)] (.cons rfl (.cons rfl (.cons rfl (.cons rfl (.cons rfl (.cons rfl .nil)))))) (fun T L0 mz E I' loc' => ∃ (seen : List Nat) (zs : List Int) (v : Value) (q : Nat) (L : Go.Kn.Loc), mz = sn.length - seen.length ∧ E = (4, v) :: T ∧ I2 = I' ∧ (b_30, iterO ref sn.length seen) :: L = loc' ∧ OwnS 3 1 v q (zs.flatMap encI) L ∧ q ≤ n2 + 512 * k + seen.length ∧ CloM ps ys k zs (Seen sn seen) ∧ seen.Nodup ∧ ∀ i ∈ seen, i < sn.length) _ _ _ _ ⟨[], zs, v, q, L, rfl, rfl, rfl, rfl, hO, by simpa using hq5, hM.congr (fun x => (seen_nil sn x).symm), .nil, fun i h => by cases h⟩ (.cons rfl (.cons rfl (.cons rfl (.cons rfl (.cons rfl (.cons rfl (.cons rfl .nil))))))) (HLe.refl _) rfl ?_
  rintro mz E I' loc' ⟨seen, zs, v, q, L, rfl, rfl, rfl, rfl, hO, hq5, hM, hnd2, hlt⟩
  have hsl := seen_lt hnd2 hlt
  refine zR ?_
  refine XO_next2 (ek := Value.int .i64) (ev := Value.bool) (m := sn) (fun s' => (b_30, iterO ref sn.length s') :: L) rfl (fun s' => .here) rfl rfl rfl rfl rfl (.inl hsn) (by simp) ?_
  intro t tv s' hno hyes
  refine zN ?_
  refine X_seq ?_
  refine zI ?_ ?_ <;> intro hc32
  ·
   obtain ⟨i, q, hq, hns, rfl⟩ := hyes hc32
   refine X_skip ?_
   refine at_then ?_
   refine X_block ?_
   refine zR ?_
   refine zV (ev_entry (ek := Value.int .i64) (ev := Value.bool) (m := sn) (p := q) (seen := seen) (i := i) rfl (.inl hsn) (.inr (by simp)) hq) ?_
   refine zE ?_
   refine zA ?_
   refine zN ?_
   refine X_region ?_
   refine zM ?_
   refine zM ?_
   refine XO_buildSlice (ps := [(0, _)]) (m := [encI q.1]) elt_24 rfl (.cons rfl (.nil)) rfl (by simp [encI_len]) (by decide) (by decide) rfl rfl (fun b_37 => ?_)
   refine XO_append (v := _) (ys := [q.1].flatMap encI) (L := L) rfl rfl elt_24 hO (by repeat (first | exact .cons .here .nil | exact split_all | exact split_app | apply split_cons | apply split_skip)) ⟨rfl, fun _ => rfl, Cells.here⟩ (one_I [q.1]) (by omega) rfl rfl ?_
   intro v9 L9 hO9 _; rw [← List.flatMap_append] at hO9
   refine zA ?_
   refine XO_nil ?_
   refine at_block_n ?_
   have hnd3 : (seen ++ [i]).Nodup := List.nodup_append.2 ⟨hnd2, by simp, fun a ha b hb e => hns (by simp at hb; subst hb; subst e; exact ha)⟩
   have hlt3 : ∀ j ∈ seen ++ [i], j < sn.length := fun j hj => (List.mem_append.1 hj).elim (hlt j) (fun h => by simp at h; subst h; exact (List.getElem?_eq_some_iff.1 hq).1)
   have hsl2 := seen_lt hnd3 hlt3
   rw [List.length_append, List.length_singleton] at hsl2
   exact at_metP _ _ (L9 ++ [(b_30, _)]) ⟨sn.length - (seen ++ [i]).length, by rw [List.length_append, List.length_singleton]; omega, seen ++ [i], zs ++ [q.1], v9, _, L9, rfl, rfl, rfl, rfl, hO9, by rw [List.length_append, List.length_singleton]; omega, hM.put (fun x => seen_snoc hq x), hnd3, hlt3⟩ (.cons rfl (.cons rfl (.cons rfl (.cons rfl (.cons rfl (.cons rfl (.cons rfl .nil))))))) (perm_snoc _ _) (by repeat (first | exact .refl | exact subL_left | refine subL_app ?_ | refine .drop ?_ | refine subL_add ?_))
  obtain ⟨rfl, hall2⟩ := hno hc32
  refine X_exit ?_
  refine at_then_e ?_
  refine at_then_e ?_
  refine at_block_hit ?_
  refine at_block_n ?_
  refine at_then ?_
  refine X_region ?_
  refine zV (ev_arB rfl rfl rfl (fun _ => by omega)) ?_
  refine zM ?_
  refine XO_nil ?_
  exact at_met2 _ _ ⟨n2 - (k + 1), by omega, k + 1, zs, v, q, L, rfl, rfl, rfl, rfl, by omega, hO, by omega, (hM.next hy (fun x => seen_all hsq hall2 x)), all_yes hy hall hhas⟩ (.cons rfl (.cons rfl (.cons rfl (.cons rfl (.cons rfl (.cons rfl .nil)))))) (by repeat (first | exact .refl | exact subL_left | refine subL_app ?_ | refine .drop ?_ | refine subL_add ?_))
 have hge_k : n2 ≤ k := by have h := hc20; simp at h; omega
 rw [take_all hT.len hge_k] at hall
 have hk2 : n2 = k := by omega
 refine X_exit ?_
 refine at_then_e ?_
 refine at_then_e ?_
 refine at_block_hit ?_
 refine at_then ?_
 refine X_seq ?_
 refine zR ?_
 refine zM ?_
 refine XO_callV0 (cap := []) (vs := [_]) rfl rfl fun_88 (w_incr hT hn2) rfl rfl ?_
 refine zO ?_
 refine zN ?_
 refine zI ?_ ?_ <;> intro hc42
 ·
  have hbad : clE ps ys = 380 := clE_2 hlen (ch_inc (by simpa using hc42))
  refine zR ?_
  refine zA ?_
  refine zA ?_
  refine zN ?_
  refine X_ret ?_
  refine at_then_r ?_
  first
  | exact at_ret2 rfl rfl rfl (fun w hw => ⟨_, I2, [], rfl, hIc, hw.drop, by rw [hbad]; exact Res2.empty rfl⟩)
 have hgood : clE ps ys = 0 := clE_3 hlen (ch_all (by simpa using hc42) hall)
 refine X_skip ?_
 refine at_then ?_
 refine X_seq ?_
 refine X_freezeO hO encI_len (by decide) (by repeat (first | exact .cons .here .nil | exact split_all | exact split_app | apply split_cons | apply split_skip)) (fun I5 hI5 af5 cf5 ef5 hZ => ?_)
 subst ef5
 have hP := hP.mono hI5; have hT := hT.mono hI5; have hOn := hOn.mono hI5; have hIc := hIc.trans hI5
 refine X_region ?_
 refine zM ?_
 refine XO_callM (cap := []) (vs := [_, _]) rfl rfl fun_89 .nil (w_union hZ (by have := hT.len; omega) .nil (by omega)) rfl rfl ?_
 rintro vv6 I6 L6 hI6 ⟨rfl, av9, c9, rfl, hR⟩
 have hP := hP.mono hI6; have hT := hT.mono hI6; have hOn := hOn.mono hI6; have hZ := hZ.mono hI6; have hIc := hIc.trans hI6
 refine zA ?_
 refine zA ?_
 refine zN ?_
 refine X_ret ?_
 first
 | exact at_ret2 rfl rfl rfl (fun w hw => ⟨_, I6, [], rfl, hIc, hw.drop, by rw [hgood]; exact Res2.good rfl (by rw [resF_ok rfl]; exact clo_made hL hM (by rw [hT.len]; omega) hall) hR⟩)
theorem w_Closure {I : HMap} {av : Option Addr} {n c : Nat} {ps : List Pt} (hP : SlP I av n c ps) (hn : n ≤ 100000) {bv : Option Addr} {n2 c2 : Nat} {ys : List Int} (hT : Sl I 1 encI bv n2 c2 ys) (hn2 : n2 ≤ 100000) : RetM Tryz.prog 24 [.slice av n c, .slice bv n2 c2] I [] (Res2 (cloE ps ys) (resF (cloE ps ys) (cloF ps ys))) := by
 intro g H w hw
 refine enter Tryz.func24 rfl Tryz.ntmps24 rfl hw ?_
 have hIc := HLe.refl I
 refine zR ?_
 refine zA ?_
 refine zA ?_
 refine zN ?_
 refine X_seq ?_
 refine zR ?_
 refine zM ?_
 refine XO_callV0 (cap := []) (vs := [_]) rfl rfl fun_22 (w_chkR hP hn) rfl rfl ?_
 refine zA ?_
 refine zN (zR ?_)
 refine zM ?_
 refine zC ?_
 refine zN ?_
 refine zI ?_ ?_ <;> intro hc9
 ·
  have hck : chkR ps ≠ 0 := by simpa using hc9
  refine zR ?_
  refine zM ?_
  refine zA ?_
  refine zA ?_
  refine zN ?_
  refine X_ret ?_
  refine at_then_r ?_
  first
  | exact at_ret2 rfl rfl rfl (fun w hw => ⟨_, I, [], rfl, hIc, hw.drop, by rw [cloE_bad hck]; exact Res2.empty (resF_bad hck)⟩)
 have hck : chkR ps = 0 := by simpa using hc9
 refine X_skip ?_
 refine at_then ?_
 refine zR ?_
 refine zM ?_
 refine zM ?_
 refine XO_callM (cap := []) (vs := [_, _]) rfl rfl fun_59 .nil (w_closure hP (by have := (chkR_ok hck).1; rw [hP.len] at this; omega) (chkR_lst hck) (nd_chk hP hck) hT hn2) rfl rfl ?_
 rintro vv1 I1 L1 hI1 ⟨rfl, av9, c9, rfl, hR⟩
 have hP := hP.mono hI1; have hT := hT.mono hI1; have hIc := hIc.trans hI1
 refine zE ?_
 refine zE ?_
 refine zA ?_
 refine zA ?_
 refine zN ?_
 refine X_ret ?_
 first
 | exact at_ret2 rfl rfl rfl (fun w hw => ⟨_, I1, [], rfl, hIc, hw.drop, by rw [cloE_ok hck]; exact Res2.good rfl rfl hR⟩)
end Go.Proofs.YtclkmnidgdkekaaGreat
end
section
namespace Go.Proofs.YtclkmnidgdkekaaGreat
open Go Go.Kn Go.Proofs
structure Ses where
  pa : Int
  ef : Int
  who : List Int
  needs : List Int
structure Cr where
  days : List Int
  st : Int
  da : Int
  lo : Int
  ru : Int
  ss : List Ses
/-- A session with the heads of its lists. -/
structure SH where
  pa : Int
  ef : Int
  a : Option Addr
  n : Nat
  c : Nat
  a2 : Option Addr
  n2 : Nat
  c2 : Nat
def encSH (s : SH) : List Value := [.int .i64 s.pa, .int .i64 s.ef, .slice s.a s.n s.c, .slice s.a2 s.n2 s.c2]
theorem encSH_len (s : SH) : (encSH s).length = 4 := rfl
theorem one_SH (xs : List SH) : allOne (xs.flatMap encSH) = true := allOne_flat (fun _ => rfl) xs
def encSHA (s : SH) : Value := .agg (encSH s).toArray
def SesAt (I : HMap) (h : SH) (s : Ses) : Prop := h.pa = s.pa ∧ h.ef = s.ef ∧ Sl I 1 encI h.a h.n h.c s.who ∧ Sl I 1 encI h.a2 h.n2 h.c2 s.needs
theorem SesAt.mono {I I' : HMap} {h : SH} {s : Ses} (H : SesAt I h s) (hI : HLe I I') : SesAt I' h s := ⟨H.1, H.2.1, H.2.2.1.mono hI, H.2.2.2.mono hI⟩
def RelS (I : HMap) (hs : List SH) (ss : List Ses) : Prop := hs.length = ss.length ∧ ∀ (k : Nat) (h : SH) (s : Ses), hs[k]? = some h → ss[k]? = some s → SesAt I h s
theorem RelS.nil {I : HMap} : RelS I [] [] := ⟨rfl, fun k h s a _ => by simp at a⟩
theorem RelS.mono {I I' : HMap} {hs : List SH} {ss : List Ses} (H : RelS I hs ss) (hI : HLe I I') : RelS I' hs ss := ⟨H.1, fun k h s a b => (H.2 k h s a b).mono hI⟩
theorem RelS.snoc {I : HMap} {hs : List SH} {ss : List Ses} {h : SH} {s : Ses} (H : RelS I hs ss) (h0 : SesAt I h s) : RelS I (hs ++ [h]) (ss ++ [s]) := by
  refine ⟨by simp [H.1], fun k x y a b => ?_⟩
  by_cases e : k < hs.length
  · rw [List.getElem?_append_left e] at a
    rw [List.getElem?_append_left (by rw [← H.1]; exact e)] at b
    exact H.2 k x y a b
  · rw [List.getElem?_append_right (by omega)] at a
    rw [List.getElem?_append_right (by rw [← H.1]; omega)] at b
    have hk : k - hs.length = 0 := by
      have := (List.getElem?_eq_some_iff.1 a).1
      simp at this; omega
    rw [hk] at a
    rw [← H.1, hk] at b
    cases a; cases b; exact h0
def SlSH (I : HMap) (av : Option Addr) (n c : Nat) (hs : List SH) (ss : List Ses) : Prop := Sl I 4 encSH av n c hs ∧ RelS I hs ss
def SlS (I : HMap) (av : Option Addr) (n c : Nat) (ss : List Ses) : Prop := ∃ hs, SlSH I av n c hs ss
theorem SlSH.mono {I I' : HMap} {av : Option Addr} {n c : Nat} {hs : List SH} {ss : List Ses} (h : SlSH I av n c hs ss) (hI : HLe I I') : SlSH I' av n c hs ss := ⟨h.1.mono hI, h.2.mono hI⟩
theorem SlS.mono {I I' : HMap} {av : Option Addr} {n c : Nat} {ss : List Ses} (h : SlS I av n c ss) (hI : HLe I I') : SlS I' av n c ss := by obtain ⟨hs, h⟩ := h; exact ⟨hs, h.mono hI⟩
theorem SlSH.len {I : HMap} {av : Option Addr} {n c : Nat} {hs : List SH} {ss : List Ses} (h : SlSH I av n c hs ss) : ss.length = n := by rw [← h.2.1]; exact h.1.len
theorem SlS.len {I : HMap} {av : Option Addr} {n c : Nat} {ss : List Ses} (h : SlS I av n c ss) : ss.length = n := by obtain ⟨hs, h⟩ := h; exact h.len
theorem SlSH.at {I : HMap} {av : Option Addr} {n c k : Nat} {hs : List SH} {ss : List Ses} (h : SlSH I av n c hs ss) (hk : k < n) : ∃ x s, hs[k]? = some x ∧ ss[k]? = some s ∧ x.pa = s.pa ∧ x.ef = s.ef ∧ Sl I 1 encI x.a x.n x.c s.who ∧ Sl I 1 encI x.a2 x.n2 x.c2 s.needs := by
  have h1 : k < hs.length := by rw [h.1.len]; exact hk
  have h2 : k < ss.length := by rw [h.len]; exact hk
  have ha : hs[k]? = some hs[k] := List.getElem?_eq_getElem h1
  have hb : ss[k]? = some ss[k] := List.getElem?_eq_getElem h2
  exact ⟨hs[k], ss[k], ha, hb, h.2.2 k _ _ ha hb⟩
/-- A course with the heads of its lists. -/
structure CH where
  a : Option Addr
  n : Nat
  c : Nat
  st : Int
  da : Int
  lo : Int
  ru : Int
  a2 : Option Addr
  n2 : Nat
  c2 : Nat
def encCH (x : CH) : List Value := [.slice x.a x.n x.c, .int .i64 x.st, .int .i64 x.da, .int .i64 x.lo, .int .i64 x.ru, .slice x.a2 x.n2 x.c2]
def encCHA (x : CH) : Value := .agg (encCH x).toArray
def CrAt (I : HMap) (x : CH) (k : Cr) : Prop := Sl I 1 encI x.a x.n x.c k.days ∧ x.st = k.st ∧ x.da = k.da ∧ x.lo = k.lo ∧ x.ru = k.ru ∧ SlS I x.a2 x.n2 x.c2 k.ss
theorem CrAt.mono {I I' : HMap} {x : CH} {k : Cr} (h : CrAt I x k) (hI : HLe I I') : CrAt I' x k := ⟨h.1.mono hI, h.2.1, h.2.2.1, h.2.2.2.1, h.2.2.2.2.1, h.2.2.2.2.2.mono hI⟩
/-! ### Which are right -/
def risF (hi : Int) : Int → List Int → Bool
  | _, [] => true
  | lo, n :: l => !(decide (n < lo) || decide (n > hi)) && risF hi (n + 1) l
theorem ris_bad {hi lo n : Int} {l : List Int} {k : Nat} (h : l[k]? = some n) (hb : (decide (n < lo) || decide (n > hi)) = true) : risF hi lo (l.drop k) = false := by rw [drop_cons h]; unfold risF; rw [hb]; rfl
theorem ris_step {hi lo n : Int} {l : List Int} {k : Nat} (h : l[k]? = some n) (hb : (decide (n < lo) || decide (n > hi)) = false) : risF hi lo (l.drop k) = risF hi (n + 1) (l.drop (k + 1)) := by
  rw [drop_cons h]
  show (!(decide (n < lo) || decide (n > hi)) && risF hi (n + 1) (l.drop (k + 1))) = _
  rw [hb]; rfl
theorem ris_end {hi lo : Int} {l : List Int} {k : Nat} (h : l.length ≤ k) : risF hi lo (l.drop k) = true := by rw [List.drop_eq_nil_of_le h]; rfl
theorem ris_in {hi : Int} : ∀ {lo : Int} {l : List Int}, risF hi lo l = true → (∀ x ∈ l, lo ≤ x ∧ x ≤ hi) ∧ l.Pairwise (· < ·)
  | _, [], _ => ⟨(fun x hx => by cases hx), .nil⟩
  | lo, n :: l, h => by
    have h : (!(decide (n < lo) || decide (n > hi)) && risF hi (n + 1) l) = true := h
    simp only [Bool.and_eq_true, Bool.not_eq_true', Bool.or_eq_false_iff, decide_eq_false_iff_not] at h
    obtain ⟨h1, h2⟩ := ris_in h.2
    refine ⟨fun x hx => ?_, List.pairwise_cons.2 ⟨fun x hx => by have := h1 x hx; omega, h2⟩⟩
    rcases List.mem_cons.1 hx with rfl | hx
    · omega
    · have := h1 x hx; omega
def win (n hi : Int) : Bool := decide (n ≥ 1) && decide (n ≤ hi)
/-- Is a session wrong, at its place? -/
def sesP (i : Nat) (s : Ses) : Bool := decide (s.pa < 0) || decide (s.pa > 1048576) || !win s.ef 16 || ((s.who.length : Int) == 0) || !risF 63 0 s.who || !risF ((i : Int) - 1) 0 s.needs
def goodS : Nat → List Ses → Bool
  | _, [] => true
  | i, s :: l => !sesP i s && goodS (i + 1) l
theorem goodS_bad {i : Nat} {s : Ses} {l : List Ses} (h : l[i]? = some s) (hb : sesP i s = true) : goodS i (l.drop i) = false := by rw [drop_cons h]; unfold goodS; rw [hb]; rfl
theorem goodS_step {i : Nat} {s : Ses} {l : List Ses} (h : l[i]? = some s) (hb : sesP i s = false) : goodS i (l.drop i) = goodS (i + 1) (l.drop (i + 1)) := by
  rw [drop_cons h]
  show (!sesP i s && goodS (i + 1) (l.drop (i + 1))) = _
  rw [hb]; rfl
theorem goodS_end {i : Nat} {l : List Ses} (h : l.length ≤ i) : goodS i (l.drop i) = true := by rw [List.drop_eq_nil_of_le h]; rfl
def rightH (c : Cr) : Bool := !risF 73048 0 c.days || !win c.st 8 || !win c.da 8 || !win c.lo 64 || !win c.ru 16
def rightF (c : Cr) : Bool := !rightH c && goodS 0 c.ss
def plansF (c : Cr) : Int := ((c.days.length ^ c.ss.length : Nat) : Int)
def chkC (c : Cr) : Int := if ((decide ((c.days.length : Int) > 16) || decide ((c.ss.length : Int) > 8)) || c.ss.any (fun s => decide ((s.who.length : Int) > 6))) = true then 2 else if rightF c = true then (if plansF c > 65536 then 2 else 0) else 400
theorem pow16 {n k : Nat} (hn : n ≤ 16) (hk : k ≤ 8) : n ^ k ≤ 4294967296 := by
  have h1 : n ^ k ≤ 16 ^ k := Nat.pow_le_pow_left hn k
  have h2 : 16 ^ k ≤ 16 ^ 8 := Nat.pow_le_pow_right (by decide) hk
  have h3 : (16 : Nat) ^ 8 = 4294967296 := by decide
  omega
theorem chkC_1 {c : Cr} (h : ((decide ((c.days.length : Int) > 16) || decide ((c.ss.length : Int) > 8)) || c.ss.any (fun s => decide ((s.who.length : Int) > 6))) = true) : chkC c = 2 := by unfold chkC; rw [if_pos h]
theorem chkC_2 {c : Cr} (h : ((decide ((c.days.length : Int) > 16) || decide ((c.ss.length : Int) > 8)) || c.ss.any (fun s => decide ((s.who.length : Int) > 6))) = false) (h2 : rightF c = false) : chkC c = 400 := by unfold chkC; rw [if_neg (by rw [h]; decide), if_neg (by rw [h2]; decide)]
theorem chkC_3 {c : Cr} (h : ((decide ((c.days.length : Int) > 16) || decide ((c.ss.length : Int) > 8)) || c.ss.any (fun s => decide ((s.who.length : Int) > 6))) = false) (h2 : rightF c = true) : chkC c = if plansF c > 65536 then 2 else 0 := by unfold chkC; rw [if_neg (by rw [h]; decide), if_pos h2]
theorem chk_small {c : Cr} (h : ((decide ((c.days.length : Int) > 16) || decide ((c.ss.length : Int) > 8)) || c.ss.any (fun s => decide ((s.who.length : Int) > 6))) = false) : c.days.length ≤ 16 ∧ c.ss.length ≤ 8 ∧ ∀ s ∈ c.ss, s.who.length ≤ 6 := by
  simp only [Bool.or_eq_false_iff, decide_eq_false_iff_not, List.any_eq_false, decide_eq_true_eq] at h
  exact ⟨by omega, by omega, fun s hs => by have := h.2 s hs; omega⟩
end Go.Proofs.YtclkmnidgdkekaaGreat
end
section
namespace Go.Proofs.YtclkmnidgdkekaaGreat
open Go Go.Kn Go.Proofs
theorem w_win (I : HMap) (n hi : Int) : RetV Tryz.prog 101 [.int .i64 n, .int .i64 hi] I (.bool (win n hi)) := by
 intro g H w hw
 refine enter Tryz.func101 rfl Tryz.ntmps101 rfl hw ?_
 refine zR ?_
 refine zA ?_
 refine zN (zR ?_)
 refine zM ?_
 refine zC ?_
 refine zM ?_
 refine XO_pushT 2 rfl rfl rfl ?_
 refine zK (ev_move rfl) ?_
 refine zK (ev_move rfl) ?_
 refine zK (ev_cmp rfl rfl rfl) ?_
 refine XO_and0 rfl rfl rfl rfl rfl ?_
 refine zA ?_
 refine zN ?_
 refine X_ret ?_
 exact at_ret1 rfl rfl (fun w hw => ⟨by rfl, hw.drop⟩)
theorem w_ris {I : HMap} {av : Option Addr} {n c : Nat} {xs : List Int} (hS : Sl I 1 encI av n c xs) (hn : n ≤ 100000) (lo hi : Int) (hlo : 0 ≤ lo) (hhi : hi ≤ 100000) : RetV Tryz.prog 102 [.slice av n c, .int .i64 lo, .int .i64 hi] I (.bool (risF hi lo xs)) := by
 intro g H w hw
 refine enter Tryz.func102 rfl Tryz.ntmps102 rfl hw ?_
 refine zR ?_
 refine zA ?_
 refine zN ?_
 refine X_seq ?_
 refine zR ?_
 refine zM ?_
 refine zQ slt_24 ?_
 refine zM ?_
 refine zN ?_
 refine X_block ?_
 refine X_loopT [(2, _), (9, _), (10, _)] (.cons rfl (.cons rfl (.cons rfl .nil))) (fun T L0 mz E I' loc' => ∃ (k : Nat) (l : Int), mz = n - k ∧ E = (1, .int .i64 l) :: (11, .int .i64 k) :: T ∧ I = I' ∧ L0 = loc' ∧ k ≤ n ∧ risF hi lo xs = risF hi l (xs.drop k) ∧ 0 ≤ l) _ _ _ _ ⟨0, lo, rfl, rfl, rfl, rfl, Nat.zero_le _, rfl, hlo⟩ (.cons rfl (.cons rfl (.cons rfl (.cons rfl (.cons rfl .nil))))) (HLe.refl _) rfl ?_
 rintro mz E I' loc' ⟨k, l, rfl, rfl, rfl, rfl, hk, hr, hl0⟩
 refine zR ?_
 refine zC ?_
 refine zN ?_
 refine X_seq ?_
 refine zI ?_ ?_ <;> intro hc12
 ·
  have hlt_k : k < n := by have h := hc12; simp at h; omega
  obtain ⟨x, hx⟩ := hS.at hlt_k
  refine X_skip ?_
  refine at_then ?_
  refine X_seq ?_
  refine X_block ?_
  refine zR ?_
  refine zV (ev_indexSl rfl rfl slt_24 (by assumption) (fun hg => by omega)) ?_
  refine zV (ev_load rfl sct_3 (fun hg => by exact Sl.get0 hS hx rfl)) ?_
  refine zA ?_
  refine zN ?_
  refine X_seq ?_
  refine zR ?_
  refine zM ?_
  refine zM ?_
  refine zC ?_
  refine zM ?_
  refine XO_pushF 3 rfl rfl rfl ?_
  refine zJ (ev_move rfl) ?_
  refine zJ (ev_move rfl) ?_
  refine zJ (ev_cmp rfl rfl rfl) ?_
  refine XO_or0 rfl rfl rfl rfl rfl ?_
  refine zN ?_
  refine zI ?_ ?_ <;> intro hc22
  ·
   have hb : (decide (x < l) || decide (x > hi)) = true := hc22
   refine zR ?_
   refine zA ?_
   refine zN ?_
   refine X_ret ?_
   refine at_then_r ?_
   refine at_block_r ?_
   refine at_then_r ?_
   refine at_then_r ?_
   refine at_block_r ?_
   refine at_then_r ?_
   exact at_ret1 rfl rfl (fun w hw => ⟨by rw [hr, ris_bad hx hb], hw.drop⟩)
  have hb : (decide (x < l) || decide (x > hi)) = false := hc22
  have hxh : l ≤ x ∧ x ≤ 100000 := by have h := hb; simp only [Bool.or_eq_false_iff, decide_eq_false_iff_not] at h; omega
  refine X_skip ?_
  refine at_then ?_
  refine X_region ?_
  refine zM ?_
  refine zB ?_
  refine zA ?_
  refine XO_nil ?_
  refine at_block_n ?_
  refine at_then ?_
  refine X_region ?_
  refine zB ?_
  refine zM ?_
  refine XO_nil ?_
  exact at_met2 _ _ ⟨n - (k + 1), by omega, k + 1, _, rfl, rfl, rfl, rfl, by omega, by rw [hr, ris_step hx hb], by omega⟩ (.cons rfl (.cons rfl (.cons rfl (.cons rfl (.cons rfl .nil))))) (by repeat (first | exact .refl | exact subL_left | refine subL_app ?_ | refine .drop ?_ | refine subL_add ?_))
 have hge_k : n ≤ k := by have h := hc12; simp at h; omega
 rw [ris_end (by rw [hS.len]; exact hge_k)] at hr
 refine X_exit ?_
 refine at_then_e ?_
 refine at_then_e ?_
 refine at_block_hit ?_
 refine at_then ?_
 refine zR ?_
 refine zA ?_
 refine zN ?_
 refine X_ret ?_
 exact at_ret1 rfl rfl (fun w hw => ⟨by rw [hr], hw.drop⟩)
theorem w_ixS {I : HMap} {av : Option Addr} {n c : Nat} {ss : List Ses} {hs : List SH} (hH : SlSH I av n c hs ss) (hn : n ≤ 100000) {P : Ses → Bool} (hF : Fun Tryz.prog 70) (hf : ∀ (k : Nat) (h : SH) (s : Ses), hs[k]? = some h → ss[k]? = some s → RetV Tryz.prog 70 [encSHA h] I (.bool (P s))) : RetV Tryz.prog 100 [.slice av n c, .func (.func 70) #[] #[]] I (.int .i64 (idxF P ss)) := by
 intro g H w hw
 refine enter Tryz.func100 rfl Tryz.ntmps100 rfl hw ?_
 have hS := hH.1
 have hlS := hH.len
 refine zR ?_
 refine zA ?_
 refine zN ?_
 refine X_seq ?_
 refine zR ?_
 refine zM ?_
 refine zQ slt_26 ?_
 refine zM ?_
 refine zN ?_
 refine X_block ?_
 refine X_loopT [(0, _), (1, _), (7, _)] (.cons rfl (.cons rfl (.cons rfl .nil))) (fun T L0 mz E I' loc' => ∃ (k : Nat), mz = n - k ∧ E = (8, .int .i64 k) :: T ∧ I = I' ∧ L0 = loc' ∧ k ≤ n ∧ (ss.take k).any P = false) _ _ _ _ ⟨0, rfl, rfl, rfl, rfl, Nat.zero_le _, rfl⟩ (.cons rfl (.cons rfl (.cons rfl (.cons rfl .nil)))) (HLe.refl _) rfl ?_
 rintro mz E I' loc' ⟨k, rfl, rfl, rfl, rfl, hk, hno⟩
 refine zR ?_
 refine zC ?_
 refine zN ?_
 refine X_seq ?_
 refine zI ?_ ?_ <;> intro hc9
 ·
  have hlt_k : k < n := by have h := hc9; simp at h; omega
  obtain ⟨x, s, hx, hs9, _⟩ := hH.at hlt_k
  refine X_skip ?_
  refine at_then ?_
  refine X_seq ?_
  refine X_block ?_
  refine zR ?_
  refine zM ?_
  refine zA ?_
  refine zN (zR ?_)
  refine zM ?_
  refine zM ?_
  refine zM ?_
  refine zV (ev_indexSl rfl rfl slt_26 (by assumption) (fun hg => by omega)) ?_
  refine zV (ev_loadA rfl agt_40 (fun hg => by exact Sl.getA hS hx) rfl) ?_
  refine XO_callV0 (cap := []) (vs := [_]) rfl rfl hF (hf k x s hx hs9) rfl rfl ?_
  refine zN ?_
  refine zI ?_ ?_ <;> intro hc16
  ·
   refine zR ?_
   refine zM ?_
   refine zA ?_
   refine zN ?_
   refine X_ret ?_
   refine at_block_r ?_
   refine at_then_r ?_
   refine at_then_r ?_
   refine at_block_r ?_
   refine at_then_r ?_
   exact at_ret1 rfl rfl (fun w hw => ⟨by rw [idx_hit hno hs9 hc16], hw.drop⟩)
  refine X_skip ?_
  refine at_block_n ?_
  refine at_then ?_
  refine X_region ?_
  refine zV (ev_arB rfl rfl rfl (fun _ => by omega)) ?_
  refine zM ?_
  refine XO_nil ?_
  exact at_met2 _ _ ⟨n - (k + 1), by omega, k + 1, rfl, rfl, rfl, rfl, by omega, any_no hs9 hno hc16⟩ (.cons rfl (.cons rfl (.cons rfl (.cons rfl .nil)))) (by repeat (first | exact .refl | exact subL_left | refine subL_app ?_ | refine .drop ?_ | refine subL_add ?_))
 have hge_k : n ≤ k := by have h := hc9; simp at h; omega
 refine X_exit ?_
 refine at_then_e ?_
 refine at_then_e ?_
 refine at_block_hit ?_
 refine at_then ?_
 refine zR ?_
 refine zA ?_
 refine zN ?_
 refine X_ret ?_
 exact at_ret1 rfl rfl (fun w hw => ⟨by rw [idx_none hlS hge_k hno], hw.drop⟩)
theorem w_cnS {I : HMap} {av : Option Addr} {n c : Nat} {ss : List Ses} {hs : List SH} (hH : SlSH I av n c hs ss) (hn : n ≤ 100000) {P : Ses → Bool} (hF : Fun Tryz.prog 70) (hf : ∀ (k : Nat) (h : SH) (s : Ses), hs[k]? = some h → ss[k]? = some s → RetV Tryz.prog 70 [encSHA h] I (.bool (P s))) : RetV Tryz.prog 69 [.slice av n c, .func (.func 70) #[] #[]] I (.bool (ss.any P)) := by
 intro g H w hw
 refine enter Tryz.func69 rfl Tryz.ntmps69 rfl hw ?_
 refine zR ?_
 refine zA ?_
 refine zN (zR ?_)
 refine zM ?_
 refine zM ?_
 refine XO_callV0 (cap := []) (vs := [_, _]) rfl rfl fun_100 (w_ixS hH hn hF hf) rfl rfl ?_
 refine zC ?_
 refine zA ?_
 refine zN ?_
 refine X_ret ?_
 exact at_ret1 rfl rfl (fun w hw => ⟨by rw [← idx_any], hw.drop⟩)
theorem w_ck1S (I : HMap) (h : SH) : RetV Tryz.prog 70 [encSHA h] I (.bool (decide ((h.n : Int) > 6))) := by
 intro g H w hw
 refine enter Tryz.func70 rfl Tryz.ntmps70 rfl hw ?_
 refine zR ?_
 refine XO_box rfl rfl rfl (fun b_1 => ?_)
 refine zA ?_
 refine zN (zR ?_)
 refine zF fld_40_2 ?_
 refine zL sct_24 ?_
 refine zQ slt_24 ?_
 refine zC ?_
 refine zA ?_
 refine zN ?_
 refine X_ret ?_
 exact at_ret1 rfl rfl (fun w hw => ⟨by rfl, hw.drop⟩)
theorem w_right {I : HMap} {x : CH} {cr : Cr} (hC : CrAt I x cr) (hn : x.n ≤ 16) (hn2 : x.n2 ≤ 8) (hwh : ∀ s ∈ cr.ss, s.who.length ≤ 6) (hnd : ∀ s ∈ cr.ss, s.needs.length ≤ 100000) : RetV Tryz.prog 71 [encCHA x] I (.bool (rightF cr)) := by
 intro g H w hw
 refine enter Tryz.func71 rfl Tryz.ntmps71 rfl hw ?_
 obtain ⟨hD, e1, e2, e3, e4, hss⟩ := id hC
 obtain ⟨hs, hH⟩ := hss
 have hS := hH.1
 have hlD := hD.len
 have hlS := hH.len
 refine zR ?_
 refine XO_box rfl rfl rfl (fun b_1 => ?_)
 refine zA ?_
 refine zN (zR ?_)
 refine zA ?_
 refine zN ?_
 refine X_seq ?_
 refine zR ?_
 refine zF fld_28_0 ?_
 refine zL sct_24 ?_
 refine XO_callV0 (cap := []) (vs := [_, _, _]) rfl rfl fun_102 (w_ris hD (by omega) 0 73048 (by decide) (by decide)) rfl rfl ?_
 refine zO ?_
 refine zM ?_
 refine XO_pushF 4 rfl rfl rfl ?_
 refine zJ (ev_move rfl) ?_
 refine zJ (ev_fieldAddr rfl fld_28_1) ?_
 refine zJ (ev_load rfl sct_3 (fun hg => by repeat (first | exact Cell.here rfl | apply Cell.there | apply Cell.app))) ?_
 refine XO_callV1 (cap := []) (vs := [_, _]) rfl rfl fun_101 (fun hg => w_win I _ _) (.some rfl rfl rfl rfl gbf) rfl rfl ?_
 refine zJ (ev_not rfl) ?_
 refine XO_or0 rfl rfl rfl rfl rfl ?_
 refine zM ?_
 refine XO_pushF 11 rfl rfl rfl ?_
 refine zJ (ev_move rfl) ?_
 refine zJ (ev_fieldAddr rfl fld_28_2) ?_
 refine zJ (ev_load rfl sct_3 (fun hg => by repeat (first | exact Cell.here rfl | apply Cell.there | apply Cell.app))) ?_
 refine XO_callV1 (cap := []) (vs := [_, _]) rfl rfl fun_101 (fun hg => w_win I _ _) (.some rfl rfl rfl rfl gbf) rfl rfl ?_
 refine zJ (ev_not rfl) ?_
 refine XO_or0 rfl rfl rfl rfl rfl ?_
 refine zM ?_
 refine XO_pushF 18 rfl rfl rfl ?_
 refine zJ (ev_move rfl) ?_
 refine zJ (ev_fieldAddr rfl fld_28_3) ?_
 refine zJ (ev_load rfl sct_3 (fun hg => by repeat (first | exact Cell.here rfl | apply Cell.there | apply Cell.app))) ?_
 refine XO_callV1 (cap := []) (vs := [_, _]) rfl rfl fun_101 (fun hg => w_win I _ _) (.some rfl rfl rfl rfl gbf) rfl rfl ?_
 refine zJ (ev_not rfl) ?_
 refine XO_or0 rfl rfl rfl rfl rfl ?_
 refine zM ?_
 refine XO_pushF 25 rfl rfl rfl ?_
 refine zJ (ev_move rfl) ?_
 refine zJ (ev_fieldAddr rfl fld_28_4) ?_
 refine zJ (ev_load rfl sct_3 (fun hg => by repeat (first | exact Cell.here rfl | apply Cell.there | apply Cell.app))) ?_
 refine XO_callV1 (cap := []) (vs := [_, _]) rfl rfl fun_101 (fun hg => w_win I _ _) (.some rfl rfl rfl rfl gbf) rfl rfl ?_
 refine zJ (ev_not rfl) ?_
 refine XO_or0 rfl rfl rfl rfl rfl ?_
 refine zN ?_
 refine zI ?_ ?_ <;> intro hc37
 ·
  have hr : rightH cr = true := by unfold rightH; rw [← e1, ← e2, ← e3, ← e4]; exact hc37
  refine zR ?_
  refine zA ?_
  refine zN ?_
  refine X_ret ?_
  refine at_then_r ?_
  first
  | exact at_ret1 rfl rfl (fun w hw => ⟨by unfold rightF; rw [hr]; rfl, hw.drop⟩)
 have hr : rightH cr = false := by unfold rightH; rw [← e1, ← e2, ← e3, ← e4]; exact hc37
 refine X_skip ?_
 refine at_then ?_
 refine X_seq ?_
 refine zR ?_
 refine zF fld_28_5 ?_
 refine zL sct_26 ?_
 refine zQ slt_26 ?_
 refine zM ?_
 refine zN ?_
 refine X_block ?_
 refine X_loopT [(3, _), (39, _), (40, _)] (.cons rfl (.cons rfl (.cons rfl .nil))) (fun T L0 mz E I' loc' => ∃ (k : Nat), mz = x.n2 - k ∧ E = (41, .int .i64 k) :: T ∧ I = I' ∧ L0 = loc' ∧ k ≤ x.n2 ∧ goodS 0 cr.ss = goodS k (cr.ss.drop k)) _ _ _ _ ⟨0, rfl, rfl, rfl, rfl, Nat.zero_le _, rfl⟩ (.cons rfl (.cons rfl (.cons rfl (.cons rfl .nil)))) (HLe.refl _) rfl ?_
 rintro mz E I' loc' ⟨k, rfl, rfl, rfl, rfl, hk, hg9⟩
 refine zR ?_
 refine zC ?_
 refine zN ?_
 refine X_seq ?_
 refine zI ?_ ?_ <;> intro hc42
 ·
  have hlt_k : k < x.n2 := by have h := hc42; simp at h; omega
  obtain ⟨y, s, hy, hs9, q1, q2, hW, hN⟩ := hH.at hlt_k
  have hwl := hwh s (List.mem_of_getElem? hs9)
  have hnl := hnd s (List.mem_of_getElem? hs9)
  have hWl := hW.len
  have hNl := hN.len
  refine X_skip ?_
  refine at_then ?_
  refine X_seq ?_
  refine X_block ?_
  refine zR ?_
  refine zM ?_
  refine zV (ev_indexSl rfl rfl slt_26 (by assumption) (fun hg => by omega)) ?_
  refine zV (ev_loadA rfl agt_40 (fun hg => by exact Sl.getA hS hy) rfl) ?_
  refine XO_alloc zt_40 rfl rfl (fun b_5 => ?_)
  refine zA ?_
  refine XO_storeA rfl rfl szt_40 rfl rfl rfl rfl (by repeat (first | exact Upd.here | apply Upd.there | apply upd_app)) ?_
  refine zN (zR ?_)
  refine zF fld_40_0 ?_
  refine zL sct_3 ?_
  refine zC ?_
  refine zM ?_
  refine XO_pushF 3 rfl rfl rfl ?_
  refine zJ (ev_fieldAddr rfl fld_40_0) ?_
  refine zJ (ev_load rfl sct_3 (fun hg => by repeat (first | exact Cell.here rfl | apply Cell.there | apply Cell.app))) ?_
  refine zJ (ev_cmp rfl rfl rfl) ?_
  refine XO_or0 rfl rfl rfl rfl rfl ?_
  refine zM ?_
  refine XO_pushF 8 rfl rfl rfl ?_
  refine zJ (ev_move rfl) ?_
  refine zJ (ev_fieldAddr rfl fld_40_1) ?_
  refine zJ (ev_load rfl sct_3 (fun hg => by repeat (first | exact Cell.here rfl | apply Cell.there | apply Cell.app))) ?_
  refine XO_callV1 (cap := []) (vs := [_, _]) rfl rfl fun_101 (fun hg => w_win I _ _) (.some rfl rfl rfl rfl gbf) rfl rfl ?_
  refine zJ (ev_not rfl) ?_
  refine XO_or0 rfl rfl rfl rfl rfl ?_
  refine zM ?_
  refine XO_pushF 15 rfl rfl rfl ?_
  refine zJ (ev_fieldAddr rfl fld_40_2) ?_
  refine zJ (ev_load rfl sct_24 (fun hg => by repeat (first | exact Cell.here rfl | apply Cell.there | apply Cell.app))) ?_
  refine zJ (ev_lenS rfl slt_24) ?_
  refine zJ (ev_cmp rfl rfl rfl) ?_
  refine XO_or0 rfl rfl rfl rfl rfl ?_
  refine zM ?_
  refine XO_pushF 21 rfl rfl rfl ?_
  refine zJ (ev_fieldAddr rfl fld_40_2) ?_
  refine zJ (ev_load rfl sct_24 (fun hg => by repeat (first | exact Cell.here rfl | apply Cell.there | apply Cell.app))) ?_
  refine XO_callV1 (cap := []) (vs := [_, _, _]) rfl rfl fun_102 (fun hg => w_ris hW (by omega) 0 63 (by decide) (by decide)) (.some rfl rfl rfl rfl gbf) rfl rfl ?_
  refine zJ (ev_not rfl) ?_
  refine XO_or0 rfl rfl rfl rfl rfl ?_
  refine zM ?_
  refine XO_pushF 27 rfl rfl rfl ?_
  refine zJ (ev_fieldAddr rfl fld_40_3) ?_
  refine zJ (ev_load rfl sct_24 (fun hg => by repeat (first | exact Cell.here rfl | apply Cell.there | apply Cell.app))) ?_
  refine zJ (ev_move rfl) ?_
  refine zJ (ev_arB rfl rfl rfl (fun hg => by omega)) ?_
  refine XO_callV1 (cap := []) (vs := [_, _, _]) rfl rfl fun_102 (fun hg => w_ris hN (by omega) 0 _ (by decide) (by omega)) (.some rfl rfl rfl rfl gbf) rfl rfl ?_
  refine zJ (ev_not rfl) ?_
  refine XO_or0 rfl rfl rfl rfl rfl ?_
  refine zN ?_
  refine zI ?_ ?_ <;> intro hc80
  ·
   have hb : sesP k s = true := by unfold sesP; rw [← q1, ← q2, hWl]; exact hc80
   refine zR ?_
   refine zA ?_
   refine zN ?_
   refine X_ret ?_
   refine at_block_r ?_
   refine at_then_r ?_
   refine at_then_r ?_
   refine at_block_r ?_
   refine at_then_r ?_
   first
   | exact at_ret1 rfl rfl (fun w hw => ⟨by unfold rightF; rw [hr, hg9, goodS_bad hs9 hb]; rfl, hw.drop⟩)
  have hb : sesP k s = false := by unfold sesP; rw [← q1, ← q2, hWl]; exact hc80
  refine X_skip ?_
  refine at_block_n ?_
  refine at_then ?_
  refine X_region ?_
  refine zB ?_
  refine zM ?_
  refine XO_nil ?_
  exact at_met2 _ _ ⟨x.n2 - (k + 1), by omega, k + 1, rfl, rfl, rfl, rfl, by omega, by rw [hg9, goodS_step hs9 hb]⟩ (.cons rfl (.cons rfl (.cons rfl (.cons rfl .nil)))) (by repeat (first | exact .refl | exact subL_left | refine subL_app ?_ | refine .drop ?_ | refine subL_add ?_))
 have hge_k : x.n2 ≤ k := by have h := hc42; simp at h; omega
 rw [goodS_end (by omega)] at hg9
 refine X_exit ?_
 refine at_then_e ?_
 refine at_then_e ?_
 refine at_block_hit ?_
 refine at_then ?_
 refine zR ?_
 refine zA ?_
 refine zN ?_
 refine X_ret ?_
 first
 | exact at_ret1 rfl rfl (fun w hw => ⟨by unfold rightF; rw [hr, hg9]; rfl, hw.drop⟩)
end Go.Proofs.YtclkmnidgdkekaaGreat
end
section
namespace Go.Proofs.YtclkmnidgdkekaaGreat
open Go Go.Kn Go.Proofs
theorem w_chkC {I : HMap} {x : CH} {cr : Cr} (hC : CrAt I x cr) (hnd : ∀ s ∈ cr.ss, s.needs.length ≤ 100000) : RetV Tryz.prog 40 [encCHA x] I (.int .i64 (chkC cr)) := by
 intro g H w hw
 refine enter Tryz.func40 rfl Tryz.ntmps40 rfl hw ?_
 obtain ⟨hD, e1, e2, e3, e4, hss⟩ := id hC
 obtain ⟨hs, hH⟩ := hss
 have hS := hH.1
 have hlD := hD.len
 have hlS := hH.len
 have hP : ∀ (k : Nat) (h : SH) (s : Ses), hs[k]? = some h → cr.ss[k]? = some s → RetV Tryz.prog 70 [encSHA h] I (.bool (decide ((s.who.length : Int) > 6))) := fun k h s a b => by have h9 := w_ck1S I h; rw [← (hH.2.2 k h s a b).2.2.1.len] at h9; exact h9
 refine zR ?_
 refine XO_box rfl rfl rfl (fun b_1 => ?_)
 refine zA ?_
 refine zN ?_
 refine X_seq ?_
 refine zR ?_
 refine zF fld_28_0 ?_
 refine zL sct_24 ?_
 refine zQ slt_24 ?_
 refine zC ?_
 refine zM ?_
 refine XO_pushF 4 rfl rfl rfl ?_
 refine zJ (ev_fieldAddr rfl fld_28_5) ?_
 refine zJ (ev_load rfl sct_26 (fun hg => by repeat (first | exact Cell.here rfl | apply Cell.there | apply Cell.app))) ?_
 refine zJ (ev_lenS rfl slt_26) ?_
 refine zJ (ev_cmp rfl rfl rfl) ?_
 refine XO_or0 rfl rfl rfl rfl rfl ?_
 refine zM ?_
 refine XO_pushF 10 rfl rfl rfl ?_
 refine zJ (ev_fieldAddr rfl fld_28_5) ?_
 refine zJ (ev_load rfl sct_26 (fun hg => by repeat (first | exact Cell.here rfl | apply Cell.there | apply Cell.app))) ?_
 refine XO_callV1 (cap := []) (vs := [_, _]) rfl rfl fun_69 (fun hg => w_cnS (P := fun s => decide ((s.who.length : Int) > 6)) hH (by simp [conj] at hg; omega) fun_70 hP) (.some rfl rfl rfl rfl gbf) rfl rfl ?_
 refine XO_or0 rfl rfl rfl rfl rfl ?_
 refine zN ?_
 refine zI ?_ ?_ <;> intro hc18
 ·
  have h1 : ((decide ((cr.days.length : Int) > 16) || decide ((cr.ss.length : Int) > 8)) || cr.ss.any (fun s => decide ((s.who.length : Int) > 6))) = true := by rw [hlD, hlS]; exact hc18
  refine zR ?_
  refine zA ?_
  refine zN ?_
  refine X_ret ?_
  refine at_then_r ?_
  exact at_ret1 rfl rfl (fun w hw => ⟨by rw [chkC_1 h1], hw.drop⟩)
 have h1 : ((decide ((cr.days.length : Int) > 16) || decide ((cr.ss.length : Int) > 8)) || cr.ss.any (fun s => decide ((s.who.length : Int) > 6))) = false := by rw [hlD, hlS]; exact hc18
 obtain ⟨hk1, hk2, hk3⟩ := chk_small h1
 rw [hlD] at hk1
 rw [hlS] at hk2
 refine X_skip ?_
 refine at_then ?_
 refine X_seq ?_
 refine zR ?_
 refine zV (ev_loadA rfl agt_28 (fun hg => by first | (repeat (first | exact Cells.here | exact Cells.s0 (vs := [_, _, _, _, _, _]) rfl | apply Cells.there | apply Cells.app))) rfl) ?_
 refine XO_callV0 (cap := []) (vs := [_]) rfl rfl fun_71 (w_right hC (by omega) (by omega) hk3 hnd) rfl rfl ?_
 refine zO ?_
 refine zN ?_
 refine zI ?_ ?_ <;> intro hc21
 ·
  have h2 : rightF cr = false := by simpa using hc21
  refine zR ?_
  refine zA ?_
  refine zN ?_
  refine X_ret ?_
  refine at_then_r ?_
  exact at_ret1 rfl rfl (fun w hw => ⟨by rw [chkC_2 h1 h2], hw.drop⟩)
 have h2 : rightF cr = true := by simpa using hc21
 refine X_skip ?_
 refine at_then ?_
 refine zR ?_
 refine zA ?_
 refine zN ?_
 refine X_seq ?_
 refine zR ?_
 refine zF fld_28_5 ?_
 refine zL sct_26 ?_
 refine zQ slt_26 ?_
 refine zM ?_
 refine zN ?_
 refine X_block ?_
 refine X_loopT [(1, _), (24, _)] (.cons rfl (.cons rfl .nil)) (fun T L0 mz E I' loc' => ∃ (k : Nat) (q : Int), mz = x.n2 - k ∧ E = (3, .int .i64 q) :: (25, .int .i64 k) :: T ∧ I = I' ∧ L0 = loc' ∧ k ≤ x.n2 ∧ q = ((x.n ^ k : Nat) : Int)) _ _ _ _ ⟨0, 1, rfl, rfl, rfl, rfl, Nat.zero_le _, rfl⟩ (.cons rfl (.cons rfl (.cons rfl (.cons rfl .nil)))) (HLe.refl _) rfl ?_
 rintro mz E I' loc' ⟨k, q, rfl, rfl, rfl, rfl, hk, hq⟩
 refine zR ?_
 refine zC ?_
 refine zN ?_
 refine X_seq ?_
 refine zI ?_ ?_ <;> intro hc26
 ·
  have hlt_k : k < x.n2 := by have h := hc26; simp at h; omega
  have hp := pow16 (n := x.n) (k := k) hk1 (by omega)
  have hp2 := pow16 (n := x.n) (k := k + 1) hk1 (by omega)
  have hm : q * (x.n : Int) = ((x.n ^ (k + 1) : Nat) : Int) := by rw [hq, Nat.pow_succ]; simp
  refine X_skip ?_
  refine at_then ?_
  refine X_seq ?_
  refine X_block ?_
  refine X_region ?_
  refine zM ?_
  refine zF fld_28_0 ?_
  refine zL sct_24 ?_
  refine zQ slt_24 ?_
  refine zB ?_
  refine zA ?_
  refine XO_nil ?_
  refine at_block_n ?_
  refine at_then ?_
  refine X_region ?_
  refine zB ?_
  refine zM ?_
  refine XO_nil ?_
  exact at_met2 _ _ ⟨x.n2 - (k + 1), by omega, k + 1, _, rfl, rfl, rfl, rfl, by omega, by rw [hq, Nat.pow_succ]; simp⟩ (.cons rfl (.cons rfl (.cons rfl (.cons rfl .nil)))) (by repeat (first | exact .refl | exact subL_left | refine subL_app ?_ | refine .drop ?_ | refine subL_add ?_))
 have hge_k : x.n2 ≤ k := by have h := hc26; simp at h; omega
 obtain rfl : k = x.n2 := by omega
 have hpl : plansF cr = q := by unfold plansF; rw [hlD, hlS, hq]
 refine X_exit ?_
 refine at_then_e ?_
 refine at_then_e ?_
 refine at_block_hit ?_
 refine at_then ?_
 refine X_seq ?_
 refine zR ?_
 refine zM ?_
 refine zC ?_
 refine zN ?_
 refine zI ?_ ?_ <;> intro hc34
 ·
  have h3 : plansF cr > 65536 := by rw [hpl]; simpa using hc34
  refine zR ?_
  refine zA ?_
  refine zN ?_
  refine X_ret ?_
  refine at_then_r ?_
  exact at_ret1 rfl rfl (fun w hw => ⟨by rw [chkC_3 h1 h2, if_pos h3], hw.drop⟩)
 have h3 : ¬ plansF cr > 65536 := by rw [hpl]; simpa using hc34
 refine X_skip ?_
 refine at_then ?_
 refine zR ?_
 refine zA ?_
 refine zN ?_
 refine X_ret ?_
 exact at_ret1 rfl rfl (fun w hw => ⟨by rw [chkC_3 h1 h2, if_neg h3], hw.drop⟩)
end Go.Proofs.YtclkmnidgdkekaaGreat
end
section
namespace Go.Proofs.YtclkmnidgdkekaaGreat
open Go Go.Kn Go.Proofs
structure Br where
  r : Int
  d : Int
  w : Int
deriving DecidableEq
def encBr (b : Br) : List Value := [.int .i64 b.r, .int .i64 b.d, .int .i64 b.w]
theorem encBr_len (b : Br) : (encBr b).length = 3 := rfl
theorem one_Br (xs : List Br) : allOne (xs.flatMap encBr) = true := allOne_flat (fun _ => rfl) xs
def encBrA (b : Br) : Value := .agg (encBr b).toArray
def orL : List Int → Int
  | [] => 0
  | x :: l => if (x != 0) = true then x else orL l
theorem orL_hit {l : List Int} {k : Nat} {x : Int} (hx : l[k]? = some x) (h : (x != 0) = true) : orL (l.drop k) = x := by rw [drop_cons hx]; exact if_pos h
theorem orL_go {l : List Int} {k : Nat} {x : Int} (hx : l[k]? = some x) (h : (x != 0) = false) : orL (l.drop k) = orL (l.drop (k + 1)) := by rw [drop_cons hx]; exact if_neg (by rw [h]; decide)
theorem orL_end {l : List Int} {k : Nat} (h : l.length ≤ k) : orL (l.drop k) = 0 := by rw [List.drop_eq_nil_of_le h]; rfl
def cmpB (a b : Br) : Int := orL [cmpF a.r b.r, cmpF a.d b.d, cmpF a.w b.w]
end Go.Proofs.YtclkmnidgdkekaaGreat
end
section
namespace Go.Proofs.YtclkmnidgdkekaaGreat
open Go Go.Kn Go.Proofs
theorem w_or {I : HMap} {av : Option Addr} {n c : Nat} {xs : List Int} (hS : Sl I 1 encI av n c xs) (hn : n ≤ 100000) : RetV Tryz.prog 83 [.slice av n c] I (.int .i64 (orL xs)) := by
 intro g H w hw
 refine enter Tryz.func83 rfl Tryz.ntmps83 rfl hw ?_
 refine zR ?_
 refine zA ?_
 refine zN (zR ?_)
 refine zA ?_
 refine zN ?_
 refine X_seq ?_
 refine zR ?_
 refine zM ?_
 refine zQ slt_24 ?_
 refine zM ?_
 refine zN ?_
 refine X_block ?_
 refine X_loopT [(3, _), (6, _), (7, _)] (.cons rfl (.cons rfl (.cons rfl .nil))) (fun T L0 mz E I' loc' => ∃ (k : Nat), mz = n - k ∧ E = (8, .int .i64 k) :: T ∧ I = I' ∧ L0 = loc' ∧ k ≤ n ∧ orL xs = orL (xs.drop k)) _ _ _ _ ⟨0, rfl, rfl, rfl, rfl, Nat.zero_le _, rfl⟩ (.cons rfl (.cons rfl (.cons rfl (.cons rfl .nil)))) (HLe.refl _) rfl ?_
 rintro mz E I' loc' ⟨k, rfl, rfl, rfl, rfl, hk, hr⟩
 refine zR ?_
 refine zC ?_
 refine zN ?_
 refine X_seq ?_
 refine zI ?_ ?_ <;> intro hc9
 ·
  have hlt_k : k < n := by have h := hc9; simp at h; omega
  obtain ⟨x, hx⟩ := hS.at hlt_k
  refine X_skip ?_
  refine at_then ?_
  refine X_seq ?_
  refine X_block ?_
  refine zR ?_
  refine zV (ev_indexSl rfl rfl slt_24 (by assumption) (fun hg => by omega)) ?_
  refine zV (ev_load rfl sct_3 (fun hg => by exact Sl.get0 hS hx rfl)) ?_
  refine zA ?_
  refine zN (zR ?_)
  refine zM ?_
  refine zM ?_
  refine zC ?_
  refine zN ?_
  refine zI ?_ ?_ <;> intro hc14
  ·
   have hb : (x != 0) = true := hc14
   refine zR ?_
   refine zM ?_
   refine zA ?_
   refine zN ?_
   refine X_ret ?_
   refine at_block_r ?_
   refine at_then_r ?_
   refine at_then_r ?_
   refine at_block_r ?_
   refine at_then_r ?_
   exact at_ret1 rfl rfl (fun w hw => ⟨by rw [hr, orL_hit hx hb], hw.drop⟩)
  have hb : (x != 0) = false := hc14
  refine X_skip ?_
  refine at_block_n ?_
  refine at_then ?_
  refine X_region ?_
  refine zB ?_
  refine zM ?_
  refine XO_nil ?_
  exact at_met2 _ _ ⟨n - (k + 1), by omega, k + 1, rfl, rfl, rfl, rfl, by omega, by rw [hr, orL_go hx hb]⟩ (.cons rfl (.cons rfl (.cons rfl (.cons rfl .nil)))) (by repeat (first | exact .refl | exact subL_left | refine subL_app ?_ | refine .drop ?_ | refine subL_add ?_))
 have hge_k : n ≤ k := by have h := hc9; simp at h; omega
 rw [orL_end (by rw [hS.len]; exact hge_k)] at hr
 refine X_exit ?_
 refine at_then_e ?_
 refine at_then_e ?_
 refine at_block_hit ?_
 refine at_then ?_
 refine zR ?_
 refine zM ?_
 refine zA ?_
 refine zN ?_
 refine X_ret ?_
 exact at_ret1 rfl rfl (fun w hw => ⟨by rw [hr], hw.drop⟩)
theorem w_cmpB (I : HMap) (a b : Br) : RetV Tryz.prog 79 [encBrA a, encBrA b] I (.int .i64 (cmpB a b)) := by
 intro g H w hw
 refine enter Tryz.func79 rfl Tryz.ntmps79 rfl hw ?_
 have hIc := HLe.refl I
 refine zR ?_
 refine XO_box rfl rfl rfl (fun b_2 => ?_)
 refine XO_box rfl rfl rfl (fun b_3 => ?_)
 refine zA ?_
 refine zN ?_
 refine X_seq ?_
 have hD := HLe.refl I
 refine X_drawC mixed ?_
 refine zT 0 rfl (ev_fieldAddr rfl fld_98_0) hD ?_
 refine zT 1 rfl (ev_load rfl sct_3 (fun hg => by repeat (first | exact Cell.here rfl | apply Cell.there | apply Cell.app))) hD ?_
 refine zT 2 rfl (ev_fieldAddr rfl fld_98_0) hD ?_
 refine zT 3 rfl (ev_load rfl sct_3 (fun hg => by repeat (first | exact Cell.here rfl | apply Cell.there | apply Cell.app))) hD ?_
 refine zT 5 rfl (ev_fieldAddr rfl fld_98_1) hD ?_
 refine zT 6 rfl (ev_load rfl sct_3 (fun hg => by repeat (first | exact Cell.here rfl | apply Cell.there | apply Cell.app))) hD ?_
 refine zT 7 rfl (ev_fieldAddr rfl fld_98_1) hD ?_
 refine zT 8 rfl (ev_load rfl sct_3 (fun hg => by repeat (first | exact Cell.here rfl | apply Cell.there | apply Cell.app))) hD ?_
 refine zT 10 rfl (ev_fieldAddr rfl fld_98_2) hD ?_
 refine zT 11 rfl (ev_load rfl sct_3 (fun hg => by repeat (first | exact Cell.here rfl | apply Cell.there | apply Cell.app))) hD ?_
 refine zT 12 rfl (ev_fieldAddr rfl fld_98_2) hD ?_
 refine zT 13 rfl (ev_load rfl sct_3 (fun hg => by repeat (first | exact Cell.here rfl | apply Cell.there | apply Cell.app))) hD ?_
 refine XD_one 4 rfl (by kernel_rfl) ?_
 refine XO_callV0 (cap := []) (vs := [_, _]) rfl rfl fun_48 (w_cmp I _ _) rfl rfl ?_
 refine XO_nil ?_
 refine zD hD ?_
 refine XD_one 9 rfl (by kernel_rfl) ?_
 refine XO_callV0 (cap := []) (vs := [_, _]) rfl rfl fun_48 (w_cmp I _ _) rfl rfl ?_
 refine XO_nil ?_
 refine zD hD ?_
 refine XD_one 14 rfl (by kernel_rfl) ?_
 refine XO_callV0 (cap := []) (vs := [_, _]) rfl rfl fun_48 (w_cmp I _ _) rfl rfl ?_
 refine XO_nil ?_
 refine zD hD ?_
 refine XD_one 15 rfl (by kernel_rfl) ?_
 refine XO_buildSlice (ps := [(0, _), (1, _), (2, _)]) (m := [encI (cmpF a.r b.r), encI (cmpF a.d b.d), encI (cmpF a.w b.w)]) elt_24 rfl (.cons rfl (.cons rfl (.cons rfl (.nil)))) rfl (by simp [encI_len]) (by decide) (by decide) rfl rfl (fun b_20 => ?_)
 refine XO_nil ?_
 refine zD hD ?_
 refine XD_one 16 rfl (by kernel_rfl) ?_
 refine XO_freeze (b := b_20) (by repeat (first | exact Take.here | apply Take.there)) (fun I1 hI1 hb1 => ?_)
 have hIc := hIc.trans hI1; have hD := hD.trans hI1
 have h3 : Sl I1 1 encI (some ⟨b_20, 0, none⟩) 3 3 [cmpF a.r b.r, cmpF a.d b.d, cmpF a.w b.w] := Sl.lit ([cmpF a.r b.r, cmpF a.d b.d, cmpF a.w b.w] : List Int) rfl encI_len (show _ = some (Obj.cells (([cmpF a.r b.r, cmpF a.d b.d, cmpF a.w b.w] : List Int).flatMap encI).toArray 3 (0, 0)) from hb1)
 refine XO_callV0 (cap := []) (vs := [_]) rfl rfl fun_83 (w_or h3 (by decide)) rfl rfl ?_
 refine XO_nil ?_
 refine zD hD ?_
 refine zT 17 rfl (ev_assign rfl) hD ?_
 refine XD_done (by kernel_rfl) ?_
 refine at_noP ?_
 refine at_then ?_
 refine X_ret ?_
 exact at_ret1 rfl rfl (fun w hw => ⟨by rfl, (hw.mono hIc).drop⟩)
end Go.Proofs.YtclkmnidgdkekaaGreat
end
section
namespace Go.Proofs.YtclkmnidgdkekaaGreat
open Go Go.Kn Go.Proofs
/-! ### The order of breaches -/
def ltB (a b : Br) : Prop := a.r < b.r ∨ (a.r = b.r ∧ (a.d < b.d ∨ (a.d = b.d ∧ a.w < b.w)))
theorem ltB_irr (a : Br) : ¬ ltB a a := by unfold ltB; omega
theorem ltB_trans {a b c : Br} (h : ltB a b) (g : ltB b c) : ltB a c := by unfold ltB at *; omega
theorem ltB_anti {a b : Br} (h : ltB a b) (g : ltB b a) : False := ltB_irr _ (ltB_trans h g)
theorem ltB_tri (a b : Br) : ltB a b ∨ a = b ∨ ltB b a := by
  obtain ⟨r, d, w⟩ := a; obtain ⟨r', d', w'⟩ := b
  unfold ltB; simp only [Br.mk.injEq]; omega
theorem cmpB_lt (a b : Br) : cmpB a b < 0 ↔ ltB a b := by
  unfold cmpB ltB
  simp only [orL]
  have h1 : ∀ x y : Int, cmpF x y = if x < y then -1 else if x > y then 1 else 0 := fun x y => by unfold cmpF; rfl
  simp only [h1]
  by_cases e1 : a.r < b.r
  · simp [e1]
  · by_cases e2 : a.r > b.r
    · simp [e1, e2]; omega
    · by_cases e3 : a.d < b.d
      · simp [e1, e2, e3]; omega
      · by_cases e4 : a.d > b.d
        · simp [e1, e2, e3, e4]; omega
        · by_cases e5 : a.w < b.w
          · simp [e1, e2, e3, e4, e5]; omega
          · by_cases e6 : a.w > b.w
            · simp [e1, e2, e3, e4, e5, e6]
            · simp [e1, e2, e3, e4, e5, e6]
theorem lex_one {xs ys : List Br} (hx : xs.Pairwise ltB) (hy : ys.Pairwise ltB) (h : ∀ b, b ∈ xs ↔ b ∈ ys) : xs = ys := by
  have nx : xs.Nodup := hx.imp (S := (· ≠ ·)) (fun h e => by subst e; exact ltB_irr _ h)
  have ny : ys.Nodup := hy.imp (S := (· ≠ ·)) (fun h e => by subst e; exact ltB_irr _ h)
  exact List.Perm.eq_of_pairwise (le := ltB) (fun a b _ _ h1 h2 => (ltB_anti h1 h2).elim) hx hy ((List.perm_ext_iff_of_nodup nx ny).2 h)
/-! ### What a beginning breaks -/
def onD (c : Cr) (pl : List Int) (d : Int) : List Ses := ((pl.zip c.ss).filter (fun q => q.1 == d)).map (·.2)
def cntF (c : Cr) (pl : List Int) (d p : Int) : Int := (((onD c pl d).filter (fun s => s.who.contains p)).length : Nat)
def effF (c : Cr) (pl : List Int) (d p : Int) : Int := (((onD c pl d).filter (fun s => s.who.contains p)).map (·.ef)).sum
def manyF (pl : List Int) (d : Int) : Int := ((pl.filter (· == d)).length : Nat)
def dayF (c : Cr) (d : Int) : Int := c.days.getD d.toNat 0
def busyF (c : Cr) (pl : List Int) (x p : Int) : Bool := (pl.zip c.ss).any fun q => dayF c q.1 == x && q.2.who.contains p
def needF (c : Cr) (pl : List Int) (d k : Int) : Bool := (pl.zip c.ss).any fun q => q.1 == d && q.2.needs.contains k && decide (pl.getD k.toNat 0 ≥ d)
def runF (c : Cr) (pl : List Int) (d p : Int) : Bool := (List.range (c.ru.toNat + 1)).all fun k => busyF c pl (dayF c d - (k : Int)) p
def brk (c : Cr) (pl : List Int) (b : Br) : Bool :=
  if b.r = 1 then needF c pl b.d b.w else if b.r = 2 then b.w == 0 && decide (manyF pl b.d > c.st) else if b.r = 3 then decide (cntF c pl b.d b.w > c.da)
  else if b.r = 4 then decide (effF c pl b.d b.w > c.lo) else if b.r = 5 then runF c pl b.d b.w else false
def cands (n : Nat) : List Br := [1, 2, 3, 4, 5].flatMap fun r => (List.range n).flatMap fun (d : Nat) => (List.range 64).map fun (w : Nat) => ⟨r, d, w⟩
theorem mem_cands {n : Nat} {b : Br} : b ∈ cands n ↔ (1 ≤ b.r ∧ b.r ≤ 5) ∧ (0 ≤ b.d ∧ b.d < n) ∧ (0 ≤ b.w ∧ b.w < 64) := by
  obtain ⟨r, d, w⟩ := b
  unfold cands
  simp only [List.mem_flatMap, List.mem_map, List.mem_range, Br.mk.injEq]
  constructor
  · rintro ⟨r', hr, d', hd, w', hw, rfl, rfl, rfl⟩
    simp only [List.mem_cons, List.not_mem_nil, or_false] at hr
    omega
  · rintro ⟨h1, h2, h3⟩
    refine ⟨r, ?_, d.toNat, by omega, w.toNat, by omega, rfl, by omega, by omega⟩
    simp only [List.mem_cons, List.not_mem_nil, or_false]; omega
theorem cands_lt (n : Nat) : (cands n).Pairwise ltB := by
  unfold cands
  have hr : ∀ m, (List.range m).Pairwise (· < ·) := fun m => List.pairwise_lt_range
  refine List.pairwise_flatMap.2 ⟨fun r _ => List.pairwise_flatMap.2 ⟨fun d _ => List.pairwise_map.2 ((hr 64).imp fun {a b} h => .inr ⟨rfl, .inr ⟨rfl, by show (a : Int) < b; omega⟩⟩), (hr n).imp fun {a b} h => ?_⟩, ?_⟩
  · intro x hx y hy
    simp only [List.mem_map] at hx hy
    obtain ⟨w, _, rfl⟩ := hx
    obtain ⟨w', _, rfl⟩ := hy
    exact .inr ⟨rfl, .inl (by show (a : Int) < b; omega)⟩
  · have : ([1, 2, 3, 4, 5] : List Int).Pairwise (· < ·) := by decide
    refine this.imp fun {a b} h => ?_
    intro x hx y hy
    simp only [List.mem_flatMap, List.mem_map] at hx hy
    obtain ⟨d, _, w, _, rfl⟩ := hx
    obtain ⟨d', _, w', _, rfl⟩ := hy
    exact .inl h
/-- What a beginning breaks, in order. -/
def brkL (c : Cr) (pl : List Int) : List Br := (cands c.days.length).filter (brk c pl)
theorem mem_brkL {c : Cr} {pl : List Int} {b : Br} : b ∈ brkL c pl ↔ ((1 ≤ b.r ∧ b.r ≤ 5) ∧ (0 ≤ b.d ∧ b.d < c.days.length) ∧ (0 ≤ b.w ∧ b.w < 64)) ∧ brk c pl b = true := by
  unfold brkL; rw [List.mem_filter, mem_cands]
theorem brkL_lt (c : Cr) (pl : List Int) : (brkL c pl).Pairwise ltB := (cands_lt _).sublist List.filter_sublist
end Go.Proofs.YtclkmnidgdkekaaGreat
end
section
namespace Go.Proofs.YtclkmnidgdkekaaGreat
open Go Go.Kn Go.Proofs
theorem goodS_at : ∀ {l : List Ses} {i : Nat}, goodS i l = true → ∀ (k : Nat) (s : Ses), l[k]? = some s → sesP (i + k) s = false
  | [], _, _, k, s, h => by simp at h
  | x :: l, i, h, k, s, hs => by
    have h : (!sesP i x && goodS (i + 1) l) = true := h
    simp only [Bool.and_eq_true, Bool.not_eq_true'] at h
    cases k with
    | zero => simp at hs; subst hs; exact h.1
    | succ k => have := goodS_at h.2 k s (by simpa using hs); rw [show i + (k + 1) = i + 1 + k by omega]; exact this
structure SesOK (i : Nat) (s : Ses) : Prop where
  pa : 0 ≤ s.pa ∧ s.pa ≤ 1048576
  ef : 1 ≤ s.ef ∧ s.ef ≤ 16
  ne : s.who ≠ []
  who : ∀ p ∈ s.who, 0 ≤ p ∧ p ≤ 63
  inc : s.who.Pairwise (· < ·)
  needs : ∀ k ∈ s.needs, 0 ≤ k ∧ k < i
  incn : s.needs.Pairwise (· < ·)
theorem ses_ok {i : Nat} {s : Ses} (h : sesP i s = false) : SesOK i s := by
  unfold sesP win at h
  simp only [Bool.or_eq_false_iff, decide_eq_false_iff_not, Bool.not_eq_false', Bool.and_eq_true, decide_eq_true_eq, beq_eq_false_iff_ne, ne_eq] at h
  obtain ⟨⟨⟨⟨⟨h1, h2⟩, h3⟩, h4⟩, h5⟩, h6⟩ := h
  obtain ⟨w1, w2⟩ := ris_in h5
  obtain ⟨n1, n2⟩ := ris_in h6
  refine ⟨by omega, by omega, fun e => h4 (by rw [e]; rfl), w1, w2, fun k hk => by have := n1 k hk; omega, n2⟩
structure HeadOK (c : Cr) : Prop where
  day : ∀ x ∈ c.days, 0 ≤ x ∧ x ≤ 73048
  inc : c.days.Pairwise (· < ·)
  st : 1 ≤ c.st ∧ c.st ≤ 8
  da : 1 ≤ c.da ∧ c.da ≤ 8
  lo : 1 ≤ c.lo ∧ c.lo ≤ 64
  ru : 1 ≤ c.ru ∧ c.ru ≤ 16
theorem head_ok {c : Cr} (h : rightF c = true) : HeadOK c := by
  unfold rightF rightH win at h
  simp only [Bool.and_eq_true, Bool.not_eq_true', Bool.or_eq_false_iff, Bool.not_eq_false', decide_eq_true_eq] at h
  obtain ⟨⟨⟨⟨⟨h1, h2⟩, h3⟩, h4⟩, h5⟩, _⟩ := h
  obtain ⟨d1, d2⟩ := ris_in h1
  exact ⟨d1, d2, h2, h3, h4, h5⟩
theorem right_ses {c : Cr} (h : rightF c = true) {i : Nat} {s : Ses} (hs : c.ss[i]? = some s) : SesOK i s := by
  unfold rightF at h
  simp only [Bool.and_eq_true] at h
  have := goodS_at h.2 i s hs
  rw [Nat.zero_add] at this
  exact ses_ok this
/-! ### Lists side by side -/
theorem zip_app {α β : Type} : ∀ (a t : List α) (b : List β), (a ++ t).zip b = a.zip b ++ t.zip (b.drop a.length)
  | [], t, b => by simp
  | x :: a, t, [] => by simp
  | x :: a, t, y :: b => by simp [zip_app a t b]
theorem mem_zip {α β : Type} {a : List α} {b : List β} {q : α × β} (h : q ∈ a.zip b) : ∃ i : Nat, a[i]? = some q.1 ∧ b[i]? = some q.2 := by
  obtain ⟨i, hi⟩ := List.mem_iff_getElem?.1 h
  exact ⟨i, List.getElem?_zip_eq_some.1 hi⟩
theorem days_lt {c : Cr} (hc : HeadOK c) {d e : Int} (hd : 0 ≤ d) (he : e < c.days.length) (h : d < e) : dayF c d < dayF c e := by
  have h1 : d.toNat < e.toNat := by omega
  have h2 : e.toNat < c.days.length := by omega
  have := List.pairwise_iff_getElem.1 hc.inc d.toNat e.toNat (by omega) h2 h1
  unfold dayF
  rw [List.getD_eq_getElem?_getD, List.getD_eq_getElem?_getD, List.getElem?_eq_getElem h2, List.getElem?_eq_getElem (by omega : d.toNat < c.days.length)]
  simpa using this
/-! ### Longer beginnings -/
theorem any_app_mono {α : Type} {p q : α → Bool} {a b : List α} (h : a.any p = true) (hpq : ∀ x ∈ a, p x = true → q x = true) : (a ++ b).any q = true := by
  obtain ⟨x, hx, hp⟩ := List.any_eq_true.1 h
  exact List.any_eq_true.2 ⟨x, List.mem_append_left _ hx, hpq x hx hp⟩
theorem onD_app (c : Cr) (pl t : List Int) (d : Int) : ∃ u, onD c (pl ++ t) d = onD c pl d ++ u ∧ ∀ s ∈ u, s ∈ c.ss := by
  refine ⟨((t.zip (c.ss.drop pl.length)).filter (fun q => q.1 == d)).map (·.2), ?_, ?_⟩
  · unfold onD; rw [zip_app, List.filter_append, List.map_append]
  · intro s hs
    simp only [List.mem_map, List.mem_filter] at hs
    obtain ⟨q, ⟨hq, _⟩, rfl⟩ := hs
    obtain ⟨i, _, h2⟩ := mem_zip hq
    exact List.mem_of_mem_drop (List.mem_of_getElem? h2)
theorem sum_nonneg : ∀ {l : List Int}, (∀ x ∈ l, 0 ≤ x) → 0 ≤ l.sum
  | [], _ => by simp
  | x :: l, h => by rw [List.sum_cons]; have := h x (by simp); have := sum_nonneg (l := l) (fun y hy => h y (by simp [hy])); omega
theorem brk_mono {c : Cr} (hc : rightF c = true) {pl t : List Int} (hl : pl.length ≤ c.ss.length) {b : Br} (h : brk c pl b = true) : brk c (pl ++ t) b = true := by
  have hh := head_ok hc
  obtain ⟨u, hu, hu2⟩ := onD_app c pl t b.d
  have hbz : ∀ x p, busyF c pl x p = true → busyF c (pl ++ t) x p = true := fun x p h => by
    unfold busyF at *; rw [zip_app]; exact any_app_mono h fun _ _ h => h
  unfold brk at *
  split at h
  · rename_i e; rw [if_pos e]
    unfold needF at *; rw [zip_app]
    refine any_app_mono h fun q hq hp => ?_
    simp only [Bool.and_eq_true, decide_eq_true_eq] at hp ⊢
    obtain ⟨⟨h1, h2⟩, h3⟩ := hp
    refine ⟨⟨h1, h2⟩, ?_⟩
    obtain ⟨i, hi1, hi2⟩ := mem_zip hq
    have hk := (right_ses hc hi2).needs b.w (by simpa using h2)
    have hi : i < pl.length := (List.getElem?_eq_some_iff.1 hi1).1
    rw [List.getD_eq_getElem?_getD, List.getElem?_append_left (by omega), ← List.getD_eq_getElem?_getD]; exact h3
  · rename_i e; rw [if_neg e]
    split at h
    · rename_i e2; rw [if_pos e2]
      simp only [Bool.and_eq_true, decide_eq_true_eq] at h ⊢
      refine ⟨h.1, ?_⟩
      have : manyF (pl ++ t) b.d ≥ manyF pl b.d := by unfold manyF; rw [List.filter_append, List.length_append]; omega
      omega
    · rename_i e2; rw [if_neg e2]
      split at h
      · rename_i e3; rw [if_pos e3]
        simp only [decide_eq_true_eq] at h ⊢
        have : cntF c (pl ++ t) b.d b.w ≥ cntF c pl b.d b.w := by unfold cntF; rw [hu, List.filter_append, List.length_append]; omega
        omega
      · rename_i e3; rw [if_neg e3]
        split at h
        · rename_i e4; rw [if_pos e4]
          simp only [decide_eq_true_eq] at h ⊢
          have : effF c (pl ++ t) b.d b.w ≥ effF c pl b.d b.w := by
            unfold effF; rw [hu, List.filter_append, List.map_append, List.sum_append]
            have : 0 ≤ ((u.filter fun s => s.who.contains b.w).map (·.ef)).sum := sum_nonneg fun x hx => by
              simp only [List.mem_map, List.mem_filter] at hx
              obtain ⟨s, ⟨hs, _⟩, rfl⟩ := hx
              obtain ⟨i, hi⟩ := List.mem_iff_getElem?.1 (hu2 s hs)
              have := (right_ses hc hi).ef; omega
            omega
          omega
        · rename_i e4; rw [if_neg e4]
          split at h
          · rename_i e5; rw [if_pos e5]
            unfold runF at *
            simp only [List.all_eq_true] at h ⊢
            exact fun k hk => hbz _ _ (h k hk)
          · cases h
theorem brkL_mono {c : Cr} (hc : rightF c = true) {pl t : List Int} (hl : pl.length ≤ c.ss.length) {b : Br} (h : b ∈ brkL c pl) : b ∈ brkL c (pl ++ t) := by
  rw [mem_brkL] at *; exact ⟨h.1, brk_mono hc hl h.2⟩
theorem brkL_nil_mono {c : Cr} (hc : rightF c = true) {pl t : List Int} (hl : pl.length ≤ c.ss.length) (h : brkL c (pl ++ t) = []) : brkL c pl = [] := by
  rcases e : brkL c pl with _ | ⟨b, l⟩
  · rfl
  · have := brkL_mono hc hl (t := t) (show b ∈ brkL c pl by rw [e]; simp)
    rw [h] at this; cases this
end Go.Proofs.YtclkmnidgdkekaaGreat
end
section
namespace Go.Proofs.YtclkmnidgdkekaaGreat
open Go Go.Kn Go.Proofs
inductive Pr where
  | mk (r d w : Int) (kids : List Pr)
def leafP (b : Br) : Pr := .mk b.r b.d b.w []
/-- The days from d on, m of them: the kids so far. -/
def goS (g : Nat → Pr × Option (List Int)) : Nat → Nat → List Pr → Pr × Option (List Int)
  | 0, _, ks => (.mk 0 0 0 ks, none)
  | m + 1, d, ks => match (g d).2 with
    | some x => (.mk 0 0 0 ks, some x)
    | none => goS g m (d + 1) (ks ++ [(g d).1])
def srch (c : Cr) (last : Nat) : Nat → List Int → Pr × Option (List Int)
  | f, pl => match brkL c pl with
    | b :: _ => (leafP b, none)
    | [] => match f with
      | 0 => (.mk 0 0 0 [], some pl)
      | f + 1 => goS (fun d => srch c last f (pl ++ [(d : Int)])) last 0 []
theorem srch_leaf {c : Cr} {last f : Nat} {pl : List Int} {b : Br} {l : List Br} (h : brkL c pl = b :: l) : srch c last f pl = (leafP b, none) := by unfold srch; rw [h]
theorem srch_full {c : Cr} {last : Nat} {pl : List Int} (h : brkL c pl = []) : srch c last 0 pl = (.mk 0 0 0 [], some pl) := by unfold srch; rw [h]
theorem srch_step {c : Cr} {last f : Nat} {pl : List Int} (h : brkL c pl = []) : srch c last (f + 1) pl = goS (fun d => srch c last f (pl ++ [(d : Int)])) last 0 [] := by rw [srch]; rw [h]
theorem goS_some {g : Nat → Pr × Option (List Int)} {m d : Nat} {ks : List Pr} {x : List Int} (h : (g d).2 = some x) : goS g (m + 1) d ks = (.mk 0 0 0 ks, some x) := by rw [goS, h]
theorem goS_none {g : Nat → Pr × Option (List Int)} {m d : Nat} {ks : List Pr} (h : (g d).2 = none) : goS g (m + 1) d ks = goS g m (d + 1) (ks ++ [(g d).1]) := by rw [goS, h]
/-- What the days come to. -/
theorem goS_hit {g : Nat → Pr × Option (List Int)} : ∀ {m d : Nat} {ks : List Pr} {x : List Int}, (goS g m d ks).2 = some x → ∃ e, d ≤ e ∧ e < d + m ∧ (g e).2 = some x ∧ ∀ j, d ≤ j → j < e → (g j).2 = none
  | 0, _, _, _, h => by cases h
  | m + 1, d, ks, x, h => by
    cases e : (g d).2 with
    | some y => rw [goS_some e] at h; exact ⟨d, Nat.le_refl _, by omega, by rw [e]; exact h, fun j h1 h2 => by omega⟩
    | none =>
      rw [goS_none e] at h
      obtain ⟨a, h1, h2, h3, h4⟩ := goS_hit h
      refine ⟨a, by omega, by omega, h3, fun j g1 g2 => ?_⟩
      rcases Nat.eq_or_lt_of_le g1 with rfl | g1
      · exact e
      · exact h4 j g1 g2
theorem goS_miss {g : Nat → Pr × Option (List Int)} : ∀ {m d : Nat} {ks : List Pr}, (goS g m d ks).2 = none → (∀ j, d ≤ j → j < d + m → (g j).2 = none) ∧ (goS g m d ks).1 = .mk 0 0 0 (ks ++ (List.range' d m).map fun j => (g j).1)
  | 0, d, ks, _ => ⟨fun j h1 h2 => by omega, by simp [goS]⟩
  | m + 1, d, ks, h => by
    cases e : (g d).2 with
    | some y => rw [goS_some e] at h; cases h
    | none =>
      rw [goS_none e] at h ⊢
      obtain ⟨h1, h2⟩ := goS_miss h
      refine ⟨fun j g1 g2 => ?_, ?_⟩
      · rcases Nat.eq_or_lt_of_le g1 with rfl | g1
        · exact e
        · exact h1 j g1 (by omega)
      · rw [h2, List.range'_succ, List.map_cons, List.append_assoc]; rfl
/-- A plan for the first days. -/
def Good (c : Cr) (n : Nat) (pl : List Int) : Prop := pl.length = c.ss.length ∧ (∀ d ∈ pl, 0 ≤ d ∧ d < n) ∧ brkL c pl = []
theorem srch_sound {c : Cr} {n : Nat} : ∀ {f : Nat} {pl x : List Int}, pl.length + f = c.ss.length → (∀ d ∈ pl, 0 ≤ d ∧ d < n) → (srch c n f pl).2 = some x → Good c n x ∧ pl <+: x
  | f, pl, x, hf, hd, h => by
    cases e : brkL c pl with
    | cons b l => rw [srch_leaf e] at h; cases h
    | nil =>
      cases f with
      | zero => rw [srch_full e] at h; cases h; exact ⟨⟨by omega, hd, e⟩, List.prefix_refl _⟩
      | succ f =>
        rw [srch_step e] at h
        obtain ⟨a, _, h2, h3, _⟩ := goS_hit h
        obtain ⟨g1, g2⟩ := srch_sound (f := f) (by simp; omega) (fun d hdm => by
          rcases List.mem_append.1 hdm with hdm | hdm
          · exact hd d hdm
          · simp at hdm; subst hdm; omega) h3
        exact ⟨g1, (List.prefix_append _ _).trans g2⟩
theorem srch_complete {c : Cr} (hc : rightF c = true) {n : Nat} : ∀ {f : Nat} {pl x : List Int}, pl.length + f = c.ss.length → pl <+: x → Good c n x → (srch c n f pl).2 ≠ none
  | f, pl, x, hf, ⟨t, ht⟩, hg => by
    obtain ⟨g1, g2, g3⟩ := hg
    have e : brkL c pl = [] := brkL_nil_mono hc (by omega) (t := t) (by rw [ht]; exact g3)
    cases f with
    | zero => rw [srch_full e]; exact fun h => by cases h
    | succ f =>
      rw [srch_step e]
      intro h
      obtain ⟨h1, _⟩ := goS_miss h
      cases t with
      | nil => simp at ht; subst ht; omega
      | cons a t =>
        have ha := g2 a (by rw [← ht]; simp)
        refine srch_complete hc (f := f) (pl := pl ++ [a]) (x := x) (by simp; omega) ⟨t, by rw [← ht]; simp⟩ ⟨g1, g2, g3⟩ ?_
        have := h1 a.toNat (by omega) (by omega)
        rwa [Int.toNat_of_nonneg ha.1] at this
/-! ### Proofs -/
mutual
def provesF (c : Cr) (last : Int) : Pr → List Int → Bool
  | .mk r d w ks, pl => if (r != 0) = true then (ks.length == 0) && (brkL c pl).contains ⟨r, d, w⟩ else
      if (d != 0 || w != 0 || (pl.length == c.ss.length) || ((ks.length : Int) != last)) = true then false else provesL c last ks 0 pl
def provesL (c : Cr) (last : Int) : List Pr → Nat → List Int → Bool
  | [], _, _ => true
  | k :: ks, d, pl => provesF c last k (pl ++ [(d : Int)]) && provesL c last ks (d + 1) pl
end
theorem provesL_range {c : Cr} {last : Int} {g : Nat → Pr} {pl : List Int} : ∀ (m d : Nat), (∀ j, d ≤ j → j < d + m → provesF c last (g j) (pl ++ [(j : Int)]) = true) → provesL c last ((List.range' d m).map g) d pl = true
  | 0, _, _ => by simp [provesL]
  | m + 1, d, h => by
    rw [List.range'_succ, List.map_cons, provesL, h d (Nat.le_refl _) (by omega), provesL_range m (d + 1) (fun j h1 h2 => h j (by omega) (by omega))]; rfl
theorem srch_proves {c : Cr} {n : Nat} : ∀ {f : Nat} {pl : List Int}, pl.length + f = c.ss.length → (srch c n f pl).2 = none → provesF c n (srch c n f pl).1 pl = true
  | f, pl, hf, h => by
    cases e : brkL c pl with
    | cons b l =>
      rw [srch_leaf e]
      have hb : b ∈ brkL c pl := by rw [e]; simp
      have h1 := (mem_brkL.1 hb).1.1
      unfold leafP provesF
      rw [if_pos (by simp; omega), e]
      simp
    | nil =>
      cases f with
      | zero => rw [srch_full e] at h; cases h
      | succ f =>
        rw [srch_step e] at h ⊢
        obtain ⟨h1, h2⟩ := goS_miss h
        rw [h2, List.nil_append, provesF, if_neg (by decide), if_neg (by simp; omega)]
        exact provesL_range n 0 fun j h3 h4 => srch_proves (f := f) (by simp; omega) (h1 j h3 h4)
def findL (c : Cr) : Nat → Nat → Option (Nat × List Int)
  | 0, _ => none
  | m + 1, n => match (srch c n c.ss.length []).2 with
    | some x => some (n, x)
    | none => findL c m (n + 1)
def planF (c : Cr) : Option (Nat × List Int) := findL c (c.days.length + 1) 0
theorem findL_some {c : Cr} {m n : Nat} {x : List Int} (h : (srch c n c.ss.length []).2 = some x) : findL c (m + 1) n = some (n, x) := by rw [findL, h]
theorem findL_none {c : Cr} {m n : Nat} (h : (srch c n c.ss.length []).2 = none) : findL c (m + 1) n = findL c m (n + 1) := by rw [findL, h]
theorem findL_hit {c : Cr} : ∀ {m n k : Nat} {x : List Int}, findL c m n = some (k, x) → n ≤ k ∧ k < n + m ∧ (srch c k c.ss.length []).2 = some x ∧ ∀ j, n ≤ j → j < k → (srch c j c.ss.length []).2 = none
  | 0, _, _, _, h => by cases h
  | m + 1, n, k, x, h => by
    cases e : (srch c n c.ss.length []).2 with
    | some y => rw [findL_some e] at h; cases h; exact ⟨Nat.le_refl _, by omega, e, fun j h1 h2 => by omega⟩
    | none =>
      rw [findL_none e] at h
      obtain ⟨h1, h2, h3, h4⟩ := findL_hit h
      refine ⟨by omega, by omega, h3, fun j g1 g2 => ?_⟩
      rcases Nat.eq_or_lt_of_le g1 with rfl | g1
      · exact e
      · exact h4 j g1 g2
theorem findL_miss {c : Cr} : ∀ {m n : Nat}, findL c m n = none → ∀ j, n ≤ j → j < n + m → (srch c j c.ss.length []).2 = none
  | 0, _, _, j, h1, h2 => by omega
  | m + 1, n, h, j, g1, g2 => by
    cases e : (srch c n c.ss.length []).2 with
    | some y => rw [findL_some e] at h; cases h
    | none =>
      rw [findL_none e] at h
      rcases Nat.eq_or_lt_of_le g1 with rfl | g1
      · exact e
      · exact findL_miss h j g1 (by omega)
theorem srch_none {c : Cr} (hc : rightF c = true) (n : Nat) : (srch c n c.ss.length []).2 = none ↔ ¬ ∃ x, Good c n x := by
  constructor
  · rintro h ⟨x, hx⟩
    exact srch_complete hc (by simp) List.nil_prefix hx h
  · intro h
    cases e : (srch c n c.ss.length []).2 with
    | none => rfl
    | some x => exact (h ⟨x, (srch_sound (by simp) (fun d hd => by cases hd) e).1⟩).elim
end Go.Proofs.YtclkmnidgdkekaaGreat
end
section
namespace Go.Proofs.YtclkmnidgdkekaaGreat
open Go Go.Kn Go.Proofs
section
variable {α : Type} [DecidableEq α]
/-- How often each key comes; what its values sum up to. -/
def cntM (es : List (α × Int)) : List (α × Int) := es.foldl (fun m e => mset m e.1 ((mget m e.1).getD 0 + 1)) []
def sumM (es : List (α × Int)) : List (α × Int) := es.foldl (fun m e => mset m e.1 ((mget m e.1).getD 0 + e.2)) []
def cntE (es : List (α × Int)) (a : α) : Int := ((es.filter (fun e => decide (e.1 = a))).length : Nat)
def sumE (es : List (α × Int)) (a : α) : Int := ((es.filter (fun e => decide (e.1 = a))).map (·.2)).sum
theorem cntM_nil : cntM ([] : List (α × Int)) = [] := rfl
theorem sumM_nil : sumM ([] : List (α × Int)) = [] := rfl
theorem cntM_snoc (es : List (α × Int)) (e : α × Int) : cntM (es ++ [e]) = mset (cntM es) e.1 ((mget (cntM es) e.1).getD 0 + 1) := by unfold cntM; rw [List.foldl_append]; rfl
theorem sumM_snoc (es : List (α × Int)) (e : α × Int) : sumM (es ++ [e]) = mset (sumM es) e.1 ((mget (sumM es) e.1).getD 0 + e.2) := by unfold sumM; rw [List.foldl_append]; rfl
omit [DecidableEq α] in
theorem snoc_ind {P : List (α × Int) → Prop} (h0 : P []) (h1 : ∀ es e, P es → P (es ++ [e])) (es : List (α × Int)) : P es := by
  have : ∀ n, ∀ es : List (α × Int), es.length = n → P es := by
    intro n
    induction n with
    | zero => intro es h; rw [List.length_eq_zero_iff.1 h]; exact h0
    | succ n ih =>
      intro es h
      rcases List.eq_nil_or_concat es with rfl | ⟨l, e, rfl⟩
      · exact h0
      · rw [List.concat_eq_append] at h ⊢; exact h1 l e (ih l (by simp at h; omega))
  exact this _ es rfl
theorem cntE_snoc (es : List (α × Int)) (e : α × Int) (a : α) : cntE (es ++ [e]) a = cntE es a + (if e.1 = a then 1 else 0) := by
  unfold cntE; rw [List.filter_append, List.length_append]
  by_cases h : e.1 = a <;> simp [h]
theorem sumE_snoc (es : List (α × Int)) (e : α × Int) (a : α) : sumE (es ++ [e]) a = sumE es a + (if e.1 = a then e.2 else 0) := by
  unfold sumE; rw [List.filter_append, List.map_append, List.sum_append]
  by_cases h : e.1 = a <;> simp [h]
theorem cntM_get (es : List (α × Int)) : ∀ a, (mget (cntM es) a).getD 0 = cntE es a := by
  refine snoc_ind (P := fun es => ∀ a, (mget (cntM es) a).getD 0 = cntE es a) (fun a => rfl) (fun es e ih a => ?_) es
  rw [cntM_snoc, mget_mset, cntE_snoc]
  by_cases h : e.1 = a
  · subst h; simp [ih]
  · simp [h, ih]
theorem sumM_get (es : List (α × Int)) : ∀ a, (mget (sumM es) a).getD 0 = sumE es a := by
  refine snoc_ind (P := fun es => ∀ a, (mget (sumM es) a).getD 0 = sumE es a) (fun a => rfl) (fun es e ih a => ?_) es
  rw [sumM_snoc, mget_mset, sumE_snoc]
  by_cases h : e.1 = a
  · subst h; simp [ih]
  · simp [h, ih]
theorem cntM_nodup (es : List (α × Int)) : ((cntM es).map (·.1)).Nodup :=
  snoc_ind (P := fun es => ((cntM es).map (·.1)).Nodup) (by simp [cntM_nil]) (fun es e ih => by rw [cntM_snoc]; exact mset_nodup _ _ ih) es
theorem cntM_key (es : List (α × Int)) : ∀ a, a ∈ (cntM es).map (·.1) ↔ 0 < cntE es a := by
  refine snoc_ind (P := fun es => ∀ a, a ∈ (cntM es).map (·.1) ↔ 0 < cntE es a) (fun a => by simp [cntM_nil, cntE]) (fun es e ih a => ?_) es
  have h0 : 0 ≤ cntE es a := by unfold cntE; omega
  rw [cntM_snoc, mset_keys, cntE_snoc]
  by_cases h : e.1 = a
  · subst h
    rw [if_pos rfl]
    by_cases g : e.1 ∈ (cntM es).map (·.1)
    · rw [if_pos g]; exact ⟨fun _ => by omega, fun _ => g⟩
    · rw [if_neg g]; exact ⟨fun _ => by omega, fun _ => by simp⟩
  · rw [if_neg h, Int.add_zero, ← ih a]
    by_cases g : e.1 ∈ (cntM es).map (·.1)
    · rw [if_pos g]
    · rw [if_neg g, List.mem_append, List.mem_singleton]
      exact ⟨fun q => q.elim id (fun q => absurd q.symm h), .inl⟩
theorem cntM_val {es : List (α × Int)} {p : α × Int} (h : p ∈ cntM es) : p.2 = cntE es p.1 := by
  rw [← cntM_get, mget_at (cntM_nodup es) h]; rfl
theorem cntE_nonneg (es : List (α × Int)) (a : α) : 0 ≤ cntE es a := by unfold cntE; omega
theorem cntE_le (es : List (α × Int)) (a : α) : cntE es a ≤ es.length := by
  unfold cntE; have := List.length_filter_le (fun e : α × Int => decide (e.1 = a)) es; omega
theorem sumE_bd {es : List (α × Int)} (h : ∀ e ∈ es, 0 ≤ e.2 ∧ e.2 ≤ 16) (a : α) : 0 ≤ sumE es a ∧ sumE es a ≤ 16 * es.length := by
  have key : ∀ l : List (α × Int), (∀ e ∈ l, 0 ≤ e.2 ∧ e.2 ≤ 16) → 0 ≤ (l.map (·.2)).sum ∧ (l.map (·.2)).sum ≤ 16 * l.length := by
    intro l
    induction l with
    | nil => intro _; simp
    | cons e l ih =>
      intro h
      have h1 := h e (by simp)
      have h2 := ih fun e he => h e (by simp [he])
      simp only [List.map_cons, List.sum_cons, List.length_cons]; omega
  have h1 := key (es.filter fun e => decide (e.1 = a)) fun e he => h e (List.mem_filter.1 he).1
  have h2 := List.length_filter_le (fun e : α × Int => decide (e.1 = a)) es
  unfold sumE; omega
theorem cntE_pos {es : List (α × Int)} {a : α} : 0 < cntE es a ↔ ∃ e ∈ es, e.1 = a := by
  unfold cntE
  rw [Int.natCast_pos, List.length_pos_iff_exists_mem]
  simp only [List.mem_filter, decide_eq_true_eq]
end
/-! ### People on the days of the calendar -/
def evS (x : Int) (s : Ses) : List ((Int × Int) × Int) := s.who.map fun p => ((p, x), s.ef)
def evs (c : Cr) (pl : List Int) : List ((Int × Int) × Int) := (pl.zip c.ss).flatMap fun q => evS (dayF c q.1) q.2
theorem cntE_app {α : Type} [DecidableEq α] (a b : List (α × Int)) (x : α) : cntE (a ++ b) x = cntE a x + cntE b x := by unfold cntE; rw [List.filter_append, List.length_append]; omega
theorem sumE_app {α : Type} [DecidableEq α] (a b : List (α × Int)) (x : α) : sumE (a ++ b) x = sumE a x + sumE b x := by unfold sumE; rw [List.filter_append, List.map_append, List.sum_append]
theorem who_one {l : List Int} (h : l.Pairwise (· < ·)) (p : Int) : l.filter (· == p) = if p ∈ l then [p] else [] := by
  induction l with
  | nil => simp
  | cons a l ih =>
    rw [List.pairwise_cons] at h
    rw [List.filter_cons, ih h.2]
    by_cases e : a = p
    · subst e
      have : a ∉ l := fun g => by have := h.1 a g; omega
      simp [this]
    · have e2 : ¬ p = a := fun q => e q.symm
      simp [e, e2]
theorem evS_cnt {x y p : Int} {s : Ses} (h : s.who.Pairwise (· < ·)) : cntE (evS x s) (p, y) = if (x == y && s.who.contains p) = true then 1 else 0 := by
  unfold cntE evS
  rw [List.filter_map, List.length_map]
  by_cases e : x = y
  · subst e
    have : ((fun e : (Int × Int) × Int => decide (e.1 = (p, x))) ∘ fun p => ((p, x), s.ef)) = fun q => q == p := by
      funext q
      rw [Bool.eq_iff_iff]; simp [Function.comp]
    rw [this, who_one h]
    by_cases g : p ∈ s.who <;> simp [g]
  · have : ((fun e : (Int × Int) × Int => decide (e.1 = (p, y))) ∘ fun p => ((p, x), s.ef)) = fun _ => false := by
      funext q; simp [Function.comp, e]
    rw [this]; simp [e]
theorem evS_sum {x y p : Int} {s : Ses} (h : s.who.Pairwise (· < ·)) : sumE (evS x s) (p, y) = if (x == y && s.who.contains p) = true then s.ef else 0 := by
  unfold sumE evS
  rw [List.filter_map, List.map_map]
  by_cases e : x = y
  · subst e
    have : ((fun e : (Int × Int) × Int => decide (e.1 = (p, x))) ∘ fun p => ((p, x), s.ef)) = fun q => q == p := by
      funext q
      rw [Bool.eq_iff_iff]; simp [Function.comp]
    rw [this, who_one h]
    by_cases g : p ∈ s.who <;> simp [g, Function.comp]
  · have : ((fun e : (Int × Int) × Int => decide (e.1 = (p, y))) ∘ fun p => ((p, x), s.ef)) = fun _ => false := by
      funext q; simp [Function.comp, e]
    rw [this, List.filter_eq_nil_iff.2 (by simp)]; simp [e]
end Go.Proofs.YtclkmnidgdkekaaGreat
end
section
namespace Go.Proofs.YtclkmnidgdkekaaGreat
open Go Go.Kn Go.Proofs
/-- The first n numbers from 1 on: is there always one? -/
def rowB (f : Int → Bool) (run : Int) : Bool := (List.range run.toNat).all fun j => f ((j : Int) + 1)
theorem rowB_iff {f : Int → Bool} {run : Int} : rowB f run = true ↔ ∀ j : Int, 1 ≤ j → j ≤ run → f j = true := by
  unfold rowB
  simp only [List.all_eq_true, List.mem_range]
  constructor
  · intro h j h1 h2
    have := h (j - 1).toNat (by omega)
    rwa [show (((j - 1).toNat : Nat) : Int) + 1 = j by omega] at this
  · intro h k hk
    exact h _ (by omega) (by omega)
theorem row_end {f : Int → Bool} {run row : Int} (h0 : ∀ j : Int, 1 ≤ j → j < row → f j = true) (h1 : 1 ≤ row) (hr : f row = false) : (decide (row > run)) = rowB f run := by
  rw [Bool.eq_iff_iff, rowB_iff, decide_eq_true_eq]
  constructor
  · intro h j g1 g2; exact h0 j g1 (by omega)
  · intro h
    by_cases e : row > run
    · exact e
    · rw [h row h1 (by omega)] at hr; cases hr
def InR (c : Cr) (pl : List Int) : Prop := ∀ d ∈ pl, 0 ≤ d ∧ d < c.days.length
theorem zip_cnt {c : Cr} (hc : rightF c = true) {d p : Int} (hd : 0 ≤ d ∧ d < c.days.length) : ∀ (zs : List (Int × Ses)), (∀ q ∈ zs, (0 ≤ q.1 ∧ q.1 < c.days.length) ∧ q.2.who.Pairwise (· < ·)) →
    cntE (zs.flatMap fun q => evS (dayF c q.1) q.2) (p, dayF c d) = (((((zs.filter (fun q => q.1 == d)).map (·.2)).filter (fun s => s.who.contains p)).length : Nat) : Int)
    ∧ sumE (zs.flatMap fun q => evS (dayF c q.1) q.2) (p, dayF c d) = ((((zs.filter (fun q => q.1 == d)).map (·.2)).filter (fun s => s.who.contains p)).map (·.ef)).sum
  | [], _ => ⟨rfl, rfl⟩
  | q :: zs, h => by
    obtain ⟨ih1, ih2⟩ := zip_cnt hc hd (p := p) zs fun x hx => h x (by simp [hx])
    obtain ⟨hq, hw⟩ := h q (by simp)
    have hday : (dayF c q.1 == dayF c d) = (q.1 == d) := by
      rw [Bool.eq_iff_iff, beq_iff_eq, beq_iff_eq]
      constructor
      · intro e
        rcases Int.lt_trichotomy q.1 d with g | g | g
        · have := days_lt (head_ok hc) hq.1 hd.2 g; omega
        · exact g
        · have := days_lt (head_ok hc) hd.1 hq.2 g; omega
      · rintro rfl; rfl
    simp only [List.flatMap_cons]
    rw [cntE_app, sumE_app, ih1, ih2, evS_cnt hw, evS_sum hw, hday, List.filter_cons]
    by_cases e : q.1 = d
    · by_cases g : p ∈ q.2.who
      · simp [e, g]; omega
      · simp [e, g]
    · simp [e]
theorem evs_cnt {c : Cr} (hc : rightF c = true) {pl : List Int} (hp : InR c pl) {d p : Int} (hd : 0 ≤ d ∧ d < c.days.length) : cntE (evs c pl) (p, dayF c d) = cntF c pl d p ∧ sumE (evs c pl) (p, dayF c d) = effF c pl d p := by
  refine zip_cnt hc hd _ fun q hq => ?_
  obtain ⟨i, h1, h2⟩ := mem_zip hq
  exact ⟨hp _ (List.mem_of_getElem? h1), (right_ses hc h2).inc⟩
theorem evs_busy {c : Cr} {pl : List Int} {x p : Int} : decide (cntE (evs c pl) (p, x) > 0) = busyF c pl x p := by
  rw [Bool.eq_iff_iff, decide_eq_true_eq]
  show 0 < _ ↔ _
  rw [cntE_pos]
  unfold busyF evs evS
  simp only [List.mem_flatMap, List.mem_map, List.any_eq_true, Bool.and_eq_true, beq_iff_eq, List.contains_iff_mem]
  constructor
  · rintro ⟨e, ⟨q, hq, p', hp, rfl⟩, he⟩
    simp only [Prod.mk.injEq] at he
    exact ⟨q, hq, he.2, he.1 ▸ hp⟩
  · rintro ⟨q, hq, h1, h2⟩
    exact ⟨((p, dayF c q.1), q.2.ef), ⟨q, hq, p, h2, rfl⟩, by rw [h1]⟩
theorem run_rows {c : Cr} (hc : rightF c = true) {pl : List Int} {d p : Int} : runF c pl d p = (busyF c pl (dayF c d) p && rowB (fun j => busyF c pl (dayF c d - j) p) c.ru) := by
  rw [Bool.eq_iff_iff, Bool.and_eq_true, rowB_iff]
  unfold runF
  simp only [List.all_eq_true, List.mem_range]
  have := (head_ok hc).ru
  constructor
  · intro h
    refine ⟨by have := h 0 (by omega); simpa using this, fun j h1 h2 => ?_⟩
    have := h j.toNat (by omega)
    rwa [Int.toNat_of_nonneg (by omega)] at this
  · rintro ⟨h1, h2⟩ k hk
    by_cases e : k = 0
    · subst e; simpa using h1
    · exact h2 _ (by omega) (by omega)
end Go.Proofs.YtclkmnidgdkekaaGreat
end
section
namespace Go.Proofs.YtclkmnidgdkekaaGreat
open Go Go.Kn Go.Proofs
theorem many_snoc {pl : List Int} {i : Nat} {e : Int} (h : pl[i]? = some e) (d : Int) : manyF (pl.take (i + 1)) d = manyF (pl.take i) d + (if e = d then 1 else 0) := by
  have e1 : pl.take (i + 1) = pl.take i ++ [e] := by rw [List.take_add_one, h]; rfl
  unfold manyF; rw [e1, List.filter_append, List.length_append]
  by_cases g : e = d <;> simp [g]
end Go.Proofs.YtclkmnidgdkekaaGreat
end
section
namespace Go.Proofs.YtclkmnidgdkekaaGreat
open Go Go.Kn Go.Proofs
/-- The greatest day and one more; 0 where there is none. -/
def maxP (l : List Int) : Int := l.foldl (fun m d => if m < d + 1 then d + 1 else m) 0
theorem maxP_snoc (l : List Int) (d : Int) : maxP (l ++ [d]) = if maxP l < d + 1 then d + 1 else maxP l := by unfold maxP; rw [List.foldl_append]; rfl
theorem maxP_ge : ∀ (l : List Int), 0 ≤ maxP l ∧ ∀ d ∈ l, d + 1 ≤ maxP l := by
  have key : ∀ (n : Nat) (l : List Int), l.length = n → 0 ≤ maxP l ∧ ∀ d ∈ l, d + 1 ≤ maxP l := by
    intro n
    induction n with
    | zero => intro l h; rw [List.length_eq_zero_iff.1 h]; exact ⟨by decide, fun d hd => by cases hd⟩
    | succ n ih =>
      intro l h
      rcases List.eq_nil_or_concat l with rfl | ⟨l, e, rfl⟩
      · cases h
      · rw [List.concat_eq_append] at h ⊢
        obtain ⟨h1, h2⟩ := ih l (by simp at h; omega)
        rw [maxP_snoc]
        refine ⟨by split <;> omega, fun d hd => ?_⟩
        rcases List.mem_append.1 hd with hd | hd
        · have := h2 d hd; split <;> omega
        · simp at hd; subst hd; split <;> omega
  exact fun l => key _ l rfl
theorem maxP_le {k : Int} (h0 : 0 ≤ k) : ∀ {l : List Int}, (∀ d ∈ l, d < k) → maxP l ≤ k := by
  have key : ∀ (n : Nat) (l : List Int), l.length = n → (∀ d ∈ l, d < k) → maxP l ≤ k := by
    intro n
    induction n with
    | zero => intro l h _; rw [List.length_eq_zero_iff.1 h]; exact h0
    | succ n ih =>
      intro l h hd
      rcases List.eq_nil_or_concat l with rfl | ⟨l, e, rfl⟩
      · cases h
      · rw [List.concat_eq_append] at h hd ⊢
        have h1 := ih l (by simp at h; omega) fun d hm => hd d (by simp [hm])
        have h2 := hd e (by simp)
        rw [maxP_snoc]; split <;> omega
  exact fun {l} h => key _ l rfl h
theorem plan_good {c : Cr} {k : Nat} {x : List Int} (h : planF c = some (k, x)) : Good c k x ∧ k ≤ c.days.length ∧ ∀ j, j < k → (srch c j c.ss.length []).2 = none := by
  obtain ⟨_, h2, h3, h4⟩ := findL_hit h
  exact ⟨(srch_sound (by simp) (fun d hd => by cases hd) h3).1, by omega, fun j hj => h4 j (Nat.zero_le _) hj⟩
theorem plan_in {c : Cr} {k : Nat} {x : List Int} (h : planF c = some (k, x)) : InR c x := fun d hd => by
  obtain ⟨⟨_, h1, _⟩, h2, _⟩ := plan_good h
  have := h1 d hd; omega
theorem fewest_eq {c : Cr} (hc : rightF c = true) {k : Nat} {x : List Int} (h : planF c = some (k, x)) : maxP x = k := by
  obtain ⟨hg, hk, hm⟩ := plan_good h
  have h1 : maxP x ≤ k := maxP_le (by omega) fun d hd => (hg.2.1 d hd).2
  by_cases e : maxP x < k
  · have h0 := (maxP_ge x).1
    have := hm (maxP x).toNat (by omega)
    refine ((srch_none hc _).1 this ⟨x, hg.1, fun d hd => ⟨(hg.2.1 d hd).1, ?_⟩, hg.2.2⟩).elim
    have := (maxP_ge x).2 d hd
    omega
  · omega
def fewF (c : Cr) : Int := match planF c with | some (_, x) => maxP x | none => (c.days.length : Int) + 1
theorem few_iff {c : Cr} (hc : rightF c = true) {n : Nat} (hn : n ≤ c.days.length) : (srch c n c.ss.length []).2 = none ↔ (n : Int) < fewF c := by
  unfold fewF
  cases h : planF c with
  | none => exact ⟨fun _ => by show (n : Int) < (c.days.length : Int) + 1; omega, fun _ => findL_miss h n (Nat.zero_le _) (by omega)⟩
  | some q =>
    obtain ⟨k, x⟩ := q
    show _ ↔ (n : Int) < maxP x
    rw [fewest_eq hc h]
    obtain ⟨hg, hk, hm⟩ := plan_good h
    constructor
    · intro h1
      by_cases e : n < k
      · omega
      · refine ((srch_none hc n).1 h1 ⟨x, hg.1, fun d hd => ?_, hg.2.2⟩).elim
        have := hg.2.1 d hd; omega
    · intro h1; exact hm n (by omega)
/-! ### More -/
theorem any_congr' {α : Type} {l : List α} {p q : α → Bool} (h : ∀ x ∈ l, p x = q x) : l.any p = l.any q := by
  induction l with
  | nil => rfl
  | cons a l ih => simp only [List.any_cons]; rw [h a (by simp), ih fun x hx => h x (by simp [hx])]
end Go.Proofs.YtclkmnidgdkekaaGreat
end
section
namespace Go.Proofs.YtclkmnidgdkekaaGreat
open Go Go.Kn Go.Proofs
/-- The people whose version differs from the target in a patch. -/
def diffW (tg : List Int) (has : List (List Int)) (id : Int) : List Int := ((List.range has.length).filter fun i => (has.getD i []).contains id != tg.contains id).map fun (i : Nat) => (i : Int)
/-- The sessions before that a patch's session needs. -/
def ndW (tg : List Int) (pre : List Pt) (p : Pt) : List Int := ((List.range pre.length).filter fun k => if tg.contains p.id then p.needs.contains (pre.getD k zeroP).id else (pre.getD k zeroP).needs.contains p.id).map fun (k : Nat) => (k : Int)
def sesP1 (tg : List Int) (has : List (List Int)) (pre : List Pt) (p : Pt) : Ses := ⟨p.id, if p.kind = 2 then 2 else 1, diffW tg has p.id, ndW tg pre p⟩
def ordP (ps : List Pt) (tg : List Int) : List Pt := (ps.filter fun p => !tg.contains p.id).reverse ++ ps.filter fun p => tg.contains p.id
def keptP (ps : List Pt) (tg : List Int) (has : List (List Int)) : List Pt := (ordP ps tg).filter fun p => !(diffW tg has p.id).isEmpty
def sesL (tg : List Int) (has : List (List Int)) (ks : List Pt) : List Ses := (List.range ks.length).map fun i => sesP1 tg has (ks.take i) (ks.getD i zeroP)
def fromL (ps : List Pt) (tg : List Int) (has : List (List Int)) : List Ses := sesL tg has (keptP ps tg has)
def verF (ps : List Pt) (v : List Int) : Bool := cloE ps v == 0 && cloF ps v == v
def fromE (ps : List Pt) (tg : List Int) (has : List (List Int)) : Int :=
  if chkR ps ≠ 0 then chkR ps else if has.length > 6 then 2 else if (tg :: has).all (verF ps) then (if (fromL ps tg has).length > 8 then 2 else 0) else 400
theorem sesL_len (tg : List Int) (has : List (List Int)) (ks : List Pt) : (sesL tg has ks).length = ks.length := by unfold sesL; simp
theorem sesL_snoc (tg : List Int) (has : List (List Int)) (ks : List Pt) (p : Pt) : sesL tg has (ks ++ [p]) = sesL tg has ks ++ [sesP1 tg has ks p] := by
  unfold sesL
  rw [List.length_append, List.length_singleton, List.range_succ, List.map_append]
  congr 1
  · refine List.map_congr_left fun i hi => ?_
    have hi := List.mem_range.1 hi
    rw [List.take_append_of_le_length (by omega), List.getD_eq_getElem?_getD, List.getElem?_append_left hi, ← List.getD_eq_getElem?_getD]
  · simp
theorem sesL_at {tg : List Int} {has : List (List Int)} {ks : List Pt} {i : Nat} {p : Pt} (h : ks[i]? = some p) : (sesL tg has ks)[i]? = some (sesP1 tg has (ks.take i) p) := by
  unfold sesL
  rw [List.getElem?_map, List.getElem?_range (List.getElem?_eq_some_iff.1 h).1]
  simp only [Option.map_some, List.getD_eq_getElem?_getD, h, Option.getD_some]
theorem mem_diffW {tg : List Int} {has : List (List Int)} {id i : Int} : i ∈ diffW tg has id ↔ ∃ (k : Nat) (v : List Int), i = k ∧ has[k]? = some v ∧ v.contains id ≠ tg.contains id := by
  unfold diffW
  simp only [List.mem_map, List.mem_filter, List.mem_range, bne_iff_ne]
  constructor
  · rintro ⟨k, ⟨hk, h⟩, rfl⟩
    refine ⟨k, has[k], rfl, List.getElem?_eq_getElem hk, ?_⟩
    rwa [List.getD_eq_getElem?_getD, List.getElem?_eq_getElem hk] at h
  · rintro ⟨k, v, rfl, hk, h⟩
    refine ⟨k, ⟨(List.getElem?_eq_some_iff.1 hk).1, ?_⟩, rfl⟩
    rw [List.getD_eq_getElem?_getD, hk]; exact h
theorem ndW_inc (tg : List Int) (pre : List Pt) (p : Pt) : (ndW tg pre p).Pairwise (· < ·) := by
  unfold ndW
  refine List.pairwise_map.2 ((List.pairwise_lt_range.filter _).imp fun {a b} h => ?_)
  omega
theorem ver_iff {ps : List Pt} (h : chkR ps = 0) {v : List Int} : verF ps v = true → Ver ps v := fun hv => by
  unfold verF at hv
  simp only [Bool.and_eq_true, beq_iff_eq] at hv
  rw [← hv.2]; exact clo_ver (chkR_lst h) _
/-! ### The order of patches -/
theorem mem_ordP {ps : List Pt} {tg : List Int} {p : Pt} : p ∈ ordP ps tg ↔ p ∈ ps := by
  unfold ordP
  simp only [List.mem_append, List.mem_reverse, List.mem_filter, Bool.not_eq_true']
  constructor
  · rintro (⟨h, _⟩ | ⟨h, _⟩) <;> exact h
  · intro h
    cases e : tg.contains p.id
    · exact .inl ⟨h, rfl⟩
    · exact .inr ⟨h, rfl⟩
/-- Before or behind, in the order of sessions. -/
def befP (tg : List Int) (p q : Pt) : Prop := (tg.contains p.id = false ∧ (tg.contains q.id = true ∨ q.id < p.id)) ∨ (tg.contains p.id = true ∧ tg.contains q.id = true ∧ p.id < q.id)
theorem ordP_bef {ps : List Pt} (h : Lst ps) (tg : List Int) : (ordP ps tg).Pairwise (befP tg) := by
  unfold ordP
  refine List.pairwise_append.2 ⟨?_, ?_, ?_⟩
  · rw [List.pairwise_reverse]
    refine List.Pairwise.imp_of_mem (R := fun a b => a.id < b.id) (fun {a b} ha hb hab => ?_) (h.inc.filter _)
    have h1 := (List.mem_filter.1 ha).2
    have h2 := (List.mem_filter.1 hb).2
    simp only [Bool.not_eq_true'] at h1 h2
    exact .inl ⟨h2, .inr hab⟩
  · refine List.Pairwise.imp_of_mem (R := fun a b => a.id < b.id) (fun {a b} ha hb hab => ?_) (h.inc.filter _)
    exact .inr ⟨(List.mem_filter.1 ha).2, (List.mem_filter.1 hb).2, hab⟩
  · intro a ha b hb
    have h1 := (List.mem_filter.1 (List.mem_reverse.1 ha)).2
    simp only [Bool.not_eq_true'] at h1
    exact .inl ⟨h1, .inl (List.mem_filter.1 hb).2⟩
theorem bef_ne {tg : List Int} {p q : Pt} (h : befP tg p q) : p.id ≠ q.id := fun e => by
  unfold befP at h
  rw [e] at h
  rcases h with ⟨h1, h2 | h2⟩ | ⟨_, _, h⟩
  · rw [h1] at h2; cases h2
  · omega
  · omega
theorem mem_keptP {ps : List Pt} {tg : List Int} {has : List (List Int)} {p : Pt} : p ∈ keptP ps tg has ↔ p ∈ ps ∧ ∃ (k : Nat) (v : List Int), has[k]? = some v ∧ v.contains p.id ≠ tg.contains p.id := by
  unfold keptP
  rw [List.mem_filter, mem_ordP]
  refine and_congr_right fun _ => ?_
  rw [Bool.not_eq_true', List.isEmpty_eq_false_iff_exists_mem]
  constructor
  · rintro ⟨x, hx⟩
    obtain ⟨k, v, _, h1, h2⟩ := mem_diffW.1 hx
    exact ⟨k, v, h1, h2⟩
  · rintro ⟨k, v, h1, h2⟩
    exact ⟨k, mem_diffW.2 ⟨k, v, rfl, h1, h2⟩⟩
end Go.Proofs.YtclkmnidgdkekaaGreat
end
section
namespace Go.Proofs.YtclkmnidgdkekaaGreat
open Go Go.Kn Go.Proofs
theorem cont_iff {l : List Int} {x : Int} : l.contains x = true ↔ x ∈ l := by simp
theorem cont_no {l : List Int} {x : Int} : l.contains x = false ↔ x ∉ l := by simp
end Go.Proofs.YtclkmnidgdkekaaGreat
end
section
namespace Go.Kn
open Go
section
variable {g : World} {I I' H : HMap} {loc loc' L K A B : Loc} {w w' : World}
theorem St.permL (h : St g I H loc w) (hp : loc'.Perm loc) : St g I H loc' w := h.perm (fun p => hp.mem_iff) ((hp.map (·.1)).nodup_iff.2 h.nodup)
end
section
variable {α : Type} {C : Cx} {Q : Exit → Act → World → Prop} {E E' : Env} {I I' : HMap} {loc loc' L Z R : Loc}
variable {Jc : List α → HMap → HMap → Loc → Prop} {Jx : Code → List α → HMap → HMap → Loc → Prop} {pre : List α}
end
section
variable {α : Type} {P : Program} {N : Nat} {g : World} {p : Nat} {assign body : Code} {f : FuncId} {cap : List Value} {rel : Value → α → HMap → Prop} {xs : List α} {E : Env} {I H : HMap} {L B : Loc}
end
section
variable {α : Type} {P : Program} {N : Nat} {g : World} {H : HMap} {Q : Exit → Act → World → Prop} {gop : Operand} {p : Nat} {assign body : Code} {f : FuncId} {cap : List Value} {rel : Value → α → HMap → Prop} {xs : List α} {E : Env} {I : HMap} {L : Loc}
end
/-! ### A loop whose rounds may leave marks and turn the frame -/
section
variable {P : Program} {r : Option Nat} {N : Nat} {g : World} {H : HMap} {Q : Exit → Act → World → Prop} {E E' : Env} {I I' : HMap} {loc loc' L R : Loc} {ms : List Nat}
end
end Go.Kn
end
section
namespace Go.Kn
open Go
section
variable {C : Cx} {Q : Exit → Act → World → Prop} {E G : Env} {I I' I0 : HMap} {loc loc' loc0 L R : Loc} {ops : Array Oper} {rest : List Oper} {S : GS}
variable {dst : Option Nat} {d : Nat} {ty : TypeId} {pos : String} {af : Array Edge} {gd : Option (Nat × Bool)} {x y z : Operand} {a b c : Int}
/-- Does a guard's value say no? One that was not reckoned says no. -/
def sayNo (u : Value) (want : Bool) : Bool := match u with | .bool b => b != want | _ => true
theorem wanted_no {j dj : Nat} {want : Bool} {oj o : Oper} {u : Value} {N : Nat} {D : List Deferred} {a : Act} (hg : o.guard = some (j, want)) (hj : ops[j]? = some oj) (hd : oj.dst = some dj) (ha : Fits N D E a) (hl : look E dj = some u) (hu : sayNo u want = true) : Region.wanted o (yielded ops a.tmps) = false := by
  have h := ha.env _ _ hl
  simp only [Region.wanted, hg]
  cases u with
  | bool b0 =>
    rw [yielded_bool hj hd h]
    cases b0 <;> cases want <;> first | rfl | cases hu
  | _ =>
    have hy : yielded ops a.tmps j = none := by
      unfold yielded
      simp only [hj, Option.bind_some, hd]
      cases e : a.tmps[dj]? with
      | none => rfl
      | some v =>
        simp [e] at h; rw [h]
    rw [hy]; rfl
theorem XD_skipW (i : Nat) {j dj fuel : Nat} {want : Bool} {oj : Oper} {listed : Array Bool} {op : Op} {u : Value} (hi : ops[i]? = some ⟨some d, op, ty, pos, af, some (j, want)⟩) (hj : ops[j]? = some oj) (hd : oj.dst = some dj) (hlk : look E dj = some u) (hu : sayNo u want = true)
    (hdf : ∀ c, op ≠ .defer c) (hN : Nat.blt d C.N = true)
    (hs : Region.noSelect ops = true) (hfr : Region.free .any ops listed i = true) (hr : (Region.ready .any ops listed).contains i = true) (hQ : NoPanic Q) (hI : HLe I0 I) (hl : SubL loc0 loc)
    (h : XD C Q ops I0 loc0 fuel (listed.setIfInBounds i true) [] ((d, undef) :: E) I loc) : XD C Q ops I0 loc0 (fuel + 1) listed [] E I loc := by
  intro a w ha hg hw
  have hp := ha.put hN undef
  refine wpAnyS_first (v := undef) hi hdf (Region.noSelect_spec hs) (fun c a w => hQ c a d _ w) fuel listed a w (Region.free_spec hi hfr) (by simpa using hr) ?_ ((hw.mono hI).subL hl) (h _ _ hp trivial hw)
  exact .inr ⟨by rw [wanted_no (o := ⟨some d, op, ty, pos, af, some (j, want)⟩) rfl hj hd ha hlk hu], rfl⟩
end
end Go.Kn
end
section
namespace Go.Kn
open Go
/-- An iterator that hands on two values, with blocks of its own; they are gone behind it. -/
def SeqL2 {α : Type} (P : Program) (f : FuncId) (cap : List Value) (I : HMap) (K : Loc) (en1 en2 : α → Value) (xs : List α) : Prop :=
  ∀ g l (J Jx : List α → HMap → HMap → Prop),
    (∀ pre x I' H', pre ++ [x] <+: xs → HLe I I' → J pre I' H' → YieldOK P g l [en1 x, en2 x] I' H' fun b I2 H2 => if b then J (pre ++ [x]) I2 H2 else Jx (pre ++ [x]) I2 H2) →
    ∀ I0 H w, HLe I I0 → J [] I0 H → St g I0 H K w → Calls P f ((.func (.yield l) #[] #[] : Value) :: cap).toArray w fun e w' => ∃ v I' H', e = .returned v ∧ HLe I0 I' ∧ St g I' H' [] w' ∧ (J xs I' H' ∨ ∃ pre, pre <+: xs ∧ Jx pre I' H')
section
variable {α : Type} {C : Cx} {Q : Exit → Act → World → Prop} {E E' : Env} {I I' : HMap} {loc loc' L R : Loc} {ops : Array Oper} {rest : List Oper} {S : GS}
variable {Jc : List α → HMap → Loc → Prop} {Jx : Code → List α → HMap → Loc → Prop} {pre : List α}
theorem X_rangeFuncD2 {P : Program} {N : Nat} {D : List Deferred} {K : Loc} {g : World} {H : HMap} {gop : Operand} {p q : Nat} {assign body : Code} {f : FuncId} {cap : List Value} {en1 en2 : α → Value} {xs : List α}
    (Jc : List α → HMap → Loc → Prop) (Jx : Code → List α → HMap → Loc → Prop) (Ja : List α → α → Env → HMap → Loc → Prop)
    (hg : evalS [] E gop = some (.func (.func f) #[] cap.toArray)) (hF : Fun P f) (hseq : SeqL2 P f cap I K en1 en2 xs) (hp : Nat.blt p N = true) (hq9 : Nat.blt q N = true) (h0 : Jc [] I loc)
    (hass : ∀ l pre x I' loc' H1, pre ++ [x] <+: xs → HLe I I' → Jc pre I' loc' → X ⟨P, some l, N, [], g, H1⟩ (Exit.then (Met ⟨P, some l, N, [], g, H1⟩ fun E2 I2 loc2 => HLe I' I2 ∧ Ja pre x E2 I2 loc2) (fun _ _ _ => False)) assign ((q, en2 x) :: (p, en1 x) :: E) I' loc')
    (hbody : ∀ l pre x E2 I2 loc2 H2, pre ++ [x] <+: xs → HLe I I2 → Ja pre x E2 I2 loc2 → X ⟨P, some l, N, [], g, H2⟩ (RoundQ g H2 (fun q0 I3 loc3 => HLe I2 I3 ∧ Jc q0 I3 loc3) (fun c q0 I3 loc3 => HLe I2 I3 ∧ Jx c q0 I3 loc3) (pre ++ [x])) body E2 I2 loc2)
    (hdone : ∀ bd I' loc', HLe I I' → Jc xs I' loc' → At ⟨P, none, N, { target := .collected bd, args := #[] } :: D, g, H⟩ Q .normal E I' (loc' ++ [(bd, .deferred (some []))]))
    (hstop : ∀ c bd pre I' loc', HLe I I' → pre <+: xs → Jx c pre I' loc' → X ⟨P, none, N, { target := .collected bd, args := #[] } :: D, g, H⟩ Q c E I' (loc' ++ [(bd, .deferred (some []))])) :
    X ⟨P, none, N, D, g, H⟩ Q (.rangeFunc gop #[p, q] assign body) E I (K ++ loc) := by
  intro a w ha hw
  refine wpIn_rangeFunc fun fn _ => ?_
  have hen := run_enterLoop_outer (P := P) (w := w) fn a.tmps #[p, q] assign body
  generalize hbd : w.heap.size = bd at hen
  let rec_ : LoopState → Option Code → Obj := fun st pd => .loop { state := st, pending := pd, fn, tmps := a.tmps, params := #[p, q], assign, body, defers := bd }
  have hw1 : St g I H ((bd + 1, rec_ .ready none) :: (bd, .deferred (some [])) :: (K ++ loc)) ((w.alloc (.deferred (some []))).alloc (rec_ .ready none)) := by
    have h1 := hw.alloc (.deferred (some []))
    have h2 := h1.alloc (rec_ .ready none)
    rw [World.size_alloc, hbd] at h2
    exact h2
  have hev := evalS_sound (S := []) ha trivial rfl hg
  refine ⟨bd + 1, [{ target := .collected bd, args := #[] }], _, { target := .fn (.func f) cap.toArray, args := #[.func (.yield (bd + 1)) #[] #[]] }, (w.alloc (.deferred (some []))).alloc (rec_ .ready none), f, ((.func (.yield (bd + 1)) #[] #[] : Value) :: cap).toArray, (w.alloc (.deferred (some []))).alloc (rec_ .ready none), hen, ?_, fun _ _ => trivial, ?_, by simp [FR], callsFR.2 ?_⟩
  · have e2 : a.eval (.const (.func (.yield (bd + 1)) #[] #[])) = .func (.yield (bd + 1)) #[] #[] := rfl
    simp only [resolve, List.map_toArray, List.map_cons, List.map_nil, e2, hev, Deferred.ofValue]
    rfl
  · simp only [invoke, run_callFunc hF]
    simp
  -- the caller's blocks, between two rounds
  let Lr : LoopState → Option Code → Loc → Loc := fun st pd l' => l' ++ [(bd + 1, rec_ st pd), (bd, .deferred (some []))]
  have okL : ∀ {I' H1 l' W st pd}, St g I' H1 (Lr st pd l') W → ((Lr st pd l').map (·.1)).Nodup := fun h => h.nodup
  let J : List α → HMap → HMap → Prop := fun pre I' H' => ∃ l', Jc pre I' l' ∧ HLe I I' ∧ H' = addL H (Lr .ready none l') ∧ ((Lr .ready none l').map (·.1)).Nodup ∧ ∀ b o, (b, o) ∈ Lr .ready none l' → H b = none
  let Jy : List α → HMap → HMap → Prop := fun pre I' H' => ∃ c l', Jx c pre I' l' ∧ HLe I I' ∧ H' = addL H (Lr .done (some c) l') ∧ ((Lr .done (some c) l').map (·.1)).Nodup ∧ ∀ b o, (b, o) ∈ Lr .done (some c) l' → H b = none
  have hw2 : St g I H (K ++ Lr .ready none loc) ((w.alloc (.deferred (some []))).alloc (rec_ .ready none)) := by
    have hp : (K ++ Lr .ready none loc).Perm ((bd + 1, rec_ .ready none) :: (bd, .deferred (some [])) :: (K ++ loc)) := by
      show (K ++ (loc ++ [(bd + 1, rec_ .ready none), (bd, .deferred (some []))])).Perm _
      rw [← List.append_assoc]
      exact List.perm_append_comm
    exact hw1.perm (fun q => hp.mem_iff) ((hp.map (·.1)).nodup_iff.2 hw1.nodup)
  have hw2r := hw2.rest split_app
  have hJ0 : J [] I (addL H (Lr .ready none loc)) := ⟨loc, h0, HLe.refl I, rfl, hw2r.nodup, fun b o hm => (hw2r.sepIL b o hm).2⟩
  refine (hseq g (bd + 1) J Jy ?_ I _ _ (HLe.refl I) hJ0 hw2.hideR).mono ?_
  · -- a round
    intro pre x I' H' hpre hI ⟨l', hJc, _, hH, hnd, hdj⟩ lit W hW
    subst hH
    have hS1 := hW.swap hnd hdj
    have hrec : W.heap[bd + 1]? = some (rec_ .ready none) := hS1.own _ _ (by simp [Lr])
    refine ⟨fn, _, assign, body, run_yield (P := P) hrec (by simp), ?_⟩
    have hfit : Fits N [] ((q, en2 x) :: (p, en1 x) :: E) { tmps := (a.tmps.setIfInBounds p (en1 x)).setIfInBounds q (en2 x), defers := [] } := by
      have h1 := (ha.put hp (en1 x)).put hq9 (en2 x)
      exact ⟨h1.size, rfl, h1.env⟩
    have hdjK : ∀ b o, (b, o) ∈ lit → H b = none := fun b o hm => (addL_none (hW.sepIL b o hm).2).1
    refine roundIn_of_wpIn (F := Fence.wide) trivial ?_
    have htm : ((#[p, q] : Array Tmp).zip #[en1 x, en2 x]).foldl (fun tmps (t, v) => tmps.setIfInBounds t v) a.tmps = (a.tmps.setIfInBounds p (en1 x)).setIfInBounds q (en2 x) := by simp
    show Code.wpIn _ _ _ _ _ { tmps := ((#[p, q] : Array Tmp).zip #[en1 x, en2 x]).foldl (fun tmps (t, v) => tmps.setIfInBounds t v) a.tmps, defers := [] } _
    rw [htm]
    have hA := hass (bd + 1) pre x I' l' (addL (addL H lit) [(bd + 1, rec_ .ready none), (bd, .deferred (some []))]) hpre hI hJc _ W hfit hS1.hideR
    refine wpIn_mono (F := Fence.wide.inRound (bd + 1)) (n := 0) (P := P) (show assign.wpIn (Fence.wide.inRound (bd + 1)) 0 P _ _ _ from hA) ?_
    intro e a1 W1 hq
    cases e with
    | normal =>
      obtain ⟨E2, I2, loc2, ⟨hI2, hJa⟩, hf2, hs2⟩ := hq
      have hs3 : St g I2 (addL H lit) (loc2 ++ [(bd + 1, rec_ .ready none), (bd, .deferred (some []))]) W1 := St.unhide (hS1.rest split_app) hs2
      have hrec1 : W1.heap[bd + 1]? = some (rec_ .ready none) := hs3.own _ _ (by simp)
      have hs4 := hs3.putObj (o' := rec_ .busy none) (b := bd + 1) (upd_app .here)
      refine ⟨_, run_beginRound (P := P) hrec1 rfl, ?_⟩
      have hB := hbody (bd + 1) pre x E2 I2 loc2 (addL (addL H lit) [(bd + 1, rec_ .busy none), (bd, .deferred (some []))]) hpre (hI.trans hI2) hJa a1 _ hf2 hs4.hideR
      refine wpIn_mono (F := Fence.wide.inRound (bd + 1)) (n := 0) (P := P) (show body.wpIn (Fence.wide.inRound (bd + 1)) 0 P _ _ _ from hB) ?_
      have fin : ∀ (W3 : World) (I3 : HMap) (loc3 : Loc) (jump : Option Code) (st : LoopState), St g I3 (addL (addL H lit) [(bd + 1, rec_ .busy none), (bd, .deferred (some []))]) loc3 W3 →
          (st = if jump.isNone then .ready else .done) →
          ∃ W4, (Instr.endRound (bd + 1) jump).run P W3 = .ok (.bool jump.isNone) W4 ∧ St g I3 (addL H (Lr st jump loc3)) lit W4 ∧ ((Lr st jump loc3).map (·.1)).Nodup ∧ ∀ b o, (b, o) ∈ Lr st jump loc3 → H b = none := by
        intro W3 I3 loc3 jump st hs hst
        have hs5 : St g I3 (addL H lit) (loc3 ++ [(bd + 1, rec_ .busy none), (bd, .deferred (some []))]) W3 := St.unhide (hs4.rest split_app) hs
        have hrec3 : W3.heap[bd + 1]? = some (rec_ .busy none) := hs5.own _ _ (by simp)
        have hs6 := hs5.putObj (o' := rec_ st jump) (b := bd + 1) (upd_app .here)
        refine ⟨_, run_endRound (P := P) jump hrec3, ?_, hs6.nodup, fun b o hm => (addL_none (hs6.sepIL b o hm).2).1⟩
        rw [← hst]
        exact hs6.swap hW.nodup hdjK
      intro e a3 W3 hq
      cases e with
      | normal =>
        obtain ⟨I3, loc3, ⟨hI3, hJ3⟩, hs⟩ := hq
        obtain ⟨W4, h1, h2, h3, h4⟩ := fin W3 I3 loc3 none .ready hs rfl
        exact ⟨_, W4, h1, true, I3, _, rfl, hI2.trans hI3, h2, loc3, hJ3, (hI.trans hI2).trans hI3, rfl, h3, h4⟩
      | ret =>
        obtain ⟨I3, loc3, ⟨hI3, hJ3⟩, hs⟩ := hq
        obtain ⟨W4, h1, h2, h3, h4⟩ := fin W3 I3 loc3 (some .ret) .done hs rfl
        exact ⟨_, W4, h1, false, I3, _, rfl, hI2.trans hI3, h2, .ret, loc3, hJ3, (hI.trans hI2).trans hI3, rfl, h3, h4⟩
      | exit id =>
        obtain ⟨I3, loc3, ⟨hI3, hJ3⟩, hs⟩ := hq
        obtain ⟨W4, h1, h2, h3, h4⟩ := fin W3 I3 loc3 (some (.exit id)) .done hs rfl
        exact ⟨_, W4, h1, false, I3, _, rfl, hI2.trans hI3, h2, .exit id, loc3, hJ3, (hI.trans hI2).trans hI3, rfl, h3, h4⟩
      | goto t => exact hq.elim
      | panic c => exact hq.elim
      | outgrown => exact hq.elim
    | _ => exact hq.elim
  · -- behind the call
    rintro e w' ⟨v, I', H', rfl, hI, hs, hJ | ⟨pre, hpre, hJ⟩⟩
    · obtain ⟨l', hJc, hI1, rfl, hnd, hdj⟩ := hJ
      have hs1 := hs.swap hnd hdj
      have hrec : w'.heap[bd + 1]? = some (rec_ .ready none) := hs1.own _ _ (by simp [Lr])
      have hs2 := hs1.putObj (o' := rec_ .exhausted none) (b := bd + 1) (upd_app .here)
      refine ⟨none, _, run_endLoop (P := P) hrec (by simp), ?_⟩
      refine hdone bd I' l' hI1 hJc _ _ ⟨ha.size, by simp [ha.defers], ha.env⟩ ?_
      refine hs2.rest (L := [(bd + 1, rec_ .exhausted none)]) ?_
      have : Split (l' ++ [(bd + 1, rec_ .exhausted none), (bd, .deferred (some []))]) [(bd + 1, rec_ .exhausted none)] (l' ++ [(bd, .deferred (some []))]) := by
        refine .cons ?_ .nil
        clear hdj hnd hs2 hs1 hs hJc hrec
        induction l' with
        | nil => exact .here
        | cons q l ih => exact .there ih
      exact this
    · obtain ⟨c, l', hJc, hI1, rfl, hnd, hdj⟩ := hJ
      have hs1 := hs.swap hnd hdj
      have hrec : w'.heap[bd + 1]? = some (rec_ .done (some c)) := hs1.own _ _ (by simp [Lr])
      have hs2 := hs1.putObj (o' := rec_ .exhausted (some c)) (b := bd + 1) (upd_app .here)
      refine ⟨some c, _, run_endLoop (P := P) hrec (by simp), ?_⟩
      refine hstop c bd pre I' l' hI1 hpre hJc _ _ ⟨ha.size, by simp [ha.defers], ha.env⟩ ?_
      refine hs2.rest (L := [(bd + 1, rec_ .exhausted (some c))]) ?_
      have : Split (l' ++ [(bd + 1, rec_ .exhausted (some c)), (bd, .deferred (some []))]) [(bd + 1, rec_ .exhausted (some c))] (l' ++ [(bd, .deferred (some []))]) := by
        refine .cons ?_ .nil
        clear hdj hnd hs2 hs1 hs hJc hrec
        induction l' with
        | nil => exact .here
        | cons q l ih => exact .there ih
      exact this
end
section
variable {P : Program} {r : Option Nat} {N : Nat} {g : World} {H : HMap} {Q : Exit → Act → World → Prop} {E E' : Env} {I I' : HMap} {loc loc' L R : Loc} {ms : List Nat}
theorem X_rangeFuncM2 {α : Type} {gop : Operand} {p q : Nat} {assign body : Code} {f : FuncId} {cap : List Value} {K : Loc} {en1 en2 : α → Value} {xs : List α}
    (Jc : List α → HMap → Loc → Prop) (Jx : Code → List α → HMap → Loc → Prop) (Ja : List α → α → Env → HMap → Loc → Prop)
    (hg : evalS [] E gop = some (.func (.func f) #[] cap.toArray)) (hF : Fun P f) (hseq : SeqL2 P f cap I K en1 en2 xs) (hp : Nat.blt p N = true) (hq9 : Nat.blt q N = true) (h0 : Jc [] I L)
    (hass : ∀ l pre x I' loc' H1, pre ++ [x] <+: xs → HLe I I' → Jc pre I' loc' → X ⟨P, some l, N, [], g, H1⟩ (Exit.then (Met ⟨P, some l, N, [], g, H1⟩ fun E2 I2 loc2 => HLe I' I2 ∧ Ja pre x E2 I2 loc2) (fun _ _ _ => False)) assign ((q, en2 x) :: (p, en1 x) :: E) I' loc')
    (hbody : ∀ l pre x E2 I2 loc2 H2, pre ++ [x] <+: xs → HLe I I2 → Ja pre x E2 I2 loc2 → X ⟨P, some l, N, [], g, H2⟩ (RoundQ g H2 (fun q0 I3 loc3 => HLe I2 I3 ∧ Jc q0 I3 loc3) (fun c q0 I3 loc3 => HLe I2 I3 ∧ Jx c q0 I3 loc3) (pre ++ [x])) body E2 I2 loc2)
    (hdone : ∀ bd I' loc', HLe I I' → Jc xs I' loc' → At ⟨P, none, N, mk (bd :: ms), g, H⟩ Q .normal E I' (loc' ++ MB (bd :: ms)))
    (hstop : ∀ c bd pre I' loc', HLe I I' → pre <+: xs → Jx c pre I' loc' → X ⟨P, none, N, mk (bd :: ms), g, H⟩ Q c E I' (loc' ++ MB (bd :: ms))) :
    X ⟨P, none, N, mk ms, g, H⟩ Q (.rangeFunc gop #[p, q] assign body) E I (K ++ (L ++ MB ms)) := by
  intro a w ha hw
  have back : ∀ {I' : HMap} {loc' : Loc} {bd : Nat} {w' : World}, St g I' (addL H (MB ms)) (loc' ++ [(bd, .deferred (some []))]) w' → St g I' H (loc' ++ MB (bd :: ms)) w' := fun {I' loc' bd w'} h => by
    have h1 := St.unhide ((hw.rest split_app).rest split_app) h
    refine h1.perm (fun p => ?_) ?_
    · simp only [MB, List.mem_append]
      constructor
      · rintro (h | h | h)
        · exact .inl (.inl h)
        · exact .inr h
        · exact .inl (.inr h)
      · rintro ((h | h) | h)
        · exact .inl h
        · exact .inr (.inr h)
        · exact .inr (.inl h)
    · have hn := h1.nodup
      have hpm : (loc' ++ MB (bd :: ms)).Perm (loc' ++ [(bd, .deferred (some []))] ++ MB ms) := by
        rw [List.append_assoc]
        exact (List.Perm.refl loc').append List.perm_append_comm
      exact (hpm.map (·.1)).nodup_iff.2 hn
  refine X_rangeFuncD2 (K := K) (P := P) (N := N) (D := mk ms) (g := g) (H := addL H (MB ms)) (Q := Q) Jc Jx Ja hg hF hseq hp hq9 h0 hass hbody ?_ ?_ a w ha (show St g I (addL H (MB ms)) (K ++ L) w from (show St g I H ((K ++ L) ++ MB ms) w by rw [List.append_assoc]; exact hw).hideR)
  · intro bd I' loc' hI hJ a' w' ha' hw'
    exact hdone bd I' loc' hI hJ a' w' ha' (back hw')
  · intro c bd pre I' loc' hI hpre hJ a' w' ha' hw'
    exact hstop c bd pre I' loc' hI hpre hJ a' w' ha' (back hw')
end
end Go.Kn
namespace Go.Kn
open Go
section
variable {C : Cx} {Q : Exit → Act → World → Prop} {E E' : Env} {I I' I0 : HMap} {loc loc' loc0 L R : Loc} {ops : Array Oper} {rest : List Oper} {S : GS}
theorem X_locEq {c : Code} (h : loc = loc') (hx : X C Q c E I loc') : X C Q c E I loc := h ▸ hx
end
end Go.Kn
end
section
namespace Go.Kn
open Go
/-- An iterator's contract: what it hands on is right (Ok) at each time, and whole (Fin) where no round says no. -/
def SeqG {α : Type} (P : Program) (f : FuncId) (cap : List Value) (I : HMap) (K : Loc) (enc : α → Value) (Ok Fin : List α → Prop) : Prop :=
  ∀ g l (J Jx : List α → HMap → HMap → Prop),
    (∀ pre x I' H', Ok (pre ++ [x]) → HLe I I' → J pre I' H' → YieldOK P g l [enc x] I' H' fun b I2 H2 => if b then J (pre ++ [x]) I2 H2 else Jx (pre ++ [x]) I2 H2) →
    ∀ I0 H w, HLe I I0 → J [] I0 H → St g I0 H K w → Calls P f ((.func (.yield l) #[] #[] : Value) :: cap).toArray w fun e w' => ∃ v I' H', e = .returned v ∧ HLe I0 I' ∧ St g I' H' [] w' ∧ ((∃ xs, Fin xs ∧ J xs I' H') ∨ ∃ pre, Jx pre I' H')
section
variable {α : Type} {C : Cx} {Q : Exit → Act → World → Prop} {E E' : Env} {I I' : HMap} {loc loc' L R : Loc} {ops : Array Oper} {rest : List Oper} {S : GS}
variable {Jc : List α → HMap → Loc → Prop} {Jx : Code → List α → HMap → Loc → Prop} {pre : List α}
/-- 'for x := range f { .. }' at a function's own level. -/
theorem X_rangeFuncGD {P : Program} {N : Nat} {D : List Deferred} {K : Loc} {g : World} {H : HMap} {gop : Operand} {p : Nat} {assign body : Code} {f : FuncId} {cap : List Value} {enc : α → Value} {Ok Fin : List α → Prop}
    (Jc : List α → HMap → Loc → Prop) (Jx : Code → List α → HMap → Loc → Prop) (Ja : List α → α → Env → HMap → Loc → Prop)
    (hg : evalS [] E gop = some (.func (.func f) #[] cap.toArray)) (hF : Fun P f) (hseq : SeqG P f cap I K enc Ok Fin) (hp : Nat.blt p N = true) (h0 : Jc [] I loc)
    (hass : ∀ l pre x I' loc' H1, Ok (pre ++ [x]) → HLe I I' → Jc pre I' loc' → X ⟨P, some l, N, [], g, H1⟩ (Exit.then (Met ⟨P, some l, N, [], g, H1⟩ fun E2 I2 loc2 => HLe I' I2 ∧ Ja pre x E2 I2 loc2) (fun _ _ _ => False)) assign ((p, enc x) :: E) I' loc')
    (hbody : ∀ l pre x E2 I2 loc2 H2, Ok (pre ++ [x]) → HLe I I2 → Ja pre x E2 I2 loc2 → X ⟨P, some l, N, [], g, H2⟩ (RoundQ g H2 (fun q I3 loc3 => HLe I2 I3 ∧ Jc q I3 loc3) (fun c q I3 loc3 => HLe I2 I3 ∧ Jx c q I3 loc3) (pre ++ [x])) body E2 I2 loc2)
    (hdone : ∀ bd I' loc' xs, Fin xs → HLe I I' → Jc xs I' loc' → At ⟨P, none, N, { target := .collected bd, args := #[] } :: D, g, H⟩ Q .normal E I' (loc' ++ [(bd, .deferred (some []))]))
    (hstop : ∀ c bd pre I' loc', HLe I I' → Jx c pre I' loc' → X ⟨P, none, N, { target := .collected bd, args := #[] } :: D, g, H⟩ Q c E I' (loc' ++ [(bd, .deferred (some []))])) :
    X ⟨P, none, N, D, g, H⟩ Q (.rangeFunc gop #[p] assign body) E I (K ++ loc) := by
  intro a w ha hw
  refine wpIn_rangeFunc fun fn _ => ?_
  have hen := run_enterLoop_outer (P := P) (w := w) fn a.tmps #[p] assign body
  generalize hbd : w.heap.size = bd at hen
  let rec_ : LoopState → Option Code → Obj := fun st pd => .loop { state := st, pending := pd, fn, tmps := a.tmps, params := #[p], assign, body, defers := bd }
  have hw1 : St g I H ((bd + 1, rec_ .ready none) :: (bd, .deferred (some [])) :: (K ++ loc)) ((w.alloc (.deferred (some []))).alloc (rec_ .ready none)) := by
    have h1 := hw.alloc (.deferred (some []))
    have h2 := h1.alloc (rec_ .ready none)
    rw [World.size_alloc, hbd] at h2
    exact h2
  have hev := evalS_sound (S := []) ha trivial rfl hg
  refine ⟨bd + 1, [{ target := .collected bd, args := #[] }], _, { target := .fn (.func f) cap.toArray, args := #[.func (.yield (bd + 1)) #[] #[]] }, (w.alloc (.deferred (some []))).alloc (rec_ .ready none), f, ((.func (.yield (bd + 1)) #[] #[] : Value) :: cap).toArray, (w.alloc (.deferred (some []))).alloc (rec_ .ready none), hen, ?_, fun _ _ => trivial, ?_, by simp [FR], callsFR.2 ?_⟩
  · have e2 : a.eval (.const (.func (.yield (bd + 1)) #[] #[])) = .func (.yield (bd + 1)) #[] #[] := rfl
    simp only [resolve, List.map_toArray, List.map_cons, List.map_nil, e2, hev, Deferred.ofValue]
    rfl
  · simp only [invoke, run_callFunc hF]
    simp
  -- the caller's blocks, between two rounds
  let Lr : LoopState → Option Code → Loc → Loc := fun st pd l' => l' ++ [(bd + 1, rec_ st pd), (bd, .deferred (some []))]
  have okL : ∀ {I' H1 l' W st pd}, St g I' H1 (Lr st pd l') W → ((Lr st pd l').map (·.1)).Nodup := fun h => h.nodup
  let J : List α → HMap → HMap → Prop := fun pre I' H' => ∃ l', Jc pre I' l' ∧ HLe I I' ∧ H' = addL H (Lr .ready none l') ∧ ((Lr .ready none l').map (·.1)).Nodup ∧ ∀ b o, (b, o) ∈ Lr .ready none l' → H b = none
  let Jy : List α → HMap → HMap → Prop := fun pre I' H' => ∃ c l', Jx c pre I' l' ∧ HLe I I' ∧ H' = addL H (Lr .done (some c) l') ∧ ((Lr .done (some c) l').map (·.1)).Nodup ∧ ∀ b o, (b, o) ∈ Lr .done (some c) l' → H b = none
  have hw2 : St g I H (K ++ Lr .ready none loc) ((w.alloc (.deferred (some []))).alloc (rec_ .ready none)) := by
    have hp : (K ++ Lr .ready none loc).Perm ((bd + 1, rec_ .ready none) :: (bd, .deferred (some [])) :: (K ++ loc)) := by
      show (K ++ (loc ++ [(bd + 1, rec_ .ready none), (bd, .deferred (some []))])).Perm _
      rw [← List.append_assoc]
      exact List.perm_append_comm
    exact hw1.perm (fun q => hp.mem_iff) ((hp.map (·.1)).nodup_iff.2 hw1.nodup)
  have hw2r := hw2.rest split_app
  have hJ0 : J [] I (addL H (Lr .ready none loc)) := ⟨loc, h0, HLe.refl I, rfl, hw2r.nodup, fun b o hm => (hw2r.sepIL b o hm).2⟩
  refine (hseq g (bd + 1) J Jy ?_ I _ _ (HLe.refl I) hJ0 hw2.hideR).mono ?_
  · -- a round
    intro pre x I' H' hpre hI ⟨l', hJc, _, hH, hnd, hdj⟩ lit W hW
    subst hH
    have hS1 := hW.swap hnd hdj
    have hrec : W.heap[bd + 1]? = some (rec_ .ready none) := hS1.own _ _ (by simp [Lr])
    refine ⟨fn, _, assign, body, run_yield (P := P) hrec (by simp), ?_⟩
    have hfit : Fits N [] ((p, enc x) :: E) { tmps := a.tmps.setIfInBounds p (enc x), defers := [] } := by
      have h1 := ha.put hp (enc x)
      exact ⟨h1.size, rfl, h1.env⟩
    have hdjK : ∀ b o, (b, o) ∈ lit → H b = none := fun b o hm => (addL_none (hW.sepIL b o hm).2).1
    refine roundIn_of_wpIn (F := Fence.wide) trivial ?_
    have htm : ((#[p] : Array Tmp).zip #[enc x]).foldl (fun tmps (t, v) => tmps.setIfInBounds t v) a.tmps = a.tmps.setIfInBounds p (enc x) := by simp
    show Code.wpIn _ _ _ _ _ { tmps := ((#[p] : Array Tmp).zip #[enc x]).foldl (fun tmps (t, v) => tmps.setIfInBounds t v) a.tmps, defers := [] } _
    rw [htm]
    have hA := hass (bd + 1) pre x I' l' (addL (addL H lit) [(bd + 1, rec_ .ready none), (bd, .deferred (some []))]) hpre hI hJc _ W hfit hS1.hideR
    refine wpIn_mono (F := Fence.wide.inRound (bd + 1)) (n := 0) (P := P) (show assign.wpIn (Fence.wide.inRound (bd + 1)) 0 P _ _ _ from hA) ?_
    intro e a1 W1 hq
    cases e with
    | normal =>
      obtain ⟨E2, I2, loc2, ⟨hI2, hJa⟩, hf2, hs2⟩ := hq
      have hs3 : St g I2 (addL H lit) (loc2 ++ [(bd + 1, rec_ .ready none), (bd, .deferred (some []))]) W1 := St.unhide (hS1.rest split_app) hs2
      have hrec1 : W1.heap[bd + 1]? = some (rec_ .ready none) := hs3.own _ _ (by simp)
      have hs4 := hs3.putObj (o' := rec_ .busy none) (b := bd + 1) (upd_app .here)
      refine ⟨_, run_beginRound (P := P) hrec1 rfl, ?_⟩
      have hB := hbody (bd + 1) pre x E2 I2 loc2 (addL (addL H lit) [(bd + 1, rec_ .busy none), (bd, .deferred (some []))]) hpre (hI.trans hI2) hJa a1 _ hf2 hs4.hideR
      refine wpIn_mono (F := Fence.wide.inRound (bd + 1)) (n := 0) (P := P) (show body.wpIn (Fence.wide.inRound (bd + 1)) 0 P _ _ _ from hB) ?_
      have fin : ∀ (W3 : World) (I3 : HMap) (loc3 : Loc) (jump : Option Code) (st : LoopState), St g I3 (addL (addL H lit) [(bd + 1, rec_ .busy none), (bd, .deferred (some []))]) loc3 W3 →
          (st = if jump.isNone then .ready else .done) →
          ∃ W4, (Instr.endRound (bd + 1) jump).run P W3 = .ok (.bool jump.isNone) W4 ∧ St g I3 (addL H (Lr st jump loc3)) lit W4 ∧ ((Lr st jump loc3).map (·.1)).Nodup ∧ ∀ b o, (b, o) ∈ Lr st jump loc3 → H b = none := by
        intro W3 I3 loc3 jump st hs hst
        have hs5 : St g I3 (addL H lit) (loc3 ++ [(bd + 1, rec_ .busy none), (bd, .deferred (some []))]) W3 := St.unhide (hs4.rest split_app) hs
        have hrec3 : W3.heap[bd + 1]? = some (rec_ .busy none) := hs5.own _ _ (by simp)
        have hs6 := hs5.putObj (o' := rec_ st jump) (b := bd + 1) (upd_app .here)
        refine ⟨_, run_endRound (P := P) jump hrec3, ?_, hs6.nodup, fun b o hm => (addL_none (hs6.sepIL b o hm).2).1⟩
        rw [← hst]
        exact hs6.swap hW.nodup hdjK
      intro e a3 W3 hq
      cases e with
      | normal =>
        obtain ⟨I3, loc3, ⟨hI3, hJ3⟩, hs⟩ := hq
        obtain ⟨W4, h1, h2, h3, h4⟩ := fin W3 I3 loc3 none .ready hs rfl
        exact ⟨_, W4, h1, true, I3, _, rfl, hI2.trans hI3, h2, loc3, hJ3, (hI.trans hI2).trans hI3, rfl, h3, h4⟩
      | ret =>
        obtain ⟨I3, loc3, ⟨hI3, hJ3⟩, hs⟩ := hq
        obtain ⟨W4, h1, h2, h3, h4⟩ := fin W3 I3 loc3 (some .ret) .done hs rfl
        exact ⟨_, W4, h1, false, I3, _, rfl, hI2.trans hI3, h2, .ret, loc3, hJ3, (hI.trans hI2).trans hI3, rfl, h3, h4⟩
      | exit id =>
        obtain ⟨I3, loc3, ⟨hI3, hJ3⟩, hs⟩ := hq
        obtain ⟨W4, h1, h2, h3, h4⟩ := fin W3 I3 loc3 (some (.exit id)) .done hs rfl
        exact ⟨_, W4, h1, false, I3, _, rfl, hI2.trans hI3, h2, .exit id, loc3, hJ3, (hI.trans hI2).trans hI3, rfl, h3, h4⟩
      | goto t => exact hq.elim
      | panic c => exact hq.elim
      | outgrown => exact hq.elim
    | _ => exact hq.elim
  · -- behind the call
    rintro e w' ⟨v, I', H', rfl, hI, hs, ⟨xs, hfin, hJ⟩ | ⟨pre, hJ⟩⟩
    · obtain ⟨l', hJc, hI1, rfl, hnd, hdj⟩ := hJ
      have hs1 := hs.swap hnd hdj
      have hrec : w'.heap[bd + 1]? = some (rec_ .ready none) := hs1.own _ _ (by simp [Lr])
      have hs2 := hs1.putObj (o' := rec_ .exhausted none) (b := bd + 1) (upd_app .here)
      refine ⟨none, _, run_endLoop (P := P) hrec (by simp), ?_⟩
      refine hdone bd I' l' xs hfin hI1 hJc _ _ ⟨ha.size, by simp [ha.defers], ha.env⟩ ?_
      refine hs2.rest (L := [(bd + 1, rec_ .exhausted none)]) ?_
      have : Split (l' ++ [(bd + 1, rec_ .exhausted none), (bd, .deferred (some []))]) [(bd + 1, rec_ .exhausted none)] (l' ++ [(bd, .deferred (some []))]) := by
        refine .cons ?_ .nil
        clear hdj hnd hs2 hs1 hs hJc hrec
        induction l' with
        | nil => exact .here
        | cons q l ih => exact .there ih
      exact this
    · obtain ⟨c, l', hJc, hI1, rfl, hnd, hdj⟩ := hJ
      have hs1 := hs.swap hnd hdj
      have hrec : w'.heap[bd + 1]? = some (rec_ .done (some c)) := hs1.own _ _ (by simp [Lr])
      have hs2 := hs1.putObj (o' := rec_ .exhausted (some c)) (b := bd + 1) (upd_app .here)
      refine ⟨some c, _, run_endLoop (P := P) hrec (by simp), ?_⟩
      refine hstop c bd pre I' l' hI1 hJc _ _ ⟨ha.size, by simp [ha.defers], ha.env⟩ ?_
      refine hs2.rest (L := [(bd + 1, rec_ .exhausted (some c))]) ?_
      have : Split (l' ++ [(bd + 1, rec_ .exhausted (some c)), (bd, .deferred (some []))]) [(bd + 1, rec_ .exhausted (some c))] (l' ++ [(bd, .deferred (some []))]) := by
        refine .cons ?_ .nil
        clear hdj hnd hs2 hs1 hs hJc hrec
        induction l' with
        | nil => exact .here
        | cons q l ih => exact .there ih
      exact this
end
section
variable {P : Program} {r : Option Nat} {N : Nat} {g : World} {H : HMap} {Q : Exit → Act → World → Prop} {E E' : Env} {I I' : HMap} {loc loc' L R : Loc} {ms : List Nat}
/-- 'for x := range f { .. }' where marks lie already. -/
theorem X_rangeFuncGM {α : Type} {gop : Operand} {p : Nat} {assign body : Code} {f : FuncId} {cap : List Value} {K : Loc} {enc : α → Value} {Ok Fin : List α → Prop}
    (Jc : List α → HMap → Loc → Prop) (Jx : Code → List α → HMap → Loc → Prop) (Ja : List α → α → Env → HMap → Loc → Prop)
    (hg : evalS [] E gop = some (.func (.func f) #[] cap.toArray)) (hF : Fun P f) (hseq : SeqG P f cap I K enc Ok Fin) (hp : Nat.blt p N = true) (h0 : Jc [] I L)
    (hass : ∀ l pre x I' loc' H1, Ok (pre ++ [x]) → HLe I I' → Jc pre I' loc' → X ⟨P, some l, N, [], g, H1⟩ (Exit.then (Met ⟨P, some l, N, [], g, H1⟩ fun E2 I2 loc2 => HLe I' I2 ∧ Ja pre x E2 I2 loc2) (fun _ _ _ => False)) assign ((p, enc x) :: E) I' loc')
    (hbody : ∀ l pre x E2 I2 loc2 H2, Ok (pre ++ [x]) → HLe I I2 → Ja pre x E2 I2 loc2 → X ⟨P, some l, N, [], g, H2⟩ (RoundQ g H2 (fun q I3 loc3 => HLe I2 I3 ∧ Jc q I3 loc3) (fun c q I3 loc3 => HLe I2 I3 ∧ Jx c q I3 loc3) (pre ++ [x])) body E2 I2 loc2)
    (hdone : ∀ bd I' loc' xs, Fin xs → HLe I I' → Jc xs I' loc' → At ⟨P, none, N, mk (bd :: ms), g, H⟩ Q .normal E I' (loc' ++ MB (bd :: ms)))
    (hstop : ∀ c bd pre I' loc', HLe I I' → Jx c pre I' loc' → X ⟨P, none, N, mk (bd :: ms), g, H⟩ Q c E I' (loc' ++ MB (bd :: ms))) :
    X ⟨P, none, N, mk ms, g, H⟩ Q (.rangeFunc gop #[p] assign body) E I (K ++ (L ++ MB ms)) := by
  intro a w ha hw
  have back : ∀ {I' : HMap} {loc' : Loc} {bd : Nat} {w' : World}, St g I' (addL H (MB ms)) (loc' ++ [(bd, .deferred (some []))]) w' → St g I' H (loc' ++ MB (bd :: ms)) w' := fun {I' loc' bd w'} h => by
    have h1 := St.unhide ((hw.rest split_app).rest split_app) h
    refine h1.perm (fun p => ?_) ?_
    · simp only [MB, List.mem_append]
      constructor
      · rintro (h | h | h)
        · exact .inl (.inl h)
        · exact .inr h
        · exact .inl (.inr h)
      · rintro ((h | h) | h)
        · exact .inl h
        · exact .inr (.inr h)
        · exact .inr (.inl h)
    · have hn := h1.nodup
      have hpm : (loc' ++ MB (bd :: ms)).Perm (loc' ++ [(bd, .deferred (some []))] ++ MB ms) := by
        rw [List.append_assoc]
        exact (List.Perm.refl loc').append List.perm_append_comm
      exact (hpm.map (·.1)).nodup_iff.2 hn
  refine X_rangeFuncGD (K := K) (P := P) (N := N) (D := mk ms) (g := g) (H := addL H (MB ms)) (Q := Q) Jc Jx Ja hg hF hseq hp h0 hass hbody ?_ ?_ a w ha (show St g I (addL H (MB ms)) (K ++ L) w from (show St g I H ((K ++ L) ++ MB ms) w by rw [List.append_assoc]; exact hw).hideR)
  · intro bd I' loc' xs hfin hI hJ a' w' ha' hw'
    exact hdone bd I' loc' xs hfin hI hJ a' w' ha' (back hw')
  · intro c bd pre I' loc' hI hJ a' w' ha' hw'
    exact hstop c bd pre I' loc' hI hJ a' w' ha' (back hw')
end
end Go.Kn
end
section
namespace Go.Kn
open Go Go.Sort Go.Shelf Go.Lib Go.Proofs
section
variable {C : Cx} {Q : Exit → Act → World → Prop} {E : Env} {I : HMap} {loc : Loc} {ops : Array Oper} {rest : List Oper} {d : Nat} {ty : TypeId} {pos : String} {af : Array Edge} {gd : Option (Nat × Bool)} {x y : Operand}
/-- 'append(nil, make([]T, k)...)': a new block. -/
theorem XO_appendZ0 {t tn e size bytes : Nat} {k : Int} (hx : evalS [] E x = some (.slice none 0 0)) (hy : evalS [] E y = some (.int .i64 k)) (hT : ElT C.P t e size bytes) (htn : C.P.underlying tn = some (.int .i64))
    (hk : 0 < k) (hsz : 0 < size) (hB : k.toNat * (bytes + 1) ≤ 70368744177664) (hG : gd = none) (hN : Nat.blt d C.N = true)
    (h : ∀ b' c' zs, k.toNat ≤ c' → c' ≤ maxLen → (zs : List Value).length = c' * size → XO C Q ops rest [] ((d, .slice (some ⟨b', 0, none⟩) k.toNat c') :: E) I ((b', .cells zs.toArray e (0, 0)) :: loc)) :
    XO C Q ops (⟨some d, .call ⟨.builtin .append, #[x, y], #[t, tn]⟩, ty, pos, af, gd⟩ :: rest) [] E I loc :=
  XO_world hG (by intro c e; cases e) fun a w ha hw => by
    obtain ⟨ht, inf, zz, hi, hz, hss, hb, hzs⟩ := hT
    obtain ⟨q, rfl⟩ : ∃ q : Nat, k = q := ⟨k.toNat, by omega⟩
    rw [Int.toNat_natCast] at hB h
    have hnm : q ≤ 70368744177664 := by
      have : q * 1 ≤ q * (bytes + 1) := Nat.mul_le_mul_left _ (by omega)
      omega
    have hbytes : q * bytes ≤ 140737488355328 := by
      have : q * bytes ≤ q * (bytes + 1) := Nat.mul_le_mul_left _ (by omega)
      omega
    have hold : (Builtin.firstCells inf.size 0 (.slice none 0 0)).run C.P w.drew = .ok (([] : List Value).toArray) w.drew := rfl
    have hrun := Lib.run_append_grow_zeros (P := C.P) w t tn ty e inf zz .i64 .i64 ht htn hi hz none 0 0 _ hold q (by omega) (by omega) (by omega) (by omega) (by rw [hb]; omega) (by rw [hb]; exact growslice_fits (by omega) (by rw [Nat.zero_add]; exact hbytes))
    have hge := grownCap_ge w (0 + q) 0 e
    have hcm : grownCap w (0 + q) 0 e ≤ maxLen := grownCap_le_maxLen w (0 + q) 0 e (by simp only [maxLen]; omega)
    simp only [execOp, resolve, List.map_toArray, List.map_cons, List.map_nil, evalS_sound (S := []) ha trivial rfl hx, evalS_sound (S := []) ha trivial rfl hy, Sem.run_bind, Sem.run_pure, Result.andThen, invoke, builtin, hrun, Oper.uponIn_value]
    have e1 : ([] : List Value).toArray ++ Builtin.zeroCells zz.cells q ++ Builtin.zeroCells zz.cells (grownCap w (0 + q) 0 e - (0 + q)) = (((Builtin.zeroCells zz.cells q).toList ++ (Builtin.zeroCells zz.cells (grownCap w (0 + q) 0 e - (0 + q))).toList)).toArray := by
      apply Array.ext'
      simp
    rw [e1]
    simp only [Nat.zero_add] at hge hcm ⊢
    refine h _ _ _ hge hcm ?_ _ _ (ha.put hN _) trivial (hw.drew'.alloc _)
    simp only [List.length_append, Array.length_toList, size_zeroCells', hzs]
    rw [← Nat.add_mul]
    congr 1; omega
end
end Go.Kn
end
section
namespace Go.Kn
open Go
theorem X_perm {C : Cx} {Q : Exit → Act → World → Prop} {E : Env} {I : HMap} {loc : Loc} (loc' : Loc) {c : Code} (hp : loc'.Perm loc) (h : X C Q c E I loc') : X C Q c E I loc := fun a w ha hw => h a w ha (hw.permL hp)
/-- A set: its members in the order in which they came. -/
def kmap {α : Type} (ks : List α) : List (α × Bool) := ks.map fun k => (k, true)
def insS {α : Type} [DecidableEq α] (ks : List α) (a : α) : List α := if a ∈ ks then ks else ks ++ [a]
theorem mem_insS {α : Type} [DecidableEq α] {ks : List α} {a x : α} : x ∈ insS ks a ↔ x ∈ ks ∨ x = a := by
  unfold insS
  split
  · rename_i h; exact ⟨.inl, fun g => g.elim id (fun e => e ▸ h)⟩
  · simp
theorem insS_nodup {α : Type} [DecidableEq α] {ks : List α} {a : α} (h : ks.Nodup) : (insS ks a).Nodup := by
  unfold insS
  split
  · exact h
  · rename_i g; exact List.nodup_append.2 ⟨h, by simp, fun x hx y hy e => by simp at hy; subst hy; subst e; exact g hx⟩
theorem mset_kmap {α : Type} [DecidableEq α] : ∀ (ks : List α) (a : α), mset (kmap ks) a true = kmap (insS ks a)
  | [], a => by simp [kmap, mset, insS]
  | k :: ks, a => by
    have ih := mset_kmap ks a
    unfold kmap insS at *
    simp only [List.map_cons, mset]
    by_cases e : k = a
    · subst e; simp
    · have e' : ¬ a = k := fun q => e q.symm
      rw [if_neg e, ih]
      by_cases g : a ∈ ks
      · simp [g]
      · simp [g, e']
/-! ### Maps of sets: m has the blocks, f the sets -/
def setIB (s : List (Int × Bool)) : Obj := mapO (Value.int .i64) Value.bool s
def dL : List (Int × Nat) → (Int → List (Int × Bool)) → Loc
  | [], _ => []
  | q :: m, f => dL m f ++ [(q.2, setIB (f q.1))]
theorem dL_snoc (f : Int → List (Int × Bool)) (q : Int × Nat) : ∀ m, dL (m ++ [q]) f = (q.2, setIB (f q.1)) :: dL m f
  | [] => rfl
  | a :: m => by simp only [List.cons_append, dL]; rw [dL_snoc f q m]; rfl
theorem dL_congr {f g : Int → List (Int × Bool)} : ∀ {m : List (Int × Nat)}, (∀ q ∈ m, f q.1 = g q.1) → dL m f = dL m g
  | [], _ => rfl
  | q :: m, h => by simp only [dL]; rw [dL_congr fun x hx => h x (by simp [hx]), h q (by simp)]
def updF (f : Int → List (Int × Bool)) (p : Int) (s : List (Int × Bool)) : Int → List (Int × Bool) := fun y => if y = p then s else f y
theorem dL_upd {f : Int → List (Int × Bool)} {p : Int} {b : Nat} {s : List (Int × Bool)} : ∀ {m : List (Int × Nat)} {R : Loc}, (m.map (·.1)).Nodup → mget m p = some b → Upd (dL m f ++ R) b (setIB (f p)) (setIB s) (dL m (updF f p s) ++ R)
  | [], _, _, h => by cases h
  | q :: m, R, hn, h => by
    rw [List.map_cons, List.nodup_cons] at hn
    simp only [dL, List.append_assoc, List.singleton_append]
    unfold mget at h
    split at h
    · rename_i e
      cases h
      have e1 : dL m (updF f p s) = dL m f := dL_congr fun x hx => by
        unfold updF
        rw [if_neg]
        intro e2
        exact hn.1 (e ▸ e2 ▸ List.mem_map_of_mem hx)
      rw [e1]
      have e3 : updF f p s q.1 = s := by unfold updF; rw [if_pos e]
      rw [e3, e]
      exact upd_app .here
    · rename_i e
      have e3 : updF f p s q.1 = f q.1 := by unfold updF; rw [if_neg e]
      rw [e3]
      exact dL_upd hn.2 h
theorem dL_mem {f : Int → List (Int × Bool)} {p : Int} {b : Nat} : ∀ {m : List (Int × Nat)}, mget m p = some b → (b, setIB (f p)) ∈ dL m f
  | [], h => by cases h
  | q :: m, h => by
    unfold mget at h
    simp only [dL, List.mem_append, List.mem_singleton]
    split at h
    · rename_i e; cases h; exact .inr (by rw [e])
    · exact .inl (dL_mem h)
end Go.Kn
namespace Go.Proofs.YtclkmnidgdkekaaGreat
open Go Go.Kn Go.Proofs
theorem mset_add {β : Type} : ∀ {m : List (Int × β)} {p : Int} {b : β}, mget m p = none → mset m p b = m ++ [(p, b)]
  | [], _, _, _ => rfl
  | q :: m, p, b, h => by
    unfold mget at h
    split at h
    · cases h
    · rename_i e; unfold mset; rw [if_neg e, mset_add h]; rfl
/-- The people of a day, with their efforts. -/
def peoK (c : Cr) (pl : List Int) (d : Int) (k : Nat) : List (Int × Int) := (((pl.zip c.ss).drop k).filter fun q => q.1 == d).flatMap fun q => q.2.who.map fun p => (p, q.2.ef)
def peoL (c : Cr) (pl : List Int) (d : Int) : List (Int × Int) := peoK c pl d 0
def en1P (x : Int × Int) : Value := .int .i64 x.1
def en2P (x : Int × Int) : Value := .int .i64 x.2
theorem zip_at {α β : Type} {a : List α} {b : List β} {i : Nat} {x : α} {y : β} (h : a[i]? = some x) (g : b[i]? = some y) : (a.zip b).drop i = (x, y) :: (a.zip b).drop (i + 1) := drop_cons (List.getElem?_zip_eq_some.2 ⟨h, g⟩)
theorem peo_skip {c : Cr} {pl : List Int} {d e : Int} {k : Nat} {s : Ses} (h : pl[k]? = some e) (hs : c.ss[k]? = some s) (hne : e ≠ d) : peoK c pl d k = peoK c pl d (k + 1) := by
  unfold peoK; rw [zip_at h hs]; simp [hne]
theorem peo_in {c : Cr} {pl : List Int} {d e : Int} {k : Nat} {s : Ses} (h : pl[k]? = some e) (hs : c.ss[k]? = some s) (he : e = d) : peoK c pl d k = ((s.who.drop 0).map fun p => (p, s.ef)) ++ peoK c pl d (k + 1) := by
  subst he; unfold peoK; rw [zip_at h hs]; simp
theorem peo_end {c : Cr} {pl : List Int} {d : Int} {k : Nat} (h : pl.length ≤ k) : peoK c pl d k = [] := by
  unfold peoK; rw [List.drop_eq_nil_of_le (by rw [List.length_zip]; omega)]; rfl
theorem who_step {s : Ses} {j : Nat} {p : Int} {l : List (Int × Int)} (h : s.who[j]? = some p) : ((s.who.drop j).map fun p => (p, s.ef)) ++ l = (p, s.ef) :: (((s.who.drop (j + 1)).map fun p => (p, s.ef)) ++ l) := by rw [drop_cons h]; rfl
theorem who_end {s : Ses} {j : Nat} {l : List (Int × Int)} (h : s.who.length ≤ j) : ((s.who.drop j).map fun p => (p, s.ef)) ++ l = l := by rw [List.drop_eq_nil_of_le h]; rfl
theorem peo_pre {X pre l : List (Int × Int)} {x : Int × Int} (h : X = pre ++ x :: l) : pre ++ [x] <+: X := ⟨l, by rw [h]; simp⟩
theorem mem_peo {c : Cr} {pl : List Int} {d : Int} {e : Int × Int} : e ∈ peoL c pl d ↔ ∃ q ∈ pl.zip c.ss, q.1 = d ∧ e.1 ∈ q.2.who ∧ e.2 = q.2.ef := by
  unfold peoL peoK
  rw [List.drop_zero]
  simp only [List.mem_flatMap, List.mem_filter, List.mem_map, beq_iff_eq]
  constructor
  · rintro ⟨q, ⟨h1, h2⟩, p, hp, rfl⟩; exact ⟨q, h1, h2, hp, rfl⟩
  · rintro ⟨q, h1, h2, h3, h4⟩; exact ⟨q, ⟨h1, h2⟩, e.1, h3, by rw [← h4]⟩
theorem peo_cnt {c : Cr} (hc : rightF c = true) {pl : List Int} {d p : Int} : cntE (peoL c pl d) p = cntF c pl d p ∧ sumE (peoL c pl d) p = effF c pl d p := by
  have key : ∀ zs : List (Int × Ses), (∀ q ∈ zs, q.2.who.Pairwise (· < ·)) →
      cntE ((zs.filter fun q => q.1 == d).flatMap fun q => q.2.who.map fun p => (p, q.2.ef)) p = (((((zs.filter fun q => q.1 == d).map (·.2)).filter fun s => s.who.contains p).length : Nat) : Int)
      ∧ sumE ((zs.filter fun q => q.1 == d).flatMap fun q => q.2.who.map fun p => (p, q.2.ef)) p = ((((zs.filter fun q => q.1 == d).map (·.2)).filter fun s => s.who.contains p).map (·.ef)).sum := by
    intro zs
    induction zs with
    | nil => intro _; exact ⟨rfl, rfl⟩
    | cons q zs ih =>
      intro h
      obtain ⟨ih1, ih2⟩ := ih fun x hx => h x (by simp [hx])
      have hw := h q (by simp)
      rw [List.filter_cons]
      split
      · simp only [List.flatMap_cons, List.map_cons]
        rw [cntE_app, sumE_app, ih1, ih2]
        have e1 : cntE (q.2.who.map fun p => (p, q.2.ef)) p = if p ∈ q.2.who then 1 else 0 := by
          unfold cntE
          rw [List.filter_map, List.length_map]
          have : ((fun e : Int × Int => decide (e.1 = p)) ∘ fun p => (p, q.2.ef)) = fun x => x == p := by funext x; rw [Bool.eq_iff_iff]; simp
          rw [this, who_one hw]
          by_cases g : p ∈ q.2.who <;> simp [g]
        have e2 : sumE (q.2.who.map fun p => (p, q.2.ef)) p = if p ∈ q.2.who then q.2.ef else 0 := by
          unfold sumE
          rw [List.filter_map, List.map_map]
          have : ((fun e : Int × Int => decide (e.1 = p)) ∘ fun p => (p, q.2.ef)) = fun x => x == p := by funext x; rw [Bool.eq_iff_iff]; simp
          rw [this, who_one hw]
          by_cases g : p ∈ q.2.who <;> simp [g]
        rw [e1, e2, List.filter_cons]
        by_cases g : p ∈ q.2.who
        · simp [g]; omega
        · simp [g]
      · exact ⟨ih1, ih2⟩
  unfold peoL peoK cntF effF onD
  rw [List.drop_zero]
  exact key _ fun q hq => by obtain ⟨i, _, h2⟩ := mem_zip hq; exact (right_ses hc h2).inc
/-! ### The dates on which people are busy, so far -/
def bsyK (c : Cr) (pl : List Int) (k : Nat) (p x : Int) : Bool := (pl.zip c.ss).any fun q => decide (q.1 < (k : Int)) && (dayF c q.1 == x && q.2.who.contains p)
def bsyP (c : Cr) (pl : List Int) (k : Nat) (pre : List (Int × Int)) (p x : Int) : Bool := bsyK c pl k p x || (dayF c k == x && pre.any fun e => e.1 == p)
structure DOK (m : List (Int × Nat)) (f : Int → List (Int × Bool)) (F : Int → Int → Bool) : Prop where
  nd : (m.map (·.1)).Nodup
  no : ∀ p, mget m p = none → f p = []
  is : ∀ p x, setM (f p) x = F p x
theorem DOK.congr {m : List (Int × Nat)} {f : Int → List (Int × Bool)} {F G : Int → Int → Bool} (h : DOK m f F) (e : ∀ p x, F p x = G p x) : DOK m f G := ⟨h.nd, h.no, fun p x => (h.is p x).trans (e p x)⟩
theorem DOK.nil {F : Int → Int → Bool} (h : ∀ p x, F p x = false) : DOK [] (fun _ => []) F := ⟨List.nodup_nil, fun _ _ => rfl, fun p x => (h p x).symm⟩
theorem DOK.add {m : List (Int × Nat)} {f : Int → List (Int × Bool)} {F : Int → Int → Bool} (h : DOK m f F) {p : Int} {r : Nat} (hn : mget m p = none) : DOK (m ++ [(p, r)]) f F := by
  refine ⟨?_, fun q hq => ?_, h.is⟩
  · rw [← mset_add hn]; exact mset_nodup _ _ h.nd
  · rw [← mset_add hn, mget_mset] at hq
    split at hq
    · cases hq
    · exact h.no q hq
theorem DOK.put {m : List (Int × Nat)} {f : Int → List (Int × Bool)} {F : Int → Int → Bool} (h : DOK m f F) {p x : Int} {r : Nat} (hn : mget m p = some r) : DOK m (updF f p (mset (f p) x true)) (fun q y => F q y || (decide (q = p) && decide (x = y))) := by
  refine ⟨h.nd, fun q hq => ?_, fun q y => ?_⟩
  · unfold updF
    rw [if_neg (fun e => by subst e; rw [hn] at hq; cases hq)]
    exact h.no q hq
  · unfold updF
    by_cases e : q = p
    · subst e; rw [if_pos rfl, setM_put, h.is]; simp [Bool.or_comm]
    · rw [if_neg e, h.is]; simp [e]
theorem DOK.has {m : List (Int × Nat)} {f : Int → List (Int × Bool)} {F : Int → Int → Bool} (h : DOK m f F) {p x : Int} (hF : F p x = true) : ∃ r, mget m p = some r := by
  cases e : mget m p with
  | some r => exact ⟨r, rfl⟩
  | none => have := h.is p x; rw [h.no p e, hF] at this; cases this
theorem bsyP_nil (c : Cr) (pl : List Int) (k : Nat) (p x : Int) : bsyP c pl k [] p x = bsyK c pl k p x := by unfold bsyP; simp
theorem bsyP_snoc (c : Cr) (pl : List Int) (k : Nat) (pre : List (Int × Int)) (e : Int × Int) (q y : Int) : (bsyP c pl k pre q y || (decide (q = e.1) && decide (dayF c k = y))) = bsyP c pl k (pre ++ [e]) q y := by
  unfold bsyP
  rw [List.any_append, List.any_cons, List.any_nil, Bool.or_false]
  cases bsyK c pl k q y
  · have e2 : (decide (q = e.1)) = (e.1 == q) := by rw [Bool.eq_iff_iff, decide_eq_true_eq, beq_iff_eq]; exact eq_comm
    have e3 : (decide (dayF c k = y)) = (dayF c k == y) := by rw [Bool.eq_iff_iff, decide_eq_true_eq, beq_iff_eq]
    rw [e2, e3]
    cases (dayF c k == y) <;> cases (pre.any fun e => e.1 == q) <;> cases (e.1 == q) <;> rfl
  · rfl
theorem bsyK_0 {c : Cr} {pl : List Int} (hin : InR c pl) (p x : Int) : bsyK c pl 0 p x = false := by
  unfold bsyK
  rw [List.any_eq_false]
  intro q hq h
  simp only [Bool.and_eq_true, decide_eq_true_eq] at h
  obtain ⟨i, h1, _⟩ := mem_zip hq
  have := hin _ (List.mem_of_getElem? h1)
  omega
theorem bsyP_all {c : Cr} {pl : List Int} (k : Nat) (p x : Int) : bsyP c pl k (peoL c pl k) p x = bsyK c pl (k + 1) p x := by
  unfold bsyP bsyK
  rw [Bool.eq_iff_iff]
  simp only [Bool.or_eq_true, List.any_eq_true, Bool.and_eq_true, decide_eq_true_eq, beq_iff_eq, cont_iff]
  constructor
  · rintro (⟨q, hq, h1, h2, h3⟩ | ⟨h1, e, he, rfl⟩)
    · exact ⟨q, hq, by omega, h2, h3⟩
    · obtain ⟨q, hq, h2, h3, _⟩ := mem_peo.1 he
      exact ⟨q, hq, by omega, by rw [h2]; exact h1, h3⟩
  · rintro ⟨q, hq, h1, h2, h3⟩
    by_cases e : q.1 < (k : Int)
    · exact .inl ⟨q, hq, e, h2, h3⟩
    · have e2 : q.1 = (k : Int) := by omega
      exact .inr ⟨by rw [← e2]; exact h2, (p, q.2.ef), mem_peo.2 ⟨q, hq, e2, h3, rfl⟩, rfl⟩
/-- On days before a day, one is busy as in the whole beginning. -/
theorem bsyK_busy {c : Cr} (hc : rightF c = true) {pl : List Int} (hin : InR c pl) {k : Nat} (hk : k < c.days.length) {p j : Int} (hj : 0 ≤ j) : bsyK c pl (k + 1) p (dayF c k - j) = busyF c pl (dayF c k - j) p := by
  unfold bsyK busyF
  refine any_congr' fun q hq => ?_
  obtain ⟨i, h1, _⟩ := mem_zip hq
  have hr := hin _ (List.mem_of_getElem? h1)
  by_cases e : dayF c q.1 = dayF c k - j
  · have : q.1 < ((k + 1 : Nat) : Int) := by
      by_cases g : q.1 ≤ (k : Int)
      · omega
      · have := days_lt (head_ok hc) (d := (k : Int)) (e := q.1) (by omega) hr.2 (by omega); omega
    rw [decide_eq_true this, Bool.true_and]
  · simp [e]
theorem bsyK_pos {c : Cr} (hc : rightF c = true) {pl : List Int} (hin : InR c pl) {k : Nat} {p x : Int} (h : bsyK c pl k p x = true) : 0 ≤ x := by
  unfold bsyK at h
  obtain ⟨q, hq, hp⟩ := List.any_eq_true.1 h
  simp only [Bool.and_eq_true, beq_iff_eq] at hp
  obtain ⟨i, h1, _⟩ := mem_zip hq
  have hr := hin _ (List.mem_of_getElem? h1)
  have hl : q.1.toNat < c.days.length := by omega
  have := (head_ok hc).day _ (List.getElem_mem hl)
  have e : dayF c q.1 = c.days[q.1.toNat] := by unfold dayF; rw [List.getD_eq_getElem?_getD, List.getElem?_eq_getElem hl]; rfl
  omega
theorem dayF_at {c : Cr} {k : Nat} {x : Int} (h : c.days[k]? = some x) : dayF c k = x := by
  unfold dayF; rw [Int.toNat_natCast, List.getD_eq_getElem?_getD, h]; rfl
end Go.Proofs.YtclkmnidgdkekaaGreat
end
section
namespace Go.Proofs.YtclkmnidgdkekaaGreat
open Go Go.Kn Go.Proofs
def pkS {α : Type} (ks : List α) (seen : List Nat) : List α := seen.filterMap fun i => ks[i]?
theorem kmap_at {α : Type} {ks : List α} {i : Nat} {q : α × Bool} (h : (kmap ks)[i]? = some q) : ks[i]? = some q.1 ∧ q.2 = true := by
  unfold kmap at h
  rw [List.getElem?_map, Option.map_eq_some_iff] at h
  obtain ⟨a, h1, rfl⟩ := h
  exact ⟨h1, rfl⟩
theorem kmap_len {α : Type} (ks : List α) : (kmap ks).length = ks.length := by unfold kmap; simp
theorem pkS_snoc {α : Type} {ks : List α} {seen : List Nat} {i : Nat} {q : α × Bool} (h : (kmap ks)[i]? = some q) : pkS ks (seen ++ [i]) = pkS ks seen ++ [q.1] := by
  unfold pkS; rw [List.filterMap_append]; simp [(kmap_at h).1]
theorem pkS_len {α : Type} {ks : List α} {seen : List Nat} (hnd : seen.Nodup) (hlt : ∀ i ∈ seen, i < (kmap ks).length) : (pkS ks seen).length ≤ ks.length := by
  have := seen_lt (m := kmap ks) hnd hlt
  rw [kmap_len] at this
  exact Nat.le_trans (List.length_filterMap_le _ _) this
theorem pkS_all {α : Type} {ks : List α} {seen : List Nat} (hnd : seen.Nodup) (hlt : ∀ i ∈ seen, i < (kmap ks).length) (hall : ∀ (i : Nat) (p : α × Bool), (kmap ks)[i]? = some p → i ∈ seen) : (pkS ks seen).Perm ks := by
  have h1 := seen_perm hnd hlt hall
  rw [kmap_len] at h1
  have h2 := h1.filterMap fun i => ks[i]?
  rw [range_all] at h2
  exact h2
theorem seen_more {seen : List Nat} {i n : Nat} (hnd : seen.Nodup) (hlt : ∀ j ∈ seen, j < n) (hns : i ∉ seen) (hi : i < n) : (seen ++ [i]).Nodup ∧ ∀ j ∈ seen ++ [i], j < n :=
  ⟨List.nodup_append.2 ⟨hnd, by simp, fun a ha b hb e => hns (by simp at hb; subst hb; subst e; exact ha)⟩, fun j hj => (List.mem_append.1 hj).elim (hlt j) fun h => by simp at h; subst h; exact hi⟩
/-- Sorted keys of a set: what is broken, in order. -/
theorem sorted_brk {c : Cr} {pl : List Int} {ks zs : List Br} (hnd : ks.Nodup) (hm : ∀ b, b ∈ ks ↔ b ∈ brkL c pl) (hp : zs.Perm ks) (hs : zs.Pairwise fun x y => ¬ cmpB y x < 0) : zs = brkL c pl := by
  refine lex_one ?_ (brkL_lt c pl) fun b => (hp.mem_iff).trans (hm b)
  have hn := hp.nodup_iff.2 hnd
  refine List.Pairwise.imp (R := fun x y => ¬ cmpB y x < 0 ∧ x ≠ y) (fun {a b} h => ?_) (List.Pairwise.and hs hn)
  rcases ltB_tri a b with g | g | g
  · exact g
  · exact absurd g h.2
  · exact absurd ((cmpB_lt b a).2 g) h.1
instance : Inhabited Br := ⟨⟨0, 0, 0⟩⟩
theorem swoB : Go.Sort.SWO (Go.Proofs.ltOf cmpB) := by
  have nt : ∀ a b : Br, ¬ cmpB a b < 0 ↔ ¬ ltB a b := fun a b => not_congr (cmpB_lt a b)
  refine ⟨fun x => ?_, fun x y z h1 h2 => ?_, fun x y z h1 h2 => ?_⟩
  · unfold Go.Proofs.ltOf; exact decide_eq_false ((nt x x).2 (ltB_irr x))
  · unfold Go.Proofs.ltOf at *
    exact decide_eq_true ((cmpB_lt _ _).2 (ltB_trans ((cmpB_lt _ _).1 (of_decide_eq_true h1)) ((cmpB_lt _ _).1 (of_decide_eq_true h2))))
  · unfold Go.Proofs.ltOf at *
    refine decide_eq_false ((nt _ _).2 fun h => ?_)
    have h1 := (nt _ _).1 (of_decide_eq_false h1)
    have h2 := (nt _ _).1 (of_decide_eq_false h2)
    unfold ltB at *
    omega
end Go.Proofs.YtclkmnidgdkekaaGreat
end
section
namespace Go.Proofs.YtclkmnidgdkekaaGreat
open Go Go.Kn Go.Proofs
theorem key_98 : KeyOK (α := Br) Tryz.prog 98 encBrA := key_flat2 (enc := encBr) eqt2_98 (fun _ => rfl) (fun a b => (show eqKs _ (encBr a) (encBr b) = some (a.r == b.r && (a.d == b.d && (a.w == b.w && true))) from rfl).trans (congrArg some (by rw [Bool.eq_iff_iff, decide_eq_true_eq]; obtain ⟨r, d, w⟩ := a; obtain ⟨r', d', w'⟩ := b; simp))) (fun a => by simp [encBr, Instr.sameBits])
theorem w_keys (I : HMap) (r : Nat) : RetM Tryz.prog 78 [.map (some r)] I [] (fun v I' L => L = [] ∧ ∃ b1, v = .func (.func 106) #[] [capP b1].toArray ∧ I' b1 = some (.cells #[.map (some r)] 133 (0, 0))) := by
 intro g H w hw
 refine enter Tryz.func78 rfl Tryz.ntmps78 rfl hw ?_
 have hIc := HLe.refl I
 refine zR ?_
 refine XO_box rfl rfl rfl (fun b_1 => ?_)
 refine zA ?_
 refine zN ?_
 refine X_seq ?_
 refine X_freeze .here (fun I1 hI1 hb1 => ?_)
 have hIc := hIc.trans hI1
 have h1 := hb1
 refine X_region ?_
 refine zV (ev_makeFunc (us := []) (vs := [_]) rfl rfl) ?_
 refine zA ?_
 refine zN ?_
 refine X_ret ?_
 exact at_ret1 rfl rfl (fun w hw => ⟨_, I1, [], rfl, hIc, hw.drop, rfl, b_1, rfl, h1⟩)
theorem w_keysIt (I : HMap) {r : Nat} {ks : List Br} (hm : I r = some (mapO encBrA Value.bool (kmap ks))) (hk9 : ks.length ≤ 100000) {b1 : Nat} (h1 : I b1 = some (.cells #[.map (some r)] 133 (0, 0))) : SeqG Tryz.prog 106 [capP b1] I [] encBrA (fun l => l.length ≤ ks.length) (fun l => l.Perm ks) := by
 intro g y J Jx hY I0 H w h0 hJ hw
 have hm := h0 _ _ hm
 have h1 := h0 _ _ h1
 refine enter Tryz.func106 rfl Tryz.ntmps106 rfl hw ?_
 refine zR ?_
 refine zV (ev_load rfl sct_133 (fun hg => by exact Cell.imm h1 rfl)) ?_
 refine XO_range (ek := encBrA) (ev := Value.bool) (m := kmap ks) rfl mpt_133 rfl rfl (.inl hm) (fun b_5 => ?_)
 refine zN ?_
 refine X_block ?_
 refine X_loopH (fun m E I' H' loc' => ∃ (seen : List Nat) (pre : List Br), m = ks.length - seen.length ∧ E = [(0, .func (.yield y) #[] #[]), (1, capP b1), (5, capP b_5)] ∧ loc' = [(b_5, iterO r (kmap ks).length seen)] ∧ HLe I0 I' ∧ seen.Nodup ∧ (∀ i ∈ seen, i < (kmap ks).length) ∧ pre = pkS ks seen ∧ J pre I' H') _ _ _ ⟨[], [], rfl, rfl, rfl, HLe.refl _, .nil, (fun i h => by cases h), rfl, hJ⟩ (.cons rfl (.cons rfl (.cons rfl .nil))) rfl ?_
 rintro m E I' H' loc' ⟨seen, pre, rfl, rfl, rfl, hI1, hnd, hlt, hpre, hJk⟩
 have hm := hI1 _ _ hm
 have h1 := hI1 _ _ h1
 have hI0 := h0.trans hI1
 have hsl := seen_lt hnd hlt
 rw [kmap_len] at hsl
 refine zR ?_
 refine XO_next2 (ek := encBrA) (ev := Value.bool) (m := kmap ks) (fun s' => [(b_5, iterO r (kmap ks).length s')]) rfl (fun s' => .here) rfl rfl rfl rfl rfl (.inl hm) (by simp) ?_
 intro t tv s' hno hyes
 refine zN ?_
 refine X_seq ?_
 refine zI ?_ ?_ <;> intro hc7
 ·
  obtain ⟨i, q, hq, hns, rfl⟩ := hyes hc7
  obtain ⟨hnd2, hlt2⟩ := seen_more hnd hlt hns (List.getElem?_eq_some_iff.1 hq).1
  have hok : (pre ++ [q.1]).length ≤ ks.length := by rw [hpre, ← pkS_snoc hq]; exact pkS_len hnd2 hlt2
  refine X_skip ?_
  refine at_then ?_
  refine X_block ?_
  refine zR ?_
  refine zV (ev_entry (ek := encBrA) (ev := Value.bool) (m := kmap ks) (p := q) (seen := seen) (i := i) rfl (.inl hm) (.inr (by simp)) hq) ?_
  refine zE ?_
  refine XO_alloc zt_98 rfl rfl (fun b_3 => ?_)
  refine XO_storeA rfl rfl szt_98 rfl rfl rfl rfl (by repeat (first | exact Upd.here | apply Upd.there | apply upd_app)) ?_
  refine zN (zR ?_)
  refine zM ?_
  refine zV (ev_loadA rfl agt_98 (fun hg => by first | (repeat (first | exact Cells.here | exact Cells.s0 (vs := [_, _, _]) rfl | apply Cells.there | apply Cells.app))) rfl) ?_
  refine XO_yield0 (vs := [_]) (Post := fun b I2 H2 => if b then J (pre ++ [q.1]) I2 H2 else Jx (pre ++ [q.1]) I2 H2) rfl rfl rfl rfl (hY pre q.1 _ _ hok hI0 hJk) ?_
  rintro t_12 I2 H2 hI2 hP2
  refine zO ?_
  refine zN ?_
  refine zI ?_ ?_ <;> intro hc13
  ·
   have ht : t_12 = false := by simpa using hc13
   subst ht
   have hJ2 : Jx (pre ++ [q.1]) I2 H2 := hP2
   refine X_ret ?_
   refine at_block_r ?_
   refine at_then_r ?_
   refine at_block_r ?_
   exact at_ret0 rfl (fun w hw => ⟨_, I2, H2, rfl, hI1.trans hI2, hw.drop, .inr ⟨_, hJ2⟩⟩)
  have ht : t_12 = true := by simpa using hc13
  subst ht
  have hJ2 : J (pre ++ [q.1]) I2 H2 := hP2
  refine X_skip ?_
  refine at_block_n ?_
  exact at_metH2 rfl rfl rfl _ [(b_5, iterO r (kmap ks).length (seen ++ [i]))] ⟨ks.length - (seen ++ [i]).length, by have := seen_lt hnd2 hlt2; rw [kmap_len] at this; rw [List.length_append, List.length_singleton] at *; omega, seen ++ [i], pre ++ [q.1], rfl, rfl, rfl, hI1.trans hI2, hnd2, hlt2, by rw [hpre, pkS_snoc hq], hJ2⟩ (.cons rfl (.cons rfl (.cons rfl .nil))) (.drop .refl)
 obtain ⟨rfl, hall⟩ := hno hc7
 refine X_exit ?_
 refine at_then_e ?_
 refine at_then_e ?_
 refine at_block_hit ?_
 first
 | exact at_norm (at_ret0 rfl (fun w hw => ⟨_, I', H', rfl, hI1, hw.drop, .inl ⟨_, by rw [hpre]; exact pkS_all hnd hlt hall, hJk⟩⟩))
theorem w_appendSeqB {I : HMap} {f : Nat} {cap : List Value} {ks : List Br} (hF : Fun Tryz.prog f) (hseq : SeqG Tryz.prog f cap I [] encBrA (fun l => l.length ≤ ks.length) (fun l => l.Perm ks)) (hk9 : ks.length ≤ 100000) : RetM Tryz.prog 116 [.slice none 0 0, .func (.func f) #[] cap.toArray] I [] ((fun v I' L => ∃ zs : List Br, zs.Perm ks ∧ OwnS 98 3 v ks.length (zs.flatMap encBr) L)) := by
 intro g H w hw
 refine enterMs Tryz.func116 rfl Tryz.ntmps116 rfl hw ?_
 refine zR ?_
 refine XO_box rfl rfl rfl (fun b_2 => ?_)
 refine zA ?_
 refine zN ?_
 refine X_seq ?_
 refine zR ?_
 refine zM ?_
 refine zN ?_
 refine X_block ?_
 refine X_rangeFuncGM (ms := []) (K := []) (L := [(b_2, .cells #[.slice none 0 0] 96 (0, 0))]) (enc := encBrA) (fun pre I' loc' => ∃ (v : Value) (q : Nat) (L : Go.Kn.Loc), loc' = L ++ [(b_2, .cells #[v] 96 (0, 0))] ∧ OwnS 98 3 v q (pre.flatMap encBr) L ∧ q = pre.length) (fun _ _ _ _ => False) (fun pre x E2 I2 loc2 => ∃ (v : Value) (q : Nat) (L : Go.Kn.Loc) (b5 : Nat), E2 = [(2, capP b_2), (5, capP b5)] ∧ loc2 = (b5, .cells (encBr x).toArray 98 (0, 0)) :: (L ++ [(b_2, .cells #[v] 96 (0, 0))]) ∧ OwnS 98 3 v q (pre.flatMap encBr) L ∧ q = pre.length) rfl hF hseq rfl ⟨_, 0, [], rfl, OwnS.nil, rfl⟩ ?_ ?_ ?_ ?_
 ·
  rintro l9 pre x I1 loc1 H1 hpre hI1 ⟨v, q, L, rfl, hO, hq⟩
  refine X_region ?_
  refine XO_alloc zt_98 rfl rfl (fun b_5 => ?_)
  refine XO_storeA rfl rfl szt_98 rfl rfl rfl rfl (by repeat (first | exact Upd.here | apply Upd.there | apply upd_app)) ?_
  refine XO_nil ?_
  exact at_met' _ ⟨HLe.refl _, v, q, L, b_5, rfl, rfl, hO, hq⟩ (.cons rfl (.cons rfl .nil))
 ·
  rintro l9 pre x E2 I2 loc2 H2 hpre hI2 ⟨v, q, L, b5, rfl, rfl, hO, hq⟩
  simp only [List.length_append, List.length_singleton] at hpre
  refine X_block ?_
  refine X_region ?_
  refine zV (ev_load rfl sct_96 (fun hg => by exact Cell.there (Cell.app (Cell.here rfl)))) ?_
  refine zV (ev_loadA rfl agt_98 (fun hg => by first | (repeat (first | exact Cells.here | exact Cells.s0 (vs := [_, _, _]) rfl | apply Cells.there | apply Cells.app))) rfl) ?_
  refine XO_buildSlice (ps := [(0, _)]) (m := [encBr x]) elt_96 rfl (.cons rfl (.nil)) rfl (by simp [encBr_len]) (by decide) (by decide) rfl rfl (fun b_10 => ?_)
  refine XO_append (v := _) (ys := [x].flatMap encBr) (L := L) rfl rfl elt_96 hO (by repeat (first | exact .cons .here .nil | exact split_all | exact split_app | apply split_cons | apply split_skip)) ⟨rfl, fun _ => rfl, by repeat (first | exact Cells.here | apply Cells.there | apply Cells.app)⟩ (one_Br _) (by omega) rfl rfl ?_
  intro v9 L9 hO9 _; rw [← List.flatMap_append] at hO9
  refine XO_store rfl rfl szt_96 hO9.one rfl (by repeat (first | exact Upd.here | apply Upd.there | apply upd_app)) rfl ?_
  refine XO_nil ?_
  refine at_block_n ?_
  exact at_round2 (loc' := L9 ++ [(b_2, _)]) ⟨HLe.refl _, v9, q + 1, L9, rfl, hO9, by rw [List.length_append, List.length_singleton]; omega⟩ (by repeat (first | exact .refl | exact subL_left | refine subL_app ?_ | refine .drop ?_ | refine .keep ?_ | refine subL_add ?_))
 ·
  rintro bd I1 loc1 xs hfin hI1 ⟨v, q, L, rfl, hO, hq⟩
  refine at_block_n ?_
  refine at_then ?_
  refine zR ?_
  refine zV (ev_load rfl sct_96 (fun hg => by exact Cell.lft (Cell.app (Cell.here rfl)))) ?_
  refine zA ?_
  refine zN ?_
  refine X_ret ?_
  exact at_retMs (L := L ++ [(b_2, _)]) (ms := [bd]) (fun a ha w hw => res1 rfl rfl a ha w) (fun w hw => ⟨_, I1, L, rfl, hI1, hw.subL subL_left, xs, hfin, by rw [← hfin.length_eq, ← hq]; exact hO⟩)
 rintro cd bd pre I1 loc1 hI1 hF; exact hF.elim
theorem w_collectB {I : HMap} {f : Nat} {cap : List Value} {ks : List Br} (hF : Fun Tryz.prog f) (hseq : SeqG Tryz.prog f cap I [] encBrA (fun l => l.length ≤ ks.length) (fun l => l.Perm ks)) (hk9 : ks.length ≤ 100000) : RetM Tryz.prog 104 [.func (.func f) #[] cap.toArray] I [] ((fun v I' L => ∃ zs : List Br, zs.Perm ks ∧ OwnS 98 3 v ks.length (zs.flatMap encBr) L)) := by
 intro g H w hw
 refine enter Tryz.func104 rfl Tryz.ntmps104 rfl hw ?_
 have hIc := HLe.refl I
 refine zR ?_
 refine zA ?_
 refine zN (zR ?_)
 refine zM ?_
 refine XO_callM (cap := []) (vs := [_, _]) rfl rfl fun_116 .nil (w_appendSeqB hF hseq hk9) rfl rfl ?_
 rintro vv1 I1 L1 hI1 ⟨zs, hz, hO⟩
 have hIc := hIc.trans hI1
 rw [List.append_nil]
 refine zA ?_
 refine zN ?_
 refine X_ret ?_
 exact at_ret1 rfl rfl (fun w hw => ⟨_, _, _, rfl, hIc, hw, zs, hz, hO⟩)
end Go.Proofs.YtclkmnidgdkekaaGreat
end
section
namespace Go.Kn
open Go
section
variable {C : Cx} {E : Env} {I : HMap} {loc : Loc} {S : GS} {dst : Option Tmp} {ty : TypeId} {pos : String} {af : Array Edge} {gd : Option (Nat × Bool)} {x y : Operand}
variable {α : Type} [DecidableEq α] {ek : α → Value} {a : α}
/-- A look-up of a number: 0 where there is none. -/
theorem ev_lookupI {m : List (α × Int)} {t k e r : Nat} {ik : IntKind} (hT : MpT C.P t k e (.int ik 0)) (hK : KeyOK C.P k ek) (hx : evalS S E x = some (.map (some r))) (hy : evalS S E y = some (ek a)) (hm : conj S = true → Mem I loc r (mapO ek (Value.int ik) m)) :
    EvalOp C S E I loc ⟨dst, .lookup t x y false, ty, pos, af, gd⟩ (.int ik ((mget m a).getD 0)) := by
  have := ev_lookup (C := C) (S := S) (dst := dst) (ty := ty) (pos := pos) (af := af) (gd := gd) hT hK hx hy hm
  cases h : mget m a with
  | none => rw [h] at this; exact this
  | some b => rw [h] at this; exact this
end
def ImmC (I : HMap) (b : Nat) (o : Obj) : Prop := I b = some o
theorem ImmC.of {I : HMap} {b : Nat} {o : Obj} (h : I b = some o) : ImmC I b o := h
theorem ImmC.mono {I I' : HMap} {b : Nat} {o : Obj} (h : ImmC I b o) (hI : HLe I I') : ImmC I' b o := hI _ _ h
theorem Cells.immC {I : HMap} {loc : Loc} {b : Nat} {vs : List Value} {t : TypeId} {fz : Nat × Nat} (h : ImmC I b (.cells vs.toArray t fz)) : Cells I loc b 0 vs := fun j u hu => Cell.imm h (by rw [Nat.zero_add, lget_eq]; simpa using hu)
end Go.Kn
namespace Go.Proofs.YtclkmnidgdkekaaGreat
open Go Go.Kn Go.Proofs
structure SetI {α : Type} (ks : List α) (P : α → Prop) : Prop where
  nd : ks.Nodup
  is : ∀ b, b ∈ ks ↔ P b
theorem SetI.congr {α : Type} {ks : List α} {P Q : α → Prop} (h : SetI ks P) (e : ∀ b, P b ↔ Q b) : SetI ks Q := ⟨h.nd, fun b => (h.is b).trans (e b)⟩
theorem SetI.nil {α : Type} {P : α → Prop} (h : ∀ b, ¬ P b) : SetI ([] : List α) P := ⟨List.nodup_nil, fun b => ⟨(fun g => by cases g), fun g => (h b g).elim⟩⟩
theorem SetI.put {α : Type} [DecidableEq α] {ks : List α} {P Q : α → Prop} (h : SetI ks P) {a : α} (e : ∀ b, (P b ∨ b = a) ↔ Q b) : SetI (insS ks a) Q := ⟨insS_nodup h.nd, fun b => by rw [mem_insS, h.is]; exact e b⟩
/-! ### Needs -/
def NdK (c : Cr) (pl : List Int) (k : Nat) (b : Br) : Prop := b.r = 1 ∧ ∃ q ∈ (pl.zip c.ss).take k, q.1 = b.d ∧ b.w ∈ q.2.needs ∧ pl.getD b.w.toNat 0 ≥ b.d
def NdJ (c : Cr) (pl : List Int) (k : Nat) (d : Int) (s : Ses) (j : Nat) (b : Br) : Prop := NdK c pl k b ∨ (b.r = 1 ∧ b.d = d ∧ b.w ∈ s.needs.take j ∧ pl.getD b.w.toNat 0 ≥ d)
theorem ndK_0 {c : Cr} {pl : List Int} (b : Br) : ¬ NdK c pl 0 b := by rintro ⟨_, q, hq, _⟩; simp at hq
theorem ndJ_0 {c : Cr} {pl : List Int} {k : Nat} {d : Int} {s : Ses} (b : Br) : NdK c pl k b ↔ NdJ c pl k d s 0 b := by unfold NdJ; simp
theorem ndJ_end {c : Cr} {pl : List Int} {k j : Nat} {d : Int} {s : Ses} (h : pl[k]? = some d) (hs : c.ss[k]? = some s) (hj : s.needs.length ≤ j) (b : Br) : NdJ c pl k d s j b ↔ NdK c pl (k + 1) b := by
  unfold NdJ NdK
  rw [List.take_of_length_le hj, List.take_add_one, show (pl.zip c.ss)[k]? = some (d, s) from List.getElem?_zip_eq_some.2 ⟨h, hs⟩]
  simp only [Option.toList_some, List.mem_append, List.mem_singleton]
  constructor
  · rintro (⟨h1, q, hq, h2⟩ | ⟨h1, h2, h3, h4⟩)
    · exact ⟨h1, q, .inl hq, h2⟩
    · exact ⟨h1, (d, s), .inr rfl, h2.symm, h3, by rw [h2]; exact h4⟩
  · rintro ⟨h1, q, hq | rfl, h2⟩
    · exact .inl ⟨h1, q, hq, h2⟩
    · have e : d = b.d := h2.1
      exact .inr ⟨h1, e.symm, h2.2.1, by rw [e]; exact h2.2.2⟩
theorem ndJ_yes {c : Cr} {pl : List Int} {k j : Nat} {d n : Int} {s : Ses} (hn : s.needs[j]? = some n) (h : pl.getD n.toNat 0 ≥ d) (b : Br) : (NdJ c pl k d s j b ∨ b = ⟨1, d, n⟩) ↔ NdJ c pl k d s (j + 1) b := by
  unfold NdJ
  rw [List.take_add_one, hn]
  simp only [Option.toList_some, List.mem_append, List.mem_singleton]
  constructor
  · rintro ((h1 | ⟨h1, h2, h3, h4⟩) | rfl)
    · exact .inl h1
    · exact .inr ⟨h1, h2, .inl h3, h4⟩
    · exact .inr ⟨rfl, rfl, .inr rfl, h⟩
  · rintro (h1 | ⟨h1, h2, h3 | h3, h4⟩)
    · exact .inl (.inl h1)
    · exact .inl (.inr ⟨h1, h2, h3, h4⟩)
    · obtain ⟨r, e, w⟩ := b; simp only at h1 h2 h3; subst h1 h2 h3; exact .inr rfl
theorem ndJ_no {c : Cr} {pl : List Int} {k j : Nat} {d n : Int} {s : Ses} (hn : s.needs[j]? = some n) (h : ¬ pl.getD n.toNat 0 ≥ d) (b : Br) : NdJ c pl k d s j b ↔ NdJ c pl k d s (j + 1) b := by
  unfold NdJ
  rw [List.take_add_one, hn]
  simp only [Option.toList_some, List.mem_append, List.mem_singleton]
  constructor
  · rintro (h1 | ⟨h1, h2, h3, h4⟩)
    · exact .inl h1
    · exact .inr ⟨h1, h2, .inl h3, h4⟩
  · rintro (h1 | ⟨h1, h2, h3 | h3, h4⟩)
    · exact .inl h1
    · exact .inr ⟨h1, h2, h3, h4⟩
    · rw [h3] at h4; exact absurd h4 h
/-! ### Day by day -/
def InB (c : Cr) (pl : List Int) (k : Nat) (b : Br) : Prop := b ∈ brkL c pl ∧ (b.r = 1 ∨ b.d < (k : Int))
def InC (c : Cr) (pl : List Int) (k : Nat) (b : Br) : Prop := InB c pl k b ∨ (b = ⟨2, k, 0⟩ ∧ brk c pl b = true)
def SeenK (m : List (Int × Int)) (seen : List Nat) (p : Int) : Prop := ∃ i ∈ seen, ∃ q, m[i]? = some q ∧ q.1 = p
def InD (c : Cr) (pl : List Int) (k : Nat) (m : List (Int × Int)) (seen : List Nat) (b : Br) : Prop := InC c pl k b ∨ ((3 ≤ b.r ∧ b.r ≤ 5) ∧ b.d = (k : Int) ∧ SeenK m seen b.w ∧ brk c pl b = true)
def InE (c : Cr) (pl : List Int) (k : Nat) (m : List (Int × Int)) (seen : List Nat) (p : Int) (j : Int) (b : Br) : Prop := InD c pl k m seen b ∨ ((3 ≤ b.r ∧ b.r < 3 + j) ∧ b.d = (k : Int) ∧ b.w = p ∧ brk c pl b = true)
theorem ndK_all {c : Cr} (hc : rightF c = true) (h8 : c.ss.length ≤ 8) {pl : List Int} (hin : InR c pl) {k : Nat} (hk : pl.length ≤ k) (b : Br) : NdK c pl k b ↔ InB c pl 0 b := by
  unfold NdK InB
  rw [List.take_of_length_le (by rw [List.length_zip]; omega), mem_brkL]
  constructor
  · rintro ⟨h1, q, hq, h2, h3, h4⟩
    obtain ⟨i, g1, g2⟩ := mem_zip hq
    have hr := hin _ (List.mem_of_getElem? g1)
    have hn := (right_ses hc g2).needs _ h3
    have hi := (List.getElem?_eq_some_iff.1 g2).1
    refine ⟨⟨⟨⟨by omega, by omega⟩, by omega, by omega⟩, ?_⟩, .inl h1⟩
    unfold brk needF
    rw [if_pos h1]
    refine List.any_eq_true.2 ⟨q, hq, ?_⟩
    simp only [Bool.and_eq_true, beq_iff_eq, decide_eq_true_eq]
    exact ⟨⟨h2, cont_iff.2 h3⟩, h4⟩
  · rintro ⟨⟨⟨h1, h2, h3⟩, hb⟩, h4⟩
    have hr : b.r = 1 := by omega
    refine ⟨hr, ?_⟩
    unfold brk needF at hb
    rw [if_pos hr] at hb
    obtain ⟨q, hq, hp⟩ := List.any_eq_true.1 hb
    simp only [Bool.and_eq_true, beq_iff_eq, decide_eq_true_eq] at hp
    exact ⟨q, hq, hp.1.1, cont_iff.1 hp.1.2, hp.2⟩
theorem inB_all {c : Cr} {pl : List Int} {k : Nat} (hk : c.days.length ≤ k) (b : Br) : InB c pl k b ↔ b ∈ brkL c pl := by
  unfold InB
  constructor
  · exact fun h => h.1
  · intro h; have := (mem_brkL.1 h).1; exact ⟨h, .inr (by omega)⟩
theorem inC_yes {c : Cr} {pl : List Int} {k : Nat} (h : brk c pl ⟨2, k, 0⟩ = true) (b : Br) : (InB c pl k b ∨ b = ⟨2, k, 0⟩) ↔ InC c pl k b := by
  unfold InC
  constructor
  · rintro (h1 | rfl)
    · exact .inl h1
    · exact .inr ⟨rfl, h⟩
  · rintro (h1 | ⟨h1, _⟩)
    · exact .inl h1
    · exact .inr h1
theorem inC_no {c : Cr} {pl : List Int} {k : Nat} (h : brk c pl ⟨2, k, 0⟩ = false) (b : Br) : InB c pl k b ↔ InC c pl k b := by
  unfold InC
  constructor
  · exact .inl
  · rintro (h1 | ⟨rfl, h2⟩)
    · exact h1
    · rw [h] at h2; cases h2
theorem inD_0 {c : Cr} {pl : List Int} {k : Nat} {m : List (Int × Int)} (b : Br) : InC c pl k b ↔ InD c pl k m [] b := by
  unfold InD SeenK; simp
theorem inE_0 {c : Cr} {pl : List Int} {k : Nat} {m : List (Int × Int)} {seen : List Nat} {p : Int} (b : Br) : InD c pl k m seen b ↔ InE c pl k m seen p 0 b := by
  unfold InE
  constructor
  · exact .inl
  · rintro (h | ⟨h, _⟩)
    · exact h
    · omega
theorem inE_yes {c : Cr} {pl : List Int} {k : Nat} {m : List (Int × Int)} {seen : List Nat} {p r j j' : Int} (h1 : r = 3 + j) (h2 : j' = j + 1) (hj : 0 ≤ j) (h : brk c pl ⟨r, k, p⟩ = true) (b : Br) : (InE c pl k m seen p j b ∨ b = ⟨r, k, p⟩) ↔ InE c pl k m seen p j' b := by
  subst h1 h2
  unfold InE
  constructor
  · rintro ((h1 | ⟨h1, h2⟩) | rfl)
    · exact .inl h1
    · exact .inr ⟨by omega, h2⟩
    · exact .inr ⟨⟨by show 3 ≤ 3 + j; omega, by show 3 + j < 3 + (j + 1); omega⟩, rfl, rfl, h⟩
  · rintro (h1 | ⟨h1, h2, h3, h4⟩)
    · exact .inl (.inl h1)
    · by_cases e : b.r = 3 + j
      · obtain ⟨r, d, w⟩ := b; simp only at e h2 h3; subst e h2 h3; exact .inr rfl
      · exact .inl (.inr ⟨by omega, h2, h3, h4⟩)
theorem inE_no {c : Cr} {pl : List Int} {k : Nat} {m : List (Int × Int)} {seen : List Nat} {p r j j' : Int} (h1 : r = 3 + j) (h2 : j' = j + 1) (h : brk c pl ⟨r, k, p⟩ = false) (b : Br) : InE c pl k m seen p j b ↔ InE c pl k m seen p j' b := by
  subst h1 h2
  unfold InE
  constructor
  · rintro (h1 | ⟨h1, h2⟩)
    · exact .inl h1
    · exact .inr ⟨by omega, h2⟩
  · rintro (h1 | ⟨h1, h2, h3, h4⟩)
    · exact .inl h1
    · by_cases e : b.r = 3 + j
      · obtain ⟨r, d, w⟩ := b; simp only at e h2 h3; subst e h2 h3; rw [h] at h4; cases h4
      · exact .inr ⟨by omega, h2, h3, h4⟩
theorem inE_end {c : Cr} {pl : List Int} {k : Nat} {m : List (Int × Int)} {seen : List Nat} {i : Nat} {q : Int × Int} (hq : m[i]? = some q) (b : Br) : InE c pl k m seen q.1 3 b ↔ InD c pl k m (seen ++ [i]) b := by
  unfold InE InD
  have hs : SeenK m (seen ++ [i]) b.w ↔ SeenK m seen b.w ∨ b.w = q.1 := by
    unfold SeenK
    constructor
    · rintro ⟨x, hx, r, h1, h2⟩
      rcases List.mem_append.1 hx with hx | hx
      · exact .inl ⟨x, hx, r, h1, h2⟩
      · simp at hx; subst hx; rw [hq] at h1; cases h1; exact .inr h2.symm
    · rintro (⟨x, hx, r, h1, h2⟩ | h)
      · exact ⟨x, by simp [hx], r, h1, h2⟩
      · exact ⟨i, by simp, q, hq, h.symm⟩
  rw [hs]
  constructor
  · rintro ((h1 | ⟨h1, h2, h3, h4⟩) | ⟨h1, h2, h3, h4⟩)
    · exact .inl h1
    · exact .inr ⟨h1, h2, .inl h3, h4⟩
    · exact .inr ⟨by omega, h2, .inr h3, h4⟩
  · rintro (h1 | ⟨h1, h2, h3 | h3, h4⟩)
    · exact .inl (.inl h1)
    · exact .inl (.inr ⟨h1, h2, h3, h4⟩)
    · exact .inr ⟨by omega, h2, h3, h4⟩
/-- A day is done. -/
theorem inD_end {c : Cr} (hc : rightF c = true) {pl : List Int} (hin : InR c pl) {k : Nat} (hk : k < c.days.length) {seen : List Nat} (hall : ∀ (i : Nat) (p : Int × Int), (cntM (peoL c pl k))[i]? = some p → i ∈ seen) (b : Br) : InD c pl k (cntM (peoL c pl k)) seen b ↔ InB c pl (k + 1) b := by
  have hh := head_ok hc
  have hda := hh.da
  have hlo := hh.lo
  unfold InD InC InB
  constructor
  · rintro ((⟨h1, h2⟩ | ⟨rfl, h2⟩) | ⟨h1, h2, ⟨i, hi, q, hq, hq2⟩, h4⟩)
    · exact ⟨h1, by omega⟩
    · exact ⟨mem_brkL.2 ⟨⟨⟨by show (1 : Int) ≤ 2; omega, by show (2 : Int) ≤ 5; omega⟩, ⟨by show (0 : Int) ≤ k; omega, by show (k : Int) < c.days.length; omega⟩, by show (0 : Int) ≤ 0 ∧ (0 : Int) < 64; omega⟩, h2⟩, .inr (by show (k : Int) < ((k + 1 : Nat) : Int); omega)⟩
    · have hkey := (cntM_key _ _).1 (List.mem_map_of_mem (f := (·.1)) (List.mem_of_getElem? hq))
      obtain ⟨e, he, he2⟩ := cntE_pos.1 hkey
      obtain ⟨z, hz, g1, g2, g3⟩ := mem_peo.1 he
      obtain ⟨i', g4, g5⟩ := mem_zip hz
      have hw := (right_ses hc g5).who _ g2
      rw [he2, hq2] at hw
      exact ⟨mem_brkL.2 ⟨⟨by omega, by omega, by omega⟩, h4⟩, .inr (by omega)⟩
  · rintro ⟨h1, h2⟩
    by_cases e1 : b.r = 1 ∨ b.d < (k : Int)
    · exact .inl (.inl ⟨h1, e1⟩)
    · have hd : b.d = (k : Int) := by omega
      obtain ⟨⟨hr, hd2, hw⟩, hb⟩ := mem_brkL.1 h1
      by_cases e2 : b.r = 2
      · refine .inl (.inr ⟨?_, hb⟩)
        have hb' := hb
        unfold brk at hb'
        rw [if_neg (by omega), if_pos e2] at hb'
        simp only [Bool.and_eq_true, beq_iff_eq] at hb'
        obtain ⟨r, d, w⟩ := b
        simp only at e2 hd hb'
        rw [e2, hd, hb'.1]
      · refine .inr ⟨by omega, hd, ?_, hb⟩
        have hpos : 0 < cntE (peoL c pl k) b.w := by
          rw [(peo_cnt hc).1, ← hd]
          have hb' := hb
          unfold brk at hb'
          rw [if_neg (by omega), if_neg e2] at hb'
          split at hb'
          · simp only [decide_eq_true_eq] at hb'; omega
          split at hb'
          · simp only [decide_eq_true_eq] at hb'
            unfold cntF
            by_cases e : (onD c pl b.d).filter (fun s => s.who.contains b.w) = []
            · unfold effF at hb'; rw [e] at hb'; simp at hb'; omega
            · have := List.length_pos_iff.2 e; omega
          split at hb'
          · rw [run_rows hc, Bool.and_eq_true] at hb'
            rw [← (evs_cnt hc hin hd2).1]
            rw [← evs_busy] at hb'
            have := of_decide_eq_true hb'.1
            exact this
          · cases hb'
        have := (cntM_key _ _).2 hpos
        obtain ⟨q, hq, e⟩ := List.mem_map.1 this
        obtain ⟨i, hi⟩ := List.mem_iff_getElem?.1 hq
        exact ⟨i, hall i q hi, q, hi, e⟩
theorem brk_2 {c : Cr} {pl : List Int} {k : Int} : brk c pl ⟨2, k, 0⟩ = decide (manyF pl k > c.st) := by unfold brk; simp
theorem brk_3 {c : Cr} (hc : rightF c = true) {pl : List Int} {k p : Int} : brk c pl ⟨3, k, p⟩ = decide (cntE (peoL c pl k) p > c.da) := by rw [(peo_cnt hc).1]; unfold brk; simp
theorem brk_4 {c : Cr} (hc : rightF c = true) {pl : List Int} {k p : Int} : brk c pl ⟨4, k, p⟩ = decide (sumE (peoL c pl k) p > c.lo) := by rw [(peo_cnt hc).2]; unfold brk; simp
theorem brk_5 {c : Cr} (hc : rightF c = true) {pl : List Int} (hin : InR c pl) {k : Nat} (hk : k < c.days.length) {p row : Int} (hp : bsyK c pl (k + 1) p (dayF c k) = true) (h1 : 1 ≤ row) (h0 : ∀ j : Int, 1 ≤ j → j < row → bsyK c pl (k + 1) p (dayF c k - j) = true) (he : bsyK c pl (k + 1) p (dayF c k - row) = false) : brk c pl ⟨5, k, p⟩ = decide (row > c.ru) := by
  have e : brk c pl ⟨5, k, p⟩ = runF c pl k p := by unfold brk; simp
  have hb := bsyK_busy hc hin hk (p := p) (j := 0) (by omega)
  rw [Int.sub_zero, hp] at hb
  rw [e, run_rows hc, ← hb, Bool.true_and]
  refine (row_end (f := fun j => busyF c pl (dayF c k - j) p) (fun j g1 g2 => ?_) h1 ?_).symm
  · show busyF c pl (dayF c k - j) p = true
    rw [← bsyK_busy hc hin hk (by omega)]; exact h0 j g1 g2
  · show busyF c pl (dayF c k - row) p = false
    rw [← bsyK_busy hc hin hk (by omega)]; exact he
theorem peo_len {c : Cr} (h8 : c.ss.length ≤ 8) (hw : ∀ s ∈ c.ss, s.who.length ≤ 6) {pl : List Int} {d : Int} : (peoL c pl d).length ≤ 48 := by
  have key : ∀ zs : List (Int × Ses), (∀ q ∈ zs, q.2.who.length ≤ 6) → ((zs.filter fun q => q.1 == d).flatMap fun q => q.2.who.map fun p => (p, q.2.ef)).length ≤ 6 * zs.length := by
    intro zs
    induction zs with
    | nil => intro _; simp
    | cons q zs ih =>
      intro h
      have h1 := ih fun x hx => h x (by simp [hx])
      have h2 := h q (by simp)
      rw [List.filter_cons]
      split
      · simp only [List.flatMap_cons, List.length_append, List.length_map, List.length_cons]; omega
      · simp only [List.length_cons]; omega
  unfold peoL peoK
  rw [List.drop_zero]
  have := key (pl.zip c.ss) fun q hq => by obtain ⟨i, _, h2⟩ := mem_zip hq; exact hw _ (List.mem_of_getElem? h2)
  have h2 : (pl.zip c.ss).length ≤ 8 := by rw [List.length_zip]; omega
  omega
theorem peo_ef {c : Cr} (hc : rightF c = true) {pl : List Int} {d : Int} : ∀ e ∈ peoL c pl d, 0 ≤ e.2 ∧ e.2 ≤ 16 := fun e he => by
  obtain ⟨q, hq, _, _, h3⟩ := mem_peo.1 he
  obtain ⟨i, _, h2⟩ := mem_zip hq
  have := (right_ses hc h2).ef
  omega
theorem brkL_len {c : Cr} (h16 : c.days.length ≤ 16) (pl : List Int) : (brkL c pl).length ≤ 5120 := by
  unfold brkL
  refine Nat.le_trans (List.length_filter_le _ _) ?_
  unfold cands
  simp only [List.length_flatMap, List.length_map, List.length_range, List.map_cons, List.map_nil, List.sum_cons, List.sum_nil, List.map_const', List.sum_replicate_nat]
  omega
theorem many_le (pl : List Int) (d : Int) : 0 ≤ manyF pl d ∧ manyF pl d ≤ pl.length := by
  unfold manyF; have := List.length_filter_le (· == d) pl; omega
theorem bsy_of_cnt {c : Cr} {pl : List Int} {k : Nat} {p : Int} (h : 0 < cntE (peoL c pl k) p) : bsyK c pl (k + 1) p (dayF c k) = true := by
  rw [← bsyP_all]
  unfold bsyP
  obtain ⟨e, he, e2⟩ := cntE_pos.1 h
  rw [Bool.or_eq_true, Bool.and_eq_true]
  exact .inr ⟨by simp, List.any_eq_true.2 ⟨e, he, by simpa using e2⟩⟩
theorem set_len {ks ls : List Br} (hs : SetI ks (fun b => b ∈ ls)) (hl : ls.Nodup) : ks.length = ls.length := ((List.perm_ext_iff_of_nodup hs.nd hl).2 hs.is).length_eq
theorem brkL_nodup (c : Cr) (pl : List Int) : (brkL c pl).Nodup := (brkL_lt c pl).imp (S := (· ≠ ·)) fun h e => by subst e; exact ltB_irr _ h
end Go.Proofs.YtclkmnidgdkekaaGreat
end
section
namespace Go.Proofs.YtclkmnidgdkekaaGreat
open Go Go.Kn Go.Proofs
theorem w_sortB (zs : List Br) {v : Value} {n : Nat} {L : Go.Kn.Loc} (hO : OwnS 98 3 v n (zs.flatMap encBr) L) (hn : n ≤ 1000000) (I : HMap) :
  RetM Tryz.prog 105 [v, .func (.func 79) #[] #[]] I L (fun u I' L' => u = .tuple #[] ∧ I' = I ∧ ∃ zs' : List Br, zs'.Perm zs ∧ zs'.Pairwise (fun x y => ¬ cmpB y x < 0) ∧ OwnS 98 3 v n (zs'.flatMap encBr) L') :=
 (retSortK encBr_len (by decide) (fun blk off cap d w hC hH hb hs => Tryz.slices_SortFunc 3 (fun w => run_isAgg_ag agt_98) (fun w => by obtain ⟨i, hi, hz⟩ := szt_98; rw [← hz]; exact Go.Kn.run_sizeOf hi) encBr encBr_len (fun x => allOne_iff (by rfl)) cmpB swoB 79 #[] blk off cap d w (fun args w => run_callFunc fun_79 args w) hC hH hb hs)
  (Tryz.slices_SortFunc_none (α := Br)) (fun I x y => w_cmpB I x y) zs hO hn I).mono fun v I' L' hI ⟨h1, h2, zs', h3, h4, h5⟩ => ⟨h1, h2, zs', h3, h4.imp fun h => of_decide_eq_false h, h5⟩
theorem w_sortedB {I : HMap} {f : Nat} {cap : List Value} {ks : List Br} (hF : Fun Tryz.prog f) (hseq : SeqG Tryz.prog f cap I [] encBrA (fun l => l.length ≤ ks.length) (fun l => l.Perm ks)) (hk9 : ks.length ≤ 100000) : RetM Tryz.prog 77 [.func (.func f) #[] cap.toArray, .func (.func 79) #[] #[]] I [] ((fun v I' L => ∃ zs : List Br, zs.Perm ks ∧ zs.Pairwise (fun x y => ¬ cmpB y x < 0) ∧ OwnS 98 3 v ks.length (zs.flatMap encBr) L)) := by
 intro g H w hw
 refine enter Tryz.func77 rfl Tryz.ntmps77 rfl hw ?_
 have hIc := HLe.refl I
 refine zR ?_
 refine zA ?_
 refine zN (zR ?_)
 refine zM ?_
 refine XO_callM (cap := []) (vs := [_]) rfl rfl fun_104 .nil (w_collectB hF hseq hk9) rfl rfl ?_
 rintro vv1 I1 L1 hI1 ⟨zs, hz, hO⟩
 have hIc := hIc.trans hI1
 rw [List.append_nil]
 refine zA ?_
 refine zN (zR ?_)
 refine zM ?_
 refine zM ?_
 refine XO_callM (cap := []) (vs := [_, _]) rfl rfl fun_105 split_all (w_sortB zs hO (by omega) _) rfl rfl ?_
 rintro vv2 I2 L2 hI2 ⟨rfl, rfl, zs2, hz2, hp2, hO2⟩
 have hIc := hIc.trans hI2
 rw [List.append_nil]
 refine zN (zR ?_)
 refine zM ?_
 refine zA ?_
 refine zN ?_
 refine X_ret ?_
 exact at_ret1 rfl rfl (fun w hw => ⟨_, _, _, rfl, hIc, hw, zs2, hz2.trans hz, hp2, hO2⟩)
theorem w_people (I : HMap) (x : CH) (av : Option Addr) (n c : Nat) (d : Int) : RetM Tryz.prog 76 [encCHA x, .slice av n c, .int .i64 d] I [] (fun v I' L => L = [] ∧ ∃ b1 b2 b3, v = .func (.func 103) #[] [capP b1, capP b2, capP b3].toArray ∧ I' b1 = some (.cells #[.slice av n c] 24 (0, 0)) ∧ I' b2 = some (.cells #[.int .i64 d] 3 (0, 0)) ∧ I' b3 = some (.cells (encCH x).toArray 28 (0, 0))) := by
 intro g H w hw
 refine enter Tryz.func76 rfl Tryz.ntmps76 rfl hw ?_
 have hIc := HLe.refl I
 refine zR ?_
 refine XO_box rfl rfl rfl (fun b_3 => ?_)
 refine XO_box rfl rfl rfl (fun b_4 => ?_)
 refine XO_box rfl rfl rfl (fun b_5 => ?_)
 refine zA ?_
 refine zN ?_
 refine X_seq ?_
 refine X_freeze .here (fun I1 hI1 hb1 => ?_)
 have hIc := hIc.trans hI1
 have h2 := hb1
 refine X_freeze .here (fun I2 hI2 hb2 => ?_)
 have hIc := hIc.trans hI2
 have h1 := hb2
 have h2 := hI2 _ _ h2
 refine X_freeze .here (fun I3 hI3 hb3 => ?_)
 have hIc := hIc.trans hI3
 have h3 := hb3
 have h2 := hI3 _ _ h2
 have h1 := hI3 _ _ h1
 refine X_region ?_
 refine zV (ev_makeFunc (us := []) (vs := [_, _, _]) rfl rfl) ?_
 refine zA ?_
 refine zN ?_
 refine X_ret ?_
 exact at_ret1 rfl rfl (fun w hw => ⟨_, I3, [], rfl, hIc, hw.drop, rfl, b_4, b_5, b_3, rfl, h1, h2, h3⟩)
theorem w_peopleIt {I : HMap} {x : CH} {cr : Cr} (hC : CrAt I x cr) {av : Option Addr} {n c : Nat} {pl : List Int} (hS : Sl I 1 encI av n c pl) (hn : n ≤ 100000) (hl : pl.length ≤ cr.ss.length) (hwh : ∀ s ∈ cr.ss, s.who.length ≤ 100000) {d : Int} {b1 b2 b3 : Nat} (h1 : I b1 = some (.cells #[.slice av n c] 24 (0, 0))) (h2 : I b2 = some (.cells #[.int .i64 d] 3 (0, 0))) (h3 : I b3 = some (.cells (encCH x).toArray 28 (0, 0))) : SeqL2 Tryz.prog 103 [capP b1, capP b2, capP b3] I [] en1P en2P (peoL cr pl d) := by
 intro g y J Jx hY I0 H w h0 hJ hw
 have hC := hC.mono h0; have hS := hS.mono h0
 have h1 := h0 _ _ h1
 have h2 := h0 _ _ h2
 have h3 := h0 _ _ h3
 refine enter Tryz.func103 rfl Tryz.ntmps103 rfl hw ?_
 have hlP := hS.len
 obtain ⟨hD, e1, e2, e3, e4, hss⟩ := id hC
 obtain ⟨hs, hH⟩ := hss
 have hSs := hH.1
 have hlD := hD.len
 have hlS := hH.len
 have hSs0 := hSs
 have hS0 := hS
 have hH0 := hH
 have h10 := h1
 have h20 := h2
 have h30 := h3
 refine zR ?_
 refine zV (ev_load rfl sct_24 (fun hg => by exact Cell.imm h1 rfl)) ?_
 refine zQ slt_24 ?_
 refine zM ?_
 refine zN ?_
 refine X_block ?_
 refine X_loopH (fun m E I' H' loc' => ∃ (k : Nat) (pre : List (Int × Int)), m = n - k ∧ E = [(0, .func (.yield y) #[] #[]), (1, capP b1), (2, capP b2), (3, capP b3), (9, .slice av n c), (10, .int .i64 n), (11, .int .i64 k)] ∧ loc' = [] ∧ HLe I0 I' ∧ k ≤ n ∧ J pre I' H' ∧ peoL cr pl d = pre ++ peoK cr pl d k) _ _ _ ⟨0, [], rfl, rfl, rfl, HLe.refl _, Nat.zero_le _, hJ, rfl⟩ (.cons rfl (.cons rfl (.cons rfl (.cons rfl (.cons rfl (.cons rfl (.cons rfl .nil))))))) rfl ?_
 rintro m E I' H' loc' ⟨k, pre, rfl, rfl, rfl, hI1, hk, hJk, hal⟩
 have hS := hS.mono hI1; have hSs := hSs.mono hI1; have hH := hH.mono hI1
 have h1 := hI1 _ _ h1
 have h2 := hI1 _ _ h2
 have h3 := hI1 _ _ h3
 have hI0 := h0.trans hI1
 refine zR ?_
 refine zC ?_
 refine zN ?_
 refine X_seq ?_
 refine zI ?_ ?_ <;> intro hc12
 ·
  have hlt : k < n := by have h := hc12; simp at h; omega
  obtain ⟨x0, hx⟩ := hS.at hlt
  obtain ⟨z, s, hy, hy2, q1, q2, hW, hN⟩ := hH.at (show k < x.n2 by omega)
  have hzn := hwh s (List.mem_of_getElem? hy2)
  have hlZ := hW.len
  refine X_skip ?_
  refine at_then ?_
  refine X_seq ?_
  refine X_block ?_
  refine zR ?_
  refine zM ?_
  refine zV (ev_indexSl rfl rfl slt_24 (by assumption) (fun hg => by omega)) ?_
  refine zV (ev_load rfl sct_3 (fun hg => by exact Sl.get0 hS hx rfl)) ?_
  refine zA ?_
  refine zA ?_
  refine zN ?_
  refine X_seq ?_
  refine zR ?_
  refine zM ?_
  refine zV (ev_load rfl sct_3 (fun hg => by exact Cell.imm h2 rfl)) ?_
  refine zC ?_
  refine zN ?_
  refine zI ?_ ?_ <;> intro hc18
  ·
   have hne : x0 ≠ d := by simpa using hc18
   refine X_exit ?_
   refine at_then_e ?_
   refine at_block_hit ?_
   refine at_then ?_
   refine X_region ?_
   refine zB ?_
   refine zM ?_
   refine XO_nil ?_
   exact at_metH2 rfl rfl rfl _ [] ⟨n - (k + 1), by omega, k + 1, pre, rfl, rfl, rfl, hI1, by omega, hJk, by rw [hal, peo_skip hx hy2 hne]⟩ (.cons rfl (.cons rfl (.cons rfl (.cons rfl (.cons rfl (.cons rfl (.cons rfl .nil))))))) (by repeat (first | exact .refl | exact subL_nil | refine .drop ?_))
  have hne : x0 = d := by simpa using hc18
  refine X_skip ?_
  refine at_then ?_
  refine zR ?_
  refine zF fld_28_5 ?_
  refine zV (ev_load rfl sct_26 (fun hg => by exact Cell.imm h3 rfl)) ?_
  refine zM ?_
  refine zV (ev_indexSl rfl rfl slt_26 (by assumption) (fun hg => by omega)) ?_
  refine zF fld_40_2 ?_
  refine zV (ev_load rfl sct_24 (fun hg => by exact Sl.get hSs hy (j := 2) rfl)) ?_
  refine zQ slt_24 ?_
  refine zM ?_
  refine zN ?_
  refine X_block ?_
  refine X_loopH (fun m E I' H' loc' => ∃ (j : Nat) (pre : List (Int × Int)), m = z.n - j ∧ E = [(0, .func (.yield y) #[] #[]), (1, capP b1), (2, capP b2), (3, capP b3), (5, .int .i64 k), (9, .slice av n c), (10, .int .i64 n), (11, .int .i64 k), (24, .slice z.a z.n z.c), (25, .int .i64 z.n), (26, .int .i64 j)] ∧ loc' = [] ∧ HLe I0 I' ∧ j ≤ z.n ∧ J pre I' H' ∧ peoL cr pl d = pre ++ (((s.who.drop j).map fun p => (p, s.ef)) ++ peoK cr pl d (k + 1))) _ _ _ ⟨0, pre, rfl, rfl, rfl, hI1, Nat.zero_le _, hJk, by rw [hal, peo_in hx hy2 hne]⟩ (.cons rfl (.cons rfl (.cons rfl (.cons rfl (.cons rfl (.cons rfl (.cons rfl (.cons rfl (.cons rfl (.cons rfl (.cons rfl .nil))))))))))) rfl ?_
  rintro m E I' H' loc' ⟨j, pre2, rfl, rfl, rfl, hI1b, hj, hJk2, hal2⟩
  have hSs := hSs0.mono hI1b; have hS := hS0.mono hI1b; have hH := hH0.mono hI1b
  have hW := (hH.2.2 k z s hy hy2).2.2.1
  have h1 := hI1b _ _ h10
  have h2 := hI1b _ _ h20
  have h3 := hI1b _ _ h30
  have hI0 := h0.trans hI1b
  have hJk := hJk2
  refine zR ?_
  refine zC ?_
  refine zN ?_
  refine X_seq ?_
  refine zI ?_ ?_ <;> intro hc27
  ·
   have hlt2 : j < z.n := by have h := hc27; simp at h; omega
   obtain ⟨pp, hp⟩ := hW.at hlt2
   have hpre2 := peo_pre (hal2.trans (by rw [who_step hp]))
   refine X_skip ?_
   refine at_then ?_
   refine X_seq ?_
   refine X_block ?_
   refine zR ?_
   refine zV (ev_indexSl rfl rfl slt_24 (by assumption) (fun hg => by omega)) ?_
   refine zV (ev_load rfl sct_3 (fun hg => by exact Sl.get0 hW hp rfl)) ?_
   refine zA ?_
   refine zN (zR ?_)
   refine zM ?_
   refine zM ?_
   refine zF fld_28_5 ?_
   refine zV (ev_load rfl sct_26 (fun hg => by exact Cell.imm h3 rfl)) ?_
   refine zM ?_
   refine zV (ev_indexSl rfl rfl slt_26 (by assumption) (fun hg => by omega)) ?_
   refine zF fld_40_1 ?_
   refine zV (ev_load rfl sct_3 (fun hg => by exact Sl.get hSs hy (j := 1) rfl)) ?_
   refine XO_yield0 (vs := [_, _]) (Post := fun b I2 H2 => if b then J (pre2 ++ [(pp, s.ef)]) I2 H2 else Jx (pre2 ++ [(pp, s.ef)]) I2 H2) rfl rfl rfl rfl (by rw [q2]; exact hY pre2 (pp, s.ef) _ _ hpre2 hI0 hJk) ?_
   rintro t_38 I2 H2 hI2 hP2
   refine zO ?_
   refine zN ?_
   refine zI ?_ ?_ <;> intro hc39
   ·
    have ht : t_38 = false := by simpa using hc39
    subst ht
    have hJ2 : Jx (pre2 ++ [(pp, s.ef)]) I2 H2 := hP2
    refine X_ret ?_
    refine at_block_r ?_
    refine at_then_r ?_
    refine at_then_r ?_
    refine at_block_r ?_
    refine at_block_r ?_
    refine at_then_r ?_
    refine at_then_r ?_
    refine at_block_r ?_
    exact at_ret0 rfl (fun w hw => ⟨_, I2, H2, rfl, hI1b.trans hI2, hw.drop, .inr ⟨_, hpre2, hJ2⟩⟩)
   have ht : t_38 = true := by simpa using hc39
   subst ht
   have hJ2 : J (pre2 ++ [(pp, s.ef)]) I2 H2 := hP2
   refine X_skip ?_
   refine at_block_n ?_
   refine at_then ?_
   refine X_region ?_
   refine zB ?_
   refine zM ?_
   refine XO_nil ?_
   exact at_metH2 rfl rfl rfl _ [] ⟨z.n - (j + 1), by omega, j + 1, pre2 ++ [(pp, s.ef)], rfl, rfl, rfl, hI1b.trans hI2, by omega, hJ2, by rw [hal2, who_step hp, List.append_assoc]; rfl⟩ (.cons rfl (.cons rfl (.cons rfl (.cons rfl (.cons rfl (.cons rfl (.cons rfl (.cons rfl (.cons rfl (.cons rfl (.cons rfl .nil))))))))))) (by repeat (first | exact .refl | exact subL_nil | refine .drop ?_))
  have hge2 : z.n ≤ j := by have h := hc27; simp at h; omega
  have hlW := hW.len
  refine X_exit ?_
  refine at_then_e ?_
  refine at_then_e ?_
  refine at_block_hit ?_
  refine at_block_n ?_
  refine at_then ?_
  refine X_region ?_
  refine zB ?_
  refine zM ?_
  refine XO_nil ?_
  exact at_metH2 rfl rfl rfl _ [] ⟨n - (k + 1), by omega, k + 1, pre2, rfl, rfl, rfl, hI1b, by omega, hJk2, by rw [hal2, who_end (by omega)]⟩ (.cons rfl (.cons rfl (.cons rfl (.cons rfl (.cons rfl (.cons rfl (.cons rfl .nil))))))) (by repeat (first | exact .refl | exact subL_nil | refine .drop ?_))
 have hge : n ≤ k := by have h := hc12; simp at h; omega
 refine X_exit ?_
 refine at_then_e ?_
 refine at_then_e ?_
 refine at_block_hit ?_
 first
 | exact at_norm (at_ret0 rfl (fun w hw => ⟨_, I', H', rfl, hI1, hw, .inl (by rw [hal, peo_end (by omega), List.append_nil]; exact hJk)⟩))
end Go.Proofs.YtclkmnidgdkekaaGreat
end
section
namespace Go
def Exit.straight (Q : Exit → Act → World → Prop) : Exit → Act → World → Prop
  | .goto _, _, _ => False
  | .normal, a, w => Q .normal a w
  | .exit i, a, w => Q (.exit i) a w
  | .ret, a, w => Q .ret a w
  | .panic c, a, w => Q (.panic c) a w
  | .outgrown, a, w => Q .outgrown a w
section
variable {P : Program} {F : Fence} {n : Nat} {b : Frame} {a : Act} {k : List Item} {cs : List Frame} {w : World} {Q : Exit → Act → World → Prop}
theorem stepR_scope {c : Code} : step P (lone (b.atR a (.code (.scope c) :: k)) cs w) = .next (lone (b.atR a (.code c :: .inScope c :: k)) cs w) :=
  step_lone_go (by simp [stepG, stepG.exec, Frame.atR])
theorem stepR_inScope {c : Code} : step P (lone (b.atR a (.inScope c :: k)) cs w) = .next (lone (b.atR a k) cs w) :=
  step_lone_go (by simp [stepG, stepG.exec, Frame.atR])
theorem wpIn_scope_straight {c : Code} (h : c.wpIn F n P (Exit.straight Q) a w) : (Code.scope c).wpIn F n P Q a w := by
  intro b k cs hro hb hr
  have h0 : (lone (b.atR a (.code (.scope c) :: k)) cs w).fenced P F := fenced_calm hb hr rfl
  obtain ⟨e, a₁, w₁, hq, harr⟩ := h b (.inScope c :: k) cs hro hb hr
  cases e with
  | normal => exact ⟨.normal, a₁, w₁, hq, .head h0 stepR_scope (StepsIn.trans harr (.one (fenced_calm hb hr rfl) stepR_inScope))⟩
  | exit id =>
    have hx : exitTo id (.inScope c :: k) = exitTo id k := by simp [exitTo]
    exact ⟨_, a₁, w₁, hq, fun k' hk => .head h0 stepR_scope (harr.1 k' (by rw [hx]; exact hk)),
      fun hr' hk => let ⟨k₁, h1, h2⟩ := harr.2 hr' (by rw [hx]; exact hk); ⟨k₁, h1, .head h0 stepR_scope h2⟩⟩
  | goto l => exact hq.elim
  | ret => exact ⟨_, a₁, w₁, hq, .of_steps (.one h0 stepR_scope) harr⟩
  | panic ch => exact ⟨_, a₁, w₁, hq, .of_steps (.one h0 stepR_scope) harr⟩
  | outgrown => exact ⟨_, a₁, w₁, hq, .of_steps (.one h0 stepR_scope) harr⟩
end
end Go
namespace Go.Kn
open Go
section
variable {C : Cx} {Q : Exit → Act → World → Prop} {E : Env} {I : HMap} {loc : Loc}
theorem X_scope {c : Code} (h : X C (Exit.straight Q) c E I loc) : X C Q (.scope c) E I loc := fun a w ha hw => wpIn_scope_straight (h a w ha hw)
theorem X_label {l : Nat} (h : At C Q .normal E I loc) : X C Q (.label l) E I loc := fun a w ha hw => wpIn_label (h a w ha hw)
theorem at_scope_r (h : At C Q .ret E I loc) : At C (Exit.straight Q) .ret E I loc := h
theorem at_locEq {e : Exit} {loc' : Loc} (h : loc = loc') (hx : At C Q e E I loc') : At C Q e E I loc := h ▸ hx
variable {S : GS} {dst : Option Nat} {ty : TypeId} {pos : String} {af : Array Edge} {gd : Option (Nat × Bool)} {x y : Operand}
end
end Go.Kn
end
