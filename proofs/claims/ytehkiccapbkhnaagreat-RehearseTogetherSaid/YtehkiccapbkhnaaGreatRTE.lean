/- rehearseTogether_holds, part E of the proof: what its theorems say holds without further conditions. -/
import Derived.Test.YtehkiccapbkhnaaGreatRTD
section
namespace Go.Proofs.YtehkiccapbkhnaaGreat
open Go Go.Kn Go.Proofs
theorem fun_20 : Fun Tryz.prog 20 := .of Tryz.func20 (by kernel_rfl) (by kernel_rfl)
theorem fun_54 : Fun Tryz.prog 54 := .of Tryz.func54 (by kernel_rfl) (by kernel_rfl)
theorem fun_58 : Fun Tryz.prog 58 := .of Tryz.func58 (by kernel_rfl) (by kernel_rfl)
theorem fun_67 : Fun Tryz.prog 67 := .of Tryz.func67 (by kernel_rfl) (by kernel_rfl)
theorem szt_142 : SzT Tryz.prog 142 1 := .of (by kernel_rfl)
theorem zt_142 : ZeroT Tryz.prog 142 .nilFunc := .of (by kernel_rfl)
theorem zt_23 : ZeroT Tryz.prog 23 (.slice none 0 0) := .of (by kernel_rfl)
theorem w_from {I : HMap} {x : CH} {cr : Cr} (hC : CrAt I x cr) (hr : rightF cr = true) (h16 : cr.days.length ≤ 16) (h8 : cr.ss.length ≤ 8) (hwh : ∀ s ∈ cr.ss, s.who.length ≤ 6) (hnd : ∀ s ∈ cr.ss, s.needs.length ≤ 100000) {bc bp bl bf last f : Nat} (hl9 : last ≤ cr.days.length) (hbc : ImmC I bc (.cells (encCH x).toArray 33 (0, 0))) (hbl : ImmC I bl (.cells #[.int .i64 last] 3 (0, 0))) (hbf : ImmC I bf (.cells #[.func (.func 96) #[] [capP bc, capP bp, capP bl, capP bf].toArray] 142 (0, 0))) {av : Option Addr} {n c : Nat} {pl : List Int} (hS : Sl I 1 encI av n c pl) (hlen : pl.length + f = cr.ss.length) (hin : InR cr pl) (pv : Value) :
  RetM Tryz.prog 96 ([.slice av n c] ++ [capP bc, capP bp, capP bl, capP bf]) I [(bp, .cells #[pv] 23 (0, 0))] (SrQ cr last f pl bp 23 pv) := by
 induction f generalizing I av n c pl pv with
 | zero => exact w_from_step hC hr h16 h8 hwh hnd hl9 hbc hbl hbf hS hlen hin pv (fun f' e => by omega)
 | succ f ih => exact w_from_step hC hr h16 h8 hwh hnd hl9 hbc hbl hbf hS hlen hin pv (fun f' e I' hI' av' n' c' pl' hS' hlen' hin' pv' => by
   obtain rfl : f' = f := by omega
   exact ih (hC.mono hI') (hbc.mono hI') (hbl.mono hI') (hbf.mono hI') hS' hlen' hin' pv')
theorem w_search {I : HMap} {x : CH} {cr : Cr} (hC : CrAt I x cr) (hr : rightF cr = true) (h16 : cr.days.length ≤ 16) (h8 : cr.ss.length ≤ 8) (hwh : ∀ s ∈ cr.ss, s.who.length ≤ 6) (hnd : ∀ s ∈ cr.ss, s.needs.length ≤ 100000) (last : Nat) (hl9 : last ≤ cr.days.length) : RetM Tryz.prog 58 [encCHA x, .int .i64 last] I [] (SchQ cr last) := by
 intro g H w hw
 refine enter Tryz.func58 rfl Tryz.ntmps58 rfl hw ?_
 have hIc := HLe.refl I
 refine zR ?_
 refine XO_box rfl rfl rfl (fun b_2 => ?_)
 refine XO_box rfl rfl rfl (fun b_3 => ?_)
 refine XO_alloc zt_23 rfl rfl (fun b_4 => ?_)
 refine XO_alloc zt_45 rfl rfl (fun b_5 => ?_)
 refine zA ?_
 refine zN (zR ?_)
 refine XO_alloc zt_142 rfl rfl (fun b_7 => ?_)
 refine zN (zR ?_)
 refine XO_v0 (ev_makeFunc (us := []) (vs := [_, _, _, _]) rfl rfl) rfl rfl rfl ?_
 refine zS szt_142 ?_
 refine zN ?_
 refine X_seq ?_
 refine X_freeze .here (fun I1 hI1 hb1 => ?_)
 have hC := hC.mono hI1; have hIc := hIc.trans hI1
 have h7 := ImmC.of hb1
 refine X_freeze (.there (.there .here)) (fun I2 hI2 hb2 => ?_)
 have hC := hC.mono hI2; have h7 := h7.mono hI2; have hIc := hIc.trans hI2
 have h3 := ImmC.of hb2
 refine X_freeze (.there (.there .here)) (fun I3 hI3 hb3 => ?_)
 have hC := hC.mono hI3; have h7 := h7.mono hI3; have h3 := h3.mono hI3; have hIc := hIc.trans hI3
 have h2 := ImmC.of hb3
 refine X_region ?_
 refine XO_v0 (ev_load rfl sct_142 (fun hg => by first | exact Cell.imm h7 rfl | (repeat (first | exact Cell.here rfl | apply Cell.there | apply Cell.app)))) rfl rfl rfl ?_
 refine XO_callM (cap := [capP b_2, capP b_4, capP b_3, capP b_7]) (vs := [_]) rfl rfl fun_96 (by repeat (first | exact .cons .here .nil | exact split_all | exact split_app | apply split_cons | apply split_skip)) (w_from (bp := b_4) (f := cr.ss.length) hC hr h16 h8 hwh hnd hl9 h2 h3 h7 (pl := []) Sl.nil (by simp) (fun e he => by cases he) _) rfl rfl ?_
 rintro vv4 I4 L4 hI4 ⟨kh, kpv, kfd, rfl, rfl, hkp, hkq⟩
 have hC := hC.mono hI4; have h7 := h7.mono hI4; have h3 := h3.mono hI4; have h2 := h2.mono hI4; have hIc := hIc.trans hI4
 have hkq := show KidQ cr last cr.ss.length [] kfd kpv (.slice none 0 0) _ from hkq
 refine zM ?_
 refine XO_v0 (ev_extract rfl rfl) rfl rfl rfl ?_
 refine XO_v0 (ev_extract rfl rfl) rfl rfl rfl ?_
 refine XO_storeA rfl rfl szt_45 rfl rfl rfl rfl (by repeat (first | exact Upd.here | apply Upd.there | apply upd_app)) ?_
 refine zA ?_
 refine XO_nil ?_
 have hk1 : kpv.oneCell' = true := by rcases hkq with ⟨_, _, h⟩ | ⟨_, x9, a9, c9, _, h, _⟩ <;> rw [h] <;> rfl
 refine at_then ?_
 refine X_seq ?_
 have hD := HLe.refl I4
 refine X_drawC mixed ?_
 refine zT 0 rfl (ev_load rfl sct_23 (fun hg => by first | exact Cell.imm h7 rfl | (repeat (first | exact Cell.here rfl | apply Cell.there | apply Cell.app)))) hD ?_
 refine zT 1 rfl (ev_loadA rfl agt_45 (fun hg => by first | (repeat (first | exact Cells.here | exact Cells.s0 (vs := [_, _, _, _]) rfl | apply Cells.there | apply Cells.app))) rfl) hD ?_
 refine zT 2 rfl (ev_move rfl) hD ?_
 refine XD_one 3 rfl (by kernel_rfl) ?_
 refine XO_store rfl rfl szt_23 hk1 rfl (by repeat (first | exact Upd.here | apply Upd.there | apply upd_app)) rfl ?_
 refine XO_nil ?_
 refine zD hD ?_
 refine XD_one 4 rfl (by kernel_rfl) ?_
 refine XO_storeA rfl rfl szt_45 rfl rfl rfl rfl (by repeat (first | exact Upd.here | apply Upd.there | apply upd_app)) ?_
 refine XO_nil ?_
 refine zD hD ?_
 refine zT 5 rfl (ev_assign rfl) hD ?_
 refine XD_done (by kernel_rfl) ?_
 refine at_noP ?_
 refine at_then ?_
 refine X_ret ?_
 exact at_ret3LL rfl rfl rfl rfl (.sc sct_23 (by repeat (first | exact Cell.here rfl | apply Cell.there))) (.ag agt_45 (vs := encPH kh) (by repeat (first | exact Cells.here | apply Cells.there)) rfl) (fun w hw => ⟨_, I4, [], rfl, hIc, hw.drop, rfl, kpv, kh, kfd, rfl, hkp, hkq⟩)
theorem w_Plan {I : HMap} {x : CH} {cr : Cr} (hC : CrAt I x cr) (hnd : ∀ s ∈ cr.ss, s.needs.length ≤ 100000) : RetM Tryz.prog 18 [encCHA x] I [] (PlaQ cr) := by
 intro g H w hw
 refine enter Tryz.func18 rfl Tryz.ntmps18 rfl hw ?_
 have hIc := HLe.refl I
 have hlD : cr.days.length = x.n := hC.1.len
 refine zR ?_
 refine XO_box rfl rfl rfl (fun b_1 => ?_)
 refine zA ?_
 refine zA ?_
 refine zA ?_
 refine zN ?_
 refine X_seq ?_
 refine X_seq ?_
 refine X_freeze .here (fun I1 hI1 hb1 => ?_)
 have hC := hC.mono hI1; have hIc := hIc.trans hI1
 have h1 := ImmC.of hb1
 refine X_region ?_
 refine XO_v0 (ev_loadA rfl agt_33 (fun hg => by first | exact Cells.immC h1 | (repeat (first | exact Cells.here | exact Cells.s0 (vs := [_, _, _, _, _, _]) rfl | apply Cells.there | apply Cells.app))) rfl) rfl rfl rfl ?_
 refine XO_callV0 (cap := []) (vs := [_]) rfl rfl fun_20 (w_chkC hC hnd) rfl rfl ?_
 refine zA ?_
 refine zN (zR ?_)
 refine zM ?_
 refine zC ?_
 refine zN ?_
 refine X_cond rfl (fun hc9 => ?_) (fun hc9 => ?_)
 ·
  have hk0 : chkC cr ≠ 0 := by simpa using hc9
  refine zR ?_
  refine zM ?_
  refine zA ?_
  refine zA ?_
  refine zA ?_
  refine zN ?_
  refine X_ret ?_
  refine at_then_r ?_
  exact at_ret3 rfl rfl rfl rfl (fun w hw => ⟨_, I1, [], rfl, hIc, hw.drop, PlaQ.bad hk0⟩)
 have hk0 : chkC cr = 0 := by simpa using hc9
 obtain ⟨hr, h16, h8, hwh, hpl9⟩ := chkC_0 hk0
 refine X_skip ?_
 refine at_then ?_
 refine X_seq ?_
 refine zR ?_
 refine XO_v0 (ev_fieldAddr rfl fld_33_0) rfl rfl rfl ?_
 refine XO_v0 (ev_load rfl sct_23 (fun hg => by first | exact Cell.imm h1 rfl | (repeat (first | exact Cell.here rfl | apply Cell.there | apply Cell.app)))) rfl rfl rfl ?_
 refine XO_v0 (ev_lenS rfl slt_23) rfl rfl rfl ?_
 refine zB ?_
 refine zM ?_
 refine zN ?_
 refine X_block ?_
 refine X_loopT [(1, _), (14, _)] (.cons rfl (.cons rfl .nil)) (fun T L0 mz E I' loc' => ∃ (k : Nat), mz = x.n + 1 - k ∧ E = (15, .int .i64 k) :: T ∧ HLe I1 I' ∧ L0 = loc' ∧ k ≤ x.n + 1 ∧ planF cr = findL cr (cr.days.length + 1 - k) k) _ _ _ _ ⟨0, rfl, rfl, HLe.refl _, rfl, Nat.zero_le _, find_0 cr⟩ (.cons rfl (.cons rfl (.cons rfl .nil))) (HLe.refl _) rfl ?_
 rintro mz E J2 loc' ⟨k, rfl, rfl, hJ, rfl, hk, hpf⟩
 have hC := hC.mono hJ; have h1 := h1.mono hJ; have hIc := hIc.trans hJ
 have hB0 := hJ
 refine zR ?_
 refine zC ?_
 refine zN ?_
 refine X_seq ?_
 refine X_cond rfl (fun hc16 => ?_) (fun hc16 => ?_)
 ·
  have hlt_k : k < x.n + 1 := by have h := hc16; simp at h; omega
  refine X_skip ?_
  refine at_then ?_
  refine X_seq ?_
  refine X_block ?_
  refine zR ?_
  refine zM ?_
  refine zA ?_
  refine zN (zR ?_)
  refine XO_v0 (ev_loadA rfl agt_33 (fun hg => by first | exact Cells.immC h1 | (repeat (first | exact Cells.here | exact Cells.s0 (vs := [_, _, _, _, _, _]) rfl | apply Cells.there | apply Cells.app))) rfl) rfl rfl rfl ?_
  refine zM ?_
  refine XO_callM (cap := []) (vs := [_, _]) rfl rfl fun_58 .nil (w_search hC hr h16 h8 hwh hnd k (by omega)) rfl rfl ?_
  rintro vv3 I3 L3 hI3 ⟨rfl, kpv, kh, kfd, rfl, hkp, hkq⟩
  have hC := hC.mono hI3; have h1 := h1.mono hI3; have hIc := hIc.trans hI3; have hB0 := hB0.trans hI3
  rw [List.nil_append]
  refine zM ?_
  refine XO_v0 (ev_extract rfl rfl) rfl rfl rfl ?_
  refine XO_v0 (ev_extract rfl rfl) rfl rfl rfl ?_
  refine XO_v0 (ev_extract rfl rfl) rfl rfl rfl ?_
  refine zA ?_
  refine zA ?_
  refine zN (zR ?_)
  refine zM ?_
  refine zN ?_
  refine X_cond rfl (fun hc25 => ?_) (fun hc25 => ?_)
  ·
   have hkf : kfd = true := hc25
   subst hkf
   obtain ⟨x9, a9, c9, hx9, rfl, hsx⟩ := hkq.yes
   refine zR ?_
   refine zM ?_
   refine zA ?_
   refine zA ?_
   refine zA ?_
   refine zN ?_
   refine X_ret ?_
   refine at_block_r ?_
   refine at_then_r ?_
   refine at_then_r ?_
   refine at_block_r ?_
   refine at_then_r ?_
   exact at_ret3 rfl rfl rfl rfl (fun w hw => ⟨_, I3, [], rfl, hIc, hw.drop, PlaQ.some hk0 (find_yes hpf (by omega) hx9) hsx⟩)
  have hkf : kfd = false := hc25
  subst hkf
  have hkn := hkq.no
  obtain rfl := hkn.2
  refine X_skip ?_
  refine at_block_n ?_
  refine at_then ?_
  refine X_region ?_
  refine zB ?_
  refine zM ?_
  refine XO_nil ?_
  exact at_met2 _ _ ⟨x.n + 1 - (k + 1), by omega, k + 1, rfl, rfl, hB0, rfl, by omega, find_no hpf (by omega) hkn.1⟩ (.cons rfl (.cons rfl (.cons rfl .nil))) (by repeat (first | exact .refl | exact subL_left | refine subL_app ?_ | refine .drop ?_ | refine subL_add ?_))
 have hge_k : x.n + 1 ≤ k := by have h := hc16; simp at h; omega
 refine X_exit ?_
 refine at_then_e ?_
 refine at_then_e ?_
 refine at_block_hit ?_
 refine at_then ?_
 refine zR ?_
 refine zA ?_
 refine zA ?_
 refine zA ?_
 refine zN ?_
 refine X_ret ?_
 exact at_ret3 rfl rfl rfl rfl (fun w hw => ⟨_, J2, [], rfl, hIc, hw.drop, PlaQ.none hk0 (find_end hpf (by omega))⟩)
theorem w_Refute {I : HMap} {x : CH} {cr : Cr} (hC : CrAt I x cr) (hnd : ∀ s ∈ cr.ss, s.needs.length ≤ 100000) (last : Int) : RetM Tryz.prog 25 [encCHA x, .int .i64 last] I [] (RefQ cr last) := by
 intro g H w hw
 refine enter Tryz.func25 rfl Tryz.ntmps25 rfl hw ?_
 have hIc := HLe.refl I
 have hlD : cr.days.length = x.n := hC.1.len
 refine zR ?_
 refine XO_box rfl rfl rfl (fun b_2 => ?_)
 refine XO_alloc zt_45 rfl rfl (fun b_4 => ?_)
 refine zA ?_
 refine zA ?_
 refine zN ?_
 refine X_seq ?_
 refine X_seq ?_
 refine X_freeze (.there .here) (fun I1 hI1 hb1 => ?_)
 have hC := hC.mono hI1; have hIc := hIc.trans hI1
 have h2 := ImmC.of hb1
 refine X_region ?_
 refine XO_v0 (ev_loadA rfl agt_33 (fun hg => by first | exact Cells.immC h2 | exact Cells.h0 | (repeat (first | exact Cells.here | exact Cells.s0 (vs := [_, _, _, _, _, _]) rfl | apply Cells.there | apply Cells.app))) rfl) rfl rfl rfl ?_
 refine XO_callV0 (cap := []) (vs := [_]) rfl rfl fun_20 (w_chkC hC hnd) rfl rfl ?_
 refine zA ?_
 refine zN (zR ?_)
 refine zM ?_
 refine zC ?_
 refine zN ?_
 refine X_cond rfl (fun hc13 => ?_) (fun hc13 => ?_)
 ·
  have hk0 : chkC cr ≠ 0 := by simpa using hc13
  refine zR ?_
  refine XO_v0 (ev_loadA rfl agt_45 (fun hg => by first | exact Cells.immC h2 | exact Cells.h0 | (repeat (first | exact Cells.here | exact Cells.s0 (vs := [_, _, _, _]) rfl | apply Cells.there | apply Cells.app))) rfl) rfl rfl rfl ?_
  refine zM ?_
  refine XO_storeA rfl rfl szt_45 rfl rfl rfl rfl (by repeat (first | exact Upd.here | apply Upd.there | apply upd_app)) ?_
  refine zA ?_
  refine zA ?_
  refine zN ?_
  refine X_ret ?_
  refine at_then_r ?_
  exact at_ret3L rfl rfl rfl rfl (.ag agt_45 (vs := encPH ⟨0, 0, 0, none, 0, 0⟩) (by repeat (first | exact Cells.here | apply Cells.there | apply Cells.app)) rfl) (fun w hw => ⟨_, I1, [], rfl, hIc, hw.drop, RefQ.bad (lastE_1 hk0) hk0⟩)
 have hk0 : chkC cr = 0 := by simpa using hc13
 obtain ⟨hr, h16, h8, hwh, hpl9⟩ := chkC_0 hk0
 refine X_skip ?_
 refine at_then ?_
 refine X_seq ?_
 refine zR ?_
 refine zM ?_
 refine zC ?_
 refine zM ?_
 refine XO_pushF 2 rfl rfl rfl ?_
 refine XO_v1 (ev_move rfl) (.some rfl rfl rfl rfl gbf) rfl rfl rfl ?_
 refine XO_v1 (ev_fieldAddr rfl fld_33_0) (.some rfl rfl rfl rfl gbf) rfl rfl rfl ?_
 refine XO_v1 (ev_load rfl sct_23 (fun hg => by first | exact Cell.imm h2 rfl | (repeat (first | exact Cell.here rfl | apply Cell.there | apply Cell.app)))) (.some rfl rfl rfl rfl gbf) rfl rfl rfl ?_
 refine XO_v1 (ev_lenS rfl slt_23) (.some rfl rfl rfl rfl gbf) rfl rfl rfl ?_
 refine XO_v1 (ev_cmp rfl rfl rfl) (.some rfl rfl rfl rfl gbf) rfl rfl rfl ?_
 refine XO_or0 rfl rfl rfl rfl rfl ?_
 refine zN ?_
 refine X_cond rfl (fun hc24 => ?_) (fun hc24 => ?_)
 ·
  have hb9 : (decide (last < 0) || decide (last > (cr.days.length : Int))) = true := by rw [hlD]; exact hc24
  refine zR ?_
  refine XO_v0 (ev_loadA rfl agt_45 (fun hg => by first | exact Cells.immC h2 | exact Cells.h0 | (repeat (first | exact Cells.here | exact Cells.s0 (vs := [_, _, _, _]) rfl | apply Cells.there | apply Cells.app))) rfl) rfl rfl rfl ?_
  refine XO_storeA rfl rfl szt_45 rfl rfl rfl rfl (by repeat (first | exact Upd.here | apply Upd.there | apply upd_app)) ?_
  refine zA ?_
  refine zA ?_
  refine zN ?_
  refine X_ret ?_
  refine at_then_r ?_
  exact at_ret3L rfl rfl rfl rfl (.ag agt_45 (vs := encPH ⟨0, 0, 0, none, 0, 0⟩) (by repeat (first | exact Cells.here | apply Cells.there | apply Cells.app)) rfl) (fun w hw => ⟨_, I1, [], rfl, hIc, hw.drop, RefQ.bad (lastE_2 hk0 hb9) (by decide)⟩)
 have hb9 : (decide (last < 0) || decide (last > (cr.days.length : Int))) = false := by rw [hlD]; exact hc24
 have hl0 : 0 ≤ last ∧ last ≤ cr.days.length := by simp at hb9; omega
 refine X_skip ?_
 refine at_then ?_
 refine zR ?_
 refine XO_v0 (ev_loadA rfl agt_33 (fun hg => by first | exact Cells.immC h2 | exact Cells.h0 | (repeat (first | exact Cells.here | exact Cells.s0 (vs := [_, _, _, _, _, _]) rfl | apply Cells.there | apply Cells.app))) rfl) rfl rfl rfl ?_
 refine zM ?_
 refine XO_callM (cap := []) (vs := [_, _]) rfl rfl fun_58 .nil ((show RetM Tryz.prog 58 [encCHA x, .int .i64 last] I1 [] (SchQ cr last.toNat) from by have h9 := w_search hC hr h16 h8 hwh hnd last.toNat (by omega); rw [Int.toNat_of_nonneg (by omega)] at h9; exact h9)) rfl rfl ?_
 rintro vv2 I2 L2 hI2 ⟨rfl, kpv, kh, kfd, rfl, hkp, hkq⟩
 have hC := hC.mono hI2; have h2 := h2.mono hI2; have hIc := hIc.trans hI2
 rw [List.nil_append]
 refine zM ?_
 refine XO_v0 (ev_extract rfl rfl) rfl rfl rfl ?_
 refine XO_v0 (ev_extract rfl rfl) rfl rfl rfl ?_
 refine XO_v0 (ev_extract rfl rfl) rfl rfl rfl ?_
 refine XO_alloc zt_45 rfl rfl (fun b_8 => ?_)
 refine zA ?_
 refine XO_storeA rfl rfl szt_45 rfl rfl rfl rfl (by repeat (first | exact Upd.here | apply Upd.there | apply upd_app)) ?_
 refine zA ?_
 refine zN ?_
 refine X_seq ?_
 refine zR ?_
 refine zM ?_
 refine zN ?_
 refine X_cond rfl (fun hc33 => ?_) (fun hc33 => ?_)
 ·
  have hkf : kfd = true := hc33
  subst hkf
  obtain ⟨x9, a9, c9, hx9, rfl, hsx⟩ := hkq.yes
  refine zR ?_
  refine XO_v0 (ev_loadA rfl agt_45 (fun hg => by first | exact Cells.immC h2 | exact Cells.h0 | (repeat (first | exact Cells.here | exact Cells.s0 (vs := [_, _, _, _]) rfl | apply Cells.there | apply Cells.app))) rfl) rfl rfl rfl ?_
  refine XO_storeA rfl rfl szt_45 rfl rfl rfl rfl (by repeat (first | exact Upd.here | apply Upd.there | apply upd_app)) ?_
  refine zA ?_
  refine zA ?_
  refine zN ?_
  refine X_ret ?_
  refine at_then_r ?_
  exact at_ret3L rfl rfl rfl rfl (.ag agt_45 (vs := encPH ⟨0, 0, 0, none, 0, 0⟩) (by repeat (first | exact Cells.here | apply Cells.there | apply Cells.app)) rfl) (fun w hw => ⟨_, I2, [], rfl, hIc, hw.drop, RefQ.found (lastE_3 hk0 hb9) hx9⟩)
 have hkf : kfd = false := hc33
 subst hkf
 have hkn := hkq.no
 obtain rfl := hkn.2
 refine X_skip ?_
 refine at_then ?_
 refine zR ?_
 refine XO_v0 (ev_loadA rfl agt_45 (fun hg => by first | exact Cells.immC h2 | exact Cells.h0 | (repeat (first | exact Cells.here | exact Cells.s0 (vs := [_, _, _, _]) rfl | apply Cells.there | apply Cells.app))) rfl) rfl rfl rfl ?_
 refine XO_storeA rfl rfl szt_45 rfl rfl rfl rfl (by repeat (first | exact Upd.here | apply Upd.there | apply upd_app)) ?_
 refine zA ?_
 refine zA ?_
 refine zN ?_
 refine X_ret ?_
 exact at_ret3L rfl rfl rfl rfl (.ag agt_45 (vs := encPH kh) (by repeat (first | exact Cells.here | apply Cells.there | apply Cells.app)) rfl) (fun w hw => ⟨_, I2, [], rfl, hIc, hw.drop, RefQ.good (lastE_3 hk0 hb9) hkn.1 hkp⟩)
theorem w_Broken {I : HMap} {x : CH} {cr : Cr} (hC : CrAt I x cr) (hnd : ∀ s ∈ cr.ss, s.needs.length ≤ 100000) {av : Option Addr} {n c : Nat} {pl : List Int} (hS : Sl I 1 encI av n c pl) (hn : n ≤ 100000) : RetM Tryz.prog 16 [encCHA x, .slice av n c] I [] (BroQ cr pl) := by
 intro g H w hw
 refine enter Tryz.func16 rfl Tryz.ntmps16 rfl hw ?_
 have hIc := HLe.refl I
 have hlD : cr.days.length = x.n := hC.1.len
 have hlS : cr.ss.length = x.n2 := hC.2.2.2.2.2.len
 have hlP := hS.len
 refine zR ?_
 refine XO_box rfl rfl rfl (fun b_2 => ?_)
 refine zA ?_
 refine zA ?_
 refine zN ?_
 refine X_seq ?_
 refine X_seq ?_
 refine X_freeze .here (fun I1 hI1 hb1 => ?_)
 have hC := hC.mono hI1; have hS := hS.mono hI1; have hIc := hIc.trans hI1
 have h2 := ImmC.of hb1
 refine X_region ?_
 refine XO_v0 (ev_loadA rfl agt_33 (fun hg => by first | exact Cells.immC h2 | exact Sl.getA hB9 hb0 | (repeat (first | exact Cells.here | exact Cells.s0 (vs := [_, _, _, _, _, _]) rfl | apply Cells.there | apply Cells.app))) rfl) rfl rfl rfl ?_
 refine XO_callV0 (cap := []) (vs := [_]) rfl rfl fun_20 (w_chkC hC hnd) rfl rfl ?_
 refine zA ?_
 refine zN (zR ?_)
 refine zM ?_
 refine zC ?_
 refine zN ?_
 refine X_cond rfl (fun hc11 => ?_) (fun hc11 => ?_)
 ·
  have hk0 : chkC cr ≠ 0 := by simpa using hc11
  refine zR ?_
  refine zM ?_
  refine zA ?_
  refine zA ?_
  refine zN ?_
  refine X_ret ?_
  refine at_then_r ?_
  exact at_ret2 rfl rfl rfl (fun w hw => ⟨_, I1, [], rfl, hIc, hw.drop, BroQ.bad (brokE_1 hk0) hk0⟩)
 have hk0 : chkC cr = 0 := by simpa using hc11
 obtain ⟨hr, h16, h8, hwh, hpl9⟩ := chkC_0 hk0
 refine X_skip ?_
 refine at_then ?_
 refine X_seq ?_
 refine zR ?_
 refine zM ?_
 refine XO_v0 (ev_lenS rfl slt_23) rfl rfl rfl ?_
 refine XO_v0 (ev_fieldAddr rfl fld_33_5) rfl rfl rfl ?_
 refine XO_v0 (ev_load rfl sct_27 (fun hg => by first | exact Cell.imm h2 rfl | (repeat (first | exact Cell.here rfl | apply Cell.there | apply Cell.app)))) rfl rfl rfl ?_
 refine XO_v0 (ev_lenS rfl slt_27) rfl rfl rfl ?_
 refine zC ?_
 refine zM ?_
 refine XO_pushF 6 rfl rfl rfl ?_
 refine XO_v1 (ev_move rfl) (.some rfl rfl rfl rfl gbf) rfl rfl rfl ?_
 refine XO_v1 (ev_makeFunc (us := []) (vs := [_]) rfl rfl) (.some rfl rfl rfl rfl gbf) rfl rfl rfl ?_
 refine XO_callV1 (cap := []) (vs := [_, _]) rfl rfl fun_53 (fun hg => w_cnI hS (by omega) fun_54 (P := fun d => decide (d < 0) || decide (d ≥ (x.n : Int))) (cap := [capP b_2]) (fun d _ => w_bk1 h2 d)) (.some rfl rfl rfl rfl gbf) rfl rfl ?_
 refine XO_or0 rfl rfl rfl rfl rfl ?_
 refine zN ?_
 refine X_cond rfl (fun hc23 => ?_) (fun hc23 => ?_)
 ·
  have hbb : brokE cr pl = 400 := brokE_2 hk0 (by rw [hlD, hlP, hlS]; exact hc23)
  refine zR ?_
  refine zA ?_
  refine zA ?_
  refine zN ?_
  refine X_ret ?_
  refine at_then_r ?_
  exact at_ret2 rfl rfl rfl (fun w hw => ⟨_, I1, [], rfl, hIc, hw.drop, BroQ.bad hbb (by decide)⟩)
 have hbg := brokE_3 hk0 (show (decide ((pl.length : Int) > (cr.ss.length : Int)) || pl.any fun d => decide (d < 0) || decide (d ≥ (cr.days.length : Int))) = false by rw [hlD, hlP, hlS]; exact hc23)
 have hbl9 := brkL_len h16 pl
 refine X_skip ?_
 refine at_then ?_
 refine X_seq ?_
 refine zR ?_
 refine XO_v0 (ev_loadA rfl agt_33 (fun hg => by first | exact Cells.immC h2 | exact Sl.getA hB9 hb0 | (repeat (first | exact Cells.here | exact Cells.s0 (vs := [_, _, _, _, _, _]) rfl | apply Cells.there | apply Cells.app))) rfl) rfl rfl rfl ?_
 refine zM ?_
 refine XO_callM (cap := []) (vs := [_, _]) rfl rfl fun_55 .nil (w_broken hC hr h16 h8 hwh hnd hS hbg.2.1 hbg.2.2) rfl rfl ?_
 rintro vv2 I2 L2 hI2 ⟨rfl, ab9, cb9, rfl, hB9⟩
 have hC := hC.mono hI2; have hS := hS.mono hI2; have h2 := h2.mono hI2; have hIc := hIc.trans hI2
 rw [List.nil_append]
 refine XO_v0 (ev_lenS rfl slt_88) rfl rfl rfl ?_
 refine zM ?_
 refine zN ?_
 refine X_block ?_
 refine X_loopT [(26, _), (27, _)] (.cons rfl (.cons rfl .nil)) (fun T L0 mz E I' loc' => ∃ (k : Nat) (v : Value) (q : Nat) (L : Go.Kn.Loc), mz = (brkL cr pl).length - k ∧ E = (4, v) :: (28, .int .i64 k) :: T ∧ I2 = I' ∧ L = loc' ∧ k ≤ (brkL cr pl).length ∧ OwnS 45 4 v q ((((brkL cr pl).take k).map lfH).flatMap encPH) L ∧ q ≤ k) _ _ _ _ ⟨0, _, 0, [], rfl, rfl, rfl, rfl, Nat.zero_le _, OwnS.nil, Nat.le_refl _⟩ (.cons rfl (.cons rfl (.cons rfl (.cons rfl .nil)))) (HLe.refl _) rfl ?_
 rintro mz E I' loc' ⟨k, v, q, L, rfl, rfl, rfl, rfl, hk, hO, hq⟩
 refine zR ?_
 refine zC ?_
 refine zN ?_
 refine X_seq ?_
 refine X_cond rfl (fun hc29 => ?_) (fun hc29 => ?_)
 ·
  have hlt_k : k < (brkL cr pl).length := by have h := hc29; simp at h; omega
  obtain ⟨b0, hb0⟩ : ∃ b, (brkL cr pl)[k]? = some b := ⟨_, List.getElem?_eq_getElem hlt_k⟩
  refine X_skip ?_
  refine at_then ?_
  refine X_seq ?_
  refine X_block ?_
  refine zR ?_
  refine XO_v0 (ev_indexSl rfl rfl slt_88 (by assumption) (fun hg => by first | omega | (simp [conj] at hg; omega))) rfl rfl rfl ?_
  refine XO_v0 (ev_loadA rfl agt_91 (fun hg => by first | exact Cells.immC h2 | exact Sl.getA hB9 hb0 | (repeat (first | exact Cells.here | exact Cells.s0 (vs := [_, _, _]) rfl | apply Cells.there | apply Cells.app))) rfl) rfl rfl rfl ?_
  refine XO_alloc zt_91 rfl rfl (fun b_7 => ?_)
  refine XO_storeA rfl rfl szt_91 rfl rfl rfl rfl (by repeat (first | exact Upd.here | apply Upd.there | apply upd_app)) ?_
  refine zN ?_
  refine X_region ?_
  refine zM ?_
  refine XO_v0 (ev_loadA rfl agt_91 (fun hg => by first | exact Cells.immC h2 | exact Sl.getA hB9 hb0 | (repeat (first | exact Cells.here | exact Cells.s0 (vs := [_, _, _]) rfl | apply Cells.there | apply Cells.app))) rfl) rfl rfl rfl ?_
  refine XO_callV0 (cap := []) (vs := [_]) rfl rfl fun_56 (w_leaf _ _) rfl rfl ?_
  refine XO_buildSlice (ps := [(0, _)]) (m := [encPH (lfH b0)]) elt_35 rfl (.cons rfl (.nil)) rfl (by simp [encPH_len]) (by decide) (by decide) rfl rfl (fun b_35 => ?_)
  refine XO_append (v := _) (ys := [lfH b0].flatMap encPH) (L := L) rfl rfl elt_35 hO (by repeat (first | exact .cons .here .nil | exact split_all | exact split_app | apply split_cons | apply split_skip)) ⟨rfl, fun _ => rfl, by repeat (first | exact Cells.here | apply Cells.there | apply Cells.app)⟩ (one_PH _) (by omega) rfl rfl ?_
  intro v9 L9 hO9 _; rw [← List.flatMap_append] at hO9
  refine zA ?_
  refine XO_nil ?_
  refine at_block_n ?_
  refine at_then ?_
  refine X_region ?_
  refine zB ?_
  refine zM ?_
  refine XO_nil ?_
  exact at_met2 _ _ ⟨(brkL cr pl).length - (k + 1), by omega, k + 1, _, _, _, rfl, rfl, rfl, rfl, by omega, by rw [List.take_add_one, hb0, List.map_append]; exact hO9, by omega⟩ (.cons rfl (.cons rfl (.cons rfl (.cons rfl .nil)))) (by repeat (first | exact .refl | exact subL_left | refine subL_app ?_ | refine .drop ?_ | refine subL_add ?_))
 have hge_k : (brkL cr pl).length ≤ k := by have h := hc29; simp at h; omega
 rw [List.take_of_length_le hge_k] at hO
 refine X_exit ?_
 refine at_then_e ?_
 refine at_then_e ?_
 refine at_block_hit ?_
 refine at_then ?_
 refine zR ?_
 refine zM ?_
 refine zA ?_
 refine zA ?_
 refine zN ?_
 refine X_ret ?_
 first
 | exact at_freezeO hO encPH_len (by decide) split_all (fun I7 hI7 a7 c7 e7 hS7 => by subst e7; exact at_ret2 rfl rfl rfl (fun w hw => ⟨_, I7, [], rfl, hIc.trans hI7, hw.drop, BroQ.good hbg.1 hS7⟩))
end Go.Proofs.YtehkiccapbkhnaaGreat
end
section
namespace Go.Proofs.YtehkiccapbkhnaaGreat
open Go Go.Kn Go.Proofs
theorem any_contI (xs : List Int) (v : Int) : xs.contains v = xs.any fun y => y == v := by
  rw [Bool.eq_iff_iff, List.any_eq_true, List.contains_iff_mem]
  constructor
  · intro h; exact ⟨v, h, by simp⟩
  · rintro ⟨x, hx, h⟩; rw [beq_iff_eq] at h; subst h; exact hx
theorem beq_symmI (a b : Int) : (a == b) = (b == a) := by
  rw [Bool.eq_iff_iff, beq_iff_eq, beq_iff_eq]; exact eq_comm
theorem brEq (v x : Br) : (v.r == x.r && (v.d == x.d && (v.w == x.w && true))) = decide (v = x) := by
  rw [Bool.eq_iff_iff, decide_eq_true_eq]; obtain ⟨r, d, w⟩ := v; obtain ⟨r', d', w'⟩ := x; simp
theorem any_cont (bs : List Br) (v : Br) : (bs.any fun x => decide (v = x)) = bs.contains v := by
  rw [Bool.eq_iff_iff, List.any_eq_true, List.contains_iff_mem]
  constructor
  · rintro ⟨x, hx, h⟩; rw [decide_eq_true_eq] at h; subst h; exact hx
  · intro h; exact ⟨v, h, by simp⟩
theorem nat_beq (a b : Nat) : (a == b) = (((a : Nat) : Int) == (b : Int)) := by
  rw [Bool.eq_iff_iff, beq_iff_eq, beq_iff_eq]; omega
theorem nat_beq0 {ks : List Pr} {n : Nat} (h : ks.length = n) : ((n : Int) == 0) = (ks.length == 0) := by
  rw [Bool.eq_iff_iff, beq_iff_eq, beq_iff_eq]; omega
mutual
/-- No proof in a proof has more than a hundred thousand kids. -/
def smlP : Pr → Prop
  | .mk _ _ _ ks => ks.length ≤ 100000 ∧ smlL ks
def smlL : List Pr → Prop
  | [] => True
  | k :: ks => smlP k ∧ smlL ks
end
theorem smlL_mem : ∀ {ks : List Pr}, smlL ks → ∀ {k : Pr}, k ∈ ks → smlP k
  | [], _, k, h => by cases h
  | a :: ks, H, k, h => by
    unfold smlL at H
    rcases List.mem_cons.1 h with rfl | h
    · exact H.1
    · exact smlL_mem H.2 h
end Go.Proofs.YtehkiccapbkhnaaGreat
end
section
namespace Go.Proofs.YtehkiccapbkhnaaGreat
open Go Go.Kn Go.Proofs
theorem eqt_91 : EqT Tryz.prog 91 [.int, .int, .int] := ⟨by kernel_rfl, by kernel_rfl, by kernel_rfl, by kernel_rfl⟩
theorem fld_45_0 : FieldAt Tryz.prog 45 0 0 := .of (by kernel_rfl)
theorem fld_45_1 : FieldAt Tryz.prog 45 1 1 := .of (by kernel_rfl)
theorem fld_45_2 : FieldAt Tryz.prog 45 2 2 := .of (by kernel_rfl)
theorem fun_104 : Fun Tryz.prog 104 := .of Tryz.func104 (by kernel_rfl) (by kernel_rfl)
theorem fun_68 : Fun Tryz.prog 68 := .of Tryz.func68 (by kernel_rfl) (by kernel_rfl)
theorem sct_104 : ScT Tryz.prog 104 := .of (by kernel_rfl)
theorem szt_104 : SzT Tryz.prog 104 1 := .of (by kernel_rfl)
theorem zt_104 : ZeroT Tryz.prog 104 .nilFunc := .of (by kernel_rfl)
theorem w_ixB {I : HMap} {av : Option Addr} {n c : Nat} {bs : List Br} (hS : Sl I 3 encBr av n c bs) (hn : n ≤ 100000) (v : Br) : RetV Tryz.prog 104 [.slice av n c, encBrA v] I (.int .i64 (idxF (fun x => decide (v = x)) bs)) := by
 intro g H w hw
 refine enter Tryz.func104 rfl Tryz.ntmps104 rfl hw ?_
 have hIc := HLe.refl I
 refine zR ?_
 refine XO_box rfl rfl rfl (fun b_3 => ?_)
 refine zA ?_
 refine zN ?_
 refine X_seq ?_
 refine X_seq ?_
 refine X_freeze .here (fun I1 hI1 hb1 => ?_)
 have hS := hS.mono hI1; have hIc := hIc.trans hI1
 have h3 := ImmC.of hb1
 refine X_region ?_
 refine zM ?_
 refine XO_v0 (ev_lenS rfl slt_88) rfl rfl rfl ?_
 refine zM ?_
 refine zN ?_
 refine X_block ?_
 refine X_loopT [(0, _), (3, _), (7, _)] (.cons rfl (.cons rfl (.cons rfl .nil))) (fun T L0 mz E I' loc' => ∃ (k : Nat), mz = n - k ∧ E = (8, .int .i64 k) :: T ∧ I1 = I' ∧ L0 = loc' ∧ k ≤ n ∧ (bs.take k).any (fun x => decide (v = x)) = false) _ _ _ _ ⟨0, rfl, rfl, rfl, rfl, Nat.zero_le _, rfl⟩ (.cons rfl (.cons rfl (.cons rfl (.cons rfl .nil)))) (HLe.refl _) rfl ?_
 rintro mz E I' loc' ⟨k, rfl, rfl, rfl, rfl, hk, hno⟩
 refine zR ?_
 refine zC ?_
 refine zN ?_
 refine X_seq ?_
 refine X_cond rfl (fun hc9 => ?_) (fun hc9 => ?_)
 ·
  have hlt_k : k < n := by have h := hc9; simp at h; omega
  obtain ⟨x, hx⟩ := hS.at hlt_k
  refine X_skip ?_
  refine at_then ?_
  refine X_seq ?_
  refine X_block ?_
  refine zR ?_
  refine zM ?_
  refine zA ?_
  refine zN ?_
  refine X_seq ?_
  refine X_draw mixed (by kernel_rfl) ?_
  refine XQ_v0 (ev_loadA rfl agt_91 (fun hg => by first | exact Cells.immC h3 | exact Sl.getA hS hx | (repeat (first | exact Cells.here | exact Cells.s0 (vs := [_, _, _]) rfl | apply Cells.there | apply Cells.app))) rfl) rfl rfl rfl ?_
  refine XQ_v0 (ev_move rfl) rfl rfl rfl ?_
  refine XQ_v0 (ev_move rfl) rfl rfl rfl ?_
  refine XQ_v0 (ev_indexSl rfl rfl slt_88 (by assumption) (fun hg => by first | omega | (simp [conj] at hg; omega))) rfl rfl rfl ?_
  refine XQ_v0 (ev_loadA rfl agt_91 (fun hg => by first | exact Cells.immC h3 | exact Sl.getA hS hx | (repeat (first | exact Cells.here | exact Cells.s0 (vs := [_, _, _]) rfl | apply Cells.there | apply Cells.app))) rfl) rfl rfl rfl ?_
  refine XQ_v0 (v := .bool (decide (v = x))) (ev_eqS (us := encBr v) (vs := encBr x) rfl rfl eqt_91 ((show eqKs _ (encBr v) (encBr x) = some (v.r == x.r && (v.d == x.d && (v.w == x.w && true))) from rfl).trans (congrArg some (brEq v x)))) rfl rfl rfl ?_
  refine XQ_nil ?_
  refine at_then ?_
  refine X_cond rfl (fun hc16 => ?_) (fun hc16 => ?_)
  ·
   refine zR ?_
   refine zM ?_
   refine zA ?_
   refine zN ?_
   refine X_ret ?_
   refine at_block_r ?_
   refine at_then_r ?_
   refine at_then_r ?_
   refine at_block_r ?_
   refine at_then_r ?_
   exact at_ret1 rfl rfl (fun w hw => ⟨by rw [idx_hit hno hx hc16], (hw.mono hIc).drop⟩)
  refine X_skip ?_
  refine at_block_n ?_
  refine at_then ?_
  refine X_region ?_
  refine zB ?_
  refine zM ?_
  refine XO_nil ?_
  exact at_met2 _ _ ⟨n - (k + 1), by omega, k + 1, rfl, rfl, rfl, rfl, by omega, any_no hx hno hc16⟩ (.cons rfl (.cons rfl (.cons rfl (.cons rfl .nil)))) (by repeat (first | exact .refl | exact subL_left | refine subL_app ?_ | refine .drop ?_ | refine subL_add ?_))
 have hge_k : n ≤ k := by have h := hc9; simp at h; omega
 refine X_exit ?_
 refine at_then_e ?_
 refine at_then_e ?_
 refine at_block_hit ?_
 refine at_then ?_
 refine zR ?_
 refine zA ?_
 refine zN ?_
 refine X_ret ?_
 exact at_ret1 rfl rfl (fun w hw => ⟨by rw [idx_none hS.len hge_k hno], (hw.mono hIc).drop⟩)
theorem w_cnB {I : HMap} {av : Option Addr} {n c : Nat} {bs : List Br} (hS : Sl I 3 encBr av n c bs) (hn : n ≤ 100000) (v : Br) : RetV Tryz.prog 68 [.slice av n c, encBrA v] I (.bool (bs.contains v)) := by
 intro g H w hw
 refine enter Tryz.func68 rfl Tryz.ntmps68 rfl hw ?_
 have hIc := HLe.refl I
 refine zR ?_
 refine XO_box rfl rfl rfl (fun b_3 => ?_)
 refine zA ?_
 refine zN ?_
 refine X_seq ?_
 refine X_freeze .here (fun I1 hI1 hb1 => ?_)
 have hS := hS.mono hI1; have hIc := hIc.trans hI1
 have h3 := ImmC.of hb1
 refine X_region ?_
 refine zM ?_
 refine XO_v0 (ev_loadA rfl agt_91 (fun hg => by first | exact Cells.immC h3 | (repeat (first | exact Cells.here | exact Cells.s0 (vs := [_, _, _]) rfl | apply Cells.there | apply Cells.app))) rfl) rfl rfl rfl ?_
 refine XO_callV0 (cap := []) (vs := [_, _]) rfl rfl fun_104 (w_ixB hS hn v) rfl rfl ?_
 refine zC ?_
 refine zA ?_
 refine zN ?_
 refine X_ret ?_
 exact at_ret1 rfl rfl (fun w hw => ⟨by rw [← any_cont, ← idx_any], (hw.mono hIc).drop⟩)
theorem w_proves_step {I : HMap} {x : CH} {cr : Cr} (hC : CrAt I x cr) (hr : rightF cr = true) (h16 : cr.days.length ≤ 16) (h8 : cr.ss.length ≤ 8) (hwh : ∀ s ∈ cr.ss, s.who.length ≤ 6) (hnd : ∀ s ∈ cr.ss, s.needs.length ≤ 100000) {bc bl bf : Nat} {last : Int} (hl9 : last ≤ cr.days.length) (hbc : ImmC I bc (.cells (encCH x).toArray 33 (0, 0))) (hbl : ImmC I bl (.cells #[.int .i64 last] 3 (0, 0))) (hbf : ImmC I bf (.cells #[.func (.func 67) #[] [capP bc, capP bl, capP bf].toArray] 104 (0, 0))) {av : Option Addr} {n c : Nat} {pl : List Int} (hS : Sl I 1 encI av n c pl) (hlen : pl.length ≤ cr.ss.length) (hin : InR cr pl) {r d wz : Int} {ks : List Pr} {ka : Option Addr} {kn kc : Nat} {hs9 : List PH} (hK : Sl I 4 encPH ka kn kc hs9) (hks : PrsAt I hs9 ks) (hkn : kn ≤ 100000) (ih : ∀ k ∈ ks, ∀ (I' : HMap), HLe I I' → ∀ (av' : Option Addr) (n' c' : Nat) (pl' : List Int), Sl I' 1 encI av' n' c' pl' → pl'.length ≤ cr.ss.length → InR cr pl' → ∀ (h' : PH), PrAt I' h' k → RetV Tryz.prog 67 ([.slice av' n' c', encPHA h'] ++ [capP bc, capP bl, capP bf]) I' (.bool (provesF cr last k pl'))) : RetV Tryz.prog 67 [.slice av n c, encPHA ⟨r, d, wz, ka, kn, kc⟩, capP bc, capP bl, capP bf] I (.bool (provesF cr last (.mk r d wz ks) pl)) := by
 intro g H w hw
 refine enter Tryz.func67 rfl Tryz.ntmps67 rfl hw ?_
 have hIc := HLe.refl I
 have hlP := hS.len
 have hlS : cr.ss.length = x.n2 := hC.2.2.2.2.2.len
 have hlK : ks.length = kn := by rw [← hks.len]; exact hK.len
 refine zR ?_
 refine XO_box rfl rfl rfl (fun b_6 => ?_)
 refine zA ?_
 refine zN ?_
 refine X_seq ?_
 refine X_seq ?_
 refine X_freeze .here (fun I1 hI1 hb1 => ?_)
 have hC := hC.mono hI1; have hS := hS.mono hI1; have hbc := hbc.mono hI1; have hbl := hbl.mono hI1; have hbf := hbf.mono hI1; have hK := hK.mono hI1; have hks := hks.mono hI1; have hIc := hIc.trans hI1
 have h6 := ImmC.of hb1
 refine X_region ?_
 refine XO_v0 (ev_fieldAddr rfl fld_45_0) rfl rfl rfl ?_
 refine XO_v0 (ev_load rfl sct_3 (fun hg => by first | exact Cell.imm hbc rfl | exact Cell.imm hbl rfl | exact Cell.imm hbf rfl | exact Cell.imm h6 rfl | (repeat (first | exact Cell.here rfl | apply Cell.there | apply Cell.app)))) rfl rfl rfl ?_
 refine zC ?_
 refine zN ?_
 refine X_cond rfl (fun hc12 => ?_) (fun hc12 => ?_)
 ·
  have hr0 : (r != 0) = true := hc12
  refine X_seq ?_
  rcases Bool.eq_false_or_eq_true ((kn : Int) == 0) with h0 | h0
  ·
   have hD := HLe.refl I1
   refine X_drawC mixed ?_
   refine zT 0 rfl (ev_fieldAddr rfl fld_45_3) hD ?_
   refine zT 1 rfl (ev_load rfl sct_35 (fun hg => by first | exact Cell.imm hbc rfl | exact Cell.imm hbl rfl | exact Cell.imm hbf rfl | exact Cell.imm h6 rfl | (repeat (first | exact Cell.here rfl | apply Cell.there | apply Cell.app)))) hD ?_
   refine zT 2 rfl (ev_lenS rfl slt_35) hD ?_
   refine zT 3 rfl (ev_cmp rfl rfl rfl) hD ?_
   rw [h0]
   refine zT 4 rfl (ev_move rfl) hD ?_
   refine XD_takeW 5 rfl rfl rfl (dj := 17) rfl (ev_loadA rfl agt_33 (fun hg => by first | exact Cells.immC hbc | exact Cells.immC (vs := encPH kh) h9 | exact Sl.getA hK hkh | (repeat (first | exact Cells.here | exact Cells.s0 (vs := [_, _, _, _, _, _]) rfl | apply Cells.there | apply Cells.app))) rfl) rfl (by kernel_rfl) (by kernel_rfl) (by kernel_rfl) noP_ok hD (by repeat (first | exact .refl | exact subL_nil | refine .keep ?_ | refine .drop ?_ | refine subL_add ?_)) ?_
   refine XD_takeW 6 rfl rfl rfl (dj := 17) rfl (ev_move rfl) rfl (by kernel_rfl) (by kernel_rfl) (by kernel_rfl) noP_ok hD (by repeat (first | exact .refl | exact subL_nil | refine .keep ?_ | refine .drop ?_ | refine subL_add ?_)) ?_
   refine XD_takeW 8 rfl rfl rfl (dj := 17) rfl (ev_fieldAddr rfl fld_45_0) rfl (by kernel_rfl) (by kernel_rfl) (by kernel_rfl) noP_ok hD (by repeat (first | exact .refl | exact subL_nil | refine .keep ?_ | refine .drop ?_ | refine subL_add ?_)) ?_
   refine XD_takeW 9 rfl rfl rfl (dj := 17) rfl (ev_load rfl sct_3 (fun hg => by first | exact Cell.imm hbc rfl | exact Cell.imm hbl rfl | exact Cell.imm hbf rfl | exact Cell.imm h6 rfl | (repeat (first | exact Cell.here rfl | apply Cell.there | apply Cell.app)))) rfl (by kernel_rfl) (by kernel_rfl) (by kernel_rfl) noP_ok hD (by repeat (first | exact .refl | exact subL_nil | refine .keep ?_ | refine .drop ?_ | refine subL_add ?_)) ?_
   refine XD_takeW 10 rfl rfl rfl (dj := 17) rfl (ev_fieldAddr rfl fld_45_1) rfl (by kernel_rfl) (by kernel_rfl) (by kernel_rfl) noP_ok hD (by repeat (first | exact .refl | exact subL_nil | refine .keep ?_ | refine .drop ?_ | refine subL_add ?_)) ?_
   refine XD_takeW 11 rfl rfl rfl (dj := 17) rfl (ev_load rfl sct_3 (fun hg => by first | exact Cell.imm hbc rfl | exact Cell.imm hbl rfl | exact Cell.imm hbf rfl | exact Cell.imm h6 rfl | (repeat (first | exact Cell.here rfl | apply Cell.there | apply Cell.app)))) rfl (by kernel_rfl) (by kernel_rfl) (by kernel_rfl) noP_ok hD (by repeat (first | exact .refl | exact subL_nil | refine .keep ?_ | refine .drop ?_ | refine subL_add ?_)) ?_
   refine XD_takeW 12 rfl rfl rfl (dj := 17) rfl (ev_fieldAddr rfl fld_45_2) rfl (by kernel_rfl) (by kernel_rfl) (by kernel_rfl) noP_ok hD (by repeat (first | exact .refl | exact subL_nil | refine .keep ?_ | refine .drop ?_ | refine subL_add ?_)) ?_
   refine XD_takeW 13 rfl rfl rfl (dj := 17) rfl (ev_load rfl sct_3 (fun hg => by first | exact Cell.imm hbc rfl | exact Cell.imm hbl rfl | exact Cell.imm hbf rfl | exact Cell.imm h6 rfl | (repeat (first | exact Cell.here rfl | apply Cell.there | apply Cell.app)))) rfl (by kernel_rfl) (by kernel_rfl) (by kernel_rfl) noP_ok hD (by repeat (first | exact .refl | exact subL_nil | refine .keep ?_ | refine .drop ?_ | refine subL_add ?_)) ?_
   refine XD_takeW 14 rfl rfl rfl (dj := 17) rfl (ev_buildL (ps := [(0, _), (1, _), (2, _)]) [_, _, _] plt_91 rfl rfl) rfl (by kernel_rfl) (by kernel_rfl) (by kernel_rfl) noP_ok hD (by repeat (first | exact .refl | exact subL_nil | refine .keep ?_ | refine .drop ?_ | refine subL_add ?_)) ?_
   refine XD_one 7 rfl (by kernel_rfl) ?_
   refine XO_want (dj := 17) rfl rfl rfl ?_
   refine XO_callM (cap := []) (vs := [_, _]) rfl rfl fun_55 .nil (w_broken hC hr h16 h8 hwh hnd hS (by omega) hin) rfl rfl ?_
   rintro vv2 I2 L2 hI2 ⟨rfl, ab9, cb9, rfl, hB9⟩
   have hC := hC.mono hI2; have hS := hS.mono hI2; have hbc := hbc.mono hI2; have hbl := hbl.mono hI2; have hbf := hbf.mono hI2; have hK := hK.mono hI2; have hks := hks.mono hI2; have h6 := h6.mono hI2; have hIc := hIc.trans hI2; have hD := hD.trans hI2
   rw [List.nil_append]
   refine XO_nil ?_
   refine zD hD ?_
   refine XD_one 15 rfl (by kernel_rfl) ?_
   refine XO_want (dj := 17) rfl rfl rfl ?_
   refine XO_callV0 (cap := []) (vs := [_, _]) rfl rfl fun_68 (w_cnB hB9 (by have := brkL_len h16 pl; omega) ⟨r, d, wz⟩) rfl rfl ?_
   refine XO_nil ?_
   refine zD hD ?_
   refine zT 16 rfl (ev_pickb rfl rfl rfl) hD ?_
   refine zT 17 rfl (ev_assign rfl) hD ?_
   refine XD_done (by kernel_rfl) ?_
   refine at_noP ?_
   refine at_then ?_
   refine X_ret ?_
   refine at_then_r ?_
   first
   | exact at_ret1 rfl rfl (fun w hw => ⟨by rw [provesF, if_pos hr0, ← nat_beq0 hlK, h0]; rfl, (hw.mono hIc).drop⟩)
  have hD := HLe.refl I1
  refine X_drawC mixed ?_
  refine zT 0 rfl (ev_fieldAddr rfl fld_45_3) hD ?_
  refine zT 1 rfl (ev_load rfl sct_35 (fun hg => by first | exact Cell.imm hbc rfl | exact Cell.imm hbl rfl | exact Cell.imm hbf rfl | exact Cell.imm h6 rfl | (repeat (first | exact Cell.here rfl | apply Cell.there | apply Cell.app)))) hD ?_
  refine zT 2 rfl (ev_lenS rfl slt_35) hD ?_
  refine zT 3 rfl (ev_cmp rfl rfl rfl) hD ?_
  rw [h0]
  refine zT 4 rfl (ev_move rfl) hD ?_
  refine XD_skipW 5 rfl rfl rfl (dj := 17) rfl rfl (by intro c e; cases e) rfl (by kernel_rfl) (by kernel_rfl) (by kernel_rfl) noP_ok hD (by repeat (first | exact .refl | exact subL_nil | refine .keep ?_ | refine .drop ?_ | refine subL_add ?_)) ?_
  refine XD_skipW 6 rfl rfl rfl (dj := 17) rfl rfl (by intro c e; cases e) rfl (by kernel_rfl) (by kernel_rfl) (by kernel_rfl) noP_ok hD (by repeat (first | exact .refl | exact subL_nil | refine .keep ?_ | refine .drop ?_ | refine subL_add ?_)) ?_
  refine XD_skipW 7 rfl rfl rfl (dj := 17) rfl rfl (by intro c e; cases e) rfl (by kernel_rfl) (by kernel_rfl) (by kernel_rfl) noP_ok hD (by repeat (first | exact .refl | exact subL_nil | refine .keep ?_ | refine .drop ?_ | refine subL_add ?_)) ?_
  refine XD_skipW 8 rfl rfl rfl (dj := 17) rfl rfl (by intro c e; cases e) rfl (by kernel_rfl) (by kernel_rfl) (by kernel_rfl) noP_ok hD (by repeat (first | exact .refl | exact subL_nil | refine .keep ?_ | refine .drop ?_ | refine subL_add ?_)) ?_
  refine XD_skipW 9 rfl rfl rfl (dj := 17) rfl rfl (by intro c e; cases e) rfl (by kernel_rfl) (by kernel_rfl) (by kernel_rfl) noP_ok hD (by repeat (first | exact .refl | exact subL_nil | refine .keep ?_ | refine .drop ?_ | refine subL_add ?_)) ?_
  refine XD_skipW 10 rfl rfl rfl (dj := 17) rfl rfl (by intro c e; cases e) rfl (by kernel_rfl) (by kernel_rfl) (by kernel_rfl) noP_ok hD (by repeat (first | exact .refl | exact subL_nil | refine .keep ?_ | refine .drop ?_ | refine subL_add ?_)) ?_
  refine XD_skipW 11 rfl rfl rfl (dj := 17) rfl rfl (by intro c e; cases e) rfl (by kernel_rfl) (by kernel_rfl) (by kernel_rfl) noP_ok hD (by repeat (first | exact .refl | exact subL_nil | refine .keep ?_ | refine .drop ?_ | refine subL_add ?_)) ?_
  refine XD_skipW 12 rfl rfl rfl (dj := 17) rfl rfl (by intro c e; cases e) rfl (by kernel_rfl) (by kernel_rfl) (by kernel_rfl) noP_ok hD (by repeat (first | exact .refl | exact subL_nil | refine .keep ?_ | refine .drop ?_ | refine subL_add ?_)) ?_
  refine XD_skipW 13 rfl rfl rfl (dj := 17) rfl rfl (by intro c e; cases e) rfl (by kernel_rfl) (by kernel_rfl) (by kernel_rfl) noP_ok hD (by repeat (first | exact .refl | exact subL_nil | refine .keep ?_ | refine .drop ?_ | refine subL_add ?_)) ?_
  refine XD_skipW 14 rfl rfl rfl (dj := 17) rfl rfl (by intro c e; cases e) rfl (by kernel_rfl) (by kernel_rfl) (by kernel_rfl) noP_ok hD (by repeat (first | exact .refl | exact subL_nil | refine .keep ?_ | refine .drop ?_ | refine subL_add ?_)) ?_
  refine XD_skipW 15 rfl rfl rfl (dj := 17) rfl rfl (by intro c e; cases e) rfl (by kernel_rfl) (by kernel_rfl) (by kernel_rfl) noP_ok hD (by repeat (first | exact .refl | exact subL_nil | refine .keep ?_ | refine .drop ?_ | refine subL_add ?_)) ?_
  refine zT 16 rfl (ev_pick rfl rfl rfl) hD ?_
  refine zT 17 rfl (ev_assign rfl) hD ?_
  refine XD_done (by kernel_rfl) ?_
  refine at_noP ?_
  refine at_then ?_
  refine X_ret ?_
  refine at_then_r ?_
  first
  | exact at_ret1 rfl rfl (fun w hw => ⟨by rw [provesF, if_pos hr0, ← nat_beq0 hlK, h0]; rfl, (hw.mono hIc).drop⟩)
 have hr0 : (r != 0) = false := hc12
 refine X_skip ?_
 refine at_then ?_
 refine X_seq ?_
 refine zR ?_
 refine XO_v0 (ev_fieldAddr rfl fld_45_1) rfl rfl rfl ?_
 refine XO_v0 (ev_load rfl sct_3 (fun hg => by first | exact Cell.imm hbc rfl | exact Cell.imm hbl rfl | exact Cell.imm hbf rfl | exact Cell.imm h6 rfl | (repeat (first | exact Cell.here rfl | apply Cell.there | apply Cell.app)))) rfl rfl rfl ?_
 refine zC ?_
 refine zM ?_
 refine XO_pushF 3 rfl rfl rfl ?_
 refine XO_v1 (ev_fieldAddr rfl fld_45_2) (.some rfl rfl rfl rfl gbf) rfl rfl rfl ?_
 refine XO_v1 (ev_load rfl sct_3 (fun hg => by first | exact Cell.imm hbc rfl | exact Cell.imm hbl rfl | exact Cell.imm hbf rfl | exact Cell.imm h6 rfl | (repeat (first | exact Cell.here rfl | apply Cell.there | apply Cell.app)))) (.some rfl rfl rfl rfl gbf) rfl rfl rfl ?_
 refine XO_v1 (ev_cmp rfl rfl rfl) (.some rfl rfl rfl rfl gbf) rfl rfl rfl ?_
 refine XO_or0 rfl rfl rfl rfl rfl ?_
 refine zM ?_
 refine XO_pushF 8 rfl rfl rfl ?_
 refine XO_v1 (ev_move rfl) (.some rfl rfl rfl rfl gbf) rfl rfl rfl ?_
 refine XO_v1 (ev_lenS rfl slt_23) (.some rfl rfl rfl rfl gbf) rfl rfl rfl ?_
 refine XO_v1 (ev_fieldAddr rfl fld_33_5) (.some rfl rfl rfl rfl gbf) rfl rfl rfl ?_
 refine XO_v1 (ev_load rfl sct_27 (fun hg => by first | exact Cell.imm hbc rfl | exact Cell.imm hbl rfl | exact Cell.imm hbf rfl | exact Cell.imm h6 rfl | (repeat (first | exact Cell.here rfl | apply Cell.there | apply Cell.app)))) (.some rfl rfl rfl rfl gbf) rfl rfl rfl ?_
 refine XO_v1 (ev_lenS rfl slt_27) (.some rfl rfl rfl rfl gbf) rfl rfl rfl ?_
 refine XO_v1 (ev_cmp rfl rfl rfl) (.some rfl rfl rfl rfl gbf) rfl rfl rfl ?_
 refine XO_or0 rfl rfl rfl rfl rfl ?_
 refine zM ?_
 refine XO_pushF 16 rfl rfl rfl ?_
 refine XO_v1 (ev_fieldAddr rfl fld_45_3) (.some rfl rfl rfl rfl gbf) rfl rfl rfl ?_
 refine XO_v1 (ev_load rfl sct_35 (fun hg => by first | exact Cell.imm hbc rfl | exact Cell.imm hbl rfl | exact Cell.imm hbf rfl | exact Cell.imm h6 rfl | (repeat (first | exact Cell.here rfl | apply Cell.there | apply Cell.app)))) (.some rfl rfl rfl rfl gbf) rfl rfl rfl ?_
 refine XO_v1 (ev_lenS rfl slt_35) (.some rfl rfl rfl rfl gbf) rfl rfl rfl ?_
 refine XO_v1 (ev_load rfl sct_3 (fun hg => by first | exact Cell.imm hbc rfl | exact Cell.imm hbl rfl | exact Cell.imm hbf rfl | exact Cell.imm h6 rfl | (repeat (first | exact Cell.here rfl | apply Cell.there | apply Cell.app)))) (.some rfl rfl rfl rfl gbf) rfl rfl rfl ?_
 refine XO_v1 (ev_cmp rfl rfl rfl) (.some rfl rfl rfl rfl gbf) rfl rfl rfl ?_
 refine XO_or0 rfl rfl rfl rfl rfl ?_
 refine zN ?_
 refine X_cond rfl (fun hc52 => ?_) (fun hc52 => ?_)
 ·
  have hq : (d != 0 || wz != 0 || (pl.length == cr.ss.length) || ((ks.length : Int) != last)) = true := by rw [hlK, hlP, hlS]; rw [nat_beq]; exact hc52
  refine zR ?_
  refine zA ?_
  refine zN ?_
  refine X_ret ?_
  refine at_then_r ?_
  first
  | exact at_ret1 rfl rfl (fun w hw => ⟨by rw [provesF, if_neg (by rw [hr0]; decide), if_pos hq], (hw.mono hIc).drop⟩)
 have hq : (d != 0 || wz != 0 || (pl.length == cr.ss.length) || ((ks.length : Int) != last)) = false := by rw [hlK, hlP, hlS]; rw [nat_beq]; exact hc52
 have hq2 : pl.length ≠ cr.ss.length ∧ (ks.length : Int) = last := by simp only [Bool.or_eq_false_iff, beq_eq_false_iff_ne, bne_eq_false_iff_eq] at hq; exact ⟨hq.1.2, hq.2⟩
 refine X_skip ?_
 refine at_then ?_
 refine X_seq ?_
 refine zR ?_
 refine XO_v0 (ev_fieldAddr rfl fld_45_3) rfl rfl rfl ?_
 refine XO_v0 (ev_load rfl sct_35 (fun hg => by first | exact Cell.imm hbc rfl | exact Cell.imm hbl rfl | exact Cell.imm hbf rfl | exact Cell.imm h6 rfl | (repeat (first | exact Cell.here rfl | apply Cell.there | apply Cell.app)))) rfl rfl rfl ?_
 refine XO_v0 (ev_lenS rfl slt_35) rfl rfl rfl ?_
 refine zM ?_
 refine zN ?_
 refine X_block ?_
 refine X_loopT [(0, _), (4, _), (54, _), (55, _)] (.cons rfl (.cons rfl (.cons rfl (.cons rfl .nil)))) (fun T L0 mz E I' loc' => ∃ (k : Nat), mz = kn - k ∧ E = (56, .int .i64 k) :: T ∧ HLe I1 I' ∧ L0 = loc' ∧ k ≤ kn ∧ provesL cr last ks 0 pl = provesL cr last (ks.drop k) k pl) _ _ _ _ ⟨0, rfl, rfl, HLe.refl _, rfl, Nat.zero_le _, rfl⟩ (.cons rfl (.cons rfl (.cons rfl (.cons rfl (.cons rfl .nil))))) (HLe.refl _) rfl ?_
 rintro mz E J3 loc' ⟨k, rfl, rfl, hJ, rfl, hk, hpv⟩
 have hC := hC.mono hJ; have hS := hS.mono hJ; have hbc := hbc.mono hJ; have hbl := hbl.mono hJ; have hbf := hbf.mono hJ; have hK := hK.mono hJ; have hks := hks.mono hJ; have h6 := h6.mono hJ; have hIc := hIc.trans hJ
 have hB0 := hJ
 refine zR ?_
 refine zC ?_
 refine zN ?_
 refine X_seq ?_
 refine X_cond rfl (fun hc57 => ?_) (fun hc57 => ?_)
 ·
  have hlt_k : k < kn := by have h := hc57; simp at h; omega
  obtain ⟨kh, hkh⟩ := hK.at hlt_k
  obtain ⟨kk, hkk, hka⟩ := hks.at k kh hkh
  refine X_skip ?_
  refine at_then ?_
  refine X_seq ?_
  refine X_block ?_
  refine zR ?_
  refine zM ?_
  refine XO_v0 (ev_indexSl rfl rfl slt_35 hK (fun hg => by first | omega | (simp [conj] at hg; omega) | (dsimp only; omega))) rfl rfl rfl ?_
  refine XO_v0 (ev_loadA rfl agt_45 (fun hg => by first | exact Cells.immC hbc | exact Cells.immC (vs := encPH kh) h9 | exact Sl.getA hK hkh | (repeat (first | exact Cells.here | exact Cells.s0 (vs := [_, _, _, _]) rfl | apply Cells.there | apply Cells.app))) rfl) rfl rfl rfl ?_
  refine XO_alloc zt_45 rfl rfl (fun b_9 => ?_)
  refine zA ?_
  refine XO_storeA rfl rfl szt_45 rfl rfl rfl rfl (by repeat (first | exact Upd.here | apply Upd.there | apply upd_app)) ?_
  refine zN ?_
  refine X_seq ?_
  refine X_freeze .here (fun I4 hI4 hb4 => ?_)
  have hC := hC.mono hI4; have hS := hS.mono hI4; have hbc := hbc.mono hI4; have hbl := hbl.mono hI4; have hbf := hbf.mono hI4; have hK := hK.mono hI4; have hks := hks.mono hI4; have h6 := h6.mono hI4; have hka := hka.mono hI4; have hIc := hIc.trans hI4; have hB0 := hB0.trans hI4
  have h9 := ImmC.of hb4
  have hD := HLe.refl I4
  refine X_drawC mixed ?_
  refine zT 0 rfl (ev_load rfl sct_104 (fun hg => by first | exact Cell.imm hbc rfl | exact Cell.imm hbl rfl | exact Cell.imm hbf rfl | exact Cell.imm h6 rfl | (repeat (first | exact Cell.here rfl | apply Cell.there | apply Cell.app)))) hD ?_
  refine zT 1 rfl (ev_move rfl) hD ?_
  refine zT 2 rfl (ev_move rfl) hD ?_
  refine zT 3 rfl (ev_lenS rfl slt_23) hD ?_
  refine zT 4 rfl (ev_move rfl) hD ?_
  refine zT 5 rfl (ev_lenS rfl slt_23) hD ?_
  refine zT 6 rfl (ev_sliceM rfl rfl rfl slt_23 (fun _ => by have := hS.cap; omega)) hD ?_
  refine zT 7 rfl (ev_move rfl) hD ?_
  refine zT 10 rfl (ev_loadA rfl agt_45 (fun hg => by first | exact Cells.immC hbc | exact Cells.immC (vs := encPH kh) h9 | exact Sl.getA hK hkh | (repeat (first | exact Cells.here | exact Cells.s0 (vs := [_, _, _, _]) rfl | apply Cells.there | apply Cells.app))) rfl) hD ?_
  refine XD_one 8 rfl (by kernel_rfl) ?_
  refine XO_buildSlice (ps := [(0, _)]) (m := [encI (k : Int)]) elt_23 rfl (.cons rfl (.nil)) rfl (by simp [encI_len]) (by decide) (by decide) rfl rfl (fun b_69 => ?_)
  refine XO_freeze (by repeat (first | exact Take.here | apply Take.there)) (fun I5 hI5 hb5 => ?_)
  have hC := hC.mono hI5; have hS := hS.mono hI5; have hbc := hbc.mono hI5; have hbl := hbl.mono hI5; have hbf := hbf.mono hI5; have hK := hK.mono hI5; have hks := hks.mono hI5; have h6 := h6.mono hI5; have hka := hka.mono hI5; have h9 := h9.mono hI5; have hIc := hIc.trans hI5; have hB0 := hB0.trans hI5
  have hD := hD.trans hI5
  have hY := Sl.lit [(k : Int)] rfl encI_len (show I5 _ = some (Obj.cells (([(k : Int)] : List Int).flatMap encI).toArray 3 (0, 0)) from hb5)
  refine XO_nil ?_
  refine zD hD ?_
  refine XD_one 9 rfl (by kernel_rfl) ?_
  refine XO_appendCut encI_len (by decide) rfl rfl elt_23 hS.cut hY (by omega) rfl rfl ?_
  intro I6 ac cc hI6 hZ
  have hC := hC.mono hI6; have hS := hS.mono hI6; have hbc := hbc.mono hI6; have hbl := hbl.mono hI6; have hbf := hbf.mono hI6; have hK := hK.mono hI6; have hks := hks.mono hI6; have h6 := h6.mono hI6; have hka := hka.mono hI6; have h9 := h9.mono hI6; have hY := hY.mono hI6; have hIc := hIc.trans hI6
  have hB0 := hB0.trans hI6; have hD := hD.trans hI6
  refine XO_nil ?_
  refine zD hD ?_
  refine XD_one 11 rfl (by kernel_rfl) ?_
  refine XO_callV0 (cap := [capP bc, capP bl, capP bf]) (vs := [_, _]) rfl rfl fun_67 (ih kk (List.mem_of_getElem? hkk) _ hIc ac (n + 1) cc _ hZ (by rw [List.length_append, List.length_singleton]; omega) (fun e he => by rcases List.mem_append.1 he with he | he; exact hin e he; (rw [List.mem_singleton] at he; subst he; exact ⟨by omega, by omega⟩)) kh hka) rfl rfl ?_
  refine XO_nil ?_
  refine zD hD ?_
  refine zT 12 rfl (ev_not rfl) hD ?_
  refine XD_done (by kernel_rfl) ?_
  refine at_noP ?_
  refine at_then ?_
  refine X_cond rfl (fun hc73 => ?_) (fun hc73 => ?_)
  ·
   refine zR ?_
   refine zA ?_
   refine zN ?_
   refine X_ret ?_
   refine at_block_r ?_
   refine at_then_r ?_
   refine at_then_r ?_
   refine at_block_r ?_
   refine at_then_r ?_
   first
   | exact at_ret1 rfl rfl (fun w hw => ⟨by rw [provesF, if_neg (by rw [hr0]; decide), if_neg (by rw [hq]; decide), hpv, provesL_bad hkk (by simpa using hc73)], (hw.mono hIc).drop⟩)
  refine X_skip ?_
  refine at_block_n ?_
  refine at_then ?_
  refine X_region ?_
  refine zB ?_
  refine zM ?_
  refine XO_nil ?_
  exact at_met2 _ _ ⟨kn - (k + 1), by omega, k + 1, rfl, rfl, hB0, rfl, by omega, by rw [hpv, provesL_step hkk (by simpa using hc73)]⟩ (.cons rfl (.cons rfl (.cons rfl (.cons rfl (.cons rfl .nil))))) (by repeat (first | exact .refl | exact subL_left | refine subL_app ?_ | refine .drop ?_ | refine subL_add ?_))
 have hge_k : kn ≤ k := by have h := hc57; simp at h; omega
 refine X_exit ?_
 refine at_then_e ?_
 refine at_then_e ?_
 refine at_block_hit ?_
 refine at_then ?_
 refine zR ?_
 refine zA ?_
 refine zN ?_
 refine X_ret ?_
 first
 | exact at_ret1 rfl rfl (fun w hw => ⟨by rw [provesF, if_neg (by rw [hr0]; decide), if_neg (by rw [hq]; decide), hpv, provesL_end (by omega)], (hw.mono hIc).drop⟩)
theorem w_proves {cr : Cr} (hr : rightF cr = true) (h16 : cr.days.length ≤ 16) (h8 : cr.ss.length ≤ 8) (hwh : ∀ s ∈ cr.ss, s.who.length ≤ 6) (hnd : ∀ s ∈ cr.ss, s.needs.length ≤ 100000) : ∀ (p : Pr) {I : HMap} {x : CH} (_ : CrAt I x cr) {bc bl bf : Nat} {last : Int} (_ : last ≤ cr.days.length) (_ : ImmC I bc (.cells (encCH x).toArray 33 (0, 0))) (_ : ImmC I bl (.cells #[.int .i64 last] 3 (0, 0))) (_ : ImmC I bf (.cells #[.func (.func 67) #[] [capP bc, capP bl, capP bf].toArray] 104 (0, 0))) {av : Option Addr} {n c : Nat} {pl : List Int} (_ : Sl I 1 encI av n c pl) (_ : pl.length ≤ cr.ss.length) (_ : InR cr pl) (h : PH) (_ : PrAt I h p) (_ : smlP p),
  RetV Tryz.prog 67 ([.slice av n c, encPHA h] ++ [capP bc, capP bl, capP bf]) I (.bool (provesF cr last p pl))
 | .mk r d w ks, I, x, hC, bc, bl, bf, last, hl9, hbc, hbl, hbf, av, n, c, pl, hS, hlen, hin, h, hP, hsm => by
  obtain ⟨hr0, hd0, hw0, ka, kn, kc⟩ := h
  unfold PrAt at hP
  obtain ⟨e1, e2, e3, hs9, hK, hks⟩ := hP
  simp only at e1 e2 e3 hK
  subst e1 e2 e3
  unfold smlP at hsm
  exact w_proves_step hC hr h16 h8 hwh hnd hl9 hbc hbl hbf hS hlen hin hK hks (by have h1 := hks.len; have h2 := hK.len; omega) (fun k hk I' hI' av' n' c' pl' hS' hlen' hin' h' hP' => w_proves hr h16 h8 hwh hnd k (hC.mono hI') hl9 (hbc.mono hI') (hbl.mono hI') (hbf.mono hI') hS' hlen' hin' h' hP' (smlL_mem hsm.2 hk))
termination_by p => SizeOf.sizeOf p
decreasing_by have := List.sizeOf_lt_of_mem hk; simp; omega
theorem w_Accepts {I : HMap} {x : CH} {cr : Cr} (hC : CrAt I x cr) (hnd : ∀ s ∈ cr.ss, s.needs.length ≤ 100000) (last : Int) (p : Pr) (h : PH) (hP : PrAt I h p) (hsm : smlP p) : RetV Tryz.prog 27 [encCHA x, .int .i64 last, encPHA h] I (.tuple #[.bool (accO cr last p), .int .i64 (lastE cr last)]) := by
 intro g H w hw
 refine enter Tryz.func27 rfl Tryz.ntmps27 rfl hw ?_
 have hIc := HLe.refl I
 have hlD : cr.days.length = x.n := hC.1.len
 refine zR ?_
 refine XO_box rfl rfl rfl (fun b_3 => ?_)
 refine XO_box rfl rfl rfl (fun b_4 => ?_)
 refine XO_box rfl rfl rfl (fun b_5 => ?_)
 refine zA ?_
 refine zA ?_
 refine zN ?_
 refine X_seq ?_
 refine X_seq ?_
 refine X_freeze .here (fun I1 hI1 hb1 => ?_)
 have hC := hC.mono hI1; have hP := hP.mono hI1; have hIc := hIc.trans hI1
 have h5 := ImmC.of hb1
 refine X_freeze .here (fun I2 hI2 hb2 => ?_)
 have hC := hC.mono hI2; have hP := hP.mono hI2; have h5 := h5.mono hI2; have hIc := hIc.trans hI2
 have h4 := ImmC.of hb2
 refine X_freeze .here (fun I3 hI3 hb3 => ?_)
 have hC := hC.mono hI3; have hP := hP.mono hI3; have h5 := h5.mono hI3; have h4 := h4.mono hI3; have hIc := hIc.trans hI3
 have h3 := ImmC.of hb3
 refine X_region ?_
 refine XO_v0 (ev_loadA rfl agt_33 (fun hg => by first | exact Cells.immC h3 | exact Cells.immC (vs := encPH h) h5 | (repeat (first | exact Cells.here | exact Cells.s0 (vs := [_, _, _, _, _, _]) rfl | apply Cells.there | apply Cells.app))) rfl) rfl rfl rfl ?_
 refine XO_callV0 (cap := []) (vs := [_]) rfl rfl fun_20 (w_chkC hC hnd) rfl rfl ?_
 refine zA ?_
 refine zN (zR ?_)
 refine zM ?_
 refine zC ?_
 refine zN ?_
 refine X_cond rfl (fun hc12 => ?_) (fun hc12 => ?_)
 ·
  have hk0 : chkC cr ≠ 0 := by simpa using hc12
  refine zR ?_
  refine zM ?_
  refine zA ?_
  refine zA ?_
  refine zN ?_
  refine X_ret ?_
  refine at_then_r ?_
  first
  | exact at_ret2 rfl rfl rfl (fun w hw => ⟨by unfold accO; rw [lastE_1 hk0, decide_eq_false hk0]; rfl, (hw.mono hIc).drop⟩)
 have hk0 : chkC cr = 0 := by simpa using hc12
 obtain ⟨hr, h16, h8, hwh, hpl9⟩ := chkC_0 hk0
 refine X_skip ?_
 refine at_then ?_
 refine X_seq ?_
 refine zR ?_
 refine XO_v0 (ev_load rfl sct_3 (fun hg => by first | exact Cell.imm h3 rfl | exact Cell.imm h4 rfl | exact Cell.imm h8f rfl | (repeat (first | exact Cell.here rfl | apply Cell.there | apply Cell.app)))) rfl rfl rfl ?_
 refine zC ?_
 refine zM ?_
 refine XO_pushF 2 rfl rfl rfl ?_
 refine XO_v1 (ev_load rfl sct_3 (fun hg => by first | exact Cell.imm h3 rfl | exact Cell.imm h4 rfl | exact Cell.imm h8f rfl | (repeat (first | exact Cell.here rfl | apply Cell.there | apply Cell.app)))) (.some rfl rfl rfl rfl gbf) rfl rfl rfl ?_
 refine XO_v1 (ev_fieldAddr rfl fld_33_0) (.some rfl rfl rfl rfl gbf) rfl rfl rfl ?_
 refine XO_v1 (ev_load rfl sct_23 (fun hg => by first | exact Cell.imm h3 rfl | exact Cell.imm h4 rfl | exact Cell.imm h8f rfl | (repeat (first | exact Cell.here rfl | apply Cell.there | apply Cell.app)))) (.some rfl rfl rfl rfl gbf) rfl rfl rfl ?_
 refine XO_v1 (ev_lenS rfl slt_23) (.some rfl rfl rfl rfl gbf) rfl rfl rfl ?_
 refine XO_v1 (ev_cmp rfl rfl rfl) (.some rfl rfl rfl rfl gbf) rfl rfl rfl ?_
 refine XO_or0 rfl rfl rfl rfl rfl ?_
 refine zN ?_
 refine X_cond rfl (fun hc22 => ?_) (fun hc22 => ?_)
 ·
  have hb9 : (decide (last < 0) || decide (last > (cr.days.length : Int))) = true := by rw [hlD]; exact hc22
  refine zR ?_
  refine zA ?_
  refine zA ?_
  refine zN ?_
  refine X_ret ?_
  refine at_then_r ?_
  first
  | exact at_ret2 rfl rfl rfl (fun w hw => ⟨by unfold accO; rw [lastE_2 hk0 hb9]; rfl, (hw.mono hIc).drop⟩)
 have hb9 : (decide (last < 0) || decide (last > (cr.days.length : Int))) = false := by rw [hlD]; exact hc22
 have hl0 : 0 ≤ last ∧ last ≤ cr.days.length := by simp at hb9; omega
 refine X_skip ?_
 refine at_then ?_
 refine zR ?_
 refine XO_alloc zt_104 rfl rfl (fun b_8 => ?_)
 refine zN (zR ?_)
 refine XO_v0 (ev_makeFunc (us := []) (vs := [_, _, _]) rfl rfl) rfl rfl rfl ?_
 refine zS szt_104 ?_
 refine zN ?_
 refine X_seq ?_
 refine X_freeze .here (fun I4 hI4 hb4 => ?_)
 have hC := hC.mono hI4; have hP := hP.mono hI4; have h5 := h5.mono hI4; have h4 := h4.mono hI4; have h3 := h3.mono hI4; have hIc := hIc.trans hI4
 have h8f := ImmC.of hb4
 refine X_region ?_
 refine XO_v0 (ev_load rfl sct_104 (fun hg => by first | exact Cell.imm h3 rfl | exact Cell.imm h4 rfl | exact Cell.imm h8f rfl | (repeat (first | exact Cell.here rfl | apply Cell.there | apply Cell.app)))) rfl rfl rfl ?_
 refine XO_v0 (ev_loadA rfl agt_45 (fun hg => by first | exact Cells.immC h3 | exact Cells.immC (vs := encPH h) h5 | (repeat (first | exact Cells.here | exact Cells.s0 (vs := [_, _, _, _]) rfl | apply Cells.there | apply Cells.app))) rfl) rfl rfl rfl ?_
 refine XO_callV0 (cap := [capP b_3, capP b_4, capP b_8]) (vs := [_, _]) rfl rfl fun_67 (w_proves hr h16 h8 hwh hnd p hC hl0.2 h3 h4 h8f Sl.nil (Nat.zero_le _) (fun e he => by cases he) h hP hsm) rfl rfl ?_
 refine zA ?_
 refine zA ?_
 refine zN ?_
 refine X_ret ?_
 first
 | exact at_ret2 rfl rfl rfl (fun w hw => ⟨by unfold accO; rw [lastE_3 hk0 hb9]; rfl, (hw.mono hIc).drop⟩)
end Go.Proofs.YtehkiccapbkhnaaGreat
end
section
namespace Go.Kn
open Go Go.Sort Go.Shelf Go.Lib Go.Proofs
theorem retRevK {α : Type} [Inhabited α] {P : Program} {f : FuncId} {e : TypeId} {k : Nat} {enc : α → List Value} (hk : ∀ x, (enc x).length = k) (hpos : 0 < k)
    (hs : ∀ (blk off cap : Nat) (d : Array α) (w : World), HoldsK enc k w blk off d → d.size ≤ 9223372036854775807 →
      Calls P f #[.slice (some ⟨blk, off, none⟩) d.size cap] w fun e w' => e = .returned (.tuple #[]) ∧ ∃ n, w' = putRowK enc k (Sort.ahead w n) blk off d.reverse)
    (h0 : ∀ (p : Option Addr) (cap : Nat) (w : World), Calls P f #[.slice p 0 cap] w fun e w' => e = .returned (.tuple #[]) ∧ w' = w)
    (zs : List α) {v : Value} {n : Nat} {L : Loc} (hO : OwnS e k v n (zs.flatMap enc) L) (hn : n ≤ 1000000) (I : HMap) :
    RetM P f [v] I L (fun u I' L' => u = .tuple #[] ∧ I' = I ∧ OwnS e k v n (zs.reverse.flatMap enc) L') := by
  intro g H w hw
  have hl : zs.length = n := by
    have := hO.1
    rw [flat_len hk] at this
    exact Nat.eq_of_mul_eq_mul_right hpos this
  subst hl
  rcases hO.2 with ⟨rfl, h00, rfl⟩ | ⟨b, c, cur, rfl, rfl, hc, hc2, hsz, htk⟩
  · have : zs = [] := List.length_eq_zero_iff.1 h00
    subst this
    refine (h0 none 0 w).mono ?_
    rintro e w' ⟨rfl, rfl⟩
    exact ⟨_, I, [], rfl, HLe.refl _, hw, rfl, rfl, by simp, .inl ⟨rfl, rfl, rfl⟩⟩
  · have hb := hw.own b _ (List.mem_singleton.2 rfl)
    have hfl : (zs.flatMap enc).length = zs.length * k := flat_len hk zs
    have hH : HoldsK enc k w b 0 zs.toArray := by
      unfold HoldsK
      rw [flat_eq hk hpos]
      exact holds_own (enc := id) hw (List.mem_singleton.2 rfl) (zs.flatMap enc) (by rw [hfl, htk]; simp)
    have hcall := hs b 0 c zs.toArray w hH (by simp; omega)
    rw [List.size_toArray] at hcall
    refine hcall.mono ?_
    rintro e w' ⟨rfl, m, rfl⟩
    have hfd : (zs.reverse.flatMap enc).length = zs.length * k := by rw [flat_len hk, List.length_reverse]
    refine ⟨_, I, [(b, .cells (putCells id 0 (zs.reverse.flatMap enc).toArray cur) e (0, 0))], rfl, HLe.refl _, ?_, rfl, rfl, ?_⟩
    · unfold putRowK
      rw [List.reverse_toArray, flat_eq hk hpos]
      exact (hw.aheadN m).rowPut (enc := id) _ .here
    · refine ⟨by rw [hfd], .inr ⟨b, c, _, rfl, rfl, hc, hc2, by simp [putCells, hsz], ?_⟩⟩
      have := take_put (enc := id) (cs := cur) (n := zs.length * k) (zs.reverse.flatMap enc) hfd (by rw [hsz]; exact Nat.mul_le_mul_right k hc)
      simpa using this
end Go.Kn
end
section
namespace Go.Proofs.YtehkiccapbkhnaaGreat
open Go Go.Kn Go.Proofs
/-- Heads and what they lead to. -/
def RelA {α : Type} (I : HMap) (size : Nat) (enc : α → List Value) (hs : List Hd) (vss : List (List α)) : Prop := hs.length = vss.length ∧ ∀ (k : Nat) (h : Hd) (v : List α), hs[k]? = some h → vss[k]? = some v → Sl I size enc h.a h.n h.c v
theorem RelA.mono {α : Type} {I I' : HMap} {size : Nat} {enc : α → List Value} {hs : List Hd} {vss : List (List α)} (h : RelA I size enc hs vss) (hI : HLe I I') : RelA I' size enc hs vss := ⟨h.1, fun k x v a b => (h.2 k x v a b).mono hI⟩
theorem RelA.cons {α : Type} {I : HMap} {size : Nat} {enc : α → List Value} {hs : List Hd} {vss : List (List α)} {h : Hd} {v : List α} (h0 : Sl I size enc h.a h.n h.c v) (H : RelA I size enc hs vss) : RelA I size enc (h :: hs) (v :: vss) := by
  refine ⟨by simp [H.1], fun k x y a b => ?_⟩
  cases k with
  | zero => simp at a b; subst a b; exact h0
  | succ k => exact H.2 k x y (by simpa using a) (by simpa using b)
theorem RelA.nil {α : Type} {I : HMap} {size : Nat} {enc : α → List Value} : RelA I size enc [] ([] : List (List α)) := ⟨rfl, fun k x v a _ => by simp at a⟩
def SlHA {α : Type} (I : HMap) (size : Nat) (enc : α → List Value) (av : Option Addr) (n c : Nat) (hs : List Hd) (vss : List (List α)) : Prop := Sl I 1 encH av n c hs ∧ RelA I size enc hs vss
theorem SlHA.mono {α : Type} {I I' : HMap} {size : Nat} {enc : α → List Value} {av : Option Addr} {n c : Nat} {hs : List Hd} {vss : List (List α)} (h : SlHA I size enc av n c hs vss) (hI : HLe I I') : SlHA I' size enc av n c hs vss := ⟨h.1.mono hI, h.2.mono hI⟩
theorem SlHA.len {α : Type} {I : HMap} {size : Nat} {enc : α → List Value} {av : Option Addr} {n c : Nat} {hs : List Hd} {vss : List (List α)} (h : SlHA I size enc av n c hs vss) : vss.length = n := by rw [← h.2.1]; exact h.1.len
theorem SlHA.at {α : Type} {I : HMap} {size : Nat} {enc : α → List Value} {av : Option Addr} {n c k : Nat} {hs : List Hd} {vss : List (List α)} (h : SlHA I size enc av n c hs vss) (hk : k < n) : ∃ x v, hs[k]? = some x ∧ vss[k]? = some v ∧ Sl I size enc x.a x.n x.c v := by
  have h1 : k < hs.length := by rw [h.1.len]; exact hk
  have h2 : k < vss.length := by rw [h.len]; exact hk
  exact ⟨hs[k], vss[k], List.getElem?_eq_getElem h1, List.getElem?_eq_getElem h2, h.2.2 k _ _ (List.getElem?_eq_getElem h1) (List.getElem?_eq_getElem h2)⟩
theorem flat_step {α : Type} {vss : List (List α)} {k : Nat} {v : List α} (h : vss[k]? = some v) : (vss.take (k + 1)).flatten = (vss.take k).flatten ++ v := by
  rw [List.take_add_one, h, List.flatten_append]; simp
theorem flat_le {α : Type} {vss : List (List α)} (k : Nat) : (vss.take k).flatten.length ≤ vss.flatten.length := by
  have h : vss.flatten = (vss.take k).flatten ++ (vss.drop k).flatten := by rw [← List.flatten_append, List.take_append_drop]
  rw [h, List.length_append]; omega
/-! ### Who -/
def diffK (tg : List Int) (has : List (List Int)) (id : Int) (k : Nat) : List Int := ((List.range k).filter fun i => (has.getD i []).contains id != tg.contains id).map fun (i : Nat) => (i : Int)
theorem diffK_all (tg : List Int) (has : List (List Int)) (id : Int) : diffK tg has id has.length = diffW tg has id := rfl
theorem diffK_yes {tg : List Int} {has : List (List Int)} {id : Int} {k : Nat} {v : List Int} (h : has[k]? = some v) (hb : (v.contains id != tg.contains id) = true) : diffK tg has id (k + 1) = diffK tg has id k ++ [(k : Int)] := by
  unfold diffK
  rw [List.range_succ, List.filter_append, List.map_append]
  have : (has.getD k []).contains id = v.contains id := by rw [List.getD_eq_getElem?_getD, h]; rfl
  simp only [List.filter_cons, List.filter_nil, this, hb, if_true, List.map_cons, List.map_nil]
theorem diffK_no {tg : List Int} {has : List (List Int)} {id : Int} {k : Nat} {v : List Int} (h : has[k]? = some v) (hb : (v.contains id != tg.contains id) = false) : diffK tg has id (k + 1) = diffK tg has id k := by
  unfold diffK
  rw [List.range_succ, List.filter_append, List.map_append]
  have : (has.getD k []).contains id = v.contains id := by rw [List.getD_eq_getElem?_getD, h]; rfl
  simp only [List.filter_cons, List.filter_nil, this, hb, Bool.false_eq_true, if_false, List.map_nil, List.append_nil]
theorem diffK_len (tg : List Int) (has : List (List Int)) (id : Int) (k : Nat) : (diffK tg has id k).length ≤ k := by
  unfold diffK; rw [List.length_map]; have := List.length_filter_le (fun i => (has.getD i []).contains id != tg.contains id) (List.range k); rw [List.length_range] at this; exact this
/-! ### Needs by IDs -/
def needV (p : Pt) : Value := .slice p.a p.n p.c
def nmM (ps : List Pt) : List (Int × Pt) := ps.map fun p => (p.id, p)
theorem nmM_get {ps : List Pt} (h : Lst ps) {p : Pt} (hp : p ∈ ps) : mget (nmM ps) p.id = some p := by
  have hn : ((nmM ps).map (·.1)).Nodup := by
    unfold nmM
    rw [List.map_map]
    exact List.pairwise_map.2 (h.inc.imp fun {a b} h => by show a.id ≠ b.id; omega)
  exact mget_at (p := (p.id, p)) hn (List.mem_map.2 ⟨p, hp, rfl⟩)
theorem nmM_step {ps : List Pt} (h : Lst ps) {k : Nat} {p : Pt} (hp : ps[k]? = some p) : mset (nmM (ps.take k)) p.id p = nmM (ps.take (k + 1)) := by
  have hno : mget (nmM (ps.take k)) p.id = none := mget_none.2 fun hm => by
    unfold nmM at hm
    rw [List.map_map] at hm
    obtain ⟨q, hq, e⟩ := List.mem_map.1 hm
    obtain ⟨i, hi⟩ := List.mem_iff_getElem?.1 hq
    have hik : i < k := by have := (List.getElem?_eq_some_iff.1 hi).1; rw [List.length_take] at this; omega
    rw [List.getElem?_take_of_lt hik] at hi
    have hk1 := (List.getElem?_eq_some_iff.1 hp).1
    have := List.pairwise_iff_getElem.1 h.inc i k (by omega) hk1 hik
    rw [(List.getElem?_eq_some_iff.1 hi).2, (List.getElem?_eq_some_iff.1 hp).2] at this
    have e : q.id = p.id := e
    omega
  rw [mset_add hno, List.take_add_one, hp]
  unfold nmM; rw [List.map_append]; rfl
/-! ### The sessions so far, by their patches' IDs -/
def atM (ks : List Pt) : List (Int × Int) := (List.range ks.length).map fun i => ((ks.getD i zeroP).id, (i : Int))
theorem atM_snoc (ks : List Pt) (p : Pt) : atM (ks ++ [p]) = atM ks ++ [(p.id, (ks.length : Int))] := by
  unfold atM
  rw [List.length_append, List.length_singleton, List.range_succ, List.map_append]
  congr 1
  · refine List.map_congr_left fun i hi => ?_
    have hi := List.mem_range.1 hi
    rw [List.getD_eq_getElem?_getD, List.getElem?_append_left hi, ← List.getD_eq_getElem?_getD]
  · simp
theorem atM_at {ks : List Pt} {i : Nat} {q : Int × Int} (h : (atM ks)[i]? = some q) : ∃ p, ks[i]? = some p ∧ q = (p.id, (i : Int)) := by
  unfold atM at h
  rw [List.getElem?_map, Option.map_eq_some_iff] at h
  obtain ⟨j, hj, rfl⟩ := h
  have hi : i < ks.length := by
    have := (List.getElem?_eq_some_iff.1 hj).1; rwa [List.length_range] at this
  rw [List.getElem?_range hi] at hj
  cases hj
  exact ⟨ks[i], List.getElem?_eq_getElem hi, by rw [List.getD_eq_getElem?_getD, List.getElem?_eq_getElem hi]; rfl⟩
theorem atM_len (ks : List Pt) : (atM ks).length = ks.length := by unfold atM; simp
theorem atM_new {ks : List Pt} {p : Pt} (h : p.id ∉ ks.map (·.id)) : mset (atM ks) p.id (ks.length : Int) = atM (ks ++ [p]) := by
  rw [atM_snoc]
  refine mset_add (mget_none.2 fun hm => h ?_)
  obtain ⟨q, hq, e⟩ := List.mem_map.1 hm
  obtain ⟨i, hi⟩ := List.mem_iff_getElem?.1 hq
  obtain ⟨r, hr, rfl⟩ := atM_at hi
  exact List.mem_map.2 ⟨r, List.mem_of_getElem? hr, e⟩
/-- Does the session of p need the one of q? -/
def ndY (tg : List Int) (p q : Pt) : Bool := if tg.contains p.id then p.needs.contains q.id else q.needs.contains p.id
/-- The places gathered, in the order in which they were seen. -/
def gthN (tg : List Int) (ks : List Pt) (p : Pt) (seen : List Nat) : List Int := seen.flatMap fun (i : Nat) => match ks[i]? with | some q => if ndY tg p q then [(i : Int)] else [] | none => []
theorem gthN_yes {tg : List Int} {ks : List Pt} {p q : Pt} {seen : List Nat} {i : Nat} (h : ks[i]? = some q) (hb : ndY tg p q = true) : gthN tg ks p (seen ++ [i]) = gthN tg ks p seen ++ [(i : Int)] := by
  unfold gthN; rw [List.flatMap_append]; simp [h, hb]
theorem gthN_no {tg : List Int} {ks : List Pt} {p q : Pt} {seen : List Nat} {i : Nat} (h : ks[i]? = some q) (hb : ndY tg p q = false) : gthN tg ks p (seen ++ [i]) = gthN tg ks p seen := by
  unfold gthN; rw [List.flatMap_append]; simp [h, hb]
theorem gthN_len {tg : List Int} {ks : List Pt} {p : Pt} : ∀ (seen : List Nat), (gthN tg ks p seen).length ≤ seen.length
  | [] => by simp [gthN]
  | i :: seen => by
    have := gthN_len (tg := tg) (ks := ks) (p := p) seen
    unfold gthN at *
    rw [List.flatMap_cons, List.length_append, List.length_cons]
    have h1 : (match ks[i]? with | some q => if ndY tg p q then [(i : Int)] else [] | none => ([] : List Int)).length ≤ 1 := by
      cases ks[i]? with
      | none => simp
      | some q => by_cases e : ndY tg p q <;> simp [e]
    omega
theorem gthN_all {tg : List Int} {ks : List Pt} {p : Pt} {seen : List Nat} (hnd : seen.Nodup) (hlt : ∀ i ∈ seen, i < (atM ks).length) (hall : ∀ (i : Nat) (q : Int × Int), (atM ks)[i]? = some q → i ∈ seen) : (gthN tg ks p seen).Perm (ndW tg ks p) := by
  have h1 := seen_perm hnd hlt hall
  rw [atM_len] at h1
  refine (h1.flatMap_right _).trans (List.Perm.of_eq ?_)
  unfold ndW
  have key : ∀ l : List Nat, (∀ i ∈ l, i < ks.length) → (l.flatMap fun (i : Nat) => match ks[i]? with | some q => if ndY tg p q then [(i : Int)] else [] | none => []) = (l.filter fun k => if tg.contains p.id then p.needs.contains (ks.getD k zeroP).id else (ks.getD k zeroP).needs.contains p.id).map fun (k : Nat) => (k : Int) := by
    intro l
    induction l with
    | nil => intro _; rfl
    | cons i l ih =>
      intro h
      have hi := h i (by simp)
      rw [List.flatMap_cons, ih fun j hj => h j (by simp [hj]), List.getElem?_eq_getElem hi, List.filter_cons]
      have e : ks.getD i zeroP = ks[i] := by rw [List.getD_eq_getElem?_getD, List.getElem?_eq_getElem hi]; rfl
      rw [e]
      unfold ndY
      simp only []
      split
      · rename_i h1; split
        · rfl
        · rfl
      · rename_i h1; split
        · rfl
        · rfl
  exact key _ fun i hi => List.mem_range.1 hi
theorem sort_ndW {tg : List Int} {ks : List Pt} {p : Pt} {zs : List Int} (h : zs.Perm (ndW tg ks p)) : sortI zs = ndW tg ks p := by
  refine List.Perm.eq_of_pairwise (le := (· ≤ ·)) (fun a b _ _ h1 h2 => by omega) ?_ ((ndW_inc tg ks p).imp fun h => by omega) ((List.mergeSort_perm _ _).trans h)
  have := List.pairwise_mergeSort (le := fun a b : Int => decide (a ≤ b)) (fun a b c h1 h2 => by simp at *; omega) (fun a b => by simp; omega) zs
  exact this.imp fun h => by simpa using h
/-- The patches with a session among the first of the order. -/
def kpP (tg : List Int) (has : List (List Int)) (os : List Pt) (k : Nat) : List Pt := (os.take k).filter fun p => !(diffW tg has p.id).isEmpty
theorem kpP_yes {tg : List Int} {has : List (List Int)} {os : List Pt} {k : Nat} {p : Pt} (h : os[k]? = some p) (hb : diffW tg has p.id ≠ []) : kpP tg has os (k + 1) = kpP tg has os k ++ [p] := by
  unfold kpP
  rw [List.take_add_one, h, List.filter_append]
  have : (diffW tg has p.id).isEmpty = false := by cases e : diffW tg has p.id with | nil => exact absurd e hb | cons a l => rfl
  simp [this]
theorem kpP_no {tg : List Int} {has : List (List Int)} {os : List Pt} {k : Nat} {p : Pt} (h : os[k]? = some p) (hb : diffW tg has p.id = []) : kpP tg has os (k + 1) = kpP tg has os k := by
  unfold kpP
  rw [List.take_add_one, h, List.filter_append]
  simp [hb]
theorem kpP_all {ps : List Pt} {tg : List Int} {has : List (List Int)} {k : Nat} (h : (ordP ps tg).length ≤ k) : kpP tg has (ordP ps tg) k = keptP ps tg has := by
  unfold kpP keptP; rw [List.take_of_length_le h]
theorem kpP_len {tg : List Int} {has : List (List Int)} {os : List Pt} {k : Nat} : (kpP tg has os k).length ≤ os.length := by
  unfold kpP
  refine Nat.le_trans (List.length_filter_le _ _) ?_
  rw [List.length_take]; omega
theorem kpP_sub {tg : List Int} {has : List (List Int)} {os : List Pt} {k : Nat} {p : Pt} (h : p ∈ kpP tg has os k) : p ∈ os := List.mem_of_mem_take (List.mem_filter.1 h).1
theorem kpP_new {tg : List Int} {has : List (List Int)} {ps : List Pt} (hL : Lst ps) {k : Nat} {p : Pt} (h : (ordP ps tg)[k]? = some p) : p.id ∉ (kpP tg has (ordP ps tg) k).map (·.id) := fun hm => by
  obtain ⟨q, hq, e⟩ := List.mem_map.1 hm
  unfold kpP at hq
  obtain ⟨i, hi⟩ := List.mem_iff_getElem?.1 (List.mem_filter.1 hq).1
  have hik : i < k := by have := (List.getElem?_eq_some_iff.1 hi).1; rw [List.length_take] at this; omega
  rw [List.getElem?_take_of_lt hik] at hi
  have hk1 := (List.getElem?_eq_some_iff.1 h).1
  have := bef_ne (List.pairwise_iff_getElem.1 (ordP_bef hL tg) i k (by omega) hk1 hik)
  rw [(List.getElem?_eq_some_iff.1 hi).2, (List.getElem?_eq_some_iff.1 h).2] at this
  exact this e
theorem ordP_len (ps : List Pt) (tg : List Int) : (ordP ps tg).length = ps.length := by
  unfold ordP
  rw [List.length_append, List.length_reverse]
  have key : ∀ l : List Pt, (l.filter fun p => !tg.contains p.id).length + (l.filter fun p => tg.contains p.id).length = l.length := by
    intro l
    induction l with
    | nil => rfl
    | cons a l ih =>
      rw [List.filter_cons, List.filter_cons]
      cases tg.contains a.id
      · simp only [Bool.not_false, if_true, Bool.false_eq_true, if_false, List.length_cons]; omega
      · simp only [Bool.not_true, if_true, Bool.false_eq_true, if_false, List.length_cons]; omega
  exact key ps
/-! ### What From gives -/
def fromR (ps : List Pt) (tg : List Int) (has : List (List Int)) : List Ses := if fromE ps tg has = 0 then fromL ps tg has else []
def FroQ (ps : List Pt) (tg : List Int) (has : List (List Int)) : Value → HMap → Go.Kn.Loc → Prop := fun v I' L' => L' = [] ∧ ∃ a c, v = .tuple #[.slice a (fromR ps tg has).length c, .int .i64 (fromE ps tg has)] ∧ SlS I' a (fromR ps tg has).length c (fromR ps tg has)
theorem SlS.nil {I : HMap} {c : Nat} : SlS I none 0 c [] := ⟨[], Sl.nil, RelS.nil⟩
theorem FroQ.bad {ps : List Pt} {tg : List Int} {has : List (List Int)} {e : Int} {I : HMap} (h : fromE ps tg has = e) (he : e ≠ 0) : FroQ ps tg has (.tuple #[.slice none 0 0, .int .i64 e]) I [] := by
  have e1 : fromR ps tg has = [] := by unfold fromR; rw [if_neg (by omega)]
  refine ⟨rfl, none, 0, ?_, ?_⟩
  · rw [e1, h]; rfl
  · rw [e1]; exact SlS.nil
theorem FroQ.good {ps : List Pt} {tg : List Int} {has : List (List Int)} {I : HMap} {a : Option Addr} {n c : Nat} (h : fromE ps tg has = 0) (hS : SlS I a n c (fromL ps tg has)) : FroQ ps tg has (.tuple #[.slice a n c, .int .i64 0]) I [] := by
  have e1 : fromR ps tg has = fromL ps tg has := by unfold fromR; rw [if_pos h]
  refine ⟨rfl, a, c, ?_, ?_⟩
  · rw [e1, h, hS.len]
  · rw [e1, hS.len]; exact hS
theorem fromE_1 {ps : List Pt} {tg : List Int} {has : List (List Int)} (h : chkR ps ≠ 0) : fromE ps tg has = chkR ps := by unfold fromE; rw [if_pos h]
theorem fromE_2 {ps : List Pt} {tg : List Int} {has : List (List Int)} (h : chkR ps = 0) (g : has.length > 6) : fromE ps tg has = 2 := by unfold fromE; rw [if_neg (by omega), if_pos g]
theorem fromE_3 {ps : List Pt} {tg : List Int} {has : List (List Int)} (h : chkR ps = 0) (g : ¬ has.length > 6) (q : (tg :: has).all (verF ps) = false) : fromE ps tg has = 400 := by unfold fromE; rw [if_neg (by omega), if_neg g, if_neg (by rw [q]; decide)]
theorem fromE_4 {ps : List Pt} {tg : List Int} {has : List (List Int)} (h : chkR ps = 0) (g : ¬ has.length > 6) (q : (tg :: has).all (verF ps) = true) : fromE ps tg has = if (fromL ps tg has).length > 8 then 2 else 0 := by unfold fromE; rw [if_neg (by omega), if_neg g, if_pos q]
theorem all_take {α : Type} {xs : List α} {k : Nat} {x : α} {p : α → Bool} (hx : xs[k]? = some x) (h : (xs.take k).all p = true) (hp : p x = true) : (xs.take (k + 1)).all p = true := by
  rw [List.take_add_one, hx, List.all_append, h]; simp [hp]
theorem all_bad {α : Type} {xs : List α} {k : Nat} {x : α} {p : α → Bool} (hx : xs[k]? = some x) (hp : p x = false) : xs.all p = false := by
  rw [List.all_eq_false]; exact ⟨x, List.mem_of_getElem? hx, by rw [hp]; decide⟩
theorem ver_val {ps : List Pt} (h : chkR ps = 0) (v : List Int) : verF ps v = !((cloE ps v != 0) || !(resF (cloE ps v) (cloF ps v) == v)) := by
  unfold verF
  by_cases e : cloE ps v = 0
  · rw [e]; simp [resF]
  · have h1 : (cloE ps v == 0) = false := by simpa using e
    have h2 : (cloE ps v != 0) = true := by simpa using e
    rw [h1, h2]; rfl
end Go.Proofs.YtehkiccapbkhnaaGreat
namespace Go.Proofs.YtehkiccapbkhnaaGreat
open Go Go.Kn Go.Proofs
theorem clo_len_le (ps : List Pt) (v : List Int) : (resF (cloE ps v) (cloF ps v)).length ≤ ps.length := by
  unfold resF
  split
  · simp
  · unfold cloF; rw [List.length_map]; exact List.length_filter_le _ _
theorem ndY_val {tg : List Int} {p q : Pt} {b : Bool} (h : b = (tg.contains p.id && p.needs.contains q.id || !tg.contains p.id && q.needs.contains p.id)) : b = ndY tg p q := by
  rw [h]; unfold ndY; cases tg.contains p.id <;> simp
end Go.Proofs.YtehkiccapbkhnaaGreat
end
section
namespace Go.Proofs.YtehkiccapbkhnaaGreat
open Go Go.Kn Go.Proofs
theorem elt_22 : ElT Tryz.prog 22 65 19 168 := .of (by kernel_rfl)
theorem elt_24 : ElT Tryz.prog 24 23 1 24 := .of (by kernel_rfl)
theorem fun_42 : Fun Tryz.prog 42 := .of Tryz.func42 (by kernel_rfl) (by kernel_rfl)
theorem fun_43 : Fun Tryz.prog 43 := .of Tryz.func43 (by kernel_rfl) (by kernel_rfl)
theorem fun_75 : Fun Tryz.prog 75 := .of Tryz.func75 (by kernel_rfl) (by kernel_rfl)
theorem fun_78 : Fun Tryz.prog 78 := .of Tryz.func78 (by kernel_rfl) (by kernel_rfl)
theorem fun_79 : Fun Tryz.prog 79 := .of Tryz.func79 (by kernel_rfl) (by kernel_rfl)
theorem sct_22 : ScT Tryz.prog 22 := .of (by kernel_rfl)
theorem sct_24 : ScT Tryz.prog 24 := .of (by kernel_rfl)
theorem slt_114 : SlT Tryz.prog 114 24 1 := .of (by kernel_rfl)
theorem slt_118 : SlT Tryz.prog 118 22 1 := .of (by kernel_rfl)
theorem slt_24 : SlT Tryz.prog 24 23 1 := .of (by kernel_rfl)
theorem und_3 : Tryz.prog.underlying 3 = some (.int .i64) := by kernel_rfl
theorem w_index {I : HMap} {av : Option Addr} {n c : Nat} {xs : List Int} (hS : Sl I 1 encI av n c xs) (hn : n ≤ 100000) (v : Int) : RetV Tryz.prog 79 [.slice av n c, .int .i64 v] I (.int .i64 (idxF (fun y => y == v) xs)) := by
 intro g H w hw
 refine enter Tryz.func79 rfl Tryz.ntmps79 rfl hw ?_
 refine zR ?_
 refine zA ?_
 refine zN ?_
 refine X_seq ?_
 refine zR ?_
 refine zM ?_
 refine XO_v0 (ev_lenS rfl slt_23) rfl rfl rfl ?_
 refine zM ?_
 refine zN ?_
 refine X_block ?_
 refine X_loopT [(0, _), (1, _), (7, _)] (.cons rfl (.cons rfl (.cons rfl .nil))) (fun T L0 mz E I' loc' => ∃ (k : Nat), mz = n - k ∧ E = (8, .int .i64 k) :: T ∧ I = I' ∧ L0 = loc' ∧ k ≤ n ∧ (xs.take k).any (fun y => y == v) = false) _ _ _ _ ⟨0, rfl, rfl, rfl, rfl, Nat.zero_le _, rfl⟩ (.cons rfl (.cons rfl (.cons rfl (.cons rfl .nil)))) (HLe.refl _) rfl ?_
 rintro mz E I' loc' ⟨k, rfl, rfl, rfl, rfl, hk, hno⟩
 refine zR ?_
 refine zC ?_
 refine zN ?_
 refine X_seq ?_
 refine X_cond rfl (fun hc9 => ?_) (fun hc9 => ?_)
 ·
  have hlt_k : k < n := by have h := hc9; simp at h; omega
  obtain ⟨x, hx⟩ := hS.at hlt_k
  refine X_skip ?_
  refine at_then ?_
  refine X_seq ?_
  refine X_block ?_
  refine zR ?_
  refine zM ?_
  refine zA ?_
  refine zN (zR ?_)
  refine zM ?_
  refine zM ?_
  refine zM ?_
  refine XO_v0 (ev_indexSl rfl rfl slt_23 (by assumption) (fun hg => by first | omega | (simp [conj] at hg; omega))) rfl rfl rfl ?_
  refine XO_v0 (ev_load rfl sct_3 (fun hg => by first | exact Sl.get0 hS hx rfl | (repeat (first | exact Cell.here rfl | apply Cell.there | apply Cell.app)))) rfl rfl rfl ?_
  refine zC ?_
  refine zN ?_
  refine X_cond rfl (fun hc16 => ?_) (fun hc16 => ?_)
  ·
   refine zR ?_
   refine zM ?_
   refine zA ?_
   refine zN ?_
   refine X_ret ?_
   refine at_block_r ?_
   refine at_then_r ?_
   refine at_then_r ?_
   refine at_block_r ?_
   refine at_then_r ?_
   first
   | exact at_ret1 rfl rfl (fun w hw => ⟨by rw [idx_hit hno hx (by rw [beq_symmI]; exact hc16)], hw.drop⟩)
  refine X_skip ?_
  refine at_block_n ?_
  refine at_then ?_
  refine X_region ?_
  refine XO_v0 (ev_arB rfl rfl rfl (fun _ => by omega)) rfl rfl rfl ?_
  refine zM ?_
  refine XO_nil ?_
  exact at_met2 _ _ ⟨n - (k + 1), by omega, k + 1, rfl, rfl, rfl, rfl, by omega, any_no hx hno (by rw [beq_symmI]; exact hc16)⟩ (.cons rfl (.cons rfl (.cons rfl (.cons rfl .nil)))) (by repeat (first | exact .refl | exact subL_left | refine subL_app ?_ | refine .drop ?_ | refine subL_add ?_))
 have hge_k : n ≤ k := by have h := hc9; simp at h; omega
 refine X_exit ?_
 refine at_then_e ?_
 refine at_then_e ?_
 refine at_block_hit ?_
 refine at_then ?_
 refine zR ?_
 refine zA ?_
 refine zN ?_
 refine X_ret ?_
 exact at_ret1 rfl rfl (fun w hw => ⟨by rw [idx_none hS.len hge_k hno], hw.drop⟩)
theorem w_contains {I : HMap} {av : Option Addr} {n c : Nat} {xs : List Int} (hS : Sl I 1 encI av n c xs) (hn : n ≤ 100000) (v : Int) : RetV Tryz.prog 46 [.slice av n c, .int .i64 v] I (.bool (xs.contains v)) := by
 intro g H w hw
 refine enter Tryz.func46 rfl Tryz.ntmps46 rfl hw ?_
 refine zR ?_
 refine zA ?_
 refine zN (zR ?_)
 refine zM ?_
 refine zM ?_
 refine XO_callV0 (cap := []) (vs := [_, _]) rfl rfl fun_79 (w_index hS hn v) rfl rfl ?_
 refine zC ?_
 refine zA ?_
 refine zN ?_
 refine X_ret ?_
 exact at_ret1 rfl rfl (fun w hw => ⟨by rw [any_contI, ← idx_any], hw.drop⟩)
theorem w_equalI {I : HMap} {av : Option Addr} {n c : Nat} {xs : List Int} (hS : Sl I 1 encI av n c xs) {bv : Option Addr} {n2 c2 : Nat} {ys : List Int} (hT : Sl I 1 encI bv n2 c2 ys) (hn : n ≤ 100000) : RetV Tryz.prog 41 [.slice av n c, .slice bv n2 c2] I (.bool (xs == ys)) := by
 intro g H w hw
 refine enter Tryz.func41 rfl Tryz.ntmps41 rfl hw ?_
 have hl1 := hS.len
 have hl2 := hT.len
 refine zR ?_
 refine zA ?_
 refine zN ?_
 refine X_seq ?_
 refine zR ?_
 refine zM ?_
 refine XO_v0 (ev_lenS rfl slt_23) rfl rfl rfl ?_
 refine zM ?_
 refine XO_v0 (ev_lenS rfl slt_23) rfl rfl rfl ?_
 refine zC ?_
 refine zN ?_
 refine X_cond rfl (fun hc10 => ?_) (fun hc10 => ?_)
 ·
  have hne : xs ≠ ys := fun e => by have h := hc10; subst e; simp at h; omega
  refine zR ?_
  refine zA ?_
  refine zN ?_
  refine X_ret ?_
  refine at_then_r ?_
  exact at_ret1 rfl rfl (fun w hw => ⟨by rw [beq_eq_false_iff_ne.2 hne], hw.drop⟩)
 have hnn : n = n2 := by have h := hc10; simp at h; omega
 refine X_skip ?_
 refine at_then ?_
 refine X_seq ?_
 refine zR ?_
 refine zM ?_
 refine XO_v0 (ev_lenS rfl slt_23) rfl rfl rfl ?_
 refine zM ?_
 refine zN ?_
 refine X_block ?_
 refine X_loopT [(0, _), (1, _), (12, _)] (.cons rfl (.cons rfl (.cons rfl .nil))) (fun T L0 mz E I' loc' => ∃ (k : Nat), mz = n - k ∧ E = (13, .int .i64 k) :: T ∧ I = I' ∧ L0 = loc' ∧ k ≤ n ∧ xs.take k = ys.take k) _ _ _ _ ⟨0, rfl, rfl, rfl, rfl, Nat.zero_le _, rfl⟩ (.cons rfl (.cons rfl (.cons rfl (.cons rfl .nil)))) (HLe.refl _) rfl ?_
 rintro mz E I' loc' ⟨k, rfl, rfl, rfl, rfl, hk, hall⟩
 refine zR ?_
 refine zC ?_
 refine zN ?_
 refine X_seq ?_
 refine X_cond rfl (fun hc14 => ?_) (fun hc14 => ?_)
 ·
  have hlt_k : k < n := by have h := hc14; simp at h; omega
  obtain ⟨x, hx⟩ := hS.at hlt_k
  obtain ⟨y, hy⟩ := hT.at (show k < n2 by omega)
  refine X_skip ?_
  refine at_then ?_
  refine X_seq ?_
  refine X_block ?_
  refine zR ?_
  refine zM ?_
  refine zA ?_
  refine zN ?_
  refine X_seq ?_
  refine X_draw mixed (by kernel_rfl) ?_
  refine XQ_v0 (ev_move rfl) rfl rfl rfl ?_
  refine XQ_v0 (ev_move rfl) rfl rfl rfl ?_
  refine XQ_v0 (ev_indexSl rfl rfl slt_23 hS (fun hg => by first | omega | (simp [conj] at hg; omega))) rfl rfl rfl ?_
  refine XQ_v0 (ev_load rfl sct_3 (fun hg => by first | exact Sl.get0 hS hx rfl | exact Sl.get0 hT hy rfl | (repeat (first | exact Cell.here rfl | apply Cell.there | apply Cell.app)))) rfl rfl rfl ?_
  refine XQ_v0 (ev_move rfl) rfl rfl rfl ?_
  refine XQ_v0 (ev_move rfl) rfl rfl rfl ?_
  refine XQ_v0 (ev_indexSl rfl rfl slt_23 hT (fun hg => by first | omega | (simp [conj] at hg; omega))) rfl rfl rfl ?_
  refine XQ_v0 (ev_load rfl sct_3 (fun hg => by first | exact Sl.get0 hS hx rfl | exact Sl.get0 hT hy rfl | (repeat (first | exact Cell.here rfl | apply Cell.there | apply Cell.app)))) rfl rfl rfl ?_
  refine XQ_v0 (ev_cmp rfl rfl rfl) rfl rfl rfl ?_
  refine XQ_nil ?_
  refine at_then ?_
  refine X_cond rfl (fun hc24 => ?_) (fun hc24 => ?_)
  ·
   have hne : xs ≠ ys := fun e => by subst e; rw [hx] at hy; cases hy; simp at hc24
   refine zR ?_
   refine zA ?_
   refine zN ?_
   refine X_ret ?_
   refine at_block_r ?_
   refine at_then_r ?_
   refine at_then_r ?_
   refine at_block_r ?_
   refine at_then_r ?_
   exact at_ret1 rfl rfl (fun w hw => ⟨by rw [beq_eq_false_iff_ne.2 hne], hw.drop⟩)
  have hxy : x = y := by simpa using hc24
  refine X_skip ?_
  refine at_block_n ?_
  refine at_then ?_
  refine X_region ?_
  refine XO_v0 (ev_arB rfl rfl rfl (fun _ => by omega)) rfl rfl rfl ?_
  refine zM ?_
  refine XO_nil ?_
  exact at_met2 _ _ ⟨n - (k + 1), by omega, k + 1, rfl, rfl, rfl, rfl, by omega, by rw [List.take_add_one, List.take_add_one, hall, hx, hy, hxy]⟩ (.cons rfl (.cons rfl (.cons rfl (.cons rfl .nil)))) (by repeat (first | exact .refl | exact subL_left | refine subL_app ?_ | refine .drop ?_ | refine subL_add ?_))
 have hge_k : n ≤ k := by have h := hc14; simp at h; omega
 have heq : xs = ys := by rw [List.take_of_length_le (by omega), List.take_of_length_le (by omega)] at hall; exact hall
 refine X_exit ?_
 refine at_then_e ?_
 refine at_then_e ?_
 refine at_block_hit ?_
 refine at_then ?_
 refine zR ?_
 refine zA ?_
 refine zN ?_
 refine X_ret ?_
 exact at_ret1 rfl rfl (fun w hw => ⟨by rw [beq_iff_eq.2 heq], hw.drop⟩)
theorem w_in {I : HMap} {av : Option Addr} {n c : Nat} {xs : List Int} (hS : Sl I 1 encI av n c xs) (hn : n ≤ 100000) (hs9 : xs.Pairwise (· < ·)) (v : Int) : RetV Tryz.prog 42 [.slice av n c, .int .i64 v] I (.bool (xs.contains v)) := by
 intro g H w hw
 refine enter Tryz.func42 rfl Tryz.ntmps42 rfl hw ?_
 refine zR ?_
 refine zA ?_
 refine zN (zR ?_)
 refine zM ?_
 refine zM ?_
 refine XO_callV0 (cap := []) (vs := [_, _]) rfl rfl fun_43 (w_bsI hS hn hs9 v) rfl rfl ?_
 refine zM ?_
 refine XO_v0 (ev_extract rfl rfl) rfl rfl rfl ?_
 refine XO_v0 (ev_extract rfl rfl) rfl rfl rfl ?_
 refine zA ?_
 refine zA ?_
 refine zN (zR ?_)
 refine zM ?_
 refine zA ?_
 refine zN ?_
 refine X_ret ?_
 exact at_ret1 rfl rfl (fun w hw => ⟨by rw [any_contI]; rfl, hw.drop⟩)
theorem w_growH (I : HMap) (k : Nat) (hk : k ≤ 100000) : RetM Tryz.prog 75 [.slice none 0 0, .int .i64 k] I [] (fun v I' L => I' = I ∧ OwnS 23 1 v 0 [] L) := by
 intro g H w hw
 refine enter Tryz.func75 rfl Tryz.ntmps75 rfl hw ?_
 refine zR ?_
 refine zA ?_
 refine zN ?_
 refine X_seq ?_
 refine zR ?_
 refine zM ?_
 refine zC ?_
 refine zN ?_
 refine X_cond rfl (fun hc6 => ?_) (fun hc6 => ?_)
 ·
  have h := hc6; simp at h; omega
 refine X_skip ?_
 refine at_then ?_
 refine X_seq ?_
 refine zR ?_
 refine zM ?_
 refine zM ?_
 refine XO_v0 (ev_cap rfl slt_24) rfl rfl rfl ?_
 refine zM ?_
 refine XO_v0 (ev_lenS rfl slt_24) rfl rfl rfl ?_
 refine XO_v0 (ev_arB rfl rfl rfl (fun _ => by omega)) rfl rfl rfl ?_
 refine XO_v0 (ev_arB rfl rfl rfl (fun _ => by omega)) rfl rfl rfl ?_
 refine zA ?_
 refine zN (zR ?_)
 refine zM ?_
 refine zC ?_
 refine zN ?_
 refine X_cond rfl (fun hc16 => ?_) (fun hc16 => ?_)
 ·
  have hk1 : 0 < k := by have h := hc16; simp at h; omega
  refine X_region ?_
  refine zM ?_
  refine zM ?_
  refine XO_v0 (ev_cap rfl slt_24) rfl rfl rfl ?_
  refine XO_v0 (ev_sliceHi rfl rfl slt_24 (fun hg => by first | omega | (simp [conj] at hg; omega))) rfl rfl rfl ?_
  refine zM ?_
  refine XO_appendZ0 rfl rfl elt_24 und_3 (by omega) (by decide) (by omega) rfl rfl (fun b9 c9 zs9 hz1 hz2 hz3 => ?_)
  refine zM ?_
  refine XO_v0 (ev_lenS rfl slt_24) rfl rfl rfl ?_
  refine XO_v0 (ev_sliceHi rfl rfl slt_24 (fun hg => by first | omega | (simp [conj] at hg; omega))) rfl rfl rfl ?_
  refine zA ?_
  refine zN (zR ?_)
  refine zM ?_
  refine zA ?_
  refine zN ?_
  refine X_ret ?_
  exact at_ret1 rfl rfl (fun w hw => ⟨_, I, _, rfl, HLe.refl _, hw, rfl, rfl, .inr ⟨b9, c9, zs9.toArray, rfl, rfl, Nat.zero_le _, hz2, by simpa using hz3, by simp⟩⟩)
 have hk0 : k = 0 := by have h := hc16; simp at h; omega
 refine X_skip ?_
 refine at_then ?_
 refine zR ?_
 refine zM ?_
 refine zA ?_
 refine zN ?_
 refine X_ret ?_
 exact at_ret1 rfl rfl (fun w hw => ⟨_, I, [], rfl, HLe.refl _, hw, rfl, OwnS.nil⟩)
theorem w_concatH {I : HMap} {av : Option Addr} {n c : Nat} {hs : List Hd} {vss : List (List Hd)} (hV : SlHA I 1 encH av n c hs vss) (hn : n ≤ 100000) (hf : vss.flatten.length ≤ 100000) : RetM Tryz.prog 40 [.slice av n c] I [] (fun v I' L => I' = I ∧ OwnS 23 1 v vss.flatten.length (vss.flatten.flatMap encH) L) := by
 intro g H w hw
 refine enter Tryz.func40 rfl Tryz.ntmps40 rfl hw ?_
 have hH := hV.1
 have hlV := hV.len
 refine zR ?_
 refine zA ?_
 refine zN (zR ?_)
 refine zA ?_
 refine zN ?_
 refine X_seq ?_
 refine zR ?_
 refine zM ?_
 refine XO_v0 (ev_lenS rfl slt_114) rfl rfl rfl ?_
 refine zM ?_
 refine zN ?_
 refine X_block ?_
 refine X_loopT [(0, _), (9, _), (10, _)] (.cons rfl (.cons rfl (.cons rfl .nil))) (fun T L0 mz E I' loc' => ∃ (k : Nat), mz = n - k ∧ E = (3, .int .i64 ((vss.take k).flatten.length : Nat)) :: (11, .int .i64 k) :: T ∧ I = I' ∧ [] = loc' ∧ k ≤ n) _ _ _ _ ⟨0, rfl, rfl, rfl, rfl, Nat.zero_le _⟩ (.cons rfl (.cons rfl (.cons rfl (.cons rfl (.cons rfl .nil))))) (HLe.refl _) rfl ?_
 rintro mz E I' loc' ⟨k, rfl, rfl, rfl, rfl, hk⟩
 refine zR ?_
 refine zC ?_
 refine zN ?_
 refine X_seq ?_
 refine X_cond rfl (fun hc12 => ?_) (fun hc12 => ?_)
 ·
  have hlt_k : k < n := by have h := hc12; simp at h; omega
  obtain ⟨x, v, hx, hv, hQ⟩ := hV.at hlt_k
  have hfs := flat_step hv
  have hfs2 : (vss.take (k + 1)).flatten.length = (vss.take k).flatten.length + x.n := by rw [hfs, List.length_append, hQ.len]
  refine X_skip ?_
  refine at_then ?_
  refine X_seq ?_
  refine X_block ?_
  refine zR ?_
  refine XO_v0 (ev_indexSl rfl rfl slt_114 hH (fun hg => by first | omega | (simp [conj] at hg; omega))) rfl rfl rfl ?_
  refine XO_v0 (ev_load rfl sct_24 (fun hg => by first | exact Sl.get0 hH hx rfl | (repeat (first | exact Cell.here rfl | apply Cell.there | apply Cell.app)))) rfl rfl rfl ?_
  refine zA ?_
  refine zN (zR ?_)
  refine zM ?_
  refine zM ?_
  refine XO_v0 (ev_lenS rfl slt_24) rfl rfl rfl ?_
  refine XO_v0 (ev_arB rfl rfl rfl (fun _ => by first | omega | (have hfl := flat_le (vss := vss) k; have hfl2 := flat_le (vss := vss) (k + 1); omega))) rfl rfl rfl ?_
  refine zA ?_
  refine zN (zR ?_)
  refine zM ?_
  refine zC ?_
  refine zN ?_
  refine X_cond rfl (fun hc20 => ?_) (fun hc20 => ?_)
  ·
   have h := hc20; simp at h; omega
  rw [show (((vss.take k).flatten.length : Nat) : Int) + (x.n : Int) = (((vss.take (k + 1)).flatten.length : Nat) : Int) from by omega]
  refine X_skip ?_
  refine at_block_n ?_
  refine at_then ?_
  refine X_region ?_
  refine XO_v0 (ev_arB rfl rfl rfl (fun _ => by first | omega | (have hfl := flat_le (vss := vss) k; have hfl2 := flat_le (vss := vss) (k + 1); omega))) rfl rfl rfl ?_
  refine zM ?_
  refine XO_nil ?_
  exact at_met2 _ _ ⟨n - (k + 1), by omega, k + 1, rfl, rfl, rfl, rfl, by omega⟩ (.cons rfl (.cons rfl (.cons rfl (.cons rfl (.cons rfl .nil))))) (by repeat (first | exact .refl | exact subL_left | refine subL_app ?_ | refine .drop ?_ | refine subL_add ?_))
 have hge_k : n ≤ k := by have h := hc12; simp at h; omega
 rw [List.take_of_length_le (show vss.length ≤ k by omega)]
 refine X_exit ?_
 refine at_then_e ?_
 refine at_then_e ?_
 refine at_block_hit ?_
 refine at_then ?_
 refine zR ?_
 refine zM ?_
 refine XO_callM (cap := []) (vs := [_, _]) rfl rfl fun_75 .nil (w_growH _ vss.flatten.length (by omega)) rfl rfl ?_
 rintro vv2 I2 L2 hI2 ⟨rfl, hG⟩
 rw [List.append_nil]
 refine zA ?_
 refine zN ?_
 refine X_seq ?_
 refine zR ?_
 refine zM ?_
 refine XO_v0 (ev_lenS rfl slt_114) rfl rfl rfl ?_
 refine zM ?_
 refine zN ?_
 refine X_block ?_
 refine X_loopT [(25, _), (26, _)] (.cons rfl (.cons rfl .nil)) (fun T L0 mz E I' loc' => ∃ (k : Nat) (v6 : Value) (L : Go.Kn.Loc), mz = n - k ∧ E = (6, v6) :: (27, .int .i64 k) :: T ∧ I2 = I' ∧ L = loc' ∧ k ≤ n ∧ OwnS 23 1 v6 (vss.take k).flatten.length ((vss.take k).flatten.flatMap encH) L) _ _ _ _ ⟨0, _, _, rfl, rfl, rfl, rfl, Nat.zero_le _, hG⟩ (.cons rfl (.cons rfl (.cons rfl (.cons rfl .nil)))) (HLe.refl _) rfl ?_
 rintro mz E I' loc' ⟨k, v6, L, rfl, rfl, rfl, rfl, hk, hO⟩
 refine zR ?_
 refine zC ?_
 refine zN ?_
 refine X_seq ?_
 refine X_cond rfl (fun hc28 => ?_) (fun hc28 => ?_)
 ·
  have hlt_k : k < n := by have h := hc28; simp at h; omega
  obtain ⟨x, v, hx, hv, hQ⟩ := hV.at hlt_k
  have hxl := hQ.len
  have hfl := flat_le (vss := vss) (k + 1)
  rw [flat_step hv, List.length_append] at hfl
  refine X_skip ?_
  refine at_then ?_
  refine X_seq ?_
  refine X_block ?_
  refine zR ?_
  refine XO_v0 (ev_indexSl rfl rfl slt_114 hH (fun hg => by first | omega | (simp [conj] at hg; omega))) rfl rfl rfl ?_
  refine XO_v0 (ev_load rfl sct_24 (fun hg => by first | exact Sl.get0 hH hx rfl | (repeat (first | exact Cell.here rfl | apply Cell.there | apply Cell.app)))) rfl rfl rfl ?_
  refine zA ?_
  refine zN ?_
  refine X_region ?_
  refine zM ?_
  refine zM ?_
  refine XO_append (v := _) (ys := v.flatMap encH) (L := L) rfl rfl elt_24 hO (by repeat (first | exact .cons .here .nil | exact split_all | exact split_app | apply split_cons | apply split_skip)) (hQ.src encH_len) (one_H _) (by omega) rfl rfl ?_
  intro v9 L9 hO9 _; rw [← List.flatMap_append] at hO9
  refine zA ?_
  refine XO_nil ?_
  refine at_block_n ?_
  refine at_then ?_
  refine X_region ?_
  refine XO_v0 (ev_arB rfl rfl rfl (fun _ => by first | omega | (have hfl := flat_le (vss := vss) k; have hfl2 := flat_le (vss := vss) (k + 1); omega))) rfl rfl rfl ?_
  refine zM ?_
  refine XO_nil ?_
  exact at_met2 _ _ ⟨n - (k + 1), by omega, k + 1, _, _, rfl, rfl, rfl, rfl, by omega, by rw [flat_step hv, List.length_append, hQ.len]; exact hO9⟩ (.cons rfl (.cons rfl (.cons rfl (.cons rfl .nil)))) (by repeat (first | exact .refl | exact subL_left | refine subL_app ?_ | refine .drop ?_ | refine subL_add ?_))
 have hge_k : n ≤ k := by have h := hc28; simp at h; omega
 rw [List.take_of_length_le (show vss.length ≤ k by omega)] at hO
 refine X_exit ?_
 refine at_then_e ?_
 refine at_then_e ?_
 refine at_block_hit ?_
 refine at_then ?_
 refine zR ?_
 refine zM ?_
 refine zA ?_
 refine zN ?_
 refine X_ret ?_
 exact at_ret1 rfl rfl (fun w hw => ⟨_, _, L, rfl, HLe.refl _, hw, rfl, hO⟩)
theorem w_growP (I : HMap) (k : Nat) (hk : k ≤ 100000) : RetM Tryz.prog 78 [.slice none 0 0, .int .i64 k] I [] (fun v I' L => I' = I ∧ OwnS 65 19 v 0 [] L) := by
 intro g H w hw
 refine enter Tryz.func78 rfl Tryz.ntmps78 rfl hw ?_
 refine zR ?_
 refine zA ?_
 refine zN ?_
 refine X_seq ?_
 refine zR ?_
 refine zM ?_
 refine zC ?_
 refine zN ?_
 refine X_cond rfl (fun hc6 => ?_) (fun hc6 => ?_)
 ·
  have h := hc6; simp at h; omega
 refine X_skip ?_
 refine at_then ?_
 refine X_seq ?_
 refine zR ?_
 refine zM ?_
 refine zM ?_
 refine XO_v0 (ev_cap rfl slt_22) rfl rfl rfl ?_
 refine zM ?_
 refine XO_v0 (ev_lenS rfl slt_22) rfl rfl rfl ?_
 refine XO_v0 (ev_arB rfl rfl rfl (fun _ => by omega)) rfl rfl rfl ?_
 refine XO_v0 (ev_arB rfl rfl rfl (fun _ => by omega)) rfl rfl rfl ?_
 refine zA ?_
 refine zN (zR ?_)
 refine zM ?_
 refine zC ?_
 refine zN ?_
 refine X_cond rfl (fun hc16 => ?_) (fun hc16 => ?_)
 ·
  have hk1 : 0 < k := by have h := hc16; simp at h; omega
  refine X_region ?_
  refine zM ?_
  refine zM ?_
  refine XO_v0 (ev_cap rfl slt_22) rfl rfl rfl ?_
  refine XO_v0 (ev_sliceHi rfl rfl slt_22 (fun hg => by first | omega | (simp [conj] at hg; omega))) rfl rfl rfl ?_
  refine zM ?_
  refine XO_appendZ0 rfl rfl elt_22 und_3 (by omega) (by decide) (by omega) rfl rfl (fun b9 c9 zs9 hz1 hz2 hz3 => ?_)
  refine zM ?_
  refine XO_v0 (ev_lenS rfl slt_22) rfl rfl rfl ?_
  refine XO_v0 (ev_sliceHi rfl rfl slt_22 (fun hg => by first | omega | (simp [conj] at hg; omega))) rfl rfl rfl ?_
  refine zA ?_
  refine zN (zR ?_)
  refine zM ?_
  refine zA ?_
  refine zN ?_
  refine X_ret ?_
  exact at_ret1 rfl rfl (fun w hw => ⟨_, I, _, rfl, HLe.refl _, hw, rfl, rfl, .inr ⟨b9, c9, zs9.toArray, rfl, rfl, Nat.zero_le _, hz2, by simpa using hz3, by simp⟩⟩)
 have hk0 : k = 0 := by have h := hc16; simp at h; omega
 refine X_skip ?_
 refine at_then ?_
 refine zR ?_
 refine zM ?_
 refine zA ?_
 refine zN ?_
 refine X_ret ?_
 exact at_ret1 rfl rfl (fun w hw => ⟨_, I, [], rfl, HLe.refl _, hw, rfl, OwnS.nil⟩)
theorem w_concatP {I : HMap} {av : Option Addr} {n c : Nat} {hs : List Hd} {vss : List (List Pt)} (hV : SlHA I 19 encP av n c hs vss) (hn : n ≤ 100000) (hf : vss.flatten.length ≤ 100000) : RetM Tryz.prog 45 [.slice av n c] I [] (fun v I' L => I' = I ∧ OwnS 65 19 v vss.flatten.length (vss.flatten.flatMap encP) L) := by
 intro g H w hw
 refine enter Tryz.func45 rfl Tryz.ntmps45 rfl hw ?_
 have hH := hV.1
 have hlV := hV.len
 refine zR ?_
 refine zA ?_
 refine zN (zR ?_)
 refine zA ?_
 refine zN ?_
 refine X_seq ?_
 refine zR ?_
 refine zM ?_
 refine XO_v0 (ev_lenS rfl slt_118) rfl rfl rfl ?_
 refine zM ?_
 refine zN ?_
 refine X_block ?_
 refine X_loopT [(0, _), (9, _), (10, _)] (.cons rfl (.cons rfl (.cons rfl .nil))) (fun T L0 mz E I' loc' => ∃ (k : Nat), mz = n - k ∧ E = (3, .int .i64 ((vss.take k).flatten.length : Nat)) :: (11, .int .i64 k) :: T ∧ I = I' ∧ [] = loc' ∧ k ≤ n) _ _ _ _ ⟨0, rfl, rfl, rfl, rfl, Nat.zero_le _⟩ (.cons rfl (.cons rfl (.cons rfl (.cons rfl (.cons rfl .nil))))) (HLe.refl _) rfl ?_
 rintro mz E I' loc' ⟨k, rfl, rfl, rfl, rfl, hk⟩
 refine zR ?_
 refine zC ?_
 refine zN ?_
 refine X_seq ?_
 refine X_cond rfl (fun hc12 => ?_) (fun hc12 => ?_)
 ·
  have hlt_k : k < n := by have h := hc12; simp at h; omega
  obtain ⟨x, v, hx, hv, hQ⟩ := hV.at hlt_k
  have hfs := flat_step hv
  have hfs2 : (vss.take (k + 1)).flatten.length = (vss.take k).flatten.length + x.n := by rw [hfs, List.length_append, hQ.len]
  refine X_skip ?_
  refine at_then ?_
  refine X_seq ?_
  refine X_block ?_
  refine zR ?_
  refine XO_v0 (ev_indexSl rfl rfl slt_118 hH (fun hg => by first | omega | (simp [conj] at hg; omega))) rfl rfl rfl ?_
  refine XO_v0 (ev_load rfl sct_22 (fun hg => by first | exact Sl.get0 hH hx rfl | (repeat (first | exact Cell.here rfl | apply Cell.there | apply Cell.app)))) rfl rfl rfl ?_
  refine zA ?_
  refine zN (zR ?_)
  refine zM ?_
  refine zM ?_
  refine XO_v0 (ev_lenS rfl slt_22) rfl rfl rfl ?_
  refine XO_v0 (ev_arB rfl rfl rfl (fun _ => by first | omega | (have hfl := flat_le (vss := vss) k; have hfl2 := flat_le (vss := vss) (k + 1); omega))) rfl rfl rfl ?_
  refine zA ?_
  refine zN (zR ?_)
  refine zM ?_
  refine zC ?_
  refine zN ?_
  refine X_cond rfl (fun hc20 => ?_) (fun hc20 => ?_)
  ·
   have h := hc20; simp at h; omega
  rw [show (((vss.take k).flatten.length : Nat) : Int) + (x.n : Int) = (((vss.take (k + 1)).flatten.length : Nat) : Int) from by omega]
  refine X_skip ?_
  refine at_block_n ?_
  refine at_then ?_
  refine X_region ?_
  refine XO_v0 (ev_arB rfl rfl rfl (fun _ => by first | omega | (have hfl := flat_le (vss := vss) k; have hfl2 := flat_le (vss := vss) (k + 1); omega))) rfl rfl rfl ?_
  refine zM ?_
  refine XO_nil ?_
  exact at_met2 _ _ ⟨n - (k + 1), by omega, k + 1, rfl, rfl, rfl, rfl, by omega⟩ (.cons rfl (.cons rfl (.cons rfl (.cons rfl (.cons rfl .nil))))) (by repeat (first | exact .refl | exact subL_left | refine subL_app ?_ | refine .drop ?_ | refine subL_add ?_))
 have hge_k : n ≤ k := by have h := hc12; simp at h; omega
 rw [List.take_of_length_le (show vss.length ≤ k by omega)]
 refine X_exit ?_
 refine at_then_e ?_
 refine at_then_e ?_
 refine at_block_hit ?_
 refine at_then ?_
 refine zR ?_
 refine zM ?_
 refine XO_callM (cap := []) (vs := [_, _]) rfl rfl fun_78 .nil (w_growP _ vss.flatten.length (by omega)) rfl rfl ?_
 rintro vv2 I2 L2 hI2 ⟨rfl, hG⟩
 rw [List.append_nil]
 refine zA ?_
 refine zN ?_
 refine X_seq ?_
 refine zR ?_
 refine zM ?_
 refine XO_v0 (ev_lenS rfl slt_118) rfl rfl rfl ?_
 refine zM ?_
 refine zN ?_
 refine X_block ?_
 refine X_loopT [(25, _), (26, _)] (.cons rfl (.cons rfl .nil)) (fun T L0 mz E I' loc' => ∃ (k : Nat) (v6 : Value) (L : Go.Kn.Loc), mz = n - k ∧ E = (6, v6) :: (27, .int .i64 k) :: T ∧ I2 = I' ∧ L = loc' ∧ k ≤ n ∧ OwnS 65 19 v6 (vss.take k).flatten.length ((vss.take k).flatten.flatMap encP) L) _ _ _ _ ⟨0, _, _, rfl, rfl, rfl, rfl, Nat.zero_le _, hG⟩ (.cons rfl (.cons rfl (.cons rfl (.cons rfl .nil)))) (HLe.refl _) rfl ?_
 rintro mz E I' loc' ⟨k, v6, L, rfl, rfl, rfl, rfl, hk, hO⟩
 refine zR ?_
 refine zC ?_
 refine zN ?_
 refine X_seq ?_
 refine X_cond rfl (fun hc28 => ?_) (fun hc28 => ?_)
 ·
  have hlt_k : k < n := by have h := hc28; simp at h; omega
  obtain ⟨x, v, hx, hv, hQ⟩ := hV.at hlt_k
  have hxl := hQ.len
  have hfl := flat_le (vss := vss) (k + 1)
  rw [flat_step hv, List.length_append] at hfl
  refine X_skip ?_
  refine at_then ?_
  refine X_seq ?_
  refine X_block ?_
  refine zR ?_
  refine XO_v0 (ev_indexSl rfl rfl slt_118 hH (fun hg => by first | omega | (simp [conj] at hg; omega))) rfl rfl rfl ?_
  refine XO_v0 (ev_load rfl sct_22 (fun hg => by first | exact Sl.get0 hH hx rfl | (repeat (first | exact Cell.here rfl | apply Cell.there | apply Cell.app)))) rfl rfl rfl ?_
  refine zA ?_
  refine zN ?_
  refine X_region ?_
  refine zM ?_
  refine zM ?_
  refine XO_append (v := _) (ys := v.flatMap encP) (L := L) rfl rfl elt_22 hO (by repeat (first | exact .cons .here .nil | exact split_all | exact split_app | apply split_cons | apply split_skip)) (hQ.src encP_len) (one_P _) (by omega) rfl rfl ?_
  intro v9 L9 hO9 _; rw [← List.flatMap_append] at hO9
  refine zA ?_
  refine XO_nil ?_
  refine at_block_n ?_
  refine at_then ?_
  refine X_region ?_
  refine XO_v0 (ev_arB rfl rfl rfl (fun _ => by first | omega | (have hfl := flat_le (vss := vss) k; have hfl2 := flat_le (vss := vss) (k + 1); omega))) rfl rfl rfl ?_
  refine zM ?_
  refine XO_nil ?_
  exact at_met2 _ _ ⟨n - (k + 1), by omega, k + 1, _, _, rfl, rfl, rfl, rfl, by omega, by rw [flat_step hv, List.length_append, hQ.len]; exact hO9⟩ (.cons rfl (.cons rfl (.cons rfl (.cons rfl .nil)))) (by repeat (first | exact .refl | exact subL_left | refine subL_app ?_ | refine .drop ?_ | refine subL_add ?_))
 have hge_k : n ≤ k := by have h := hc28; simp at h; omega
 rw [List.take_of_length_le (show vss.length ≤ k by omega)] at hO
 refine X_exit ?_
 refine at_then_e ?_
 refine at_then_e ?_
 refine at_block_hit ?_
 refine at_then ?_
 refine zR ?_
 refine zM ?_
 refine zA ?_
 refine zN ?_
 refine X_ret ?_
 exact at_ret1 rfl rfl (fun w hw => ⟨_, _, L, rfl, HLe.refl _, hw, rfl, hO⟩)
instance : Inhabited Pt := ⟨zeroP⟩
theorem w_revP (zs : List Pt) {v : Value} {n : Nat} {L : Go.Kn.Loc} (hO : OwnS 65 19 v n (zs.flatMap encP) L) (hn : n ≤ 1000000) (I : HMap) :
  RetM Tryz.prog 44 [v] I L (fun u I' L' => u = .tuple #[] ∧ I' = I ∧ OwnS 65 19 v n (zs.reverse.flatMap encP) L') :=
 retRevK encP_len (by decide) (fun blk off cap d w hH hs => Tryz.slices_Reverse 19 (fun w => run_isAgg_ag agt_65) (fun w => by obtain ⟨i, hi, hz⟩ := szt_65; exact hz ▸ Go.Kn.run_sizeOf hi) encP encP_len (fun x => allOne_iff (by rfl)) blk off cap d w hH hs)
  (Tryz.slices_Reverse_empty (α := Pt)) zs hO hn I
end Go.Proofs.YtehkiccapbkhnaaGreat
end
section
namespace Go.Proofs.YtehkiccapbkhnaaGreat
open Go Go.Kn Go.Proofs
theorem elt_114 : ElT Tryz.prog 114 24 1 24 := .of (by kernel_rfl)
theorem elt_118 : ElT Tryz.prog 118 22 1 24 := .of (by kernel_rfl)
theorem elt_27 : ElT Tryz.prog 27 58 4 64 := .of (by kernel_rfl)
theorem fun_35 : Fun Tryz.prog 35 := .of Tryz.func35 (by kernel_rfl) (by kernel_rfl)
theorem fun_40 : Fun Tryz.prog 40 := .of Tryz.func40 (by kernel_rfl) (by kernel_rfl)
theorem fun_41 : Fun Tryz.prog 41 := .of Tryz.func41 (by kernel_rfl) (by kernel_rfl)
theorem fun_44 : Fun Tryz.prog 44 := .of Tryz.func44 (by kernel_rfl) (by kernel_rfl)
theorem fun_45 : Fun Tryz.prog 45 := .of Tryz.func45 (by kernel_rfl) (by kernel_rfl)
theorem fun_46 : Fun Tryz.prog 46 := .of Tryz.func46 (by kernel_rfl) (by kernel_rfl)
theorem plt_58 : PlT Tryz.prog 58 #[(0, 1), (1, 1), (2, 1), (3, 1)] (.agg #[(.int .i64 0), (.int .i64 0), (.slice none 0 0), (.slice none 0 0)]) := ⟨.of (by kernel_rfl), by kernel_rfl, fun w => by kernel_rfl⟩
theorem und_4 : Tryz.prog.underlying 4 = some .bool := by kernel_rfl
theorem w_From {I : HMap} {av : Option Addr} {n c : Nat} {ps : List Pt} (hP : SlP I av n c ps) (hn : n ≤ 100000) {bv : Option Addr} {n2 c2 : Nat} {tg : List Int} (hT : Sl I 1 encI bv n2 c2 tg) (hn2 : n2 ≤ 100000) {dv : Option Addr} {n3 c3 : Nat} {hsh : List Hd} {has : List (List Int)} (hV : SlHA I 1 encI dv n3 c3 hsh has) (hn3 : n3 ≤ 100000) (hvl : ∀ v ∈ has, v.length ≤ 100000) : RetM Tryz.prog 12 [.slice av n c, .slice bv n2 c2, .slice dv n3 c3] I [] (FroQ ps tg has) := by
 intro g H w hw
 refine enter Tryz.func12 rfl Tryz.ntmps12 rfl hw ?_
 have hIc := HLe.refl I
 have hlp := hP.1.len
 have hlT := hT.len
 have hlV := hV.len
 have hlH := hV.1.len
 refine zR ?_
 refine zA ?_
 refine zA ?_
 refine zN ?_
 refine X_seq ?_
 refine zR ?_
 refine zM ?_
 refine XO_callV0 (cap := []) (vs := [_]) rfl rfl fun_39 (w_chkR hP hn) rfl rfl ?_
 refine zA ?_
 refine zN (zR ?_)
 refine zM ?_
 refine zC ?_
 refine zN ?_
 refine X_cond rfl (fun hc31 => ?_) (fun hc31 => ?_)
 ·
  have hk0 : chkR ps ≠ 0 := by simpa using hc31
  refine zR ?_
  refine zM ?_
  refine zA ?_
  refine zA ?_
  refine zN ?_
  refine X_ret ?_
  refine at_then_r ?_
  exact at_ret2 rfl rfl rfl (fun w hw => ⟨_, I, [], rfl, hIc, hw.drop, FroQ.bad (fromE_1 hk0) hk0⟩)
 have hk0 : chkR ps = 0 := by simpa using hc31
 have hL := chkR_lst hk0
 have hnd := nd_chk hP hk0
 refine X_skip ?_
 refine at_then ?_
 refine X_seq ?_
 refine zR ?_
 refine zM ?_
 refine XO_v0 (ev_lenS rfl slt_24) rfl rfl rfl ?_
 refine zC ?_
 refine zN ?_
 refine X_cond rfl (fun hc35 => ?_) (fun hc35 => ?_)
 ·
  have h6 : has.length > 6 := by rw [hlV]; have h := hc35; simp at h; omega
  refine zR ?_
  refine zA ?_
  refine zA ?_
  refine zN ?_
  refine X_ret ?_
  refine at_then_r ?_
  exact at_ret2 rfl rfl rfl (fun w hw => ⟨_, I, [], rfl, hIc, hw.drop, FroQ.bad (fromE_2 hk0 h6) (by decide)⟩)
 have h6 : ¬ has.length > 6 := by rw [hlV]; have h := hc35; simp at h; omega
 refine X_skip ?_
 refine at_then ?_
 refine X_seq ?_
 refine zR ?_
 refine zM ?_
 refine XO_buildSlice (ps := [(0, _)]) (m := [encH (⟨bv, n2, c2⟩ : Hd)]) elt_24 rfl (.cons rfl (.nil)) rfl (by simp [encH_len]) (by decide) (by decide) rfl rfl (fun b_37 => ?_)
 refine XO_freeze (by repeat (first | exact Take.here | apply Take.there)) (fun I1 hI1 hb1 => ?_)
 have hP := hP.mono hI1; have hT := hT.mono hI1; have hV := hV.mono hI1; have hIc := hIc.trans hI1
 have hG1 := Sl.lit [(⟨bv, n2, c2⟩ : Hd)] rfl encH_len (show I1 b_37 = some (Obj.cells ([(⟨bv, n2, c2⟩ : Hd)].flatMap encH).toArray 23 (0, 0)) from hb1)
 refine zM ?_
 refine XO_buildSlice (ps := [(0, _), (1, _)]) (m := [encH ⟨some ⟨b_37, 0, none⟩, 1, 1⟩, encH ⟨dv, n3, c3⟩]) elt_114 rfl (.cons rfl (.cons rfl (.nil))) rfl (by simp [encH_len]) (by decide) (by decide) rfl rfl (fun b_39 => ?_)
 refine XO_freeze (by repeat (first | exact Take.here | apply Take.there)) (fun I2 hI2 hb2 => ?_)
 have hP := hP.mono hI2; have hT := hT.mono hI2; have hV := hV.mono hI2; have hG1 := hG1.mono hI2; have hIc := hIc.trans hI2
 have hG2 := Sl.lit [(⟨some ⟨b_37, 0, none⟩, 1, 1⟩ : Hd), ⟨dv, n3, c3⟩] rfl encH_len (show I2 b_39 = some (Obj.cells ([(⟨some ⟨b_37, 0, none⟩, 1, 1⟩ : Hd), ⟨dv, n3, c3⟩].flatMap encH).toArray 24 (0, 0)) from hb2)
 refine XO_callM (cap := []) (vs := [_]) rfl rfl fun_40 .nil (w_concatH (vss := [[(⟨bv, n2, c2⟩ : Hd)], hsh]) ⟨hG2, .cons hG1 (.cons hV.1 .nil)⟩ (by omega) (by simp; omega)) rfl rfl ?_
 rintro vv3 I3 L3 hI3 ⟨rfl, hO⟩
 have hP := hP.mono hI3; have hT := hT.mono hI3; have hV := hV.mono hI3; have hG1 := hG1.mono hI3; have hG2 := hG2.mono hI3; have hIc := hIc.trans hI3
 rw [show [[(⟨bv, n2, c2⟩ : Hd)], hsh].flatten = (⟨bv, n2, c2⟩ : Hd) :: hsh by simp, show ((⟨bv, n2, c2⟩ : Hd) :: hsh).length = n3 + 1 by simp; omega] at hO
 refine XO_freezeO hO encH_len (by decide) (by repeat (first | exact .cons .here .nil | exact split_all | exact split_app | apply split_cons | apply split_skip)) (fun I4 hI4 aa ac e4 hA => ?_)
 subst e4
 have hP := hP.mono hI4; have hT := hT.mono hI4; have hV := hV.mono hI4; have hG1 := hG1.mono hI4; have hG2 := hG2.mono hI4; have hIc := hIc.trans hI4
 refine XO_v0 (ev_lenS rfl slt_24) rfl rfl rfl ?_
 refine zM ?_
 refine zN ?_
 refine X_block ?_
 refine X_loopT [(0, _), (1, _), (2, _), (40, _), (41, _)] (.cons rfl (.cons rfl (.cons rfl (.cons rfl (.cons rfl .nil))))) (fun T L0 mz E I' loc' => ∃ (k : Nat), mz = n3 + 1 - k ∧ E = (6, .slice none 0 0) :: (42, .int .i64 k) :: T ∧ HLe I4 I' ∧ L0 = loc' ∧ k ≤ n3 + 1 ∧ ((tg :: has).take k).all (verF ps) = true) _ _ _ _ ⟨0, rfl, rfl, HLe.refl _, rfl, Nat.zero_le _, rfl⟩ (.cons rfl (.cons rfl (.cons rfl (.cons rfl (.cons rfl (.cons rfl (.cons rfl .nil))))))) (HLe.refl _) rfl ?_
 rintro mz E J5 loc' ⟨k, rfl, rfl, hJ, rfl, hk, hall⟩
 have hP := hP.mono hJ; have hT := hT.mono hJ; have hV := hV.mono hJ; have hG1 := hG1.mono hJ; have hG2 := hG2.mono hJ; have hA := hA.mono hJ; have hIc := hIc.trans hJ
 have hB0 := hJ
 refine zR ?_
 refine zC ?_
 refine zN ?_
 refine X_seq ?_
 refine X_cond rfl (fun hc43 => ?_) (fun hc43 => ?_)
 ·
  have hlt_k : k < n3 + 1 := by have h := hc43; simp at h; omega
  have hHA : SlHA J5 1 encI _ _ _ _ (tg :: has) := ⟨hA, RelA.cons (h := (⟨bv, n2, c2⟩ : Hd)) hT hV.2⟩
  obtain ⟨h0, v0, hh0, hv0, hS0⟩ := hHA.at hlt_k
  have hl0 := hS0.len
  have hv0l : v0.length ≤ 100000 := by rcases List.mem_cons.1 (List.mem_of_getElem? hv0) with e | e; (rw [e]; omega); exact hvl v0 e
  refine X_skip ?_
  refine at_then ?_
  refine X_seq ?_
  refine X_block ?_
  refine zR ?_
  refine XO_v0 (ev_indexSl rfl rfl slt_24 hA (fun hg => by first | omega | (simp [conj] at hg; omega))) rfl rfl rfl ?_
  refine XO_v0 (ev_load rfl sct_23 (fun hg => by first | exact Sl.get0 hA hh0 rfl | exact Sl.get0 hV.1 hh0 rfl | exact Cell.imm h16 rfl | exact Cell.imm h20 rfl | exact Cell.imm h22 rfl | (repeat (first | exact Cell.here rfl | apply Cell.there | apply Cell.app)))) rfl rfl rfl ?_
  refine zA ?_
  refine zN (zR ?_)
  refine zM ?_
  refine zM ?_
  refine XO_callM (cap := []) (vs := [_, _]) rfl rfl fun_35 .nil (w_Closure hP hn hS0 (by omega)) rfl rfl ?_
  rintro vv6 I6 L6 hI6 ⟨rfl, xa, xc, rfl, hX⟩
  have hP := hP.mono hI6; have hT := hT.mono hI6; have hV := hV.mono hI6; have hG1 := hG1.mono hI6; have hG2 := hG2.mono hI6; have hA := hA.mono hI6; have hS0 := hS0.mono hI6; have hIc := hIc.trans hI6; have hB0 := hB0.trans hI6
  rw [List.nil_append]
  refine zM ?_
  refine XO_v0 (ev_extract rfl rfl) rfl rfl rfl ?_
  refine XO_v0 (ev_extract rfl rfl) rfl rfl rfl ?_
  refine zA ?_
  refine zA ?_
  refine zN (zR ?_)
  refine zM ?_
  refine zC ?_
  refine zM ?_
  refine XO_pushF 2 rfl rfl rfl ?_
  refine XO_v1 (ev_move rfl) (.some rfl rfl rfl rfl gbf) rfl rfl rfl ?_
  refine XO_v1 (ev_move rfl) (.some rfl rfl rfl rfl gbf) rfl rfl rfl ?_
  refine XO_callV1 (cap := []) (vs := [_, _]) rfl rfl fun_41 (fun hg => w_equalI hX hS0 (by have := clo_len_le ps v0; omega)) (.some rfl rfl rfl rfl gbf) rfl rfl ?_
  refine XO_v1 (ev_not rfl) (.some rfl rfl rfl rfl gbf) rfl rfl rfl ?_
  refine XO_or0 rfl rfl rfl rfl rfl ?_
  refine zN ?_
  refine X_cond rfl (fun hc59 => ?_) (fun hc59 => ?_)
  ·
   have hvf : verF ps v0 = false := by rw [ver_val hk0, hc59]; rfl
   refine zR ?_
   refine zA ?_
   refine zA ?_
   refine zN ?_
   refine X_ret ?_
   refine at_block_r ?_
   refine at_then_r ?_
   refine at_then_r ?_
   refine at_block_r ?_
   refine at_then_r ?_
   exact at_ret2 rfl rfl rfl (fun w hw => ⟨_, I6, [], rfl, hIc, hw.drop, FroQ.bad (fromE_3 hk0 h6 (all_bad hv0 hvf)) (by decide)⟩)
  have hvf : verF ps v0 = true := by rw [ver_val hk0, hc59]; rfl
  refine X_skip ?_
  refine at_block_n ?_
  refine at_then ?_
  refine X_region ?_
  refine zB ?_
  refine zM ?_
  refine XO_nil ?_
  exact at_met2 _ _ ⟨n3 + 1 - (k + 1), by omega, k + 1, rfl, rfl, hB0, rfl, by omega, all_take hv0 hall hvf⟩ (.cons rfl (.cons rfl (.cons rfl (.cons rfl (.cons rfl (.cons rfl (.cons rfl .nil))))))) (by repeat (first | exact .refl | exact subL_left | refine subL_app ?_ | refine .drop ?_ | refine subL_add ?_))
 have hge_k : n3 + 1 ≤ k := by have h := hc43; simp at h; omega
 rw [take_all (show (tg :: has).length = n3 + 1 by simp; omega) hge_k] at hall
 have hvers := List.all_eq_true.1 hall
 have hTv := ver_iff hk0 (hvers tg (by simp))
 refine X_exit ?_
 refine at_then_e ?_
 refine at_then_e ?_
 refine at_block_hit ?_
 refine at_then ?_
 refine zR ?_
 refine zA ?_
 refine zN (zR ?_)
 refine zA ?_
 refine zA ?_
 refine zN ?_
 refine X_seq ?_
 refine zR ?_
 refine zM ?_
 refine XO_v0 (ev_lenS rfl slt_22) rfl rfl rfl ?_
 refine zM ?_
 refine zN ?_
 refine X_block ?_
 refine X_loopT [(0, _), (1, _), (2, _), (6, _), (12, _), (61, _), (62, _)] (.cons rfl (.cons rfl (.cons rfl (.cons rfl (.cons rfl (.cons rfl (.cons rfl .nil))))))) (fun T L0 mz E I' loc' => ∃ (k : Nat) (vl : Value) (ql : Nat) (Ll : Go.Kn.Loc) (vd : Value) (qd : Nat) (Ld : Go.Kn.Loc), mz = n - k ∧ E = (13, vl) :: (14, vd) :: (63, .int .i64 k) :: T ∧ HLe J5 I' ∧ Ll ++ Ld = loc' ∧ k ≤ n ∧ OwnS 65 19 vl ql (((ps.take k).filter fun p => tg.contains p.id).flatMap encP) Ll ∧ OwnS 65 19 vd qd (((ps.take k).filter fun p => !tg.contains p.id).flatMap encP) Ld ∧ ql ≤ k ∧ qd ≤ k) _ _ _ _ ⟨0, _, 0, [], _, 0, [], rfl, rfl, HLe.refl _, rfl, Nat.zero_le _, OwnS.nil, OwnS.nil, Nat.le_refl _, Nat.le_refl _⟩ (.cons rfl (.cons rfl (.cons rfl (.cons rfl (.cons rfl (.cons rfl (.cons rfl (.cons rfl (.cons rfl (.cons rfl .nil)))))))))) (HLe.refl _) rfl ?_
 rintro mz E J7 loc' ⟨k, vl, ql, Ll, vd, qd, Ld, rfl, rfl, hJ, rfl, hk, hOl, hOd, hql, hqd⟩
 have hP := hP.mono hJ; have hT := hT.mono hJ; have hV := hV.mono hJ; have hG1 := hG1.mono hJ; have hG2 := hG2.mono hJ; have hA := hA.mono hJ; have hIc := hIc.trans hJ; have hB0 := hB0.trans hJ
 have hB2 := hJ
 refine zR ?_
 refine zC ?_
 refine zN ?_
 refine X_seq ?_
 refine X_cond rfl (fun hc64 => ?_) (fun hc64 => ?_)
 ·
  have hlt_k : k < n := by have h := hc64; simp at h; omega
  obtain ⟨p, hp, hN⟩ := hP.at hlt_k
  refine X_skip ?_
  refine at_then ?_
  refine X_seq ?_
  refine X_block ?_
  refine zR ?_
  refine XO_v0 (ev_indexSl rfl rfl slt_22 hP.1 (fun hg => by first | omega | (simp [conj] at hg; omega))) rfl rfl rfl ?_
  refine XO_v0 (ev_loadA rfl agt_65 (fun hg => by first | exact Sl.getA hP.1 hp | exact Cells.immC h16 | exact Sl.getA hOS hp | (repeat (first | exact Cells.here | exact Cells.s0 (vs := [_, _, _, _, _, _, _, _, _, _, _, _, _, _, _, _, _, _, _]) rfl | apply Cells.there | apply Cells.app))) rfl) rfl rfl rfl ?_
  refine XO_alloc zt_65 rfl rfl (fun b_16 => ?_)
  refine XO_storeA rfl rfl szt_65 rfl rfl rfl rfl (by repeat (first | exact Upd.here | apply Upd.there | apply upd_app)) ?_
  refine zN ?_
  refine X_block ?_
  refine X_seq ?_
  refine X_freeze .here (fun I8 hI8 hb8 => ?_)
  have hP := hP.mono hI8; have hT := hT.mono hI8; have hV := hV.mono hI8; have hG1 := hG1.mono hI8; have hG2 := hG2.mono hI8; have hA := hA.mono hI8; have hIc := hIc.trans hI8; have hB0 := hB0.trans hI8; have hB2 := hB2.trans hI8
  have h16 := ImmC.of hb8
  refine X_region ?_
  refine zM ?_
  refine zM ?_
  refine XO_v0 (ev_fieldAddr rfl fld_65_0) rfl rfl rfl ?_
  refine XO_v0 (ev_load rfl sct_3 (fun hg => by first | exact Sl.get0 hA hh0 rfl | exact Sl.get0 hV.1 hh0 rfl | exact Cell.imm h16 rfl | exact Cell.imm h20 rfl | exact Cell.imm h22 rfl | (repeat (first | exact Cell.here rfl | apply Cell.there | apply Cell.app)))) rfl rfl rfl ?_
  refine XO_callV0 (cap := []) (vs := [_, _]) rfl rfl fun_42 (w_in hT (by omega) hTv.inc p.id) rfl rfl ?_
  refine zA ?_
  refine zN ?_
  refine X_cond rfl (fun hc71 => ?_) (fun hc71 => ?_)
  ·
   refine X_region ?_
   refine zM ?_
   refine XO_v0 (ev_loadA rfl agt_65 (fun hg => by first | exact Sl.getA hP.1 hp | exact Cells.immC h16 | exact Sl.getA hOS hp | (repeat (first | exact Cells.here | exact Cells.s0 (vs := [_, _, _, _, _, _, _, _, _, _, _, _, _, _, _, _, _, _, _]) rfl | apply Cells.there | apply Cells.app))) rfl) rfl rfl rfl ?_
   refine XO_buildSlice (ps := [(0, _)]) (m := [encP p]) elt_22 rfl (.cons rfl (.nil)) rfl (by simp [encP_len]) (by decide) (by decide) rfl rfl (fun b_79 => ?_)
   refine XO_append (v := _) (ys := [p].flatMap encP) (L := Ll) rfl rfl elt_22 hOl (by repeat (first | exact .cons .here .nil | exact split_all | exact split_app | apply split_cons | apply split_skip)) ⟨rfl, fun _ => rfl, by repeat (first | exact Cells.here | apply Cells.there | apply Cells.app)⟩ (one_P _) (by omega) rfl rfl ?_
   intro v9 L9 hO9 _; rw [← List.flatMap_append] at hO9
   refine zA ?_
   refine XO_nil ?_
   refine at_block_n ?_
   refine at_block_n ?_
   refine at_then ?_
   refine X_region ?_
   refine zB ?_
   refine zM ?_
   refine XO_nil ?_
   first
   | exact at_met2 _ _ ⟨n - (k + 1), by omega, k + 1, v9, ql + 1, L9, vd, qd, Ld, rfl, rfl, hB2, rfl, by omega, by rw [filter_step hp, if_pos hc71]; exact hO9, by rw [filter_step hp, if_neg (by rw [hc71]; decide), List.append_nil]; exact hOd, by omega, by omega⟩ (.cons rfl (.cons rfl (.cons rfl (.cons rfl (.cons rfl (.cons rfl (.cons rfl (.cons rfl (.cons rfl (.cons rfl .nil)))))))))) (by repeat (first | exact .refl | exact subL_left | refine subL_app ?_ | refine .drop ?_ | refine subL_add ?_))
  refine X_region ?_
  refine zM ?_
  refine XO_v0 (ev_loadA rfl agt_65 (fun hg => by first | exact Sl.getA hP.1 hp | exact Cells.immC h16 | exact Sl.getA hOS hp | (repeat (first | exact Cells.here | exact Cells.s0 (vs := [_, _, _, _, _, _, _, _, _, _, _, _, _, _, _, _, _, _, _]) rfl | apply Cells.there | apply Cells.app))) rfl) rfl rfl rfl ?_
  refine XO_buildSlice (ps := [(0, _)]) (m := [encP p]) elt_22 rfl (.cons rfl (.nil)) rfl (by simp [encP_len]) (by decide) (by decide) rfl rfl (fun b_69 => ?_)
  refine XO_append (v := _) (ys := [p].flatMap encP) (L := Ld) rfl rfl elt_22 hOd (by repeat (first | exact .cons .here .nil | exact split_all | exact split_app | apply split_cons | apply split_skip)) ⟨rfl, fun _ => rfl, by repeat (first | exact Cells.here | apply Cells.there | apply Cells.app)⟩ (one_P _) (by omega) rfl rfl ?_
  intro v9 L9 hO9 _; rw [← List.flatMap_append] at hO9
  refine zA ?_
  refine XO_nil ?_
  refine at_block_n ?_
  refine at_block_n ?_
  refine at_then ?_
  refine X_region ?_
  refine zB ?_
  refine zM ?_
  refine XO_nil ?_
  first
  | exact at_metP _ (Ll ++ L9) (L9 ++ Ll) ⟨n - (k + 1), by omega, k + 1, vl, ql, Ll, v9, qd + 1, L9, rfl, rfl, hB2, rfl, by omega, by rw [filter_step hp, if_neg (by rw [hc71]; decide), List.append_nil]; exact hOl, by rw [filter_step hp, if_pos (by rw [hc71]; rfl)]; exact hO9, by omega, by omega⟩ (.cons rfl (.cons rfl (.cons rfl (.cons rfl (.cons rfl (.cons rfl (.cons rfl (.cons rfl (.cons rfl (.cons rfl .nil)))))))))) List.perm_append_comm (by simp only [List.append_nil]; exact subL_app (.drop .refl))
 have hge_k : n ≤ k := by have h := hc64; simp at h; omega
 rw [take_all hP.1.len hge_k] at hOl hOd
 have hord : [(ps.filter fun p => !tg.contains p.id).reverse, ps.filter fun p => tg.contains p.id].flatten = ordP ps tg := by simp [ordP]
 refine X_exit ?_
 refine at_then_e ?_
 refine at_then_e ?_
 refine at_block_hit ?_
 refine at_then ?_
 refine X_seq ?_
 refine X_freezeO hOl encP_len (by decide) (by repeat (first | exact .cons .here .nil | exact split_all | exact split_app | apply split_cons | apply split_skip)) (fun I9 hI9 ea ec e9 hLn => ?_)
 subst e9
 have hP := hP.mono hI9; have hT := hT.mono hI9; have hV := hV.mono hI9; have hG1 := hG1.mono hI9; have hG2 := hG2.mono hI9; have hA := hA.mono hI9; have hIc := hIc.trans hI9; have hB0 := hB0.trans hI9; have hB2 := hB2.trans hI9
 refine X_region ?_
 refine zM ?_
 refine XO_callM (cap := []) (vs := [_]) rfl rfl fun_44 (by repeat (first | exact .cons .here .nil | exact split_all | exact split_app | apply split_cons | apply split_skip)) (w_revP _ hOd (by omega) _) rfl rfl ?_
 rintro vv10 I10 L10 hI10 ⟨rfl, rfl, hOr⟩
 have hP := hP.mono hI10; have hT := hT.mono hI10; have hV := hV.mono hI10; have hG1 := hG1.mono hI10; have hG2 := hG2.mono hI10; have hA := hA.mono hI10; have hLn := hLn.mono hI10; have hIc := hIc.trans hI10; have hB0 := hB0.trans hI10; have hB2 := hB2.trans hI10
 refine zN ?_
 refine X_seq ?_
 refine X_freezeO hOr encP_len (by decide) (by repeat (first | exact .cons .here .nil | exact split_all | exact split_app | apply split_cons | apply split_skip)) (fun I11 hI11 da dc e11 hDr => ?_)
 subst e11
 have hP := hP.mono hI11; have hT := hT.mono hI11; have hV := hV.mono hI11; have hG1 := hG1.mono hI11; have hG2 := hG2.mono hI11; have hA := hA.mono hI11; have hLn := hLn.mono hI11; have hIc := hIc.trans hI11; have hB0 := hB0.trans hI11; have hB2 := hB2.trans hI11
 refine X_region ?_
 refine XO_makeMap rfl rfl (fun r_84 => ?_)
 refine XO_makeMap rfl rfl (fun r_85 => ?_)
 refine zA ?_
 refine zA ?_
 refine zN ?_
 refine X_seq ?_
 refine zR ?_
 refine zM ?_
 refine XO_v0 (ev_lenS rfl slt_22) rfl rfl rfl ?_
 refine zM ?_
 refine zN ?_
 refine X_block ?_
 refine X_loopT [(1, _), (2, _), (6, _), (12, _), (13, _), (14, _), (17, _), (18, _), (86, _), (87, _)] (.cons rfl (.cons rfl (.cons rfl (.cons rfl (.cons rfl (.cons rfl (.cons rfl (.cons rfl (.cons rfl (.cons rfl .nil)))))))))) (fun T L0 mz E I' loc' => ∃ (k : Nat), mz = n - k ∧ E = (88, .int .i64 k) :: T ∧ HLe I11 I' ∧ [(r_85, mapO (Value.int .i64) needV (nmM (ps.take k))), (r_84, mapO (Value.int .i64) (Value.int .i64) (atM []))] = loc' ∧ k ≤ n) _ _ _ _ ⟨0, rfl, rfl, HLe.refl _, rfl, Nat.zero_le _⟩ (.cons rfl (.cons rfl (.cons rfl (.cons rfl (.cons rfl (.cons rfl (.cons rfl (.cons rfl (.cons rfl (.cons rfl (.cons rfl .nil))))))))))) (HLe.refl _) rfl ?_
 rintro mz E J12 loc' ⟨k, rfl, rfl, hJ, rfl, hk⟩
 have hP := hP.mono hJ; have hT := hT.mono hJ; have hV := hV.mono hJ; have hG1 := hG1.mono hJ; have hG2 := hG2.mono hJ; have hA := hA.mono hJ; have hLn := hLn.mono hJ; have hDr := hDr.mono hJ; have hIc := hIc.trans hJ; have hB0 := hB0.trans hJ; have hB2 := hB2.trans hJ
 have hB5 := hJ
 refine zR ?_
 refine zC ?_
 refine zN ?_
 refine X_seq ?_
 refine X_cond rfl (fun hc89 => ?_) (fun hc89 => ?_)
 ·
  have hlt_k : k < n := by have h := hc89; simp at h; omega
  obtain ⟨p, hp, hN⟩ := hP.at hlt_k
  refine X_skip ?_
  refine at_then ?_
  refine X_seq ?_
  refine X_block ?_
  refine zR ?_
  refine XO_v0 (ev_indexSl rfl rfl slt_22 hP.1 (fun hg => by first | omega | (simp [conj] at hg; omega))) rfl rfl rfl ?_
  refine XO_v0 (ev_loadA rfl agt_65 (fun hg => by first | exact Sl.getA hP.1 hp | exact Cells.immC h16 | exact Sl.getA hOS hp | (repeat (first | exact Cells.here | exact Cells.s0 (vs := [_, _, _, _, _, _, _, _, _, _, _, _, _, _, _, _, _, _, _]) rfl | apply Cells.there | apply Cells.app))) rfl) rfl rfl rfl ?_
  refine XO_alloc zt_65 rfl rfl (fun b_20 => ?_)
  refine XO_storeA rfl rfl szt_65 rfl rfl rfl rfl (by repeat (first | exact Upd.here | apply Upd.there | apply upd_app)) ?_
  refine zN ?_
  refine X_freeze .here (fun I13 hI13 hb13 => ?_)
  have hP := hP.mono hI13; have hT := hT.mono hI13; have hV := hV.mono hI13; have hG1 := hG1.mono hI13; have hG2 := hG2.mono hI13; have hA := hA.mono hI13; have hLn := hLn.mono hI13; have hDr := hDr.mono hI13; have hIc := hIc.trans hI13; have hB0 := hB0.trans hI13; have hB2 := hB2.trans hI13; have hB5 := hB5.trans hI13
  have h20 := ImmC.of hb13
  refine X_region ?_
  refine zM ?_
  refine XO_v0 (ev_fieldAddr rfl fld_65_0) rfl rfl rfl ?_
  refine XO_v0 (ev_load rfl sct_3 (fun hg => by first | exact Sl.get0 hA hh0 rfl | exact Sl.get0 hV.1 hh0 rfl | exact Cell.imm h16 rfl | exact Cell.imm h20 rfl | exact Cell.imm h22 rfl | (repeat (first | exact Cell.here rfl | apply Cell.there | apply Cell.app)))) rfl rfl rfl ?_
  refine XO_v0 (ev_fieldAddr rfl fld_65_5) rfl rfl rfl ?_
  refine XO_v0 (ev_load rfl sct_23 (fun hg => by first | exact Sl.get0 hA hh0 rfl | exact Sl.get0 hV.1 hh0 rfl | exact Cell.imm h16 rfl | exact Cell.imm h20 rfl | exact Cell.imm h22 rfl | (repeat (first | exact Cell.here rfl | apply Cell.there | apply Cell.app)))) rfl rfl rfl ?_
  refine XO_mapUpdate (m := nmM (ps.take k)) (ek := Value.int .i64) (ev := needV) (a := p.id) p mpt_80 key_3 rfl rfl rfl rfl (by repeat (first | exact Upd.here | apply Upd.there | apply upd_app)) ?_
  rw [nmM_step hL hp]
  refine XO_nil ?_
  refine at_block_n ?_
  refine at_then ?_
  refine X_region ?_
  refine zB ?_
  refine zM ?_
  refine XO_nil ?_
  exact at_met2 _ _ ⟨n - (k + 1), by omega, k + 1, rfl, rfl, hB5, rfl, by omega⟩ (.cons rfl (.cons rfl (.cons rfl (.cons rfl (.cons rfl (.cons rfl (.cons rfl (.cons rfl (.cons rfl (.cons rfl (.cons rfl .nil))))))))))) (by repeat (first | exact .refl | exact subL_left | refine subL_app ?_ | refine .drop ?_ | refine subL_add ?_))
 have hge_k : n ≤ k := by have h := hc89; simp at h; omega
 rw [take_all hP.1.len hge_k]
 refine X_exit ?_
 refine at_then_e ?_
 refine at_then_e ?_
 refine at_block_hit ?_
 refine at_then ?_
 refine X_seq ?_
 refine X_seq ?_
 refine X_freeze .here (fun I14 hI14 hb14 => ?_)
 have hP := hP.mono hI14; have hT := hT.mono hI14; have hV := hV.mono hI14; have hG1 := hG1.mono hI14; have hG2 := hG2.mono hI14; have hA := hA.mono hI14; have hLn := hLn.mono hI14; have hDr := hDr.mono hI14; have hIc := hIc.trans hI14; have hB0 := hB0.trans hI14; have hB2 := hB2.trans hI14; have hB5 := hB5.trans hI14
 have hnm := ImmC.of hb14
 refine X_region ?_
 refine zM ?_
 refine zM ?_
 refine XO_buildSlice (ps := [(0, _), (1, _)]) (m := [encH ⟨da, qd, dc⟩, encH ⟨ea, ql, ec⟩]) elt_118 rfl (.cons rfl (.cons rfl (.nil))) rfl (by simp [encH_len]) (by decide) (by decide) rfl rfl (fun b_100 => ?_)
 refine XO_freeze (by repeat (first | exact Take.here | apply Take.there)) (fun I15 hI15 hb15 => ?_)
 have hP := hP.mono hI15; have hT := hT.mono hI15; have hV := hV.mono hI15; have hG1 := hG1.mono hI15; have hG2 := hG2.mono hI15; have hA := hA.mono hI15; have hLn := hLn.mono hI15; have hDr := hDr.mono hI15; have hnm := hnm.mono hI15; have hIc := hIc.trans hI15; have hB0 := hB0.trans hI15; have hB2 := hB2.trans hI15
 have hB5 := hB5.trans hI15
 have hG3 := Sl.lit [(⟨da, qd, dc⟩ : Hd), ⟨ea, ql, ec⟩] rfl encH_len (show I15 b_100 = some (Obj.cells ([(⟨da, qd, dc⟩ : Hd), ⟨ea, ql, ec⟩].flatMap encH).toArray 22 (0, 0)) from hb15)
 refine XO_callM (cap := []) (vs := [_]) rfl rfl fun_45 .nil (w_concatP (vss := [_, _]) ⟨hG3, .cons hDr (.cons hLn .nil)⟩ (by omega) (by rw [hord, ordP_len]; omega)) rfl rfl ?_
 rintro vv16 I16 L16 hI16 ⟨rfl, hO⟩
 have hP := hP.mono hI16; have hT := hT.mono hI16; have hV := hV.mono hI16; have hG1 := hG1.mono hI16; have hG2 := hG2.mono hI16; have hA := hA.mono hI16; have hLn := hLn.mono hI16; have hDr := hDr.mono hI16; have hnm := hnm.mono hI16; have hG3 := hG3.mono hI16; have hIc := hIc.trans hI16; have hB0 := hB0.trans hI16
 have hB2 := hB2.trans hI16; have hB5 := hB5.trans hI16
 rw [hord, ordP_len, hlp] at hO
 refine XO_freezeO hO encP_len (by decide) (by repeat (first | exact .cons .here .nil | exact split_all | exact split_app | apply split_cons | apply split_skip)) (fun I17 hI17 oa oc e17 hOS => ?_)
 subst e17
 have hP := hP.mono hI17; have hT := hT.mono hI17; have hV := hV.mono hI17; have hG1 := hG1.mono hI17; have hG2 := hG2.mono hI17; have hA := hA.mono hI17; have hLn := hLn.mono hI17; have hDr := hDr.mono hI17; have hnm := hnm.mono hI17; have hG3 := hG3.mono hI17; have hIc := hIc.trans hI17; have hB0 := hB0.trans hI17
 have hB2 := hB2.trans hI17; have hB5 := hB5.trans hI17
 refine XO_v0 (ev_lenS rfl slt_22) rfl rfl rfl ?_
 refine zM ?_
 refine zN ?_
 refine X_block ?_
 refine X_loopT [(1, _), (2, _), (12, _), (17, _), (18, _), (101, _), (102, _)] (.cons rfl (.cons rfl (.cons rfl (.cons rfl (.cons rfl (.cons rfl (.cons rfl .nil))))))) (fun T L0 mz E I' loc' => ∃ (k : Nat) (v6 : Value) (L : Go.Kn.Loc) (hs : List SH), mz = n - k ∧ E = (6, v6) :: (103, .int .i64 k) :: T ∧ HLe I17 I' ∧ L ++ [(r_84, mapO (Value.int .i64) (Value.int .i64) (atM (kpP tg has (ordP ps tg) k)))] = loc' ∧ k ≤ n ∧ OwnS 58 4 v6 (kpP tg has (ordP ps tg) k).length (hs.flatMap encSH) L ∧ RelS I' hs (sesL tg has (kpP tg has (ordP ps tg) k))) _ _ _ _ ⟨0, _, [], [], rfl, rfl, HLe.refl _, rfl, Nat.zero_le _, OwnS.nil, RelS.nil⟩ (.cons rfl (.cons rfl (.cons rfl (.cons rfl (.cons rfl (.cons rfl (.cons rfl (.cons rfl (.cons rfl .nil))))))))) (HLe.refl _) rfl ?_
 rintro mz E J18 loc' ⟨k, v6, L, hs, rfl, rfl, hJ, rfl, hk, hO6, hRl⟩
 have hP := hP.mono hJ; have hT := hT.mono hJ; have hV := hV.mono hJ; have hG1 := hG1.mono hJ; have hG2 := hG2.mono hJ; have hA := hA.mono hJ; have hLn := hLn.mono hJ; have hDr := hDr.mono hJ; have hnm := hnm.mono hJ; have hG3 := hG3.mono hJ; have hOS := hOS.mono hJ; have hIc := hIc.trans hJ; have hB0 := hB0.trans hJ
 have hB2 := hB2.trans hJ; have hB5 := hB5.trans hJ
 have hB7 := hJ
 obtain ⟨la, lc, rfl⟩ := hO6.shape
 refine zR ?_
 refine zC ?_
 refine zN ?_
 refine X_seq ?_
 refine X_cond rfl (fun hc104 => ?_) (fun hc104 => ?_)
 ·
  have hlt_k : k < n := by have h := hc104; simp at h; omega
  obtain ⟨p, hp⟩ := hOS.at hlt_k
  have hpm := mem_ordP.1 (List.mem_of_getElem? hp)
  have hN : Sl J18 1 encI p.a p.n p.c p.needs := hP.2 p hpm
  have hpn := hnd p hpm
  refine X_skip ?_
  refine at_then ?_
  refine X_seq ?_
  refine X_block ?_
  refine zR ?_
  refine XO_v0 (ev_indexSl rfl rfl slt_22 hOS (fun hg => by first | omega | (simp [conj] at hg; omega))) rfl rfl rfl ?_
  refine XO_v0 (ev_loadA rfl agt_65 (fun hg => by first | exact Sl.getA hP.1 hp | exact Cells.immC h16 | exact Sl.getA hOS hp | (repeat (first | exact Cells.here | exact Cells.s0 (vs := [_, _, _, _, _, _, _, _, _, _, _, _, _, _, _, _, _, _, _]) rfl | apply Cells.there | apply Cells.app))) rfl) rfl rfl rfl ?_
  refine XO_alloc zt_65 rfl rfl (fun b_22 => ?_)
  refine XO_storeA rfl rfl szt_65 rfl rfl rfl rfl (by repeat (first | exact Upd.here | apply Upd.there | apply upd_app)) ?_
  refine zN ?_
  refine X_seq ?_
  refine X_freeze .here (fun I19 hI19 hb19 => ?_)
  have hP := hP.mono hI19; have hT := hT.mono hI19; have hV := hV.mono hI19; have hG1 := hG1.mono hI19; have hG2 := hG2.mono hI19; have hA := hA.mono hI19; have hLn := hLn.mono hI19; have hDr := hDr.mono hI19; have hnm := hnm.mono hI19; have hG3 := hG3.mono hI19; have hOS := hOS.mono hI19; have hRl := hRl.mono hI19
  have hN := hN.mono hI19; have hIc := hIc.trans hI19; have hB0 := hB0.trans hI19; have hB2 := hB2.trans hI19; have hB5 := hB5.trans hI19; have hB7 := hB7.trans hI19
  have h22 := ImmC.of hb19
  refine X_region ?_
  refine XO_v0 (ev_fieldAddr rfl fld_65_0) rfl rfl rfl ?_
  refine XO_v0 (ev_load rfl sct_3 (fun hg => by first | exact Sl.get0 hA hh0 rfl | exact Sl.get0 hV.1 hh0 rfl | exact Cell.imm h16 rfl | exact Cell.imm h20 rfl | exact Cell.imm h22 rfl | (repeat (first | exact Cell.here rfl | apply Cell.there | apply Cell.app)))) rfl rfl rfl ?_
  refine XO_v0 (ev_buildL (ps := [(0, _), (1, _)]) [_, _, _, _] plt_58 rfl rfl) rfl rfl rfl ?_
  refine XO_alloc zt_58 rfl rfl (fun b_23 => ?_)
  refine XO_storeA rfl rfl szt_58 rfl rfl rfl rfl (by repeat (first | exact Upd.here | apply Upd.there | apply upd_app)) ?_
  refine zN ?_
  refine X_seq ?_
  refine zR ?_
  refine zM ?_
  refine XO_v0 (ev_lenS rfl slt_24) rfl rfl rfl ?_
  refine zM ?_
  refine zN ?_
  refine X_block ?_
  refine X_loopT [(1, _), (2, _), (6, _), (12, _), (17, _), (18, _), (22, _), (23, _), (101, _), (102, _), (103, _), (110, _), (111, _)] (.cons rfl (.cons rfl (.cons rfl (.cons rfl (.cons rfl (.cons rfl (.cons rfl (.cons rfl (.cons rfl (.cons rfl (.cons rfl (.cons rfl (.cons rfl .nil))))))))))))) (fun T L0 mz E I' loc' => ∃ (i : Nat) (vw : Value) (Lw : Go.Kn.Loc), mz = n3 - i ∧ E = (112, .int .i64 i) :: T ∧ I19 = I' ∧ Lw ++ ((b_23, .cells #[.int .i64 p.id, .int .i64 1, vw, .slice none 0 0] 58 (0, 0)) :: (L ++ [(r_84, mapO (Value.int .i64) (Value.int .i64) (atM (kpP tg has (ordP ps tg) k)))])) = loc' ∧ i ≤ n3 ∧ OwnS 3 1 vw (diffK tg has p.id i).length ((diffK tg has p.id i).flatMap encI) Lw) _ _ _ _ ⟨0, _, [], rfl, rfl, rfl, rfl, Nat.zero_le _, OwnS.nil⟩ (.cons rfl (.cons rfl (.cons rfl (.cons rfl (.cons rfl (.cons rfl (.cons rfl (.cons rfl (.cons rfl (.cons rfl (.cons rfl (.cons rfl (.cons rfl (.cons rfl .nil)))))))))))))) (HLe.refl _) rfl ?_
  rintro mz E I' loc' ⟨i, vw, Lw, rfl, rfl, rfl, rfl, hi, hOw⟩
  refine zR ?_
  refine zC ?_
  refine zN ?_
  refine X_seq ?_
  refine X_cond rfl (fun hc113 => ?_) (fun hc113 => ?_)
  ·
   have hlt_i : i < n3 := by have h := hc113; simp at h; omega
   obtain ⟨h0, v0, hh0, hv0, hS0⟩ := hV.at hlt_i
   have hv0l := hvl v0 (List.mem_of_getElem? hv0)
   have hv0v := ver_iff hk0 (hvers v0 (List.mem_cons_of_mem _ (List.mem_of_getElem? hv0)))
   have hl0 := hS0.len
   have hdl9 := diffK_len tg has p.id i
   refine X_skip ?_
   refine at_then ?_
   refine X_seq ?_
   refine X_block ?_
   refine zR ?_
   refine zM ?_
   refine XO_v0 (ev_indexSl rfl rfl slt_24 hV.1 (fun hg => by first | omega | (simp [conj] at hg; omega))) rfl rfl rfl ?_
   refine XO_v0 (ev_load rfl sct_23 (fun hg => by first | exact Sl.get0 hA hh0 rfl | exact Sl.get0 hV.1 hh0 rfl | exact Cell.imm h16 rfl | exact Cell.imm h20 rfl | exact Cell.imm h22 rfl | (repeat (first | exact Cell.here rfl | apply Cell.there | apply Cell.app)))) rfl rfl rfl ?_
   refine zA ?_
   refine zA ?_
   refine zN ?_
   refine X_seq ?_
   refine X_draw mixed (by kernel_rfl) ?_
   refine XQ_v0 (ev_move rfl) rfl rfl rfl ?_
   refine XQ_v0 (ev_move rfl) rfl rfl rfl ?_
   refine XQ_v0 (ev_fieldAddr rfl fld_65_0) rfl rfl rfl ?_
   refine XQ_v0 (ev_load rfl sct_3 (fun hg => by first | exact Sl.get0 hA hh0 rfl | exact Sl.get0 hV.1 hh0 rfl | exact Cell.imm h16 rfl | exact Cell.imm h20 rfl | exact Cell.imm h22 rfl | (repeat (first | exact Cell.here rfl | apply Cell.there | apply Cell.app)))) rfl rfl rfl ?_
   refine XQ_callV0 (cap := []) (vs := [_, _]) rfl rfl fun_42 (w_in hS0 (by omega) hv0v.inc p.id) rfl rfl ?_
   refine XQ_v0 (ev_move rfl) rfl rfl rfl ?_
   refine XQ_v0 (ev_move rfl) rfl rfl rfl ?_
   refine XQ_v0 (ev_fieldAddr rfl fld_65_0) rfl rfl rfl ?_
   refine XQ_v0 (ev_load rfl sct_3 (fun hg => by first | exact Sl.get0 hA hh0 rfl | exact Sl.get0 hV.1 hh0 rfl | exact Cell.imm h16 rfl | exact Cell.imm h20 rfl | exact Cell.imm h22 rfl | (repeat (first | exact Cell.here rfl | apply Cell.there | apply Cell.app)))) rfl rfl rfl ?_
   refine XQ_callV0 (cap := []) (vs := [_, _]) rfl rfl fun_42 (w_in hT (by omega) hTv.inc p.id) rfl rfl ?_
   refine XQ_v0 (ev_boolN rfl rfl und_4) rfl rfl rfl ?_
   refine XQ_nil ?_
   refine at_then ?_
   refine X_cond rfl (fun hc127 => ?_) (fun hc127 => ?_)
   ·
    refine X_region ?_
    refine XO_v0 (ev_fieldAddr rfl fld_58_2) rfl rfl rfl ?_
    refine XO_v0 (ev_load rfl sct_23 (fun hg => by first | exact Sl.get0 hA hh0 rfl | exact Sl.get0 hV.1 hh0 rfl | exact Cell.imm h16 rfl | exact Cell.imm h20 rfl | exact Cell.imm h22 rfl | (repeat (first | exact Cell.here rfl | apply Cell.there | apply Cell.app)))) rfl rfl rfl ?_
    refine zM ?_
    refine XO_buildSlice (ps := [(0, _)]) (m := [encI (i : Int)]) elt_23 rfl (.cons rfl (.nil)) rfl (by simp [encI_len]) (by decide) (by decide) rfl rfl (fun b_131 => ?_)
    refine XO_append (v := _) (ys := [(i : Int)].flatMap encI) (L := Lw) rfl rfl elt_23 hOw (by repeat (first | exact .cons .here .nil | exact split_all | exact split_app | apply split_cons | apply split_skip)) ⟨rfl, fun _ => rfl, by repeat (first | exact Cells.here | apply Cells.there | apply Cells.app)⟩ (one_I _) (by omega) rfl rfl ?_
    intro v9 L9 hO9 _; rw [← List.flatMap_append] at hO9
    refine XO_v0 (ev_fieldAddr rfl fld_58_2) rfl rfl rfl ?_
    refine XO_store rfl rfl szt_23 hO9.one rfl (by repeat (first | exact Upd.here | apply Upd.there | apply upd_app)) rfl ?_
    refine XO_nil ?_
    refine at_block_n ?_
    refine at_then ?_
    refine X_region ?_
    refine zB ?_
    refine zM ?_
    refine XO_nil ?_
    first
    | exact at_met2 _ _ ⟨n3 - (i + 1), by omega, i + 1, _, _, rfl, rfl, rfl, rfl, by omega, by rw [diffK_yes hv0 hc127, List.length_append, List.length_singleton]; exact hO9⟩ (.cons rfl (.cons rfl (.cons rfl (.cons rfl (.cons rfl (.cons rfl (.cons rfl (.cons rfl (.cons rfl (.cons rfl (.cons rfl (.cons rfl (.cons rfl (.cons rfl .nil)))))))))))))) (by repeat (first | exact .refl | exact subL_left | refine subL_app ?_ | refine .drop ?_ | refine subL_add ?_))
   refine X_skip ?_
   refine at_block_n ?_
   refine at_then ?_
   refine X_region ?_
   refine zB ?_
   refine zM ?_
   refine XO_nil ?_
   first
   | exact at_met2 _ _ ⟨n3 - (i + 1), by omega, i + 1, _, _, rfl, rfl, rfl, rfl, by omega, by rw [diffK_no hv0 hc127]; exact hOw⟩ (.cons rfl (.cons rfl (.cons rfl (.cons rfl (.cons rfl (.cons rfl (.cons rfl (.cons rfl (.cons rfl (.cons rfl (.cons rfl (.cons rfl (.cons rfl (.cons rfl .nil)))))))))))))) (by repeat (first | exact .refl | exact subL_left | refine subL_app ?_ | refine .drop ?_ | refine subL_add ?_))
  have hge_i : n3 ≤ i := by have h := hc113; simp at h; omega
  obtain rfl : i = has.length := by omega
  rw [diffK_all] at hOw
  refine X_exit ?_
  refine at_then_e ?_
  refine at_then_e ?_
  refine at_block_hit ?_
  refine at_then ?_
  refine X_seq ?_
  refine X_seq ?_
  refine X_freezeO hOw encI_len (by decide) (by repeat (first | exact .cons .here .nil | exact split_all | exact split_app | apply split_cons | apply split_skip)) (fun I21 hI21 wa wc e21 hW => ?_)
  subst e21
  have hP := hP.mono hI21; have hT := hT.mono hI21; have hV := hV.mono hI21; have hG1 := hG1.mono hI21; have hG2 := hG2.mono hI21; have hA := hA.mono hI21; have hLn := hLn.mono hI21; have hDr := hDr.mono hI21; have hnm := hnm.mono hI21; have hG3 := hG3.mono hI21; have hOS := hOS.mono hI21; have hRl := hRl.mono hI21
  have hN := hN.mono hI21; have h22 := h22.mono hI21; have hIc := hIc.trans hI21; have hB0 := hB0.trans hI21; have hB2 := hB2.trans hI21; have hB5 := hB5.trans hI21; have hB7 := hB7.trans hI21
  refine X_region ?_
  refine XO_v0 (ev_fieldAddr rfl fld_58_2) rfl rfl rfl ?_
  refine XO_v0 (ev_load rfl sct_23 (fun hg => by first | exact Sl.get0 hA hh0 rfl | exact Sl.get0 hV.1 hh0 rfl | exact Cell.imm h16 rfl | exact Cell.imm h20 rfl | exact Cell.imm h22 rfl | (repeat (first | exact Cell.here rfl | apply Cell.there | apply Cell.app)))) rfl rfl rfl ?_
  refine XO_v0 (ev_lenS rfl slt_23) rfl rfl rfl ?_
  refine zC ?_
  refine zN ?_
  refine X_cond rfl (fun hc138 => ?_) (fun hc138 => ?_)
  ·
   have hw0 : diffW tg has p.id = [] := by simpa using hc138
   refine X_exit ?_
   refine at_then_e ?_
   refine at_block_hit ?_
   refine at_then ?_
   refine X_region ?_
   refine zB ?_
   refine zM ?_
   refine XO_nil ?_
   first
   | exact at_met2 _ (L ++ [(r_84, mapO (Value.int .i64) (Value.int .i64) (atM (kpP tg has (ordP ps tg) k)))]) ⟨n - (k + 1), by omega, k + 1, _, L, hs, rfl, rfl, hB7, by rw [kpP_no hp hw0], by omega, by rw [kpP_no hp hw0]; exact hO6, by rw [kpP_no hp hw0]; exact hRl⟩ (.cons rfl (.cons rfl (.cons rfl (.cons rfl (.cons rfl (.cons rfl (.cons rfl (.cons rfl (.cons rfl .nil))))))))) (by repeat (first | exact .refl | exact subL_left | refine subL_app ?_ | refine .drop ?_ | refine subL_add ?_))
  have hw1 : diffW tg has p.id ≠ [] := fun e => by rw [e] at hc138; simp at hc138
  refine X_skip ?_
  refine at_then ?_
  refine X_cutT [(1, _), (2, _), (6, _), (12, _), (17, _), (18, _), (22, _), (23, _), (101, _), (102, _), (103, _)] (.cons rfl (.cons rfl (.cons rfl (.cons rfl (.cons rfl (.cons rfl (.cons rfl (.cons rfl (.cons rfl (.cons rfl (.cons rfl .nil))))))))))) (fun T L0 E I' loc' => ∃ (ef : Int), E = T ∧ I21 = I' ∧ (b_23, .cells #[.int .i64 p.id, .int .i64 ef, (.slice wa (diffW tg has p.id).length wc), .slice none 0 0] 58 (0, 0)) :: (L ++ [(r_84, mapO (Value.int .i64) (Value.int .i64) (atM (kpP tg has (ordP ps tg) k)))]) = loc' ∧ ef = (if p.kind = 2 then 2 else 1)) ?_ ?_
  ·
   refine zR ?_
   refine XO_v0 (ev_fieldAddr rfl fld_65_1) rfl rfl rfl ?_
   refine XO_v0 (ev_load rfl sct_3 (fun hg => by first | exact Sl.get0 hA hh0 rfl | exact Sl.get0 hV.1 hh0 rfl | exact Cell.imm h16 rfl | exact Cell.imm h20 rfl | exact Cell.imm h22 rfl | (repeat (first | exact Cell.here rfl | apply Cell.there | apply Cell.app)))) rfl rfl rfl ?_
   refine zC ?_
   refine zN ?_
   refine X_cond rfl (fun hc141 => ?_) (fun hc141 => ?_)
   ·
    refine X_region ?_
    refine XO_v0 (ev_fieldAddr rfl fld_58_1) rfl rfl rfl ?_
    refine zS szt_3 ?_
    refine XO_nil ?_
    exact at_met2 _ _ ⟨2, rfl, rfl, rfl, by rw [if_pos (by simpa using hc141)]⟩ (.cons rfl (.cons rfl (.cons rfl (.cons rfl (.cons rfl (.cons rfl (.cons rfl (.cons rfl (.cons rfl (.cons rfl (.cons rfl .nil))))))))))) .refl
   refine X_skip ?_
   exact at_met2 _ _ ⟨1, rfl, rfl, rfl, by rw [if_neg (by simpa using hc141)]⟩ (.cons rfl (.cons rfl (.cons rfl (.cons rfl (.cons rfl (.cons rfl (.cons rfl (.cons rfl (.cons rfl (.cons rfl (.cons rfl .nil))))))))))) .refl
  rintro E I' loc' ⟨ef, rfl, rfl, rfl, hef⟩
  refine X_seq ?_
  refine zR ?_
  refine zM ?_
  refine XO_range (ek := Value.int .i64) (ev := Value.int .i64) (m := atM (kpP tg has (ordP ps tg) k)) rfl mpt_79 rfl rfl (.inr (by simp)) (fun b_144 => ?_)
  refine zN ?_
  refine X_block ?_
  refine X_loopT [(1, _), (2, _), (6, _), (12, _), (17, _), (18, _), (22, _), (23, _), (101, _), (102, _), (103, _), (144, _)] (.cons rfl (.cons rfl (.cons rfl (.cons rfl (.cons rfl (.cons rfl (.cons rfl (.cons rfl (.cons rfl (.cons rfl (.cons rfl (.cons rfl .nil)))))))))))) (fun T L0 mz E I' loc' => ∃ (seen : List Nat) (vn : Value) (Ln : Go.Kn.Loc), mz = (atM (kpP tg has (ordP ps tg) k)).length - seen.length ∧ E = T ∧ I21 = I' ∧ Ln ++ ((b_144, iterO r_84 (atM (kpP tg has (ordP ps tg) k)).length seen) :: (b_23, .cells #[.int .i64 p.id, .int .i64 ef, (.slice wa (diffW tg has p.id).length wc), vn] 58 (0, 0)) :: (L ++ [(r_84, mapO (Value.int .i64) (Value.int .i64) (atM (kpP tg has (ordP ps tg) k)))])) = loc' ∧ OwnS 3 1 vn (gthN tg (kpP tg has (ordP ps tg) k) p seen).length ((gthN tg (kpP tg has (ordP ps tg) k) p seen).flatMap encI) Ln ∧ seen.Nodup ∧ ∀ i ∈ seen, i < (atM (kpP tg has (ordP ps tg) k)).length) _ _ _ _ ⟨[], _, [], rfl, rfl, rfl, rfl, OwnS.nil, .nil, fun i h => by cases h⟩ (.cons rfl (.cons rfl (.cons rfl (.cons rfl (.cons rfl (.cons rfl (.cons rfl (.cons rfl (.cons rfl (.cons rfl (.cons rfl (.cons rfl .nil)))))))))))) (HLe.refl _) rfl ?_
  rintro mz E I' loc' ⟨seen, vn, Ln, rfl, rfl, rfl, rfl, hOn, hnd2, hlt2⟩
  have hsl := seen_lt hnd2 hlt2
  have hkl9 := kpP_len (tg := tg) (has := has) (os := ordP ps tg) (k := k)
  rw [ordP_len, hlp] at hkl9
  have hal9 := atM_len (kpP tg has (ordP ps tg) k)
  have hgl9 := gthN_len (tg := tg) (ks := (kpP tg has (ordP ps tg) k)) (p := p) seen
  refine zR ?_
  refine XO_next2 (ek := Value.int .i64) (ev := Value.int .i64) (m := atM (kpP tg has (ordP ps tg) k)) (fun s' => Ln ++ ((b_144, iterO r_84 (atM (kpP tg has (ordP ps tg) k)).length s') :: (b_23, .cells #[.int .i64 p.id, .int .i64 ef, (.slice wa (diffW tg has p.id).length wc), vn] 58 (0, 0)) :: (L ++ [(r_84, mapO (Value.int .i64) (Value.int .i64) (atM (kpP tg has (ordP ps tg) k)))]))) rfl (fun s' => upd_app .here) rfl rfl rfl rfl rfl (.inr (by simp)) (by simp) ?_
  intro t tv s' hno hyes
  refine zN ?_
  refine X_seq ?_
  refine X_cond rfl (fun hc146 => ?_) (fun hc146 => ?_)
  ·
   obtain ⟨i, q, hq, hns, rfl⟩ := hyes hc146
   obtain ⟨pq, hpq, rfl⟩ := atM_at hq
   have hpqm := mem_ordP.1 (kpP_sub (List.mem_of_getElem? hpq))
   have hNq : Sl I21 1 encI pq.a pq.n pq.c pq.needs := hP.2 pq hpqm
   have hqn := hnd pq hpqm
   obtain ⟨hnd3, hlt3⟩ := seen_more hnd2 hlt2 hns (List.getElem?_eq_some_iff.1 hq).1
   have hsl2 := seen_lt hnd3 hlt3
   rw [List.length_append, List.length_singleton] at hsl2
   refine X_skip ?_
   refine at_then ?_
   refine X_block ?_
   refine zR ?_
   refine XO_v0 (ev_entry (ek := Value.int .i64) (ev := Value.int .i64) (m := atM (kpP tg has (ordP ps tg) k)) (r := r_84) (b := b_144) (p := (pq.id, (i : Int))) (seen := seen) (i := i) rfl (.inr (by simp)) (.inr (by simp)) hq) rfl rfl rfl ?_
   refine XO_v0 (ev_extract rfl rfl) rfl rfl rfl ?_
   refine XO_v0 (ev_extract rfl rfl) rfl rfl rfl ?_
   refine zA ?_
   refine zA ?_
   refine zN (zR ?_)
   refine zM ?_
   refine zM ?_
   refine XO_v0 (ev_fieldAddr rfl fld_65_0) rfl rfl rfl ?_
   refine XO_v0 (ev_load rfl sct_3 (fun hg => by first | exact Sl.get0 hA hh0 rfl | exact Sl.get0 hV.1 hh0 rfl | exact Cell.imm h16 rfl | exact Cell.imm h20 rfl | exact Cell.imm h22 rfl | (repeat (first | exact Cell.here rfl | apply Cell.there | apply Cell.app)))) rfl rfl rfl ?_
   refine XO_callV0 (cap := []) (vs := [_, _]) rfl rfl fun_42 (w_in hT (by omega) hTv.inc p.id) rfl rfl ?_
   refine zM ?_
   refine XO_pushT 5 rfl rfl rfl ?_
   refine XO_v1 (ev_fieldAddr rfl fld_65_5) (.some rfl rfl rfl rfl gbt) rfl rfl rfl ?_
   refine XO_v1 (ev_load rfl sct_23 (fun hg => by first | exact Sl.get0 hA hh0 rfl | exact Sl.get0 hV.1 hh0 rfl | exact Cell.imm h16 rfl | exact Cell.imm h20 rfl | exact Cell.imm h22 rfl | (repeat (first | exact Cell.here rfl | apply Cell.there | apply Cell.app)))) (.some rfl rfl rfl rfl gbt) rfl rfl rfl ?_
   refine XO_v1 (ev_move rfl) (.some rfl rfl rfl rfl gbt) rfl rfl rfl ?_
   refine XO_callV1 (cap := []) (vs := [_, _]) rfl rfl fun_46 (fun hg => w_contains hN (by omega) pq.id) (.some rfl rfl rfl rfl gbt) rfl rfl ?_
   refine XO_and0 rfl rfl rfl rfl rfl ?_
   refine zM ?_
   refine XO_pushF 11 rfl rfl rfl ?_
   refine XO_v1 (ev_move rfl) (.some rfl rfl rfl rfl gbf) rfl rfl rfl ?_
   refine XO_v1 (ev_move rfl) (.some rfl rfl rfl rfl gbf) rfl rfl rfl ?_
   refine XO_v1 (ev_fieldAddr rfl fld_65_0) (.some rfl rfl rfl rfl gbf) rfl rfl rfl ?_
   refine XO_v1 (ev_load rfl sct_3 (fun hg => by first | exact Sl.get0 hA hh0 rfl | exact Sl.get0 hV.1 hh0 rfl | exact Cell.imm h16 rfl | exact Cell.imm h20 rfl | exact Cell.imm h22 rfl | (repeat (first | exact Cell.here rfl | apply Cell.there | apply Cell.app)))) (.some rfl rfl rfl rfl gbf) rfl rfl rfl ?_
   refine XO_callV1 (cap := []) (vs := [_, _]) rfl rfl fun_42 (fun hg => w_in hT (by omega) hTv.inc p.id) (.some rfl rfl rfl rfl gbf) rfl rfl ?_
   refine XO_v1 (ev_not rfl) (.some rfl rfl rfl rfl gbf) rfl rfl rfl ?_
   refine XO_v1 (ev_move rfl) (.some rfl rfl rfl rfl gbf) rfl rfl rfl ?_
   refine XO_pushT 18 rfl rfl rfl ?_
   refine XO_v1 (ev_move rfl) (.some rfl rfl rfl rfl gbt) rfl rfl rfl ?_
   refine XO_v1 (ev_move rfl) (.some rfl rfl rfl rfl gbt) rfl rfl rfl ?_
   refine XO_v1 (ev_lookupG (m := nmM ps) (ek := Value.int .i64) (ev := needV) (a := pq.id) (nmM_get hL hpqm) mpt_80 key_3 rfl rfl (fun _ => .inl hnm)) (.some rfl rfl rfl rfl gbt) rfl rfl rfl ?_
   refine XO_v1 (ev_fieldAddr rfl fld_65_0) (.some rfl rfl rfl rfl gbt) rfl rfl rfl ?_
   refine XO_v1 (ev_load rfl sct_3 (fun hg => by first | exact Sl.get0 hA hh0 rfl | exact Sl.get0 hV.1 hh0 rfl | exact Cell.imm h16 rfl | exact Cell.imm h20 rfl | exact Cell.imm h22 rfl | (repeat (first | exact Cell.here rfl | apply Cell.there | apply Cell.app)))) (.some rfl rfl rfl rfl gbt) rfl rfl rfl ?_
   refine XO_callV1 (cap := []) (vs := [_, _]) rfl rfl fun_46 (fun hg => w_contains hNq (by omega) p.id) (.some rfl rfl rfl rfl gbt) rfl rfl ?_
   refine XO_and1 rfl rfl rfl (.some rfl rfl rfl rfl gbf) rfl rfl ?_
   refine XO_or0 rfl rfl rfl rfl rfl ?_
   refine zN ?_
   refine X_cond rfl (fun hc176 => ?_) (fun hc176 => ?_)
   ·
    refine X_region ?_
    refine XO_v0 (ev_fieldAddr rfl fld_58_3) rfl rfl rfl ?_
    refine XO_v0 (ev_load rfl sct_23 (fun hg => by first | exact Sl.get0 hA hh0 rfl | exact Sl.get0 hV.1 hh0 rfl | exact Cell.imm h16 rfl | exact Cell.imm h20 rfl | exact Cell.imm h22 rfl | (repeat (first | exact Cell.here rfl | apply Cell.there | apply Cell.app)))) rfl rfl rfl ?_
    refine zM ?_
    refine XO_buildSlice (ps := [(0, _)]) (m := [encI (i : Int)]) elt_23 rfl (.cons rfl (.nil)) rfl (by simp [encI_len]) (by decide) (by decide) rfl rfl (fun b_180 => ?_)
    refine XO_append (v := _) (ys := [(i : Int)].flatMap encI) (L := Ln) rfl rfl elt_23 hOn (by repeat (first | exact .cons .here .nil | exact split_all | exact split_app | apply split_cons | apply split_skip)) ⟨rfl, fun _ => rfl, by repeat (first | exact Cells.here | apply Cells.there | apply Cells.app)⟩ (one_I _) (by omega) rfl rfl ?_
    intro v9 L9 hO9 _; rw [← List.flatMap_append] at hO9
    refine XO_v0 (ev_fieldAddr rfl fld_58_3) rfl rfl rfl ?_
    refine XO_store rfl rfl szt_23 hO9.one rfl (by repeat (first | exact Upd.here | apply Upd.there | apply upd_app)) rfl ?_
    refine XO_nil ?_
    refine at_block_n ?_
    first
    | exact at_met2 _ _ ⟨(atM (kpP tg has (ordP ps tg) k)).length - (seen ++ [i]).length, by rw [List.length_append, List.length_singleton]; omega, seen ++ [i], _, _, rfl, rfl, rfl, rfl, by rw [gthN_yes hpq (ndY_val hc176.symm).symm, List.length_append, List.length_singleton]; exact hO9, hnd3, hlt3⟩ (.cons rfl (.cons rfl (.cons rfl (.cons rfl (.cons rfl (.cons rfl (.cons rfl (.cons rfl (.cons rfl (.cons rfl (.cons rfl (.cons rfl .nil)))))))))))) (by repeat (first | exact .refl | exact subL_left | refine subL_app ?_ | refine .drop ?_ | refine subL_add ?_))
   refine X_skip ?_
   refine at_block_n ?_
   first
   | exact at_met2 _ _ ⟨(atM (kpP tg has (ordP ps tg) k)).length - (seen ++ [i]).length, by rw [List.length_append, List.length_singleton]; omega, seen ++ [i], _, _, rfl, rfl, rfl, rfl, by rw [gthN_no hpq (ndY_val hc176.symm).symm]; exact hOn, hnd3, hlt3⟩ (.cons rfl (.cons rfl (.cons rfl (.cons rfl (.cons rfl (.cons rfl (.cons rfl (.cons rfl (.cons rfl (.cons rfl (.cons rfl (.cons rfl .nil)))))))))))) (by repeat (first | exact .refl | exact subL_left | refine subL_app ?_ | refine .drop ?_ | refine subL_add ?_))
  obtain ⟨hs9, hall2⟩ := hno hc146
  have hs9 := hs9.symm
  subst hs9
  refine X_exit ?_
  refine at_then_e ?_
  refine at_then_e ?_
  refine at_block_hit ?_
  refine at_then ?_
  refine X_seq ?_
  have hOn2 := hOn
  rw [flat_int] at hOn2
  refine X_region ?_
  refine XO_v0 (ev_fieldAddr rfl fld_58_3) rfl rfl rfl ?_
  refine XO_v0 (ev_load rfl sct_23 (fun hg => by first | exact Sl.get0 hA hh0 rfl | exact Sl.get0 hV.1 hh0 rfl | exact Cell.imm h16 rfl | exact Cell.imm h20 rfl | exact Cell.imm h22 rfl | (repeat (first | exact Cell.here rfl | apply Cell.there | apply Cell.app)))) rfl rfl rfl ?_
  refine XO_callM (cap := []) (vs := [_]) rfl rfl fun_47 (by repeat (first | exact .cons .here .nil | exact split_all | exact split_app | apply split_cons | apply split_skip)) (w_sort 3 (gthN tg (kpP tg has (ordP ps tg) k) p seen) hOn2 (by omega) _) rfl rfl ?_
  rintro vv24 I24 L24 hI24 ⟨rfl, rfl, hOs⟩
  have hP := hP.mono hI24; have hT := hT.mono hI24; have hV := hV.mono hI24; have hG1 := hG1.mono hI24; have hG2 := hG2.mono hI24; have hA := hA.mono hI24; have hLn := hLn.mono hI24; have hDr := hDr.mono hI24; have hnm := hnm.mono hI24; have hG3 := hG3.mono hI24; have hOS := hOS.mono hI24; have hRl := hRl.mono hI24
  have hN := hN.mono hI24; have h22 := h22.mono hI24; have hW := hW.mono hI24; have hIc := hIc.trans hI24; have hB0 := hB0.trans hI24; have hB2 := hB2.trans hI24; have hB5 := hB5.trans hI24; have hB7 := hB7.trans hI24
  rw [sort_ndW (gthN_all hnd2 hlt2 hall2), ← flat_int] at hOs
  rw [(gthN_all hnd2 hlt2 hall2).length_eq] at hOs
  refine zN ?_
  refine X_seq ?_
  refine X_freezeO hOs encI_len (by decide) (by repeat (first | exact .cons .here .nil | exact split_all | exact split_app | apply split_cons | apply split_skip)) (fun I25 hI25 na nc e25 hNn => ?_)
  subst e25
  have hP := hP.mono hI25; have hT := hT.mono hI25; have hV := hV.mono hI25; have hG1 := hG1.mono hI25; have hG2 := hG2.mono hI25; have hA := hA.mono hI25; have hLn := hLn.mono hI25; have hDr := hDr.mono hI25; have hnm := hnm.mono hI25; have hG3 := hG3.mono hI25; have hOS := hOS.mono hI25; have hRl := hRl.mono hI25
  have hN := hN.mono hI25; have h22 := h22.mono hI25; have hW := hW.mono hI25; have hIc := hIc.trans hI25; have hB0 := hB0.trans hI25; have hB2 := hB2.trans hI25; have hB5 := hB5.trans hI25; have hB7 := hB7.trans hI25
  refine X_region ?_
  refine zM ?_
  refine XO_v0 (ev_fieldAddr rfl fld_65_0) rfl rfl rfl ?_
  refine XO_v0 (ev_load rfl sct_3 (fun hg => by first | exact Sl.get0 hA hh0 rfl | exact Sl.get0 hV.1 hh0 rfl | exact Cell.imm h16 rfl | exact Cell.imm h20 rfl | exact Cell.imm h22 rfl | (repeat (first | exact Cell.here rfl | apply Cell.there | apply Cell.app)))) rfl rfl rfl ?_
  refine zM ?_
  refine XO_v0 (ev_lenS rfl slt_27) rfl rfl rfl ?_
  refine XO_mapUpdate (m := atM (kpP tg has (ordP ps tg) k)) (ek := Value.int .i64) (ev := Value.int .i64) (a := p.id) (((kpP tg has (ordP ps tg) k).length : Nat) : Int) mpt_79 key_3 rfl rfl rfl rfl (by repeat (first | exact Upd.here | apply Upd.there | apply upd_app)) ?_
  rw [atM_new (kpP_new hL hp)]
  refine zN ?_
  refine X_region ?_
  refine zM ?_
  refine XO_v0 (ev_loadA rfl agt_58 (fun hg => by first | exact Sl.getA hP.1 hp | exact Cells.immC h16 | exact Sl.getA hOS hp | (repeat (first | exact Cells.here | exact Cells.s0 (vs := [_, _, _, _]) rfl | apply Cells.there | apply Cells.app))) rfl) rfl rfl rfl ?_
  refine XO_buildSlice (ps := [(0, _)]) (m := [encSH ⟨p.id, ef, wa, (diffW tg has p.id).length, wc, na, (ndW tg (kpP tg has (ordP ps tg) k) p).length, nc⟩]) elt_27 rfl (.cons rfl (.nil)) rfl (by simp [encSH_len]) (by decide) (by decide) rfl rfl (fun b_193 => ?_)
  refine XO_append (v := _) (ys := [(⟨p.id, ef, wa, (diffW tg has p.id).length, wc, na, (ndW tg (kpP tg has (ordP ps tg) k) p).length, nc⟩ : SH)].flatMap encSH) (L := L) rfl rfl elt_27 hO6 (by repeat (first | exact .cons .here .nil | exact split_all | exact split_app | apply split_cons | apply split_skip)) ⟨rfl, fun _ => rfl, by repeat (first | exact Cells.here | apply Cells.there | apply Cells.app)⟩ (one_SH _) (by omega) rfl rfl ?_
  intro v9 L9 hO9 _; rw [← List.flatMap_append] at hO9
  refine zA ?_
  refine XO_nil ?_
  refine at_block_n ?_
  refine at_then ?_
  refine X_region ?_
  refine zB ?_
  refine zM ?_
  refine XO_nil ?_
  first
  | exact at_met2 _ (L9 ++ [(r_84, mapO (Value.int .i64) (Value.int .i64) (atM ((kpP tg has (ordP ps tg) k) ++ [p])))]) ⟨n - (k + 1), by omega, k + 1, _, L9, hs ++ [⟨p.id, ef, wa, (diffW tg has p.id).length, wc, na, (ndW tg (kpP tg has (ordP ps tg) k) p).length, nc⟩], rfl, rfl, hB7, by rw [kpP_yes hp hw1], by omega, by rw [kpP_yes hp hw1, List.length_append, List.length_singleton]; exact hO9, by rw [kpP_yes hp hw1, sesL_snoc]; exact hRl.snoc ⟨rfl, hef, hW, hNn⟩⟩ (.cons rfl (.cons rfl (.cons rfl (.cons rfl (.cons rfl (.cons rfl (.cons rfl (.cons rfl (.cons rfl .nil))))))))) (subL_app (by repeat (first | exact .refl | refine .drop ?_)))
 have hge_k : n ≤ k := by have h := hc104; simp at h; omega
 have hka := kpP_all (has := has) (show (ordP ps tg).length ≤ k by rw [ordP_len]; omega)
 have hkl := congrArg List.length hka
 rw [hka] at hRl
 refine X_exit ?_
 refine at_then_e ?_
 refine at_then_e ?_
 refine at_block_hit ?_
 refine at_then ?_
 refine X_seq ?_
 refine zR ?_
 refine zM ?_
 refine XO_v0 (ev_lenS rfl slt_27) rfl rfl rfl ?_
 refine zC ?_
 refine zN ?_
 refine X_cond rfl (fun hc198 => ?_) (fun hc198 => ?_)
 ·
  have hE : fromE ps tg has = 2 := by rw [fromE_4 hk0 h6 hall, if_pos (by unfold fromL; rw [sesL_len]; have h := hc198; simp at h; omega)]
  refine zR ?_
  refine zA ?_
  refine zA ?_
  refine zN ?_
  refine X_ret ?_
  refine at_then_r ?_
  exact at_ret2 rfl rfl rfl (fun w hw => ⟨_, J18, [], rfl, hIc, hw.drop, FroQ.bad hE (by decide)⟩)
 have hE : fromE ps tg has = 0 := by rw [fromE_4 hk0 h6 hall, if_neg (by unfold fromL; rw [sesL_len]; have h := hc198; simp at h; omega)]
 refine X_skip ?_
 refine at_then ?_
 refine zR ?_
 refine zM ?_
 refine zA ?_
 refine zA ?_
 refine zN ?_
 refine X_ret ?_
 first
 | exact at_freezeO hO6 encSH_len (by decide) (by repeat (first | exact .cons .here .nil | exact split_all | exact split_app | apply split_cons | apply split_skip)) (fun I7 hI7 a7 c7 e7 hS7 => by cases e7; exact at_ret2 rfl rfl rfl (fun w hw => ⟨_, I7, [], rfl, hIc.trans hI7, hw.drop, FroQ.good hE ⟨hs, hS7, hRl.mono hI7⟩⟩))
end Go.Proofs.YtehkiccapbkhnaaGreat
end
section
namespace Go.Proofs.YtehkiccapbkhnaaGreat
open Go Go.Kn Go.Proofs
theorem ris_iff {hi : Int} : ∀ {lo : Int} {l : List Int}, risF hi lo l = true ↔ (∀ x ∈ l, lo ≤ x ∧ x ≤ hi) ∧ l.Pairwise (· < ·)
  | lo, [] => by simp [risF]
  | lo, n :: l => by
    show (!(decide (n < lo) || decide (n > hi)) && risF hi (n + 1) l) = true ↔ _
    rw [Bool.and_eq_true, ris_iff, List.pairwise_cons]
    simp only [Bool.not_eq_true', Bool.or_eq_false_iff, decide_eq_false_iff_not, List.mem_cons, forall_eq_or_imp]
    constructor
    · rintro ⟨h1, h2, h3⟩
      exact ⟨⟨by omega, fun x hx => by have := h2 x hx; omega⟩, fun x hx => by have := h2 x hx; omega, h3⟩
    · rintro ⟨⟨h1, h2⟩, h3, h4⟩
      exact ⟨by omega, fun x hx => by have := h2 x hx; have := h3 x hx; omega, h4⟩
theorem ris_more {hi lo x : Int} {xs : List Int} {k : Nat} (hx : xs[k]? = some x) (h : risF hi lo (xs.take k) = true) (h1 : lo ≤ x ∧ x ≤ hi) (h2 : ∀ y, 0 < k → xs[k - 1]? = some y → y < x) : risF hi lo (xs.take (k + 1)) = true := by
  rw [ris_iff] at *
  rw [List.take_add_one, hx]
  simp only [Option.toList_some]
  refine ⟨fun y hy => ?_, List.pairwise_append.2 ⟨h.2, by simp, fun a ha b hb => ?_⟩⟩
  · rcases List.mem_append.1 hy with hy | hy
    · exact h.1 y hy
    · simp at hy; subst hy; exact h1
  · simp at hb; subst hb
    obtain ⟨i, hi'⟩ := List.mem_iff_getElem?.1 ha
    have hik : i < k := by have := (List.getElem?_eq_some_iff.1 hi').1; rw [List.length_take] at this; omega
    have hk1 := (List.getElem?_eq_some_iff.1 hx).1
    have hy : xs[k - 1]? = some (xs[k - 1]'(by omega)) := List.getElem?_eq_getElem (by omega)
    have h3 := h2 _ (by omega) hy
    by_cases e : i = k - 1
    · subst e
      rw [List.getElem?_take_of_lt hik, hy] at hi'
      cases hi'; exact h3
    · have h5 : (xs.take k)[k - 1]? = some (xs[k - 1]'(by omega)) := by rw [List.getElem?_take_of_lt (by omega)]; exact hy
      have := List.pairwise_iff_getElem.1 h.2 i (k - 1) (List.getElem?_eq_some_iff.1 hi').1 (List.getElem?_eq_some_iff.1 h5).1 (by omega)
      rw [(List.getElem?_eq_some_iff.1 hi').2, (List.getElem?_eq_some_iff.1 h5).2] at this
      omega
theorem ris_out {hi lo x : Int} {xs : List Int} {k : Nat} (hx : xs[k]? = some x) (h1 : ¬ (lo ≤ x ∧ x ≤ hi)) : risF hi lo xs = false := by
  cases e : risF hi lo xs with
  | false => rfl
  | true => exact (h1 ((ris_iff.1 e).1 x (List.mem_of_getElem? hx))).elim
theorem ris_back {hi lo x y : Int} {xs : List Int} {k : Nat} (hk : 0 < k) (hx : xs[k]? = some x) (hy : xs[k - 1]? = some y) (h1 : x ≤ y) : risF hi lo xs = false := by
  cases e : risF hi lo xs with
  | false => rfl
  | true =>
    have := List.pairwise_iff_getElem.1 (ris_iff.1 e).2 (k - 1) k (List.getElem?_eq_some_iff.1 hy).1 (List.getElem?_eq_some_iff.1 hx).1 (by omega)
    rw [(List.getElem?_eq_some_iff.1 hx).2, (List.getElem?_eq_some_iff.1 hy).2] at this
    omega
theorem within_neg (a l h : Int) : (!(decide (a ≥ l) && decide (a ≤ h))) = (decide (a < l) || decide (a > h)) := by
  rw [Bool.eq_iff_iff]; simp only [Bool.not_eq_true', Bool.and_eq_false_iff, decide_eq_false_iff_not, Bool.or_eq_true, decide_eq_true_eq]; omega
theorem ris_cond_bad {hi lo x : Int} {xs : List Int} {k : Nat} (hx : xs[k]? = some x) (h : ((decide (x < lo) || decide (x > hi)) || (decide ((k : Int) > 0) && decide (x ≤ xs.getD ((k : Int) - 1).toNat 0))) = true) : risF hi lo xs = false := by
  simp only [Bool.or_eq_true, Bool.and_eq_true, decide_eq_true_eq] at h
  rcases h with h | ⟨h1, h2⟩
  · exact ris_out hx (by omega)
  · have hk := (List.getElem?_eq_some_iff.1 hx).1
    have hy : xs[k - 1]? = some (xs[k - 1]'(by omega)) := List.getElem?_eq_getElem (by omega)
    rw [show ((k : Int) - 1).toNat = k - 1 by omega, List.getD_eq_getElem?_getD, hy] at h2
    exact ris_back (by omega) hx hy h2
theorem ris_cond_ok {hi lo x : Int} {xs : List Int} {k : Nat} (hx : xs[k]? = some x) (hr : risF hi lo (xs.take k) = true) (h : ((decide (x < lo) || decide (x > hi)) || (decide ((k : Int) > 0) && decide (x ≤ xs.getD ((k : Int) - 1).toNat 0))) = false) : risF hi lo (xs.take (k + 1)) = true := by
  simp only [Bool.or_eq_false_iff, decide_eq_false_iff_not, Bool.and_eq_false_iff] at h
  refine ris_more hx hr (by omega) fun y hk hy => ?_
  rcases h.2 with g | g
  · omega
  · rw [show ((k : Int) - 1).toNat = k - 1 by omega, List.getD_eq_getElem?_getD, hy] at g
    simp at g; omega
/-- May plans of a course be gone through? -/
def fewC (c : Cr) : Bool :=
  if (decide ((c.days.length : Int) > 40) || decide ((c.ss.length : Int) > 20)) = true then false else
  if c.ss.any (fun s => decide ((s.who.length : Int) > 80) || decide ((s.needs.length : Int) > 80)) = true then false else
  if (decide ((c.days.length : Int) > 16) || decide ((c.ss.length : Int) > 8)) = true then true else decide (plansF c ≤ 300) || decide (plansF c > 65536)
theorem few_bd {c : Cr} (h : fewC c = true) : c.days.length ≤ 40 ∧ c.ss.length ≤ 20 ∧ (∀ s ∈ c.ss, s.who.length ≤ 80 ∧ s.needs.length ≤ 80) := by
  unfold fewC at h
  split at h
  · cases h
  · rename_i h1
    split at h
    · cases h
    · rename_i h2
      simp only [Bool.or_eq_true, decide_eq_true_eq, not_or] at h1
      refine ⟨by omega, by omega, fun s hs => ?_⟩
      have h2 : c.ss.any (fun s => decide ((s.who.length : Int) > 80) || decide ((s.needs.length : Int) > 80)) = false := by simpa using h2
      have := List.any_eq_false.1 h2 s hs
      simp at this; omega
mutual
def samP : Nat → Pr → Pr → Bool
  | f, .mk r d w ks, .mk r' d' w' ks' => if (((((r != r') || (d != d')) || (w != w')) || ((ks.length : Int) != (ks'.length : Int))) || ((f : Int) == 0)) = true then false else match f with | 0 => false | f + 1 => samL f ks ks'
def samL : Nat → List Pr → List Pr → Bool
  | f, k :: ks, k' :: ks' => samP f k k' && samL f ks ks'
  | _, _, _ => true
end
theorem samL_bad {f : Nat} : ∀ {ks ks' : List Pr} {k : Nat} {p p' : Pr}, ks[k]? = some p → ks'[k]? = some p' → samP f p p' = false → samL f ks ks' = false
  | [], _, k, p, p', h, _, _ => by simp at h
  | _ :: _, [], k, p, p', _, h, _ => by simp at h
  | a :: ks, a' :: ks', k, p, p', h, h', hb => by
    rw [samL]
    cases k with
    | zero => simp at h h'; subst h h'; rw [hb]; rfl
    | succ k => rw [samL_bad (k := k) (by simpa using h) (by simpa using h') hb, Bool.and_false]
theorem samL_all {f : Nat} : ∀ {ks ks' : List Pr}, (∀ (k : Nat) (p p' : Pr), ks[k]? = some p → ks'[k]? = some p' → samP f p p' = true) → samL f ks ks' = true
  | [], _, _ => by unfold samL; rfl
  | _ :: _, [], _ => by unfold samL; rfl
  | a :: ks, a' :: ks', h => by
    rw [samL, h 0 a a' rfl rfl, samL_all fun k p p' h1 h2 => h (k + 1) p p' (by simpa using h1) (by simpa using h2)]; rfl
def SamT (f : Nat) (ks ks' : List Pr) (j : Nat) : Prop := ∀ (k : Nat) (p p' : Pr), k < j → ks[k]? = some p → ks'[k]? = some p' → samP f p p' = true
theorem samT_0 {f : Nat} {ks ks' : List Pr} : SamT f ks ks' 0 := fun k p p' h => by omega
theorem samT_step {f : Nat} {ks ks' : List Pr} {j : Nat} {p p' : Pr} (h : SamT f ks ks' j) (hp : ks[j]? = some p) (hp' : ks'[j]? = some p') (hb : samP f p p' = true) : SamT f ks ks' (j + 1) := fun k q q' hk h1 h2 => by
  by_cases e : k = j
  · subst e; rw [hp] at h1; rw [hp'] at h2; cases h1; cases h2; exact hb
  · exact h k q q' (by omega) h1 h2
theorem samT_end {f : Nat} {ks ks' : List Pr} {j : Nat} (h : SamT f ks ks' j) (hj : ks.length ≤ j) : samL f ks ks' = true := samL_all fun k p p' h1 h2 => h k p p' (by have := (List.getElem?_eq_some_iff.1 h1).1; omega) h1 h2
end Go.Proofs.YtehkiccapbkhnaaGreat
namespace Go.Proofs.YtehkiccapbkhnaaGreat
open Go Go.Kn Go.Proofs
end Go.Proofs.YtehkiccapbkhnaaGreat
end
section
namespace Go.Proofs.YtehkiccapbkhnaaGreat
open Go Go.Kn Go.Proofs
theorem fun_102 : Fun Tryz.prog 102 := .of Tryz.func102 (by kernel_rfl) (by kernel_rfl)
theorem fun_103 : Fun Tryz.prog 103 := .of Tryz.func103 (by kernel_rfl) (by kernel_rfl)
theorem fun_52 : Fun Tryz.prog 52 := .of Tryz.func52 (by kernel_rfl) (by kernel_rfl)
theorem fun_63 : Fun Tryz.prog 63 := .of Tryz.func63 (by kernel_rfl) (by kernel_rfl)
theorem w_rSame {I : HMap} {av : Option Addr} {n c : Nat} {xs : List Int} (hS : Sl I 1 encI av n c xs) (hn : n ≤ 100000) {bv : Option Addr} {n2 c2 : Nat} {ys : List Int} (hT : Sl I 1 encI bv n2 c2 ys) : RetV Tryz.prog 23 [.slice av n c, .slice bv n2 c2] I (.bool (xs == ys)) := by
 intro g H w hw
 refine enter Tryz.func23 rfl Tryz.ntmps23 rfl hw ?_
 have hl1 := hS.len
 have hl2 := hT.len
 refine zR ?_
 refine zA ?_
 refine zN ?_
 refine X_seq ?_
 refine zR ?_
 refine zM ?_
 refine XO_v0 (ev_lenS rfl slt_23) rfl rfl rfl ?_
 refine zM ?_
 refine XO_v0 (ev_lenS rfl slt_23) rfl rfl rfl ?_
 refine zC ?_
 refine zN ?_
 refine X_cond rfl (fun hc10 => ?_) (fun hc10 => ?_)
 ·
  have hne : xs ≠ ys := fun e => by have h := hc10; subst e; simp at h; omega
  refine zR ?_
  refine zA ?_
  refine zN ?_
  refine X_ret ?_
  refine at_then_r ?_
  exact at_ret1 rfl rfl (fun w hw => ⟨by rw [beq_eq_false_iff_ne.2 hne], hw.drop⟩)
 have hnn : n = n2 := by have h := hc10; simp at h; omega
 refine X_skip ?_
 refine at_then ?_
 refine X_seq ?_
 refine zR ?_
 refine zA ?_
 refine zN ?_
 refine X_block ?_
 refine X_loopT [(0, _), (1, _)] (.cons rfl (.cons rfl .nil)) (fun T L0 mz E I' loc' => ∃ (k : Nat), mz = n - k ∧ E = (5, .int .i64 k) :: T ∧ I = I' ∧ L0 = loc' ∧ k ≤ n ∧ xs.take k = ys.take k) _ _ _ _ ⟨0, rfl, rfl, rfl, rfl, Nat.zero_le _, rfl⟩ (.cons rfl (.cons rfl (.cons rfl .nil))) (HLe.refl _) rfl ?_
 rintro mz E I' loc' ⟨k, rfl, rfl, rfl, rfl, hk, hall⟩
 refine X_seq ?_
 refine zR ?_
 refine zM ?_
 refine zM ?_
 refine XO_v0 (ev_lenS rfl slt_23) rfl rfl rfl ?_
 refine zC ?_
 refine zN ?_
 refine X_cond rfl (fun hc14 => ?_) (fun hc14 => ?_)
 ·
  have hlt_k : k < n := by have h := hc14; simp at h; omega
  obtain ⟨x, hx⟩ := hS.at hlt_k
  obtain ⟨y, hy⟩ := hT.at (show k < n2 by omega)
  refine X_skip ?_
  refine at_then ?_
  refine X_seq ?_
  refine X_block ?_
  refine X_seq ?_
  refine X_draw mixed (by kernel_rfl) ?_
  refine XQ_v0 (ev_move rfl) rfl rfl rfl ?_
  refine XQ_v0 (ev_move rfl) rfl rfl rfl ?_
  refine XQ_v0 (ev_indexSl rfl rfl slt_23 hS (fun hg => by first | omega | (simp [conj] at hg; omega))) rfl rfl rfl ?_
  refine XQ_v0 (ev_load rfl sct_3 (fun hg => by first | exact Sl.get0 hS hx rfl | exact Sl.get0 hT hy rfl | (repeat (first | exact Cell.here rfl | apply Cell.there | apply Cell.app)))) rfl rfl rfl ?_
  refine XQ_v0 (ev_move rfl) rfl rfl rfl ?_
  refine XQ_v0 (ev_move rfl) rfl rfl rfl ?_
  refine XQ_v0 (ev_indexSl rfl rfl slt_23 hT (fun hg => by first | omega | (simp [conj] at hg; omega))) rfl rfl rfl ?_
  refine XQ_v0 (ev_load rfl sct_3 (fun hg => by first | exact Sl.get0 hS hx rfl | exact Sl.get0 hT hy rfl | (repeat (first | exact Cell.here rfl | apply Cell.there | apply Cell.app)))) rfl rfl rfl ?_
  refine XQ_v0 (ev_cmp rfl rfl rfl) rfl rfl rfl ?_
  refine XQ_nil ?_
  refine at_then ?_
  refine X_cond rfl (fun hc25 => ?_) (fun hc25 => ?_)
  ·
   have hne : xs ≠ ys := fun e => by subst e; rw [hx] at hy; cases hy; simp at hc25
   refine zR ?_
   refine zA ?_
   refine zN ?_
   refine X_ret ?_
   refine at_block_r ?_
   refine at_then_r ?_
   refine at_then_r ?_
   refine at_block_r ?_
   refine at_then_r ?_
   exact at_ret1 rfl rfl (fun w hw => ⟨by rw [beq_eq_false_iff_ne.2 hne], hw.drop⟩)
  have hxy : x = y := by simpa using hc25
  refine X_skip ?_
  refine at_block_n ?_
  refine at_then ?_
  refine X_region ?_
  refine zM ?_
  refine zB ?_
  refine zA ?_
  refine XO_nil ?_
  exact at_met2 _ _ ⟨n - (k + 1), by omega, k + 1, rfl, rfl, rfl, rfl, by omega, by rw [List.take_add_one, List.take_add_one, hall, hx, hy, hxy]⟩ (.cons rfl (.cons rfl (.cons rfl .nil))) (by repeat (first | exact .refl | exact subL_left | refine subL_app ?_ | refine .drop ?_ | refine subL_add ?_))
 have hge_k : n ≤ k := by have h := hc14; simp at h; omega
 have heq : xs = ys := by rw [List.take_of_length_le (by omega), List.take_of_length_le (by omega)] at hall; exact hall
 refine X_exit ?_
 refine at_then_e ?_
 refine at_then_e ?_
 refine at_block_hit ?_
 refine at_then ?_
 refine zR ?_
 refine zA ?_
 refine zN ?_
 refine X_ret ?_
 exact at_ret1 rfl rfl (fun w hw => ⟨by rw [beq_iff_eq.2 heq], hw.drop⟩)
theorem w_rWith (I : HMap) (n lo hi : Int) : RetV Tryz.prog 103 [.int .i64 n, .int .i64 lo, .int .i64 hi] I (.bool (decide (n ≥ lo) && decide (n ≤ hi))) := by
 intro g H w hw
 refine enter Tryz.func103 rfl Tryz.ntmps103 rfl hw ?_
 refine zR ?_
 refine zA ?_
 refine zN (zR ?_)
 refine zM ?_
 refine zM ?_
 refine zC ?_
 refine zM ?_
 refine XO_pushT 3 rfl rfl rfl ?_
 refine XO_v1 (ev_move rfl) (.some rfl rfl rfl rfl gbt) rfl rfl rfl ?_
 refine XO_v1 (ev_move rfl) (.some rfl rfl rfl rfl gbt) rfl rfl rfl ?_
 refine XO_v1 (ev_cmp rfl rfl rfl) (.some rfl rfl rfl rfl gbt) rfl rfl rfl ?_
 refine XO_and0 rfl rfl rfl rfl rfl ?_
 refine zA ?_
 refine zN ?_
 refine X_ret ?_
 exact at_ret1 rfl rfl (fun w hw => ⟨by rfl, hw.drop⟩)
theorem w_rInc {I : HMap} {av : Option Addr} {n c : Nat} {xs : List Int} (hS : Sl I 1 encI av n c xs) (hn : n ≤ 100000) (lo hi : Int) : RetV Tryz.prog 102 [.slice av n c, .int .i64 lo, .int .i64 hi] I (.bool (risF hi lo xs)) := by
 intro g H w hw
 refine enter Tryz.func102 rfl Tryz.ntmps102 rfl hw ?_
 refine zR ?_
 refine zA ?_
 refine zN ?_
 refine X_seq ?_
 refine zR ?_
 refine zA ?_
 refine zN ?_
 refine X_block ?_
 refine X_loopT [(0, _), (1, _), (2, _)] (.cons rfl (.cons rfl (.cons rfl .nil))) (fun T L0 mz E I' loc' => ∃ (k : Nat), mz = n - k ∧ E = (7, .int .i64 k) :: T ∧ I = I' ∧ L0 = loc' ∧ k ≤ n ∧ risF hi lo (xs.take k) = true) _ _ _ _ ⟨0, rfl, rfl, rfl, rfl, Nat.zero_le _, rfl⟩ (.cons rfl (.cons rfl (.cons rfl (.cons rfl .nil)))) (HLe.refl _) rfl ?_
 rintro mz E I' loc' ⟨k, rfl, rfl, rfl, rfl, hk, hr⟩
 refine X_seq ?_
 refine zR ?_
 refine zM ?_
 refine zM ?_
 refine XO_v0 (ev_lenS rfl slt_23) rfl rfl rfl ?_
 refine zC ?_
 refine zN ?_
 refine X_cond rfl (fun hc11 => ?_) (fun hc11 => ?_)
 ·
  have hlt_k : k < n := by have h := hc11; simp at h; omega
  obtain ⟨x, hx⟩ := hS.at hlt_k
  refine X_skip ?_
  refine at_then ?_
  refine X_seq ?_
  refine X_block ?_
  refine X_seq ?_
  refine X_draw mixed (by kernel_rfl) ?_
  refine XQ_v0 (ev_move rfl) rfl rfl rfl ?_
  refine XQ_v0 (ev_move rfl) rfl rfl rfl ?_
  refine XQ_v0 (ev_indexSl rfl rfl slt_23 (by assumption) (fun hg => by first | omega | (simp [conj] at hg; omega))) rfl rfl rfl ?_
  refine XQ_v0 (ev_load rfl sct_3 (fun hg => by first | exact Sl.get0 hS hx rfl | exact Sl.getD0 hS (d := 0) (k := ((k : Int) - 1).toNat) (by first | omega | (simp [conj] at hg; omega)) rfl | (repeat (first | exact Cell.here rfl | apply Cell.there | apply Cell.app)))) rfl rfl rfl ?_
  refine XQ_v0 (ev_move rfl) rfl rfl rfl ?_
  refine XQ_v0 (ev_cmp rfl rfl rfl) rfl rfl rfl ?_
  refine XQ_v0 (ev_move rfl) rfl rfl rfl ?_
  refine XQ_pushF 6 rfl rfl rfl ?_
  refine XQ_v1 (ev_move rfl) (.some rfl rfl rfl rfl gbf) rfl rfl rfl ?_
  refine XQ_v1 (ev_move rfl) (.some rfl rfl rfl rfl gbf) rfl rfl rfl ?_
  refine XQ_v1 (ev_indexSl rfl rfl slt_23 (by assumption) (fun hg => by first | omega | (simp [conj] at hg; omega))) (.some rfl rfl rfl rfl gbf) rfl rfl rfl ?_
  refine XQ_v1 (ev_load rfl sct_3 (fun hg => by first | exact Sl.get0 hS hx rfl | exact Sl.getD0 hS (d := 0) (k := ((k : Int) - 1).toNat) (by first | omega | (simp [conj] at hg; omega)) rfl | (repeat (first | exact Cell.here rfl | apply Cell.there | apply Cell.app)))) (.some rfl rfl rfl rfl gbf) rfl rfl rfl ?_
  refine XQ_v1 (ev_move rfl) (.some rfl rfl rfl rfl gbf) rfl rfl rfl ?_
  refine XQ_v1 (ev_cmp rfl rfl rfl) (.some rfl rfl rfl rfl gbf) rfl rfl rfl ?_
  refine XQ_or0 rfl rfl rfl rfl rfl ?_
  refine XQ_v0 (ev_move rfl) rfl rfl rfl ?_
  refine XQ_pushF 14 rfl rfl rfl ?_
  refine XQ_v1 (ev_move rfl) (.some rfl rfl rfl rfl gbf) rfl rfl rfl ?_
  refine XQ_v1 (ev_cmp rfl rfl rfl) (.some rfl rfl rfl rfl gbf) rfl rfl rfl ?_
  refine XQ_v1 (ev_move rfl) (.some rfl rfl rfl rfl gbf) rfl rfl rfl ?_
  refine XQ_pushT 17 rfl rfl rfl ?_
  refine XQ_v1 (ev_move rfl) (.some rfl rfl rfl rfl gbt) rfl rfl rfl ?_
  refine XQ_v1 (ev_move rfl) (.some rfl rfl rfl rfl gbt) rfl rfl rfl ?_
  refine XQ_v1 (ev_indexSl rfl rfl slt_23 (by assumption) (fun hg => by first | omega | (simp [conj] at hg; omega))) (.some rfl rfl rfl rfl gbt) rfl rfl rfl ?_
  refine XQ_v1 (ev_load rfl sct_3 (fun hg => by first | exact Sl.get0 hS hx rfl | exact Sl.getD0 hS (d := 0) (k := ((k : Int) - 1).toNat) (by first | omega | (simp [conj] at hg; omega)) rfl | (repeat (first | exact Cell.here rfl | apply Cell.there | apply Cell.app)))) (.some rfl rfl rfl rfl gbt) rfl rfl rfl ?_
  refine XQ_v1 (ev_move rfl) (.some rfl rfl rfl rfl gbt) rfl rfl rfl ?_
  refine XQ_v1 (ev_move rfl) (.some rfl rfl rfl rfl gbt) rfl rfl rfl ?_
  refine XQ_v1 (ev_arB rfl rfl rfl (fun hg => by first | omega | (simp [conj] at hg; omega))) (.some rfl rfl rfl rfl gbt) rfl rfl rfl ?_
  refine XQ_v1 (ev_indexSl rfl rfl slt_23 (by assumption) (fun hg => by first | omega | (simp [conj] at hg; omega))) (.some rfl rfl rfl rfl gbt) rfl rfl rfl ?_
  refine XQ_v1 (ev_load rfl sct_3 (fun hg => by first | exact Sl.get0 hS hx rfl | exact Sl.getD0 hS (d := 0) (k := ((k : Int) - 1).toNat) (by first | omega | (simp [conj] at hg; omega)) rfl | (repeat (first | exact Cell.here rfl | apply Cell.there | apply Cell.app)))) (.some rfl rfl rfl rfl gbt) rfl rfl rfl ?_
  refine XQ_v1 (ev_cmp rfl rfl rfl) (.some rfl rfl rfl rfl gbt) rfl rfl rfl ?_
  refine XQ_and1 rfl rfl rfl (.some rfl rfl rfl rfl gbf) rfl rfl ?_
  refine XQ_or0 rfl rfl rfl rfl rfl ?_
  refine XQ_nil ?_
  refine at_then ?_
  refine X_cond rfl (fun hc43 => ?_) (fun hc43 => ?_)
  ·
   refine zR ?_
   refine zA ?_
   refine zN ?_
   refine X_ret ?_
   refine at_block_r ?_
   refine at_then_r ?_
   refine at_then_r ?_
   refine at_block_r ?_
   refine at_then_r ?_
   exact at_ret1 rfl rfl (fun w hw => ⟨by rw [ris_cond_bad hx hc43], hw.drop⟩)
  refine X_skip ?_
  refine at_block_n ?_
  refine at_then ?_
  refine X_region ?_
  refine zM ?_
  refine zB ?_
  refine zA ?_
  refine XO_nil ?_
  exact at_met2 _ _ ⟨n - (k + 1), by omega, k + 1, rfl, rfl, rfl, rfl, by omega, ris_cond_ok hx hr hc43⟩ (.cons rfl (.cons rfl (.cons rfl (.cons rfl .nil)))) (by repeat (first | exact .refl | exact subL_left | refine subL_app ?_ | refine .drop ?_ | refine subL_add ?_))
 have hge_k : n ≤ k := by have h := hc11; simp at h; omega
 rw [take_all hS.len hge_k] at hr
 refine X_exit ?_
 refine at_then_e ?_
 refine at_then_e ?_
 refine at_block_hit ?_
 refine at_then ?_
 refine zR ?_
 refine zA ?_
 refine zN ?_
 refine X_ret ?_
 exact at_ret1 rfl rfl (fun w hw => ⟨by rw [hr], hw.drop⟩)
theorem w_rRight {I : HMap} {x : CH} {cr : Cr} (hC : CrAt I x cr) (hn : x.n ≤ 100000) (hn2 : x.n2 ≤ 100000) (hwh : ∀ s ∈ cr.ss, s.who.length ≤ 100000) (hnd : ∀ s ∈ cr.ss, s.needs.length ≤ 100000) : RetV Tryz.prog 63 [encCHA x] I (.bool (rightF cr)) := by
 intro g H w hw
 refine enter Tryz.func63 rfl Tryz.ntmps63 rfl hw ?_
 have hIc := HLe.refl I
 obtain ⟨hD, e1, e2, e3, e4, hss⟩ := id hC
 obtain ⟨hs, hH⟩ := hss
 have hlS := hH.len
 refine zR ?_
 refine XO_box rfl rfl rfl (fun b_1 => ?_)
 refine zA ?_
 refine zN ?_
 refine X_seq ?_
 refine X_seq ?_
 refine X_freeze .here (fun I1 hI1 hb1 => ?_)
 have hD := hD.mono hI1; have hH := hH.mono hI1; have hIc := hIc.trans hI1
 have h1 := ImmC.of hb1
 refine X_region ?_
 refine XO_v0 (ev_fieldAddr rfl fld_33_0) rfl rfl rfl ?_
 refine XO_v0 (ev_load rfl sct_23 (fun hg => by first | exact Cell.imm h1 rfl | exact Cell.imm h4s rfl | (repeat (first | exact Cell.here rfl | apply Cell.there | apply Cell.app)))) rfl rfl rfl ?_
 refine XO_callV0 (cap := []) (vs := [_, _, _]) rfl rfl fun_102 (w_rInc hD hn 0 73048) rfl rfl ?_
 refine XO_v0 (ev_not rfl) rfl rfl rfl ?_
 refine zM ?_
 refine XO_pushF 4 rfl rfl rfl ?_
 refine XO_v1 (ev_fieldAddr rfl fld_33_1) (.some rfl rfl rfl rfl gbf) rfl rfl rfl ?_
 refine XO_v1 (ev_load rfl sct_3 (fun hg => by first | exact Cell.imm h1 rfl | exact Cell.imm h4s rfl | (repeat (first | exact Cell.here rfl | apply Cell.there | apply Cell.app)))) (.some rfl rfl rfl rfl gbf) rfl rfl rfl ?_
 refine XO_callV1 (cap := []) (vs := [_, _, _]) rfl rfl fun_103 (fun hg => w_rWith _ _ _ _) (.some rfl rfl rfl rfl gbf) rfl rfl ?_
 refine XO_v1 (ev_not rfl) (.some rfl rfl rfl rfl gbf) rfl rfl rfl ?_
 refine XO_or0 rfl rfl rfl rfl rfl ?_
 refine zM ?_
 refine XO_pushF 10 rfl rfl rfl ?_
 refine XO_v1 (ev_fieldAddr rfl fld_33_2) (.some rfl rfl rfl rfl gbf) rfl rfl rfl ?_
 refine XO_v1 (ev_load rfl sct_3 (fun hg => by first | exact Cell.imm h1 rfl | exact Cell.imm h4s rfl | (repeat (first | exact Cell.here rfl | apply Cell.there | apply Cell.app)))) (.some rfl rfl rfl rfl gbf) rfl rfl rfl ?_
 refine XO_callV1 (cap := []) (vs := [_, _, _]) rfl rfl fun_103 (fun hg => w_rWith _ _ _ _) (.some rfl rfl rfl rfl gbf) rfl rfl ?_
 refine XO_v1 (ev_not rfl) (.some rfl rfl rfl rfl gbf) rfl rfl rfl ?_
 refine XO_or0 rfl rfl rfl rfl rfl ?_
 refine zM ?_
 refine XO_pushF 16 rfl rfl rfl ?_
 refine XO_v1 (ev_fieldAddr rfl fld_33_3) (.some rfl rfl rfl rfl gbf) rfl rfl rfl ?_
 refine XO_v1 (ev_load rfl sct_3 (fun hg => by first | exact Cell.imm h1 rfl | exact Cell.imm h4s rfl | (repeat (first | exact Cell.here rfl | apply Cell.there | apply Cell.app)))) (.some rfl rfl rfl rfl gbf) rfl rfl rfl ?_
 refine XO_callV1 (cap := []) (vs := [_, _, _]) rfl rfl fun_103 (fun hg => w_rWith _ _ _ _) (.some rfl rfl rfl rfl gbf) rfl rfl ?_
 refine XO_v1 (ev_not rfl) (.some rfl rfl rfl rfl gbf) rfl rfl rfl ?_
 refine XO_or0 rfl rfl rfl rfl rfl ?_
 refine zM ?_
 refine XO_pushF 22 rfl rfl rfl ?_
 refine XO_v1 (ev_fieldAddr rfl fld_33_4) (.some rfl rfl rfl rfl gbf) rfl rfl rfl ?_
 refine XO_v1 (ev_load rfl sct_3 (fun hg => by first | exact Cell.imm h1 rfl | exact Cell.imm h4s rfl | (repeat (first | exact Cell.here rfl | apply Cell.there | apply Cell.app)))) (.some rfl rfl rfl rfl gbf) rfl rfl rfl ?_
 refine XO_callV1 (cap := []) (vs := [_, _, _]) rfl rfl fun_103 (fun hg => w_rWith _ _ _ _) (.some rfl rfl rfl rfl gbf) rfl rfl ?_
 refine XO_v1 (ev_not rfl) (.some rfl rfl rfl rfl gbf) rfl rfl rfl ?_
 refine XO_or0 rfl rfl rfl rfl rfl ?_
 refine zN ?_
 refine X_cond rfl (fun hc32 => ?_) (fun hc32 => ?_)
 ·
  have hr : rightH cr = true := by unfold rightH; rw [← e1, ← e2, ← e3, ← e4]; exact hc32
  refine zR ?_
  refine zA ?_
  refine zN ?_
  refine X_ret ?_
  refine at_then_r ?_
  first
  | exact at_ret1 rfl rfl (fun w hw => ⟨by unfold rightF; rw [hr]; rfl, (hw.mono hIc).drop⟩)
 have hr : rightH cr = false := by unfold rightH; rw [← e1, ← e2, ← e3, ← e4]; exact hc32
 refine X_skip ?_
 refine at_then ?_
 refine X_seq ?_
 refine zR ?_
 refine zA ?_
 refine zN ?_
 refine X_block ?_
 refine X_loopT [(1, _)] (.cons rfl .nil) (fun T L0 mz E I' loc' => ∃ (k : Nat), mz = x.n2 - k ∧ E = (3, .int .i64 k) :: T ∧ HLe I1 I' ∧ L0 = loc' ∧ k ≤ x.n2 ∧ goodS 0 cr.ss = goodS k (cr.ss.drop k)) _ _ _ _ ⟨0, rfl, rfl, HLe.refl _, rfl, Nat.zero_le _, rfl⟩ (.cons rfl (.cons rfl .nil)) (HLe.refl _) rfl ?_
 rintro mz E J2 loc' ⟨k, rfl, rfl, hJ, rfl, hk, hg9⟩
 have hD := hD.mono hJ; have hH := hH.mono hJ; have h1 := h1.mono hJ; have hIc := hIc.trans hJ
 have hB0 := hJ
 refine X_seq ?_
 refine zR ?_
 refine zM ?_
 refine XO_v0 (ev_fieldAddr rfl fld_33_5) rfl rfl rfl ?_
 refine XO_v0 (ev_load rfl sct_27 (fun hg => by first | exact Cell.imm h1 rfl | exact Cell.imm h4s rfl | (repeat (first | exact Cell.here rfl | apply Cell.there | apply Cell.app)))) rfl rfl rfl ?_
 refine XO_v0 (ev_lenS rfl slt_27) rfl rfl rfl ?_
 refine zC ?_
 refine zN ?_
 refine X_cond rfl (fun hc37 => ?_) (fun hc37 => ?_)
 ·
  have hlt_k : k < x.n2 := by have h := hc37; simp at h; omega
  obtain ⟨y, s, hy, hs9, q1, q2, hW, hN⟩ := hH.at hlt_k
  have hwl := hwh s (List.mem_of_getElem? hs9)
  have hnl := hnd s (List.mem_of_getElem? hs9)
  have hWl := hW.len
  have hNl := hN.len
  refine X_skip ?_
  refine at_then ?_
  refine X_seq ?_
  refine X_block ?_
  refine zR ?_
  refine XO_v0 (ev_fieldAddr rfl fld_33_5) rfl rfl rfl ?_
  refine XO_v0 (ev_load rfl sct_27 (fun hg => by first | exact Cell.imm h1 rfl | exact Cell.imm h4s rfl | (repeat (first | exact Cell.here rfl | apply Cell.there | apply Cell.app)))) rfl rfl rfl ?_
  refine zM ?_
  refine XO_v0 (ev_indexSl rfl rfl slt_27 hH.1 (fun hg => by first | omega | (simp [conj] at hg; omega))) rfl rfl rfl ?_
  refine XO_v0 (ev_loadA rfl agt_58 (fun hg => by first | exact Sl.getA hH.1 hy | (repeat (first | exact Cells.here | exact Cells.s0 (vs := [_, _, _, _]) rfl | apply Cells.there | apply Cells.app))) rfl) rfl rfl rfl ?_
  refine XO_alloc zt_58 rfl rfl (fun b_4 => ?_)
  refine XO_storeA rfl rfl szt_58 rfl rfl rfl rfl (by repeat (first | exact Upd.here | apply Upd.there | apply upd_app)) ?_
  refine zN ?_
  refine X_seq ?_
  refine X_freeze .here (fun I3 hI3 hb3 => ?_)
  have hD := hD.mono hI3; have hH := hH.mono hI3; have h1 := h1.mono hI3; have hW := hW.mono hI3; have hN := hN.mono hI3; have hIc := hIc.trans hI3; have hB0 := hB0.trans hI3
  have h4s := ImmC.of hb3
  refine X_region ?_
  refine XO_v0 (ev_fieldAddr rfl fld_58_0) rfl rfl rfl ?_
  refine XO_v0 (ev_load rfl sct_3 (fun hg => by first | exact Cell.imm h1 rfl | exact Cell.imm h4s rfl | (repeat (first | exact Cell.here rfl | apply Cell.there | apply Cell.app)))) rfl rfl rfl ?_
  refine XO_callV0 (cap := []) (vs := [_, _, _]) rfl rfl fun_103 (w_rWith _ _ _ _) rfl rfl ?_
  refine XO_v0 (ev_not rfl) rfl rfl rfl ?_
  refine zM ?_
  refine XO_pushF 4 rfl rfl rfl ?_
  refine XO_v1 (ev_fieldAddr rfl fld_58_1) (.some rfl rfl rfl rfl gbf) rfl rfl rfl ?_
  refine XO_v1 (ev_load rfl sct_3 (fun hg => by first | exact Cell.imm h1 rfl | exact Cell.imm h4s rfl | (repeat (first | exact Cell.here rfl | apply Cell.there | apply Cell.app)))) (.some rfl rfl rfl rfl gbf) rfl rfl rfl ?_
  refine XO_callV1 (cap := []) (vs := [_, _, _]) rfl rfl fun_103 (fun hg => w_rWith _ _ _ _) (.some rfl rfl rfl rfl gbf) rfl rfl ?_
  refine XO_v1 (ev_not rfl) (.some rfl rfl rfl rfl gbf) rfl rfl rfl ?_
  refine XO_or0 rfl rfl rfl rfl rfl ?_
  refine zM ?_
  refine XO_pushF 10 rfl rfl rfl ?_
  refine XO_v1 (ev_fieldAddr rfl fld_58_2) (.some rfl rfl rfl rfl gbf) rfl rfl rfl ?_
  refine XO_v1 (ev_load rfl sct_23 (fun hg => by first | exact Cell.imm h1 rfl | exact Cell.imm h4s rfl | (repeat (first | exact Cell.here rfl | apply Cell.there | apply Cell.app)))) (.some rfl rfl rfl rfl gbf) rfl rfl rfl ?_
  refine XO_v1 (ev_lenS rfl slt_23) (.some rfl rfl rfl rfl gbf) rfl rfl rfl ?_
  refine XO_v1 (ev_cmp rfl rfl rfl) (.some rfl rfl rfl rfl gbf) rfl rfl rfl ?_
  refine XO_or0 rfl rfl rfl rfl rfl ?_
  refine zM ?_
  refine XO_pushF 16 rfl rfl rfl ?_
  refine XO_v1 (ev_fieldAddr rfl fld_58_2) (.some rfl rfl rfl rfl gbf) rfl rfl rfl ?_
  refine XO_v1 (ev_load rfl sct_23 (fun hg => by first | exact Cell.imm h1 rfl | exact Cell.imm h4s rfl | (repeat (first | exact Cell.here rfl | apply Cell.there | apply Cell.app)))) (.some rfl rfl rfl rfl gbf) rfl rfl rfl ?_
  refine XO_callV1 (cap := []) (vs := [_, _, _]) rfl rfl fun_102 (fun hg => w_rInc hW (by omega) 0 63) (.some rfl rfl rfl rfl gbf) rfl rfl ?_
  refine XO_v1 (ev_not rfl) (.some rfl rfl rfl rfl gbf) rfl rfl rfl ?_
  refine XO_or0 rfl rfl rfl rfl rfl ?_
  refine zM ?_
  refine XO_pushF 22 rfl rfl rfl ?_
  refine XO_v1 (ev_fieldAddr rfl fld_58_3) (.some rfl rfl rfl rfl gbf) rfl rfl rfl ?_
  refine XO_v1 (ev_load rfl sct_23 (fun hg => by first | exact Cell.imm h1 rfl | exact Cell.imm h4s rfl | (repeat (first | exact Cell.here rfl | apply Cell.there | apply Cell.app)))) (.some rfl rfl rfl rfl gbf) rfl rfl rfl ?_
  refine XO_v1 (ev_move rfl) (.some rfl rfl rfl rfl gbf) rfl rfl rfl ?_
  refine XO_v1 (ev_arB rfl rfl rfl (fun hg => by first | omega | (simp [conj] at hg; omega))) (.some rfl rfl rfl rfl gbf) rfl rfl rfl ?_
  refine XO_callV1 (cap := []) (vs := [_, _, _]) rfl rfl fun_102 (fun hg => w_rInc hN (by omega) 0 _) (.some rfl rfl rfl rfl gbf) rfl rfl ?_
  refine XO_v1 (ev_not rfl) (.some rfl rfl rfl rfl gbf) rfl rfl rfl ?_
  refine XO_or0 rfl rfl rfl rfl rfl ?_
  refine zN ?_
  refine X_cond rfl (fun hc74 => ?_) (fun hc74 => ?_)
  ·
   have hb : sesP k s = true := by unfold sesP; rw [← q1, ← q2, hWl, ← within_neg]; exact hc74
   refine zR ?_
   refine zA ?_
   refine zN ?_
   refine X_ret ?_
   refine at_block_r ?_
   refine at_then_r ?_
   refine at_then_r ?_
   refine at_block_r ?_
   refine at_then_r ?_
   first
   | exact at_ret1 rfl rfl (fun w hw => ⟨by unfold rightF; rw [hr, hg9, goodS_bad hs9 hb]; rfl, (hw.mono hIc).drop⟩)
  have hb : sesP k s = false := by unfold sesP; rw [← q1, ← q2, hWl, ← within_neg]; exact hc74
  refine X_skip ?_
  refine at_block_n ?_
  refine at_then ?_
  refine X_region ?_
  refine zM ?_
  refine zB ?_
  refine zA ?_
  refine XO_nil ?_
  exact at_met2 _ _ ⟨x.n2 - (k + 1), by omega, k + 1, rfl, rfl, hB0, rfl, by omega, by rw [hg9, goodS_step hs9 hb]⟩ (.cons rfl (.cons rfl .nil)) (by repeat (first | exact .refl | exact subL_left | refine subL_app ?_ | refine .drop ?_ | refine subL_add ?_))
 have hge_k : x.n2 ≤ k := by have h := hc37; simp at h; omega
 rw [goodS_end (by omega)] at hg9
 refine X_exit ?_
 refine at_then_e ?_
 refine at_then_e ?_
 refine at_block_hit ?_
 refine at_then ?_
 refine zR ?_
 refine zA ?_
 refine zN ?_
 refine X_ret ?_
 first
 | exact at_ret1 rfl rfl (fun w hw => ⟨by unfold rightF; rw [hr, hg9]; rfl, (hw.mono hIc).drop⟩)
theorem w_rPlans {I : HMap} {x : CH} {cr : Cr} (hC : CrAt I x cr) (hn : x.n ≤ 16) (hn2 : x.n2 ≤ 8) : RetV Tryz.prog 52 [encCHA x] I (.int .i64 (plansF cr)) := by
 intro g H w hw
 refine enter Tryz.func52 rfl Tryz.ntmps52 rfl hw ?_
 have hIc := HLe.refl I
 have hlD : cr.days.length = x.n := hC.1.len
 have hlS : cr.ss.length = x.n2 := hC.2.2.2.2.2.len
 refine zR ?_
 refine XO_box rfl rfl rfl (fun b_1 => ?_)
 refine zA ?_
 refine zN ?_
 refine X_seq ?_
 refine X_freeze .here (fun I1 hI1 hb1 => ?_)
 have hIc := hIc.trans hI1
 have h1 := ImmC.of hb1
 refine X_region ?_
 refine zA ?_
 refine zN ?_
 refine X_seq ?_
 refine zR ?_
 refine zA ?_
 refine zN ?_
 refine X_block ?_
 refine X_loopT [(1, _)] (.cons rfl .nil) (fun T L0 mz E I' loc' => ∃ (k : Nat) (q : Int), mz = x.n2 - k ∧ E = (3, .int .i64 q) :: (4, .int .i64 k) :: T ∧ I1 = I' ∧ L0 = loc' ∧ k ≤ x.n2 ∧ q = ((x.n ^ k : Nat) : Int)) _ _ _ _ ⟨0, 1, rfl, rfl, rfl, rfl, Nat.zero_le _, rfl⟩ (.cons rfl (.cons rfl (.cons rfl .nil))) (HLe.refl _) rfl ?_
 rintro mz E I' loc' ⟨k, q, rfl, rfl, rfl, rfl, hk, hq⟩
 refine X_seq ?_
 refine zR ?_
 refine zM ?_
 refine XO_v0 (ev_fieldAddr rfl fld_33_5) rfl rfl rfl ?_
 refine XO_v0 (ev_load rfl sct_27 (fun hg => by first | exact Cell.imm h1 rfl | (repeat (first | exact Cell.here rfl | apply Cell.there | apply Cell.app)))) rfl rfl rfl ?_
 refine XO_v0 (ev_lenS rfl slt_27) rfl rfl rfl ?_
 refine zC ?_
 refine zN ?_
 refine X_cond rfl (fun hc9 => ?_) (fun hc9 => ?_)
 ·
  have hlt_k : k < x.n2 := by have h := hc9; simp at h; omega
  have hp := pow16 (n := x.n) (k := k) hn (by omega)
  have hp2 := pow16 (n := x.n) (k := k + 1) hn (by omega)
  have hm : q * (x.n : Int) = ((x.n ^ (k + 1) : Nat) : Int) := by rw [hq, Nat.pow_succ]; simp
  refine X_skip ?_
  refine at_then ?_
  refine X_seq ?_
  refine X_block ?_
  refine X_region ?_
  refine zM ?_
  refine XO_v0 (ev_fieldAddr rfl fld_33_0) rfl rfl rfl ?_
  refine XO_v0 (ev_load rfl sct_23 (fun hg => by first | exact Cell.imm h1 rfl | (repeat (first | exact Cell.here rfl | apply Cell.there | apply Cell.app)))) rfl rfl rfl ?_
  refine XO_v0 (ev_lenS rfl slt_23) rfl rfl rfl ?_
  refine zB ?_
  refine zA ?_
  refine XO_nil ?_
  refine at_block_n ?_
  refine at_then ?_
  refine X_region ?_
  refine zM ?_
  refine zB ?_
  refine zA ?_
  refine XO_nil ?_
  exact at_met2 _ _ ⟨x.n2 - (k + 1), by omega, k + 1, _, rfl, rfl, rfl, rfl, by omega, by rw [hq, Nat.pow_succ]; simp⟩ (.cons rfl (.cons rfl (.cons rfl .nil))) (by repeat (first | exact .refl | exact subL_left | refine subL_app ?_ | refine .drop ?_ | refine subL_add ?_))
 have hge_k : x.n2 ≤ k := by have h := hc9; simp at h; omega
 obtain rfl : k = x.n2 := by omega
 refine X_exit ?_
 refine at_then_e ?_
 refine at_then_e ?_
 refine at_block_hit ?_
 refine at_then ?_
 refine zR ?_
 refine zM ?_
 refine zA ?_
 refine zN ?_
 refine X_ret ?_
 exact at_ret1 rfl rfl (fun w hw => ⟨by unfold plansF; rw [hlD, hlS, hq], (hw.mono hIc).drop⟩)
theorem w_rChk {I : HMap} {x : CH} {cr : Cr} (hC : CrAt I x cr) (hnd : ∀ s ∈ cr.ss, s.needs.length ≤ 100000) (hwh : ∀ s ∈ cr.ss, s.who.length ≤ 100000) : RetV Tryz.prog 21 [encCHA x] I (.int .i64 (chkC cr)) := by
 intro g H w hw
 refine enter Tryz.func21 rfl Tryz.ntmps21 rfl hw ?_
 have hIc := HLe.refl I
 obtain ⟨hD, e1, e2, e3, e4, hss⟩ := id hC
 obtain ⟨hs, hH⟩ := hss
 have hlS := hH.len
 have hlD := hD.len
 refine zR ?_
 refine XO_box rfl rfl rfl (fun b_1 => ?_)
 refine zA ?_
 refine zN ?_
 refine X_seq ?_
 refine X_seq ?_
 refine X_freeze .here (fun I1 hI1 hb1 => ?_)
 have hC := hC.mono hI1; have hH := hH.mono hI1; have hIc := hIc.trans hI1
 have hbx := ImmC.of hb1
 refine X_region ?_
 refine XO_v0 (ev_fieldAddr rfl fld_33_0) rfl rfl rfl ?_
 refine XO_v0 (ev_load rfl sct_23 (fun hg => by first | exact Cell.imm hbx rfl | exact Sl.get hH.1 hy (j := 2) rfl | (repeat (first | exact Cell.here rfl | apply Cell.there | apply Cell.app)))) rfl rfl rfl ?_
 refine XO_v0 (ev_lenS rfl slt_23) rfl rfl rfl ?_
 refine zC ?_
 refine zM ?_
 refine XO_pushF 4 rfl rfl rfl ?_
 refine XO_v1 (ev_fieldAddr rfl fld_33_5) (.some rfl rfl rfl rfl gbf) rfl rfl rfl ?_
 refine XO_v1 (ev_load rfl sct_27 (fun hg => by first | exact Cell.imm hbx rfl | exact Sl.get hH.1 hy (j := 2) rfl | (repeat (first | exact Cell.here rfl | apply Cell.there | apply Cell.app)))) (.some rfl rfl rfl rfl gbf) rfl rfl rfl ?_
 refine XO_v1 (ev_lenS rfl slt_27) (.some rfl rfl rfl rfl gbf) rfl rfl rfl ?_
 refine XO_v1 (ev_cmp rfl rfl rfl) (.some rfl rfl rfl rfl gbf) rfl rfl rfl ?_
 refine XO_or0 rfl rfl rfl rfl rfl ?_
 refine zN ?_
 refine X_cond rfl (fun hc13 => ?_) (fun hc13 => ?_)
 ·
  have h1 : ((decide ((cr.days.length : Int) > 16) || decide ((cr.ss.length : Int) > 8)) || cr.ss.any (fun s => decide ((s.who.length : Int) > 6))) = true := by rw [hlD, hlS, show (decide ((x.n : Int) > 16) || decide ((x.n2 : Int) > 8)) = true from hc13]; rfl
  refine zR ?_
  refine zA ?_
  refine zN ?_
  refine X_ret ?_
  refine at_then_r ?_
  exact at_ret1 rfl rfl (fun w hw => ⟨by rw [chkC_1 h1], (hw.mono hIc).drop⟩)
 have hsm : (decide ((x.n : Int) > 16) || decide ((x.n2 : Int) > 8)) = false := hc13
 have hsm2 := hsm
 simp at hsm2
 refine X_skip ?_
 refine at_then ?_
 refine X_seq ?_
 refine zR ?_
 refine zA ?_
 refine zN ?_
 refine X_block ?_
 refine X_loopT [(1, _)] (.cons rfl .nil) (fun T L0 mz E I' loc' => ∃ (k : Nat), mz = x.n2 - k ∧ E = (3, .int .i64 k) :: T ∧ I1 = I' ∧ L0 = loc' ∧ k ≤ x.n2 ∧ (cr.ss.take k).any (fun s => decide ((s.who.length : Int) > 6)) = false) _ _ _ _ ⟨0, rfl, rfl, rfl, rfl, Nat.zero_le _, rfl⟩ (.cons rfl (.cons rfl .nil)) (HLe.refl _) rfl ?_
 rintro mz E I' loc' ⟨k, rfl, rfl, rfl, rfl, hk, hno⟩
 refine X_seq ?_
 refine zR ?_
 refine zM ?_
 refine XO_v0 (ev_fieldAddr rfl fld_33_5) rfl rfl rfl ?_
 refine XO_v0 (ev_load rfl sct_27 (fun hg => by first | exact Cell.imm hbx rfl | exact Sl.get hH.1 hy (j := 2) rfl | (repeat (first | exact Cell.here rfl | apply Cell.there | apply Cell.app)))) rfl rfl rfl ?_
 refine XO_v0 (ev_lenS rfl slt_27) rfl rfl rfl ?_
 refine zC ?_
 refine zN ?_
 refine X_cond rfl (fun hc18 => ?_) (fun hc18 => ?_)
 ·
  have hlt_k : k < x.n2 := by have h := hc18; simp at h; omega
  obtain ⟨y, s, hy, hs9, q1, q2, hW, hN⟩ := hH.at hlt_k
  have hWl := hW.len
  refine X_skip ?_
  refine at_then ?_
  refine X_seq ?_
  refine X_block ?_
  refine zR ?_
  refine XO_v0 (ev_fieldAddr rfl fld_33_5) rfl rfl rfl ?_
  refine XO_v0 (ev_load rfl sct_27 (fun hg => by first | exact Cell.imm hbx rfl | exact Sl.get hH.1 hy (j := 2) rfl | (repeat (first | exact Cell.here rfl | apply Cell.there | apply Cell.app)))) rfl rfl rfl ?_
  refine zM ?_
  refine XO_v0 (ev_indexSl rfl rfl slt_27 hH.1 (fun hg => by first | omega | (simp [conj] at hg; omega))) rfl rfl rfl ?_
  refine XO_v0 (ev_fieldAddr rfl fld_58_2) rfl rfl rfl ?_
  refine XO_v0 (ev_load rfl sct_23 (fun hg => by first | exact Cell.imm hbx rfl | exact Sl.get hH.1 hy (j := 2) rfl | (repeat (first | exact Cell.here rfl | apply Cell.there | apply Cell.app)))) rfl rfl rfl ?_
  refine XO_v0 (ev_lenS rfl slt_23) rfl rfl rfl ?_
  refine zC ?_
  refine zN ?_
  refine X_cond rfl (fun hc28 => ?_) (fun hc28 => ?_)
  ·
   have h1 : ((decide ((cr.days.length : Int) > 16) || decide ((cr.ss.length : Int) > 8)) || cr.ss.any (fun s => decide ((s.who.length : Int) > 6))) = true := by rw [any_yes hs9 (by rw [hWl]; exact hc28), Bool.or_true]
   refine zR ?_
   refine zA ?_
   refine zN ?_
   refine X_ret ?_
   refine at_block_r ?_
   refine at_then_r ?_
   refine at_then_r ?_
   refine at_block_r ?_
   refine at_then_r ?_
   exact at_ret1 rfl rfl (fun w hw => ⟨by rw [chkC_1 h1], (hw.mono hIc).drop⟩)
  refine X_skip ?_
  refine at_block_n ?_
  refine at_then ?_
  refine X_region ?_
  refine zM ?_
  refine zB ?_
  refine zA ?_
  refine XO_nil ?_
  exact at_met2 _ _ ⟨x.n2 - (k + 1), by omega, k + 1, rfl, rfl, rfl, rfl, by omega, any_no hs9 hno (by rw [hWl]; exact hc28)⟩ (.cons rfl (.cons rfl .nil)) (by repeat (first | exact .refl | exact subL_left | refine subL_app ?_ | refine .drop ?_ | refine subL_add ?_))
 have hge_k : x.n2 ≤ k := by have h := hc18; simp at h; omega
 rw [List.take_of_length_le (by omega)] at hno
 have h1 : ((decide ((cr.days.length : Int) > 16) || decide ((cr.ss.length : Int) > 8)) || cr.ss.any (fun s => decide ((s.who.length : Int) > 6))) = false := by rw [hlD, hlS, hsm, hno]; rfl
 refine X_exit ?_
 refine at_then_e ?_
 refine at_then_e ?_
 refine at_block_hit ?_
 refine at_then ?_
 refine X_seq ?_
 refine zR ?_
 refine XO_v0 (ev_loadA rfl agt_33 (fun hg => by first | exact Cells.immC hbx | (repeat (first | exact Cells.here | exact Cells.s0 (vs := [_, _, _, _, _, _]) rfl | apply Cells.there | apply Cells.app))) rfl) rfl rfl rfl ?_
 refine XO_callV0 (cap := []) (vs := [_]) rfl rfl fun_63 (w_rRight hC (by omega) (by omega) hwh hnd) rfl rfl ?_
 refine XO_v0 (ev_not rfl) rfl rfl rfl ?_
 refine zN ?_
 refine X_cond rfl (fun hc31 => ?_) (fun hc31 => ?_)
 ·
  have h2 : rightF cr = false := by simpa using hc31
  refine zR ?_
  refine zA ?_
  refine zN ?_
  refine X_ret ?_
  refine at_then_r ?_
  exact at_ret1 rfl rfl (fun w hw => ⟨by rw [chkC_2 h1 h2], (hw.mono hIc).drop⟩)
 have h2 : rightF cr = true := by simpa using hc31
 refine X_skip ?_
 refine at_then ?_
 refine X_seq ?_
 refine zR ?_
 refine XO_v0 (ev_loadA rfl agt_33 (fun hg => by first | exact Cells.immC hbx | (repeat (first | exact Cells.here | exact Cells.s0 (vs := [_, _, _, _, _, _]) rfl | apply Cells.there | apply Cells.app))) rfl) rfl rfl rfl ?_
 refine XO_callV0 (cap := []) (vs := [_]) rfl rfl fun_52 (w_rPlans hC (by omega) (by omega)) rfl rfl ?_
 refine zC ?_
 refine zN ?_
 refine X_cond rfl (fun hc34 => ?_) (fun hc34 => ?_)
 ·
  have h3 : plansF cr > 65536 := by simpa using hc34
  refine zR ?_
  refine zA ?_
  refine zN ?_
  refine X_ret ?_
  refine at_then_r ?_
  exact at_ret1 rfl rfl (fun w hw => ⟨by rw [chkC_3 h1 h2, if_pos h3], (hw.mono hIc).drop⟩)
 have h3 : ¬ plansF cr > 65536 := by simpa using hc34
 refine X_skip ?_
 refine at_then ?_
 refine zR ?_
 refine zA ?_
 refine zN ?_
 refine X_ret ?_
 exact at_ret1 rfl rfl (fun w hw => ⟨by rw [chkC_3 h1 h2, if_neg h3], (hw.mono hIc).drop⟩)
theorem w_rFew {I : HMap} {x : CH} {cr : Cr} (hC : CrAt I x cr) : RetV Tryz.prog 15 [encCHA x] I (.bool (fewC cr)) := by
 intro g H w hw
 refine enter Tryz.func15 rfl Tryz.ntmps15 rfl hw ?_
 have hIc := HLe.refl I
 obtain ⟨hD, e1, e2, e3, e4, hss⟩ := id hC
 obtain ⟨hs, hH⟩ := hss
 have hlS := hH.len
 have hlD := hD.len
 refine zR ?_
 refine XO_box rfl rfl rfl (fun b_1 => ?_)
 refine zA ?_
 refine zN ?_
 refine X_seq ?_
 refine X_seq ?_
 refine X_freeze .here (fun I1 hI1 hb1 => ?_)
 have hC := hC.mono hI1; have hH := hH.mono hI1; have hIc := hIc.trans hI1
 have hbx := ImmC.of hb1
 refine X_region ?_
 refine XO_v0 (ev_fieldAddr rfl fld_33_0) rfl rfl rfl ?_
 refine XO_v0 (ev_load rfl sct_23 (fun hg => by first | exact Cell.imm hbx rfl | exact Sl.get hH.1 hy (j := 2) rfl | exact Sl.get hH.1 hy (j := 3) rfl | (repeat (first | exact Cell.here rfl | apply Cell.there | apply Cell.app)))) rfl rfl rfl ?_
 refine XO_v0 (ev_lenS rfl slt_23) rfl rfl rfl ?_
 refine zC ?_
 refine zM ?_
 refine XO_pushF 4 rfl rfl rfl ?_
 refine XO_v1 (ev_fieldAddr rfl fld_33_5) (.some rfl rfl rfl rfl gbf) rfl rfl rfl ?_
 refine XO_v1 (ev_load rfl sct_27 (fun hg => by first | exact Cell.imm hbx rfl | exact Sl.get hH.1 hy (j := 2) rfl | exact Sl.get hH.1 hy (j := 3) rfl | (repeat (first | exact Cell.here rfl | apply Cell.there | apply Cell.app)))) (.some rfl rfl rfl rfl gbf) rfl rfl rfl ?_
 refine XO_v1 (ev_lenS rfl slt_27) (.some rfl rfl rfl rfl gbf) rfl rfl rfl ?_
 refine XO_v1 (ev_cmp rfl rfl rfl) (.some rfl rfl rfl rfl gbf) rfl rfl rfl ?_
 refine XO_or0 rfl rfl rfl rfl rfl ?_
 refine zN ?_
 refine X_cond rfl (fun hc13 => ?_) (fun hc13 => ?_)
 ·
  have h1 : (decide ((cr.days.length : Int) > 40) || decide ((cr.ss.length : Int) > 20)) = true := by rw [hlD, hlS]; exact hc13
  refine zR ?_
  refine zA ?_
  refine zN ?_
  refine X_ret ?_
  refine at_then_r ?_
  first
  | exact at_ret1 rfl rfl (fun w hw => ⟨by unfold fewC; rw [if_pos h1], (hw.mono hIc).drop⟩)
 have h1 : (decide ((cr.days.length : Int) > 40) || decide ((cr.ss.length : Int) > 20)) = false := by rw [hlD, hlS]; exact hc13
 have hsm := h1
 simp at hsm
 refine X_skip ?_
 refine at_then ?_
 refine X_seq ?_
 refine zR ?_
 refine zA ?_
 refine zN ?_
 refine X_block ?_
 refine X_loopT [(1, _)] (.cons rfl .nil) (fun T L0 mz E I' loc' => ∃ (k : Nat), mz = x.n2 - k ∧ E = (3, .int .i64 k) :: T ∧ I1 = I' ∧ L0 = loc' ∧ k ≤ x.n2 ∧ (cr.ss.take k).any (fun s => decide ((s.who.length : Int) > 80) || decide ((s.needs.length : Int) > 80)) = false) _ _ _ _ ⟨0, rfl, rfl, rfl, rfl, Nat.zero_le _, rfl⟩ (.cons rfl (.cons rfl .nil)) (HLe.refl _) rfl ?_
 rintro mz E I' loc' ⟨k, rfl, rfl, rfl, rfl, hk, hno⟩
 refine X_seq ?_
 refine zR ?_
 refine zM ?_
 refine XO_v0 (ev_fieldAddr rfl fld_33_5) rfl rfl rfl ?_
 refine XO_v0 (ev_load rfl sct_27 (fun hg => by first | exact Cell.imm hbx rfl | exact Sl.get hH.1 hy (j := 2) rfl | exact Sl.get hH.1 hy (j := 3) rfl | (repeat (first | exact Cell.here rfl | apply Cell.there | apply Cell.app)))) rfl rfl rfl ?_
 refine XO_v0 (ev_lenS rfl slt_27) rfl rfl rfl ?_
 refine zC ?_
 refine zN ?_
 refine X_cond rfl (fun hc18 => ?_) (fun hc18 => ?_)
 ·
  have hlt_k : k < x.n2 := by have h := hc18; simp at h; omega
  obtain ⟨y, s, hy, hs9, q1, q2, hW, hN⟩ := hH.at hlt_k
  have hWl := hW.len
  have hNl := hN.len
  refine X_skip ?_
  refine at_then ?_
  refine X_seq ?_
  refine X_block ?_
  refine zR ?_
  refine XO_v0 (ev_fieldAddr rfl fld_33_5) rfl rfl rfl ?_
  refine XO_v0 (ev_load rfl sct_27 (fun hg => by first | exact Cell.imm hbx rfl | exact Sl.get hH.1 hy (j := 2) rfl | exact Sl.get hH.1 hy (j := 3) rfl | (repeat (first | exact Cell.here rfl | apply Cell.there | apply Cell.app)))) rfl rfl rfl ?_
  refine zM ?_
  refine XO_v0 (ev_indexSl rfl rfl slt_27 hH.1 (fun hg => by first | omega | (simp [conj] at hg; omega))) rfl rfl rfl ?_
  refine XO_v0 (ev_fieldAddr rfl fld_58_2) rfl rfl rfl ?_
  refine XO_v0 (ev_load rfl sct_23 (fun hg => by first | exact Cell.imm hbx rfl | exact Sl.get hH.1 hy (j := 2) rfl | exact Sl.get hH.1 hy (j := 3) rfl | (repeat (first | exact Cell.here rfl | apply Cell.there | apply Cell.app)))) rfl rfl rfl ?_
  refine XO_v0 (ev_lenS rfl slt_23) rfl rfl rfl ?_
  refine zC ?_
  refine zM ?_
  refine XO_pushF 8 rfl rfl rfl ?_
  refine XO_v1 (ev_fieldAddr rfl fld_33_5) (.some rfl rfl rfl rfl gbf) rfl rfl rfl ?_
  refine XO_v1 (ev_load rfl sct_27 (fun hg => by first | exact Cell.imm hbx rfl | exact Sl.get hH.1 hy (j := 2) rfl | exact Sl.get hH.1 hy (j := 3) rfl | (repeat (first | exact Cell.here rfl | apply Cell.there | apply Cell.app)))) (.some rfl rfl rfl rfl gbf) rfl rfl rfl ?_
  refine XO_v1 (ev_move rfl) (.some rfl rfl rfl rfl gbf) rfl rfl rfl ?_
  refine XO_v1 (ev_indexSl rfl rfl slt_27 hH.1 (fun hg => by first | omega | (simp [conj] at hg; omega))) (.some rfl rfl rfl rfl gbf) rfl rfl rfl ?_
  refine XO_v1 (ev_fieldAddr rfl fld_58_3) (.some rfl rfl rfl rfl gbf) rfl rfl rfl ?_
  refine XO_v1 (ev_load rfl sct_23 (fun hg => by first | exact Cell.imm hbx rfl | exact Sl.get hH.1 hy (j := 2) rfl | exact Sl.get hH.1 hy (j := 3) rfl | (repeat (first | exact Cell.here rfl | apply Cell.there | apply Cell.app)))) (.some rfl rfl rfl rfl gbf) rfl rfl rfl ?_
  refine XO_v1 (ev_lenS rfl slt_23) (.some rfl rfl rfl rfl gbf) rfl rfl rfl ?_
  refine XO_v1 (ev_cmp rfl rfl rfl) (.some rfl rfl rfl rfl gbf) rfl rfl rfl ?_
  refine XO_or0 rfl rfl rfl rfl rfl ?_
  refine zN ?_
  refine X_cond rfl (fun hc38 => ?_) (fun hc38 => ?_)
  ·
   have h2 : cr.ss.any (fun s => decide ((s.who.length : Int) > 80) || decide ((s.needs.length : Int) > 80)) = true := any_yes hs9 (by rw [hWl, hNl]; exact hc38)
   refine zR ?_
   refine zA ?_
   refine zN ?_
   refine X_ret ?_
   refine at_block_r ?_
   refine at_then_r ?_
   refine at_then_r ?_
   refine at_block_r ?_
   refine at_then_r ?_
   first
   | exact at_ret1 rfl rfl (fun w hw => ⟨by unfold fewC; rw [if_neg (by rw [h1]; decide), if_pos h2], (hw.mono hIc).drop⟩)
  refine X_skip ?_
  refine at_block_n ?_
  refine at_then ?_
  refine X_region ?_
  refine zM ?_
  refine zB ?_
  refine zA ?_
  refine XO_nil ?_
  exact at_met2 _ _ ⟨x.n2 - (k + 1), by omega, k + 1, rfl, rfl, rfl, rfl, by omega, any_no hs9 hno (by rw [hWl, hNl]; exact hc38)⟩ (.cons rfl (.cons rfl .nil)) (by repeat (first | exact .refl | exact subL_left | refine subL_app ?_ | refine .drop ?_ | refine subL_add ?_))
 have hge_k : x.n2 ≤ k := by have h := hc18; simp at h; omega
 rw [List.take_of_length_le (by omega)] at hno
 refine X_exit ?_
 refine at_then_e ?_
 refine at_then_e ?_
 refine at_block_hit ?_
 refine at_then ?_
 refine X_seq ?_
 refine zR ?_
 refine XO_v0 (ev_fieldAddr rfl fld_33_0) rfl rfl rfl ?_
 refine XO_v0 (ev_load rfl sct_23 (fun hg => by first | exact Cell.imm hbx rfl | exact Sl.get hH.1 hy (j := 2) rfl | exact Sl.get hH.1 hy (j := 3) rfl | (repeat (first | exact Cell.here rfl | apply Cell.there | apply Cell.app)))) rfl rfl rfl ?_
 refine XO_v0 (ev_lenS rfl slt_23) rfl rfl rfl ?_
 refine zC ?_
 refine zM ?_
 refine XO_pushF 4 rfl rfl rfl ?_
 refine XO_v1 (ev_fieldAddr rfl fld_33_5) (.some rfl rfl rfl rfl gbf) rfl rfl rfl ?_
 refine XO_v1 (ev_load rfl sct_27 (fun hg => by first | exact Cell.imm hbx rfl | exact Sl.get hH.1 hy (j := 2) rfl | exact Sl.get hH.1 hy (j := 3) rfl | (repeat (first | exact Cell.here rfl | apply Cell.there | apply Cell.app)))) (.some rfl rfl rfl rfl gbf) rfl rfl rfl ?_
 refine XO_v1 (ev_lenS rfl slt_27) (.some rfl rfl rfl rfl gbf) rfl rfl rfl ?_
 refine XO_v1 (ev_cmp rfl rfl rfl) (.some rfl rfl rfl rfl gbf) rfl rfl rfl ?_
 refine XO_or0 rfl rfl rfl rfl rfl ?_
 refine zN ?_
 refine X_cond rfl (fun hc48 => ?_) (fun hc48 => ?_)
 ·
  have h3 : (decide ((cr.days.length : Int) > 16) || decide ((cr.ss.length : Int) > 8)) = true := by rw [hlD, hlS]; exact hc48
  refine zR ?_
  refine zA ?_
  refine zN ?_
  refine X_ret ?_
  refine at_then_r ?_
  first
  | exact at_ret1 rfl rfl (fun w hw => ⟨by unfold fewC; rw [if_neg (by rw [h1]; decide), if_neg (by rw [hno]; decide), if_pos h3], (hw.mono hIc).drop⟩)
 have h3 : (decide ((cr.days.length : Int) > 16) || decide ((cr.ss.length : Int) > 8)) = false := by rw [hlD, hlS]; exact hc48
 have hsm3 := h3
 simp at hsm3
 refine X_skip ?_
 refine at_then ?_
 refine zR ?_
 refine XO_v0 (ev_loadA rfl agt_33 (fun hg => by first | exact Cells.immC hbx | (repeat (first | exact Cells.here | exact Cells.s0 (vs := [_, _, _, _, _, _]) rfl | apply Cells.there | apply Cells.app))) rfl) rfl rfl rfl ?_
 refine XO_callV0 (cap := []) (vs := [_]) rfl rfl fun_52 (w_rPlans hC (by omega) (by omega)) rfl rfl ?_
 refine zC ?_
 refine zM ?_
 refine XO_pushF 3 rfl rfl rfl ?_
 refine XO_v1 (ev_loadA rfl agt_33 (fun hg => by first | exact Cells.immC hbx | (repeat (first | exact Cells.here | exact Cells.s0 (vs := [_, _, _, _, _, _]) rfl | apply Cells.there | apply Cells.app))) rfl) (.some rfl rfl rfl rfl gbf) rfl rfl rfl ?_
 refine XO_callV1 (cap := []) (vs := [_]) rfl rfl fun_52 (fun hg => w_rPlans hC (by omega) (by omega)) (.some rfl rfl rfl rfl gbf) rfl rfl ?_
 refine XO_v1 (ev_cmp rfl rfl rfl) (.some rfl rfl rfl rfl gbf) rfl rfl rfl ?_
 refine XO_or0 rfl rfl rfl rfl rfl ?_
 refine zA ?_
 refine zN ?_
 refine X_ret ?_
 first
 | exact at_ret1 rfl rfl (fun w hw => ⟨by unfold fewC; rw [if_neg (by rw [h1]; decide), if_neg (by rw [hno]; decide), if_neg (by rw [h3]; decide)], (hw.mono hIc).drop⟩)
end Go.Proofs.YtehkiccapbkhnaaGreat
end
section
namespace Go.Proofs.YtehkiccapbkhnaaGreat
open Go Go.Kn Go.Proofs
def ssNe (a b : Ses) : Bool := (((a.pa != b.pa) || (a.ef != b.ef)) || !(a.who == b.who)) || !(a.needs == b.needs)
def samS (as' bs : List Ses) : Bool := decide (as'.length = bs.length) && !(as'.zip bs).any fun q => ssNe q.1 q.2
theorem samS_len {xs ys : List Ses} (h : xs.length ≠ ys.length) : samS xs ys = false := by unfold samS; rw [decide_eq_false h]; rfl
theorem samS_bad {xs ys : List Ses} {k : Nat} {x y : Ses} (hx : xs[k]? = some x) (hy : ys[k]? = some y) (h : ssNe x y = true) : samS xs ys = false := by
  unfold samS
  rw [List.any_eq_true.2 ⟨(x, y), zip_mem hx hy, h⟩]; simp
theorem samS_end {xs ys : List Ses} (hl : xs.length = ys.length) (h : ((xs.zip ys).take xs.length).any (fun q => ssNe q.1 q.2) = false) : samS xs ys = true := by
  unfold samS
  rw [List.take_of_length_le (by rw [List.length_zip]; omega)] at h
  rw [h, decide_eq_true hl]; rfl
def samPs (as' bs : List Pr) : Bool := decide (as'.length = bs.length) && samL 20 as' bs
theorem samPs_len {xs ys : List Pr} (h : xs.length ≠ ys.length) : samPs xs ys = false := by unfold samPs; rw [decide_eq_false h]; rfl
/-- Are a store, a target and versions small? -/
def fewS (ps : List Pt) (tg : List Int) (has : List (List Int)) : Bool :=
  if (((decide ((ps.length : Int) > 40) && (decide ((ps.length : Int) ≤ 512) || decide ((ps.length : Int) > 600))) || decide ((tg.length : Int) > 600)) || decide ((has.length : Int) > 20)) = true then false else
  if has.any (fun v => decide ((v.length : Int) > 600)) = true then false else !ps.any fun p => decide ((p.needs.length : Int) > 80)
theorem fewS_bd {ps : List Pt} {tg : List Int} {has : List (List Int)} (h : fewS ps tg has = true) : ps.length ≤ 600 ∧ tg.length ≤ 600 ∧ has.length ≤ 20 ∧ (∀ v ∈ has, v.length ≤ 600) ∧ ∀ p ∈ ps, p.needs.length ≤ 80 := by
  unfold fewS at h
  split at h
  · cases h
  · rename_i h1
    split at h
    · cases h
    · rename_i h2
      simp only [Bool.or_eq_true, Bool.and_eq_true, decide_eq_true_eq, not_or] at h1
      have h2 : has.any (fun v => decide ((v.length : Int) > 600)) = false := by simpa using h2
      have h3 : ps.any (fun p => decide ((p.needs.length : Int) > 80)) = false := by simpa using h
      refine ⟨by omega, by omega, by omega, fun v hv => ?_, fun p hp => ?_⟩
      · have := List.any_eq_false.1 h2 v hv; simp at this; omega
      · have := List.any_eq_false.1 h3 p hp; simp at this; omega
end Go.Proofs.YtehkiccapbkhnaaGreat
namespace Go.Proofs.YtehkiccapbkhnaaGreat
open Go Go.Kn Go.Proofs
theorem samP_bad {f : Nat} {r d w r' d' w' : Int} {ks ks' : List Pr} (h : (((((r != r') || (d != d')) || (w != w')) || ((ks.length : Int) != (ks'.length : Int))) || ((f : Int) == 0)) = true) : samP f (.mk r d w ks) (.mk r' d' w' ks') = false := by
  unfold samP; rw [if_pos h]
theorem samP_good {f : Nat} {r d w r' d' w' : Int} {ks ks' : List Pr} (h : (((((r != r') || (d != d')) || (w != w')) || ((ks.length : Int) != (ks'.length : Int))) || (((f + 1 : Nat) : Int) == 0)) = false) : samP (f + 1) (.mk r d w ks) (.mk r' d' w' ks') = samL f ks ks' := by
  rw [samP, if_neg (by rw [h]; decide)]
end Go.Proofs.YtehkiccapbkhnaaGreat
namespace Go.Proofs.YtehkiccapbkhnaaGreat
open Go Go.Kn Go.Proofs
theorem prsAt_lf {I : HMap} : ∀ (bs : List Br), PrsAt I (bs.map lfH) (bs.map leafP)
  | [] => trivial
  | b :: bs => ⟨PrAt.leaf b, prsAt_lf bs⟩
theorem sml_lf (bs : List Br) : ∀ p ∈ bs.map leafP, smlP p := fun p hp => by
  obtain ⟨b, _, rfl⟩ := List.mem_map.1 hp
  unfold leafP smlP smlL; exact ⟨by simp, trivial⟩
end Go.Proofs.YtehkiccapbkhnaaGreat
end
